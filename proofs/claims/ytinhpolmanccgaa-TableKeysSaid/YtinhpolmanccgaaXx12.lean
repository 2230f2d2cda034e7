-- written by a program of this session's, over the kit's print
import Derived.Test.YtinhpolmanccgaaXx0
import Derived.Test.YtinhpolmanccgaaXx11
namespace Go.Proofs.Ytinhpolmanccgaa.X
open Go.RowKit Go.Proofs.YtinhpolmanccgaaW.PrintWords Go.Proofs.YtinhpolmanccgaaW.PrintLast Go.Proofs.YtinhpolmanccgaaW.PrintMore
attribute [local go_sem] max2_int min2_int max_two min_two max_three min_three max_four min_four gtr_str   -- for this text's walks alone
set_option linter.unusedVariables false
set_option linter.unusedSimpArgs false

/-! ### shardlogref08_Put1: function 28 -/
mutual
def shardlogref08_Put1.l0 : Nat → List (S42) → Int → ByteArray → ByteArray → Int → ByteArray → Bool → Option ((List (S42)))
 | 0, _, _, _, _, _, _, _ => none
 | k + 1, x0, x5, x508000, x508001, x508002, x508003, x508004 => if x5 < (x0.length : Int) then (if 0 ≤ x5 then ((shardlogref08_Compare.f k ((rd_T42 x0 x5).f0) ((rd_T42 x0 x5).f1) ((rd_T42 x0 x5).f2) ((rd_T42 x0 x5).f3) ((rd_T42 x0 x5).f4) x508000 x508001 x508002 x508003 x508004).bind fun t509 => (shardlogref08_Put1.j1 k x0 x5 (t509 == (-1)) x508000 x508001 x508002 x508003 x508004)) else (none)) else (shardlogref08_Put1.j1 k x0 x5 false x508000 x508001 x508002 x508003 x508004)
def shardlogref08_Put1.j1 : Nat → List (S42) → Int → Bool → ByteArray → ByteArray → Int → ByteArray → Bool → Option ((List (S42)))
 | 0, _, _, _, _, _, _, _, _ => none
 | k + 1, x0, x5, x19, x508000, x508001, x508002, x508003, x508004 => if x19 = true then (shardlogref08_Put1.l0 k x0 (wrap64 (x5 + 1)) x508000 x508001 x508002 x508003 x508004) else (if 0 ≤ x5 then (if x5 ≤ (x0.length : Int) then ((some (x0.drop (x5 : Int).toNat : List (S42))).bind fun y510 => (if x5 < (x0.length : Int) then ((shardlogref08_Compare.f k ((rd_T42 x0 x5).f0) ((rd_T42 x0 x5).f1) ((rd_T42 x0 x5).f2) ((rd_T42 x0 x5).f3) ((rd_T42 x0 x5).f4) x508000 x508001 x508002 x508003 x508004).bind fun t515 => (shardlogref08_Put1.j2 k x0 x5 y510 (t515 == 0) x508000 x508001 x508002 x508003 x508004)) else (shardlogref08_Put1.j2 k x0 x5 y510 false x508000 x508001 x508002 x508003 x508004))) else (none)) else (none))
def shardlogref08_Put1.j2 : Nat → List (S42) → Int → List (S42) → Bool → ByteArray → ByteArray → Int → ByteArray → Bool → Option ((List (S42)))
 | 0, _, _, _, _, _, _, _, _, _ => none
 | k + 1, x0, x5, x6, x37, x508000, x508001, x508002, x508003, x508004 => if x37 = true then (if 0 ≤ (wrap64 (x5 + 1)) then (if (wrap64 (x5 + 1)) ≤ (x0.length : Int) then ((some (x0.drop ((wrap64 (x5 + 1)) : Int).toNat : List (S42))).bind fun y516 => ((some (([] : List (S42)) : List (S42))).bind fun y520 => (if 0 ≤ x5 then (if x5 ≤ (x0.length : Int) then ((some (x0.take (x5 : Int).toNat : List (S42))).bind fun y523 => (if y520.length + y523.length < 2199023255552 then ((some (y520 ++ y523 : List (S42))).bind fun y527 => ((some (([(⟨x508000, x508001, x508002, x508003, x508004⟩ : S42)] : List (S42)) : List (S42))).bind fun y530 => (if y527.length + y530.length < 2199023255552 then ((some (y527 ++ y530 : List (S42))).bind fun y533 => (if y533.length + y516.length < 2199023255552 then (some (y533 ++ y516)) else (none))) else (none)))) else (none))) else (none)) else (none)))) else (none)) else (none)) else ((some (([] : List (S42)) : List (S42))).bind fun y539 => (if 0 ≤ x5 then (if x5 ≤ (x0.length : Int) then ((some (x0.take (x5 : Int).toNat : List (S42))).bind fun y542 => (if y539.length + y542.length < 2199023255552 then ((some (y539 ++ y542 : List (S42))).bind fun y546 => ((some (([(⟨x508000, x508001, x508002, x508003, x508004⟩ : S42)] : List (S42)) : List (S42))).bind fun y549 => (if y546.length + y549.length < 2199023255552 then ((some (y546 ++ y549 : List (S42))).bind fun y552 => (if y552.length + x6.length < 2199023255552 then (some (y552 ++ x6)) else (none))) else (none)))) else (none))) else (none)) else (none)))
end
def shardlogref08_Put1.f (k : Nat) (l0 : List (S42)) (a1_0 : ByteArray) (a1_1 : ByteArray) (a1_2 : Int) (a1_3 : ByteArray) (a1_4 : Bool) : Option ((List (S42))) := shardlogref08_Put1.l0 k l0 0 a1_0 a1_1 a1_2 a1_3 a1_4
theorem shardlogref08_Put1.mono_l : ∀ k, (∀ y0 y1 y2 y3 y4 y5 y6, LeO (shardlogref08_Put1.l0 k y0 y1 y2 y3 y4 y5 y6) (shardlogref08_Put1.l0 (k + 1) y0 y1 y2 y3 y4 y5 y6)) ∧ (∀ y0 y1 y2 y3 y4 y5 y6 y7, LeO (shardlogref08_Put1.j1 k y0 y1 y2 y3 y4 y5 y6 y7) (shardlogref08_Put1.j1 (k + 1) y0 y1 y2 y3 y4 y5 y6 y7)) ∧ (∀ y0 y1 y2 y3 y4 y5 y6 y7 y8, LeO (shardlogref08_Put1.j2 k y0 y1 y2 y3 y4 y5 y6 y7 y8) (shardlogref08_Put1.j2 (k + 1) y0 y1 y2 y3 y4 y5 y6 y7 y8))
 | 0 => ⟨fun _ _ _ _ _ _ _ r h => by simp [shardlogref08_Put1.l0] at h, fun _ _ _ _ _ _ _ _ r h => by simp [shardlogref08_Put1.j1] at h, fun _ _ _ _ _ _ _ _ _ r h => by simp [shardlogref08_Put1.j2] at h⟩
 | k + 1 => by
  obtain ⟨ih0, ih1, ih2⟩ := shardlogref08_Put1.mono_l k; refine ⟨?_, ?_, ?_⟩
  ·
   intro y0 y1 y2 y3 y4 y5 y6
   unfold shardlogref08_Put1.l0
   have m0 := @shardlogref08_Compare.mono; exact lmo
  ·
   intro y0 y1 y2 y3 y4 y5 y6 y7
   unfold shardlogref08_Put1.j1
   have m0 := @shardlogref08_Compare.mono; exact lmo
  ·
   intro y0 y1 y2 y3 y4 y5 y6 y7 y8
   unfold shardlogref08_Put1.j2
   have m0 := @shardlogref08_Compare.mono; exact lmo
theorem shardlogref08_Put1.mono : ∀ a0 a1 a2 a3 a4 a5 k, LeO (shardlogref08_Put1.f k a0 a1 a2 a3 a4 a5) (shardlogref08_Put1.f (k + 1) a0 a1 a2 a3 a4 a5) := by
 intro a0 a1 a2 a3 a4 a5 k
 obtain ⟨ih0, ih1, ih2⟩ := shardlogref08_Put1.mono_l k
 unfold shardlogref08_Put1.f
 have m0 := @shardlogref08_Compare.mono; exact lmo
def shardlogref08_Put1.T2 : Bool × List (List Nat × List Nat) := (true, [([], []), ([], []), ([1], [1]), ([0, 2], [0, 2]), ([3], [3]), ([4], [4]), ([4], [4]), ([5, 6, 4], [4, 5, 6]), ([7, 4], [4, 7]), ([4], [4]), ([8, 9, 4, 4], [4, 8, 9]), ([10, 4], [4, 10]), ([4, 11], [4, 11])])
def shardlogref08_Put1.B2 : List Nat := [0, 0, 2, 7, 15, 31, 31, 127, 255, 31, 1023, 2047, 4095]
theorem shardlogref08_Put1.tab2 : rtab .any (opsOf Try.f28 2) = shardlogref08_Put1.T2 := by kernel_rfl
theorem shardlogref08_Put1.bits2 : waitsOk shardlogref08_Put1.T2.2 shardlogref08_Put1.B2 = true := by kernel_rfl
def shardlogref08_Put1.T5 : Bool × List (List Nat × List Nat) := (true, [([], []), ([], []), ([1], [1]), ([0, 2], [0, 2]), ([3], [3]), ([4], [4]), ([4], [4]), ([5, 6, 4], [4, 5, 6]), ([7, 4], [4, 7]), ([4], [4]), ([8, 9, 4, 4], [4, 8, 9]), ([10, 4], [4, 10]), ([4, 11], [4, 11])])
def shardlogref08_Put1.B5 : List Nat := [0, 0, 2, 7, 15, 31, 31, 127, 255, 31, 1023, 2047, 4095]
theorem shardlogref08_Put1.tab5 : rtab .any (opsOf Try.f28 5) = shardlogref08_Put1.T5 := by kernel_rfl
theorem shardlogref08_Put1.bits5 : waitsOk shardlogref08_Put1.T5.2 shardlogref08_Put1.B5 = true := by kernel_rfl
def shardlogref08_Put1.T7 : Bool × List (List Nat × List Nat) := (true, [([], []), ([], []), ([], []), ([1, 2], [1, 2]), ([0, 3], [0, 3]), ([], []), ([5], [5]), ([4, 6, 4], [4, 6]), ([], []), ([7, 8, 7], [7, 8]), ([9, 9, 0, 1, 2, 3, 4, 5, 6, 7, 8, 9], [9])])
def shardlogref08_Put1.B7 : List Nat := [0, 0, 0, 6, 15, 0, 32, 127, 0, 511, 1023]
theorem shardlogref08_Put1.tab7 : rtab .any (opsOf Try.f28 7) = shardlogref08_Put1.T7 := by kernel_rfl
theorem shardlogref08_Put1.bits7 : waitsOk shardlogref08_Put1.T7.2 shardlogref08_Put1.B7 = true := by kernel_rfl
set_option maxHeartbeats 8000000 in
set_option maxRecDepth 100000 in
theorem shardlogref08_Put1.calls (k : Nat) (A0 : Option Addr) (c0 : Nat) (l0 : List (S42)) (a1_0 : ByteArray) (a1_1 : ByteArray) (a1_2 : Int) (a1_3 : ByteArray) (a1_4 : Bool) (r : List (S42)) (w : World) (hr0 : Kd.C k42 w A0 l0.length l0) (hc0 : l0.length ≤ c0) (h : shardlogref08_Put1.f k l0 a1_0 a1_1 a1_2 a1_3 a1_4 = some r) :
  Calls Try.prog 28 #[.slice A0 l0.length c0, .agg #[.string a1_0, .string a1_1, .int .i64 a1_2, .string a1_3, .bool a1_4]] w fun e w' => ∃ v0_ : Value, e = .returned (v0_) ∧ Kd.R k42 42 w' w.heap.size (fun _ => True) v0_ r ∧ Below w.heap.size w w' := by
 have hu42 := Try.underlying42; have HR0 := aS hr0; have HC0 := aS hc0; clear hr0 hc0; have HB := aS (Below.refl w.heap.size w); have H : (shardlogref08_Put1.l0 k l0 0 a1_0 a1_1 a1_2 a1_3 a1_4) = some r := h; clear h
 have H' := aS H
 clear H
 go_enter Try.func28, Try.ntmps28
 go_wp2_with (first | ((with_reducible refine gate_dst (N := 3) rfl ?_); refine box_event ?hg (N := 3) ?hd (cs := #[.string a1_0, .string a1_1, .int .i64 a1_2, .string a1_3, .bool a1_4]) (t := 42) ?hr ?_; (case hd => rfl); (case hg => rfl); (case hr => first | (go_simp; done) | (go_simp; rfl)); intro gb507 hg w3 hbox hb; have BK507 := aS (hbox); have GW507 := bsize hg; have GE507 := bsize hg; replace HB := bstep hb; clear hb hbox hg))
 go_loopg [5] k (fun kq v5 w' => ∃ (x5_1 : Int), v5 = .int .i64 x5_1 ∧ Aside0 (shardlogref08_Put1.l0 kq l0 x5_1 a1_0 a1_1 a1_2 a1_3 a1_4 = some r) ∧ Aside0 (kq ≤ k) ∧ Aside0 (w'.heap[gb507]? = some (.cells #[.string a1_0, .string a1_1, .int .i64 a1_2, .string a1_3, .bool a1_4] 42 (0, 0))) ∧ Aside0 (Below w.heap.size w w'))
 case atStart => exact ⟨(0), srf, H', ⟨Nat.le_refl _⟩, ⟨bkl BK507.out⟩, ⟨bel⟩⟩
 case round =>
  clear H'; obtain ⟨x5_1, rfl, HA, HK1, BK507, HB⟩ := hrel
  cases gk with
  | zero => exact absurd HA.out (by simp [shardlogref08_Put1.l0])
  | succ k1 =>
   have H := HA.out; clear HA
   simp only [shardlogref08_Put1.l0] at H
   have HC4 := aS H; clear H
   go_upto_region 2 with (fail)
   go_cut [19] (fun v19 wc => ∃ (kq : Nat) (x19_3 : Bool), v19 = .bool x19_3 ∧ Aside0 (shardlogref08_Put1.j1 kq l0 x5_1 x19_3 a1_0 a1_1 a1_2 a1_3 a1_4 = some r) ∧ Aside0 (kq ≤ k1) ∧ Aside0 (wc.heap[gb507]? = some (.cells #[.string a1_0, .string a1_1, .int .i64 a1_2, .string a1_3, .bool a1_4] 42 (0, 0))) ∧ Aside0 (Below w.heap.size w wc))
   case first =>
    have H := HC4.out; clear HC4
    by_cases c5 : x5_1 < (l0.length : Int)
    ·
     rw [if_pos c5] at H; have c5b0 : decide (x5_1 < (l0.length : Int)) = true := decide_eq_true c5; clear c5
     (first | rw [c5b0] | (simp only [i64_w, i32_w]; rw [c5b0]) | skip)
     by_cases c6 : 0 ≤ x5_1
     ·
      rw [if_pos c6] at H; have c6b0 : decide (0 ≤ x5_1) = true := decide_eq_true c6; clear c6; replace H := obm H; obtain ⟨t509, A70, H⟩ := H; have A7 := aS A70; clear A70
      have H' := aS H
      clear H
      try go_wp2
      replace BK507 := aS (blk_drew BK507.out); replace HB := aS (bdo HB.out); have p508 : 0 ≤ (x5_1 : Int) := oda; have q508 : x5_1 < (l0.length : Int) := oda; obtain ⟨ad508, e508, hx508_0, hx508_1, hx508_2, hx508_3, hx508_4⟩ := at_T42 HR0.out x5_1 p508 q508; have hw508_4 := hx508_4; have hw508_3 := hx508_3; have hw508_2 := hx508_2; have hw508_1 := hx508_1; have hw508_0 := hx508_0; cases e508; replace hx508_0 := bx bel hx508_0; replace hx508_1 := bx bel hx508_1; replace hx508_2 := bx bel hx508_2; replace hx508_3 := bx bel hx508_3; replace hx508_4 := bx bel hx508_4; replace p508 := eq_true p508; replace q508 := eq_true q508; refine start_ (n := 13) (S := fun w' => w'.cell? ⟨gb507, 0, none⟩ = some (.string a1_0) ∧ w'.cell? ⟨gb507, 1, none⟩ = some (.string a1_1) ∧ w'.cell? ⟨gb507, 2, none⟩ = some (.int .i64 a1_2) ∧ w'.cell? ⟨gb507, 3, none⟩ = some (.string a1_3) ∧ w'.cell? ⟨gb507, 4, none⟩ = some (.bool a1_4) ∧ w'.cell? (ad508.add ((x5_1).toNat * 5)) = some (.string ((rd_T42 l0 x5_1).f0)) ∧ w'.cell? ⟨(ad508.add ((x5_1).toNat * 5)).block, (ad508.add ((x5_1).toNat * 5)).off + 1, none⟩ = some (.string ((rd_T42 l0 x5_1).f1)) ∧ w'.cell? ⟨(ad508.add ((x5_1).toNat * 5)).block, (ad508.add ((x5_1).toNat * 5)).off + 2, none⟩ = some (.int .i64 ((rd_T42 l0 x5_1).f2)) ∧ w'.cell? ⟨(ad508.add ((x5_1).toNat * 5)).block, (ad508.add ((x5_1).toNat * 5)).off + 3, none⟩ = some (.string ((rd_T42 l0 x5_1).f3)) ∧ w'.cell? ⟨(ad508.add ((x5_1).toNat * 5)).block, (ad508.add ((x5_1).toNat * 5)).off + 4, none⟩ = some (.bool ((rd_T42 l0 x5_1).f4))) (ds := []) (bA 13 0) (by kernel_rfl) rfl rfl ⟨bc BK507 0, bc BK507 1, bc BK507 2, bc BK507 3, bc BK507 4, (bx bel hw508_0), (bx bel hw508_1), (bx bel hw508_2), (bx bel hw508_3), (bx bel hw508_4)⟩ (fun hHeld => ?_); refine with_tabW shardlogref08_Put1.tab2 shardlogref08_Put1.bits2 (fun HT_ HW_ => ?_)
      generalize wr.drew = w8 at BK507 HB hx508_0 hx508_1 hx508_2 hx508_3 hx508_4 hHeld ⊢
      refine along_ [(0, 7), (1, 8), (2, 9), (3, 10), (4, 11), (5, 12), (6, 13), (7, 14), (8, 15), (9, 16)] ?_
      iterate 10 (first | (refine pure3 HT_ ?_) | (refine take3 HT_ HW_ hHeld ?_))
      refine lay_ (bA 13 1023) (by kernel_rfl) ?_; refine one3 10 (N := some 17) (bA 13 2047) HT_ (fun K hK => ?_); refine goes_ Try.func32 (by kernel_rfl) rfl #[.agg #[.string ((rd_T42 l0 x5_1).f0), .string ((rd_T42 l0 x5_1).f1), .int .i64 ((rd_T42 l0 x5_1).f2), .string ((rd_T42 l0 x5_1).f3), .bool ((rd_T42 l0 x5_1).f4)], .agg #[.string a1_0, .string a1_1, .int .i64 a1_2, .string a1_3, .bool a1_4]] (by rfl) rfl rfl agn ?_
      with_reducible refine (shardlogref08_Compare.calls k1 ((rd_T42 l0 x5_1).f0) ((rd_T42 l0 x5_1).f1) ((rd_T42 l0 x5_1).f2) ((rd_T42 l0 x5_1).f3) ((rd_T42 l0 x5_1).f4) a1_0 a1_1 a1_2 a1_3 a1_4 t509 _ A7.out).mono ?_
      rintro e w9 ⟨rfl, hb⟩
      refine ⟨_, rfl, ?_⟩; replace BK507 := bbl BK507 hb; replace HB := bstep hb; (try clear hb); (try clear hk); (try clear hi); refine hK.out _ _ ⟨bc BK507 0, bc BK507 1, bc BK507 2, bc BK507 3, bc BK507 4, (bx bel hw508_0), (bx bel hw508_1), (bx bel hw508_2), (bx bel hw508_3), (bx bel hw508_4)⟩ (fun hHeld => ?_); clear hK K; refine nm 17 ?_; refine along_ [(11, 18), (12, 19)] ?_
      iterate 2 (refine pure3 HT_ ?_)
      refine lay_ (bA 13 8191) (by kernel_rfl) ?_; refine done_ (done_of HT_.out (by kernel_rfl)) ?_
      try go_wp2
      go_meet
      case rel => exact ⟨_, ((t509 == (-1))), srf, H', ⟨by have := HK1.out; first | omega | exact Nat.le_refl _⟩, ⟨bkl BK507.out⟩, ⟨bel⟩⟩
     ·
      rw [if_neg c6] at H; exact absurd H (by simp)
    ·
     rw [if_neg c5] at H; have c5b0 : decide (x5_1 < (l0.length : Int)) = false := decide_eq_false c5; clear c5
     (first | rw [c5b0] | (simp only [i64_w, i32_w]; rw [c5b0]) | skip)
     have H' := aS H
     clear H
     try go_wp2
     replace BK507 := aS (blk_drew BK507.out); replace HB := aS (bdo HB.out); refine start_ (n := 13) (S := fun w' => True) (ds := []) (bA 13 0) (by kernel_rfl) rfl rfl trivial (fun hHeld => ?_); refine with_tabW shardlogref08_Put1.tab2 shardlogref08_Put1.bits2 (fun HT_ HW_ => ?_)
     generalize wr.drew = w10 at BK507 HB hHeld ⊢
     refine along_ [(0, 7), (1, 8), (2, 9), (3, 10), (4, 11), (5, 12), (6, 13), (7, 14), (8, 15), (9, 16), (10, 17), (11, 18), (12, 19)] ?_
     iterate 13 (first | (refine skip3 HT_ ?_) | (refine pure3 HT_ ?_))
     refine lay_ (bA 13 8191) (by kernel_rfl) ?_; refine done_ (done_of HT_.out (by kernel_rfl)) ?_
     try go_wp2
     go_meet
     case rel => exact ⟨_, (false), srf, H', ⟨by have := HK1.out; first | omega | exact Nat.le_refl _⟩, ⟨bkl BK507.out⟩, ⟨bel⟩⟩
   case rest =>
    clear HC4; obtain ⟨kq, x19_3, rfl, HA, HJ3, BK507, HB⟩ := hcut
    cases kq with
    | zero => exact absurd HA.out (by simp [shardlogref08_Put1.j1])
    | succ kj3 =>
     have H := HA.out; clear HA
     simp only [shardlogref08_Put1.j1] at H
     by_cases c11 : x19_3 = true
     ·
      subst c11
      replace H := ifT H
      have H' := aS H
      clear H
      go_wp2
      go_roundg kj3
      case measure => have := HK1.out; have := HJ3.out; omega
      case rel => exact ⟨(wrap64 (x5_1 + 1)), srf, H', ⟨by have := HK1.out; have := HJ3.out; omega⟩, ⟨bkl BK507.out⟩, ⟨bel⟩⟩
     ·
      replace c11 := Bool.eq_false_iff.mpr c11; subst c11
      replace H := ifF H
      by_cases c12 : 0 ≤ x5_1
      ·
       rw [if_pos c12] at H; have c12b0 := eq_true c12; have c12b1 : decide (0 ≤ x5_1) = true := decide_eq_true c12; clear c12
       by_cases c13 : x5_1 ≤ (l0.length : Int)
       ·
        rw [if_pos c13] at H; have c13b0 := eq_true c13; have c13b1 : decide (x5_1 ≤ (l0.length : Int)) = true := decide_eq_true c13; clear c13
        obtain ⟨y510, hy510⟩ : ∃ y_ : List (S42), y_ = (l0.drop (x5_1 : Int).toNat) := ⟨_, rfl⟩
        (first | replace H := hyn hy510 H | rw [← hy510] at H); have Ny510 := aS hy510; clear hy510; have HC14 := aS H; clear H; have q15 : (x5_1 : Int) ≤ ((l0.length : Int) : Int) := oda; obtain ⟨i015, hi015, _, hsz15, _⟩ := info_parts info42; have hroom15 : l0.length ≤ c0 := HC0.out; have hC15 : Kd.C k42 _ A0 l0.length l0 := HR0.out; have q015 : (0 : Int) ≤ (x5_1 : Int) := oda; have hcut15 := cut_from (P := Try.prog) 22 42 .i64 Try.underlying22 hi015 5 hsz15 A0 l0.length c0 x5_1 q015 q15; have hr15 := Kd.C_drop (m := (x5_1 : Int).toNat) (c := c0) hC15 (by omega) hroom15
        obtain ⟨A15, hA15⟩ : ∃ A1_, A1_ = (if c0 = (x5_1 : Int).toNat then A0 else (A0 : Option Addr).map (·.add ((x5_1 : Int).toNat * 5))) := ⟨_, rfl⟩
        obtain ⟨c15, hc15⟩ : ∃ c1_, c1_ = c0 - (x5_1 : Int).toNat := ⟨_, rfl⟩
        have hy15 : y510.length = l0.length - (x5_1 : Int).toNat := (by rw [Ny510.out, lld] <;> omega); rw [show (l0).drop (x5_1 : Int).toNat = y510 from Ny510.out.symm] at hr15; replace hr15 : Kd.C k42 _ A15 y510.length y510 := (by rw [hA15]; exact hr15); rw [← hy15, ← hA15, ← hc15] at hcut15; have HR513 := aS hr15; have HC513 := aS (show y510.length ≤ c15 from by rw [hy15, hc15]; exact Nat.sub_le_sub_right hroom15 _); clear hr15 hC15 hroom15 hi015 hsz15 hc15; have KY15 := aS hy15; have KA15 := aS hA15; clear hy15 hA15; replace q15 := eq_true q15
        go_upto_region 5 with (fail)
        go_cut [37] (fun v37 wc => ∃ (kq : Nat) (x37_13 : Bool), v37 = .bool x37_13 ∧ Aside0 (shardlogref08_Put1.j2 kq l0 x5_1 y510 x37_13 a1_0 a1_1 a1_2 a1_3 a1_4 = some r) ∧ Aside0 (kq ≤ kj3) ∧ Aside0 (wc.heap[gb507]? = some (.cells #[.string a1_0, .string a1_1, .int .i64 a1_2, .string a1_3, .bool a1_4] 42 (0, 0))) ∧ Aside0 (Below w.heap.size w wc))
        case first =>
         have H := HC14.out; clear HC14
         by_cases c16 : x5_1 < (l0.length : Int)
         ·
          rw [if_pos c16] at H; have c16b0 : decide (x5_1 < (l0.length : Int)) = true := decide_eq_true c16; clear c16
          (first | rw [c16b0] | (simp only [i64_w, i32_w]; rw [c16b0]) | skip)
          replace H := obm H; obtain ⟨t515, A170, H⟩ := H; have A17 := aS A170; clear A170
          have H' := aS H
          clear H
          try go_wp2
          replace BK507 := aS (blk_drew BK507.out); replace HB := aS (bdo HB.out); have p514 : 0 ≤ (x5_1 : Int) := oda; have q514 : x5_1 < (l0.length : Int) := oda; obtain ⟨ad514, e514, hx514_0, hx514_1, hx514_2, hx514_3, hx514_4⟩ := at_T42 HR0.out x5_1 p514 q514; have hw514_4 := hx514_4; have hw514_3 := hx514_3; have hw514_2 := hx514_2; have hw514_1 := hx514_1; have hw514_0 := hx514_0; cases e514; replace hx514_0 := bx bel hx514_0; replace hx514_1 := bx bel hx514_1; replace hx514_2 := bx bel hx514_2; replace hx514_3 := bx bel hx514_3; replace hx514_4 := bx bel hx514_4; replace p514 := eq_true p514; replace q514 := eq_true q514; refine start_ (n := 13) (S := fun w' => w'.cell? ⟨gb507, 0, none⟩ = some (.string a1_0) ∧ w'.cell? ⟨gb507, 1, none⟩ = some (.string a1_1) ∧ w'.cell? ⟨gb507, 2, none⟩ = some (.int .i64 a1_2) ∧ w'.cell? ⟨gb507, 3, none⟩ = some (.string a1_3) ∧ w'.cell? ⟨gb507, 4, none⟩ = some (.bool a1_4) ∧ w'.cell? (ad514.add ((x5_1).toNat * 5)) = some (.string ((rd_T42 l0 x5_1).f0)) ∧ w'.cell? ⟨(ad514.add ((x5_1).toNat * 5)).block, (ad514.add ((x5_1).toNat * 5)).off + 1, none⟩ = some (.string ((rd_T42 l0 x5_1).f1)) ∧ w'.cell? ⟨(ad514.add ((x5_1).toNat * 5)).block, (ad514.add ((x5_1).toNat * 5)).off + 2, none⟩ = some (.int .i64 ((rd_T42 l0 x5_1).f2)) ∧ w'.cell? ⟨(ad514.add ((x5_1).toNat * 5)).block, (ad514.add ((x5_1).toNat * 5)).off + 3, none⟩ = some (.string ((rd_T42 l0 x5_1).f3)) ∧ w'.cell? ⟨(ad514.add ((x5_1).toNat * 5)).block, (ad514.add ((x5_1).toNat * 5)).off + 4, none⟩ = some (.bool ((rd_T42 l0 x5_1).f4))) (ds := []) (bA 13 0) (by kernel_rfl) rfl rfl ⟨bc BK507 0, bc BK507 1, bc BK507 2, bc BK507 3, bc BK507 4, (bx bel hw514_0), (bx bel hw514_1), (bx bel hw514_2), (bx bel hw514_3), (bx bel hw514_4)⟩ (fun hHeld => ?_); refine with_tabW shardlogref08_Put1.tab5 shardlogref08_Put1.bits5 (fun HT_ HW_ => ?_)
          generalize wc.drew = w18 at BK507 HB hx514_0 hx514_1 hx514_2 hx514_3 hx514_4 hHeld ⊢
          refine along_ [(0, 25), (1, 26), (2, 27), (3, 28), (4, 29), (5, 30), (6, 31), (7, 32), (8, 33), (9, 34)] ?_
          iterate 10 (first | (refine pure3 HT_ ?_) | (refine take3 HT_ HW_ hHeld ?_))
          refine lay_ (bA 13 1023) (by kernel_rfl) ?_; refine one3 10 (N := some 35) (bA 13 2047) HT_ (fun K hK => ?_); refine goes_ Try.func32 (by kernel_rfl) rfl #[.agg #[.string ((rd_T42 l0 x5_1).f0), .string ((rd_T42 l0 x5_1).f1), .int .i64 ((rd_T42 l0 x5_1).f2), .string ((rd_T42 l0 x5_1).f3), .bool ((rd_T42 l0 x5_1).f4)], .agg #[.string a1_0, .string a1_1, .int .i64 a1_2, .string a1_3, .bool a1_4]] (by rfl) rfl rfl agn ?_
          with_reducible refine (shardlogref08_Compare.calls kj3 ((rd_T42 l0 x5_1).f0) ((rd_T42 l0 x5_1).f1) ((rd_T42 l0 x5_1).f2) ((rd_T42 l0 x5_1).f3) ((rd_T42 l0 x5_1).f4) a1_0 a1_1 a1_2 a1_3 a1_4 t515 _ A17.out).mono ?_
          rintro e w19 ⟨rfl, hb⟩
          refine ⟨_, rfl, ?_⟩; replace BK507 := bbl BK507 hb; replace HB := bstep hb; (try clear hb); (try clear hk); (try clear hi); refine hK.out _ _ ⟨bc BK507 0, bc BK507 1, bc BK507 2, bc BK507 3, bc BK507 4, (bx bel hw514_0), (bx bel hw514_1), (bx bel hw514_2), (bx bel hw514_3), (bx bel hw514_4)⟩ (fun hHeld => ?_); clear hK K; refine nm 35 ?_; refine along_ [(11, 36), (12, 37)] ?_
          iterate 2 (refine pure3 HT_ ?_)
          refine lay_ (bA 13 8191) (by kernel_rfl) ?_; refine done_ (done_of HT_.out (by kernel_rfl)) ?_
          try go_wp2
          go_meet
          case rel => exact ⟨_, ((t515 == 0)), srf, H', ⟨by have := HK1.out; have := HJ3.out; first | omega | exact Nat.le_refl _⟩, ⟨bkl BK507.out⟩, ⟨bel⟩⟩
         ·
          rw [if_neg c16] at H; have c16b0 : decide (x5_1 < (l0.length : Int)) = false := decide_eq_false c16; clear c16
          (first | rw [c16b0] | (simp only [i64_w, i32_w]; rw [c16b0]) | skip)
          have H' := aS H
          clear H
          try go_wp2
          replace BK507 := aS (blk_drew BK507.out); replace HB := aS (bdo HB.out); refine start_ (n := 13) (S := fun w' => True) (ds := []) (bA 13 0) (by kernel_rfl) rfl rfl trivial (fun hHeld => ?_); refine with_tabW shardlogref08_Put1.tab5 shardlogref08_Put1.bits5 (fun HT_ HW_ => ?_)
          generalize wc.drew = w20 at BK507 HB hHeld ⊢
          refine along_ [(0, 25), (1, 26), (2, 27), (3, 28), (4, 29), (5, 30), (6, 31), (7, 32), (8, 33), (9, 34), (10, 35), (11, 36), (12, 37)] ?_
          iterate 13 (first | (refine skip3 HT_ ?_) | (refine pure3 HT_ ?_))
          refine lay_ (bA 13 8191) (by kernel_rfl) ?_; refine done_ (done_of HT_.out (by kernel_rfl)) ?_
          try go_wp2
          go_meet
          case rel => exact ⟨_, (false), srf, H', ⟨by have := HK1.out; have := HJ3.out; first | omega | exact Nat.le_refl _⟩, ⟨bkl BK507.out⟩, ⟨bel⟩⟩
        case rest =>
         clear HC14; (try clear c11); (try clear c12); (try clear c12b0); (try clear c12b1); (try clear c13); (try clear c13b0); (try clear c13b1); (try clear c15); (try clear q15); (try clear q015); obtain ⟨kq, x37_13, rfl, HA, HJ13, BK507, HB⟩ := hcut
         cases kq with
         | zero => exact absurd HA.out (by simp [shardlogref08_Put1.j2])
         | succ kj13 =>
          have H := HA.out; clear HA
          simp only [shardlogref08_Put1.j2] at H
          by_cases c21 : x37_13 = true
          ·
           subst c21
           replace H := ifT H
           obtain ⟨ji22, hji22⟩ : ∃ j_ : Int, (wrap64 (x5_1 + 1)) = j_ := ⟨_, rfl⟩
           replace H : (if 0 ≤ (ji22) then (if (ji22) ≤ (l0.length : Int) then ((some (l0.drop ((ji22) : Int).toNat : List (S42))).bind fun y516 => ((some (([] : List (S42)) : List (S42))).bind fun y520 => (if 0 ≤ x5_1 then (if x5_1 ≤ (l0.length : Int) then ((some (l0.take (x5_1 : Int).toNat : List (S42))).bind fun y523 => (if y520.length + y523.length < 2199023255552 then ((some (y520 ++ y523 : List (S42))).bind fun y527 => ((some (([(⟨a1_0, a1_1, a1_2, a1_3, a1_4⟩ : S42)] : List (S42)) : List (S42))).bind fun y530 => (if y527.length + y530.length < 2199023255552 then ((some (y527 ++ y530 : List (S42))).bind fun y533 => (if y533.length + y516.length < 2199023255552 then (some (y533 ++ y516)) else (none))) else (none)))) else (none))) else (none)) else (none)))) else (none)) else (none)) = some r := by first | (rw [hji22] at H; exact H) | (simp only [hji22] at H ⊢; exact H)
           have hji22w : (IntKind.i64.wrap (x5_1 + 1)) = ji22 := (i64_w _).trans hji22
           by_cases c23 : 0 ≤ (ji22)
           ·
            rw [if_pos c23] at H; have c23b0 := eq_true c23; have c23b1 : decide (0 ≤ (ji22)) = true := decide_eq_true c23; clear c23
            by_cases c24 : (ji22) ≤ (l0.length : Int)
            ·
             rw [if_pos c24] at H; have c24b0 := eq_true c24; have c24b1 : decide ((ji22) ≤ (l0.length : Int)) = true := decide_eq_true c24; clear c24
             obtain ⟨y516, hy516⟩ : ∃ y_ : List (S42), y_ = (l0.drop ((ji22) : Int).toNat) := ⟨_, rfl⟩
             (first | replace H := hyn hy516 H | rw [← hy516] at H); have Ny516 := aS hy516; clear hy516
             obtain ⟨y520, hy520⟩ : ∃ y_ : List (S42), y_ = (([] : List (S42))) := ⟨_, rfl⟩
             replace H : (if 0 ≤ x5_1 then (if x5_1 ≤ (l0.length : Int) then ((some (l0.take (x5_1 : Int).toNat : List (S42))).bind fun y523 => (if y520.length + y523.length < 2199023255552 then ((some (y520 ++ y523 : List (S42))).bind fun y527 => ((some (([(⟨a1_0, a1_1, a1_2, a1_3, a1_4⟩ : S42)] : List (S42)) : List (S42))).bind fun y530 => (if y527.length + y530.length < 2199023255552 then ((some (y527 ++ y530 : List (S42))).bind fun y533 => (if y533.length + y516.length < 2199023255552 then (some (y533 ++ y516)) else (none))) else (none)))) else (none))) else (none)) else (none)) = some r := hyr hy520 H; have Ny520 := aS hy520; clear hy520
             by_cases c25 : 0 ≤ x5_1
             ·
              rw [if_pos c25] at H; have c25b0 := eq_true c25; have c25b1 : decide (0 ≤ x5_1) = true := decide_eq_true c25; clear c25
              by_cases c26 : x5_1 ≤ (l0.length : Int)
              ·
               rw [if_pos c26] at H; have c26b0 := eq_true c26; have c26b1 : decide (x5_1 ≤ (l0.length : Int)) = true := decide_eq_true c26; clear c26
               obtain ⟨y523, hy523⟩ : ∃ y_ : List (S42), y_ = (l0.take (x5_1 : Int).toNat) := ⟨_, rfl⟩
               replace H : (if y520.length + y523.length < 2199023255552 then ((some (y520 ++ y523 : List (S42))).bind fun y527 => ((some (([(⟨a1_0, a1_1, a1_2, a1_3, a1_4⟩ : S42)] : List (S42)) : List (S42))).bind fun y530 => (if y527.length + y530.length < 2199023255552 then ((some (y527 ++ y530 : List (S42))).bind fun y533 => (if y533.length + y516.length < 2199023255552 then (some (y533 ++ y516)) else (none))) else (none)))) else (none)) = some r := hyr hy523 H; have Ny523 := aS hy523; clear hy523
               by_cases c27 : y520.length + y523.length < 2199023255552
               ·
                rw [if_pos c27] at H; have LMc27 := aS c27; clear c27
                obtain ⟨y527, hy527⟩ : ∃ y_ : List (S42), y_ = (y520 ++ y523) := ⟨_, rfl⟩
                (first | replace H := hyn hy527 H | rw [← hy527] at H); have Ny527 := aS hy527; clear hy527
                obtain ⟨y530, hy530⟩ : ∃ y_ : List (S42), y_ = (([(⟨a1_0, a1_1, a1_2, a1_3, a1_4⟩ : S42)] : List (S42))) := ⟨_, rfl⟩
                replace H : (if y527.length + y530.length < 2199023255552 then ((some (y527 ++ y530 : List (S42))).bind fun y533 => (if y533.length + y516.length < 2199023255552 then (some (y533 ++ y516)) else (none))) else (none)) = some r := hyr hy530 H; have Ny530 := aS hy530; clear hy530
                by_cases c28 : y527.length + y530.length < 2199023255552
                ·
                 rw [if_pos c28] at H; have LMc28 := aS c28; clear c28
                 obtain ⟨y533, hy533⟩ : ∃ y_ : List (S42), y_ = (y527 ++ y530) := ⟨_, rfl⟩
                 (first | replace H := hyn hy533 H | rw [← hy533] at H); have Ny533 := aS hy533; clear hy533
                 by_cases c29 : y533.length + y516.length < 2199023255552
                 ·
                  rw [if_pos c29] at H; have LMc29 := aS c29; clear c29
                  obtain ⟨y536, hy536⟩ : ∃ y_ : List (S42), y_ = (y533 ++ y516) := ⟨_, rfl⟩
                  replace H : (some y536) = some r := hyr hy536 H; have Ny536 := aS hy536; clear hy536
                  obtain rfl := Option.some.inj H
                  have q30 : ((ji22) : Int) ≤ ((l0.length : Int) : Int) := oda; obtain ⟨i030, hi030, _, hsz30, _⟩ := info_parts info42; have hroom30 : l0.length ≤ c0 := HC0.out; have hC30 : Kd.C k42 _ A0 l0.length l0 := HR0.out; have q030 : (0 : Int) ≤ ((ji22) : Int) := oda; have hcut30 := cut_from (P := Try.prog) 22 42 .i64 Try.underlying22 hi030 5 hsz30 A0 l0.length c0 (ji22) q030 q30; have hr30 := Kd.C_drop (m := ((ji22) : Int).toNat) (c := c0) hC30 (by omega) hroom30
                  obtain ⟨A30, hA30⟩ : ∃ A1_, A1_ = (if c0 = ((ji22) : Int).toNat then A0 else (A0 : Option Addr).map (·.add (((ji22) : Int).toNat * 5))) := ⟨_, rfl⟩
                  obtain ⟨c30, hc30⟩ : ∃ c1_, c1_ = c0 - ((ji22) : Int).toNat := ⟨_, rfl⟩
                  have hy30 : y516.length = l0.length - ((ji22) : Int).toNat := (by rw [Ny516.out, lld] <;> omega); rw [show (l0).drop ((ji22) : Int).toNat = y516 from Ny516.out.symm] at hr30; replace hr30 : Kd.C k42 _ A30 y516.length y516 := (by rw [hA30]; exact hr30); rw [← hy30, ← hA30, ← hc30] at hcut30; have HR519 := aS hr30; have HC519 := aS (show y516.length ≤ c30 from by rw [hy30, hc30]; exact Nat.sub_le_sub_right hroom30 _); clear hr30 hC30 hroom30 hi030 hsz30 hc30; have KY30 := aS hy30; have KA30 := aS hA30; clear hy30 hA30; replace q30 := eq_true q30
                  try go_wp2
                  replace BK507 := aS (blk_drew BK507.out); replace HB := aS (bdo HB.out); have q32 : (x5_1 : Int) ≤ ((l0.length : Int) : Int) := oda; obtain ⟨i032, hi032, _, hsz32, _⟩ := info_parts info42; have hroom32 : l0.length ≤ c0 := HC0.out; have hC32 : Kd.C k42 _ A0 l0.length l0 := HR0.out; have hcut32 := cut_to (P := Try.prog) 22 42 .i64 Try.underlying22 hi032 A0 l0.length c0 x5_1 (oda) q32 hroom32; have hr32 := Kd.C_take (m := (x5_1 : Int).toNat) hC32 (by omega); have hy32 : y523.length = (x5_1 : Int).toNat := (by rw [Ny523.out, llt]; omega); rw [← Ny523.out] at hr32; rw [← hy32] at hcut32; have HR526 := aS hr32; have HC526 := aS (show y523.length ≤ c0 from by omega); clear hr32 hC32 hroom32 hi032 hsz32; have KY32 := aS hy32; clear hy32; replace q32 := eq_true q32; refine start_ (n := 11) (S := fun w' => w'.cell? ⟨gb507, 0, none⟩ = some (.string a1_0) ∧ w'.cell? ⟨gb507, 1, none⟩ = some (.string a1_1) ∧ w'.cell? ⟨gb507, 2, none⟩ = some (.int .i64 a1_2) ∧ w'.cell? ⟨gb507, 3, none⟩ = some (.string a1_3) ∧ w'.cell? ⟨gb507, 4, none⟩ = some (.bool a1_4)) (ds := []) (bA 11 0) (by kernel_rfl) rfl rfl ⟨bc BK507 0, bc BK507 1, bc BK507 2, bc BK507 3, bc BK507 4⟩ (fun hHeld => ?_); refine with_tabW shardlogref08_Put1.tab7 shardlogref08_Put1.bits7 (fun HT_ HW_ => ?_)
                  generalize wc.drew = w31 at BK507 HB HR526 hHeld ⊢
                  refine along_ [(1, 43), (2, 44), (3, 45), (8, 50), (5, 47)] ?_
                  iterate 5 (first | (refine pure3 HT_ ?_) | (refine take3 HT_ HW_ hHeld ?_))
                  refine lay_ (bA 11 302) (by kernel_rfl) ?_; refine join_ (σ := Value × Value × Value) 3 (bA 11 383) (fun s_ => [(42, s_.1), (46, s_.2.1), (48, s_.2.2)]) (fun s_ w' => (w'.cell? ⟨gb507, 0, none⟩ = some (.string a1_0) ∧ w'.cell? ⟨gb507, 1, none⟩ = some (.string a1_1) ∧ w'.cell? ⟨gb507, 2, none⟩ = some (.int .i64 a1_2) ∧ w'.cell? ⟨gb507, 3, none⟩ = some (.string a1_3) ∧ w'.cell? ⟨gb507, 4, none⟩ = some (.bool a1_4)) ∧ (Kd.R k42 42 w' w.heap.size (fun k_ => some k_ ≠ (s_.2.2 : Value).ownBlock ∧ k_ ≠ gb507) s_.2.1 y527) ∧ (Kd.R k42 42 w' w.heap.size (fun k_ => some k_ ≠ (s_.2.1 : Value).ownBlock ∧ k_ ≠ gb507) s_.2.2 y530) ∧ (w'.heap[gb507]? = some (.cells #[.string a1_0, .string a1_1, .int .i64 a1_2, .string a1_3, .bool a1_4] 42 (0, 0))) ∧ (Below w.heap.size w w')) ?_ ?_
                  rotate_left
                  ·
                   intro hCont
                   refine two_ (i := 0) (j := 6) (Ni := some 42) (Nj := some 48) (bA 11 303) (bA 11 366) rfl rfl rfl rfl (two_of HT_.out (by kernel_rfl)) (by decide) (by decide) (fun K hK => ?_) (fun K hK => ?_)
                   ·
                    skip
                    refine Kd.R_lit_step k42 _ 42 ?hg (N := 42) ?hd (xs := ([] : List (S42))) (inner := []) (ok := fun _ => True) (okp := fun _ => True) ?hr ?hp (fun _ hk => hk) trivial (Below.refl _ _) (Nat.le_refl _) (by simp) ?_; (case hd => rfl); (case hg => rfl); (case hr => first | (go_simp; done) | (go_simp; rfl)); (case hp => exact (Reps.none _ _))
                    intro v521 w33 ho34 hb hg_ hnew_
                    clear hg_ hnew_
                    (first | rw [← Ny520.out] at ho34 | (simp only [Int.reduceToNat] at ho34; rw [← Ny520.out] at ho34))
                    have HO522 := aS (Kd.R_lower (Kd.R_newB ho34 (g := gb507) (o := .cells #[.string a1_0, .string a1_1, .int .i64 a1_2, .string a1_3, .bool a1_4] 42 (0, 0)) (bkl BK507.out)) (below_size bel)); replace BK507 := bbl BK507 hb; replace HB := bstep hb; clear hb ho34; refine hK.out _ _ ⟨bc BK507 0, bc BK507 1, bc BK507 2, bc BK507 3, bc BK507 4⟩ (fun hHeld => ?_); clear hK K; refine nm 42 ?_; refine two_ (i := 4) (j := 6) (Ni := some 46) (Nj := some 48) (bA 11 319) (bA 11 367) rfl rfl rfl rfl (two_of HT_.out (by kernel_rfl)) (by decide) (by decide) (fun K hK => ?_) (fun K hK => ?_)
                    ·
                     skip
                     refine Kd.R_append_rows_step k42 (w0 := w) w.heap.size (by rfl) (.tmp 42) (.tmp 45) 22 42 (.agg #[(.string ⟨#[]⟩), (.string ⟨#[]⟩), (.int .i64 0), (.string ⟨#[]⟩), (.bool false)]) 64 rfl Try.underlying22 info42 rfl (by decide) (by omega) v521 y520 y523 _ _ _ (fun k_ => k_ ≠ gb507) (fun _ => False) rfl rfl ?aO ?aR (fun _ _ h => h) (fun _ h => h.elim) ?aF ?aB ?aS ?aL ?_
                     (case aR => exact cel (Kd.C_below HR526.out HB.out))
                     (case aB => exact bel)
                     (case aF => exact (fun k_ hk => Kd.freshB (g := gb507) (o := .cells #[.string a1_0, .string a1_1, .int .i64 a1_2, .string a1_3, .bool a1_4] 42 (0, 0)) (bkl BK507.out) k_ hk))
                     (case aO => exact (rel (Kd.R_mono HO522.out (fun _ hk => hk.2))))
                     (case aS => exact (below_size bel))
                     (case aL => have := LMc27.out; omega)
                     intro v528 w35 ho hb hg hat
                     rw [← Ny527.out] at ho; have n0_ := aS (blk_grown (g := gb507) (o := .cells #[.string a1_0, .string a1_1, .int .i64 a1_2, .string a1_3, .bool a1_4] 42 (0, 0)) (bkl BK507.out) hg (Kd.R_away HO522.out (fun _ hk => hk.2))); have n1_ := aS (hb); have n2_ := aS (ho); clear BK507; clear HB; clear HO522; have BK507 := n0_; have HB := n1_; have HO529 := n2_; clear n0_ n1_ n2_; clear ho hb hg hat; refine hK.out _ _ ⟨bc BK507 0, bc BK507 1, bc BK507 2, bc BK507 3, bc BK507 4⟩ (fun hHeld => ?_); clear hK K; refine nm 46 ?_; refine one3 6 (N := some 48) (bA 11 383) HT_ (fun K hK => ?_)
                     refine Kd.R_lit_step k42 _ 42 ?hg (N := 48) ?hd (xs := ([(⟨a1_0, a1_1, a1_2, a1_3, a1_4⟩ : S42)] : List (S42))) (inner := [.string a1_0, .string a1_1, .int .i64 a1_2, .string a1_3, .bool a1_4]) (ok := fun _ => True) (okp := fun _ => True) ?hr ?hp (fun _ hk => hk) trivial (Below.refl _ _) (Nat.le_refl _) (by simp) ?_; (case hd => rfl); (case hg => rfl); (case hr => first | (go_simp; done) | (go_simp; rfl)); (case hp => exact (Reps.c5 (show Kd.M k42 _ _ _ (⟨a1_0, a1_1, a1_2, a1_3, a1_4⟩ : S42) [.string a1_0, .string a1_1, .int .i64 a1_2, .string a1_3, .bool a1_4] from (k42_mkM _ _ _ (⟨a1_0, a1_1, a1_2, a1_3, a1_4⟩ : S42) )) (Reps.none _ _)))
                     intro v531 w36 ho37 hb hg_ hnew_
                     clear hg_ hnew_
                     (first | rw [← Ny530.out] at ho37 | (simp only [Int.reduceToNat] at ho37; rw [← Ny530.out] at ho37))
                     have HO532 := aS (Kd.R_lower (Kd.R_newB (Kd.R_new' ho37 (Kd.R_lt (rel HO529.out))) (g := gb507) (o := .cells #[.string a1_0, .string a1_1, .int .i64 a1_2, .string a1_3, .bool a1_4] 42 (0, 0)) (bkl BK507.out)) (below_size bel)); replace HO529 := aS (Kd.R_elder' (rel HO529.out) (ebs ho37) hb); replace BK507 := bbl BK507 hb; replace HB := bstep hb; clear hb ho37; refine hK.out _ _ ⟨bc BK507 0, bc BK507 1, bc BK507 2, bc BK507 3, bc BK507 4⟩ (fun hHeld => ?_); clear hK K; refine nm 48 ?_; exact norm_ (by simp only [putAll, Act.put, lsa, lsz, lss]) (hCont (v521, v528, v531) _ ⟨hHeld, (by (with_reducible repeat (first | apply Kd.R_alloc | apply Kd.R_drewN | apply Kd.R_drew)); exact Kd.R_mono HO529.out (fun _ hk => ⟨hk.2, hk.1⟩)), (by (with_reducible repeat (first | apply Kd.R_alloc | apply Kd.R_drewN | apply Kd.R_drew)); exact Kd.R_mono HO532.out (fun _ hk => ⟨hk.1.2, hk.2⟩)), (bkl BK507.out), bel⟩)
                    ·
                     skip
                     refine Kd.R_lit_step k42 _ 42 ?hg (N := 48) ?hd (xs := ([(⟨a1_0, a1_1, a1_2, a1_3, a1_4⟩ : S42)] : List (S42))) (inner := [.string a1_0, .string a1_1, .int .i64 a1_2, .string a1_3, .bool a1_4]) (ok := fun _ => True) (okp := fun _ => True) ?hr ?hp (fun _ hk => hk) trivial (Below.refl _ _) (Nat.le_refl _) (by simp) ?_; (case hd => rfl); (case hg => rfl); (case hr => first | (go_simp; done) | (go_simp; rfl)); (case hp => exact (Reps.c5 (show Kd.M k42 _ _ _ (⟨a1_0, a1_1, a1_2, a1_3, a1_4⟩ : S42) [.string a1_0, .string a1_1, .int .i64 a1_2, .string a1_3, .bool a1_4] from (k42_mkM _ _ _ (⟨a1_0, a1_1, a1_2, a1_3, a1_4⟩ : S42) )) (Reps.none _ _)))
                     intro v531 w35 ho36 hb hg_ hnew_
                     clear hg_ hnew_
                     (first | rw [← Ny530.out] at ho36 | (simp only [Int.reduceToNat] at ho36; rw [← Ny530.out] at ho36))
                     have HO532 := aS (Kd.R_lower (Kd.R_newB (Kd.R_new' ho36 (Kd.R_lt (rel HO522.out))) (g := gb507) (o := .cells #[.string a1_0, .string a1_1, .int .i64 a1_2, .string a1_3, .bool a1_4] 42 (0, 0)) (bkl BK507.out)) (below_size bel)); replace HO522 := aS (Kd.R_elder' (rel HO522.out) (ebs ho36) hb); replace BK507 := bbl BK507 hb; replace HB := bstep hb; clear hb ho36; refine hK.out _ _ ⟨bc BK507 0, bc BK507 1, bc BK507 2, bc BK507 3, bc BK507 4⟩ (fun hHeld => ?_); clear hK K; refine nm 48 ?_; refine one3 4 (N := some 46) (bA 11 383) HT_ (fun K hK => ?_); refine Kd.R_append_rows_step k42 (w0 := w) w.heap.size (by rfl) (.tmp 42) (.tmp 45) 22 42 (.agg #[(.string ⟨#[]⟩), (.string ⟨#[]⟩), (.int .i64 0), (.string ⟨#[]⟩), (.bool false)]) 64 rfl Try.underlying22 info42 rfl (by decide) (by omega) v521 y520 y523 _ _ _ (fun k_ => some k_ ≠ (v531 : Value).ownBlock ∧ k_ ≠ gb507) (fun _ => False) rfl rfl ?aO ?aR (fun _ _ h => h) (fun _ h => h.elim) ?aF ?aB ?aS ?aL ?_
                     (case aR => exact cel (Kd.C_below HR526.out HB.out))
                     (case aB => exact bel)
                     (case aF => exact (fun k_ hk => ⟨Kd.fresh' (Kd.R_lt (rel HO532.out)) k_ hk, Kd.freshB (g := gb507) (o := .cells #[.string a1_0, .string a1_1, .int .i64 a1_2, .string a1_3, .bool a1_4] 42 (0, 0)) (bkl BK507.out) k_ hk⟩))
                     (case aO => exact (by (with_reducible repeat (first | apply Kd.R_alloc | apply Kd.R_drewN | apply Kd.R_drew)); exact Kd.R_mono HO522.out (fun _ hk => ⟨hk.2, hk.1.2⟩)))
                     (case aS => exact (below_size bel))
                     (case aL => have := LMc27.out; omega)
                     intro v528 w37 ho hb hg hat
                     rw [← Ny527.out] at ho; have n0_ := aS (blk_grown (g := gb507) (o := .cells #[.string a1_0, .string a1_1, .int .i64 a1_2, .string a1_3, .bool a1_4] 42 (0, 0)) (bkl BK507.out) hg (Kd.R_away HO522.out (fun _ hk => hk.1.2))); have n1_ := aS (Kd.R_after (ok := (fun k_ => k_ ≠ gb507)) (by (with_reducible repeat (first | apply Kd.R_alloc | apply Kd.R_drewN | apply Kd.R_drew)); exact Kd.R_mono HO532.out (fun _ hk => ⟨hk.2, hk.1.2⟩)) hg hat); have n2_ := aS (hb); have n3_ := aS (ho); clear BK507; clear HO532; clear HB; clear HO522; have BK507 := n0_; have HO532 := n1_; have HB := n2_; have HO529 := n3_; clear n0_ n1_ n2_ n3_; clear ho hb hg hat; refine hK.out _ _ ⟨bc BK507 0, bc BK507 1, bc BK507 2, bc BK507 3, bc BK507 4⟩ (fun hHeld => ?_); clear hK K; refine nm 46 ?_; exact norm_ (by simp only [putAll, Act.put, lsa, lsz, lss]) (hCont (v521, v528, v531) _ ⟨hHeld, (rel HO529.out), (by (with_reducible repeat (first | apply Kd.R_alloc | apply Kd.R_drewN | apply Kd.R_drew)); exact Kd.R_mono HO532.out (fun _ hk => ⟨hk.2, hk.1⟩)), (bkl BK507.out), bel⟩)
                   ·
                    skip
                    refine Kd.R_lit_step k42 _ 42 ?hg (N := 48) ?hd (xs := ([(⟨a1_0, a1_1, a1_2, a1_3, a1_4⟩ : S42)] : List (S42))) (inner := [.string a1_0, .string a1_1, .int .i64 a1_2, .string a1_3, .bool a1_4]) (ok := fun _ => True) (okp := fun _ => True) ?hr ?hp (fun _ hk => hk) trivial (Below.refl _ _) (Nat.le_refl _) (by simp) ?_; (case hd => rfl); (case hg => rfl); (case hr => first | (go_simp; done) | (go_simp; rfl)); (case hp => exact (Reps.c5 (show Kd.M k42 _ _ _ (⟨a1_0, a1_1, a1_2, a1_3, a1_4⟩ : S42) [.string a1_0, .string a1_1, .int .i64 a1_2, .string a1_3, .bool a1_4] from (k42_mkM _ _ _ (⟨a1_0, a1_1, a1_2, a1_3, a1_4⟩ : S42) )) (Reps.none _ _)))
                    intro v531 w33 ho34 hb hg_ hnew_
                    clear hg_ hnew_
                    (first | rw [← Ny530.out] at ho34 | (simp only [Int.reduceToNat] at ho34; rw [← Ny530.out] at ho34))
                    have HO532 := aS (Kd.R_lower (Kd.R_newB ho34 (g := gb507) (o := .cells #[.string a1_0, .string a1_1, .int .i64 a1_2, .string a1_3, .bool a1_4] 42 (0, 0)) (bkl BK507.out)) (below_size bel)); replace BK507 := bbl BK507 hb; replace HB := bstep hb; clear hb ho34; refine hK.out _ _ ⟨bc BK507 0, bc BK507 1, bc BK507 2, bc BK507 3, bc BK507 4⟩ (fun hHeld => ?_); clear hK K; refine nm 48 ?_; refine one3 0 (N := some 42) (bA 11 367) HT_ (fun K hK => ?_)
                    refine Kd.R_lit_step k42 _ 42 ?hg (N := 42) ?hd (xs := ([] : List (S42))) (inner := []) (ok := fun _ => True) (okp := fun _ => True) ?hr ?hp (fun _ hk => hk) trivial (Below.refl _ _) (Nat.le_refl _) (by simp) ?_; (case hd => rfl); (case hg => rfl); (case hr => first | (go_simp; done) | (go_simp; rfl)); (case hp => exact (Reps.none _ _))
                    intro v521 w35 ho36 hb hg_ hnew_
                    clear hg_ hnew_
                    (first | rw [← Ny520.out] at ho36 | (simp only [Int.reduceToNat] at ho36; rw [← Ny520.out] at ho36))
                    have HO522 := aS (Kd.R_lower (Kd.R_newB (Kd.R_new' ho36 (Kd.R_lt (rel HO532.out))) (g := gb507) (o := .cells #[.string a1_0, .string a1_1, .int .i64 a1_2, .string a1_3, .bool a1_4] 42 (0, 0)) (bkl BK507.out)) (below_size bel)); replace HO532 := aS (Kd.R_elder' (rel HO532.out) (ebs ho36) hb); replace BK507 := bbl BK507 hb; replace HB := bstep hb; clear hb ho36; refine hK.out _ _ ⟨bc BK507 0, bc BK507 1, bc BK507 2, bc BK507 3, bc BK507 4⟩ (fun hHeld => ?_); clear hK K; refine nm 42 ?_; refine one3 4 (N := some 46) (bA 11 383) HT_ (fun K hK => ?_); refine Kd.R_append_rows_step k42 (w0 := w) w.heap.size (by rfl) (.tmp 42) (.tmp 45) 22 42 (.agg #[(.string ⟨#[]⟩), (.string ⟨#[]⟩), (.int .i64 0), (.string ⟨#[]⟩), (.bool false)]) 64 rfl Try.underlying22 info42 rfl (by decide) (by omega) v521 y520 y523 _ _ _ (fun k_ => some k_ ≠ (v531 : Value).ownBlock ∧ k_ ≠ gb507) (fun _ => False) rfl rfl ?aO ?aR (fun _ _ h => h) (fun _ h => h.elim) ?aF ?aB ?aS ?aL ?_
                    (case aR => exact cel (Kd.C_below HR526.out HB.out))
                    (case aB => exact bel)
                    (case aF => exact (fun k_ hk => ⟨Kd.fresh' (Kd.R_lt (rel HO532.out)) k_ hk, Kd.freshB (g := gb507) (o := .cells #[.string a1_0, .string a1_1, .int .i64 a1_2, .string a1_3, .bool a1_4] 42 (0, 0)) (bkl BK507.out) k_ hk⟩))
                    (case aO => exact (by (with_reducible repeat (first | apply Kd.R_alloc | apply Kd.R_drewN | apply Kd.R_drew)); exact Kd.R_mono HO522.out (fun _ hk => ⟨hk.1.2, hk.2⟩)))
                    (case aS => exact (below_size bel))
                    (case aL => have := LMc27.out; omega)
                    intro v528 w37 ho hb hg hat
                    rw [← Ny527.out] at ho; have n0_ := aS (blk_grown (g := gb507) (o := .cells #[.string a1_0, .string a1_1, .int .i64 a1_2, .string a1_3, .bool a1_4] 42 (0, 0)) (bkl BK507.out) hg (Kd.R_away HO522.out (fun _ hk => hk.2))); have n1_ := aS (Kd.R_after (ok := (fun k_ => k_ ≠ gb507)) (by (with_reducible repeat (first | apply Kd.R_alloc | apply Kd.R_drewN | apply Kd.R_drew)); exact Kd.R_mono HO532.out (fun _ hk => ⟨hk.1.2, hk.2⟩)) hg hat); have n2_ := aS (hb); have n3_ := aS (ho); clear BK507; clear HO532; clear HB; clear HO522; have BK507 := n0_; have HO532 := n1_; have HB := n2_; have HO529 := n3_; clear n0_ n1_ n2_ n3_; clear ho hb hg hat; refine hK.out _ _ ⟨bc BK507 0, bc BK507 1, bc BK507 2, bc BK507 3, bc BK507 4⟩ (fun hHeld => ?_); clear hK K; refine nm 46 ?_; exact norm_ (by simp only [putAll, Act.put, lsa, lsz, lss]) (hCont (v521, v528, v531) _ ⟨hHeld, (rel HO529.out), (by (with_reducible repeat (first | apply Kd.R_alloc | apply Kd.R_drewN | apply Kd.R_drew)); exact Kd.R_mono HO532.out (fun _ hk => ⟨hk.2, hk.1⟩)), (bkl BK507.out), bel⟩)
                  rintro ⟨v521, v528, v531⟩ w38 ⟨hS_, h0_, h1_, h2_, h3_⟩
                  have n0_ : Aside0 (Kd.R k42 42 w38 w.heap.size (fun k_ => some k_ ≠ (v531 : Value).ownBlock ∧ k_ ≠ gb507) v528 y527) := ⟨h0_⟩; have n1_ : Aside0 (Kd.R k42 42 w38 w.heap.size (fun k_ => some k_ ≠ (v528 : Value).ownBlock ∧ k_ ≠ gb507) v531 y530) := ⟨h1_⟩; have n2_ : Aside0 (w38.heap[gb507]? = some (.cells #[.string a1_0, .string a1_1, .int .i64 a1_2, .string a1_3, .bool a1_4] 42 (0, 0))) := ⟨h2_⟩; have n3_ : Aside0 (Below w.heap.size w w38) := ⟨h3_⟩; clear BK507; clear HB; clear h0_ h1_ h2_ h3_; have HO529 := n0_; have HO532 := n1_; have BK507 := n2_; have HB := n3_; clear n0_ n1_ n2_ n3_; have hHeld : w38.cell? ⟨gb507, 0, none⟩ = some (.string a1_0) ∧ w38.cell? ⟨gb507, 1, none⟩ = some (.string a1_1) ∧ w38.cell? ⟨gb507, 2, none⟩ = some (.int .i64 a1_2) ∧ w38.cell? ⟨gb507, 3, none⟩ = some (.string a1_3) ∧ w38.cell? ⟨gb507, 4, none⟩ = some (.bool a1_4) := hS_; obtain ⟨Ao40, co40, eo40⟩ := Kd.R_slice HO532.out
                  (first | subst eo40 | (injection eo40 with f1_ f2_ f3_; have f4_ := f1_.symm; have f5_ := f3_.symm; clear f1_ f2_ f3_; subst f4_; subst f5_))
                  refine norm_ (a' := ?_) ?_ ?_
                  rotate_left
                  ·
                   simp only [putAll, Act.put, lsa, lsz, lss]
                   rfl
                  refine one3 7 (N := some 49) (bA 11 511) HT_ (fun K hK => ?_); refine Kd.R_append_rows_step k42 (w0 := w) w.heap.size (by rfl) (.tmp 46) (.tmp 48) 22 42 (.agg #[(.string ⟨#[]⟩), (.string ⟨#[]⟩), (.int .i64 0), (.string ⟨#[]⟩), (.bool false)]) 64 rfl Try.underlying22 info42 rfl (by decide) (by omega) v528 y527 y530 _ _ _ (fun k_ => some k_ ≠ (.slice Ao40 y530.length co40 : Value).ownBlock ∧ k_ ≠ gb507) (fun _ => False) rfl rfl ?aO ?aR (fun _ _ h => h) (fun _ h => h.elim) ?aF ?aB ?aS ?aL ?_
                  (case aR => exact cel ((Kd.R_reads' HO532.out).2.2))
                  (case aB => exact bel)
                  (case aF => exact (fun k_ hk => ⟨Kd.fresh' (Kd.R_lt (rel HO532.out)) k_ hk, Kd.freshB (g := gb507) (o := .cells #[.string a1_0, .string a1_1, .int .i64 a1_2, .string a1_3, .bool a1_4] 42 (0, 0)) (bkl BK507.out) k_ hk⟩))
                  (case aO => exact (rel HO529.out))
                  (case aS => exact (below_size bel))
                  (case aL => have := LMc28.out; omega)
                  intro v534 w39 ho hb hg hat
                  rw [← Ny533.out] at ho; have n0_ := aS (blk_grown (g := gb507) (o := .cells #[.string a1_0, .string a1_1, .int .i64 a1_2, .string a1_3, .bool a1_4] 42 (0, 0)) (bkl BK507.out) hg (Kd.R_away HO529.out (fun _ hk => hk.2))); have n1_ := aS (Kd.R_after (ok := (fun k_ => k_ ≠ gb507)) (by (with_reducible repeat (first | apply Kd.R_alloc | apply Kd.R_drewN | apply Kd.R_drew)); exact Kd.R_mono HO532.out (fun _ hk => ⟨hk.2, hk.1⟩)) hg hat); have n2_ := aS (hb); have n3_ := aS (ho); clear BK507; clear HO532; clear HB; clear HO529; have BK507 := n0_; have HO532 := n1_; have HB := n2_; have HO535 := n3_; clear n0_ n1_ n2_ n3_; clear ho hb hg hat; refine hK.out _ _ ⟨bc BK507 0, bc BK507 1, bc BK507 2, bc BK507 3, bc BK507 4⟩ (fun hHeld => ?_); clear hK K; refine nm 49 ?_; refine one3 9 (N := some 51) (bA 11 1023) HT_ (fun K hK => ?_); refine Kd.R_append_rows_step k42 (w0 := w) w.heap.size (by rfl) (.tmp 49) (.tmp 50) 22 42 (.agg #[(.string ⟨#[]⟩), (.string ⟨#[]⟩), (.int .i64 0), (.string ⟨#[]⟩), (.bool false)]) 64 rfl Try.underlying22 info42 rfl (by decide) (by omega) v534 y533 y516 _ _ _ (fun k_ => some k_ ≠ (.slice Ao40 y530.length co40 : Value).ownBlock ∧ k_ ≠ gb507) (fun _ => False) rfl rfl ?aO ?aR (fun _ _ h => h) (fun _ h => h.elim) ?aF ?aB ?aS ?aL ?_
                  (case aR => exact cel (Kd.C_below HR519.out HB.out))
                  (case aB => exact bel)
                  (case aF => exact (fun k_ hk => ⟨Kd.fresh' (Kd.R_lt (rel HO532.out)) k_ hk, Kd.freshB (g := gb507) (o := .cells #[.string a1_0, .string a1_1, .int .i64 a1_2, .string a1_3, .bool a1_4] 42 (0, 0)) (bkl BK507.out) k_ hk⟩))
                  (case aO => exact (rel HO535.out))
                  (case aS => exact (below_size bel))
                  (case aL => have := LMc29.out; omega)
                  intro v537 w41 ho hb hg hat
                  rw [← Ny536.out] at ho; have n0_ := aS (blk_grown (g := gb507) (o := .cells #[.string a1_0, .string a1_1, .int .i64 a1_2, .string a1_3, .bool a1_4] 42 (0, 0)) (bkl BK507.out) hg (Kd.R_away HO535.out (fun _ hk => hk.2))); have n1_ := aS (Kd.R_after (ok := (fun k_ => k_ ≠ gb507)) (rel HO532.out) hg hat); have n2_ := aS (hb); have n3_ := aS (ho); clear BK507; clear HO532; clear HB; clear HO535; have BK507 := n0_; have HO532 := n1_; have HB := n2_; have HO538 := n3_; clear n0_ n1_ n2_ n3_; clear ho hb hg hat; refine hK.out _ _ ⟨bc BK507 0, bc BK507 1, bc BK507 2, bc BK507 3, bc BK507 4⟩ (fun hHeld => ?_); clear hK K; refine nm 51 ?_; refine pure_ (i := 10) (N := some 4) (v := ?_) (a' := ?_) (bA 11 2047) rfl rfl (any_of HT_.out (by kernel_rfl)) (fun _ _ _ h => h) (Or.inl ⟨by rfl, ?_⟩) ?_ ?_
                  rotate_left
                  ·
                   intro w'
                   go_simp
                   with_reducible rfl
                  rotate_left
                  ·
                   simp only [Act.put, lsa, lsz, lss, i64_w, i32_w]
                   rfl
                  refine done_ (done_of HT_.out (by kernel_rfl)) ?_
                  try go_wp2
                  go_ret
                  exact ⟨_, by first | rfl | (simp [errW_none, errW_some] <;> rfl) | (simp only [← hji22]; first | rfl | (simp [errW_none, errW_some] <;> rfl)) | (simp [*, errW_none, errW_some] <;> rfl), by (with_reducible repeat (first | apply Kd.R_alloc | apply Kd.R_drewN | apply Kd.R_drew)); exact Kd.R_mono HO538.out (fun _ hk => trivial), bel⟩
                 ·
                  rw [if_neg c29] at H; exact absurd H (by simp)
                ·
                 rw [if_neg c28] at H; exact absurd H (by simp)
               ·
                rw [if_neg c27] at H; exact absurd H (by simp)
              ·
               rw [if_neg c26] at H; exact absurd H (by simp)
             ·
              rw [if_neg c25] at H; exact absurd H (by simp)
            ·
             rw [if_neg c24] at H; exact absurd H (by simp)
           ·
            rw [if_neg c23] at H; exact absurd H (by simp)
          ·
           replace c21 := Bool.eq_false_iff.mpr c21; subst c21
           replace H := ifF H
           obtain ⟨y539, hy539⟩ : ∃ y_ : List (S42), y_ = (([] : List (S42))) := ⟨_, rfl⟩
           replace H : (if 0 ≤ x5_1 then (if x5_1 ≤ (l0.length : Int) then ((some (l0.take (x5_1 : Int).toNat : List (S42))).bind fun y542 => (if y539.length + y542.length < 2199023255552 then ((some (y539 ++ y542 : List (S42))).bind fun y546 => ((some (([(⟨a1_0, a1_1, a1_2, a1_3, a1_4⟩ : S42)] : List (S42)) : List (S42))).bind fun y549 => (if y546.length + y549.length < 2199023255552 then ((some (y546 ++ y549 : List (S42))).bind fun y552 => (if y552.length + y510.length < 2199023255552 then (some (y552 ++ y510)) else (none))) else (none)))) else (none))) else (none)) else (none)) = some r := hyr hy539 H; have Ny539 := aS hy539; clear hy539
           by_cases c42 : 0 ≤ x5_1
           ·
            rw [if_pos c42] at H; have c42b0 := eq_true c42; have c42b1 : decide (0 ≤ x5_1) = true := decide_eq_true c42; clear c42
            by_cases c43 : x5_1 ≤ (l0.length : Int)
            ·
             rw [if_pos c43] at H; have c43b0 := eq_true c43; have c43b1 : decide (x5_1 ≤ (l0.length : Int)) = true := decide_eq_true c43; clear c43
             obtain ⟨y542, hy542⟩ : ∃ y_ : List (S42), y_ = (l0.take (x5_1 : Int).toNat) := ⟨_, rfl⟩
             replace H : (if y539.length + y542.length < 2199023255552 then ((some (y539 ++ y542 : List (S42))).bind fun y546 => ((some (([(⟨a1_0, a1_1, a1_2, a1_3, a1_4⟩ : S42)] : List (S42)) : List (S42))).bind fun y549 => (if y546.length + y549.length < 2199023255552 then ((some (y546 ++ y549 : List (S42))).bind fun y552 => (if y552.length + y510.length < 2199023255552 then (some (y552 ++ y510)) else (none))) else (none)))) else (none)) = some r := hyr hy542 H; have Ny542 := aS hy542; clear hy542
             by_cases c44 : y539.length + y542.length < 2199023255552
             ·
              rw [if_pos c44] at H; have LMc44 := aS c44; clear c44
              obtain ⟨y546, hy546⟩ : ∃ y_ : List (S42), y_ = (y539 ++ y542) := ⟨_, rfl⟩
              (first | replace H := hyn hy546 H | rw [← hy546] at H); have Ny546 := aS hy546; clear hy546
              obtain ⟨y549, hy549⟩ : ∃ y_ : List (S42), y_ = (([(⟨a1_0, a1_1, a1_2, a1_3, a1_4⟩ : S42)] : List (S42))) := ⟨_, rfl⟩
              replace H : (if y546.length + y549.length < 2199023255552 then ((some (y546 ++ y549 : List (S42))).bind fun y552 => (if y552.length + y510.length < 2199023255552 then (some (y552 ++ y510)) else (none))) else (none)) = some r := hyr hy549 H; have Ny549 := aS hy549; clear hy549
              by_cases c45 : y546.length + y549.length < 2199023255552
              ·
               rw [if_pos c45] at H; have LMc45 := aS c45; clear c45
               obtain ⟨y552, hy552⟩ : ∃ y_ : List (S42), y_ = (y546 ++ y549) := ⟨_, rfl⟩
               (first | replace H := hyn hy552 H | rw [← hy552] at H); have Ny552 := aS hy552; clear hy552
               by_cases c46 : y552.length + y510.length < 2199023255552
               ·
                rw [if_pos c46] at H; have LMc46 := aS c46; clear c46
                obtain ⟨y555, hy555⟩ : ∃ y_ : List (S42), y_ = (y552 ++ y510) := ⟨_, rfl⟩
                replace H : (some y555) = some r := hyr hy555 H; have Ny555 := aS hy555; clear hy555
                obtain rfl := Option.some.inj H
                try go_wp2
                replace BK507 := aS (blk_drew BK507.out); replace HB := aS (bdo HB.out); have q48 : (x5_1 : Int) ≤ ((l0.length : Int) : Int) := oda; obtain ⟨i048, hi048, _, hsz48, _⟩ := info_parts info42; have hroom48 : l0.length ≤ c0 := HC0.out; have hC48 : Kd.C k42 _ A0 l0.length l0 := HR0.out; have hcut48 := cut_to (P := Try.prog) 22 42 .i64 Try.underlying22 hi048 A0 l0.length c0 x5_1 (oda) q48 hroom48; have hr48 := Kd.C_take (m := (x5_1 : Int).toNat) hC48 (by omega); have hy48 : y542.length = (x5_1 : Int).toNat := (by rw [Ny542.out, llt]; omega); rw [← Ny542.out] at hr48; rw [← hy48] at hcut48; have HR545 := aS hr48; have HC545 := aS (show y542.length ≤ c0 from by omega); clear hr48 hC48 hroom48 hi048 hsz48; have KY48 := aS hy48; clear hy48; replace q48 := eq_true q48; refine start_ (n := 11) (S := fun w' => w'.cell? ⟨gb507, 0, none⟩ = some (.string a1_0) ∧ w'.cell? ⟨gb507, 1, none⟩ = some (.string a1_1) ∧ w'.cell? ⟨gb507, 2, none⟩ = some (.int .i64 a1_2) ∧ w'.cell? ⟨gb507, 3, none⟩ = some (.string a1_3) ∧ w'.cell? ⟨gb507, 4, none⟩ = some (.bool a1_4)) (ds := []) (bA 11 0) (by kernel_rfl) rfl rfl ⟨bc BK507 0, bc BK507 1, bc BK507 2, bc BK507 3, bc BK507 4⟩ (fun hHeld => ?_); refine with_tabW shardlogref08_Put1.tab7 shardlogref08_Put1.bits7 (fun HT_ HW_ => ?_)
                generalize wc.drew = w47 at BK507 HB HR545 hHeld ⊢
                refine along_ [(1, 43), (2, 44), (3, 45), (8, 50), (5, 47)] ?_
                iterate 5 (first | (refine pure3 HT_ ?_) | (refine take3 HT_ HW_ hHeld ?_))
                refine lay_ (bA 11 302) (by kernel_rfl) ?_; refine join_ (σ := Value × Value × Value) 3 (bA 11 383) (fun s_ => [(42, s_.1), (46, s_.2.1), (48, s_.2.2)]) (fun s_ w' => (w'.cell? ⟨gb507, 0, none⟩ = some (.string a1_0) ∧ w'.cell? ⟨gb507, 1, none⟩ = some (.string a1_1) ∧ w'.cell? ⟨gb507, 2, none⟩ = some (.int .i64 a1_2) ∧ w'.cell? ⟨gb507, 3, none⟩ = some (.string a1_3) ∧ w'.cell? ⟨gb507, 4, none⟩ = some (.bool a1_4)) ∧ (Kd.R k42 42 w' w.heap.size (fun k_ => some k_ ≠ (s_.2.2 : Value).ownBlock ∧ k_ ≠ gb507) s_.2.1 y546) ∧ (Kd.R k42 42 w' w.heap.size (fun k_ => some k_ ≠ (s_.2.1 : Value).ownBlock ∧ k_ ≠ gb507) s_.2.2 y549) ∧ (w'.heap[gb507]? = some (.cells #[.string a1_0, .string a1_1, .int .i64 a1_2, .string a1_3, .bool a1_4] 42 (0, 0))) ∧ (Below w.heap.size w w')) ?_ ?_
                rotate_left
                ·
                 intro hCont
                 refine two_ (i := 0) (j := 6) (Ni := some 42) (Nj := some 48) (bA 11 303) (bA 11 366) rfl rfl rfl rfl (two_of HT_.out (by kernel_rfl)) (by decide) (by decide) (fun K hK => ?_) (fun K hK => ?_)
                 ·
                  skip
                  refine Kd.R_lit_step k42 _ 42 ?hg (N := 42) ?hd (xs := ([] : List (S42))) (inner := []) (ok := fun _ => True) (okp := fun _ => True) ?hr ?hp (fun _ hk => hk) trivial (Below.refl _ _) (Nat.le_refl _) (by simp) ?_; (case hd => rfl); (case hg => rfl); (case hr => first | (go_simp; done) | (go_simp; rfl)); (case hp => exact (Reps.none _ _))
                  intro v540 w49 ho50 hb hg_ hnew_
                  clear hg_ hnew_
                  (first | rw [← Ny539.out] at ho50 | (simp only [Int.reduceToNat] at ho50; rw [← Ny539.out] at ho50))
                  have HO541 := aS (Kd.R_lower (Kd.R_newB ho50 (g := gb507) (o := .cells #[.string a1_0, .string a1_1, .int .i64 a1_2, .string a1_3, .bool a1_4] 42 (0, 0)) (bkl BK507.out)) (below_size bel)); replace BK507 := bbl BK507 hb; replace HB := bstep hb; clear hb ho50; refine hK.out _ _ ⟨bc BK507 0, bc BK507 1, bc BK507 2, bc BK507 3, bc BK507 4⟩ (fun hHeld => ?_); clear hK K; refine nm 42 ?_; refine two_ (i := 4) (j := 6) (Ni := some 46) (Nj := some 48) (bA 11 319) (bA 11 367) rfl rfl rfl rfl (two_of HT_.out (by kernel_rfl)) (by decide) (by decide) (fun K hK => ?_) (fun K hK => ?_)
                  ·
                   skip
                   refine Kd.R_append_rows_step k42 (w0 := w) w.heap.size (by rfl) (.tmp 42) (.tmp 45) 22 42 (.agg #[(.string ⟨#[]⟩), (.string ⟨#[]⟩), (.int .i64 0), (.string ⟨#[]⟩), (.bool false)]) 64 rfl Try.underlying22 info42 rfl (by decide) (by omega) v540 y539 y542 _ _ _ (fun k_ => k_ ≠ gb507) (fun _ => False) rfl rfl ?aO ?aR (fun _ _ h => h) (fun _ h => h.elim) ?aF ?aB ?aS ?aL ?_
                   (case aR => exact cel (Kd.C_below HR545.out HB.out))
                   (case aB => exact bel)
                   (case aF => exact (fun k_ hk => Kd.freshB (g := gb507) (o := .cells #[.string a1_0, .string a1_1, .int .i64 a1_2, .string a1_3, .bool a1_4] 42 (0, 0)) (bkl BK507.out) k_ hk))
                   (case aO => exact (rel (Kd.R_mono HO541.out (fun _ hk => hk.2))))
                   (case aS => exact (below_size bel))
                   (case aL => have := LMc44.out; omega)
                   intro v547 w51 ho hb hg hat
                   rw [← Ny546.out] at ho; have n0_ := aS (blk_grown (g := gb507) (o := .cells #[.string a1_0, .string a1_1, .int .i64 a1_2, .string a1_3, .bool a1_4] 42 (0, 0)) (bkl BK507.out) hg (Kd.R_away HO541.out (fun _ hk => hk.2))); have n1_ := aS (hb); have n2_ := aS (ho); clear BK507; clear HB; clear HO541; have BK507 := n0_; have HB := n1_; have HO548 := n2_; clear n0_ n1_ n2_; clear ho hb hg hat; refine hK.out _ _ ⟨bc BK507 0, bc BK507 1, bc BK507 2, bc BK507 3, bc BK507 4⟩ (fun hHeld => ?_); clear hK K; refine nm 46 ?_; refine one3 6 (N := some 48) (bA 11 383) HT_ (fun K hK => ?_)
                   refine Kd.R_lit_step k42 _ 42 ?hg (N := 48) ?hd (xs := ([(⟨a1_0, a1_1, a1_2, a1_3, a1_4⟩ : S42)] : List (S42))) (inner := [.string a1_0, .string a1_1, .int .i64 a1_2, .string a1_3, .bool a1_4]) (ok := fun _ => True) (okp := fun _ => True) ?hr ?hp (fun _ hk => hk) trivial (Below.refl _ _) (Nat.le_refl _) (by simp) ?_; (case hd => rfl); (case hg => rfl); (case hr => first | (go_simp; done) | (go_simp; rfl)); (case hp => exact (Reps.c5 (show Kd.M k42 _ _ _ (⟨a1_0, a1_1, a1_2, a1_3, a1_4⟩ : S42) [.string a1_0, .string a1_1, .int .i64 a1_2, .string a1_3, .bool a1_4] from (k42_mkM _ _ _ (⟨a1_0, a1_1, a1_2, a1_3, a1_4⟩ : S42) )) (Reps.none _ _)))
                   intro v550 w52 ho53 hb hg_ hnew_
                   clear hg_ hnew_
                   (first | rw [← Ny549.out] at ho53 | (simp only [Int.reduceToNat] at ho53; rw [← Ny549.out] at ho53))
                   have HO551 := aS (Kd.R_lower (Kd.R_newB (Kd.R_new' ho53 (Kd.R_lt (rel HO548.out))) (g := gb507) (o := .cells #[.string a1_0, .string a1_1, .int .i64 a1_2, .string a1_3, .bool a1_4] 42 (0, 0)) (bkl BK507.out)) (below_size bel)); replace HO548 := aS (Kd.R_elder' (rel HO548.out) (ebs ho53) hb); replace BK507 := bbl BK507 hb; replace HB := bstep hb; clear hb ho53; refine hK.out _ _ ⟨bc BK507 0, bc BK507 1, bc BK507 2, bc BK507 3, bc BK507 4⟩ (fun hHeld => ?_); clear hK K; refine nm 48 ?_; exact norm_ (by simp only [putAll, Act.put, lsa, lsz, lss]) (hCont (v540, v547, v550) _ ⟨hHeld, (by (with_reducible repeat (first | apply Kd.R_alloc | apply Kd.R_drewN | apply Kd.R_drew)); exact Kd.R_mono HO548.out (fun _ hk => ⟨hk.2, hk.1⟩)), (by (with_reducible repeat (first | apply Kd.R_alloc | apply Kd.R_drewN | apply Kd.R_drew)); exact Kd.R_mono HO551.out (fun _ hk => ⟨hk.1.2, hk.2⟩)), (bkl BK507.out), bel⟩)
                  ·
                   skip
                   refine Kd.R_lit_step k42 _ 42 ?hg (N := 48) ?hd (xs := ([(⟨a1_0, a1_1, a1_2, a1_3, a1_4⟩ : S42)] : List (S42))) (inner := [.string a1_0, .string a1_1, .int .i64 a1_2, .string a1_3, .bool a1_4]) (ok := fun _ => True) (okp := fun _ => True) ?hr ?hp (fun _ hk => hk) trivial (Below.refl _ _) (Nat.le_refl _) (by simp) ?_; (case hd => rfl); (case hg => rfl); (case hr => first | (go_simp; done) | (go_simp; rfl)); (case hp => exact (Reps.c5 (show Kd.M k42 _ _ _ (⟨a1_0, a1_1, a1_2, a1_3, a1_4⟩ : S42) [.string a1_0, .string a1_1, .int .i64 a1_2, .string a1_3, .bool a1_4] from (k42_mkM _ _ _ (⟨a1_0, a1_1, a1_2, a1_3, a1_4⟩ : S42) )) (Reps.none _ _)))
                   intro v550 w51 ho52 hb hg_ hnew_
                   clear hg_ hnew_
                   (first | rw [← Ny549.out] at ho52 | (simp only [Int.reduceToNat] at ho52; rw [← Ny549.out] at ho52))
                   have HO551 := aS (Kd.R_lower (Kd.R_newB (Kd.R_new' ho52 (Kd.R_lt (rel HO541.out))) (g := gb507) (o := .cells #[.string a1_0, .string a1_1, .int .i64 a1_2, .string a1_3, .bool a1_4] 42 (0, 0)) (bkl BK507.out)) (below_size bel)); replace HO541 := aS (Kd.R_elder' (rel HO541.out) (ebs ho52) hb); replace BK507 := bbl BK507 hb; replace HB := bstep hb; clear hb ho52; refine hK.out _ _ ⟨bc BK507 0, bc BK507 1, bc BK507 2, bc BK507 3, bc BK507 4⟩ (fun hHeld => ?_); clear hK K; refine nm 48 ?_; refine one3 4 (N := some 46) (bA 11 383) HT_ (fun K hK => ?_); refine Kd.R_append_rows_step k42 (w0 := w) w.heap.size (by rfl) (.tmp 42) (.tmp 45) 22 42 (.agg #[(.string ⟨#[]⟩), (.string ⟨#[]⟩), (.int .i64 0), (.string ⟨#[]⟩), (.bool false)]) 64 rfl Try.underlying22 info42 rfl (by decide) (by omega) v540 y539 y542 _ _ _ (fun k_ => some k_ ≠ (v550 : Value).ownBlock ∧ k_ ≠ gb507) (fun _ => False) rfl rfl ?aO ?aR (fun _ _ h => h) (fun _ h => h.elim) ?aF ?aB ?aS ?aL ?_
                   (case aR => exact cel (Kd.C_below HR545.out HB.out))
                   (case aB => exact bel)
                   (case aF => exact (fun k_ hk => ⟨Kd.fresh' (Kd.R_lt (rel HO551.out)) k_ hk, Kd.freshB (g := gb507) (o := .cells #[.string a1_0, .string a1_1, .int .i64 a1_2, .string a1_3, .bool a1_4] 42 (0, 0)) (bkl BK507.out) k_ hk⟩))
                   (case aO => exact (by (with_reducible repeat (first | apply Kd.R_alloc | apply Kd.R_drewN | apply Kd.R_drew)); exact Kd.R_mono HO541.out (fun _ hk => ⟨hk.2, hk.1.2⟩)))
                   (case aS => exact (below_size bel))
                   (case aL => have := LMc44.out; omega)
                   intro v547 w53 ho hb hg hat
                   rw [← Ny546.out] at ho; have n0_ := aS (blk_grown (g := gb507) (o := .cells #[.string a1_0, .string a1_1, .int .i64 a1_2, .string a1_3, .bool a1_4] 42 (0, 0)) (bkl BK507.out) hg (Kd.R_away HO541.out (fun _ hk => hk.1.2))); have n1_ := aS (Kd.R_after (ok := (fun k_ => k_ ≠ gb507)) (by (with_reducible repeat (first | apply Kd.R_alloc | apply Kd.R_drewN | apply Kd.R_drew)); exact Kd.R_mono HO551.out (fun _ hk => ⟨hk.2, hk.1.2⟩)) hg hat); have n2_ := aS (hb); have n3_ := aS (ho); clear BK507; clear HO551; clear HB; clear HO541; have BK507 := n0_; have HO551 := n1_; have HB := n2_; have HO548 := n3_; clear n0_ n1_ n2_ n3_; clear ho hb hg hat; refine hK.out _ _ ⟨bc BK507 0, bc BK507 1, bc BK507 2, bc BK507 3, bc BK507 4⟩ (fun hHeld => ?_); clear hK K; refine nm 46 ?_; exact norm_ (by simp only [putAll, Act.put, lsa, lsz, lss]) (hCont (v540, v547, v550) _ ⟨hHeld, (rel HO548.out), (by (with_reducible repeat (first | apply Kd.R_alloc | apply Kd.R_drewN | apply Kd.R_drew)); exact Kd.R_mono HO551.out (fun _ hk => ⟨hk.2, hk.1⟩)), (bkl BK507.out), bel⟩)
                 ·
                  skip
                  refine Kd.R_lit_step k42 _ 42 ?hg (N := 48) ?hd (xs := ([(⟨a1_0, a1_1, a1_2, a1_3, a1_4⟩ : S42)] : List (S42))) (inner := [.string a1_0, .string a1_1, .int .i64 a1_2, .string a1_3, .bool a1_4]) (ok := fun _ => True) (okp := fun _ => True) ?hr ?hp (fun _ hk => hk) trivial (Below.refl _ _) (Nat.le_refl _) (by simp) ?_; (case hd => rfl); (case hg => rfl); (case hr => first | (go_simp; done) | (go_simp; rfl)); (case hp => exact (Reps.c5 (show Kd.M k42 _ _ _ (⟨a1_0, a1_1, a1_2, a1_3, a1_4⟩ : S42) [.string a1_0, .string a1_1, .int .i64 a1_2, .string a1_3, .bool a1_4] from (k42_mkM _ _ _ (⟨a1_0, a1_1, a1_2, a1_3, a1_4⟩ : S42) )) (Reps.none _ _)))
                  intro v550 w49 ho50 hb hg_ hnew_
                  clear hg_ hnew_
                  (first | rw [← Ny549.out] at ho50 | (simp only [Int.reduceToNat] at ho50; rw [← Ny549.out] at ho50))
                  have HO551 := aS (Kd.R_lower (Kd.R_newB ho50 (g := gb507) (o := .cells #[.string a1_0, .string a1_1, .int .i64 a1_2, .string a1_3, .bool a1_4] 42 (0, 0)) (bkl BK507.out)) (below_size bel)); replace BK507 := bbl BK507 hb; replace HB := bstep hb; clear hb ho50; refine hK.out _ _ ⟨bc BK507 0, bc BK507 1, bc BK507 2, bc BK507 3, bc BK507 4⟩ (fun hHeld => ?_); clear hK K; refine nm 48 ?_; refine one3 0 (N := some 42) (bA 11 367) HT_ (fun K hK => ?_)
                  refine Kd.R_lit_step k42 _ 42 ?hg (N := 42) ?hd (xs := ([] : List (S42))) (inner := []) (ok := fun _ => True) (okp := fun _ => True) ?hr ?hp (fun _ hk => hk) trivial (Below.refl _ _) (Nat.le_refl _) (by simp) ?_; (case hd => rfl); (case hg => rfl); (case hr => first | (go_simp; done) | (go_simp; rfl)); (case hp => exact (Reps.none _ _))
                  intro v540 w51 ho52 hb hg_ hnew_
                  clear hg_ hnew_
                  (first | rw [← Ny539.out] at ho52 | (simp only [Int.reduceToNat] at ho52; rw [← Ny539.out] at ho52))
                  have HO541 := aS (Kd.R_lower (Kd.R_newB (Kd.R_new' ho52 (Kd.R_lt (rel HO551.out))) (g := gb507) (o := .cells #[.string a1_0, .string a1_1, .int .i64 a1_2, .string a1_3, .bool a1_4] 42 (0, 0)) (bkl BK507.out)) (below_size bel)); replace HO551 := aS (Kd.R_elder' (rel HO551.out) (ebs ho52) hb); replace BK507 := bbl BK507 hb; replace HB := bstep hb; clear hb ho52; refine hK.out _ _ ⟨bc BK507 0, bc BK507 1, bc BK507 2, bc BK507 3, bc BK507 4⟩ (fun hHeld => ?_); clear hK K; refine nm 42 ?_; refine one3 4 (N := some 46) (bA 11 383) HT_ (fun K hK => ?_); refine Kd.R_append_rows_step k42 (w0 := w) w.heap.size (by rfl) (.tmp 42) (.tmp 45) 22 42 (.agg #[(.string ⟨#[]⟩), (.string ⟨#[]⟩), (.int .i64 0), (.string ⟨#[]⟩), (.bool false)]) 64 rfl Try.underlying22 info42 rfl (by decide) (by omega) v540 y539 y542 _ _ _ (fun k_ => some k_ ≠ (v550 : Value).ownBlock ∧ k_ ≠ gb507) (fun _ => False) rfl rfl ?aO ?aR (fun _ _ h => h) (fun _ h => h.elim) ?aF ?aB ?aS ?aL ?_
                  (case aR => exact cel (Kd.C_below HR545.out HB.out))
                  (case aB => exact bel)
                  (case aF => exact (fun k_ hk => ⟨Kd.fresh' (Kd.R_lt (rel HO551.out)) k_ hk, Kd.freshB (g := gb507) (o := .cells #[.string a1_0, .string a1_1, .int .i64 a1_2, .string a1_3, .bool a1_4] 42 (0, 0)) (bkl BK507.out) k_ hk⟩))
                  (case aO => exact (by (with_reducible repeat (first | apply Kd.R_alloc | apply Kd.R_drewN | apply Kd.R_drew)); exact Kd.R_mono HO541.out (fun _ hk => ⟨hk.1.2, hk.2⟩)))
                  (case aS => exact (below_size bel))
                  (case aL => have := LMc44.out; omega)
                  intro v547 w53 ho hb hg hat
                  rw [← Ny546.out] at ho; have n0_ := aS (blk_grown (g := gb507) (o := .cells #[.string a1_0, .string a1_1, .int .i64 a1_2, .string a1_3, .bool a1_4] 42 (0, 0)) (bkl BK507.out) hg (Kd.R_away HO541.out (fun _ hk => hk.2))); have n1_ := aS (Kd.R_after (ok := (fun k_ => k_ ≠ gb507)) (by (with_reducible repeat (first | apply Kd.R_alloc | apply Kd.R_drewN | apply Kd.R_drew)); exact Kd.R_mono HO551.out (fun _ hk => ⟨hk.1.2, hk.2⟩)) hg hat); have n2_ := aS (hb); have n3_ := aS (ho); clear BK507; clear HO551; clear HB; clear HO541; have BK507 := n0_; have HO551 := n1_; have HB := n2_; have HO548 := n3_; clear n0_ n1_ n2_ n3_; clear ho hb hg hat; refine hK.out _ _ ⟨bc BK507 0, bc BK507 1, bc BK507 2, bc BK507 3, bc BK507 4⟩ (fun hHeld => ?_); clear hK K; refine nm 46 ?_; exact norm_ (by simp only [putAll, Act.put, lsa, lsz, lss]) (hCont (v540, v547, v550) _ ⟨hHeld, (rel HO548.out), (by (with_reducible repeat (first | apply Kd.R_alloc | apply Kd.R_drewN | apply Kd.R_drew)); exact Kd.R_mono HO551.out (fun _ hk => ⟨hk.2, hk.1⟩)), (bkl BK507.out), bel⟩)
                rintro ⟨v540, v547, v550⟩ w54 ⟨hS_, h0_, h1_, h2_, h3_⟩
                have n0_ : Aside0 (Kd.R k42 42 w54 w.heap.size (fun k_ => some k_ ≠ (v550 : Value).ownBlock ∧ k_ ≠ gb507) v547 y546) := ⟨h0_⟩; have n1_ : Aside0 (Kd.R k42 42 w54 w.heap.size (fun k_ => some k_ ≠ (v547 : Value).ownBlock ∧ k_ ≠ gb507) v550 y549) := ⟨h1_⟩; have n2_ : Aside0 (w54.heap[gb507]? = some (.cells #[.string a1_0, .string a1_1, .int .i64 a1_2, .string a1_3, .bool a1_4] 42 (0, 0))) := ⟨h2_⟩; have n3_ : Aside0 (Below w.heap.size w w54) := ⟨h3_⟩; clear BK507; clear HB; clear h0_ h1_ h2_ h3_; have HO548 := n0_; have HO551 := n1_; have BK507 := n2_; have HB := n3_; clear n0_ n1_ n2_ n3_; have hHeld : w54.cell? ⟨gb507, 0, none⟩ = some (.string a1_0) ∧ w54.cell? ⟨gb507, 1, none⟩ = some (.string a1_1) ∧ w54.cell? ⟨gb507, 2, none⟩ = some (.int .i64 a1_2) ∧ w54.cell? ⟨gb507, 3, none⟩ = some (.string a1_3) ∧ w54.cell? ⟨gb507, 4, none⟩ = some (.bool a1_4) := hS_; obtain ⟨Ao56, co56, eo56⟩ := Kd.R_slice HO551.out
                (first | subst eo56 | (injection eo56 with f1_ f2_ f3_; have f4_ := f1_.symm; have f5_ := f3_.symm; clear f1_ f2_ f3_; subst f4_; subst f5_))
                refine norm_ (a' := ?_) ?_ ?_
                rotate_left
                ·
                 simp only [putAll, Act.put, lsa, lsz, lss]
                 rfl
                refine one3 7 (N := some 49) (bA 11 511) HT_ (fun K hK => ?_); refine Kd.R_append_rows_step k42 (w0 := w) w.heap.size (by rfl) (.tmp 46) (.tmp 48) 22 42 (.agg #[(.string ⟨#[]⟩), (.string ⟨#[]⟩), (.int .i64 0), (.string ⟨#[]⟩), (.bool false)]) 64 rfl Try.underlying22 info42 rfl (by decide) (by omega) v547 y546 y549 _ _ _ (fun k_ => some k_ ≠ (.slice Ao56 y549.length co56 : Value).ownBlock ∧ k_ ≠ gb507) (fun _ => False) rfl rfl ?aO ?aR (fun _ _ h => h) (fun _ h => h.elim) ?aF ?aB ?aS ?aL ?_
                (case aR => exact cel ((Kd.R_reads' HO551.out).2.2))
                (case aB => exact bel)
                (case aF => exact (fun k_ hk => ⟨Kd.fresh' (Kd.R_lt (rel HO551.out)) k_ hk, Kd.freshB (g := gb507) (o := .cells #[.string a1_0, .string a1_1, .int .i64 a1_2, .string a1_3, .bool a1_4] 42 (0, 0)) (bkl BK507.out) k_ hk⟩))
                (case aO => exact (rel HO548.out))
                (case aS => exact (below_size bel))
                (case aL => have := LMc45.out; omega)
                intro v553 w55 ho hb hg hat
                rw [← Ny552.out] at ho; have n0_ := aS (blk_grown (g := gb507) (o := .cells #[.string a1_0, .string a1_1, .int .i64 a1_2, .string a1_3, .bool a1_4] 42 (0, 0)) (bkl BK507.out) hg (Kd.R_away HO548.out (fun _ hk => hk.2))); have n1_ := aS (Kd.R_after (ok := (fun k_ => k_ ≠ gb507)) (by (with_reducible repeat (first | apply Kd.R_alloc | apply Kd.R_drewN | apply Kd.R_drew)); exact Kd.R_mono HO551.out (fun _ hk => ⟨hk.2, hk.1⟩)) hg hat); have n2_ := aS (hb); have n3_ := aS (ho); clear BK507; clear HO551; clear HB; clear HO548; have BK507 := n0_; have HO551 := n1_; have HB := n2_; have HO554 := n3_; clear n0_ n1_ n2_ n3_; clear ho hb hg hat; refine hK.out _ _ ⟨bc BK507 0, bc BK507 1, bc BK507 2, bc BK507 3, bc BK507 4⟩ (fun hHeld => ?_); clear hK K; refine nm 49 ?_; refine one3 9 (N := some 51) (bA 11 1023) HT_ (fun K hK => ?_); refine Kd.R_append_rows_step k42 (w0 := w) w.heap.size (by rfl) (.tmp 49) (.tmp 50) 22 42 (.agg #[(.string ⟨#[]⟩), (.string ⟨#[]⟩), (.int .i64 0), (.string ⟨#[]⟩), (.bool false)]) 64 rfl Try.underlying22 info42 rfl (by decide) (by omega) v553 y552 y510 _ _ _ (fun k_ => some k_ ≠ (.slice Ao56 y549.length co56 : Value).ownBlock ∧ k_ ≠ gb507) (fun _ => False) rfl rfl ?aO ?aR (fun _ _ h => h) (fun _ h => h.elim) ?aF ?aB ?aS ?aL ?_
                (case aR => exact cel (Kd.C_below HR513.out HB.out))
                (case aB => exact bel)
                (case aF => exact (fun k_ hk => ⟨Kd.fresh' (Kd.R_lt (rel HO551.out)) k_ hk, Kd.freshB (g := gb507) (o := .cells #[.string a1_0, .string a1_1, .int .i64 a1_2, .string a1_3, .bool a1_4] 42 (0, 0)) (bkl BK507.out) k_ hk⟩))
                (case aO => exact (rel HO554.out))
                (case aS => exact (below_size bel))
                (case aL => have := LMc46.out; omega)
                intro v556 w57 ho hb hg hat
                rw [← Ny555.out] at ho; have n0_ := aS (blk_grown (g := gb507) (o := .cells #[.string a1_0, .string a1_1, .int .i64 a1_2, .string a1_3, .bool a1_4] 42 (0, 0)) (bkl BK507.out) hg (Kd.R_away HO554.out (fun _ hk => hk.2))); have n1_ := aS (Kd.R_after (ok := (fun k_ => k_ ≠ gb507)) (rel HO551.out) hg hat); have n2_ := aS (hb); have n3_ := aS (ho); clear BK507; clear HO551; clear HB; clear HO554; have BK507 := n0_; have HO551 := n1_; have HB := n2_; have HO557 := n3_; clear n0_ n1_ n2_ n3_; clear ho hb hg hat; refine hK.out _ _ ⟨bc BK507 0, bc BK507 1, bc BK507 2, bc BK507 3, bc BK507 4⟩ (fun hHeld => ?_); clear hK K; refine nm 51 ?_; refine pure_ (i := 10) (N := some 4) (v := ?_) (a' := ?_) (bA 11 2047) rfl rfl (any_of HT_.out (by kernel_rfl)) (fun _ _ _ h => h) (Or.inl ⟨by rfl, ?_⟩) ?_ ?_
                rotate_left
                ·
                 intro w'
                 go_simp
                 with_reducible rfl
                rotate_left
                ·
                 simp only [Act.put, lsa, lsz, lss, i64_w, i32_w]
                 rfl
                refine done_ (done_of HT_.out (by kernel_rfl)) ?_
                try go_wp2
                go_ret
                exact ⟨_, rf3, by (with_reducible repeat (first | apply Kd.R_alloc | apply Kd.R_drewN | apply Kd.R_drew)); exact Kd.R_mono HO557.out (fun _ hk => trivial), bel⟩
               ·
                rw [if_neg c46] at H; exact absurd H (by simp)
              ·
               rw [if_neg c45] at H; exact absurd H (by simp)
             ·
              rw [if_neg c44] at H; exact absurd H (by simp)
            ·
             rw [if_neg c43] at H; exact absurd H (by simp)
           ·
            rw [if_neg c42] at H; exact absurd H (by simp)
       ·
        rw [if_neg c13] at H; exact absurd H (by simp)
      ·
       rw [if_neg c12] at H; exact absurd H (by simp)

end Go.Proofs.Ytinhpolmanccgaa.X
