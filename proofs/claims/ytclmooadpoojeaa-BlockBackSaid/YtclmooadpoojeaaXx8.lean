-- written by a program of this session's, over the kit's print
import Derived.Test.YtclmooadpoojeaaXx0
import Derived.Test.YtclmooadpoojeaaXx7
namespace Go.Proofs.Ytclmooadpoojeaa.X
open Go.RowKit Go.Proofs.YtclmooadpoojeaaW.PrintWords Go.Proofs.YtclmooadpoojeaaW.PrintLast Go.Proofs.YtclmooadpoojeaaW.PrintMore
attribute [local go_sem] max2_int min2_int max_two min_two max_three min_three max_four min_four gtr_str   -- for this text's walks alone
set_option linter.unusedVariables false
set_option linter.unusedSimpArgs false

/-! ### shardlogref08_Put1: function 22 -/
mutual
def shardlogref08_Put1.l0 : Nat → List (S46) → Int → ByteArray → ByteArray → Int → ByteArray → Bool → Option ((List (S46)))
 | 0, _, _, _, _, _, _, _ => none
 | k + 1, x0, x5, x402000, x402001, x402002, x402003, x402004 => if x5 < (x0.length : Int) then (if 0 ≤ x5 then ((shardlogref08_Compare.f k ((rd_T46 x0 x5).f0) ((rd_T46 x0 x5).f1) ((rd_T46 x0 x5).f2) ((rd_T46 x0 x5).f3) ((rd_T46 x0 x5).f4) x402000 x402001 x402002 x402003 x402004).bind fun t403 => (shardlogref08_Put1.j1 k x0 x5 (t403 == (-1)) x402000 x402001 x402002 x402003 x402004)) else (none)) else (shardlogref08_Put1.j1 k x0 x5 false x402000 x402001 x402002 x402003 x402004)
def shardlogref08_Put1.j1 : Nat → List (S46) → Int → Bool → ByteArray → ByteArray → Int → ByteArray → Bool → Option ((List (S46)))
 | 0, _, _, _, _, _, _, _, _ => none
 | k + 1, x0, x5, x19, x402000, x402001, x402002, x402003, x402004 => if x19 = true then (shardlogref08_Put1.l0 k x0 (wrap64 (x5 + 1)) x402000 x402001 x402002 x402003 x402004) else (if 0 ≤ x5 then (if x5 ≤ (x0.length : Int) then ((some (x0.drop (x5 : Int).toNat : List (S46))).bind fun y404 => (if x5 < (x0.length : Int) then ((shardlogref08_Compare.f k ((rd_T46 x0 x5).f0) ((rd_T46 x0 x5).f1) ((rd_T46 x0 x5).f2) ((rd_T46 x0 x5).f3) ((rd_T46 x0 x5).f4) x402000 x402001 x402002 x402003 x402004).bind fun t409 => (shardlogref08_Put1.j2 k x0 x5 y404 (t409 == 0) x402000 x402001 x402002 x402003 x402004)) else (shardlogref08_Put1.j2 k x0 x5 y404 false x402000 x402001 x402002 x402003 x402004))) else (none)) else (none))
def shardlogref08_Put1.j2 : Nat → List (S46) → Int → List (S46) → Bool → ByteArray → ByteArray → Int → ByteArray → Bool → Option ((List (S46)))
 | 0, _, _, _, _, _, _, _, _, _ => none
 | k + 1, x0, x5, x6, x37, x402000, x402001, x402002, x402003, x402004 => if x37 = true then (if 0 ≤ (wrap64 (x5 + 1)) then (if (wrap64 (x5 + 1)) ≤ (x0.length : Int) then ((some (x0.drop ((wrap64 (x5 + 1)) : Int).toNat : List (S46))).bind fun y410 => ((some (([] : List (S46)) : List (S46))).bind fun y414 => (if 0 ≤ x5 then (if x5 ≤ (x0.length : Int) then ((some (x0.take (x5 : Int).toNat : List (S46))).bind fun y417 => (if y414.length + y417.length < 2199023255552 then ((some (y414 ++ y417 : List (S46))).bind fun y421 => ((some (([(⟨x402000, x402001, x402002, x402003, x402004⟩ : S46)] : List (S46)) : List (S46))).bind fun y424 => (if y421.length + y424.length < 2199023255552 then ((some (y421 ++ y424 : List (S46))).bind fun y427 => (if y427.length + y410.length < 2199023255552 then (some (y427 ++ y410)) else (none))) else (none)))) else (none))) else (none)) else (none)))) else (none)) else (none)) else ((some (([] : List (S46)) : List (S46))).bind fun y433 => (if 0 ≤ x5 then (if x5 ≤ (x0.length : Int) then ((some (x0.take (x5 : Int).toNat : List (S46))).bind fun y436 => (if y433.length + y436.length < 2199023255552 then ((some (y433 ++ y436 : List (S46))).bind fun y440 => ((some (([(⟨x402000, x402001, x402002, x402003, x402004⟩ : S46)] : List (S46)) : List (S46))).bind fun y443 => (if y440.length + y443.length < 2199023255552 then ((some (y440 ++ y443 : List (S46))).bind fun y446 => (if y446.length + x6.length < 2199023255552 then (some (y446 ++ x6)) else (none))) else (none)))) else (none))) else (none)) else (none)))
end
def shardlogref08_Put1.f (k : Nat) (l0 : List (S46)) (a1_0 : ByteArray) (a1_1 : ByteArray) (a1_2 : Int) (a1_3 : ByteArray) (a1_4 : Bool) : Option ((List (S46))) := shardlogref08_Put1.l0 k l0 0 a1_0 a1_1 a1_2 a1_3 a1_4
theorem shardlogref08_Put1.mono_l : ∀ k, (∀ y0 y1 y2 y3 y4 y5 y6, LeO (shardlogref08_Put1.l0 k y0 y1 y2 y3 y4 y5 y6) (shardlogref08_Put1.l0 (k + 1) y0 y1 y2 y3 y4 y5 y6)) ∧ (∀ y0 y1 y2 y3 y4 y5 y6 y7, LeO (shardlogref08_Put1.j1 k y0 y1 y2 y3 y4 y5 y6 y7) (shardlogref08_Put1.j1 (k + 1) y0 y1 y2 y3 y4 y5 y6 y7)) ∧ (∀ y0 y1 y2 y3 y4 y5 y6 y7 y8, LeO (shardlogref08_Put1.j2 k y0 y1 y2 y3 y4 y5 y6 y7 y8) (shardlogref08_Put1.j2 (k + 1) y0 y1 y2 y3 y4 y5 y6 y7 y8))
 | 0 => ⟨fun _ _ _ _ _ _ _ r h => by simp [shardlogref08_Put1.l0] at h, fun _ _ _ _ _ _ _ _ r h => by simp [shardlogref08_Put1.j1] at h, fun _ _ _ _ _ _ _ _ _ r h => by simp [shardlogref08_Put1.j2] at h⟩
 | k + 1 => by
  obtain ⟨ih0, ih1, ih2⟩ := shardlogref08_Put1.mono_l k
  refine ⟨?_, ?_, ?_⟩
  ·
   intro y0 y1 y2 y3 y4 y5 y6
   unfold shardlogref08_Put1.l0
   repeat' first
   | (with_reducible exact ih0 _ _ _ _ _ _ _)
   | (with_reducible exact ih1 _ _ _ _ _ _ _ _)
   | (with_reducible exact ih2 _ _ _ _ _ _ _ _ _)
   | (with_reducible exact shardlogref08_Compare.mono _ _ _ _ _ _ _ _ _ _ _)
   | (with_reducible exact LeO.refl _)
   | (with_reducible exact LeO.none _)
   | (with_reducible refine LeO.ite ?_ ?_)
   | (with_reducible refine LeO.bind ?_ (fun _ => ?_))
   | exact ih0 _ _ _ _ _ _ _
   | exact ih1 _ _ _ _ _ _ _ _
   | exact ih2 _ _ _ _ _ _ _ _ _
   | exact shardlogref08_Compare.mono _ _ _ _ _ _ _ _ _ _ _
   | exact LeO.none _
   | refine LeO.ite ?_ ?_
   | refine LeO.bind ?_ (fun _ => ?_)
  ·
   intro y0 y1 y2 y3 y4 y5 y6 y7
   unfold shardlogref08_Put1.j1
   repeat' first
   | (with_reducible exact ih0 _ _ _ _ _ _ _)
   | (with_reducible exact ih1 _ _ _ _ _ _ _ _)
   | (with_reducible exact ih2 _ _ _ _ _ _ _ _ _)
   | (with_reducible exact shardlogref08_Compare.mono _ _ _ _ _ _ _ _ _ _ _)
   | (with_reducible exact LeO.refl _)
   | (with_reducible exact LeO.none _)
   | (with_reducible refine LeO.ite ?_ ?_)
   | (with_reducible refine LeO.bind ?_ (fun _ => ?_))
   | exact ih0 _ _ _ _ _ _ _
   | exact ih1 _ _ _ _ _ _ _ _
   | exact ih2 _ _ _ _ _ _ _ _ _
   | exact shardlogref08_Compare.mono _ _ _ _ _ _ _ _ _ _ _
   | exact LeO.none _
   | refine LeO.ite ?_ ?_
   | refine LeO.bind ?_ (fun _ => ?_)
  ·
   intro y0 y1 y2 y3 y4 y5 y6 y7 y8
   unfold shardlogref08_Put1.j2
   repeat' first
   | (with_reducible exact ih0 _ _ _ _ _ _ _)
   | (with_reducible exact ih1 _ _ _ _ _ _ _ _)
   | (with_reducible exact ih2 _ _ _ _ _ _ _ _ _)
   | (with_reducible exact shardlogref08_Compare.mono _ _ _ _ _ _ _ _ _ _ _)
   | (with_reducible exact LeO.refl _)
   | (with_reducible exact LeO.none _)
   | (with_reducible refine LeO.ite ?_ ?_)
   | (with_reducible refine LeO.bind ?_ (fun _ => ?_))
   | exact ih0 _ _ _ _ _ _ _
   | exact ih1 _ _ _ _ _ _ _ _
   | exact ih2 _ _ _ _ _ _ _ _ _
   | exact shardlogref08_Compare.mono _ _ _ _ _ _ _ _ _ _ _
   | exact LeO.none _
   | refine LeO.ite ?_ ?_
   | refine LeO.bind ?_ (fun _ => ?_)
theorem shardlogref08_Put1.mono : ∀ a0 a1 a2 a3 a4 a5 k, LeO (shardlogref08_Put1.f k a0 a1 a2 a3 a4 a5) (shardlogref08_Put1.f (k + 1) a0 a1 a2 a3 a4 a5) := by
 intro a0 a1 a2 a3 a4 a5 k
 obtain ⟨ih0, ih1, ih2⟩ := shardlogref08_Put1.mono_l k
 unfold shardlogref08_Put1.f
 repeat' first
   | (with_reducible exact ih0 _ _ _ _ _ _ _)
   | (with_reducible exact ih1 _ _ _ _ _ _ _ _)
   | (with_reducible exact ih2 _ _ _ _ _ _ _ _ _)
   | (with_reducible exact shardlogref08_Compare.mono _ _ _ _ _ _ _ _ _ _ _)
   | (with_reducible exact LeO.refl _)
   | (with_reducible exact LeO.none _)
   | (with_reducible refine LeO.ite ?_ ?_)
   | (with_reducible refine LeO.bind ?_ (fun _ => ?_))
   | exact ih0 _ _ _ _ _ _ _
   | exact ih1 _ _ _ _ _ _ _ _
   | exact ih2 _ _ _ _ _ _ _ _ _
   | exact shardlogref08_Compare.mono _ _ _ _ _ _ _ _ _ _ _
   | exact LeO.none _
   | refine LeO.ite ?_ ?_
   | refine LeO.bind ?_ (fun _ => ?_)
def shardlogref08_Put1.T2 : Bool × List (List Nat × List Nat) := (true, [([], []), ([], []), ([1], [1]), ([0, 2], [0, 2]), ([3], [3]), ([4], [4]), ([4], [4]), ([5, 6, 4], [4, 5, 6]), ([7, 4], [4, 7]), ([4], [4]), ([8, 9, 4, 4], [4, 8, 9]), ([10, 4], [4, 10]), ([4, 11], [4, 11])])
def shardlogref08_Put1.B2 : List Nat := [0, 0, 2, 7, 15, 31, 31, 127, 255, 31, 1023, 2047, 4095]
theorem shardlogref08_Put1.tab2 : rtab .any (opsOf Try.f22 2) = shardlogref08_Put1.T2 := by kernel_rfl
theorem shardlogref08_Put1.bits2 : waitsOk shardlogref08_Put1.T2.2 shardlogref08_Put1.B2 = true := by kernel_rfl
def shardlogref08_Put1.T5 : Bool × List (List Nat × List Nat) := (true, [([], []), ([], []), ([1], [1]), ([0, 2], [0, 2]), ([3], [3]), ([4], [4]), ([4], [4]), ([5, 6, 4], [4, 5, 6]), ([7, 4], [4, 7]), ([4], [4]), ([8, 9, 4, 4], [4, 8, 9]), ([10, 4], [4, 10]), ([4, 11], [4, 11])])
def shardlogref08_Put1.B5 : List Nat := [0, 0, 2, 7, 15, 31, 31, 127, 255, 31, 1023, 2047, 4095]
theorem shardlogref08_Put1.tab5 : rtab .any (opsOf Try.f22 5) = shardlogref08_Put1.T5 := by kernel_rfl
theorem shardlogref08_Put1.bits5 : waitsOk shardlogref08_Put1.T5.2 shardlogref08_Put1.B5 = true := by kernel_rfl
def shardlogref08_Put1.T7 : Bool × List (List Nat × List Nat) := (true, [([], []), ([], []), ([], []), ([1, 2], [1, 2]), ([0, 3], [0, 3]), ([], []), ([5], [5]), ([4, 6, 4], [4, 6]), ([], []), ([7, 8, 7], [7, 8]), ([9, 9, 0, 1, 2, 3, 4, 5, 6, 7, 8, 9], [9])])
def shardlogref08_Put1.B7 : List Nat := [0, 0, 0, 6, 15, 0, 32, 127, 0, 511, 1023]
theorem shardlogref08_Put1.tab7 : rtab .any (opsOf Try.f22 7) = shardlogref08_Put1.T7 := by kernel_rfl
theorem shardlogref08_Put1.bits7 : waitsOk shardlogref08_Put1.T7.2 shardlogref08_Put1.B7 = true := by kernel_rfl
set_option maxHeartbeats 8000000 in
set_option maxRecDepth 100000 in
theorem shardlogref08_Put1.calls (k : Nat) (A0 : Option Addr) (c0 : Nat) (l0 : List (S46)) (a1_0 : ByteArray) (a1_1 : ByteArray) (a1_2 : Int) (a1_3 : ByteArray) (a1_4 : Bool) (r : List (S46)) (w : World) (hr0 : Kd.C k46 w A0 l0.length l0) (hc0 : l0.length ≤ c0) (h : shardlogref08_Put1.f k l0 a1_0 a1_1 a1_2 a1_3 a1_4 = some r) :
  Calls Try.prog 22 #[.slice A0 l0.length c0, .agg #[.string a1_0, .string a1_1, .int .i64 a1_2, .string a1_3, .bool a1_4]] w fun e w' => ∃ v0_ : Value, e = .returned (v0_) ∧ Kd.R k46 46 w' w.heap.size (fun _ => True) v0_ r ∧ Below w.heap.size w w' := by
 have hu46 := Try.underlying46
 have HR0 := aS hr0
 have HC0 := aS hc0
 clear hr0 hc0
 have HB := aS (Below.refl w.heap.size w)
 have H : (shardlogref08_Put1.l0 k l0 0 a1_0 a1_1 a1_2 a1_3 a1_4) = some r := h
 clear h
 have H' := aS H
 clear H
 go_enter Try.func22, Try.ntmps22
 go_wp2_with (first | ((with_reducible refine gate_dst (N := 3) rfl ?_); refine box_event ?hg (N := 3) ?hd (cs := #[.string a1_0, .string a1_1, .int .i64 a1_2, .string a1_3, .bool a1_4]) (t := 46) ?hr ?_; (case hd => rfl); (case hg => rfl); (case hr => first | (go_simp; done) | (go_simp; rfl)); intro gb401 hg w3 hbox hb; have n0_ := aS (below_step (by repeat (first | (with_reducible first | exact HB.out | apply bal | apply bdN | apply bdo) | exact HB.out)) hb); have n1_ := aS (hbox); have n2_ := aS ((by rw [hg]; exact (below_size (by repeat (first | (with_reducible first | exact HB.out | apply bal | apply bdN | apply bdo) | exact HB.out))) : w.heap.size ≤ gb401)); have n3_ := aS ((by rw [hg]; exact (below_size (by repeat (first | (with_reducible first | exact HB.out | apply bal | apply bdN | apply bdo) | exact HB.out))) : w.heap.size ≤ gb401)); clear HB; have HB := n0_; have BK401 := n1_; have GW401 := n2_; have GE401 := n3_; clear n0_ n1_ n2_ n3_; clear hb hbox hg))
 go_loopg [5] k (fun kq v5 w' => ∃ (x5_1 : Int), v5 = .int .i64 x5_1 ∧ Aside0 (shardlogref08_Put1.l0 kq l0 x5_1 a1_0 a1_1 a1_2 a1_3 a1_4 = some r) ∧ Aside0 (kq ≤ k) ∧ Aside0 (w'.heap[gb401]? = some (.cells #[.string a1_0, .string a1_1, .int .i64 a1_2, .string a1_3, .bool a1_4] 46 (0, 0))) ∧ Aside0 (Below w.heap.size w w'))
 case atStart => exact ⟨(0), (by first | rfl | (simp; done) | (simp [*]; done) | (simp; exact (by decide : ∀ a_ b_ : Bool, (a_ == b_) = (!a_ != b_)) _ _)), H', ⟨Nat.le_refl _⟩, ⟨by (with_reducible repeat (first | refine blk_drewN ?_ _ | refine blk_drew ?_ | refine blk_alloc ?_ _)); exact BK401.out⟩, ⟨by repeat (first | (with_reducible first | exact HB.out | apply bal | apply bdN | apply bdo | refine below_set ?_ GE401.out) | exact HB.out)⟩⟩
 case round =>
  clear H'; (try clear c2); (try clear p2)
  obtain ⟨x5_1, rfl, HA, HK1, BK401, HB⟩ := hrel
  cases gk with
  | zero => exact absurd HA.out (by simp [shardlogref08_Put1.l0])
  | succ k1 =>
   have H := HA.out; clear HA
   simp only [shardlogref08_Put1.l0] at H
   have HC4 := aS H
   clear H
   go_upto_region 2 with (fail)
   go_cut [19] (fun v19 wc => ∃ (kq : Nat) (x19_3 : Bool), v19 = .bool x19_3 ∧ Aside0 (shardlogref08_Put1.j1 kq l0 x5_1 x19_3 a1_0 a1_1 a1_2 a1_3 a1_4 = some r) ∧ Aside0 (kq ≤ k1) ∧ Aside0 (wc.heap[gb401]? = some (.cells #[.string a1_0, .string a1_1, .int .i64 a1_2, .string a1_3, .bool a1_4] 46 (0, 0))) ∧ Aside0 (Below w.heap.size w wc))
   case first =>
    have H := HC4.out; clear HC4
    by_cases c5 : x5_1 < (l0.length : Int)
    ·
     rw [if_pos c5] at H
     have c5b0 : decide (x5_1 < (l0.length : Int)) = true := decide_eq_true c5
     clear c5
     (first | rw [c5b0] | (simp only [i64_w, i32_w]; rw [c5b0]) | skip)
     by_cases c6 : 0 ≤ x5_1
     ·
      rw [if_pos c6] at H
      have c6b0 : decide (0 ≤ x5_1) = true := decide_eq_true c6
      clear c6
      replace H := obm H
      obtain ⟨t403, A70, H⟩ := H
      replace H : (shardlogref08_Put1.j1 k1 l0 x5_1 (t403 == (-1)) a1_0 a1_1 a1_2 a1_3 a1_4) = some r := H
      have A7 := aS A70
      clear A70
      have H' := aS H
      clear H
      try go_wp2
      have n0_ := aS (blk_drew BK401.out)
      have n1_ := aS (bdo HB.out)
      clear BK401; clear HB
      have BK401 := n0_
      have HB := n1_
      clear n0_ n1_
      have p402 : 0 ≤ (x5_1 : Int) := odt (by first | (with_reducible assumption) | assumption)
      have q402 : x5_1 < (l0.length : Int) := odt (by first | (with_reducible assumption) | assumption)
      obtain ⟨ad402, e402, hx402_0, hx402_1, hx402_2, hx402_3, hx402_4⟩ := at_T46 HR0.out x5_1 p402 q402
      have hw402_4 := hx402_4
      have hw402_3 := hx402_3
      have hw402_2 := hx402_2
      have hw402_1 := hx402_1
      have hw402_0 := hx402_0
      cases e402
      replace hx402_0 := (HB.out.cell (wbl w _ hx402_0)).trans hx402_0
      replace hx402_1 := (HB.out.cell (wbl w _ hx402_1)).trans hx402_1
      replace hx402_2 := (HB.out.cell (wbl w _ hx402_2)).trans hx402_2
      replace hx402_3 := (HB.out.cell (wbl w _ hx402_3)).trans hx402_3
      replace hx402_4 := (HB.out.cell (wbl w _ hx402_4)).trans hx402_4
      replace p402 := eq_true p402
      replace q402 := eq_true q402
      refine start_ (n := 13) (S := fun w' => w'.cell? ⟨gb401, 0, none⟩ = some (.string a1_0) ∧ w'.cell? ⟨gb401, 1, none⟩ = some (.string a1_1) ∧ w'.cell? ⟨gb401, 2, none⟩ = some (.int .i64 a1_2) ∧ w'.cell? ⟨gb401, 3, none⟩ = some (.string a1_3) ∧ w'.cell? ⟨gb401, 4, none⟩ = some (.bool a1_4) ∧ w'.cell? (ad402.add ((x5_1).toNat * 5)) = some (.string ((rd_T46 l0 x5_1).f0)) ∧ w'.cell? ⟨(ad402.add ((x5_1).toNat * 5)).block, (ad402.add ((x5_1).toNat * 5)).off + 1, none⟩ = some (.string ((rd_T46 l0 x5_1).f1)) ∧ w'.cell? ⟨(ad402.add ((x5_1).toNat * 5)).block, (ad402.add ((x5_1).toNat * 5)).off + 2, none⟩ = some (.int .i64 ((rd_T46 l0 x5_1).f2)) ∧ w'.cell? ⟨(ad402.add ((x5_1).toNat * 5)).block, (ad402.add ((x5_1).toNat * 5)).off + 3, none⟩ = some (.string ((rd_T46 l0 x5_1).f3)) ∧ w'.cell? ⟨(ad402.add ((x5_1).toNat * 5)).block, (ad402.add ((x5_1).toNat * 5)).off + 4, none⟩ = some (.bool ((rd_T46 l0 x5_1).f4))) (ds := []) #[false, false, false, false, false, false, false, false, false, false, false, false, false] (by kernel_rfl) rfl rfl ⟨(blk_cell BK401.out 0).trans rfl, (blk_cell BK401.out 1).trans rfl, (blk_cell BK401.out 2).trans rfl, (blk_cell BK401.out 3).trans rfl, (blk_cell BK401.out 4).trans rfl, ((HB.out.cell (wbl w _ hw402_0)).trans hw402_0), ((HB.out.cell (wbl w _ hw402_1)).trans hw402_1), ((HB.out.cell (wbl w _ hw402_2)).trans hw402_2), ((HB.out.cell (wbl w _ hw402_3)).trans hw402_3), ((HB.out.cell (wbl w _ hw402_4)).trans hw402_4)⟩ (fun hHeld => ?_); refine with_tabW shardlogref08_Put1.tab2 shardlogref08_Put1.bits2 (fun HT_ HW_ => ?_)
      generalize wr.drew = w8 at BK401 HB hx402_0 hx402_1 hx402_2 hx402_3 hx402_4 hHeld ⊢
      refine pure_ (i := 0) (N := some 7) (v := ?_) (a' := ?_) #[true, false, false, false, false, false, false, false, false, false, false, false, false] rfl rfl (any_of HT_.out (by kernel_rfl)) (fun _ _ _ h => h) (Or.inl ⟨by rfl, ?_⟩) ?_ ?_
      rotate_left
      ·
       intro w'
       go_simp
       with_reducible rfl
      rotate_left
      ·
       simp only [Act.put, lsa, lsz, lss, i64_w, i32_w]
       rfl
      refine pure_ (i := 1) (N := some 8) (v := ?_) (a' := ?_) #[true, true, false, false, false, false, false, false, false, false, false, false, false] rfl rfl (any_of HT_.out (by kernel_rfl)) (fun _ _ _ h => h) (Or.inl ⟨by rfl, ?_⟩) ?_ ?_
      rotate_left
      ·
       intro w'
       go_simp
       with_reducible rfl
      rotate_left
      ·
       simp only [Act.put, lsa, lsz, lss, i64_w, i32_w]
       rfl
      refine pure_ (i := 2) (N := some 9) (v := ?_) (a' := ?_) #[true, true, true, false, false, false, false, false, false, false, false, false, false] rfl rfl (any_of HT_.out (by kernel_rfl)) (fun _ _ _ h => h) (Or.inl ⟨by rfl, ?_⟩) ?_ ?_
      rotate_left
      ·
       intro w'
       go_simp
       with_reducible rfl
      rotate_left
      ·
       simp only [Act.put, lsa, lsz, lss, i64_w, i32_w]
       rfl
      refine pure_ (i := 3) (N := some 10) (v := ?_) (a' := ?_) #[true, true, true, true, false, false, false, false, false, false, false, false, false] rfl rfl (any_of HT_.out (by kernel_rfl)) (fun _ _ _ h => h) (Or.inl ⟨by rfl, ?_⟩) ?_ ?_
      rotate_left
      ·
       intro w'
       go_simp
       with_reducible rfl
      rotate_left
      ·
       simp only [Act.put, lsa, lsz, lss, i64_w, i32_w]
       rfl
      refine pure_ (i := 4) (N := some 11) (v := ?_) (a' := ?_) #[true, true, true, true, true, false, false, false, false, false, false, false, false] rfl rfl (any_of HT_.out (by kernel_rfl)) (fun _ _ _ h => h) (Or.inl ⟨by rfl, ?_⟩) ?_ ?_
      rotate_left
      ·
       intro w'
       go_simp
       with_reducible rfl
      rotate_left
      ·
       simp only [Act.put, lsa, lsz, lss, i64_w, i32_w]
       rfl
      refine pure_ (i := 5) (N := some 12) (v := ?_) (a' := ?_) #[true, true, true, true, true, true, false, false, false, false, false, false, false] rfl rfl (any_of HT_.out (by kernel_rfl)) (fun _ _ _ h => h) (Or.inl ⟨by rfl, ?_⟩) ?_ ?_
      rotate_left
      ·
       intro w'
       go_simp
       with_reducible rfl
      rotate_left
      ·
       simp only [Act.put, lsa, lsz, lss, i64_w, i32_w]
       rfl
      refine pure_ (i := 6) (N := some 13) (v := ?_) (a' := ?_) #[true, true, true, true, true, true, true, false, false, false, false, false, false] rfl rfl (any_of HT_.out (by kernel_rfl)) (fun _ _ _ h => h) (Or.inl ⟨by rfl, ?_⟩) ?_ ?_
      rotate_left
      ·
       intro w'
       go_simp
       with_reducible rfl
      rotate_left
      ·
       simp only [Act.put, lsa, lsz, lss, i64_w, i32_w]
       rfl
      refine pure_ (i := 7) (N := some 14) (v := ?_) (a' := ?_) #[true, true, true, true, true, true, true, true, false, false, false, false, false] rfl rfl (any_of HT_.out (by kernel_rfl)) (fun _ _ _ h => h) (Or.inl ⟨by rfl, ?_⟩) ?_ ?_
      rotate_left
      ·
       intro w'
       go_simp
       with_reducible rfl
      rotate_left
      ·
       simp only [Act.put, lsa, lsz, lss, i64_w, i32_w]
       rfl
      refine take_ (i := 8) (N := some 15) (v := ?_) (a' := ?_) #[true, true, true, true, true, true, true, true, true, false, false, false, false] rfl rfl (take_ofW HT_.out HW_.out (by kernel_rfl)) (fun _ _ _ h => h) (Or.inl ⟨by rfl, ?_⟩) hHeld ?_ ?_
      rotate_left
      ·
       rintro w' ⟨s0, s1, s2, s3, s4, s5, s6, s7, s8, s9⟩
       go_simp
       with_reducible rfl
      rotate_left
      ·
       simp only [Act.put, lsa, lsz, lss, i64_w, i32_w]
       rfl
      refine take_ (i := 9) (N := some 16) (v := ?_) (a' := ?_) #[true, true, true, true, true, true, true, true, true, true, false, false, false] rfl rfl (take_ofW HT_.out HW_.out (by kernel_rfl)) (fun _ _ _ h => h) (Or.inl ⟨by rfl, ?_⟩) hHeld ?_ ?_
      rotate_left
      ·
       rintro w' ⟨s0, s1, s2, s3, s4, s5, s6, s7, s8, s9⟩
       go_simp
       with_reducible rfl
      rotate_left
      ·
       simp only [Act.put, lsa, lsz, lss, i64_w, i32_w]
       rfl
      refine one_ (i := 10) (N := some 17) #[true, true, true, true, true, true, true, true, true, true, true, false, false] rfl rfl (one_of HT_.out (by kernel_rfl)) (by decide) (fun K hK => ?_)
      refine goes_ Try.func26 (by kernel_rfl) rfl #[.agg #[.string ((rd_T46 l0 x5_1).f0), .string ((rd_T46 l0 x5_1).f1), .int .i64 ((rd_T46 l0 x5_1).f2), .string ((rd_T46 l0 x5_1).f3), .bool ((rd_T46 l0 x5_1).f4)], .agg #[.string a1_0, .string a1_1, .int .i64 a1_2, .string a1_3, .bool a1_4]] (by rfl) rfl rfl (by (try simp only [List.map_toArray, List.map_cons, List.map_nil]); first | done | rfl | (simp only [lld, llt]; rfl)) ?_
      with_reducible refine (shardlogref08_Compare.calls k1 ((rd_T46 l0 x5_1).f0) ((rd_T46 l0 x5_1).f1) ((rd_T46 l0 x5_1).f2) ((rd_T46 l0 x5_1).f3) ((rd_T46 l0 x5_1).f4) a1_0 a1_1 a1_2 a1_3 a1_4 t403 _ A7.out).mono ?_
      rintro e w9 ⟨rfl, hb⟩
      refine ⟨_, rfl, ?_⟩
      have n0_ := aS (blk_below (g := gb401) (o := .cells #[.string a1_0, .string a1_1, .int .i64 a1_2, .string a1_3, .bool a1_4] 46 (0, 0)) (by (with_reducible repeat (first | refine blk_drewN ?_ _ | refine blk_drew ?_ | refine blk_alloc ?_ _)); exact BK401.out) hb)
      have n1_ := aS (below_step (by repeat (first | (with_reducible first | exact HB.out | apply bal | apply bdN | apply bdo | refine below_set ?_ GE401.out) | exact HB.out)) hb)
      clear BK401; clear HB
      have BK401 := n0_
      have HB := n1_
      clear n0_ n1_; (try clear hb); (try clear hb2); (try clear hk); (try clear hi)
      refine hK.out _ _ ⟨(blk_cell BK401.out 0).trans rfl, (blk_cell BK401.out 1).trans rfl, (blk_cell BK401.out 2).trans rfl, (blk_cell BK401.out 3).trans rfl, (blk_cell BK401.out 4).trans rfl, ((HB.out.cell (wbl w _ hw402_0)).trans hw402_0), ((HB.out.cell (wbl w _ hw402_1)).trans hw402_1), ((HB.out.cell (wbl w _ hw402_2)).trans hw402_2), ((HB.out.cell (wbl w _ hw402_3)).trans hw402_3), ((HB.out.cell (wbl w _ hw402_4)).trans hw402_4)⟩ (fun hHeld => ?_)
      clear hK K
      refine norm_ (a' := ?_) ?_ ?_
      rotate_left
      ·
       show Act.put _ (some 17) _ = _
       simp only [Act.put, lsa, lsz, lss, i64_w, i32_w]
       rfl
      refine pure_ (i := 11) (N := some 18) (v := ?_) (a' := ?_) #[true, true, true, true, true, true, true, true, true, true, true, true, false] rfl rfl (any_of HT_.out (by kernel_rfl)) (fun _ _ _ h => h) (Or.inl ⟨by rfl, ?_⟩) ?_ ?_
      rotate_left
      ·
       intro w'
       go_simp
       with_reducible rfl
      rotate_left
      ·
       simp only [Act.put, lsa, lsz, lss, i64_w, i32_w]
       rfl
      refine pure_ (i := 12) (N := some 19) (v := ?_) (a' := ?_) #[true, true, true, true, true, true, true, true, true, true, true, true, true] rfl rfl (any_of HT_.out (by kernel_rfl)) (fun _ _ _ h => h) (Or.inl ⟨by rfl, ?_⟩) ?_ ?_
      rotate_left
      ·
       intro w'
       go_simp
       with_reducible rfl
      rotate_left
      ·
       simp only [Act.put, lsa, lsz, lss, i64_w, i32_w]
       rfl
      refine done_ (done_of HT_.out (by kernel_rfl)) ?_
      try go_wp2
      go_meet
      case rel => exact ⟨_, ((t403 == (-1))), (by first | rfl | (simp; done) | (simp [*]; done) | (simp; exact (by decide : ∀ a_ b_ : Bool, (a_ == b_) = (!a_ != b_)) _ _)), H', ⟨by have := HK1.out; first | omega | exact Nat.le_refl _⟩, ⟨by (with_reducible repeat (first | refine blk_drewN ?_ _ | refine blk_drew ?_ | refine blk_alloc ?_ _)); exact BK401.out⟩, ⟨by repeat (first | (with_reducible first | exact HB.out | apply bal | apply bdN | apply bdo | refine below_set ?_ GE401.out) | exact HB.out)⟩⟩
     ·
      rw [if_neg c6] at H
      exact absurd H (by simp)
    ·
     rw [if_neg c5] at H
     have c5b0 : decide (x5_1 < (l0.length : Int)) = false := decide_eq_false c5
     clear c5
     (first | rw [c5b0] | (simp only [i64_w, i32_w]; rw [c5b0]) | skip)
     have H' := aS H
     clear H
     try go_wp2
     have n0_ := aS (blk_drew BK401.out)
     have n1_ := aS (bdo HB.out)
     clear BK401; clear HB
     have BK401 := n0_
     have HB := n1_
     clear n0_ n1_
     refine start_ (n := 13) (S := fun w' => True) (ds := []) #[false, false, false, false, false, false, false, false, false, false, false, false, false] (by kernel_rfl) rfl rfl trivial (fun hHeld => ?_); refine with_tabW shardlogref08_Put1.tab2 shardlogref08_Put1.bits2 (fun HT_ HW_ => ?_)
     generalize wr.drew = w10 at BK401 HB hHeld ⊢
     refine pure_ (i := 0) (N := some 7) (v := ?_) (a' := ?_) #[true, false, false, false, false, false, false, false, false, false, false, false, false] rfl rfl (any_of HT_.out (by kernel_rfl)) (fun _ _ _ h => h) (Or.inl ⟨by rfl, ?_⟩) ?_ ?_
     rotate_left
     ·
      intro w'
      go_simp
      with_reducible rfl
     rotate_left
     ·
      simp only [Act.put, lsa, lsz, lss, i64_w, i32_w]
      rfl
     refine pure_ (i := 1) (N := some 8) (v := ?_) (a' := ?_) #[true, true, false, false, false, false, false, false, false, false, false, false, false] rfl rfl (any_of HT_.out (by kernel_rfl)) (fun _ _ _ h => h) (Or.inl ⟨by rfl, ?_⟩) ?_ ?_
     rotate_left
     ·
      intro w'
      go_simp
      with_reducible rfl
     rotate_left
     ·
      simp only [Act.put, lsa, lsz, lss, i64_w, i32_w]
      rfl
     refine pure_ (i := 2) (N := some 9) (v := ?_) (a' := ?_) #[true, true, true, false, false, false, false, false, false, false, false, false, false] rfl rfl (any_of HT_.out (by kernel_rfl)) (fun _ _ _ h => h) (Or.inl ⟨by rfl, ?_⟩) ?_ ?_
     rotate_left
     ·
      intro w'
      go_simp
      with_reducible rfl
     rotate_left
     ·
      simp only [Act.put, lsa, lsz, lss, i64_w, i32_w]
      rfl
     refine pure_ (i := 3) (N := some 10) (v := ?_) (a' := ?_) #[true, true, true, true, false, false, false, false, false, false, false, false, false] rfl rfl (any_of HT_.out (by kernel_rfl)) (fun _ _ _ h => h) (Or.inl ⟨by rfl, ?_⟩) ?_ ?_
     rotate_left
     ·
      intro w'
      go_simp
      with_reducible rfl
     rotate_left
     ·
      simp only [Act.put, lsa, lsz, lss, i64_w, i32_w]
      rfl
     refine pure_ (i := 4) (N := some 11) (v := ?_) (a' := ?_) #[true, true, true, true, true, false, false, false, false, false, false, false, false] rfl rfl (any_of HT_.out (by kernel_rfl)) (fun _ _ _ h => h) (Or.inl ⟨by rfl, ?_⟩) ?_ ?_
     rotate_left
     ·
      intro w'
      go_simp
      with_reducible rfl
     rotate_left
     ·
      simp only [Act.put, lsa, lsz, lss, i64_w, i32_w]
      rfl
     refine pure_ (i := 5) (N := some 12) (v := undef) (a' := ?_) #[true, true, true, true, true, true, false, false, false, false, false, false, false] rfl rfl (any_of HT_.out (by kernel_rfl)) (fun _ _ _ h => h) (Or.inr ⟨by rfl, rfl⟩) ?_ ?_
     rotate_left
     ·
      simp only [Act.put, lsa, lsz, lss, i64_w, i32_w]
      rfl
     refine pure_ (i := 6) (N := some 13) (v := undef) (a' := ?_) #[true, true, true, true, true, true, true, false, false, false, false, false, false] rfl rfl (any_of HT_.out (by kernel_rfl)) (fun _ _ _ h => h) (Or.inr ⟨by rfl, rfl⟩) ?_ ?_
     rotate_left
     ·
      simp only [Act.put, lsa, lsz, lss, i64_w, i32_w]
      rfl
     refine pure_ (i := 7) (N := some 14) (v := undef) (a' := ?_) #[true, true, true, true, true, true, true, true, false, false, false, false, false] rfl rfl (any_of HT_.out (by kernel_rfl)) (fun _ _ _ h => h) (Or.inr ⟨by rfl, rfl⟩) ?_ ?_
     rotate_left
     ·
      simp only [Act.put, lsa, lsz, lss, i64_w, i32_w]
      rfl
     refine pure_ (i := 8) (N := some 15) (v := undef) (a' := ?_) #[true, true, true, true, true, true, true, true, true, false, false, false, false] rfl rfl (any_of HT_.out (by kernel_rfl)) (fun _ _ _ h => h) (Or.inr ⟨by rfl, rfl⟩) ?_ ?_
     rotate_left
     ·
      simp only [Act.put, lsa, lsz, lss, i64_w, i32_w]
      rfl
     refine pure_ (i := 9) (N := some 16) (v := undef) (a' := ?_) #[true, true, true, true, true, true, true, true, true, true, false, false, false] rfl rfl (any_of HT_.out (by kernel_rfl)) (fun _ _ _ h => h) (Or.inr ⟨by rfl, rfl⟩) ?_ ?_
     rotate_left
     ·
      simp only [Act.put, lsa, lsz, lss, i64_w, i32_w]
      rfl
     refine pure_ (i := 10) (N := some 17) (v := undef) (a' := ?_) #[true, true, true, true, true, true, true, true, true, true, true, false, false] rfl rfl (any_of HT_.out (by kernel_rfl)) (fun _ _ _ h => h) (Or.inr ⟨by rfl, rfl⟩) ?_ ?_
     rotate_left
     ·
      simp only [Act.put, lsa, lsz, lss, i64_w, i32_w]
      rfl
     refine pure_ (i := 11) (N := some 18) (v := undef) (a' := ?_) #[true, true, true, true, true, true, true, true, true, true, true, true, false] rfl rfl (any_of HT_.out (by kernel_rfl)) (fun _ _ _ h => h) (Or.inr ⟨by rfl, rfl⟩) ?_ ?_
     rotate_left
     ·
      simp only [Act.put, lsa, lsz, lss, i64_w, i32_w]
      rfl
     refine pure_ (i := 12) (N := some 19) (v := ?_) (a' := ?_) #[true, true, true, true, true, true, true, true, true, true, true, true, true] rfl rfl (any_of HT_.out (by kernel_rfl)) (fun _ _ _ h => h) (Or.inl ⟨by rfl, ?_⟩) ?_ ?_
     rotate_left
     ·
      intro w'
      go_simp
      with_reducible rfl
     rotate_left
     ·
      simp only [Act.put, lsa, lsz, lss, i64_w, i32_w]
      rfl
     refine done_ (done_of HT_.out (by kernel_rfl)) ?_
     try go_wp2
     go_meet
     case rel => exact ⟨_, (false), (by first | rfl | (simp; done) | (simp [*]; done) | (simp; exact (by decide : ∀ a_ b_ : Bool, (a_ == b_) = (!a_ != b_)) _ _)), H', ⟨by have := HK1.out; first | omega | exact Nat.le_refl _⟩, ⟨by (with_reducible repeat (first | refine blk_drewN ?_ _ | refine blk_drew ?_ | refine blk_alloc ?_ _)); exact BK401.out⟩, ⟨by repeat (first | (with_reducible first | exact HB.out | apply bal | apply bdN | apply bdo | refine below_set ?_ GE401.out) | exact HB.out)⟩⟩
   case rest =>
    clear HC4; (try clear c2); (try clear p2); (try clear p4); (try clear q4); (try clear hx4); (try clear c5); (try clear c5b0); (try clear c6); (try clear c6b0); (try clear hx402_0); (try clear hx402_1); (try clear hx402_2); (try clear hx402_3); (try clear hx402_4); (try clear p2); (try clear p402); (try clear q402)
    obtain ⟨kq, x19_3, rfl, HA, HJ3, BK401, HB⟩ := hcut
    cases kq with
    | zero => exact absurd HA.out (by simp [shardlogref08_Put1.j1])
    | succ kj3 =>
     have H := HA.out; clear HA
     simp only [shardlogref08_Put1.j1] at H
     by_cases c11 : x19_3 = true
     ·
      subst c11
      have H1 : (shardlogref08_Put1.l0 kj3 l0 (wrap64 (x5_1 + 1)) a1_0 a1_1 a1_2 a1_3 a1_4) = some r := by rw [if_pos rfl] at H; exact H
      clear H; have H := H1; clear H1
      have H' := aS H
      clear H
      go_wp2
      go_roundg kj3
      case measure => have := HK1.out; have := HJ3.out; omega
      case rel => exact ⟨(wrap64 (x5_1 + 1)), (by first | rfl | (simp; done) | (simp [*]; done) | (simp; exact (by decide : ∀ a_ b_ : Bool, (a_ == b_) = (!a_ != b_)) _ _)), H', ⟨by have := HK1.out; have := HJ3.out; omega⟩, ⟨by (with_reducible repeat (first | refine blk_drewN ?_ _ | refine blk_drew ?_ | refine blk_alloc ?_ _)); exact BK401.out⟩, ⟨by repeat (first | (with_reducible first | exact HB.out | apply bal | apply bdN | apply bdo | refine below_set ?_ GE401.out) | exact HB.out)⟩⟩
     ·
      replace c11 := Bool.eq_false_iff.mpr c11
      subst c11
      have H1 : (if 0 ≤ x5_1 then (if x5_1 ≤ (l0.length : Int) then ((some (l0.drop (x5_1 : Int).toNat : List (S46))).bind fun y404 => (if x5_1 < (l0.length : Int) then ((shardlogref08_Compare.f kj3 ((rd_T46 l0 x5_1).f0) ((rd_T46 l0 x5_1).f1) ((rd_T46 l0 x5_1).f2) ((rd_T46 l0 x5_1).f3) ((rd_T46 l0 x5_1).f4) a1_0 a1_1 a1_2 a1_3 a1_4).bind fun t409 => (shardlogref08_Put1.j2 kj3 l0 x5_1 y404 (t409 == 0) a1_0 a1_1 a1_2 a1_3 a1_4)) else (shardlogref08_Put1.j2 kj3 l0 x5_1 y404 false a1_0 a1_1 a1_2 a1_3 a1_4))) else (none)) else (none)) = some r := by rw [if_neg (show ¬ (false = true) by decide)] at H; exact H
      clear H; have H := H1; clear H1
      by_cases c12 : 0 ≤ x5_1
      ·
       rw [if_pos c12] at H
       have c12b0 := eq_true c12
       have c12b1 : decide (0 ≤ x5_1) = true := decide_eq_true c12
       clear c12
       by_cases c13 : x5_1 ≤ (l0.length : Int)
       ·
        rw [if_pos c13] at H
        have c13b0 := eq_true c13
        have c13b1 : decide (x5_1 ≤ (l0.length : Int)) = true := decide_eq_true c13
        clear c13
        obtain ⟨y404, hy404⟩ : ∃ y_ : List (S46), y_ = (l0.drop (x5_1 : Int).toNat) := ⟨_, rfl⟩
        replace H : (if x5_1 < (l0.length : Int) then ((shardlogref08_Compare.f kj3 ((rd_T46 l0 x5_1).f0) ((rd_T46 l0 x5_1).f1) ((rd_T46 l0 x5_1).f2) ((rd_T46 l0 x5_1).f3) ((rd_T46 l0 x5_1).f4) a1_0 a1_1 a1_2 a1_3 a1_4).bind fun t409 => (shardlogref08_Put1.j2 kj3 l0 x5_1 y404 (t409 == 0) a1_0 a1_1 a1_2 a1_3 a1_4)) else (shardlogref08_Put1.j2 kj3 l0 x5_1 y404 false a1_0 a1_1 a1_2 a1_3 a1_4)) = some r := by first | (rw [hy404]; with_reducible exact H) | (have H2_ := (Option.bind_some _ _).symm.trans H; rw [hy404]; with_reducible exact H2_) | (have H2_ := (Option.bind_some _ _).symm.trans H; with_reducible exact H2_) | with_reducible exact H | (rw [hy404]; exact H) | exact H
        have Ny404 := aS hy404
        clear hy404
        have HC14 := aS H
        clear H
        have q15 : (x5_1 : Int) ≤ ((l0.length : Int) : Int) := odt (by first | (with_reducible assumption) | assumption)
        obtain ⟨i015, hi015, _, hsz15, _⟩ := info_parts info46
        have hroom15 : l0.length ≤ c0 := HC0.out
        have hC15 : Kd.C k46 _ A0 l0.length l0 := HR0.out
        have q015 : (0 : Int) ≤ (x5_1 : Int) := odt (by first | (with_reducible assumption) | assumption)
        have hcut15 := cut_from (P := Try.prog) 22 46 .i64 Try.underlying22 hi015 5 hsz15 A0 l0.length c0 x5_1 q015 q15
        have hr15 := Kd.C_drop (m := (x5_1 : Int).toNat) (c := c0) hC15 (by omega) hroom15
        obtain ⟨A15, hA15⟩ : ∃ A1_, A1_ = (if c0 = (x5_1 : Int).toNat then A0 else (A0 : Option Addr).map (·.add ((x5_1 : Int).toNat * 5))) := ⟨_, rfl⟩
        obtain ⟨c15, hc15⟩ : ∃ c1_, c1_ = c0 - (x5_1 : Int).toNat := ⟨_, rfl⟩
        have hy15 : y404.length = l0.length - (x5_1 : Int).toNat := (by rw [Ny404.out, lld] <;> omega)
        rw [show (l0).drop (x5_1 : Int).toNat = y404 from Ny404.out.symm] at hr15
        replace hr15 : Kd.C k46 _ A15 y404.length y404 := (by rw [hA15]; exact hr15)
        rw [← hy15, ← hA15, ← hc15] at hcut15
        have HR407 := aS hr15
        have HC407 := aS (show y404.length ≤ c15 from by rw [hy15, hc15]; exact Nat.sub_le_sub_right hroom15 _)
        clear hr15 hC15 hroom15 hi015 hsz15 hc15
        have KY15 := aS hy15
        have KA15 := aS hA15
        clear hy15 hA15
        replace q15 := eq_true q15
        go_upto_region 5 with (fail)
        go_cut [37] (fun v37 wc => ∃ (kq : Nat) (x37_13 : Bool), v37 = .bool x37_13 ∧ Aside0 (shardlogref08_Put1.j2 kq l0 x5_1 y404 x37_13 a1_0 a1_1 a1_2 a1_3 a1_4 = some r) ∧ Aside0 (kq ≤ kj3) ∧ Aside0 (wc.heap[gb401]? = some (.cells #[.string a1_0, .string a1_1, .int .i64 a1_2, .string a1_3, .bool a1_4] 46 (0, 0))) ∧ Aside0 (Below w.heap.size w wc))
        case first =>
         have H := HC14.out; clear HC14
         by_cases c16 : x5_1 < (l0.length : Int)
         ·
          rw [if_pos c16] at H
          have c16b0 : decide (x5_1 < (l0.length : Int)) = true := decide_eq_true c16
          clear c16
          (first | rw [c16b0] | (simp only [i64_w, i32_w]; rw [c16b0]) | skip)
          replace H := obm H
          obtain ⟨t409, A170, H⟩ := H
          replace H : (shardlogref08_Put1.j2 kj3 l0 x5_1 y404 (t409 == 0) a1_0 a1_1 a1_2 a1_3 a1_4) = some r := H
          have A17 := aS A170
          clear A170
          have H' := aS H
          clear H
          try go_wp2
          have n0_ := aS (blk_drew BK401.out)
          have n1_ := aS (bdo HB.out)
          clear BK401; clear HB
          have BK401 := n0_
          have HB := n1_
          clear n0_ n1_
          have p408 : 0 ≤ (x5_1 : Int) := odt (by first | (with_reducible assumption) | assumption)
          have q408 : x5_1 < (l0.length : Int) := odt (by first | (with_reducible assumption) | assumption)
          obtain ⟨ad408, e408, hx408_0, hx408_1, hx408_2, hx408_3, hx408_4⟩ := at_T46 HR0.out x5_1 p408 q408
          have hw408_4 := hx408_4
          have hw408_3 := hx408_3
          have hw408_2 := hx408_2
          have hw408_1 := hx408_1
          have hw408_0 := hx408_0
          cases e408
          replace hx408_0 := (HB.out.cell (wbl w _ hx408_0)).trans hx408_0
          replace hx408_1 := (HB.out.cell (wbl w _ hx408_1)).trans hx408_1
          replace hx408_2 := (HB.out.cell (wbl w _ hx408_2)).trans hx408_2
          replace hx408_3 := (HB.out.cell (wbl w _ hx408_3)).trans hx408_3
          replace hx408_4 := (HB.out.cell (wbl w _ hx408_4)).trans hx408_4
          replace p408 := eq_true p408
          replace q408 := eq_true q408
          refine start_ (n := 13) (S := fun w' => w'.cell? ⟨gb401, 0, none⟩ = some (.string a1_0) ∧ w'.cell? ⟨gb401, 1, none⟩ = some (.string a1_1) ∧ w'.cell? ⟨gb401, 2, none⟩ = some (.int .i64 a1_2) ∧ w'.cell? ⟨gb401, 3, none⟩ = some (.string a1_3) ∧ w'.cell? ⟨gb401, 4, none⟩ = some (.bool a1_4) ∧ w'.cell? (ad408.add ((x5_1).toNat * 5)) = some (.string ((rd_T46 l0 x5_1).f0)) ∧ w'.cell? ⟨(ad408.add ((x5_1).toNat * 5)).block, (ad408.add ((x5_1).toNat * 5)).off + 1, none⟩ = some (.string ((rd_T46 l0 x5_1).f1)) ∧ w'.cell? ⟨(ad408.add ((x5_1).toNat * 5)).block, (ad408.add ((x5_1).toNat * 5)).off + 2, none⟩ = some (.int .i64 ((rd_T46 l0 x5_1).f2)) ∧ w'.cell? ⟨(ad408.add ((x5_1).toNat * 5)).block, (ad408.add ((x5_1).toNat * 5)).off + 3, none⟩ = some (.string ((rd_T46 l0 x5_1).f3)) ∧ w'.cell? ⟨(ad408.add ((x5_1).toNat * 5)).block, (ad408.add ((x5_1).toNat * 5)).off + 4, none⟩ = some (.bool ((rd_T46 l0 x5_1).f4))) (ds := []) #[false, false, false, false, false, false, false, false, false, false, false, false, false] (by kernel_rfl) rfl rfl ⟨(blk_cell BK401.out 0).trans rfl, (blk_cell BK401.out 1).trans rfl, (blk_cell BK401.out 2).trans rfl, (blk_cell BK401.out 3).trans rfl, (blk_cell BK401.out 4).trans rfl, ((HB.out.cell (wbl w _ hw408_0)).trans hw408_0), ((HB.out.cell (wbl w _ hw408_1)).trans hw408_1), ((HB.out.cell (wbl w _ hw408_2)).trans hw408_2), ((HB.out.cell (wbl w _ hw408_3)).trans hw408_3), ((HB.out.cell (wbl w _ hw408_4)).trans hw408_4)⟩ (fun hHeld => ?_); refine with_tabW shardlogref08_Put1.tab5 shardlogref08_Put1.bits5 (fun HT_ HW_ => ?_)
          generalize wc.drew = w18 at BK401 HB hx408_0 hx408_1 hx408_2 hx408_3 hx408_4 hHeld ⊢
          refine pure_ (i := 0) (N := some 25) (v := ?_) (a' := ?_) #[true, false, false, false, false, false, false, false, false, false, false, false, false] rfl rfl (any_of HT_.out (by kernel_rfl)) (fun _ _ _ h => h) (Or.inl ⟨by rfl, ?_⟩) ?_ ?_
          rotate_left
          ·
           intro w'
           go_simp
           with_reducible rfl
          rotate_left
          ·
           simp only [Act.put, lsa, lsz, lss, i64_w, i32_w]
           rfl
          refine pure_ (i := 1) (N := some 26) (v := ?_) (a' := ?_) #[true, true, false, false, false, false, false, false, false, false, false, false, false] rfl rfl (any_of HT_.out (by kernel_rfl)) (fun _ _ _ h => h) (Or.inl ⟨by rfl, ?_⟩) ?_ ?_
          rotate_left
          ·
           intro w'
           go_simp
           with_reducible rfl
          rotate_left
          ·
           simp only [Act.put, lsa, lsz, lss, i64_w, i32_w]
           rfl
          refine pure_ (i := 2) (N := some 27) (v := ?_) (a' := ?_) #[true, true, true, false, false, false, false, false, false, false, false, false, false] rfl rfl (any_of HT_.out (by kernel_rfl)) (fun _ _ _ h => h) (Or.inl ⟨by rfl, ?_⟩) ?_ ?_
          rotate_left
          ·
           intro w'
           go_simp
           with_reducible rfl
          rotate_left
          ·
           simp only [Act.put, lsa, lsz, lss, i64_w, i32_w]
           rfl
          refine pure_ (i := 3) (N := some 28) (v := ?_) (a' := ?_) #[true, true, true, true, false, false, false, false, false, false, false, false, false] rfl rfl (any_of HT_.out (by kernel_rfl)) (fun _ _ _ h => h) (Or.inl ⟨by rfl, ?_⟩) ?_ ?_
          rotate_left
          ·
           intro w'
           go_simp
           with_reducible rfl
          rotate_left
          ·
           simp only [Act.put, lsa, lsz, lss, i64_w, i32_w]
           rfl
          refine pure_ (i := 4) (N := some 29) (v := ?_) (a' := ?_) #[true, true, true, true, true, false, false, false, false, false, false, false, false] rfl rfl (any_of HT_.out (by kernel_rfl)) (fun _ _ _ h => h) (Or.inl ⟨by rfl, ?_⟩) ?_ ?_
          rotate_left
          ·
           intro w'
           go_simp
           with_reducible rfl
          rotate_left
          ·
           simp only [Act.put, lsa, lsz, lss, i64_w, i32_w]
           rfl
          refine pure_ (i := 5) (N := some 30) (v := ?_) (a' := ?_) #[true, true, true, true, true, true, false, false, false, false, false, false, false] rfl rfl (any_of HT_.out (by kernel_rfl)) (fun _ _ _ h => h) (Or.inl ⟨by rfl, ?_⟩) ?_ ?_
          rotate_left
          ·
           intro w'
           go_simp
           with_reducible rfl
          rotate_left
          ·
           simp only [Act.put, lsa, lsz, lss, i64_w, i32_w]
           rfl
          refine pure_ (i := 6) (N := some 31) (v := ?_) (a' := ?_) #[true, true, true, true, true, true, true, false, false, false, false, false, false] rfl rfl (any_of HT_.out (by kernel_rfl)) (fun _ _ _ h => h) (Or.inl ⟨by rfl, ?_⟩) ?_ ?_
          rotate_left
          ·
           intro w'
           go_simp
           with_reducible rfl
          rotate_left
          ·
           simp only [Act.put, lsa, lsz, lss, i64_w, i32_w]
           rfl
          refine pure_ (i := 7) (N := some 32) (v := ?_) (a' := ?_) #[true, true, true, true, true, true, true, true, false, false, false, false, false] rfl rfl (any_of HT_.out (by kernel_rfl)) (fun _ _ _ h => h) (Or.inl ⟨by rfl, ?_⟩) ?_ ?_
          rotate_left
          ·
           intro w'
           go_simp
           with_reducible rfl
          rotate_left
          ·
           simp only [Act.put, lsa, lsz, lss, i64_w, i32_w]
           rfl
          refine take_ (i := 8) (N := some 33) (v := ?_) (a' := ?_) #[true, true, true, true, true, true, true, true, true, false, false, false, false] rfl rfl (take_ofW HT_.out HW_.out (by kernel_rfl)) (fun _ _ _ h => h) (Or.inl ⟨by rfl, ?_⟩) hHeld ?_ ?_
          rotate_left
          ·
           rintro w' ⟨s0, s1, s2, s3, s4, s5, s6, s7, s8, s9⟩
           go_simp
           with_reducible rfl
          rotate_left
          ·
           simp only [Act.put, lsa, lsz, lss, i64_w, i32_w]
           rfl
          refine take_ (i := 9) (N := some 34) (v := ?_) (a' := ?_) #[true, true, true, true, true, true, true, true, true, true, false, false, false] rfl rfl (take_ofW HT_.out HW_.out (by kernel_rfl)) (fun _ _ _ h => h) (Or.inl ⟨by rfl, ?_⟩) hHeld ?_ ?_
          rotate_left
          ·
           rintro w' ⟨s0, s1, s2, s3, s4, s5, s6, s7, s8, s9⟩
           go_simp
           with_reducible rfl
          rotate_left
          ·
           simp only [Act.put, lsa, lsz, lss, i64_w, i32_w]
           rfl
          refine one_ (i := 10) (N := some 35) #[true, true, true, true, true, true, true, true, true, true, true, false, false] rfl rfl (one_of HT_.out (by kernel_rfl)) (by decide) (fun K hK => ?_)
          refine goes_ Try.func26 (by kernel_rfl) rfl #[.agg #[.string ((rd_T46 l0 x5_1).f0), .string ((rd_T46 l0 x5_1).f1), .int .i64 ((rd_T46 l0 x5_1).f2), .string ((rd_T46 l0 x5_1).f3), .bool ((rd_T46 l0 x5_1).f4)], .agg #[.string a1_0, .string a1_1, .int .i64 a1_2, .string a1_3, .bool a1_4]] (by rfl) rfl rfl (by (try simp only [List.map_toArray, List.map_cons, List.map_nil]); first | done | rfl | (simp only [lld, llt]; rfl)) ?_
          with_reducible refine (shardlogref08_Compare.calls kj3 ((rd_T46 l0 x5_1).f0) ((rd_T46 l0 x5_1).f1) ((rd_T46 l0 x5_1).f2) ((rd_T46 l0 x5_1).f3) ((rd_T46 l0 x5_1).f4) a1_0 a1_1 a1_2 a1_3 a1_4 t409 _ A17.out).mono ?_
          rintro e w19 ⟨rfl, hb⟩
          refine ⟨_, rfl, ?_⟩
          have n0_ := aS (blk_below (g := gb401) (o := .cells #[.string a1_0, .string a1_1, .int .i64 a1_2, .string a1_3, .bool a1_4] 46 (0, 0)) (by (with_reducible repeat (first | refine blk_drewN ?_ _ | refine blk_drew ?_ | refine blk_alloc ?_ _)); exact BK401.out) hb)
          have n1_ := aS (below_step (by repeat (first | (with_reducible first | exact HB.out | apply bal | apply bdN | apply bdo | refine below_set ?_ GE401.out) | exact HB.out)) hb)
          clear BK401; clear HB
          have BK401 := n0_
          have HB := n1_
          clear n0_ n1_; (try clear hb); (try clear hb2); (try clear hk); (try clear hi)
          refine hK.out _ _ ⟨(blk_cell BK401.out 0).trans rfl, (blk_cell BK401.out 1).trans rfl, (blk_cell BK401.out 2).trans rfl, (blk_cell BK401.out 3).trans rfl, (blk_cell BK401.out 4).trans rfl, ((HB.out.cell (wbl w _ hw408_0)).trans hw408_0), ((HB.out.cell (wbl w _ hw408_1)).trans hw408_1), ((HB.out.cell (wbl w _ hw408_2)).trans hw408_2), ((HB.out.cell (wbl w _ hw408_3)).trans hw408_3), ((HB.out.cell (wbl w _ hw408_4)).trans hw408_4)⟩ (fun hHeld => ?_)
          clear hK K
          refine norm_ (a' := ?_) ?_ ?_
          rotate_left
          ·
           show Act.put _ (some 35) _ = _
           simp only [Act.put, lsa, lsz, lss, i64_w, i32_w]
           rfl
          refine pure_ (i := 11) (N := some 36) (v := ?_) (a' := ?_) #[true, true, true, true, true, true, true, true, true, true, true, true, false] rfl rfl (any_of HT_.out (by kernel_rfl)) (fun _ _ _ h => h) (Or.inl ⟨by rfl, ?_⟩) ?_ ?_
          rotate_left
          ·
           intro w'
           go_simp
           with_reducible rfl
          rotate_left
          ·
           simp only [Act.put, lsa, lsz, lss, i64_w, i32_w]
           rfl
          refine pure_ (i := 12) (N := some 37) (v := ?_) (a' := ?_) #[true, true, true, true, true, true, true, true, true, true, true, true, true] rfl rfl (any_of HT_.out (by kernel_rfl)) (fun _ _ _ h => h) (Or.inl ⟨by rfl, ?_⟩) ?_ ?_
          rotate_left
          ·
           intro w'
           go_simp
           with_reducible rfl
          rotate_left
          ·
           simp only [Act.put, lsa, lsz, lss, i64_w, i32_w]
           rfl
          refine done_ (done_of HT_.out (by kernel_rfl)) ?_
          try go_wp2
          go_meet
          case rel => exact ⟨_, ((t409 == 0)), (by first | rfl | (simp; done) | (simp [*]; done) | (simp; exact (by decide : ∀ a_ b_ : Bool, (a_ == b_) = (!a_ != b_)) _ _)), H', ⟨by have := HK1.out; have := HJ3.out; first | omega | exact Nat.le_refl _⟩, ⟨by (with_reducible repeat (first | refine blk_drewN ?_ _ | refine blk_drew ?_ | refine blk_alloc ?_ _)); exact BK401.out⟩, ⟨by repeat (first | (with_reducible first | exact HB.out | apply bal | apply bdN | apply bdo | refine below_set ?_ GE401.out) | exact HB.out)⟩⟩
         ·
          rw [if_neg c16] at H
          have c16b0 : decide (x5_1 < (l0.length : Int)) = false := decide_eq_false c16
          clear c16
          (first | rw [c16b0] | (simp only [i64_w, i32_w]; rw [c16b0]) | skip)
          have H' := aS H
          clear H
          try go_wp2
          have n0_ := aS (blk_drew BK401.out)
          have n1_ := aS (bdo HB.out)
          clear BK401; clear HB
          have BK401 := n0_
          have HB := n1_
          clear n0_ n1_
          refine start_ (n := 13) (S := fun w' => True) (ds := []) #[false, false, false, false, false, false, false, false, false, false, false, false, false] (by kernel_rfl) rfl rfl trivial (fun hHeld => ?_); refine with_tabW shardlogref08_Put1.tab5 shardlogref08_Put1.bits5 (fun HT_ HW_ => ?_)
          generalize wc.drew = w20 at BK401 HB hHeld ⊢
          refine pure_ (i := 0) (N := some 25) (v := ?_) (a' := ?_) #[true, false, false, false, false, false, false, false, false, false, false, false, false] rfl rfl (any_of HT_.out (by kernel_rfl)) (fun _ _ _ h => h) (Or.inl ⟨by rfl, ?_⟩) ?_ ?_
          rotate_left
          ·
           intro w'
           go_simp
           with_reducible rfl
          rotate_left
          ·
           simp only [Act.put, lsa, lsz, lss, i64_w, i32_w]
           rfl
          refine pure_ (i := 1) (N := some 26) (v := ?_) (a' := ?_) #[true, true, false, false, false, false, false, false, false, false, false, false, false] rfl rfl (any_of HT_.out (by kernel_rfl)) (fun _ _ _ h => h) (Or.inl ⟨by rfl, ?_⟩) ?_ ?_
          rotate_left
          ·
           intro w'
           go_simp
           with_reducible rfl
          rotate_left
          ·
           simp only [Act.put, lsa, lsz, lss, i64_w, i32_w]
           rfl
          refine pure_ (i := 2) (N := some 27) (v := ?_) (a' := ?_) #[true, true, true, false, false, false, false, false, false, false, false, false, false] rfl rfl (any_of HT_.out (by kernel_rfl)) (fun _ _ _ h => h) (Or.inl ⟨by rfl, ?_⟩) ?_ ?_
          rotate_left
          ·
           intro w'
           go_simp
           with_reducible rfl
          rotate_left
          ·
           simp only [Act.put, lsa, lsz, lss, i64_w, i32_w]
           rfl
          refine pure_ (i := 3) (N := some 28) (v := ?_) (a' := ?_) #[true, true, true, true, false, false, false, false, false, false, false, false, false] rfl rfl (any_of HT_.out (by kernel_rfl)) (fun _ _ _ h => h) (Or.inl ⟨by rfl, ?_⟩) ?_ ?_
          rotate_left
          ·
           intro w'
           go_simp
           with_reducible rfl
          rotate_left
          ·
           simp only [Act.put, lsa, lsz, lss, i64_w, i32_w]
           rfl
          refine pure_ (i := 4) (N := some 29) (v := ?_) (a' := ?_) #[true, true, true, true, true, false, false, false, false, false, false, false, false] rfl rfl (any_of HT_.out (by kernel_rfl)) (fun _ _ _ h => h) (Or.inl ⟨by rfl, ?_⟩) ?_ ?_
          rotate_left
          ·
           intro w'
           go_simp
           with_reducible rfl
          rotate_left
          ·
           simp only [Act.put, lsa, lsz, lss, i64_w, i32_w]
           rfl
          refine pure_ (i := 5) (N := some 30) (v := undef) (a' := ?_) #[true, true, true, true, true, true, false, false, false, false, false, false, false] rfl rfl (any_of HT_.out (by kernel_rfl)) (fun _ _ _ h => h) (Or.inr ⟨by rfl, rfl⟩) ?_ ?_
          rotate_left
          ·
           simp only [Act.put, lsa, lsz, lss, i64_w, i32_w]
           rfl
          refine pure_ (i := 6) (N := some 31) (v := undef) (a' := ?_) #[true, true, true, true, true, true, true, false, false, false, false, false, false] rfl rfl (any_of HT_.out (by kernel_rfl)) (fun _ _ _ h => h) (Or.inr ⟨by rfl, rfl⟩) ?_ ?_
          rotate_left
          ·
           simp only [Act.put, lsa, lsz, lss, i64_w, i32_w]
           rfl
          refine pure_ (i := 7) (N := some 32) (v := undef) (a' := ?_) #[true, true, true, true, true, true, true, true, false, false, false, false, false] rfl rfl (any_of HT_.out (by kernel_rfl)) (fun _ _ _ h => h) (Or.inr ⟨by rfl, rfl⟩) ?_ ?_
          rotate_left
          ·
           simp only [Act.put, lsa, lsz, lss, i64_w, i32_w]
           rfl
          refine pure_ (i := 8) (N := some 33) (v := undef) (a' := ?_) #[true, true, true, true, true, true, true, true, true, false, false, false, false] rfl rfl (any_of HT_.out (by kernel_rfl)) (fun _ _ _ h => h) (Or.inr ⟨by rfl, rfl⟩) ?_ ?_
          rotate_left
          ·
           simp only [Act.put, lsa, lsz, lss, i64_w, i32_w]
           rfl
          refine pure_ (i := 9) (N := some 34) (v := undef) (a' := ?_) #[true, true, true, true, true, true, true, true, true, true, false, false, false] rfl rfl (any_of HT_.out (by kernel_rfl)) (fun _ _ _ h => h) (Or.inr ⟨by rfl, rfl⟩) ?_ ?_
          rotate_left
          ·
           simp only [Act.put, lsa, lsz, lss, i64_w, i32_w]
           rfl
          refine pure_ (i := 10) (N := some 35) (v := undef) (a' := ?_) #[true, true, true, true, true, true, true, true, true, true, true, false, false] rfl rfl (any_of HT_.out (by kernel_rfl)) (fun _ _ _ h => h) (Or.inr ⟨by rfl, rfl⟩) ?_ ?_
          rotate_left
          ·
           simp only [Act.put, lsa, lsz, lss, i64_w, i32_w]
           rfl
          refine pure_ (i := 11) (N := some 36) (v := undef) (a' := ?_) #[true, true, true, true, true, true, true, true, true, true, true, true, false] rfl rfl (any_of HT_.out (by kernel_rfl)) (fun _ _ _ h => h) (Or.inr ⟨by rfl, rfl⟩) ?_ ?_
          rotate_left
          ·
           simp only [Act.put, lsa, lsz, lss, i64_w, i32_w]
           rfl
          refine pure_ (i := 12) (N := some 37) (v := ?_) (a' := ?_) #[true, true, true, true, true, true, true, true, true, true, true, true, true] rfl rfl (any_of HT_.out (by kernel_rfl)) (fun _ _ _ h => h) (Or.inl ⟨by rfl, ?_⟩) ?_ ?_
          rotate_left
          ·
           intro w'
           go_simp
           with_reducible rfl
          rotate_left
          ·
           simp only [Act.put, lsa, lsz, lss, i64_w, i32_w]
           rfl
          refine done_ (done_of HT_.out (by kernel_rfl)) ?_
          try go_wp2
          go_meet
          case rel => exact ⟨_, (false), (by first | rfl | (simp; done) | (simp [*]; done) | (simp; exact (by decide : ∀ a_ b_ : Bool, (a_ == b_) = (!a_ != b_)) _ _)), H', ⟨by have := HK1.out; have := HJ3.out; first | omega | exact Nat.le_refl _⟩, ⟨by (with_reducible repeat (first | refine blk_drewN ?_ _ | refine blk_drew ?_ | refine blk_alloc ?_ _)); exact BK401.out⟩, ⟨by repeat (first | (with_reducible first | exact HB.out | apply bal | apply bdN | apply bdo | refine below_set ?_ GE401.out) | exact HB.out)⟩⟩
        case rest =>
         clear HC14; (try clear c1); (try clear q1); (try clear c2); (try clear p2); (try clear p4); (try clear q4); (try clear hx4); (try clear c5); (try clear c5b0); (try clear c6); (try clear c6b0); (try clear p6); (try clear c11); (try clear c12); (try clear c12b0); (try clear c12b1); (try clear c13); (try clear c13b0); (try clear c13b1); (try clear c15); (try clear q15); (try clear c16); (try clear c16b0); (try clear hx402_0); (try clear hx402_1); (try clear hx402_2); (try clear hx402_3); (try clear hx402_4); (try clear hx408_0); (try clear hx408_1); (try clear hx408_2); (try clear hx408_3); (try clear hx408_4); (try clear p2); (try clear p4); (try clear p402); (try clear p408); (try clear q015); (try clear q15); (try clear q4); (try clear q402); (try clear q408)
         obtain ⟨kq, x37_13, rfl, HA, HJ13, BK401, HB⟩ := hcut
         cases kq with
         | zero => exact absurd HA.out (by simp [shardlogref08_Put1.j2])
         | succ kj13 =>
          have H := HA.out; clear HA
          simp only [shardlogref08_Put1.j2] at H
          by_cases c21 : x37_13 = true
          ·
           subst c21
           have H1 : (if 0 ≤ (wrap64 (x5_1 + 1)) then (if (wrap64 (x5_1 + 1)) ≤ (l0.length : Int) then ((some (l0.drop ((wrap64 (x5_1 + 1)) : Int).toNat : List (S46))).bind fun y410 => ((some (([] : List (S46)) : List (S46))).bind fun y414 => (if 0 ≤ x5_1 then (if x5_1 ≤ (l0.length : Int) then ((some (l0.take (x5_1 : Int).toNat : List (S46))).bind fun y417 => (if y414.length + y417.length < 2199023255552 then ((some (y414 ++ y417 : List (S46))).bind fun y421 => ((some (([(⟨a1_0, a1_1, a1_2, a1_3, a1_4⟩ : S46)] : List (S46)) : List (S46))).bind fun y424 => (if y421.length + y424.length < 2199023255552 then ((some (y421 ++ y424 : List (S46))).bind fun y427 => (if y427.length + y410.length < 2199023255552 then (some (y427 ++ y410)) else (none))) else (none)))) else (none))) else (none)) else (none)))) else (none)) else (none)) = some r := by rw [if_pos rfl] at H; exact H
           clear H; have H := H1; clear H1
           obtain ⟨ji22, hji22⟩ : ∃ j_ : Int, (wrap64 (x5_1 + 1)) = j_ := ⟨_, rfl⟩
           replace H : (if 0 ≤ (ji22) then (if (ji22) ≤ (l0.length : Int) then ((some (l0.drop ((ji22) : Int).toNat : List (S46))).bind fun y410 => ((some (([] : List (S46)) : List (S46))).bind fun y414 => (if 0 ≤ x5_1 then (if x5_1 ≤ (l0.length : Int) then ((some (l0.take (x5_1 : Int).toNat : List (S46))).bind fun y417 => (if y414.length + y417.length < 2199023255552 then ((some (y414 ++ y417 : List (S46))).bind fun y421 => ((some (([(⟨a1_0, a1_1, a1_2, a1_3, a1_4⟩ : S46)] : List (S46)) : List (S46))).bind fun y424 => (if y421.length + y424.length < 2199023255552 then ((some (y421 ++ y424 : List (S46))).bind fun y427 => (if y427.length + y410.length < 2199023255552 then (some (y427 ++ y410)) else (none))) else (none)))) else (none))) else (none)) else (none)))) else (none)) else (none)) = some r := by first | (rw [hji22] at H; exact H) | (simp only [hji22] at H ⊢; exact H)
           have hji22w : (IntKind.i64.wrap (x5_1 + 1)) = ji22 := (i64_w _).trans hji22
           by_cases c23 : 0 ≤ (ji22)
           ·
            rw [if_pos c23] at H
            have c23b0 := eq_true c23
            have c23b1 : decide (0 ≤ (ji22)) = true := decide_eq_true c23
            clear c23
            by_cases c24 : (ji22) ≤ (l0.length : Int)
            ·
             rw [if_pos c24] at H
             have c24b0 := eq_true c24
             have c24b1 : decide ((ji22) ≤ (l0.length : Int)) = true := decide_eq_true c24
             clear c24
             obtain ⟨y410, hy410⟩ : ∃ y_ : List (S46), y_ = (l0.drop ((ji22) : Int).toNat) := ⟨_, rfl⟩
             replace H : ((some (([] : List (S46)) : List (S46))).bind fun y414 => (if 0 ≤ x5_1 then (if x5_1 ≤ (l0.length : Int) then ((some (l0.take (x5_1 : Int).toNat : List (S46))).bind fun y417 => (if y414.length + y417.length < 2199023255552 then ((some (y414 ++ y417 : List (S46))).bind fun y421 => ((some (([(⟨a1_0, a1_1, a1_2, a1_3, a1_4⟩ : S46)] : List (S46)) : List (S46))).bind fun y424 => (if y421.length + y424.length < 2199023255552 then ((some (y421 ++ y424 : List (S46))).bind fun y427 => (if y427.length + y410.length < 2199023255552 then (some (y427 ++ y410)) else (none))) else (none)))) else (none))) else (none)) else (none))) = some r := by first | (rw [hy410]; with_reducible exact H) | (have H2_ := (Option.bind_some _ _).symm.trans H; rw [hy410]; with_reducible exact H2_) | (have H2_ := (Option.bind_some _ _).symm.trans H; with_reducible exact H2_) | with_reducible exact H | (rw [hy410]; exact H) | exact H
             have Ny410 := aS hy410
             clear hy410
             obtain ⟨y414, hy414⟩ : ∃ y_ : List (S46), y_ = (([] : List (S46))) := ⟨_, rfl⟩
             replace H : (if 0 ≤ x5_1 then (if x5_1 ≤ (l0.length : Int) then ((some (l0.take (x5_1 : Int).toNat : List (S46))).bind fun y417 => (if y414.length + y417.length < 2199023255552 then ((some (y414 ++ y417 : List (S46))).bind fun y421 => ((some (([(⟨a1_0, a1_1, a1_2, a1_3, a1_4⟩ : S46)] : List (S46)) : List (S46))).bind fun y424 => (if y421.length + y424.length < 2199023255552 then ((some (y421 ++ y424 : List (S46))).bind fun y427 => (if y427.length + y410.length < 2199023255552 then (some (y427 ++ y410)) else (none))) else (none)))) else (none))) else (none)) else (none)) = some r := by first | (rw [hy414]; with_reducible exact H) | (have H2_ := (Option.bind_some _ _).symm.trans H; rw [hy414]; with_reducible exact H2_) | (have H2_ := (Option.bind_some _ _).symm.trans H; with_reducible exact H2_) | with_reducible exact H | (rw [hy414]; exact H) | exact H
             have Ny414 := aS hy414
             clear hy414
             by_cases c25 : 0 ≤ x5_1
             ·
              rw [if_pos c25] at H
              have c25b0 := eq_true c25
              have c25b1 : decide (0 ≤ x5_1) = true := decide_eq_true c25
              clear c25
              by_cases c26 : x5_1 ≤ (l0.length : Int)
              ·
               rw [if_pos c26] at H
               have c26b0 := eq_true c26
               have c26b1 : decide (x5_1 ≤ (l0.length : Int)) = true := decide_eq_true c26
               clear c26
               obtain ⟨y417, hy417⟩ : ∃ y_ : List (S46), y_ = (l0.take (x5_1 : Int).toNat) := ⟨_, rfl⟩
               replace H : (if y414.length + y417.length < 2199023255552 then ((some (y414 ++ y417 : List (S46))).bind fun y421 => ((some (([(⟨a1_0, a1_1, a1_2, a1_3, a1_4⟩ : S46)] : List (S46)) : List (S46))).bind fun y424 => (if y421.length + y424.length < 2199023255552 then ((some (y421 ++ y424 : List (S46))).bind fun y427 => (if y427.length + y410.length < 2199023255552 then (some (y427 ++ y410)) else (none))) else (none)))) else (none)) = some r := by first | (rw [hy417]; with_reducible exact H) | (have H2_ := (Option.bind_some _ _).symm.trans H; rw [hy417]; with_reducible exact H2_) | (have H2_ := (Option.bind_some _ _).symm.trans H; with_reducible exact H2_) | with_reducible exact H | (rw [hy417]; exact H) | exact H
               have Ny417 := aS hy417
               clear hy417
               by_cases c27 : y414.length + y417.length < 2199023255552
               ·
                rw [if_pos c27] at H
                have LMc27 := aS c27
                clear c27
                obtain ⟨y421, hy421⟩ : ∃ y_ : List (S46), y_ = (y414 ++ y417) := ⟨_, rfl⟩
                replace H : ((some (([(⟨a1_0, a1_1, a1_2, a1_3, a1_4⟩ : S46)] : List (S46)) : List (S46))).bind fun y424 => (if y421.length + y424.length < 2199023255552 then ((some (y421 ++ y424 : List (S46))).bind fun y427 => (if y427.length + y410.length < 2199023255552 then (some (y427 ++ y410)) else (none))) else (none))) = some r := by first | (rw [hy421]; with_reducible exact H) | (have H2_ := (Option.bind_some _ _).symm.trans H; rw [hy421]; with_reducible exact H2_) | (have H2_ := (Option.bind_some _ _).symm.trans H; with_reducible exact H2_) | with_reducible exact H | (rw [hy421]; exact H) | exact H
                have Ny421 := aS hy421
                clear hy421
                obtain ⟨y424, hy424⟩ : ∃ y_ : List (S46), y_ = (([(⟨a1_0, a1_1, a1_2, a1_3, a1_4⟩ : S46)] : List (S46))) := ⟨_, rfl⟩
                replace H : (if y421.length + y424.length < 2199023255552 then ((some (y421 ++ y424 : List (S46))).bind fun y427 => (if y427.length + y410.length < 2199023255552 then (some (y427 ++ y410)) else (none))) else (none)) = some r := by first | (rw [hy424]; with_reducible exact H) | (have H2_ := (Option.bind_some _ _).symm.trans H; rw [hy424]; with_reducible exact H2_) | (have H2_ := (Option.bind_some _ _).symm.trans H; with_reducible exact H2_) | with_reducible exact H | (rw [hy424]; exact H) | exact H
                have Ny424 := aS hy424
                clear hy424
                by_cases c28 : y421.length + y424.length < 2199023255552
                ·
                 rw [if_pos c28] at H
                 have LMc28 := aS c28
                 clear c28
                 obtain ⟨y427, hy427⟩ : ∃ y_ : List (S46), y_ = (y421 ++ y424) := ⟨_, rfl⟩
                 replace H : (if y427.length + y410.length < 2199023255552 then (some (y427 ++ y410)) else (none)) = some r := by first | (rw [hy427]; with_reducible exact H) | (have H2_ := (Option.bind_some _ _).symm.trans H; rw [hy427]; with_reducible exact H2_) | (have H2_ := (Option.bind_some _ _).symm.trans H; with_reducible exact H2_) | with_reducible exact H | (rw [hy427]; exact H) | exact H
                 have Ny427 := aS hy427
                 clear hy427
                 by_cases c29 : y427.length + y410.length < 2199023255552
                 ·
                  rw [if_pos c29] at H
                  have LMc29 := aS c29
                  clear c29
                  obtain ⟨y430, hy430⟩ : ∃ y_ : List (S46), y_ = (y427 ++ y410) := ⟨_, rfl⟩
                  replace H : (some y430) = some r := by first | (rw [hy430]; with_reducible exact H) | (have H2_ := (Option.bind_some _ _).symm.trans H; rw [hy430]; with_reducible exact H2_) | (have H2_ := (Option.bind_some _ _).symm.trans H; with_reducible exact H2_) | with_reducible exact H | (rw [hy430]; exact H) | exact H
                  have Ny430 := aS hy430
                  clear hy430
                  obtain rfl := Option.some.inj H
                  have q30 : ((ji22) : Int) ≤ ((l0.length : Int) : Int) := odt (by first | (with_reducible assumption) | assumption)
                  obtain ⟨i030, hi030, _, hsz30, _⟩ := info_parts info46
                  have hroom30 : l0.length ≤ c0 := HC0.out
                  have hC30 : Kd.C k46 _ A0 l0.length l0 := HR0.out
                  have q030 : (0 : Int) ≤ ((ji22) : Int) := odt (by first | (with_reducible assumption) | assumption)
                  have hcut30 := cut_from (P := Try.prog) 22 46 .i64 Try.underlying22 hi030 5 hsz30 A0 l0.length c0 (ji22) q030 q30
                  have hr30 := Kd.C_drop (m := ((ji22) : Int).toNat) (c := c0) hC30 (by omega) hroom30
                  obtain ⟨A30, hA30⟩ : ∃ A1_, A1_ = (if c0 = ((ji22) : Int).toNat then A0 else (A0 : Option Addr).map (·.add (((ji22) : Int).toNat * 5))) := ⟨_, rfl⟩
                  obtain ⟨c30, hc30⟩ : ∃ c1_, c1_ = c0 - ((ji22) : Int).toNat := ⟨_, rfl⟩
                  have hy30 : y410.length = l0.length - ((ji22) : Int).toNat := (by rw [Ny410.out, lld] <;> omega)
                  rw [show (l0).drop ((ji22) : Int).toNat = y410 from Ny410.out.symm] at hr30
                  replace hr30 : Kd.C k46 _ A30 y410.length y410 := (by rw [hA30]; exact hr30)
                  rw [← hy30, ← hA30, ← hc30] at hcut30
                  have HR413 := aS hr30
                  have HC413 := aS (show y410.length ≤ c30 from by rw [hy30, hc30]; exact Nat.sub_le_sub_right hroom30 _)
                  clear hr30 hC30 hroom30 hi030 hsz30 hc30
                  have KY30 := aS hy30
                  have KA30 := aS hA30
                  clear hy30 hA30
                  replace q30 := eq_true q30
                  try go_wp2
                  have n0_ := aS (blk_drew BK401.out)
                  have n1_ := aS (bdo HB.out)
                  clear BK401; clear HB
                  have BK401 := n0_
                  have HB := n1_
                  clear n0_ n1_
                  have q32 : (x5_1 : Int) ≤ ((l0.length : Int) : Int) := odt (by first | (with_reducible assumption) | assumption)
                  obtain ⟨i032, hi032, _, hsz32, _⟩ := info_parts info46
                  have hroom32 : l0.length ≤ c0 := HC0.out
                  have hC32 : Kd.C k46 _ A0 l0.length l0 := HR0.out
                  have hcut32 := cut_to (P := Try.prog) 22 46 .i64 Try.underlying22 hi032 A0 l0.length c0 x5_1 (odt (by first | (with_reducible assumption) | assumption)) q32 hroom32
                  have hr32 := Kd.C_take (m := (x5_1 : Int).toNat) hC32 (by omega)
                  have hy32 : y417.length = (x5_1 : Int).toNat := (by rw [Ny417.out, llt]; omega)
                  rw [← Ny417.out] at hr32
                  rw [← hy32] at hcut32
                  have HR420 := aS hr32
                  have HC420 := aS (show y417.length ≤ c0 from by omega)
                  clear hr32 hC32 hroom32 hi032 hsz32
                  have KY32 := aS hy32
                  clear hy32
                  replace q32 := eq_true q32
                  refine start_ (n := 11) (S := fun w' => w'.cell? ⟨gb401, 0, none⟩ = some (.string a1_0) ∧ w'.cell? ⟨gb401, 1, none⟩ = some (.string a1_1) ∧ w'.cell? ⟨gb401, 2, none⟩ = some (.int .i64 a1_2) ∧ w'.cell? ⟨gb401, 3, none⟩ = some (.string a1_3) ∧ w'.cell? ⟨gb401, 4, none⟩ = some (.bool a1_4)) (ds := []) #[false, false, false, false, false, false, false, false, false, false, false] (by kernel_rfl) rfl rfl ⟨(blk_cell BK401.out 0).trans rfl, (blk_cell BK401.out 1).trans rfl, (blk_cell BK401.out 2).trans rfl, (blk_cell BK401.out 3).trans rfl, (blk_cell BK401.out 4).trans rfl⟩ (fun hHeld => ?_); refine with_tabW shardlogref08_Put1.tab7 shardlogref08_Put1.bits7 (fun HT_ HW_ => ?_)
                  generalize wc.drew = w31 at BK401 HB HR420 hHeld ⊢
                  refine pure_ (i := 1) (N := some 43) (v := ?_) (a' := ?_) #[false, true, false, false, false, false, false, false, false, false, false] rfl rfl (any_of HT_.out (by kernel_rfl)) (fun _ _ _ h => h) (Or.inl ⟨by rfl, ?_⟩) ?_ ?_
                  rotate_left
                  ·
                   intro w'
                   go_simp
                   with_reducible rfl
                  rotate_left
                  ·
                   simp only [Act.put, lsa, lsz, lss, i64_w, i32_w]
                   rfl
                  refine pure_ (i := 2) (N := some 44) (v := ?_) (a' := ?_) #[false, true, true, false, false, false, false, false, false, false, false] rfl rfl (any_of HT_.out (by kernel_rfl)) (fun _ _ _ h => h) (Or.inl ⟨by rfl, ?_⟩) ?_ ?_
                  rotate_left
                  ·
                   intro w'
                   go_simp
                   with_reducible rfl
                  rotate_left
                  ·
                   simp only [Act.put, lsa, lsz, lss, i64_w, i32_w]
                   rfl
                  refine pure_ (i := 3) (N := some 45) (v := ?_) (a' := ?_) #[false, true, true, true, false, false, false, false, false, false, false] rfl rfl (any_of HT_.out (by kernel_rfl)) (fun _ _ _ h => h) (Or.inl ⟨by rfl, ?_⟩) ?_ ?_
                  rotate_left
                  ·
                   intro w'
                   go_simp
                   with_reducible rfl
                  rotate_left
                  ·
                   simp only [Act.put, lsa, lsz, lss, i64_w, i32_w]
                   rfl
                  refine pure_ (i := 8) (N := some 50) (v := ?_) (a' := ?_) #[false, true, true, true, false, false, false, false, true, false, false] rfl rfl (any_of HT_.out (by kernel_rfl)) (fun _ _ _ h => h) (Or.inl ⟨by rfl, ?_⟩) ?_ ?_
                  rotate_left
                  ·
                   intro w'
                   go_simp
                   with_reducible rfl
                  rotate_left
                  ·
                   simp only [Act.put, lsa, lsz, lss, i64_w, i32_w]
                   rfl
                  refine take_ (i := 5) (N := some 47) (v := ?_) (a' := ?_) #[false, true, true, true, false, true, false, false, true, false, false] rfl rfl (take_ofW HT_.out HW_.out (by kernel_rfl)) (fun _ _ _ h => h) (Or.inl ⟨by rfl, ?_⟩) hHeld ?_ ?_
                  rotate_left
                  ·
                   rintro w' ⟨s0, s1, s2, s3, s4⟩
                   go_simp
                   with_reducible rfl
                  rotate_left
                  ·
                   simp only [Act.put, lsa, lsz, lss, i64_w, i32_w]
                   rfl
                  refine join_ (σ := Value × Value × Value) 3 #[true, true, true, true, true, true, true, false, true, false, false] (fun s_ => [(42, s_.1), (46, s_.2.1), (48, s_.2.2)]) (fun s_ w' => (w'.cell? ⟨gb401, 0, none⟩ = some (.string a1_0) ∧ w'.cell? ⟨gb401, 1, none⟩ = some (.string a1_1) ∧ w'.cell? ⟨gb401, 2, none⟩ = some (.int .i64 a1_2) ∧ w'.cell? ⟨gb401, 3, none⟩ = some (.string a1_3) ∧ w'.cell? ⟨gb401, 4, none⟩ = some (.bool a1_4)) ∧ (Kd.R k46 46 w' w.heap.size (fun k_ => some k_ ≠ (s_.2.2 : Value).ownBlock ∧ k_ ≠ gb401) s_.2.1 y421) ∧ (Kd.R k46 46 w' w.heap.size (fun k_ => some k_ ≠ (s_.2.1 : Value).ownBlock ∧ k_ ≠ gb401) s_.2.2 y424) ∧ (w'.heap[gb401]? = some (.cells #[.string a1_0, .string a1_1, .int .i64 a1_2, .string a1_3, .bool a1_4] 46 (0, 0))) ∧ (Below w.heap.size w w')) ?_ ?_
                  rotate_left
                  ·
                   intro hCont
                   refine two_ (i := 0) (j := 6) (Ni := some 42) (Nj := some 48) #[true, true, true, true, false, true, false, false, true, false, false] #[false, true, true, true, false, true, true, false, true, false, false] rfl rfl rfl rfl (two_of HT_.out (by kernel_rfl)) (by decide) (by decide) (fun K hK => ?_) (fun K hK => ?_)
                   ·
                    skip
                    refine Kd.R_lit_step k46 _ 46 ?hg (N := 42) ?hd (xs := ([] : List (S46))) (inner := []) (ok := fun _ => True) (okp := fun _ => True) ?hr ?hp (fun _ hk => hk) trivial (Below.refl _ _) (Nat.le_refl _) (by simp) ?_; (case hd => rfl); (case hg => rfl); (case hr => first | (go_simp; done) | (go_simp; rfl)); (case hp => exact (Reps.none _ _))
                    intro v415 w33 ho34 hb hg_ hnew_
                    clear hg_ hnew_
                    (first | rw [← Ny414.out] at ho34 | (simp only [Int.reduceToNat] at ho34; rw [← Ny414.out] at ho34))
                    have n0_ := aS (Kd.R_lower (Kd.R_newB ho34 (g := gb401) (o := .cells #[.string a1_0, .string a1_1, .int .i64 a1_2, .string a1_3, .bool a1_4] 46 (0, 0)) (by (with_reducible repeat (first | refine blk_drewN ?_ _ | refine blk_drew ?_ | refine blk_alloc ?_ _)); exact BK401.out)) (below_size (by repeat (first | (with_reducible first | exact HB.out | apply bal | apply bdN | apply bdo | refine below_set ?_ GE401.out) | exact HB.out))))
                    have n1_ := aS (blk_below (g := gb401) (o := .cells #[.string a1_0, .string a1_1, .int .i64 a1_2, .string a1_3, .bool a1_4] 46 (0, 0)) (by (with_reducible repeat (first | refine blk_drewN ?_ _ | refine blk_drew ?_ | refine blk_alloc ?_ _)); exact BK401.out) hb)
                    have n2_ := aS (below_step (by repeat (first | (with_reducible first | exact HB.out | apply bal | apply bdN | apply bdo | refine below_set ?_ GE401.out) | exact HB.out)) hb)
                    clear BK401; clear HB
                    have HO416 := n0_
                    have BK401 := n1_
                    have HB := n2_
                    clear n0_ n1_ n2_; clear hb ho34
                    refine hK.out _ _ ⟨(blk_cell BK401.out 0).trans rfl, (blk_cell BK401.out 1).trans rfl, (blk_cell BK401.out 2).trans rfl, (blk_cell BK401.out 3).trans rfl, (blk_cell BK401.out 4).trans rfl⟩ (fun hHeld => ?_)
                    clear hK K
                    refine norm_ (a' := ?_) ?_ ?_
                    rotate_left
                    ·
                     show Act.put _ (some 42) _ = _
                     simp only [Act.put, lsa, lsz, lss, i64_w, i32_w]
                     rfl
                    refine two_ (i := 4) (j := 6) (Ni := some 46) (Nj := some 48) #[true, true, true, true, true, true, false, false, true, false, false] #[true, true, true, true, false, true, true, false, true, false, false] rfl rfl rfl rfl (two_of HT_.out (by kernel_rfl)) (by decide) (by decide) (fun K hK => ?_) (fun K hK => ?_)
                    ·
                     skip
                     refine Kd.R_append_rows_step k46 (w0 := w) w.heap.size (by rfl) (.tmp 42) (.tmp 45) 22 46 (.agg #[(.string ⟨#[]⟩), (.string ⟨#[]⟩), (.int .i64 0), (.string ⟨#[]⟩), (.bool false)]) 64 rfl Try.underlying22 info46 rfl (by decide) (by omega) v415 y414 y417 _ _ _ (fun k_ => k_ ≠ gb401) (fun _ => False) rfl rfl ?aO ?aR (fun _ _ h => h) (fun _ h => h.elim) ?aF ?aB ?aS ?aL ?_
                     (case aR => repeat (first | exact (Kd.C_below HR420.out HB.out) | (with_reducible refine Kd.C_alloc ?_ _) | (with_reducible refine Kd.C_drewN ?_ _) | (with_reducible refine Kd.C_drew ?_)))
                     (case aB => exact (by repeat (first | (with_reducible first | exact HB.out | apply bal | apply bdN | apply bdo | refine below_set ?_ GE401.out) | exact HB.out)))
                     (case aF => exact (fun k_ hk => Kd.freshB (g := gb401) (o := .cells #[.string a1_0, .string a1_1, .int .i64 a1_2, .string a1_3, .bool a1_4] 46 (0, 0)) (by (with_reducible repeat (first | refine blk_drewN ?_ _ | refine blk_drew ?_ | refine blk_alloc ?_ _)); exact BK401.out) k_ hk))
                     (case aO => exact (by (with_reducible repeat (first | apply Kd.R_alloc | apply Kd.R_drewN | apply Kd.R_drew)); exact Kd.R_mono HO416.out (fun _ hk => hk.2)))
                     (case aS => exact (below_size (by repeat (first | (with_reducible first | exact HB.out | apply bal | apply bdN | apply bdo | refine below_set ?_ GE401.out) | exact HB.out))))
                     (case aL => have := LMc27.out; omega)
                     intro v422 w35 ho hb hg hat
                     rw [← Ny421.out] at ho
                     have n0_ := aS (blk_grown (g := gb401) (o := .cells #[.string a1_0, .string a1_1, .int .i64 a1_2, .string a1_3, .bool a1_4] 46 (0, 0)) (by (with_reducible repeat (first | refine blk_drewN ?_ _ | refine blk_drew ?_ | refine blk_alloc ?_ _)); exact BK401.out) hg (Kd.R_away HO416.out (fun _ hk => hk.2)))
                     have n1_ := aS (hb)
                     have n2_ := aS (ho)
                     clear BK401; clear HB; clear HO416
                     have BK401 := n0_
                     have HB := n1_
                     have HO423 := n2_
                     clear n0_ n1_ n2_; clear ho hb hg hat
                     refine hK.out _ _ ⟨(blk_cell BK401.out 0).trans rfl, (blk_cell BK401.out 1).trans rfl, (blk_cell BK401.out 2).trans rfl, (blk_cell BK401.out 3).trans rfl, (blk_cell BK401.out 4).trans rfl⟩ (fun hHeld => ?_)
                     clear hK K
                     refine norm_ (a' := ?_) ?_ ?_
                     rotate_left
                     ·
                      show Act.put _ (some 46) _ = _
                      simp only [Act.put, lsa, lsz, lss, i64_w, i32_w]
                      rfl
                     refine one_ (i := 6) (N := some 48) #[true, true, true, true, true, true, true, false, true, false, false] rfl rfl (one_of HT_.out (by kernel_rfl)) (by decide) (fun K hK => ?_)
                     refine Kd.R_lit_step k46 _ 46 ?hg (N := 48) ?hd (xs := ([(⟨a1_0, a1_1, a1_2, a1_3, a1_4⟩ : S46)] : List (S46))) (inner := [.string a1_0, .string a1_1, .int .i64 a1_2, .string a1_3, .bool a1_4]) (ok := fun _ => True) (okp := fun _ => True) ?hr ?hp (fun _ hk => hk) trivial (Below.refl _ _) (Nat.le_refl _) (by simp) ?_; (case hd => rfl); (case hg => rfl); (case hr => first | (go_simp; done) | (go_simp; rfl)); (case hp => exact (Reps.c5 (show Kd.M k46 _ _ _ (⟨a1_0, a1_1, a1_2, a1_3, a1_4⟩ : S46) [.string a1_0, .string a1_1, .int .i64 a1_2, .string a1_3, .bool a1_4] from (k46_mkM _ _ _ (⟨a1_0, a1_1, a1_2, a1_3, a1_4⟩ : S46) )) (Reps.none _ _)))
                     intro v425 w36 ho37 hb hg_ hnew_
                     clear hg_ hnew_
                     (first | rw [← Ny424.out] at ho37 | (simp only [Int.reduceToNat] at ho37; rw [← Ny424.out] at ho37))
                     have n0_ := aS (Kd.R_elder' (by (with_reducible repeat (first | apply Kd.R_alloc | apply Kd.R_drewN | apply Kd.R_drew)); exact HO423.out) (by first | exact Kd.R_base ho37 | exact Kd.S_base ho37 | exact Kd.R_base ho37 | exact Kd.V_base ho37) hb)
                     have n1_ := aS (Kd.R_lower (Kd.R_newB (Kd.R_new' ho37 (Kd.R_lt (by (with_reducible repeat (first | apply Kd.R_alloc | apply Kd.R_drewN | apply Kd.R_drew)); exact HO423.out))) (g := gb401) (o := .cells #[.string a1_0, .string a1_1, .int .i64 a1_2, .string a1_3, .bool a1_4] 46 (0, 0)) (by (with_reducible repeat (first | refine blk_drewN ?_ _ | refine blk_drew ?_ | refine blk_alloc ?_ _)); exact BK401.out)) (below_size (by repeat (first | (with_reducible first | exact HB.out | apply bal | apply bdN | apply bdo | refine below_set ?_ GE401.out) | exact HB.out))))
                     have n2_ := aS (blk_below (g := gb401) (o := .cells #[.string a1_0, .string a1_1, .int .i64 a1_2, .string a1_3, .bool a1_4] 46 (0, 0)) (by (with_reducible repeat (first | refine blk_drewN ?_ _ | refine blk_drew ?_ | refine blk_alloc ?_ _)); exact BK401.out) hb)
                     have n3_ := aS (below_step (by repeat (first | (with_reducible first | exact HB.out | apply bal | apply bdN | apply bdo | refine below_set ?_ GE401.out) | exact HB.out)) hb)
                     clear HO423; clear BK401; clear HB
                     have HO423 := n0_
                     have HO426 := n1_
                     have BK401 := n2_
                     have HB := n3_
                     clear n0_ n1_ n2_ n3_; clear hb ho37
                     refine hK.out _ _ ⟨(blk_cell BK401.out 0).trans rfl, (blk_cell BK401.out 1).trans rfl, (blk_cell BK401.out 2).trans rfl, (blk_cell BK401.out 3).trans rfl, (blk_cell BK401.out 4).trans rfl⟩ (fun hHeld => ?_)
                     clear hK K
                     refine norm_ (a' := ?_) ?_ ?_
                     rotate_left
                     ·
                      show Act.put _ (some 48) _ = _
                      simp only [Act.put, lsa, lsz, lss, i64_w, i32_w]
                      rfl
                     exact norm_ (by simp only [putAll, Act.put, lsa, lsz, lss]) (hCont (v415, v422, v425) _ ⟨hHeld, (by (with_reducible repeat (first | apply Kd.R_alloc | apply Kd.R_drewN | apply Kd.R_drew)); exact Kd.R_mono HO423.out (fun _ hk => ⟨hk.2, hk.1⟩)), (by (with_reducible repeat (first | apply Kd.R_alloc | apply Kd.R_drewN | apply Kd.R_drew)); exact Kd.R_mono HO426.out (fun _ hk => ⟨hk.1.2, hk.2⟩)), (by (with_reducible repeat (first | refine blk_drewN ?_ _ | refine blk_drew ?_ | refine blk_alloc ?_ _)); exact BK401.out), (by repeat (first | (with_reducible first | exact HB.out | apply bal | apply bdN | apply bdo | refine below_set ?_ GE401.out) | exact HB.out))⟩)
                    ·
                     skip
                     refine Kd.R_lit_step k46 _ 46 ?hg (N := 48) ?hd (xs := ([(⟨a1_0, a1_1, a1_2, a1_3, a1_4⟩ : S46)] : List (S46))) (inner := [.string a1_0, .string a1_1, .int .i64 a1_2, .string a1_3, .bool a1_4]) (ok := fun _ => True) (okp := fun _ => True) ?hr ?hp (fun _ hk => hk) trivial (Below.refl _ _) (Nat.le_refl _) (by simp) ?_; (case hd => rfl); (case hg => rfl); (case hr => first | (go_simp; done) | (go_simp; rfl)); (case hp => exact (Reps.c5 (show Kd.M k46 _ _ _ (⟨a1_0, a1_1, a1_2, a1_3, a1_4⟩ : S46) [.string a1_0, .string a1_1, .int .i64 a1_2, .string a1_3, .bool a1_4] from (k46_mkM _ _ _ (⟨a1_0, a1_1, a1_2, a1_3, a1_4⟩ : S46) )) (Reps.none _ _)))
                     intro v425 w35 ho36 hb hg_ hnew_
                     clear hg_ hnew_
                     (first | rw [← Ny424.out] at ho36 | (simp only [Int.reduceToNat] at ho36; rw [← Ny424.out] at ho36))
                     have n0_ := aS (Kd.R_elder' (by (with_reducible repeat (first | apply Kd.R_alloc | apply Kd.R_drewN | apply Kd.R_drew)); exact HO416.out) (by first | exact Kd.R_base ho36 | exact Kd.S_base ho36 | exact Kd.R_base ho36 | exact Kd.V_base ho36) hb)
                     have n1_ := aS (Kd.R_lower (Kd.R_newB (Kd.R_new' ho36 (Kd.R_lt (by (with_reducible repeat (first | apply Kd.R_alloc | apply Kd.R_drewN | apply Kd.R_drew)); exact HO416.out))) (g := gb401) (o := .cells #[.string a1_0, .string a1_1, .int .i64 a1_2, .string a1_3, .bool a1_4] 46 (0, 0)) (by (with_reducible repeat (first | refine blk_drewN ?_ _ | refine blk_drew ?_ | refine blk_alloc ?_ _)); exact BK401.out)) (below_size (by repeat (first | (with_reducible first | exact HB.out | apply bal | apply bdN | apply bdo | refine below_set ?_ GE401.out) | exact HB.out))))
                     have n2_ := aS (blk_below (g := gb401) (o := .cells #[.string a1_0, .string a1_1, .int .i64 a1_2, .string a1_3, .bool a1_4] 46 (0, 0)) (by (with_reducible repeat (first | refine blk_drewN ?_ _ | refine blk_drew ?_ | refine blk_alloc ?_ _)); exact BK401.out) hb)
                     have n3_ := aS (below_step (by repeat (first | (with_reducible first | exact HB.out | apply bal | apply bdN | apply bdo | refine below_set ?_ GE401.out) | exact HB.out)) hb)
                     clear HO416; clear BK401; clear HB
                     have HO416 := n0_
                     have HO426 := n1_
                     have BK401 := n2_
                     have HB := n3_
                     clear n0_ n1_ n2_ n3_; clear hb ho36
                     refine hK.out _ _ ⟨(blk_cell BK401.out 0).trans rfl, (blk_cell BK401.out 1).trans rfl, (blk_cell BK401.out 2).trans rfl, (blk_cell BK401.out 3).trans rfl, (blk_cell BK401.out 4).trans rfl⟩ (fun hHeld => ?_)
                     clear hK K
                     refine norm_ (a' := ?_) ?_ ?_
                     rotate_left
                     ·
                      show Act.put _ (some 48) _ = _
                      simp only [Act.put, lsa, lsz, lss, i64_w, i32_w]
                      rfl
                     refine one_ (i := 4) (N := some 46) #[true, true, true, true, true, true, true, false, true, false, false] rfl rfl (one_of HT_.out (by kernel_rfl)) (by decide) (fun K hK => ?_)
                     refine Kd.R_append_rows_step k46 (w0 := w) w.heap.size (by rfl) (.tmp 42) (.tmp 45) 22 46 (.agg #[(.string ⟨#[]⟩), (.string ⟨#[]⟩), (.int .i64 0), (.string ⟨#[]⟩), (.bool false)]) 64 rfl Try.underlying22 info46 rfl (by decide) (by omega) v415 y414 y417 _ _ _ (fun k_ => some k_ ≠ (v425 : Value).ownBlock ∧ k_ ≠ gb401) (fun _ => False) rfl rfl ?aO ?aR (fun _ _ h => h) (fun _ h => h.elim) ?aF ?aB ?aS ?aL ?_
                     (case aR => repeat (first | exact (Kd.C_below HR420.out HB.out) | (with_reducible refine Kd.C_alloc ?_ _) | (with_reducible refine Kd.C_drewN ?_ _) | (with_reducible refine Kd.C_drew ?_)))
                     (case aB => exact (by repeat (first | (with_reducible first | exact HB.out | apply bal | apply bdN | apply bdo | refine below_set ?_ GE401.out) | exact HB.out)))
                     (case aF => exact (fun k_ hk => ⟨Kd.fresh' (Kd.R_lt (by (with_reducible repeat (first | apply Kd.R_alloc | apply Kd.R_drewN | apply Kd.R_drew)); exact HO426.out)) k_ hk, Kd.freshB (g := gb401) (o := .cells #[.string a1_0, .string a1_1, .int .i64 a1_2, .string a1_3, .bool a1_4] 46 (0, 0)) (by (with_reducible repeat (first | refine blk_drewN ?_ _ | refine blk_drew ?_ | refine blk_alloc ?_ _)); exact BK401.out) k_ hk⟩))
                     (case aO => exact (by (with_reducible repeat (first | apply Kd.R_alloc | apply Kd.R_drewN | apply Kd.R_drew)); exact Kd.R_mono HO416.out (fun _ hk => ⟨hk.2, hk.1.2⟩)))
                     (case aS => exact (below_size (by repeat (first | (with_reducible first | exact HB.out | apply bal | apply bdN | apply bdo | refine below_set ?_ GE401.out) | exact HB.out))))
                     (case aL => have := LMc27.out; omega)
                     intro v422 w37 ho hb hg hat
                     rw [← Ny421.out] at ho
                     have n0_ := aS (blk_grown (g := gb401) (o := .cells #[.string a1_0, .string a1_1, .int .i64 a1_2, .string a1_3, .bool a1_4] 46 (0, 0)) (by (with_reducible repeat (first | refine blk_drewN ?_ _ | refine blk_drew ?_ | refine blk_alloc ?_ _)); exact BK401.out) hg (Kd.R_away HO416.out (fun _ hk => hk.1.2)))
                     have n1_ := aS (Kd.R_after (ok := (fun k_ => k_ ≠ gb401)) (by (with_reducible repeat (first | apply Kd.R_alloc | apply Kd.R_drewN | apply Kd.R_drew)); exact Kd.R_mono HO426.out (fun _ hk => ⟨hk.2, hk.1.2⟩)) hg hat)
                     have n2_ := aS (hb)
                     have n3_ := aS (ho)
                     clear BK401; clear HO426; clear HB; clear HO416
                     have BK401 := n0_
                     have HO426 := n1_
                     have HB := n2_
                     have HO423 := n3_
                     clear n0_ n1_ n2_ n3_; clear ho hb hg hat
                     refine hK.out _ _ ⟨(blk_cell BK401.out 0).trans rfl, (blk_cell BK401.out 1).trans rfl, (blk_cell BK401.out 2).trans rfl, (blk_cell BK401.out 3).trans rfl, (blk_cell BK401.out 4).trans rfl⟩ (fun hHeld => ?_)
                     clear hK K
                     refine norm_ (a' := ?_) ?_ ?_
                     rotate_left
                     ·
                      show Act.put _ (some 46) _ = _
                      simp only [Act.put, lsa, lsz, lss, i64_w, i32_w]
                      rfl
                     exact norm_ (by simp only [putAll, Act.put, lsa, lsz, lss]) (hCont (v415, v422, v425) _ ⟨hHeld, (by (with_reducible repeat (first | apply Kd.R_alloc | apply Kd.R_drewN | apply Kd.R_drew)); exact HO423.out), (by (with_reducible repeat (first | apply Kd.R_alloc | apply Kd.R_drewN | apply Kd.R_drew)); exact Kd.R_mono HO426.out (fun _ hk => ⟨hk.2, hk.1⟩)), (by (with_reducible repeat (first | refine blk_drewN ?_ _ | refine blk_drew ?_ | refine blk_alloc ?_ _)); exact BK401.out), (by repeat (first | (with_reducible first | exact HB.out | apply bal | apply bdN | apply bdo | refine below_set ?_ GE401.out) | exact HB.out))⟩)
                   ·
                    skip
                    refine Kd.R_lit_step k46 _ 46 ?hg (N := 48) ?hd (xs := ([(⟨a1_0, a1_1, a1_2, a1_3, a1_4⟩ : S46)] : List (S46))) (inner := [.string a1_0, .string a1_1, .int .i64 a1_2, .string a1_3, .bool a1_4]) (ok := fun _ => True) (okp := fun _ => True) ?hr ?hp (fun _ hk => hk) trivial (Below.refl _ _) (Nat.le_refl _) (by simp) ?_; (case hd => rfl); (case hg => rfl); (case hr => first | (go_simp; done) | (go_simp; rfl)); (case hp => exact (Reps.c5 (show Kd.M k46 _ _ _ (⟨a1_0, a1_1, a1_2, a1_3, a1_4⟩ : S46) [.string a1_0, .string a1_1, .int .i64 a1_2, .string a1_3, .bool a1_4] from (k46_mkM _ _ _ (⟨a1_0, a1_1, a1_2, a1_3, a1_4⟩ : S46) )) (Reps.none _ _)))
                    intro v425 w33 ho34 hb hg_ hnew_
                    clear hg_ hnew_
                    (first | rw [← Ny424.out] at ho34 | (simp only [Int.reduceToNat] at ho34; rw [← Ny424.out] at ho34))
                    have n0_ := aS (Kd.R_lower (Kd.R_newB ho34 (g := gb401) (o := .cells #[.string a1_0, .string a1_1, .int .i64 a1_2, .string a1_3, .bool a1_4] 46 (0, 0)) (by (with_reducible repeat (first | refine blk_drewN ?_ _ | refine blk_drew ?_ | refine blk_alloc ?_ _)); exact BK401.out)) (below_size (by repeat (first | (with_reducible first | exact HB.out | apply bal | apply bdN | apply bdo | refine below_set ?_ GE401.out) | exact HB.out))))
                    have n1_ := aS (blk_below (g := gb401) (o := .cells #[.string a1_0, .string a1_1, .int .i64 a1_2, .string a1_3, .bool a1_4] 46 (0, 0)) (by (with_reducible repeat (first | refine blk_drewN ?_ _ | refine blk_drew ?_ | refine blk_alloc ?_ _)); exact BK401.out) hb)
                    have n2_ := aS (below_step (by repeat (first | (with_reducible first | exact HB.out | apply bal | apply bdN | apply bdo | refine below_set ?_ GE401.out) | exact HB.out)) hb)
                    clear BK401; clear HB
                    have HO426 := n0_
                    have BK401 := n1_
                    have HB := n2_
                    clear n0_ n1_ n2_; clear hb ho34
                    refine hK.out _ _ ⟨(blk_cell BK401.out 0).trans rfl, (blk_cell BK401.out 1).trans rfl, (blk_cell BK401.out 2).trans rfl, (blk_cell BK401.out 3).trans rfl, (blk_cell BK401.out 4).trans rfl⟩ (fun hHeld => ?_)
                    clear hK K
                    refine norm_ (a' := ?_) ?_ ?_
                    rotate_left
                    ·
                     show Act.put _ (some 48) _ = _
                     simp only [Act.put, lsa, lsz, lss, i64_w, i32_w]
                     rfl
                    refine one_ (i := 0) (N := some 42) #[true, true, true, true, false, true, true, false, true, false, false] rfl rfl (one_of HT_.out (by kernel_rfl)) (by decide) (fun K hK => ?_)
                    refine Kd.R_lit_step k46 _ 46 ?hg (N := 42) ?hd (xs := ([] : List (S46))) (inner := []) (ok := fun _ => True) (okp := fun _ => True) ?hr ?hp (fun _ hk => hk) trivial (Below.refl _ _) (Nat.le_refl _) (by simp) ?_; (case hd => rfl); (case hg => rfl); (case hr => first | (go_simp; done) | (go_simp; rfl)); (case hp => exact (Reps.none _ _))
                    intro v415 w35 ho36 hb hg_ hnew_
                    clear hg_ hnew_
                    (first | rw [← Ny414.out] at ho36 | (simp only [Int.reduceToNat] at ho36; rw [← Ny414.out] at ho36))
                    have n0_ := aS (Kd.R_elder' (by (with_reducible repeat (first | apply Kd.R_alloc | apply Kd.R_drewN | apply Kd.R_drew)); exact HO426.out) (by first | exact Kd.R_base ho36 | exact Kd.S_base ho36 | exact Kd.R_base ho36 | exact Kd.V_base ho36) hb)
                    have n1_ := aS (Kd.R_lower (Kd.R_newB (Kd.R_new' ho36 (Kd.R_lt (by (with_reducible repeat (first | apply Kd.R_alloc | apply Kd.R_drewN | apply Kd.R_drew)); exact HO426.out))) (g := gb401) (o := .cells #[.string a1_0, .string a1_1, .int .i64 a1_2, .string a1_3, .bool a1_4] 46 (0, 0)) (by (with_reducible repeat (first | refine blk_drewN ?_ _ | refine blk_drew ?_ | refine blk_alloc ?_ _)); exact BK401.out)) (below_size (by repeat (first | (with_reducible first | exact HB.out | apply bal | apply bdN | apply bdo | refine below_set ?_ GE401.out) | exact HB.out))))
                    have n2_ := aS (blk_below (g := gb401) (o := .cells #[.string a1_0, .string a1_1, .int .i64 a1_2, .string a1_3, .bool a1_4] 46 (0, 0)) (by (with_reducible repeat (first | refine blk_drewN ?_ _ | refine blk_drew ?_ | refine blk_alloc ?_ _)); exact BK401.out) hb)
                    have n3_ := aS (below_step (by repeat (first | (with_reducible first | exact HB.out | apply bal | apply bdN | apply bdo | refine below_set ?_ GE401.out) | exact HB.out)) hb)
                    clear HO426; clear BK401; clear HB
                    have HO426 := n0_
                    have HO416 := n1_
                    have BK401 := n2_
                    have HB := n3_
                    clear n0_ n1_ n2_ n3_; clear hb ho36
                    refine hK.out _ _ ⟨(blk_cell BK401.out 0).trans rfl, (blk_cell BK401.out 1).trans rfl, (blk_cell BK401.out 2).trans rfl, (blk_cell BK401.out 3).trans rfl, (blk_cell BK401.out 4).trans rfl⟩ (fun hHeld => ?_)
                    clear hK K
                    refine norm_ (a' := ?_) ?_ ?_
                    rotate_left
                    ·
                     show Act.put _ (some 42) _ = _
                     simp only [Act.put, lsa, lsz, lss, i64_w, i32_w]
                     rfl
                    refine one_ (i := 4) (N := some 46) #[true, true, true, true, true, true, true, false, true, false, false] rfl rfl (one_of HT_.out (by kernel_rfl)) (by decide) (fun K hK => ?_)
                    refine Kd.R_append_rows_step k46 (w0 := w) w.heap.size (by rfl) (.tmp 42) (.tmp 45) 22 46 (.agg #[(.string ⟨#[]⟩), (.string ⟨#[]⟩), (.int .i64 0), (.string ⟨#[]⟩), (.bool false)]) 64 rfl Try.underlying22 info46 rfl (by decide) (by omega) v415 y414 y417 _ _ _ (fun k_ => some k_ ≠ (v425 : Value).ownBlock ∧ k_ ≠ gb401) (fun _ => False) rfl rfl ?aO ?aR (fun _ _ h => h) (fun _ h => h.elim) ?aF ?aB ?aS ?aL ?_
                    (case aR => repeat (first | exact (Kd.C_below HR420.out HB.out) | (with_reducible refine Kd.C_alloc ?_ _) | (with_reducible refine Kd.C_drewN ?_ _) | (with_reducible refine Kd.C_drew ?_)))
                    (case aB => exact (by repeat (first | (with_reducible first | exact HB.out | apply bal | apply bdN | apply bdo | refine below_set ?_ GE401.out) | exact HB.out)))
                    (case aF => exact (fun k_ hk => ⟨Kd.fresh' (Kd.R_lt (by (with_reducible repeat (first | apply Kd.R_alloc | apply Kd.R_drewN | apply Kd.R_drew)); exact HO426.out)) k_ hk, Kd.freshB (g := gb401) (o := .cells #[.string a1_0, .string a1_1, .int .i64 a1_2, .string a1_3, .bool a1_4] 46 (0, 0)) (by (with_reducible repeat (first | refine blk_drewN ?_ _ | refine blk_drew ?_ | refine blk_alloc ?_ _)); exact BK401.out) k_ hk⟩))
                    (case aO => exact (by (with_reducible repeat (first | apply Kd.R_alloc | apply Kd.R_drewN | apply Kd.R_drew)); exact Kd.R_mono HO416.out (fun _ hk => ⟨hk.1.2, hk.2⟩)))
                    (case aS => exact (below_size (by repeat (first | (with_reducible first | exact HB.out | apply bal | apply bdN | apply bdo | refine below_set ?_ GE401.out) | exact HB.out))))
                    (case aL => have := LMc27.out; omega)
                    intro v422 w37 ho hb hg hat
                    rw [← Ny421.out] at ho
                    have n0_ := aS (blk_grown (g := gb401) (o := .cells #[.string a1_0, .string a1_1, .int .i64 a1_2, .string a1_3, .bool a1_4] 46 (0, 0)) (by (with_reducible repeat (first | refine blk_drewN ?_ _ | refine blk_drew ?_ | refine blk_alloc ?_ _)); exact BK401.out) hg (Kd.R_away HO416.out (fun _ hk => hk.2)))
                    have n1_ := aS (Kd.R_after (ok := (fun k_ => k_ ≠ gb401)) (by (with_reducible repeat (first | apply Kd.R_alloc | apply Kd.R_drewN | apply Kd.R_drew)); exact Kd.R_mono HO426.out (fun _ hk => ⟨hk.1.2, hk.2⟩)) hg hat)
                    have n2_ := aS (hb)
                    have n3_ := aS (ho)
                    clear BK401; clear HO426; clear HB; clear HO416
                    have BK401 := n0_
                    have HO426 := n1_
                    have HB := n2_
                    have HO423 := n3_
                    clear n0_ n1_ n2_ n3_; clear ho hb hg hat
                    refine hK.out _ _ ⟨(blk_cell BK401.out 0).trans rfl, (blk_cell BK401.out 1).trans rfl, (blk_cell BK401.out 2).trans rfl, (blk_cell BK401.out 3).trans rfl, (blk_cell BK401.out 4).trans rfl⟩ (fun hHeld => ?_)
                    clear hK K
                    refine norm_ (a' := ?_) ?_ ?_
                    rotate_left
                    ·
                     show Act.put _ (some 46) _ = _
                     simp only [Act.put, lsa, lsz, lss, i64_w, i32_w]
                     rfl
                    exact norm_ (by simp only [putAll, Act.put, lsa, lsz, lss]) (hCont (v415, v422, v425) _ ⟨hHeld, (by (with_reducible repeat (first | apply Kd.R_alloc | apply Kd.R_drewN | apply Kd.R_drew)); exact HO423.out), (by (with_reducible repeat (first | apply Kd.R_alloc | apply Kd.R_drewN | apply Kd.R_drew)); exact Kd.R_mono HO426.out (fun _ hk => ⟨hk.2, hk.1⟩)), (by (with_reducible repeat (first | refine blk_drewN ?_ _ | refine blk_drew ?_ | refine blk_alloc ?_ _)); exact BK401.out), (by repeat (first | (with_reducible first | exact HB.out | apply bal | apply bdN | apply bdo | refine below_set ?_ GE401.out) | exact HB.out))⟩)
                  rintro ⟨v415, v422, v425⟩ w38 ⟨hS_, h0_, h1_, h2_, h3_⟩
                  have n0_ : Aside0 (Kd.R k46 46 w38 w.heap.size (fun k_ => some k_ ≠ (v425 : Value).ownBlock ∧ k_ ≠ gb401) v422 y421) := ⟨h0_⟩
                  have n1_ : Aside0 (Kd.R k46 46 w38 w.heap.size (fun k_ => some k_ ≠ (v422 : Value).ownBlock ∧ k_ ≠ gb401) v425 y424) := ⟨h1_⟩
                  have n2_ : Aside0 (w38.heap[gb401]? = some (.cells #[.string a1_0, .string a1_1, .int .i64 a1_2, .string a1_3, .bool a1_4] 46 (0, 0))) := ⟨h2_⟩
                  have n3_ : Aside0 (Below w.heap.size w w38) := ⟨h3_⟩
                  clear BK401; clear HB; clear h0_ h1_ h2_ h3_
                  have HO423 := n0_
                  have HO426 := n1_
                  have BK401 := n2_
                  have HB := n3_
                  clear n0_ n1_ n2_ n3_
                  have hHeld : w38.cell? ⟨gb401, 0, none⟩ = some (.string a1_0) ∧ w38.cell? ⟨gb401, 1, none⟩ = some (.string a1_1) ∧ w38.cell? ⟨gb401, 2, none⟩ = some (.int .i64 a1_2) ∧ w38.cell? ⟨gb401, 3, none⟩ = some (.string a1_3) ∧ w38.cell? ⟨gb401, 4, none⟩ = some (.bool a1_4) := hS_
                  obtain ⟨Ao40, co40, eo40⟩ := Kd.R_slice HO426.out
                  (first | subst eo40 | (injection eo40 with f1_ f2_ f3_; have f4_ := f1_.symm; have f5_ := f3_.symm; clear f1_ f2_ f3_; subst f4_; subst f5_))
                  refine norm_ (a' := ?_) ?_ ?_
                  rotate_left
                  ·
                   simp only [putAll, Act.put, lsa, lsz, lss]
                   rfl
                  refine one_ (i := 7) (N := some 49) #[true, true, true, true, true, true, true, true, true, false, false] rfl rfl (one_of HT_.out (by kernel_rfl)) (by decide) (fun K hK => ?_)
                  refine Kd.R_append_rows_step k46 (w0 := w) w.heap.size (by rfl) (.tmp 46) (.tmp 48) 22 46 (.agg #[(.string ⟨#[]⟩), (.string ⟨#[]⟩), (.int .i64 0), (.string ⟨#[]⟩), (.bool false)]) 64 rfl Try.underlying22 info46 rfl (by decide) (by omega) v422 y421 y424 _ _ _ (fun k_ => some k_ ≠ (.slice Ao40 y424.length co40 : Value).ownBlock ∧ k_ ≠ gb401) (fun _ => False) rfl rfl ?aO ?aR (fun _ _ h => h) (fun _ h => h.elim) ?aF ?aB ?aS ?aL ?_
                  (case aR => repeat (first | exact (Kd.R_reads' HO426.out).2.2 | (with_reducible refine Kd.C_alloc ?_ _) | (with_reducible refine Kd.C_drewN ?_ _) | (with_reducible refine Kd.C_drew ?_)))
                  (case aB => exact (by repeat (first | (with_reducible first | exact HB.out | apply bal | apply bdN | apply bdo | refine below_set ?_ GE401.out) | exact HB.out)))
                  (case aF => exact (fun k_ hk => ⟨Kd.fresh' (Kd.R_lt (by (with_reducible repeat (first | apply Kd.R_alloc | apply Kd.R_drewN | apply Kd.R_drew)); exact HO426.out)) k_ hk, Kd.freshB (g := gb401) (o := .cells #[.string a1_0, .string a1_1, .int .i64 a1_2, .string a1_3, .bool a1_4] 46 (0, 0)) (by (with_reducible repeat (first | refine blk_drewN ?_ _ | refine blk_drew ?_ | refine blk_alloc ?_ _)); exact BK401.out) k_ hk⟩))
                  (case aO => exact (by (with_reducible repeat (first | apply Kd.R_alloc | apply Kd.R_drewN | apply Kd.R_drew)); exact HO423.out))
                  (case aS => exact (below_size (by repeat (first | (with_reducible first | exact HB.out | apply bal | apply bdN | apply bdo | refine below_set ?_ GE401.out) | exact HB.out))))
                  (case aL => have := LMc28.out; omega)
                  intro v428 w39 ho hb hg hat
                  rw [← Ny427.out] at ho
                  have n0_ := aS (blk_grown (g := gb401) (o := .cells #[.string a1_0, .string a1_1, .int .i64 a1_2, .string a1_3, .bool a1_4] 46 (0, 0)) (by (with_reducible repeat (first | refine blk_drewN ?_ _ | refine blk_drew ?_ | refine blk_alloc ?_ _)); exact BK401.out) hg (Kd.R_away HO423.out (fun _ hk => hk.2)))
                  have n1_ := aS (Kd.R_after (ok := (fun k_ => k_ ≠ gb401)) (by (with_reducible repeat (first | apply Kd.R_alloc | apply Kd.R_drewN | apply Kd.R_drew)); exact Kd.R_mono HO426.out (fun _ hk => ⟨hk.2, hk.1⟩)) hg hat)
                  have n2_ := aS (hb)
                  have n3_ := aS (ho)
                  clear BK401; clear HO426; clear HB; clear HO423
                  have BK401 := n0_
                  have HO426 := n1_
                  have HB := n2_
                  have HO429 := n3_
                  clear n0_ n1_ n2_ n3_; clear ho hb hg hat
                  refine hK.out _ _ ⟨(blk_cell BK401.out 0).trans rfl, (blk_cell BK401.out 1).trans rfl, (blk_cell BK401.out 2).trans rfl, (blk_cell BK401.out 3).trans rfl, (blk_cell BK401.out 4).trans rfl⟩ (fun hHeld => ?_)
                  clear hK K
                  refine norm_ (a' := ?_) ?_ ?_
                  rotate_left
                  ·
                   show Act.put _ (some 49) _ = _
                   simp only [Act.put, lsa, lsz, lss, i64_w, i32_w]
                   rfl
                  refine one_ (i := 9) (N := some 51) #[true, true, true, true, true, true, true, true, true, true, false] rfl rfl (one_of HT_.out (by kernel_rfl)) (by decide) (fun K hK => ?_)
                  refine Kd.R_append_rows_step k46 (w0 := w) w.heap.size (by rfl) (.tmp 49) (.tmp 50) 22 46 (.agg #[(.string ⟨#[]⟩), (.string ⟨#[]⟩), (.int .i64 0), (.string ⟨#[]⟩), (.bool false)]) 64 rfl Try.underlying22 info46 rfl (by decide) (by omega) v428 y427 y410 _ _ _ (fun k_ => some k_ ≠ (.slice Ao40 y424.length co40 : Value).ownBlock ∧ k_ ≠ gb401) (fun _ => False) rfl rfl ?aO ?aR (fun _ _ h => h) (fun _ h => h.elim) ?aF ?aB ?aS ?aL ?_
                  (case aR => repeat (first | exact (Kd.C_below HR413.out HB.out) | (with_reducible refine Kd.C_alloc ?_ _) | (with_reducible refine Kd.C_drewN ?_ _) | (with_reducible refine Kd.C_drew ?_)))
                  (case aB => exact (by repeat (first | (with_reducible first | exact HB.out | apply bal | apply bdN | apply bdo | refine below_set ?_ GE401.out) | exact HB.out)))
                  (case aF => exact (fun k_ hk => ⟨Kd.fresh' (Kd.R_lt (by (with_reducible repeat (first | apply Kd.R_alloc | apply Kd.R_drewN | apply Kd.R_drew)); exact HO426.out)) k_ hk, Kd.freshB (g := gb401) (o := .cells #[.string a1_0, .string a1_1, .int .i64 a1_2, .string a1_3, .bool a1_4] 46 (0, 0)) (by (with_reducible repeat (first | refine blk_drewN ?_ _ | refine blk_drew ?_ | refine blk_alloc ?_ _)); exact BK401.out) k_ hk⟩))
                  (case aO => exact (by (with_reducible repeat (first | apply Kd.R_alloc | apply Kd.R_drewN | apply Kd.R_drew)); exact HO429.out))
                  (case aS => exact (below_size (by repeat (first | (with_reducible first | exact HB.out | apply bal | apply bdN | apply bdo | refine below_set ?_ GE401.out) | exact HB.out))))
                  (case aL => have := LMc29.out; omega)
                  intro v431 w41 ho hb hg hat
                  rw [← Ny430.out] at ho
                  have n0_ := aS (blk_grown (g := gb401) (o := .cells #[.string a1_0, .string a1_1, .int .i64 a1_2, .string a1_3, .bool a1_4] 46 (0, 0)) (by (with_reducible repeat (first | refine blk_drewN ?_ _ | refine blk_drew ?_ | refine blk_alloc ?_ _)); exact BK401.out) hg (Kd.R_away HO429.out (fun _ hk => hk.2)))
                  have n1_ := aS (Kd.R_after (ok := (fun k_ => k_ ≠ gb401)) (by (with_reducible repeat (first | apply Kd.R_alloc | apply Kd.R_drewN | apply Kd.R_drew)); exact HO426.out) hg hat)
                  have n2_ := aS (hb)
                  have n3_ := aS (ho)
                  clear BK401; clear HO426; clear HB; clear HO429
                  have BK401 := n0_
                  have HO426 := n1_
                  have HB := n2_
                  have HO432 := n3_
                  clear n0_ n1_ n2_ n3_; clear ho hb hg hat
                  refine hK.out _ _ ⟨(blk_cell BK401.out 0).trans rfl, (blk_cell BK401.out 1).trans rfl, (blk_cell BK401.out 2).trans rfl, (blk_cell BK401.out 3).trans rfl, (blk_cell BK401.out 4).trans rfl⟩ (fun hHeld => ?_)
                  clear hK K
                  refine norm_ (a' := ?_) ?_ ?_
                  rotate_left
                  ·
                   show Act.put _ (some 51) _ = _
                   simp only [Act.put, lsa, lsz, lss, i64_w, i32_w]
                   rfl
                  refine pure_ (i := 10) (N := some 4) (v := ?_) (a' := ?_) #[true, true, true, true, true, true, true, true, true, true, true] rfl rfl (any_of HT_.out (by kernel_rfl)) (fun _ _ _ h => h) (Or.inl ⟨by rfl, ?_⟩) ?_ ?_
                  rotate_left
                  ·
                   intro w'
                   go_simp
                   with_reducible rfl
                  rotate_left
                  ·
                   simp only [Act.put, lsa, lsz, lss, i64_w, i32_w]
                   rfl
                  refine done_ (done_of HT_.out (by kernel_rfl)) ?_
                  try go_wp2
                  go_ret
                  exact ⟨_, by first | rfl | (simp [errW_none, errW_some] <;> rfl) | (simp only [← hji22]; first | rfl | (simp [errW_none, errW_some] <;> rfl)) | (simp [*, errW_none, errW_some] <;> rfl), by (with_reducible repeat (first | apply Kd.R_alloc | apply Kd.R_drewN | apply Kd.R_drew)); exact Kd.R_mono HO432.out (fun _ hk => trivial), by repeat (first | (with_reducible first | exact HB.out | apply bal | apply bdN | apply bdo | refine below_set ?_ GE401.out) | exact HB.out)⟩
                 ·
                  rw [if_neg c29] at H
                  exact absurd H (by simp)
                ·
                 rw [if_neg c28] at H
                 exact absurd H (by simp)
               ·
                rw [if_neg c27] at H
                exact absurd H (by simp)
              ·
               rw [if_neg c26] at H
               exact absurd H (by simp)
             ·
              rw [if_neg c25] at H
              exact absurd H (by simp)
            ·
             rw [if_neg c24] at H
             exact absurd H (by simp)
           ·
            rw [if_neg c23] at H
            exact absurd H (by simp)
          ·
           replace c21 := Bool.eq_false_iff.mpr c21
           subst c21
           have H1 : ((some (([] : List (S46)) : List (S46))).bind fun y433 => (if 0 ≤ x5_1 then (if x5_1 ≤ (l0.length : Int) then ((some (l0.take (x5_1 : Int).toNat : List (S46))).bind fun y436 => (if y433.length + y436.length < 2199023255552 then ((some (y433 ++ y436 : List (S46))).bind fun y440 => ((some (([(⟨a1_0, a1_1, a1_2, a1_3, a1_4⟩ : S46)] : List (S46)) : List (S46))).bind fun y443 => (if y440.length + y443.length < 2199023255552 then ((some (y440 ++ y443 : List (S46))).bind fun y446 => (if y446.length + y404.length < 2199023255552 then (some (y446 ++ y404)) else (none))) else (none)))) else (none))) else (none)) else (none))) = some r := by rw [if_neg (show ¬ (false = true) by decide)] at H; exact H
           clear H; have H := H1; clear H1
           obtain ⟨y433, hy433⟩ : ∃ y_ : List (S46), y_ = (([] : List (S46))) := ⟨_, rfl⟩
           replace H : (if 0 ≤ x5_1 then (if x5_1 ≤ (l0.length : Int) then ((some (l0.take (x5_1 : Int).toNat : List (S46))).bind fun y436 => (if y433.length + y436.length < 2199023255552 then ((some (y433 ++ y436 : List (S46))).bind fun y440 => ((some (([(⟨a1_0, a1_1, a1_2, a1_3, a1_4⟩ : S46)] : List (S46)) : List (S46))).bind fun y443 => (if y440.length + y443.length < 2199023255552 then ((some (y440 ++ y443 : List (S46))).bind fun y446 => (if y446.length + y404.length < 2199023255552 then (some (y446 ++ y404)) else (none))) else (none)))) else (none))) else (none)) else (none)) = some r := by first | (rw [hy433]; with_reducible exact H) | (have H2_ := (Option.bind_some _ _).symm.trans H; rw [hy433]; with_reducible exact H2_) | (have H2_ := (Option.bind_some _ _).symm.trans H; with_reducible exact H2_) | with_reducible exact H | (rw [hy433]; exact H) | exact H
           have Ny433 := aS hy433
           clear hy433
           by_cases c42 : 0 ≤ x5_1
           ·
            rw [if_pos c42] at H
            have c42b0 := eq_true c42
            have c42b1 : decide (0 ≤ x5_1) = true := decide_eq_true c42
            clear c42
            by_cases c43 : x5_1 ≤ (l0.length : Int)
            ·
             rw [if_pos c43] at H
             have c43b0 := eq_true c43
             have c43b1 : decide (x5_1 ≤ (l0.length : Int)) = true := decide_eq_true c43
             clear c43
             obtain ⟨y436, hy436⟩ : ∃ y_ : List (S46), y_ = (l0.take (x5_1 : Int).toNat) := ⟨_, rfl⟩
             replace H : (if y433.length + y436.length < 2199023255552 then ((some (y433 ++ y436 : List (S46))).bind fun y440 => ((some (([(⟨a1_0, a1_1, a1_2, a1_3, a1_4⟩ : S46)] : List (S46)) : List (S46))).bind fun y443 => (if y440.length + y443.length < 2199023255552 then ((some (y440 ++ y443 : List (S46))).bind fun y446 => (if y446.length + y404.length < 2199023255552 then (some (y446 ++ y404)) else (none))) else (none)))) else (none)) = some r := by first | (rw [hy436]; with_reducible exact H) | (have H2_ := (Option.bind_some _ _).symm.trans H; rw [hy436]; with_reducible exact H2_) | (have H2_ := (Option.bind_some _ _).symm.trans H; with_reducible exact H2_) | with_reducible exact H | (rw [hy436]; exact H) | exact H
             have Ny436 := aS hy436
             clear hy436
             by_cases c44 : y433.length + y436.length < 2199023255552
             ·
              rw [if_pos c44] at H
              have LMc44 := aS c44
              clear c44
              obtain ⟨y440, hy440⟩ : ∃ y_ : List (S46), y_ = (y433 ++ y436) := ⟨_, rfl⟩
              replace H : ((some (([(⟨a1_0, a1_1, a1_2, a1_3, a1_4⟩ : S46)] : List (S46)) : List (S46))).bind fun y443 => (if y440.length + y443.length < 2199023255552 then ((some (y440 ++ y443 : List (S46))).bind fun y446 => (if y446.length + y404.length < 2199023255552 then (some (y446 ++ y404)) else (none))) else (none))) = some r := by first | (rw [hy440]; with_reducible exact H) | (have H2_ := (Option.bind_some _ _).symm.trans H; rw [hy440]; with_reducible exact H2_) | (have H2_ := (Option.bind_some _ _).symm.trans H; with_reducible exact H2_) | with_reducible exact H | (rw [hy440]; exact H) | exact H
              have Ny440 := aS hy440
              clear hy440
              obtain ⟨y443, hy443⟩ : ∃ y_ : List (S46), y_ = (([(⟨a1_0, a1_1, a1_2, a1_3, a1_4⟩ : S46)] : List (S46))) := ⟨_, rfl⟩
              replace H : (if y440.length + y443.length < 2199023255552 then ((some (y440 ++ y443 : List (S46))).bind fun y446 => (if y446.length + y404.length < 2199023255552 then (some (y446 ++ y404)) else (none))) else (none)) = some r := by first | (rw [hy443]; with_reducible exact H) | (have H2_ := (Option.bind_some _ _).symm.trans H; rw [hy443]; with_reducible exact H2_) | (have H2_ := (Option.bind_some _ _).symm.trans H; with_reducible exact H2_) | with_reducible exact H | (rw [hy443]; exact H) | exact H
              have Ny443 := aS hy443
              clear hy443
              by_cases c45 : y440.length + y443.length < 2199023255552
              ·
               rw [if_pos c45] at H
               have LMc45 := aS c45
               clear c45
               obtain ⟨y446, hy446⟩ : ∃ y_ : List (S46), y_ = (y440 ++ y443) := ⟨_, rfl⟩
               replace H : (if y446.length + y404.length < 2199023255552 then (some (y446 ++ y404)) else (none)) = some r := by first | (rw [hy446]; with_reducible exact H) | (have H2_ := (Option.bind_some _ _).symm.trans H; rw [hy446]; with_reducible exact H2_) | (have H2_ := (Option.bind_some _ _).symm.trans H; with_reducible exact H2_) | with_reducible exact H | (rw [hy446]; exact H) | exact H
               have Ny446 := aS hy446
               clear hy446
               by_cases c46 : y446.length + y404.length < 2199023255552
               ·
                rw [if_pos c46] at H
                have LMc46 := aS c46
                clear c46
                obtain ⟨y449, hy449⟩ : ∃ y_ : List (S46), y_ = (y446 ++ y404) := ⟨_, rfl⟩
                replace H : (some y449) = some r := by first | (rw [hy449]; with_reducible exact H) | (have H2_ := (Option.bind_some _ _).symm.trans H; rw [hy449]; with_reducible exact H2_) | (have H2_ := (Option.bind_some _ _).symm.trans H; with_reducible exact H2_) | with_reducible exact H | (rw [hy449]; exact H) | exact H
                have Ny449 := aS hy449
                clear hy449
                obtain rfl := Option.some.inj H
                try go_wp2
                have n0_ := aS (blk_drew BK401.out)
                have n1_ := aS (bdo HB.out)
                clear BK401; clear HB
                have BK401 := n0_
                have HB := n1_
                clear n0_ n1_
                have q48 : (x5_1 : Int) ≤ ((l0.length : Int) : Int) := odt (by first | (with_reducible assumption) | assumption)
                obtain ⟨i048, hi048, _, hsz48, _⟩ := info_parts info46
                have hroom48 : l0.length ≤ c0 := HC0.out
                have hC48 : Kd.C k46 _ A0 l0.length l0 := HR0.out
                have hcut48 := cut_to (P := Try.prog) 22 46 .i64 Try.underlying22 hi048 A0 l0.length c0 x5_1 (odt (by first | (with_reducible assumption) | assumption)) q48 hroom48
                have hr48 := Kd.C_take (m := (x5_1 : Int).toNat) hC48 (by omega)
                have hy48 : y436.length = (x5_1 : Int).toNat := (by rw [Ny436.out, llt]; omega)
                rw [← Ny436.out] at hr48
                rw [← hy48] at hcut48
                have HR439 := aS hr48
                have HC439 := aS (show y436.length ≤ c0 from by omega)
                clear hr48 hC48 hroom48 hi048 hsz48
                have KY48 := aS hy48
                clear hy48
                replace q48 := eq_true q48
                refine start_ (n := 11) (S := fun w' => w'.cell? ⟨gb401, 0, none⟩ = some (.string a1_0) ∧ w'.cell? ⟨gb401, 1, none⟩ = some (.string a1_1) ∧ w'.cell? ⟨gb401, 2, none⟩ = some (.int .i64 a1_2) ∧ w'.cell? ⟨gb401, 3, none⟩ = some (.string a1_3) ∧ w'.cell? ⟨gb401, 4, none⟩ = some (.bool a1_4)) (ds := []) #[false, false, false, false, false, false, false, false, false, false, false] (by kernel_rfl) rfl rfl ⟨(blk_cell BK401.out 0).trans rfl, (blk_cell BK401.out 1).trans rfl, (blk_cell BK401.out 2).trans rfl, (blk_cell BK401.out 3).trans rfl, (blk_cell BK401.out 4).trans rfl⟩ (fun hHeld => ?_); refine with_tabW shardlogref08_Put1.tab7 shardlogref08_Put1.bits7 (fun HT_ HW_ => ?_)
                generalize wc.drew = w47 at BK401 HB HR439 hHeld ⊢
                refine pure_ (i := 1) (N := some 43) (v := ?_) (a' := ?_) #[false, true, false, false, false, false, false, false, false, false, false] rfl rfl (any_of HT_.out (by kernel_rfl)) (fun _ _ _ h => h) (Or.inl ⟨by rfl, ?_⟩) ?_ ?_
                rotate_left
                ·
                 intro w'
                 go_simp
                 with_reducible rfl
                rotate_left
                ·
                 simp only [Act.put, lsa, lsz, lss, i64_w, i32_w]
                 rfl
                refine pure_ (i := 2) (N := some 44) (v := ?_) (a' := ?_) #[false, true, true, false, false, false, false, false, false, false, false] rfl rfl (any_of HT_.out (by kernel_rfl)) (fun _ _ _ h => h) (Or.inl ⟨by rfl, ?_⟩) ?_ ?_
                rotate_left
                ·
                 intro w'
                 go_simp
                 with_reducible rfl
                rotate_left
                ·
                 simp only [Act.put, lsa, lsz, lss, i64_w, i32_w]
                 rfl
                refine pure_ (i := 3) (N := some 45) (v := ?_) (a' := ?_) #[false, true, true, true, false, false, false, false, false, false, false] rfl rfl (any_of HT_.out (by kernel_rfl)) (fun _ _ _ h => h) (Or.inl ⟨by rfl, ?_⟩) ?_ ?_
                rotate_left
                ·
                 intro w'
                 go_simp
                 with_reducible rfl
                rotate_left
                ·
                 simp only [Act.put, lsa, lsz, lss, i64_w, i32_w]
                 rfl
                refine pure_ (i := 8) (N := some 50) (v := ?_) (a' := ?_) #[false, true, true, true, false, false, false, false, true, false, false] rfl rfl (any_of HT_.out (by kernel_rfl)) (fun _ _ _ h => h) (Or.inl ⟨by rfl, ?_⟩) ?_ ?_
                rotate_left
                ·
                 intro w'
                 go_simp
                 with_reducible rfl
                rotate_left
                ·
                 simp only [Act.put, lsa, lsz, lss, i64_w, i32_w]
                 rfl
                refine take_ (i := 5) (N := some 47) (v := ?_) (a' := ?_) #[false, true, true, true, false, true, false, false, true, false, false] rfl rfl (take_ofW HT_.out HW_.out (by kernel_rfl)) (fun _ _ _ h => h) (Or.inl ⟨by rfl, ?_⟩) hHeld ?_ ?_
                rotate_left
                ·
                 rintro w' ⟨s0, s1, s2, s3, s4⟩
                 go_simp
                 with_reducible rfl
                rotate_left
                ·
                 simp only [Act.put, lsa, lsz, lss, i64_w, i32_w]
                 rfl
                refine join_ (σ := Value × Value × Value) 3 #[true, true, true, true, true, true, true, false, true, false, false] (fun s_ => [(42, s_.1), (46, s_.2.1), (48, s_.2.2)]) (fun s_ w' => (w'.cell? ⟨gb401, 0, none⟩ = some (.string a1_0) ∧ w'.cell? ⟨gb401, 1, none⟩ = some (.string a1_1) ∧ w'.cell? ⟨gb401, 2, none⟩ = some (.int .i64 a1_2) ∧ w'.cell? ⟨gb401, 3, none⟩ = some (.string a1_3) ∧ w'.cell? ⟨gb401, 4, none⟩ = some (.bool a1_4)) ∧ (Kd.R k46 46 w' w.heap.size (fun k_ => some k_ ≠ (s_.2.2 : Value).ownBlock ∧ k_ ≠ gb401) s_.2.1 y440) ∧ (Kd.R k46 46 w' w.heap.size (fun k_ => some k_ ≠ (s_.2.1 : Value).ownBlock ∧ k_ ≠ gb401) s_.2.2 y443) ∧ (w'.heap[gb401]? = some (.cells #[.string a1_0, .string a1_1, .int .i64 a1_2, .string a1_3, .bool a1_4] 46 (0, 0))) ∧ (Below w.heap.size w w')) ?_ ?_
                rotate_left
                ·
                 intro hCont
                 refine two_ (i := 0) (j := 6) (Ni := some 42) (Nj := some 48) #[true, true, true, true, false, true, false, false, true, false, false] #[false, true, true, true, false, true, true, false, true, false, false] rfl rfl rfl rfl (two_of HT_.out (by kernel_rfl)) (by decide) (by decide) (fun K hK => ?_) (fun K hK => ?_)
                 ·
                  skip
                  refine Kd.R_lit_step k46 _ 46 ?hg (N := 42) ?hd (xs := ([] : List (S46))) (inner := []) (ok := fun _ => True) (okp := fun _ => True) ?hr ?hp (fun _ hk => hk) trivial (Below.refl _ _) (Nat.le_refl _) (by simp) ?_; (case hd => rfl); (case hg => rfl); (case hr => first | (go_simp; done) | (go_simp; rfl)); (case hp => exact (Reps.none _ _))
                  intro v434 w49 ho50 hb hg_ hnew_
                  clear hg_ hnew_
                  (first | rw [← Ny433.out] at ho50 | (simp only [Int.reduceToNat] at ho50; rw [← Ny433.out] at ho50))
                  have n0_ := aS (Kd.R_lower (Kd.R_newB ho50 (g := gb401) (o := .cells #[.string a1_0, .string a1_1, .int .i64 a1_2, .string a1_3, .bool a1_4] 46 (0, 0)) (by (with_reducible repeat (first | refine blk_drewN ?_ _ | refine blk_drew ?_ | refine blk_alloc ?_ _)); exact BK401.out)) (below_size (by repeat (first | (with_reducible first | exact HB.out | apply bal | apply bdN | apply bdo | refine below_set ?_ GE401.out) | exact HB.out))))
                  have n1_ := aS (blk_below (g := gb401) (o := .cells #[.string a1_0, .string a1_1, .int .i64 a1_2, .string a1_3, .bool a1_4] 46 (0, 0)) (by (with_reducible repeat (first | refine blk_drewN ?_ _ | refine blk_drew ?_ | refine blk_alloc ?_ _)); exact BK401.out) hb)
                  have n2_ := aS (below_step (by repeat (first | (with_reducible first | exact HB.out | apply bal | apply bdN | apply bdo | refine below_set ?_ GE401.out) | exact HB.out)) hb)
                  clear BK401; clear HB
                  have HO435 := n0_
                  have BK401 := n1_
                  have HB := n2_
                  clear n0_ n1_ n2_; clear hb ho50
                  refine hK.out _ _ ⟨(blk_cell BK401.out 0).trans rfl, (blk_cell BK401.out 1).trans rfl, (blk_cell BK401.out 2).trans rfl, (blk_cell BK401.out 3).trans rfl, (blk_cell BK401.out 4).trans rfl⟩ (fun hHeld => ?_)
                  clear hK K
                  refine norm_ (a' := ?_) ?_ ?_
                  rotate_left
                  ·
                   show Act.put _ (some 42) _ = _
                   simp only [Act.put, lsa, lsz, lss, i64_w, i32_w]
                   rfl
                  refine two_ (i := 4) (j := 6) (Ni := some 46) (Nj := some 48) #[true, true, true, true, true, true, false, false, true, false, false] #[true, true, true, true, false, true, true, false, true, false, false] rfl rfl rfl rfl (two_of HT_.out (by kernel_rfl)) (by decide) (by decide) (fun K hK => ?_) (fun K hK => ?_)
                  ·
                   skip
                   refine Kd.R_append_rows_step k46 (w0 := w) w.heap.size (by rfl) (.tmp 42) (.tmp 45) 22 46 (.agg #[(.string ⟨#[]⟩), (.string ⟨#[]⟩), (.int .i64 0), (.string ⟨#[]⟩), (.bool false)]) 64 rfl Try.underlying22 info46 rfl (by decide) (by omega) v434 y433 y436 _ _ _ (fun k_ => k_ ≠ gb401) (fun _ => False) rfl rfl ?aO ?aR (fun _ _ h => h) (fun _ h => h.elim) ?aF ?aB ?aS ?aL ?_
                   (case aR => repeat (first | exact (Kd.C_below HR439.out HB.out) | (with_reducible refine Kd.C_alloc ?_ _) | (with_reducible refine Kd.C_drewN ?_ _) | (with_reducible refine Kd.C_drew ?_)))
                   (case aB => exact (by repeat (first | (with_reducible first | exact HB.out | apply bal | apply bdN | apply bdo | refine below_set ?_ GE401.out) | exact HB.out)))
                   (case aF => exact (fun k_ hk => Kd.freshB (g := gb401) (o := .cells #[.string a1_0, .string a1_1, .int .i64 a1_2, .string a1_3, .bool a1_4] 46 (0, 0)) (by (with_reducible repeat (first | refine blk_drewN ?_ _ | refine blk_drew ?_ | refine blk_alloc ?_ _)); exact BK401.out) k_ hk))
                   (case aO => exact (by (with_reducible repeat (first | apply Kd.R_alloc | apply Kd.R_drewN | apply Kd.R_drew)); exact Kd.R_mono HO435.out (fun _ hk => hk.2)))
                   (case aS => exact (below_size (by repeat (first | (with_reducible first | exact HB.out | apply bal | apply bdN | apply bdo | refine below_set ?_ GE401.out) | exact HB.out))))
                   (case aL => have := LMc44.out; omega)
                   intro v441 w51 ho hb hg hat
                   rw [← Ny440.out] at ho
                   have n0_ := aS (blk_grown (g := gb401) (o := .cells #[.string a1_0, .string a1_1, .int .i64 a1_2, .string a1_3, .bool a1_4] 46 (0, 0)) (by (with_reducible repeat (first | refine blk_drewN ?_ _ | refine blk_drew ?_ | refine blk_alloc ?_ _)); exact BK401.out) hg (Kd.R_away HO435.out (fun _ hk => hk.2)))
                   have n1_ := aS (hb)
                   have n2_ := aS (ho)
                   clear BK401; clear HB; clear HO435
                   have BK401 := n0_
                   have HB := n1_
                   have HO442 := n2_
                   clear n0_ n1_ n2_; clear ho hb hg hat
                   refine hK.out _ _ ⟨(blk_cell BK401.out 0).trans rfl, (blk_cell BK401.out 1).trans rfl, (blk_cell BK401.out 2).trans rfl, (blk_cell BK401.out 3).trans rfl, (blk_cell BK401.out 4).trans rfl⟩ (fun hHeld => ?_)
                   clear hK K
                   refine norm_ (a' := ?_) ?_ ?_
                   rotate_left
                   ·
                    show Act.put _ (some 46) _ = _
                    simp only [Act.put, lsa, lsz, lss, i64_w, i32_w]
                    rfl
                   refine one_ (i := 6) (N := some 48) #[true, true, true, true, true, true, true, false, true, false, false] rfl rfl (one_of HT_.out (by kernel_rfl)) (by decide) (fun K hK => ?_)
                   refine Kd.R_lit_step k46 _ 46 ?hg (N := 48) ?hd (xs := ([(⟨a1_0, a1_1, a1_2, a1_3, a1_4⟩ : S46)] : List (S46))) (inner := [.string a1_0, .string a1_1, .int .i64 a1_2, .string a1_3, .bool a1_4]) (ok := fun _ => True) (okp := fun _ => True) ?hr ?hp (fun _ hk => hk) trivial (Below.refl _ _) (Nat.le_refl _) (by simp) ?_; (case hd => rfl); (case hg => rfl); (case hr => first | (go_simp; done) | (go_simp; rfl)); (case hp => exact (Reps.c5 (show Kd.M k46 _ _ _ (⟨a1_0, a1_1, a1_2, a1_3, a1_4⟩ : S46) [.string a1_0, .string a1_1, .int .i64 a1_2, .string a1_3, .bool a1_4] from (k46_mkM _ _ _ (⟨a1_0, a1_1, a1_2, a1_3, a1_4⟩ : S46) )) (Reps.none _ _)))
                   intro v444 w52 ho53 hb hg_ hnew_
                   clear hg_ hnew_
                   (first | rw [← Ny443.out] at ho53 | (simp only [Int.reduceToNat] at ho53; rw [← Ny443.out] at ho53))
                   have n0_ := aS (Kd.R_elder' (by (with_reducible repeat (first | apply Kd.R_alloc | apply Kd.R_drewN | apply Kd.R_drew)); exact HO442.out) (by first | exact Kd.R_base ho53 | exact Kd.S_base ho53 | exact Kd.R_base ho53 | exact Kd.V_base ho53) hb)
                   have n1_ := aS (Kd.R_lower (Kd.R_newB (Kd.R_new' ho53 (Kd.R_lt (by (with_reducible repeat (first | apply Kd.R_alloc | apply Kd.R_drewN | apply Kd.R_drew)); exact HO442.out))) (g := gb401) (o := .cells #[.string a1_0, .string a1_1, .int .i64 a1_2, .string a1_3, .bool a1_4] 46 (0, 0)) (by (with_reducible repeat (first | refine blk_drewN ?_ _ | refine blk_drew ?_ | refine blk_alloc ?_ _)); exact BK401.out)) (below_size (by repeat (first | (with_reducible first | exact HB.out | apply bal | apply bdN | apply bdo | refine below_set ?_ GE401.out) | exact HB.out))))
                   have n2_ := aS (blk_below (g := gb401) (o := .cells #[.string a1_0, .string a1_1, .int .i64 a1_2, .string a1_3, .bool a1_4] 46 (0, 0)) (by (with_reducible repeat (first | refine blk_drewN ?_ _ | refine blk_drew ?_ | refine blk_alloc ?_ _)); exact BK401.out) hb)
                   have n3_ := aS (below_step (by repeat (first | (with_reducible first | exact HB.out | apply bal | apply bdN | apply bdo | refine below_set ?_ GE401.out) | exact HB.out)) hb)
                   clear HO442; clear BK401; clear HB
                   have HO442 := n0_
                   have HO445 := n1_
                   have BK401 := n2_
                   have HB := n3_
                   clear n0_ n1_ n2_ n3_; clear hb ho53
                   refine hK.out _ _ ⟨(blk_cell BK401.out 0).trans rfl, (blk_cell BK401.out 1).trans rfl, (blk_cell BK401.out 2).trans rfl, (blk_cell BK401.out 3).trans rfl, (blk_cell BK401.out 4).trans rfl⟩ (fun hHeld => ?_)
                   clear hK K
                   refine norm_ (a' := ?_) ?_ ?_
                   rotate_left
                   ·
                    show Act.put _ (some 48) _ = _
                    simp only [Act.put, lsa, lsz, lss, i64_w, i32_w]
                    rfl
                   exact norm_ (by simp only [putAll, Act.put, lsa, lsz, lss]) (hCont (v434, v441, v444) _ ⟨hHeld, (by (with_reducible repeat (first | apply Kd.R_alloc | apply Kd.R_drewN | apply Kd.R_drew)); exact Kd.R_mono HO442.out (fun _ hk => ⟨hk.2, hk.1⟩)), (by (with_reducible repeat (first | apply Kd.R_alloc | apply Kd.R_drewN | apply Kd.R_drew)); exact Kd.R_mono HO445.out (fun _ hk => ⟨hk.1.2, hk.2⟩)), (by (with_reducible repeat (first | refine blk_drewN ?_ _ | refine blk_drew ?_ | refine blk_alloc ?_ _)); exact BK401.out), (by repeat (first | (with_reducible first | exact HB.out | apply bal | apply bdN | apply bdo | refine below_set ?_ GE401.out) | exact HB.out))⟩)
                  ·
                   skip
                   refine Kd.R_lit_step k46 _ 46 ?hg (N := 48) ?hd (xs := ([(⟨a1_0, a1_1, a1_2, a1_3, a1_4⟩ : S46)] : List (S46))) (inner := [.string a1_0, .string a1_1, .int .i64 a1_2, .string a1_3, .bool a1_4]) (ok := fun _ => True) (okp := fun _ => True) ?hr ?hp (fun _ hk => hk) trivial (Below.refl _ _) (Nat.le_refl _) (by simp) ?_; (case hd => rfl); (case hg => rfl); (case hr => first | (go_simp; done) | (go_simp; rfl)); (case hp => exact (Reps.c5 (show Kd.M k46 _ _ _ (⟨a1_0, a1_1, a1_2, a1_3, a1_4⟩ : S46) [.string a1_0, .string a1_1, .int .i64 a1_2, .string a1_3, .bool a1_4] from (k46_mkM _ _ _ (⟨a1_0, a1_1, a1_2, a1_3, a1_4⟩ : S46) )) (Reps.none _ _)))
                   intro v444 w51 ho52 hb hg_ hnew_
                   clear hg_ hnew_
                   (first | rw [← Ny443.out] at ho52 | (simp only [Int.reduceToNat] at ho52; rw [← Ny443.out] at ho52))
                   have n0_ := aS (Kd.R_elder' (by (with_reducible repeat (first | apply Kd.R_alloc | apply Kd.R_drewN | apply Kd.R_drew)); exact HO435.out) (by first | exact Kd.R_base ho52 | exact Kd.S_base ho52 | exact Kd.R_base ho52 | exact Kd.V_base ho52) hb)
                   have n1_ := aS (Kd.R_lower (Kd.R_newB (Kd.R_new' ho52 (Kd.R_lt (by (with_reducible repeat (first | apply Kd.R_alloc | apply Kd.R_drewN | apply Kd.R_drew)); exact HO435.out))) (g := gb401) (o := .cells #[.string a1_0, .string a1_1, .int .i64 a1_2, .string a1_3, .bool a1_4] 46 (0, 0)) (by (with_reducible repeat (first | refine blk_drewN ?_ _ | refine blk_drew ?_ | refine blk_alloc ?_ _)); exact BK401.out)) (below_size (by repeat (first | (with_reducible first | exact HB.out | apply bal | apply bdN | apply bdo | refine below_set ?_ GE401.out) | exact HB.out))))
                   have n2_ := aS (blk_below (g := gb401) (o := .cells #[.string a1_0, .string a1_1, .int .i64 a1_2, .string a1_3, .bool a1_4] 46 (0, 0)) (by (with_reducible repeat (first | refine blk_drewN ?_ _ | refine blk_drew ?_ | refine blk_alloc ?_ _)); exact BK401.out) hb)
                   have n3_ := aS (below_step (by repeat (first | (with_reducible first | exact HB.out | apply bal | apply bdN | apply bdo | refine below_set ?_ GE401.out) | exact HB.out)) hb)
                   clear HO435; clear BK401; clear HB
                   have HO435 := n0_
                   have HO445 := n1_
                   have BK401 := n2_
                   have HB := n3_
                   clear n0_ n1_ n2_ n3_; clear hb ho52
                   refine hK.out _ _ ⟨(blk_cell BK401.out 0).trans rfl, (blk_cell BK401.out 1).trans rfl, (blk_cell BK401.out 2).trans rfl, (blk_cell BK401.out 3).trans rfl, (blk_cell BK401.out 4).trans rfl⟩ (fun hHeld => ?_)
                   clear hK K
                   refine norm_ (a' := ?_) ?_ ?_
                   rotate_left
                   ·
                    show Act.put _ (some 48) _ = _
                    simp only [Act.put, lsa, lsz, lss, i64_w, i32_w]
                    rfl
                   refine one_ (i := 4) (N := some 46) #[true, true, true, true, true, true, true, false, true, false, false] rfl rfl (one_of HT_.out (by kernel_rfl)) (by decide) (fun K hK => ?_)
                   refine Kd.R_append_rows_step k46 (w0 := w) w.heap.size (by rfl) (.tmp 42) (.tmp 45) 22 46 (.agg #[(.string ⟨#[]⟩), (.string ⟨#[]⟩), (.int .i64 0), (.string ⟨#[]⟩), (.bool false)]) 64 rfl Try.underlying22 info46 rfl (by decide) (by omega) v434 y433 y436 _ _ _ (fun k_ => some k_ ≠ (v444 : Value).ownBlock ∧ k_ ≠ gb401) (fun _ => False) rfl rfl ?aO ?aR (fun _ _ h => h) (fun _ h => h.elim) ?aF ?aB ?aS ?aL ?_
                   (case aR => repeat (first | exact (Kd.C_below HR439.out HB.out) | (with_reducible refine Kd.C_alloc ?_ _) | (with_reducible refine Kd.C_drewN ?_ _) | (with_reducible refine Kd.C_drew ?_)))
                   (case aB => exact (by repeat (first | (with_reducible first | exact HB.out | apply bal | apply bdN | apply bdo | refine below_set ?_ GE401.out) | exact HB.out)))
                   (case aF => exact (fun k_ hk => ⟨Kd.fresh' (Kd.R_lt (by (with_reducible repeat (first | apply Kd.R_alloc | apply Kd.R_drewN | apply Kd.R_drew)); exact HO445.out)) k_ hk, Kd.freshB (g := gb401) (o := .cells #[.string a1_0, .string a1_1, .int .i64 a1_2, .string a1_3, .bool a1_4] 46 (0, 0)) (by (with_reducible repeat (first | refine blk_drewN ?_ _ | refine blk_drew ?_ | refine blk_alloc ?_ _)); exact BK401.out) k_ hk⟩))
                   (case aO => exact (by (with_reducible repeat (first | apply Kd.R_alloc | apply Kd.R_drewN | apply Kd.R_drew)); exact Kd.R_mono HO435.out (fun _ hk => ⟨hk.2, hk.1.2⟩)))
                   (case aS => exact (below_size (by repeat (first | (with_reducible first | exact HB.out | apply bal | apply bdN | apply bdo | refine below_set ?_ GE401.out) | exact HB.out))))
                   (case aL => have := LMc44.out; omega)
                   intro v441 w53 ho hb hg hat
                   rw [← Ny440.out] at ho
                   have n0_ := aS (blk_grown (g := gb401) (o := .cells #[.string a1_0, .string a1_1, .int .i64 a1_2, .string a1_3, .bool a1_4] 46 (0, 0)) (by (with_reducible repeat (first | refine blk_drewN ?_ _ | refine blk_drew ?_ | refine blk_alloc ?_ _)); exact BK401.out) hg (Kd.R_away HO435.out (fun _ hk => hk.1.2)))
                   have n1_ := aS (Kd.R_after (ok := (fun k_ => k_ ≠ gb401)) (by (with_reducible repeat (first | apply Kd.R_alloc | apply Kd.R_drewN | apply Kd.R_drew)); exact Kd.R_mono HO445.out (fun _ hk => ⟨hk.2, hk.1.2⟩)) hg hat)
                   have n2_ := aS (hb)
                   have n3_ := aS (ho)
                   clear BK401; clear HO445; clear HB; clear HO435
                   have BK401 := n0_
                   have HO445 := n1_
                   have HB := n2_
                   have HO442 := n3_
                   clear n0_ n1_ n2_ n3_; clear ho hb hg hat
                   refine hK.out _ _ ⟨(blk_cell BK401.out 0).trans rfl, (blk_cell BK401.out 1).trans rfl, (blk_cell BK401.out 2).trans rfl, (blk_cell BK401.out 3).trans rfl, (blk_cell BK401.out 4).trans rfl⟩ (fun hHeld => ?_)
                   clear hK K
                   refine norm_ (a' := ?_) ?_ ?_
                   rotate_left
                   ·
                    show Act.put _ (some 46) _ = _
                    simp only [Act.put, lsa, lsz, lss, i64_w, i32_w]
                    rfl
                   exact norm_ (by simp only [putAll, Act.put, lsa, lsz, lss]) (hCont (v434, v441, v444) _ ⟨hHeld, (by (with_reducible repeat (first | apply Kd.R_alloc | apply Kd.R_drewN | apply Kd.R_drew)); exact HO442.out), (by (with_reducible repeat (first | apply Kd.R_alloc | apply Kd.R_drewN | apply Kd.R_drew)); exact Kd.R_mono HO445.out (fun _ hk => ⟨hk.2, hk.1⟩)), (by (with_reducible repeat (first | refine blk_drewN ?_ _ | refine blk_drew ?_ | refine blk_alloc ?_ _)); exact BK401.out), (by repeat (first | (with_reducible first | exact HB.out | apply bal | apply bdN | apply bdo | refine below_set ?_ GE401.out) | exact HB.out))⟩)
                 ·
                  skip
                  refine Kd.R_lit_step k46 _ 46 ?hg (N := 48) ?hd (xs := ([(⟨a1_0, a1_1, a1_2, a1_3, a1_4⟩ : S46)] : List (S46))) (inner := [.string a1_0, .string a1_1, .int .i64 a1_2, .string a1_3, .bool a1_4]) (ok := fun _ => True) (okp := fun _ => True) ?hr ?hp (fun _ hk => hk) trivial (Below.refl _ _) (Nat.le_refl _) (by simp) ?_; (case hd => rfl); (case hg => rfl); (case hr => first | (go_simp; done) | (go_simp; rfl)); (case hp => exact (Reps.c5 (show Kd.M k46 _ _ _ (⟨a1_0, a1_1, a1_2, a1_3, a1_4⟩ : S46) [.string a1_0, .string a1_1, .int .i64 a1_2, .string a1_3, .bool a1_4] from (k46_mkM _ _ _ (⟨a1_0, a1_1, a1_2, a1_3, a1_4⟩ : S46) )) (Reps.none _ _)))
                  intro v444 w49 ho50 hb hg_ hnew_
                  clear hg_ hnew_
                  (first | rw [← Ny443.out] at ho50 | (simp only [Int.reduceToNat] at ho50; rw [← Ny443.out] at ho50))
                  have n0_ := aS (Kd.R_lower (Kd.R_newB ho50 (g := gb401) (o := .cells #[.string a1_0, .string a1_1, .int .i64 a1_2, .string a1_3, .bool a1_4] 46 (0, 0)) (by (with_reducible repeat (first | refine blk_drewN ?_ _ | refine blk_drew ?_ | refine blk_alloc ?_ _)); exact BK401.out)) (below_size (by repeat (first | (with_reducible first | exact HB.out | apply bal | apply bdN | apply bdo | refine below_set ?_ GE401.out) | exact HB.out))))
                  have n1_ := aS (blk_below (g := gb401) (o := .cells #[.string a1_0, .string a1_1, .int .i64 a1_2, .string a1_3, .bool a1_4] 46 (0, 0)) (by (with_reducible repeat (first | refine blk_drewN ?_ _ | refine blk_drew ?_ | refine blk_alloc ?_ _)); exact BK401.out) hb)
                  have n2_ := aS (below_step (by repeat (first | (with_reducible first | exact HB.out | apply bal | apply bdN | apply bdo | refine below_set ?_ GE401.out) | exact HB.out)) hb)
                  clear BK401; clear HB
                  have HO445 := n0_
                  have BK401 := n1_
                  have HB := n2_
                  clear n0_ n1_ n2_; clear hb ho50
                  refine hK.out _ _ ⟨(blk_cell BK401.out 0).trans rfl, (blk_cell BK401.out 1).trans rfl, (blk_cell BK401.out 2).trans rfl, (blk_cell BK401.out 3).trans rfl, (blk_cell BK401.out 4).trans rfl⟩ (fun hHeld => ?_)
                  clear hK K
                  refine norm_ (a' := ?_) ?_ ?_
                  rotate_left
                  ·
                   show Act.put _ (some 48) _ = _
                   simp only [Act.put, lsa, lsz, lss, i64_w, i32_w]
                   rfl
                  refine one_ (i := 0) (N := some 42) #[true, true, true, true, false, true, true, false, true, false, false] rfl rfl (one_of HT_.out (by kernel_rfl)) (by decide) (fun K hK => ?_)
                  refine Kd.R_lit_step k46 _ 46 ?hg (N := 42) ?hd (xs := ([] : List (S46))) (inner := []) (ok := fun _ => True) (okp := fun _ => True) ?hr ?hp (fun _ hk => hk) trivial (Below.refl _ _) (Nat.le_refl _) (by simp) ?_; (case hd => rfl); (case hg => rfl); (case hr => first | (go_simp; done) | (go_simp; rfl)); (case hp => exact (Reps.none _ _))
                  intro v434 w51 ho52 hb hg_ hnew_
                  clear hg_ hnew_
                  (first | rw [← Ny433.out] at ho52 | (simp only [Int.reduceToNat] at ho52; rw [← Ny433.out] at ho52))
                  have n0_ := aS (Kd.R_elder' (by (with_reducible repeat (first | apply Kd.R_alloc | apply Kd.R_drewN | apply Kd.R_drew)); exact HO445.out) (by first | exact Kd.R_base ho52 | exact Kd.S_base ho52 | exact Kd.R_base ho52 | exact Kd.V_base ho52) hb)
                  have n1_ := aS (Kd.R_lower (Kd.R_newB (Kd.R_new' ho52 (Kd.R_lt (by (with_reducible repeat (first | apply Kd.R_alloc | apply Kd.R_drewN | apply Kd.R_drew)); exact HO445.out))) (g := gb401) (o := .cells #[.string a1_0, .string a1_1, .int .i64 a1_2, .string a1_3, .bool a1_4] 46 (0, 0)) (by (with_reducible repeat (first | refine blk_drewN ?_ _ | refine blk_drew ?_ | refine blk_alloc ?_ _)); exact BK401.out)) (below_size (by repeat (first | (with_reducible first | exact HB.out | apply bal | apply bdN | apply bdo | refine below_set ?_ GE401.out) | exact HB.out))))
                  have n2_ := aS (blk_below (g := gb401) (o := .cells #[.string a1_0, .string a1_1, .int .i64 a1_2, .string a1_3, .bool a1_4] 46 (0, 0)) (by (with_reducible repeat (first | refine blk_drewN ?_ _ | refine blk_drew ?_ | refine blk_alloc ?_ _)); exact BK401.out) hb)
                  have n3_ := aS (below_step (by repeat (first | (with_reducible first | exact HB.out | apply bal | apply bdN | apply bdo | refine below_set ?_ GE401.out) | exact HB.out)) hb)
                  clear HO445; clear BK401; clear HB
                  have HO445 := n0_
                  have HO435 := n1_
                  have BK401 := n2_
                  have HB := n3_
                  clear n0_ n1_ n2_ n3_; clear hb ho52
                  refine hK.out _ _ ⟨(blk_cell BK401.out 0).trans rfl, (blk_cell BK401.out 1).trans rfl, (blk_cell BK401.out 2).trans rfl, (blk_cell BK401.out 3).trans rfl, (blk_cell BK401.out 4).trans rfl⟩ (fun hHeld => ?_)
                  clear hK K
                  refine norm_ (a' := ?_) ?_ ?_
                  rotate_left
                  ·
                   show Act.put _ (some 42) _ = _
                   simp only [Act.put, lsa, lsz, lss, i64_w, i32_w]
                   rfl
                  refine one_ (i := 4) (N := some 46) #[true, true, true, true, true, true, true, false, true, false, false] rfl rfl (one_of HT_.out (by kernel_rfl)) (by decide) (fun K hK => ?_)
                  refine Kd.R_append_rows_step k46 (w0 := w) w.heap.size (by rfl) (.tmp 42) (.tmp 45) 22 46 (.agg #[(.string ⟨#[]⟩), (.string ⟨#[]⟩), (.int .i64 0), (.string ⟨#[]⟩), (.bool false)]) 64 rfl Try.underlying22 info46 rfl (by decide) (by omega) v434 y433 y436 _ _ _ (fun k_ => some k_ ≠ (v444 : Value).ownBlock ∧ k_ ≠ gb401) (fun _ => False) rfl rfl ?aO ?aR (fun _ _ h => h) (fun _ h => h.elim) ?aF ?aB ?aS ?aL ?_
                  (case aR => repeat (first | exact (Kd.C_below HR439.out HB.out) | (with_reducible refine Kd.C_alloc ?_ _) | (with_reducible refine Kd.C_drewN ?_ _) | (with_reducible refine Kd.C_drew ?_)))
                  (case aB => exact (by repeat (first | (with_reducible first | exact HB.out | apply bal | apply bdN | apply bdo | refine below_set ?_ GE401.out) | exact HB.out)))
                  (case aF => exact (fun k_ hk => ⟨Kd.fresh' (Kd.R_lt (by (with_reducible repeat (first | apply Kd.R_alloc | apply Kd.R_drewN | apply Kd.R_drew)); exact HO445.out)) k_ hk, Kd.freshB (g := gb401) (o := .cells #[.string a1_0, .string a1_1, .int .i64 a1_2, .string a1_3, .bool a1_4] 46 (0, 0)) (by (with_reducible repeat (first | refine blk_drewN ?_ _ | refine blk_drew ?_ | refine blk_alloc ?_ _)); exact BK401.out) k_ hk⟩))
                  (case aO => exact (by (with_reducible repeat (first | apply Kd.R_alloc | apply Kd.R_drewN | apply Kd.R_drew)); exact Kd.R_mono HO435.out (fun _ hk => ⟨hk.1.2, hk.2⟩)))
                  (case aS => exact (below_size (by repeat (first | (with_reducible first | exact HB.out | apply bal | apply bdN | apply bdo | refine below_set ?_ GE401.out) | exact HB.out))))
                  (case aL => have := LMc44.out; omega)
                  intro v441 w53 ho hb hg hat
                  rw [← Ny440.out] at ho
                  have n0_ := aS (blk_grown (g := gb401) (o := .cells #[.string a1_0, .string a1_1, .int .i64 a1_2, .string a1_3, .bool a1_4] 46 (0, 0)) (by (with_reducible repeat (first | refine blk_drewN ?_ _ | refine blk_drew ?_ | refine blk_alloc ?_ _)); exact BK401.out) hg (Kd.R_away HO435.out (fun _ hk => hk.2)))
                  have n1_ := aS (Kd.R_after (ok := (fun k_ => k_ ≠ gb401)) (by (with_reducible repeat (first | apply Kd.R_alloc | apply Kd.R_drewN | apply Kd.R_drew)); exact Kd.R_mono HO445.out (fun _ hk => ⟨hk.1.2, hk.2⟩)) hg hat)
                  have n2_ := aS (hb)
                  have n3_ := aS (ho)
                  clear BK401; clear HO445; clear HB; clear HO435
                  have BK401 := n0_
                  have HO445 := n1_
                  have HB := n2_
                  have HO442 := n3_
                  clear n0_ n1_ n2_ n3_; clear ho hb hg hat
                  refine hK.out _ _ ⟨(blk_cell BK401.out 0).trans rfl, (blk_cell BK401.out 1).trans rfl, (blk_cell BK401.out 2).trans rfl, (blk_cell BK401.out 3).trans rfl, (blk_cell BK401.out 4).trans rfl⟩ (fun hHeld => ?_)
                  clear hK K
                  refine norm_ (a' := ?_) ?_ ?_
                  rotate_left
                  ·
                   show Act.put _ (some 46) _ = _
                   simp only [Act.put, lsa, lsz, lss, i64_w, i32_w]
                   rfl
                  exact norm_ (by simp only [putAll, Act.put, lsa, lsz, lss]) (hCont (v434, v441, v444) _ ⟨hHeld, (by (with_reducible repeat (first | apply Kd.R_alloc | apply Kd.R_drewN | apply Kd.R_drew)); exact HO442.out), (by (with_reducible repeat (first | apply Kd.R_alloc | apply Kd.R_drewN | apply Kd.R_drew)); exact Kd.R_mono HO445.out (fun _ hk => ⟨hk.2, hk.1⟩)), (by (with_reducible repeat (first | refine blk_drewN ?_ _ | refine blk_drew ?_ | refine blk_alloc ?_ _)); exact BK401.out), (by repeat (first | (with_reducible first | exact HB.out | apply bal | apply bdN | apply bdo | refine below_set ?_ GE401.out) | exact HB.out))⟩)
                rintro ⟨v434, v441, v444⟩ w54 ⟨hS_, h0_, h1_, h2_, h3_⟩
                have n0_ : Aside0 (Kd.R k46 46 w54 w.heap.size (fun k_ => some k_ ≠ (v444 : Value).ownBlock ∧ k_ ≠ gb401) v441 y440) := ⟨h0_⟩
                have n1_ : Aside0 (Kd.R k46 46 w54 w.heap.size (fun k_ => some k_ ≠ (v441 : Value).ownBlock ∧ k_ ≠ gb401) v444 y443) := ⟨h1_⟩
                have n2_ : Aside0 (w54.heap[gb401]? = some (.cells #[.string a1_0, .string a1_1, .int .i64 a1_2, .string a1_3, .bool a1_4] 46 (0, 0))) := ⟨h2_⟩
                have n3_ : Aside0 (Below w.heap.size w w54) := ⟨h3_⟩
                clear BK401; clear HB; clear h0_ h1_ h2_ h3_
                have HO442 := n0_
                have HO445 := n1_
                have BK401 := n2_
                have HB := n3_
                clear n0_ n1_ n2_ n3_
                have hHeld : w54.cell? ⟨gb401, 0, none⟩ = some (.string a1_0) ∧ w54.cell? ⟨gb401, 1, none⟩ = some (.string a1_1) ∧ w54.cell? ⟨gb401, 2, none⟩ = some (.int .i64 a1_2) ∧ w54.cell? ⟨gb401, 3, none⟩ = some (.string a1_3) ∧ w54.cell? ⟨gb401, 4, none⟩ = some (.bool a1_4) := hS_
                obtain ⟨Ao56, co56, eo56⟩ := Kd.R_slice HO445.out
                (first | subst eo56 | (injection eo56 with f1_ f2_ f3_; have f4_ := f1_.symm; have f5_ := f3_.symm; clear f1_ f2_ f3_; subst f4_; subst f5_))
                refine norm_ (a' := ?_) ?_ ?_
                rotate_left
                ·
                 simp only [putAll, Act.put, lsa, lsz, lss]
                 rfl
                refine one_ (i := 7) (N := some 49) #[true, true, true, true, true, true, true, true, true, false, false] rfl rfl (one_of HT_.out (by kernel_rfl)) (by decide) (fun K hK => ?_)
                refine Kd.R_append_rows_step k46 (w0 := w) w.heap.size (by rfl) (.tmp 46) (.tmp 48) 22 46 (.agg #[(.string ⟨#[]⟩), (.string ⟨#[]⟩), (.int .i64 0), (.string ⟨#[]⟩), (.bool false)]) 64 rfl Try.underlying22 info46 rfl (by decide) (by omega) v441 y440 y443 _ _ _ (fun k_ => some k_ ≠ (.slice Ao56 y443.length co56 : Value).ownBlock ∧ k_ ≠ gb401) (fun _ => False) rfl rfl ?aO ?aR (fun _ _ h => h) (fun _ h => h.elim) ?aF ?aB ?aS ?aL ?_
                (case aR => repeat (first | exact (Kd.R_reads' HO445.out).2.2 | (with_reducible refine Kd.C_alloc ?_ _) | (with_reducible refine Kd.C_drewN ?_ _) | (with_reducible refine Kd.C_drew ?_)))
                (case aB => exact (by repeat (first | (with_reducible first | exact HB.out | apply bal | apply bdN | apply bdo | refine below_set ?_ GE401.out) | exact HB.out)))
                (case aF => exact (fun k_ hk => ⟨Kd.fresh' (Kd.R_lt (by (with_reducible repeat (first | apply Kd.R_alloc | apply Kd.R_drewN | apply Kd.R_drew)); exact HO445.out)) k_ hk, Kd.freshB (g := gb401) (o := .cells #[.string a1_0, .string a1_1, .int .i64 a1_2, .string a1_3, .bool a1_4] 46 (0, 0)) (by (with_reducible repeat (first | refine blk_drewN ?_ _ | refine blk_drew ?_ | refine blk_alloc ?_ _)); exact BK401.out) k_ hk⟩))
                (case aO => exact (by (with_reducible repeat (first | apply Kd.R_alloc | apply Kd.R_drewN | apply Kd.R_drew)); exact HO442.out))
                (case aS => exact (below_size (by repeat (first | (with_reducible first | exact HB.out | apply bal | apply bdN | apply bdo | refine below_set ?_ GE401.out) | exact HB.out))))
                (case aL => have := LMc45.out; omega)
                intro v447 w55 ho hb hg hat
                rw [← Ny446.out] at ho
                have n0_ := aS (blk_grown (g := gb401) (o := .cells #[.string a1_0, .string a1_1, .int .i64 a1_2, .string a1_3, .bool a1_4] 46 (0, 0)) (by (with_reducible repeat (first | refine blk_drewN ?_ _ | refine blk_drew ?_ | refine blk_alloc ?_ _)); exact BK401.out) hg (Kd.R_away HO442.out (fun _ hk => hk.2)))
                have n1_ := aS (Kd.R_after (ok := (fun k_ => k_ ≠ gb401)) (by (with_reducible repeat (first | apply Kd.R_alloc | apply Kd.R_drewN | apply Kd.R_drew)); exact Kd.R_mono HO445.out (fun _ hk => ⟨hk.2, hk.1⟩)) hg hat)
                have n2_ := aS (hb)
                have n3_ := aS (ho)
                clear BK401; clear HO445; clear HB; clear HO442
                have BK401 := n0_
                have HO445 := n1_
                have HB := n2_
                have HO448 := n3_
                clear n0_ n1_ n2_ n3_; clear ho hb hg hat
                refine hK.out _ _ ⟨(blk_cell BK401.out 0).trans rfl, (blk_cell BK401.out 1).trans rfl, (blk_cell BK401.out 2).trans rfl, (blk_cell BK401.out 3).trans rfl, (blk_cell BK401.out 4).trans rfl⟩ (fun hHeld => ?_)
                clear hK K
                refine norm_ (a' := ?_) ?_ ?_
                rotate_left
                ·
                 show Act.put _ (some 49) _ = _
                 simp only [Act.put, lsa, lsz, lss, i64_w, i32_w]
                 rfl
                refine one_ (i := 9) (N := some 51) #[true, true, true, true, true, true, true, true, true, true, false] rfl rfl (one_of HT_.out (by kernel_rfl)) (by decide) (fun K hK => ?_)
                refine Kd.R_append_rows_step k46 (w0 := w) w.heap.size (by rfl) (.tmp 49) (.tmp 50) 22 46 (.agg #[(.string ⟨#[]⟩), (.string ⟨#[]⟩), (.int .i64 0), (.string ⟨#[]⟩), (.bool false)]) 64 rfl Try.underlying22 info46 rfl (by decide) (by omega) v447 y446 y404 _ _ _ (fun k_ => some k_ ≠ (.slice Ao56 y443.length co56 : Value).ownBlock ∧ k_ ≠ gb401) (fun _ => False) rfl rfl ?aO ?aR (fun _ _ h => h) (fun _ h => h.elim) ?aF ?aB ?aS ?aL ?_
                (case aR => repeat (first | exact (Kd.C_below HR407.out HB.out) | (with_reducible refine Kd.C_alloc ?_ _) | (with_reducible refine Kd.C_drewN ?_ _) | (with_reducible refine Kd.C_drew ?_)))
                (case aB => exact (by repeat (first | (with_reducible first | exact HB.out | apply bal | apply bdN | apply bdo | refine below_set ?_ GE401.out) | exact HB.out)))
                (case aF => exact (fun k_ hk => ⟨Kd.fresh' (Kd.R_lt (by (with_reducible repeat (first | apply Kd.R_alloc | apply Kd.R_drewN | apply Kd.R_drew)); exact HO445.out)) k_ hk, Kd.freshB (g := gb401) (o := .cells #[.string a1_0, .string a1_1, .int .i64 a1_2, .string a1_3, .bool a1_4] 46 (0, 0)) (by (with_reducible repeat (first | refine blk_drewN ?_ _ | refine blk_drew ?_ | refine blk_alloc ?_ _)); exact BK401.out) k_ hk⟩))
                (case aO => exact (by (with_reducible repeat (first | apply Kd.R_alloc | apply Kd.R_drewN | apply Kd.R_drew)); exact HO448.out))
                (case aS => exact (below_size (by repeat (first | (with_reducible first | exact HB.out | apply bal | apply bdN | apply bdo | refine below_set ?_ GE401.out) | exact HB.out))))
                (case aL => have := LMc46.out; omega)
                intro v450 w57 ho hb hg hat
                rw [← Ny449.out] at ho
                have n0_ := aS (blk_grown (g := gb401) (o := .cells #[.string a1_0, .string a1_1, .int .i64 a1_2, .string a1_3, .bool a1_4] 46 (0, 0)) (by (with_reducible repeat (first | refine blk_drewN ?_ _ | refine blk_drew ?_ | refine blk_alloc ?_ _)); exact BK401.out) hg (Kd.R_away HO448.out (fun _ hk => hk.2)))
                have n1_ := aS (Kd.R_after (ok := (fun k_ => k_ ≠ gb401)) (by (with_reducible repeat (first | apply Kd.R_alloc | apply Kd.R_drewN | apply Kd.R_drew)); exact HO445.out) hg hat)
                have n2_ := aS (hb)
                have n3_ := aS (ho)
                clear BK401; clear HO445; clear HB; clear HO448
                have BK401 := n0_
                have HO445 := n1_
                have HB := n2_
                have HO451 := n3_
                clear n0_ n1_ n2_ n3_; clear ho hb hg hat
                refine hK.out _ _ ⟨(blk_cell BK401.out 0).trans rfl, (blk_cell BK401.out 1).trans rfl, (blk_cell BK401.out 2).trans rfl, (blk_cell BK401.out 3).trans rfl, (blk_cell BK401.out 4).trans rfl⟩ (fun hHeld => ?_)
                clear hK K
                refine norm_ (a' := ?_) ?_ ?_
                rotate_left
                ·
                 show Act.put _ (some 51) _ = _
                 simp only [Act.put, lsa, lsz, lss, i64_w, i32_w]
                 rfl
                refine pure_ (i := 10) (N := some 4) (v := ?_) (a' := ?_) #[true, true, true, true, true, true, true, true, true, true, true] rfl rfl (any_of HT_.out (by kernel_rfl)) (fun _ _ _ h => h) (Or.inl ⟨by rfl, ?_⟩) ?_ ?_
                rotate_left
                ·
                 intro w'
                 go_simp
                 with_reducible rfl
                rotate_left
                ·
                 simp only [Act.put, lsa, lsz, lss, i64_w, i32_w]
                 rfl
                refine done_ (done_of HT_.out (by kernel_rfl)) ?_
                try go_wp2
                go_ret
                exact ⟨_, by first | rfl | (simp [errW_none, errW_some] <;> rfl) | (simp [*, errW_none, errW_some] <;> rfl), by (with_reducible repeat (first | apply Kd.R_alloc | apply Kd.R_drewN | apply Kd.R_drew)); exact Kd.R_mono HO451.out (fun _ hk => trivial), by repeat (first | (with_reducible first | exact HB.out | apply bal | apply bdN | apply bdo | refine below_set ?_ GE401.out) | exact HB.out)⟩
               ·
                rw [if_neg c46] at H
                exact absurd H (by simp)
              ·
               rw [if_neg c45] at H
               exact absurd H (by simp)
             ·
              rw [if_neg c44] at H
              exact absurd H (by simp)
            ·
             rw [if_neg c43] at H
             exact absurd H (by simp)
           ·
            rw [if_neg c42] at H
            exact absurd H (by simp)
       ·
        rw [if_neg c13] at H
        exact absurd H (by simp)
      ·
       rw [if_neg c12] at H
       exact absurd H (by simp)

end Go.Proofs.Ytclmooadpoojeaa.X
