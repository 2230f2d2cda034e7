-- written by a program of this session's, over the kit's print
import Derived.Test.YtgcicgjfimfhpaaXx0
import Derived.Test.YtgcicgjfimfhpaaXx4
namespace Go.Proofs.Ytgcicgjfimfhpaa.X
open Go.RowKit Go.Proofs.YtgcicgjfimfhpaaW.PrintWords Go.Proofs.YtgcicgjfimfhpaaW.PrintLast Go.Proofs.YtgcicgjfimfhpaaW.PrintMore
attribute [local go_sem] max2_int min2_int max_two min_two max_three min_three max_four min_four gtr_str   -- for this text's walks alone
set_option linter.unusedVariables false
set_option linter.unusedSimpArgs false

/-! ### shardlogref08_Put1: function 12 -/
mutual
def shardlogref08_Put1.l0 : Nat → List (S29) → Int → ByteArray → ByteArray → Int → ByteArray → Bool → Option ((List (S29)))
 | 0, _, _, _, _, _, _, _ => none
 | k + 1, x0, x5, x174000, x174001, x174002, x174003, x174004 => if x5 < (x0.length : Int) then (if 0 ≤ x5 then ((shardlogref08_Compare.f k ((rd_T29 x0 x5).f0) ((rd_T29 x0 x5).f1) ((rd_T29 x0 x5).f2) ((rd_T29 x0 x5).f3) ((rd_T29 x0 x5).f4) x174000 x174001 x174002 x174003 x174004).bind fun t175 => (shardlogref08_Put1.j1 k x0 x5 (t175 == (-1)) x174000 x174001 x174002 x174003 x174004)) else (none)) else (shardlogref08_Put1.j1 k x0 x5 false x174000 x174001 x174002 x174003 x174004)
def shardlogref08_Put1.j1 : Nat → List (S29) → Int → Bool → ByteArray → ByteArray → Int → ByteArray → Bool → Option ((List (S29)))
 | 0, _, _, _, _, _, _, _, _ => none
 | k + 1, x0, x5, x19, x174000, x174001, x174002, x174003, x174004 => if x19 = true then (shardlogref08_Put1.l0 k x0 (wrap64 (x5 + 1)) x174000 x174001 x174002 x174003 x174004) else (if 0 ≤ x5 then (if x5 ≤ (x0.length : Int) then ((some (x0.drop (x5 : Int).toNat : List (S29))).bind fun y176 => (if x5 < (x0.length : Int) then ((shardlogref08_Compare.f k ((rd_T29 x0 x5).f0) ((rd_T29 x0 x5).f1) ((rd_T29 x0 x5).f2) ((rd_T29 x0 x5).f3) ((rd_T29 x0 x5).f4) x174000 x174001 x174002 x174003 x174004).bind fun t181 => (shardlogref08_Put1.j2 k x0 x5 y176 (t181 == 0) x174000 x174001 x174002 x174003 x174004)) else (shardlogref08_Put1.j2 k x0 x5 y176 false x174000 x174001 x174002 x174003 x174004))) else (none)) else (none))
def shardlogref08_Put1.j2 : Nat → List (S29) → Int → List (S29) → Bool → ByteArray → ByteArray → Int → ByteArray → Bool → Option ((List (S29)))
 | 0, _, _, _, _, _, _, _, _, _ => none
 | k + 1, x0, x5, x6, x37, x174000, x174001, x174002, x174003, x174004 => if x37 = true then (if 0 ≤ (wrap64 (x5 + 1)) then (if (wrap64 (x5 + 1)) ≤ (x0.length : Int) then ((some (x0.drop ((wrap64 (x5 + 1)) : Int).toNat : List (S29))).bind fun y182 => ((some (([] : List (S29)) : List (S29))).bind fun y186 => (if 0 ≤ x5 then (if x5 ≤ (x0.length : Int) then ((some (x0.take (x5 : Int).toNat : List (S29))).bind fun y189 => (if y186.length + y189.length < 2199023255552 then ((some (y186 ++ y189 : List (S29))).bind fun y193 => ((some (([(⟨x174000, x174001, x174002, x174003, x174004⟩ : S29)] : List (S29)) : List (S29))).bind fun y196 => (if y193.length + y196.length < 2199023255552 then ((some (y193 ++ y196 : List (S29))).bind fun y199 => (if y199.length + y182.length < 2199023255552 then (some (y199 ++ y182)) else (none))) else (none)))) else (none))) else (none)) else (none)))) else (none)) else (none)) else ((some (([] : List (S29)) : List (S29))).bind fun y205 => (if 0 ≤ x5 then (if x5 ≤ (x0.length : Int) then ((some (x0.take (x5 : Int).toNat : List (S29))).bind fun y208 => (if y205.length + y208.length < 2199023255552 then ((some (y205 ++ y208 : List (S29))).bind fun y212 => ((some (([(⟨x174000, x174001, x174002, x174003, x174004⟩ : S29)] : List (S29)) : List (S29))).bind fun y215 => (if y212.length + y215.length < 2199023255552 then ((some (y212 ++ y215 : List (S29))).bind fun y218 => (if y218.length + x6.length < 2199023255552 then (some (y218 ++ x6)) else (none))) else (none)))) else (none))) else (none)) else (none)))
end
def shardlogref08_Put1.f (k : Nat) (l0 : List (S29)) (a1_0 : ByteArray) (a1_1 : ByteArray) (a1_2 : Int) (a1_3 : ByteArray) (a1_4 : Bool) : Option ((List (S29))) := shardlogref08_Put1.l0 k l0 0 a1_0 a1_1 a1_2 a1_3 a1_4
theorem shardlogref08_Put1.mono_l : ∀ k, (∀ y0 y1 y2 y3 y4 y5 y6, LeO (shardlogref08_Put1.l0 k y0 y1 y2 y3 y4 y5 y6) (shardlogref08_Put1.l0 (k + 1) y0 y1 y2 y3 y4 y5 y6)) ∧ (∀ y0 y1 y2 y3 y4 y5 y6 y7, LeO (shardlogref08_Put1.j1 k y0 y1 y2 y3 y4 y5 y6 y7) (shardlogref08_Put1.j1 (k + 1) y0 y1 y2 y3 y4 y5 y6 y7)) ∧ (∀ y0 y1 y2 y3 y4 y5 y6 y7 y8, LeO (shardlogref08_Put1.j2 k y0 y1 y2 y3 y4 y5 y6 y7 y8) (shardlogref08_Put1.j2 (k + 1) y0 y1 y2 y3 y4 y5 y6 y7 y8))
 | 0 => ⟨fun _ _ _ _ _ _ _ r h => by simp [shardlogref08_Put1.l0] at h, fun _ _ _ _ _ _ _ _ r h => by simp [shardlogref08_Put1.j1] at h, fun _ _ _ _ _ _ _ _ _ r h => by simp [shardlogref08_Put1.j2] at h⟩
 | k + 1 => by
  obtain ⟨ih0, ih1, ih2⟩ := shardlogref08_Put1.mono_l k
  refine ⟨?_, ?_, ?_⟩
  ·
   intro y0 y1 y2 y3 y4 y5 y6
   unfold shardlogref08_Put1.l0
   repeat' first
   | (with_reducible exact ih0 _ _ _ _ _ _ _)
   | (with_reducible exact ih1 _ _ _ _ _ _ _ _)
   | (with_reducible exact ih2 _ _ _ _ _ _ _ _ _)
   | (with_reducible exact shardlogref08_Compare.mono _ _ _ _ _ _ _ _ _ _ _)
   | (with_reducible exact LeO.refl _)
   | (with_reducible exact LeO.none _)
   | (with_reducible refine LeO.ite ?_ ?_)
   | (with_reducible refine LeO.bind ?_ (fun _ => ?_))
   | exact LeO.none _
   | refine LeO.ite ?_ ?_
   | refine LeO.bind ?_ (fun _ => ?_)
  ·
   intro y0 y1 y2 y3 y4 y5 y6 y7
   unfold shardlogref08_Put1.j1
   repeat' first
   | (with_reducible exact ih0 _ _ _ _ _ _ _)
   | (with_reducible exact ih1 _ _ _ _ _ _ _ _)
   | (with_reducible exact ih2 _ _ _ _ _ _ _ _ _)
   | (with_reducible exact shardlogref08_Compare.mono _ _ _ _ _ _ _ _ _ _ _)
   | (with_reducible exact LeO.refl _)
   | (with_reducible exact LeO.none _)
   | (with_reducible refine LeO.ite ?_ ?_)
   | (with_reducible refine LeO.bind ?_ (fun _ => ?_))
   | exact LeO.none _
   | refine LeO.ite ?_ ?_
   | refine LeO.bind ?_ (fun _ => ?_)
  ·
   intro y0 y1 y2 y3 y4 y5 y6 y7 y8
   unfold shardlogref08_Put1.j2
   repeat' first
   | (with_reducible exact ih0 _ _ _ _ _ _ _)
   | (with_reducible exact ih1 _ _ _ _ _ _ _ _)
   | (with_reducible exact ih2 _ _ _ _ _ _ _ _ _)
   | (with_reducible exact shardlogref08_Compare.mono _ _ _ _ _ _ _ _ _ _ _)
   | (with_reducible exact LeO.refl _)
   | (with_reducible exact LeO.none _)
   | (with_reducible refine LeO.ite ?_ ?_)
   | (with_reducible refine LeO.bind ?_ (fun _ => ?_))
   | exact LeO.none _
   | refine LeO.ite ?_ ?_
   | refine LeO.bind ?_ (fun _ => ?_)
theorem shardlogref08_Put1.mono : ∀ a0 a1 a2 a3 a4 a5 k, LeO (shardlogref08_Put1.f k a0 a1 a2 a3 a4 a5) (shardlogref08_Put1.f (k + 1) a0 a1 a2 a3 a4 a5) := by
 intro a0 a1 a2 a3 a4 a5 k
 obtain ⟨ih0, ih1, ih2⟩ := shardlogref08_Put1.mono_l k
 unfold shardlogref08_Put1.f
 repeat' first
   | (with_reducible exact ih0 _ _ _ _ _ _ _)
   | (with_reducible exact ih1 _ _ _ _ _ _ _ _)
   | (with_reducible exact ih2 _ _ _ _ _ _ _ _ _)
   | (with_reducible exact shardlogref08_Compare.mono _ _ _ _ _ _ _ _ _ _ _)
   | (with_reducible exact LeO.refl _)
   | (with_reducible exact LeO.none _)
   | (with_reducible refine LeO.ite ?_ ?_)
   | (with_reducible refine LeO.bind ?_ (fun _ => ?_))
   | exact LeO.none _
   | refine LeO.ite ?_ ?_
   | refine LeO.bind ?_ (fun _ => ?_)
def shardlogref08_Put1.T2 : Bool × List (List Nat × List Nat) := (true, [([], []), ([], []), ([1], [1]), ([0, 2], [0, 2]), ([3], [3]), ([4], [4]), ([4], [4]), ([5, 6, 4], [4, 5, 6]), ([7, 4], [4, 7]), ([4], [4]), ([8, 9, 4, 4], [4, 8, 9]), ([10, 4], [4, 10]), ([4, 11], [4, 11])])
def shardlogref08_Put1.B2 : List Nat := [0, 0, 2, 7, 15, 31, 31, 127, 255, 31, 1023, 2047, 4095]
theorem shardlogref08_Put1.tab2 : rtab .any (opsOf Try.f12 2) = shardlogref08_Put1.T2 := by kernel_rfl
theorem shardlogref08_Put1.bits2 : waitsOk shardlogref08_Put1.T2.2 shardlogref08_Put1.B2 = true := by kernel_rfl
def shardlogref08_Put1.T5 : Bool × List (List Nat × List Nat) := (true, [([], []), ([], []), ([1], [1]), ([0, 2], [0, 2]), ([3], [3]), ([4], [4]), ([4], [4]), ([5, 6, 4], [4, 5, 6]), ([7, 4], [4, 7]), ([4], [4]), ([8, 9, 4, 4], [4, 8, 9]), ([10, 4], [4, 10]), ([4, 11], [4, 11])])
def shardlogref08_Put1.B5 : List Nat := [0, 0, 2, 7, 15, 31, 31, 127, 255, 31, 1023, 2047, 4095]
theorem shardlogref08_Put1.tab5 : rtab .any (opsOf Try.f12 5) = shardlogref08_Put1.T5 := by kernel_rfl
theorem shardlogref08_Put1.bits5 : waitsOk shardlogref08_Put1.T5.2 shardlogref08_Put1.B5 = true := by kernel_rfl
def shardlogref08_Put1.T7 : Bool × List (List Nat × List Nat) := (true, [([], []), ([], []), ([], []), ([1, 2], [1, 2]), ([0, 3], [0, 3]), ([], []), ([5], [5]), ([4, 6, 4], [4, 6]), ([], []), ([7, 8, 7], [7, 8]), ([9, 9, 0, 1, 2, 3, 4, 5, 6, 7, 8, 9], [9])])
def shardlogref08_Put1.B7 : List Nat := [0, 0, 0, 6, 15, 0, 32, 127, 0, 511, 1023]
theorem shardlogref08_Put1.tab7 : rtab .any (opsOf Try.f12 7) = shardlogref08_Put1.T7 := by kernel_rfl
theorem shardlogref08_Put1.bits7 : waitsOk shardlogref08_Put1.T7.2 shardlogref08_Put1.B7 = true := by kernel_rfl
set_option maxHeartbeats 8000000 in
set_option maxRecDepth 100000 in
theorem shardlogref08_Put1.calls (k : Nat) (A0 : Option Addr) (c0 : Nat) (l0 : List (S29)) (a1_0 : ByteArray) (a1_1 : ByteArray) (a1_2 : Int) (a1_3 : ByteArray) (a1_4 : Bool) (r : List (S29)) (w : World) (hr0 : Kd.C k29 w A0 l0.length l0) (hc0 : l0.length ≤ c0) (h : shardlogref08_Put1.f k l0 a1_0 a1_1 a1_2 a1_3 a1_4 = some r) :
  Calls Try.prog 12 #[.slice A0 l0.length c0, .agg #[.string a1_0, .string a1_1, .int .i64 a1_2, .string a1_3, .bool a1_4]] w fun e w' => ∃ v0_ : Value, e = .returned (v0_) ∧ Kd.R k29 29 w' w.heap.size (fun _ => True) v0_ r ∧ Below w.heap.size w w' := by
 have hu29 := Try.underlying29
 have HR0 := aS hr0
 have HC0 := aS hc0
 clear hr0 hc0
 have HB := aS (Below.refl w.heap.size w)
 have H : (shardlogref08_Put1.l0 k l0 0 a1_0 a1_1 a1_2 a1_3 a1_4) = some r := h
 clear h
 have H' := aS H
 clear H
 go_enter Try.func12, Try.ntmps12
 go_wp2_with (first | ((with_reducible refine gate_dst (N := 3) rfl ?_); refine box_event ?hg (N := 3) ?hd (cs := #[.string a1_0, .string a1_1, .int .i64 a1_2, .string a1_3, .bool a1_4]) (t := 29) ?hr ?_; (case hd => rfl); (case hg => rfl); (case hr => first | (go_simp; done) | (go_simp; rfl)); intro gb173 hg w3 hbox hb; have n0_ := bstep hb; have n1_ := aS (hbox); have n2_ := bsize hg; have n3_ := bsize hg; clear HB; have HB := n0_; have BK173 := n1_; have GW173 := n2_; have GE173 := n3_; clear n0_ n1_ n2_ n3_; clear hb hbox hg))
 go_loopg [5] k (fun kq v5 w' => ∃ (x5_1 : Int), v5 = .int .i64 x5_1 ∧ Aside0 (shardlogref08_Put1.l0 kq l0 x5_1 a1_0 a1_1 a1_2 a1_3 a1_4 = some r) ∧ Aside0 (kq ≤ k) ∧ Aside0 (w'.heap[gb173]? = some (.cells #[.string a1_0, .string a1_1, .int .i64 a1_2, .string a1_3, .bool a1_4] 29 (0, 0))) ∧ Aside0 (Below w.heap.size w w'))
 case atStart => exact ⟨(0), (by first | rfl | (simp; done) | (simp [*]; done) | (simp; exact (by decide : ∀ a_ b_ : Bool, (a_ == b_) = (!a_ != b_)) _ _)), H', ⟨Nat.le_refl _⟩, ⟨by (with_reducible repeat (first | refine blk_drewN ?_ _ | refine blk_drew ?_ | refine blk_alloc ?_ _)); exact BK173.out⟩, ⟨bel⟩⟩
 case round =>
  clear H'; (try clear c1); (try clear p2)
  obtain ⟨x5_1, rfl, HA, HK1, BK173, HB⟩ := hrel
  cases gk with
  | zero => exact absurd HA.out (by simp [shardlogref08_Put1.l0])
  | succ k1 =>
   have H := HA.out; clear HA
   simp only [shardlogref08_Put1.l0] at H
   have HC4 := aS H
   clear H
   go_upto_region 2 with (fail)
   go_cut [19] (fun v19 wc => ∃ (kq : Nat) (x19_3 : Bool), v19 = .bool x19_3 ∧ Aside0 (shardlogref08_Put1.j1 kq l0 x5_1 x19_3 a1_0 a1_1 a1_2 a1_3 a1_4 = some r) ∧ Aside0 (kq ≤ k1) ∧ Aside0 (wc.heap[gb173]? = some (.cells #[.string a1_0, .string a1_1, .int .i64 a1_2, .string a1_3, .bool a1_4] 29 (0, 0))) ∧ Aside0 (Below w.heap.size w wc))
   case first =>
    have H := HC4.out; clear HC4
    by_cases c5 : x5_1 < (l0.length : Int)
    ·
     rw [if_pos c5] at H
     have c5b0 : decide (x5_1 < (l0.length : Int)) = true := decide_eq_true c5
     clear c5
     (first | rw [c5b0] | (simp only [i64_w, i32_w]; rw [c5b0]) | skip)
     by_cases c6 : 0 ≤ x5_1
     ·
      rw [if_pos c6] at H
      have c6b0 : decide (0 ≤ x5_1) = true := decide_eq_true c6
      clear c6
      replace H := obm H
      obtain ⟨t175, A70, H⟩ := H
      replace H : (shardlogref08_Put1.j1 k1 l0 x5_1 (t175 == (-1)) a1_0 a1_1 a1_2 a1_3 a1_4) = some r := H
      have A7 := aS A70
      clear A70
      have H' := aS H
      clear H
      try go_wp2
      have n0_ := aS (blk_drew BK173.out)
      have n1_ := aS (bdo HB.out)
      clear BK173; clear HB
      have BK173 := n0_
      have HB := n1_
      clear n0_ n1_
      have p174 : 0 ≤ (x5_1 : Int) := odt (by first | (with_reducible assumption) | assumption)
      have q174 : x5_1 < (l0.length : Int) := odt (by first | (with_reducible assumption) | assumption)
      obtain ⟨ad174, e174, hx174_0, hx174_1, hx174_2, hx174_3, hx174_4⟩ := at_T29 HR0.out x5_1 p174 q174
      have hw174_4 := hx174_4
      have hw174_3 := hx174_3
      have hw174_2 := hx174_2
      have hw174_1 := hx174_1
      have hw174_0 := hx174_0
      cases e174
      replace hx174_0 := (HB.out.cell (wbl w _ hx174_0)).trans hx174_0
      replace hx174_1 := (HB.out.cell (wbl w _ hx174_1)).trans hx174_1
      replace hx174_2 := (HB.out.cell (wbl w _ hx174_2)).trans hx174_2
      replace hx174_3 := (HB.out.cell (wbl w _ hx174_3)).trans hx174_3
      replace hx174_4 := (HB.out.cell (wbl w _ hx174_4)).trans hx174_4
      replace p174 := eq_true p174
      replace q174 := eq_true q174
      refine start_ (n := 13) (S := fun w' => w'.cell? ⟨gb173, 0, none⟩ = some (.string a1_0) ∧ w'.cell? ⟨gb173, 1, none⟩ = some (.string a1_1) ∧ w'.cell? ⟨gb173, 2, none⟩ = some (.int .i64 a1_2) ∧ w'.cell? ⟨gb173, 3, none⟩ = some (.string a1_3) ∧ w'.cell? ⟨gb173, 4, none⟩ = some (.bool a1_4) ∧ w'.cell? (ad174.add ((x5_1).toNat * 5)) = some (.string ((rd_T29 l0 x5_1).f0)) ∧ w'.cell? ⟨(ad174.add ((x5_1).toNat * 5)).block, (ad174.add ((x5_1).toNat * 5)).off + 1, none⟩ = some (.string ((rd_T29 l0 x5_1).f1)) ∧ w'.cell? ⟨(ad174.add ((x5_1).toNat * 5)).block, (ad174.add ((x5_1).toNat * 5)).off + 2, none⟩ = some (.int .i64 ((rd_T29 l0 x5_1).f2)) ∧ w'.cell? ⟨(ad174.add ((x5_1).toNat * 5)).block, (ad174.add ((x5_1).toNat * 5)).off + 3, none⟩ = some (.string ((rd_T29 l0 x5_1).f3)) ∧ w'.cell? ⟨(ad174.add ((x5_1).toNat * 5)).block, (ad174.add ((x5_1).toNat * 5)).off + 4, none⟩ = some (.bool ((rd_T29 l0 x5_1).f4))) (ds := []) #[false, false, false, false, false, false, false, false, false, false, false, false, false] (by kernel_rfl) rfl rfl ⟨(blk_cell BK173.out 0).trans rfl, (blk_cell BK173.out 1).trans rfl, (blk_cell BK173.out 2).trans rfl, (blk_cell BK173.out 3).trans rfl, (blk_cell BK173.out 4).trans rfl, ((HB.out.cell (wbl w _ hw174_0)).trans hw174_0), ((HB.out.cell (wbl w _ hw174_1)).trans hw174_1), ((HB.out.cell (wbl w _ hw174_2)).trans hw174_2), ((HB.out.cell (wbl w _ hw174_3)).trans hw174_3), ((HB.out.cell (wbl w _ hw174_4)).trans hw174_4)⟩ (fun hHeld => ?_); refine with_tabW shardlogref08_Put1.tab2 shardlogref08_Put1.bits2 (fun HT_ HW_ => ?_)
      generalize wr.drew = w8 at BK173 HB hx174_0 hx174_1 hx174_2 hx174_3 hx174_4 hHeld ⊢
      refine along_ [(0, 7), (1, 8), (2, 9), (3, 10), (4, 11), (5, 12), (6, 13), (7, 14), (8, 15), (9, 16)] ?_
      iterate 10 (first | (apply pure1 HT_; (case hi => rfl); (case hN => rfl); (case hw => rfl); (case hc => kernel_rfl); (case hQ => exact fun _ _ _ h => h); (case hy => intro w'; go_simp; with_reducible rfl); (case ha => simp only [Act.put, lsa, lsz, lss, i64_w, i32_w]; rfl)) | (apply take1 HT_ HW_ hHeld; (case hi => rfl); (case hN => rfl); (case hw => rfl); (case hc => kernel_rfl); (case hQ => exact fun _ _ _ h => h); (case hy => intro w' hs_; go_simp; with_reducible rfl); (case ha => simp only [Act.put, lsa, lsz, lss, i64_w, i32_w]; rfl)))
      refine lay_ #[true, true, true, true, true, true, true, true, true, true, false, false, false] (by kernel_rfl) ?_
      refine one_ (i := 10) (N := some 17) #[true, true, true, true, true, true, true, true, true, true, true, false, false] rfl rfl (one_of HT_.out (by kernel_rfl)) (by decide) (fun K hK => ?_)
      refine goes_ Try.func30 (by kernel_rfl) rfl #[.agg #[.string ((rd_T29 l0 x5_1).f0), .string ((rd_T29 l0 x5_1).f1), .int .i64 ((rd_T29 l0 x5_1).f2), .string ((rd_T29 l0 x5_1).f3), .bool ((rd_T29 l0 x5_1).f4)], .agg #[.string a1_0, .string a1_1, .int .i64 a1_2, .string a1_3, .bool a1_4]] (by rfl) rfl rfl agn ?_
      with_reducible refine (shardlogref08_Compare.calls k1 ((rd_T29 l0 x5_1).f0) ((rd_T29 l0 x5_1).f1) ((rd_T29 l0 x5_1).f2) ((rd_T29 l0 x5_1).f3) ((rd_T29 l0 x5_1).f4) a1_0 a1_1 a1_2 a1_3 a1_4 t175 _ A7.out).mono ?_
      rintro e w9 ⟨rfl, hb⟩
      refine ⟨_, rfl, ?_⟩
      have n0_ := aS (blk_below (g := gb173) (o := .cells #[.string a1_0, .string a1_1, .int .i64 a1_2, .string a1_3, .bool a1_4] 29 (0, 0)) (bkl BK173.out) hb)
      have n1_ := bstep hb
      clear BK173; clear HB
      have BK173 := n0_
      have HB := n1_
      clear n0_ n1_; (try clear hb); (try clear hb2); (try clear hk); (try clear hi)
      refine hK.out _ _ ⟨(blk_cell BK173.out 0).trans rfl, (blk_cell BK173.out 1).trans rfl, (blk_cell BK173.out 2).trans rfl, (blk_cell BK173.out 3).trans rfl, (blk_cell BK173.out 4).trans rfl, ((HB.out.cell (wbl w _ hw174_0)).trans hw174_0), ((HB.out.cell (wbl w _ hw174_1)).trans hw174_1), ((HB.out.cell (wbl w _ hw174_2)).trans hw174_2), ((HB.out.cell (wbl w _ hw174_3)).trans hw174_3), ((HB.out.cell (wbl w _ hw174_4)).trans hw174_4)⟩ (fun hHeld => ?_)
      clear hK K
      refine norm_ (a' := ?_) ?_ ?_
      rotate_left
      ·
       show Act.put _ (some 17) _ = _
       simp only [Act.put, lsa, lsz, lss, i64_w, i32_w]
       rfl
      refine along_ [(11, 18), (12, 19)] ?_
      iterate 2 (apply pure1 HT_; (case hi => rfl); (case hN => rfl); (case hw => rfl); (case hc => kernel_rfl); (case hQ => exact fun _ _ _ h => h); (case hy => intro w'; go_simp; with_reducible rfl); (case ha => simp only [Act.put, lsa, lsz, lss, i64_w, i32_w]; rfl))
      refine lay_ #[true, true, true, true, true, true, true, true, true, true, true, true, true] (by kernel_rfl) ?_
      refine done_ (done_of HT_.out (by kernel_rfl)) ?_
      try go_wp2
      go_meet
      case rel => exact ⟨_, ((t175 == (-1))), (by first | rfl | (simp; done) | (simp [*]; done) | (simp; exact (by decide : ∀ a_ b_ : Bool, (a_ == b_) = (!a_ != b_)) _ _)), H', ⟨by have := HK1.out; first | omega | exact Nat.le_refl _⟩, ⟨by (with_reducible repeat (first | refine blk_drewN ?_ _ | refine blk_drew ?_ | refine blk_alloc ?_ _)); exact BK173.out⟩, ⟨bel⟩⟩
     ·
      rw [if_neg c6] at H
      exact absurd H (by simp)
    ·
     rw [if_neg c5] at H
     have c5b0 : decide (x5_1 < (l0.length : Int)) = false := decide_eq_false c5
     clear c5
     (first | rw [c5b0] | (simp only [i64_w, i32_w]; rw [c5b0]) | skip)
     have H' := aS H
     clear H
     try go_wp2
     have n0_ := aS (blk_drew BK173.out)
     have n1_ := aS (bdo HB.out)
     clear BK173; clear HB
     have BK173 := n0_
     have HB := n1_
     clear n0_ n1_
     refine start_ (n := 13) (S := fun w' => True) (ds := []) #[false, false, false, false, false, false, false, false, false, false, false, false, false] (by kernel_rfl) rfl rfl trivial (fun hHeld => ?_); refine with_tabW shardlogref08_Put1.tab2 shardlogref08_Put1.bits2 (fun HT_ HW_ => ?_)
     generalize wr.drew = w10 at BK173 HB hHeld ⊢
     refine along_ [(0, 7), (1, 8), (2, 9), (3, 10), (4, 11), (5, 12), (6, 13), (7, 14), (8, 15), (9, 16), (10, 17), (11, 18), (12, 19)] ?_
     iterate 13 (first | (apply skip1 HT_; (case hi => rfl); (case hN => rfl); (case hw => rfl); (case hc => kernel_rfl); (case hQ => exact fun _ _ _ h => h); (case ha => simp only [Act.put, lsa, lsz, lss, i64_w, i32_w]; rfl)) | (apply pure1 HT_; (case hi => rfl); (case hN => rfl); (case hw => rfl); (case hc => kernel_rfl); (case hQ => exact fun _ _ _ h => h); (case hy => intro w'; go_simp; with_reducible rfl); (case ha => simp only [Act.put, lsa, lsz, lss, i64_w, i32_w]; rfl)))
     refine lay_ #[true, true, true, true, true, true, true, true, true, true, true, true, true] (by kernel_rfl) ?_
     refine done_ (done_of HT_.out (by kernel_rfl)) ?_
     try go_wp2
     go_meet
     case rel => exact ⟨_, (false), (by first | rfl | (simp; done) | (simp [*]; done) | (simp; exact (by decide : ∀ a_ b_ : Bool, (a_ == b_) = (!a_ != b_)) _ _)), H', ⟨by have := HK1.out; first | omega | exact Nat.le_refl _⟩, ⟨by (with_reducible repeat (first | refine blk_drewN ?_ _ | refine blk_drew ?_ | refine blk_alloc ?_ _)); exact BK173.out⟩, ⟨bel⟩⟩
   case rest =>
    clear HC4; (try clear c1); (try clear p1); (try clear q1); (try clear hx1); (try clear p2); (try clear c3); (try clear c5); (try clear c5b0); (try clear c6); (try clear c6b0); (try clear hx174_0); (try clear hx174_1); (try clear hx174_2); (try clear hx174_3); (try clear hx174_4); (try clear p174); (try clear q174)
    obtain ⟨kq, x19_3, rfl, HA, HJ3, BK173, HB⟩ := hcut
    cases kq with
    | zero => exact absurd HA.out (by simp [shardlogref08_Put1.j1])
    | succ kj3 =>
     have H := HA.out; clear HA
     simp only [shardlogref08_Put1.j1] at H
     by_cases c11 : x19_3 = true
     ·
      subst c11
      have H1 : (shardlogref08_Put1.l0 kj3 l0 (wrap64 (x5_1 + 1)) a1_0 a1_1 a1_2 a1_3 a1_4) = some r := by rw [if_pos rfl] at H; exact H
      clear H; have H := H1; clear H1
      have H' := aS H
      clear H
      go_wp2
      go_roundg kj3
      case measure => have := HK1.out; have := HJ3.out; omega
      case rel => exact ⟨(wrap64 (x5_1 + 1)), (by first | rfl | (simp; done) | (simp [*]; done) | (simp; exact (by decide : ∀ a_ b_ : Bool, (a_ == b_) = (!a_ != b_)) _ _)), H', ⟨by have := HK1.out; have := HJ3.out; omega⟩, ⟨by (with_reducible repeat (first | refine blk_drewN ?_ _ | refine blk_drew ?_ | refine blk_alloc ?_ _)); exact BK173.out⟩, ⟨bel⟩⟩
     ·
      replace c11 := Bool.eq_false_iff.mpr c11
      subst c11
      have H1 : (if 0 ≤ x5_1 then (if x5_1 ≤ (l0.length : Int) then ((some (l0.drop (x5_1 : Int).toNat : List (S29))).bind fun y176 => (if x5_1 < (l0.length : Int) then ((shardlogref08_Compare.f kj3 ((rd_T29 l0 x5_1).f0) ((rd_T29 l0 x5_1).f1) ((rd_T29 l0 x5_1).f2) ((rd_T29 l0 x5_1).f3) ((rd_T29 l0 x5_1).f4) a1_0 a1_1 a1_2 a1_3 a1_4).bind fun t181 => (shardlogref08_Put1.j2 kj3 l0 x5_1 y176 (t181 == 0) a1_0 a1_1 a1_2 a1_3 a1_4)) else (shardlogref08_Put1.j2 kj3 l0 x5_1 y176 false a1_0 a1_1 a1_2 a1_3 a1_4))) else (none)) else (none)) = some r := by rw [if_neg (show ¬ (false = true) by decide)] at H; exact H
      clear H; have H := H1; clear H1
      by_cases c12 : 0 ≤ x5_1
      ·
       rw [if_pos c12] at H
       have c12b0 := eq_true c12
       have c12b1 : decide (0 ≤ x5_1) = true := decide_eq_true c12
       clear c12
       by_cases c13 : x5_1 ≤ (l0.length : Int)
       ·
        rw [if_pos c13] at H
        have c13b0 := eq_true c13
        have c13b1 : decide (x5_1 ≤ (l0.length : Int)) = true := decide_eq_true c13
        clear c13
        obtain ⟨y176, hy176⟩ : ∃ y_ : List (S29), y_ = (l0.drop (x5_1 : Int).toNat) := ⟨_, rfl⟩
        replace H : (if x5_1 < (l0.length : Int) then ((shardlogref08_Compare.f kj3 ((rd_T29 l0 x5_1).f0) ((rd_T29 l0 x5_1).f1) ((rd_T29 l0 x5_1).f2) ((rd_T29 l0 x5_1).f3) ((rd_T29 l0 x5_1).f4) a1_0 a1_1 a1_2 a1_3 a1_4).bind fun t181 => (shardlogref08_Put1.j2 kj3 l0 x5_1 y176 (t181 == 0) a1_0 a1_1 a1_2 a1_3 a1_4)) else (shardlogref08_Put1.j2 kj3 l0 x5_1 y176 false a1_0 a1_1 a1_2 a1_3 a1_4)) = some r := by first | (rw [hy176]; with_reducible exact H) | (have H2_ := (Option.bind_some _ _).symm.trans H; rw [hy176]; with_reducible exact H2_) | (have H2_ := (Option.bind_some _ _).symm.trans H; with_reducible exact H2_) | with_reducible exact H | (rw [hy176]; exact H) | exact H
        have Ny176 := aS hy176
        clear hy176
        have HC14 := aS H
        clear H
        have q15 : (x5_1 : Int) ≤ ((l0.length : Int) : Int) := odt (by first | (with_reducible assumption) | assumption)
        obtain ⟨i015, hi015, _, hsz15, _⟩ := info_parts info29
        have hroom15 : l0.length ≤ c0 := HC0.out
        have hC15 : Kd.C k29 _ A0 l0.length l0 := HR0.out
        have q015 : (0 : Int) ≤ (x5_1 : Int) := odt (by first | (with_reducible assumption) | assumption)
        have hcut15 := cut_from (P := Try.prog) 22 29 .i64 Try.underlying22 hi015 5 hsz15 A0 l0.length c0 x5_1 q015 q15
        have hr15 := Kd.C_drop (m := (x5_1 : Int).toNat) (c := c0) hC15 (by omega) hroom15
        obtain ⟨A15, hA15⟩ : ∃ A1_, A1_ = (if c0 = (x5_1 : Int).toNat then A0 else (A0 : Option Addr).map (·.add ((x5_1 : Int).toNat * 5))) := ⟨_, rfl⟩
        obtain ⟨c15, hc15⟩ : ∃ c1_, c1_ = c0 - (x5_1 : Int).toNat := ⟨_, rfl⟩
        have hy15 : y176.length = l0.length - (x5_1 : Int).toNat := (by rw [Ny176.out, lld] <;> omega)
        rw [show (l0).drop (x5_1 : Int).toNat = y176 from Ny176.out.symm] at hr15
        replace hr15 : Kd.C k29 _ A15 y176.length y176 := (by rw [hA15]; exact hr15)
        rw [← hy15, ← hA15, ← hc15] at hcut15
        have HR179 := aS hr15
        have HC179 := aS (show y176.length ≤ c15 from by rw [hy15, hc15]; exact Nat.sub_le_sub_right hroom15 _)
        clear hr15 hC15 hroom15 hi015 hsz15 hc15
        have KY15 := aS hy15
        have KA15 := aS hA15
        clear hy15 hA15
        replace q15 := eq_true q15
        go_upto_region 5 with (fail)
        go_cut [37] (fun v37 wc => ∃ (kq : Nat) (x37_13 : Bool), v37 = .bool x37_13 ∧ Aside0 (shardlogref08_Put1.j2 kq l0 x5_1 y176 x37_13 a1_0 a1_1 a1_2 a1_3 a1_4 = some r) ∧ Aside0 (kq ≤ kj3) ∧ Aside0 (wc.heap[gb173]? = some (.cells #[.string a1_0, .string a1_1, .int .i64 a1_2, .string a1_3, .bool a1_4] 29 (0, 0))) ∧ Aside0 (Below w.heap.size w wc))
        case first =>
         have H := HC14.out; clear HC14
         by_cases c16 : x5_1 < (l0.length : Int)
         ·
          rw [if_pos c16] at H
          have c16b0 : decide (x5_1 < (l0.length : Int)) = true := decide_eq_true c16
          clear c16
          (first | rw [c16b0] | (simp only [i64_w, i32_w]; rw [c16b0]) | skip)
          replace H := obm H
          obtain ⟨t181, A170, H⟩ := H
          replace H : (shardlogref08_Put1.j2 kj3 l0 x5_1 y176 (t181 == 0) a1_0 a1_1 a1_2 a1_3 a1_4) = some r := H
          have A17 := aS A170
          clear A170
          have H' := aS H
          clear H
          try go_wp2
          have n0_ := aS (blk_drew BK173.out)
          have n1_ := aS (bdo HB.out)
          clear BK173; clear HB
          have BK173 := n0_
          have HB := n1_
          clear n0_ n1_
          have p180 : 0 ≤ (x5_1 : Int) := odt (by first | (with_reducible assumption) | assumption)
          have q180 : x5_1 < (l0.length : Int) := odt (by first | (with_reducible assumption) | assumption)
          obtain ⟨ad180, e180, hx180_0, hx180_1, hx180_2, hx180_3, hx180_4⟩ := at_T29 HR0.out x5_1 p180 q180
          have hw180_4 := hx180_4
          have hw180_3 := hx180_3
          have hw180_2 := hx180_2
          have hw180_1 := hx180_1
          have hw180_0 := hx180_0
          cases e180
          replace hx180_0 := (HB.out.cell (wbl w _ hx180_0)).trans hx180_0
          replace hx180_1 := (HB.out.cell (wbl w _ hx180_1)).trans hx180_1
          replace hx180_2 := (HB.out.cell (wbl w _ hx180_2)).trans hx180_2
          replace hx180_3 := (HB.out.cell (wbl w _ hx180_3)).trans hx180_3
          replace hx180_4 := (HB.out.cell (wbl w _ hx180_4)).trans hx180_4
          replace p180 := eq_true p180
          replace q180 := eq_true q180
          refine start_ (n := 13) (S := fun w' => w'.cell? ⟨gb173, 0, none⟩ = some (.string a1_0) ∧ w'.cell? ⟨gb173, 1, none⟩ = some (.string a1_1) ∧ w'.cell? ⟨gb173, 2, none⟩ = some (.int .i64 a1_2) ∧ w'.cell? ⟨gb173, 3, none⟩ = some (.string a1_3) ∧ w'.cell? ⟨gb173, 4, none⟩ = some (.bool a1_4) ∧ w'.cell? (ad180.add ((x5_1).toNat * 5)) = some (.string ((rd_T29 l0 x5_1).f0)) ∧ w'.cell? ⟨(ad180.add ((x5_1).toNat * 5)).block, (ad180.add ((x5_1).toNat * 5)).off + 1, none⟩ = some (.string ((rd_T29 l0 x5_1).f1)) ∧ w'.cell? ⟨(ad180.add ((x5_1).toNat * 5)).block, (ad180.add ((x5_1).toNat * 5)).off + 2, none⟩ = some (.int .i64 ((rd_T29 l0 x5_1).f2)) ∧ w'.cell? ⟨(ad180.add ((x5_1).toNat * 5)).block, (ad180.add ((x5_1).toNat * 5)).off + 3, none⟩ = some (.string ((rd_T29 l0 x5_1).f3)) ∧ w'.cell? ⟨(ad180.add ((x5_1).toNat * 5)).block, (ad180.add ((x5_1).toNat * 5)).off + 4, none⟩ = some (.bool ((rd_T29 l0 x5_1).f4))) (ds := []) #[false, false, false, false, false, false, false, false, false, false, false, false, false] (by kernel_rfl) rfl rfl ⟨(blk_cell BK173.out 0).trans rfl, (blk_cell BK173.out 1).trans rfl, (blk_cell BK173.out 2).trans rfl, (blk_cell BK173.out 3).trans rfl, (blk_cell BK173.out 4).trans rfl, ((HB.out.cell (wbl w _ hw180_0)).trans hw180_0), ((HB.out.cell (wbl w _ hw180_1)).trans hw180_1), ((HB.out.cell (wbl w _ hw180_2)).trans hw180_2), ((HB.out.cell (wbl w _ hw180_3)).trans hw180_3), ((HB.out.cell (wbl w _ hw180_4)).trans hw180_4)⟩ (fun hHeld => ?_); refine with_tabW shardlogref08_Put1.tab5 shardlogref08_Put1.bits5 (fun HT_ HW_ => ?_)
          generalize wc.drew = w18 at BK173 HB hx180_0 hx180_1 hx180_2 hx180_3 hx180_4 hHeld ⊢
          refine along_ [(0, 25), (1, 26), (2, 27), (3, 28), (4, 29), (5, 30), (6, 31), (7, 32), (8, 33), (9, 34)] ?_
          iterate 10 (first | (apply pure1 HT_; (case hi => rfl); (case hN => rfl); (case hw => rfl); (case hc => kernel_rfl); (case hQ => exact fun _ _ _ h => h); (case hy => intro w'; go_simp; with_reducible rfl); (case ha => simp only [Act.put, lsa, lsz, lss, i64_w, i32_w]; rfl)) | (apply take1 HT_ HW_ hHeld; (case hi => rfl); (case hN => rfl); (case hw => rfl); (case hc => kernel_rfl); (case hQ => exact fun _ _ _ h => h); (case hy => intro w' hs_; go_simp; with_reducible rfl); (case ha => simp only [Act.put, lsa, lsz, lss, i64_w, i32_w]; rfl)))
          refine lay_ #[true, true, true, true, true, true, true, true, true, true, false, false, false] (by kernel_rfl) ?_
          refine one_ (i := 10) (N := some 35) #[true, true, true, true, true, true, true, true, true, true, true, false, false] rfl rfl (one_of HT_.out (by kernel_rfl)) (by decide) (fun K hK => ?_)
          refine goes_ Try.func30 (by kernel_rfl) rfl #[.agg #[.string ((rd_T29 l0 x5_1).f0), .string ((rd_T29 l0 x5_1).f1), .int .i64 ((rd_T29 l0 x5_1).f2), .string ((rd_T29 l0 x5_1).f3), .bool ((rd_T29 l0 x5_1).f4)], .agg #[.string a1_0, .string a1_1, .int .i64 a1_2, .string a1_3, .bool a1_4]] (by rfl) rfl rfl agn ?_
          with_reducible refine (shardlogref08_Compare.calls kj3 ((rd_T29 l0 x5_1).f0) ((rd_T29 l0 x5_1).f1) ((rd_T29 l0 x5_1).f2) ((rd_T29 l0 x5_1).f3) ((rd_T29 l0 x5_1).f4) a1_0 a1_1 a1_2 a1_3 a1_4 t181 _ A17.out).mono ?_
          rintro e w19 ⟨rfl, hb⟩
          refine ⟨_, rfl, ?_⟩
          have n0_ := aS (blk_below (g := gb173) (o := .cells #[.string a1_0, .string a1_1, .int .i64 a1_2, .string a1_3, .bool a1_4] 29 (0, 0)) (bkl BK173.out) hb)
          have n1_ := bstep hb
          clear BK173; clear HB
          have BK173 := n0_
          have HB := n1_
          clear n0_ n1_; (try clear hb); (try clear hb2); (try clear hk); (try clear hi)
          refine hK.out _ _ ⟨(blk_cell BK173.out 0).trans rfl, (blk_cell BK173.out 1).trans rfl, (blk_cell BK173.out 2).trans rfl, (blk_cell BK173.out 3).trans rfl, (blk_cell BK173.out 4).trans rfl, ((HB.out.cell (wbl w _ hw180_0)).trans hw180_0), ((HB.out.cell (wbl w _ hw180_1)).trans hw180_1), ((HB.out.cell (wbl w _ hw180_2)).trans hw180_2), ((HB.out.cell (wbl w _ hw180_3)).trans hw180_3), ((HB.out.cell (wbl w _ hw180_4)).trans hw180_4)⟩ (fun hHeld => ?_)
          clear hK K
          refine norm_ (a' := ?_) ?_ ?_
          rotate_left
          ·
           show Act.put _ (some 35) _ = _
           simp only [Act.put, lsa, lsz, lss, i64_w, i32_w]
           rfl
          refine along_ [(11, 36), (12, 37)] ?_
          iterate 2 (apply pure1 HT_; (case hi => rfl); (case hN => rfl); (case hw => rfl); (case hc => kernel_rfl); (case hQ => exact fun _ _ _ h => h); (case hy => intro w'; go_simp; with_reducible rfl); (case ha => simp only [Act.put, lsa, lsz, lss, i64_w, i32_w]; rfl))
          refine lay_ #[true, true, true, true, true, true, true, true, true, true, true, true, true] (by kernel_rfl) ?_
          refine done_ (done_of HT_.out (by kernel_rfl)) ?_
          try go_wp2
          go_meet
          case rel => exact ⟨_, ((t181 == 0)), (by first | rfl | (simp; done) | (simp [*]; done) | (simp; exact (by decide : ∀ a_ b_ : Bool, (a_ == b_) = (!a_ != b_)) _ _)), H', ⟨by have := HK1.out; have := HJ3.out; first | omega | exact Nat.le_refl _⟩, ⟨by (with_reducible repeat (first | refine blk_drewN ?_ _ | refine blk_drew ?_ | refine blk_alloc ?_ _)); exact BK173.out⟩, ⟨bel⟩⟩
         ·
          rw [if_neg c16] at H
          have c16b0 : decide (x5_1 < (l0.length : Int)) = false := decide_eq_false c16
          clear c16
          (first | rw [c16b0] | (simp only [i64_w, i32_w]; rw [c16b0]) | skip)
          have H' := aS H
          clear H
          try go_wp2
          have n0_ := aS (blk_drew BK173.out)
          have n1_ := aS (bdo HB.out)
          clear BK173; clear HB
          have BK173 := n0_
          have HB := n1_
          clear n0_ n1_
          refine start_ (n := 13) (S := fun w' => True) (ds := []) #[false, false, false, false, false, false, false, false, false, false, false, false, false] (by kernel_rfl) rfl rfl trivial (fun hHeld => ?_); refine with_tabW shardlogref08_Put1.tab5 shardlogref08_Put1.bits5 (fun HT_ HW_ => ?_)
          generalize wc.drew = w20 at BK173 HB hHeld ⊢
          refine along_ [(0, 25), (1, 26), (2, 27), (3, 28), (4, 29), (5, 30), (6, 31), (7, 32), (8, 33), (9, 34), (10, 35), (11, 36), (12, 37)] ?_
          iterate 13 (first | (apply skip1 HT_; (case hi => rfl); (case hN => rfl); (case hw => rfl); (case hc => kernel_rfl); (case hQ => exact fun _ _ _ h => h); (case ha => simp only [Act.put, lsa, lsz, lss, i64_w, i32_w]; rfl)) | (apply pure1 HT_; (case hi => rfl); (case hN => rfl); (case hw => rfl); (case hc => kernel_rfl); (case hQ => exact fun _ _ _ h => h); (case hy => intro w'; go_simp; with_reducible rfl); (case ha => simp only [Act.put, lsa, lsz, lss, i64_w, i32_w]; rfl)))
          refine lay_ #[true, true, true, true, true, true, true, true, true, true, true, true, true] (by kernel_rfl) ?_
          refine done_ (done_of HT_.out (by kernel_rfl)) ?_
          try go_wp2
          go_meet
          case rel => exact ⟨_, (false), (by first | rfl | (simp; done) | (simp [*]; done) | (simp; exact (by decide : ∀ a_ b_ : Bool, (a_ == b_) = (!a_ != b_)) _ _)), H', ⟨by have := HK1.out; have := HJ3.out; first | omega | exact Nat.le_refl _⟩, ⟨by (with_reducible repeat (first | refine blk_drewN ?_ _ | refine blk_drew ?_ | refine blk_alloc ?_ _)); exact BK173.out⟩, ⟨bel⟩⟩
        case rest =>
         clear HC14; (try clear c1); (try clear p1); (try clear q1); (try clear hx1); (try clear p2); (try clear c3); (try clear c5); (try clear c5b0); (try clear c6); (try clear c6b0); (try clear p6); (try clear c11); (try clear c12); (try clear c12b0); (try clear c12b1); (try clear c13); (try clear c13b0); (try clear c13b1); (try clear c15); (try clear q15); (try clear c16); (try clear c16b0); (try clear p17); (try clear q17); (try clear hx17); (try clear p18); (try clear q18); (try clear hx18); (try clear hx174_0); (try clear hx174_1); (try clear hx174_2); (try clear hx174_3); (try clear hx174_4); (try clear hx180_0); (try clear hx180_1); (try clear hx180_2); (try clear hx180_3); (try clear hx180_4); (try clear p174); (try clear p180); (try clear q015); (try clear q174); (try clear q180)
         obtain ⟨kq, x37_13, rfl, HA, HJ13, BK173, HB⟩ := hcut
         cases kq with
         | zero => exact absurd HA.out (by simp [shardlogref08_Put1.j2])
         | succ kj13 =>
          have H := HA.out; clear HA
          simp only [shardlogref08_Put1.j2] at H
          by_cases c21 : x37_13 = true
          ·
           subst c21
           have H1 : (if 0 ≤ (wrap64 (x5_1 + 1)) then (if (wrap64 (x5_1 + 1)) ≤ (l0.length : Int) then ((some (l0.drop ((wrap64 (x5_1 + 1)) : Int).toNat : List (S29))).bind fun y182 => ((some (([] : List (S29)) : List (S29))).bind fun y186 => (if 0 ≤ x5_1 then (if x5_1 ≤ (l0.length : Int) then ((some (l0.take (x5_1 : Int).toNat : List (S29))).bind fun y189 => (if y186.length + y189.length < 2199023255552 then ((some (y186 ++ y189 : List (S29))).bind fun y193 => ((some (([(⟨a1_0, a1_1, a1_2, a1_3, a1_4⟩ : S29)] : List (S29)) : List (S29))).bind fun y196 => (if y193.length + y196.length < 2199023255552 then ((some (y193 ++ y196 : List (S29))).bind fun y199 => (if y199.length + y182.length < 2199023255552 then (some (y199 ++ y182)) else (none))) else (none)))) else (none))) else (none)) else (none)))) else (none)) else (none)) = some r := by rw [if_pos rfl] at H; exact H
           clear H; have H := H1; clear H1
           obtain ⟨ji22, hji22⟩ : ∃ j_ : Int, (wrap64 (x5_1 + 1)) = j_ := ⟨_, rfl⟩
           replace H : (if 0 ≤ (ji22) then (if (ji22) ≤ (l0.length : Int) then ((some (l0.drop ((ji22) : Int).toNat : List (S29))).bind fun y182 => ((some (([] : List (S29)) : List (S29))).bind fun y186 => (if 0 ≤ x5_1 then (if x5_1 ≤ (l0.length : Int) then ((some (l0.take (x5_1 : Int).toNat : List (S29))).bind fun y189 => (if y186.length + y189.length < 2199023255552 then ((some (y186 ++ y189 : List (S29))).bind fun y193 => ((some (([(⟨a1_0, a1_1, a1_2, a1_3, a1_4⟩ : S29)] : List (S29)) : List (S29))).bind fun y196 => (if y193.length + y196.length < 2199023255552 then ((some (y193 ++ y196 : List (S29))).bind fun y199 => (if y199.length + y182.length < 2199023255552 then (some (y199 ++ y182)) else (none))) else (none)))) else (none))) else (none)) else (none)))) else (none)) else (none)) = some r := by first | (rw [hji22] at H; exact H) | (simp only [hji22] at H ⊢; exact H)
           have hji22w : (IntKind.i64.wrap (x5_1 + 1)) = ji22 := (i64_w _).trans hji22
           by_cases c23 : 0 ≤ (ji22)
           ·
            rw [if_pos c23] at H
            have c23b0 := eq_true c23
            have c23b1 : decide (0 ≤ (ji22)) = true := decide_eq_true c23
            clear c23
            by_cases c24 : (ji22) ≤ (l0.length : Int)
            ·
             rw [if_pos c24] at H
             have c24b0 := eq_true c24
             have c24b1 : decide ((ji22) ≤ (l0.length : Int)) = true := decide_eq_true c24
             clear c24
             obtain ⟨y182, hy182⟩ : ∃ y_ : List (S29), y_ = (l0.drop ((ji22) : Int).toNat) := ⟨_, rfl⟩
             replace H : ((some (([] : List (S29)) : List (S29))).bind fun y186 => (if 0 ≤ x5_1 then (if x5_1 ≤ (l0.length : Int) then ((some (l0.take (x5_1 : Int).toNat : List (S29))).bind fun y189 => (if y186.length + y189.length < 2199023255552 then ((some (y186 ++ y189 : List (S29))).bind fun y193 => ((some (([(⟨a1_0, a1_1, a1_2, a1_3, a1_4⟩ : S29)] : List (S29)) : List (S29))).bind fun y196 => (if y193.length + y196.length < 2199023255552 then ((some (y193 ++ y196 : List (S29))).bind fun y199 => (if y199.length + y182.length < 2199023255552 then (some (y199 ++ y182)) else (none))) else (none)))) else (none))) else (none)) else (none))) = some r := by first | (rw [hy182]; with_reducible exact H) | (have H2_ := (Option.bind_some _ _).symm.trans H; rw [hy182]; with_reducible exact H2_) | (have H2_ := (Option.bind_some _ _).symm.trans H; with_reducible exact H2_) | with_reducible exact H | (rw [hy182]; exact H) | exact H
             have Ny182 := aS hy182
             clear hy182
             obtain ⟨y186, hy186⟩ : ∃ y_ : List (S29), y_ = (([] : List (S29))) := ⟨_, rfl⟩
             replace H : (if 0 ≤ x5_1 then (if x5_1 ≤ (l0.length : Int) then ((some (l0.take (x5_1 : Int).toNat : List (S29))).bind fun y189 => (if y186.length + y189.length < 2199023255552 then ((some (y186 ++ y189 : List (S29))).bind fun y193 => ((some (([(⟨a1_0, a1_1, a1_2, a1_3, a1_4⟩ : S29)] : List (S29)) : List (S29))).bind fun y196 => (if y193.length + y196.length < 2199023255552 then ((some (y193 ++ y196 : List (S29))).bind fun y199 => (if y199.length + y182.length < 2199023255552 then (some (y199 ++ y182)) else (none))) else (none)))) else (none))) else (none)) else (none)) = some r := by first | (rw [hy186]; with_reducible exact H) | (have H2_ := (Option.bind_some _ _).symm.trans H; rw [hy186]; with_reducible exact H2_) | (have H2_ := (Option.bind_some _ _).symm.trans H; with_reducible exact H2_) | with_reducible exact H | (rw [hy186]; exact H) | exact H
             have Ny186 := aS hy186
             clear hy186
             by_cases c25 : 0 ≤ x5_1
             ·
              rw [if_pos c25] at H
              have c25b0 := eq_true c25
              have c25b1 : decide (0 ≤ x5_1) = true := decide_eq_true c25
              clear c25
              by_cases c26 : x5_1 ≤ (l0.length : Int)
              ·
               rw [if_pos c26] at H
               have c26b0 := eq_true c26
               have c26b1 : decide (x5_1 ≤ (l0.length : Int)) = true := decide_eq_true c26
               clear c26
               obtain ⟨y189, hy189⟩ : ∃ y_ : List (S29), y_ = (l0.take (x5_1 : Int).toNat) := ⟨_, rfl⟩
               replace H : (if y186.length + y189.length < 2199023255552 then ((some (y186 ++ y189 : List (S29))).bind fun y193 => ((some (([(⟨a1_0, a1_1, a1_2, a1_3, a1_4⟩ : S29)] : List (S29)) : List (S29))).bind fun y196 => (if y193.length + y196.length < 2199023255552 then ((some (y193 ++ y196 : List (S29))).bind fun y199 => (if y199.length + y182.length < 2199023255552 then (some (y199 ++ y182)) else (none))) else (none)))) else (none)) = some r := by first | (rw [hy189]; with_reducible exact H) | (have H2_ := (Option.bind_some _ _).symm.trans H; rw [hy189]; with_reducible exact H2_) | (have H2_ := (Option.bind_some _ _).symm.trans H; with_reducible exact H2_) | with_reducible exact H | (rw [hy189]; exact H) | exact H
               have Ny189 := aS hy189
               clear hy189
               by_cases c27 : y186.length + y189.length < 2199023255552
               ·
                rw [if_pos c27] at H
                have LMc27 := aS c27
                clear c27
                obtain ⟨y193, hy193⟩ : ∃ y_ : List (S29), y_ = (y186 ++ y189) := ⟨_, rfl⟩
                replace H : ((some (([(⟨a1_0, a1_1, a1_2, a1_3, a1_4⟩ : S29)] : List (S29)) : List (S29))).bind fun y196 => (if y193.length + y196.length < 2199023255552 then ((some (y193 ++ y196 : List (S29))).bind fun y199 => (if y199.length + y182.length < 2199023255552 then (some (y199 ++ y182)) else (none))) else (none))) = some r := by first | (rw [hy193]; with_reducible exact H) | (have H2_ := (Option.bind_some _ _).symm.trans H; rw [hy193]; with_reducible exact H2_) | (have H2_ := (Option.bind_some _ _).symm.trans H; with_reducible exact H2_) | with_reducible exact H | (rw [hy193]; exact H) | exact H
                have Ny193 := aS hy193
                clear hy193
                obtain ⟨y196, hy196⟩ : ∃ y_ : List (S29), y_ = (([(⟨a1_0, a1_1, a1_2, a1_3, a1_4⟩ : S29)] : List (S29))) := ⟨_, rfl⟩
                replace H : (if y193.length + y196.length < 2199023255552 then ((some (y193 ++ y196 : List (S29))).bind fun y199 => (if y199.length + y182.length < 2199023255552 then (some (y199 ++ y182)) else (none))) else (none)) = some r := by first | (rw [hy196]; with_reducible exact H) | (have H2_ := (Option.bind_some _ _).symm.trans H; rw [hy196]; with_reducible exact H2_) | (have H2_ := (Option.bind_some _ _).symm.trans H; with_reducible exact H2_) | with_reducible exact H | (rw [hy196]; exact H) | exact H
                have Ny196 := aS hy196
                clear hy196
                by_cases c28 : y193.length + y196.length < 2199023255552
                ·
                 rw [if_pos c28] at H
                 have LMc28 := aS c28
                 clear c28
                 obtain ⟨y199, hy199⟩ : ∃ y_ : List (S29), y_ = (y193 ++ y196) := ⟨_, rfl⟩
                 replace H : (if y199.length + y182.length < 2199023255552 then (some (y199 ++ y182)) else (none)) = some r := by first | (rw [hy199]; with_reducible exact H) | (have H2_ := (Option.bind_some _ _).symm.trans H; rw [hy199]; with_reducible exact H2_) | (have H2_ := (Option.bind_some _ _).symm.trans H; with_reducible exact H2_) | with_reducible exact H | (rw [hy199]; exact H) | exact H
                 have Ny199 := aS hy199
                 clear hy199
                 by_cases c29 : y199.length + y182.length < 2199023255552
                 ·
                  rw [if_pos c29] at H
                  have LMc29 := aS c29
                  clear c29
                  obtain ⟨y202, hy202⟩ : ∃ y_ : List (S29), y_ = (y199 ++ y182) := ⟨_, rfl⟩
                  replace H : (some y202) = some r := by first | (rw [hy202]; with_reducible exact H) | (have H2_ := (Option.bind_some _ _).symm.trans H; rw [hy202]; with_reducible exact H2_) | (have H2_ := (Option.bind_some _ _).symm.trans H; with_reducible exact H2_) | with_reducible exact H | (rw [hy202]; exact H) | exact H
                  have Ny202 := aS hy202
                  clear hy202
                  obtain rfl := Option.some.inj H
                  have q30 : ((ji22) : Int) ≤ ((l0.length : Int) : Int) := odt (by first | (with_reducible assumption) | assumption)
                  obtain ⟨i030, hi030, _, hsz30, _⟩ := info_parts info29
                  have hroom30 : l0.length ≤ c0 := HC0.out
                  have hC30 : Kd.C k29 _ A0 l0.length l0 := HR0.out
                  have q030 : (0 : Int) ≤ ((ji22) : Int) := odt (by first | (with_reducible assumption) | assumption)
                  have hcut30 := cut_from (P := Try.prog) 22 29 .i64 Try.underlying22 hi030 5 hsz30 A0 l0.length c0 (ji22) q030 q30
                  have hr30 := Kd.C_drop (m := ((ji22) : Int).toNat) (c := c0) hC30 (by omega) hroom30
                  obtain ⟨A30, hA30⟩ : ∃ A1_, A1_ = (if c0 = ((ji22) : Int).toNat then A0 else (A0 : Option Addr).map (·.add (((ji22) : Int).toNat * 5))) := ⟨_, rfl⟩
                  obtain ⟨c30, hc30⟩ : ∃ c1_, c1_ = c0 - ((ji22) : Int).toNat := ⟨_, rfl⟩
                  have hy30 : y182.length = l0.length - ((ji22) : Int).toNat := (by rw [Ny182.out, lld] <;> omega)
                  rw [show (l0).drop ((ji22) : Int).toNat = y182 from Ny182.out.symm] at hr30
                  replace hr30 : Kd.C k29 _ A30 y182.length y182 := (by rw [hA30]; exact hr30)
                  rw [← hy30, ← hA30, ← hc30] at hcut30
                  have HR185 := aS hr30
                  have HC185 := aS (show y182.length ≤ c30 from by rw [hy30, hc30]; exact Nat.sub_le_sub_right hroom30 _)
                  clear hr30 hC30 hroom30 hi030 hsz30 hc30
                  have KY30 := aS hy30
                  have KA30 := aS hA30
                  clear hy30 hA30
                  replace q30 := eq_true q30
                  try go_wp2
                  have n0_ := aS (blk_drew BK173.out)
                  have n1_ := aS (bdo HB.out)
                  clear BK173; clear HB
                  have BK173 := n0_
                  have HB := n1_
                  clear n0_ n1_
                  have q32 : (x5_1 : Int) ≤ ((l0.length : Int) : Int) := odt (by first | (with_reducible assumption) | assumption)
                  obtain ⟨i032, hi032, _, hsz32, _⟩ := info_parts info29
                  have hroom32 : l0.length ≤ c0 := HC0.out
                  have hC32 : Kd.C k29 _ A0 l0.length l0 := HR0.out
                  have hcut32 := cut_to (P := Try.prog) 22 29 .i64 Try.underlying22 hi032 A0 l0.length c0 x5_1 (odt (by first | (with_reducible assumption) | assumption)) q32 hroom32
                  have hr32 := Kd.C_take (m := (x5_1 : Int).toNat) hC32 (by omega)
                  have hy32 : y189.length = (x5_1 : Int).toNat := (by rw [Ny189.out, llt]; omega)
                  rw [← Ny189.out] at hr32
                  rw [← hy32] at hcut32
                  have HR192 := aS hr32
                  have HC192 := aS (show y189.length ≤ c0 from by omega)
                  clear hr32 hC32 hroom32 hi032 hsz32
                  have KY32 := aS hy32
                  clear hy32
                  replace q32 := eq_true q32
                  refine start_ (n := 11) (S := fun w' => w'.cell? ⟨gb173, 0, none⟩ = some (.string a1_0) ∧ w'.cell? ⟨gb173, 1, none⟩ = some (.string a1_1) ∧ w'.cell? ⟨gb173, 2, none⟩ = some (.int .i64 a1_2) ∧ w'.cell? ⟨gb173, 3, none⟩ = some (.string a1_3) ∧ w'.cell? ⟨gb173, 4, none⟩ = some (.bool a1_4)) (ds := []) #[false, false, false, false, false, false, false, false, false, false, false] (by kernel_rfl) rfl rfl ⟨(blk_cell BK173.out 0).trans rfl, (blk_cell BK173.out 1).trans rfl, (blk_cell BK173.out 2).trans rfl, (blk_cell BK173.out 3).trans rfl, (blk_cell BK173.out 4).trans rfl⟩ (fun hHeld => ?_); refine with_tabW shardlogref08_Put1.tab7 shardlogref08_Put1.bits7 (fun HT_ HW_ => ?_)
                  generalize wc.drew = w31 at BK173 HB HR192 hHeld ⊢
                  refine along_ [(1, 43), (2, 44), (3, 45), (8, 50), (5, 47)] ?_
                  iterate 5 (first | (apply pure1 HT_; (case hi => rfl); (case hN => rfl); (case hw => rfl); (case hc => kernel_rfl); (case hQ => exact fun _ _ _ h => h); (case hy => intro w'; go_simp; with_reducible rfl); (case ha => simp only [Act.put, lsa, lsz, lss, i64_w, i32_w]; rfl)) | (apply take1 HT_ HW_ hHeld; (case hi => rfl); (case hN => rfl); (case hw => rfl); (case hc => kernel_rfl); (case hQ => exact fun _ _ _ h => h); (case hy => intro w' hs_; go_simp; with_reducible rfl); (case ha => simp only [Act.put, lsa, lsz, lss, i64_w, i32_w]; rfl)))
                  refine lay_ #[false, true, true, true, false, true, false, false, true, false, false] (by kernel_rfl) ?_
                  refine join_ (σ := Value × Value × Value) 3 #[true, true, true, true, true, true, true, false, true, false, false] (fun s_ => [(42, s_.1), (46, s_.2.1), (48, s_.2.2)]) (fun s_ w' => (w'.cell? ⟨gb173, 0, none⟩ = some (.string a1_0) ∧ w'.cell? ⟨gb173, 1, none⟩ = some (.string a1_1) ∧ w'.cell? ⟨gb173, 2, none⟩ = some (.int .i64 a1_2) ∧ w'.cell? ⟨gb173, 3, none⟩ = some (.string a1_3) ∧ w'.cell? ⟨gb173, 4, none⟩ = some (.bool a1_4)) ∧ (Kd.R k29 29 w' w.heap.size (fun k_ => some k_ ≠ (s_.2.2 : Value).ownBlock ∧ k_ ≠ gb173) s_.2.1 y193) ∧ (Kd.R k29 29 w' w.heap.size (fun k_ => some k_ ≠ (s_.2.1 : Value).ownBlock ∧ k_ ≠ gb173) s_.2.2 y196) ∧ (w'.heap[gb173]? = some (.cells #[.string a1_0, .string a1_1, .int .i64 a1_2, .string a1_3, .bool a1_4] 29 (0, 0))) ∧ (Below w.heap.size w w')) ?_ ?_
                  rotate_left
                  ·
                   intro hCont
                   refine two_ (i := 0) (j := 6) (Ni := some 42) (Nj := some 48) #[true, true, true, true, false, true, false, false, true, false, false] #[false, true, true, true, false, true, true, false, true, false, false] rfl rfl rfl rfl (two_of HT_.out (by kernel_rfl)) (by decide) (by decide) (fun K hK => ?_) (fun K hK => ?_)
                   ·
                    skip
                    refine Kd.R_lit_step k29 _ 29 ?hg (N := 42) ?hd (xs := ([] : List (S29))) (inner := []) (ok := fun _ => True) (okp := fun _ => True) ?hr ?hp (fun _ hk => hk) trivial (Below.refl _ _) (Nat.le_refl _) (by simp) ?_; (case hd => rfl); (case hg => rfl); (case hr => first | (go_simp; done) | (go_simp; rfl)); (case hp => exact (Reps.none _ _))
                    intro v187 w33 ho34 hb hg_ hnew_
                    clear hg_ hnew_
                    (first | rw [← Ny186.out] at ho34 | (simp only [Int.reduceToNat] at ho34; rw [← Ny186.out] at ho34))
                    have n0_ := aS (Kd.R_lower (Kd.R_newB ho34 (g := gb173) (o := .cells #[.string a1_0, .string a1_1, .int .i64 a1_2, .string a1_3, .bool a1_4] 29 (0, 0)) (bkl BK173.out)) (below_size bel))
                    have n1_ := aS (blk_below (g := gb173) (o := .cells #[.string a1_0, .string a1_1, .int .i64 a1_2, .string a1_3, .bool a1_4] 29 (0, 0)) (bkl BK173.out) hb)
                    have n2_ := bstep hb
                    clear BK173; clear HB
                    have HO188 := n0_
                    have BK173 := n1_
                    have HB := n2_
                    clear n0_ n1_ n2_; clear hb ho34
                    refine hK.out _ _ ⟨(blk_cell BK173.out 0).trans rfl, (blk_cell BK173.out 1).trans rfl, (blk_cell BK173.out 2).trans rfl, (blk_cell BK173.out 3).trans rfl, (blk_cell BK173.out 4).trans rfl⟩ (fun hHeld => ?_)
                    clear hK K
                    refine norm_ (a' := ?_) ?_ ?_
                    rotate_left
                    ·
                     show Act.put _ (some 42) _ = _
                     simp only [Act.put, lsa, lsz, lss, i64_w, i32_w]
                     rfl
                    refine two_ (i := 4) (j := 6) (Ni := some 46) (Nj := some 48) #[true, true, true, true, true, true, false, false, true, false, false] #[true, true, true, true, false, true, true, false, true, false, false] rfl rfl rfl rfl (two_of HT_.out (by kernel_rfl)) (by decide) (by decide) (fun K hK => ?_) (fun K hK => ?_)
                    ·
                     skip
                     refine Kd.R_append_rows_step k29 (w0 := w) w.heap.size (by rfl) (.tmp 42) (.tmp 45) 22 29 (.agg #[(.string ⟨#[]⟩), (.string ⟨#[]⟩), (.int .i64 0), (.string ⟨#[]⟩), (.bool false)]) 64 rfl Try.underlying22 info29 rfl (by decide) (by omega) v187 y186 y189 _ _ _ (fun k_ => k_ ≠ gb173) (fun _ => False) rfl rfl ?aO ?aR (fun _ _ h => h) (fun _ h => h.elim) ?aF ?aB ?aS ?aL ?_
                     (case aR => exact cel (Kd.C_below HR192.out HB.out))
                     (case aB => exact bel)
                     (case aF => exact (fun k_ hk => Kd.freshB (g := gb173) (o := .cells #[.string a1_0, .string a1_1, .int .i64 a1_2, .string a1_3, .bool a1_4] 29 (0, 0)) (bkl BK173.out) k_ hk))
                     (case aO => exact (rel (Kd.R_mono HO188.out (fun _ hk => hk.2))))
                     (case aS => exact (below_size bel))
                     (case aL => have := LMc27.out; omega)
                     intro v194 w35 ho hb hg hat
                     rw [← Ny193.out] at ho
                     have n0_ := aS (blk_grown (g := gb173) (o := .cells #[.string a1_0, .string a1_1, .int .i64 a1_2, .string a1_3, .bool a1_4] 29 (0, 0)) (bkl BK173.out) hg (Kd.R_away HO188.out (fun _ hk => hk.2)))
                     have n1_ := aS (hb)
                     have n2_ := aS (ho)
                     clear BK173; clear HB; clear HO188
                     have BK173 := n0_
                     have HB := n1_
                     have HO195 := n2_
                     clear n0_ n1_ n2_; clear ho hb hg hat
                     refine hK.out _ _ ⟨(blk_cell BK173.out 0).trans rfl, (blk_cell BK173.out 1).trans rfl, (blk_cell BK173.out 2).trans rfl, (blk_cell BK173.out 3).trans rfl, (blk_cell BK173.out 4).trans rfl⟩ (fun hHeld => ?_)
                     clear hK K
                     refine norm_ (a' := ?_) ?_ ?_
                     rotate_left
                     ·
                      show Act.put _ (some 46) _ = _
                      simp only [Act.put, lsa, lsz, lss, i64_w, i32_w]
                      rfl
                     refine one_ (i := 6) (N := some 48) #[true, true, true, true, true, true, true, false, true, false, false] rfl rfl (one_of HT_.out (by kernel_rfl)) (by decide) (fun K hK => ?_)
                     refine Kd.R_lit_step k29 _ 29 ?hg (N := 48) ?hd (xs := ([(⟨a1_0, a1_1, a1_2, a1_3, a1_4⟩ : S29)] : List (S29))) (inner := [.string a1_0, .string a1_1, .int .i64 a1_2, .string a1_3, .bool a1_4]) (ok := fun _ => True) (okp := fun _ => True) ?hr ?hp (fun _ hk => hk) trivial (Below.refl _ _) (Nat.le_refl _) (by simp) ?_; (case hd => rfl); (case hg => rfl); (case hr => first | (go_simp; done) | (go_simp; rfl)); (case hp => exact (Reps.c5 (show Kd.M k29 _ _ _ (⟨a1_0, a1_1, a1_2, a1_3, a1_4⟩ : S29) [.string a1_0, .string a1_1, .int .i64 a1_2, .string a1_3, .bool a1_4] from (k29_mkM _ _ _ (⟨a1_0, a1_1, a1_2, a1_3, a1_4⟩ : S29) )) (Reps.none _ _)))
                     intro v197 w36 ho37 hb hg_ hnew_
                     clear hg_ hnew_
                     (first | rw [← Ny196.out] at ho37 | (simp only [Int.reduceToNat] at ho37; rw [← Ny196.out] at ho37))
                     have n0_ := aS (Kd.R_elder' (rel HO195.out) (by first | exact Kd.R_base ho37 | exact Kd.S_base ho37 | exact Kd.R_base ho37 | exact Kd.V_base ho37) hb)
                     have n1_ := aS (Kd.R_lower (Kd.R_newB (Kd.R_new' ho37 (Kd.R_lt (rel HO195.out))) (g := gb173) (o := .cells #[.string a1_0, .string a1_1, .int .i64 a1_2, .string a1_3, .bool a1_4] 29 (0, 0)) (bkl BK173.out)) (below_size bel))
                     have n2_ := aS (blk_below (g := gb173) (o := .cells #[.string a1_0, .string a1_1, .int .i64 a1_2, .string a1_3, .bool a1_4] 29 (0, 0)) (bkl BK173.out) hb)
                     have n3_ := bstep hb
                     clear HO195; clear BK173; clear HB
                     have HO195 := n0_
                     have HO198 := n1_
                     have BK173 := n2_
                     have HB := n3_
                     clear n0_ n1_ n2_ n3_; clear hb ho37
                     refine hK.out _ _ ⟨(blk_cell BK173.out 0).trans rfl, (blk_cell BK173.out 1).trans rfl, (blk_cell BK173.out 2).trans rfl, (blk_cell BK173.out 3).trans rfl, (blk_cell BK173.out 4).trans rfl⟩ (fun hHeld => ?_)
                     clear hK K
                     refine norm_ (a' := ?_) ?_ ?_
                     rotate_left
                     ·
                      show Act.put _ (some 48) _ = _
                      simp only [Act.put, lsa, lsz, lss, i64_w, i32_w]
                      rfl
                     exact norm_ (by simp only [putAll, Act.put, lsa, lsz, lss]) (hCont (v187, v194, v197) _ ⟨hHeld, (by (with_reducible repeat (first | apply Kd.R_alloc | apply Kd.R_drewN | apply Kd.R_drew)); exact Kd.R_mono HO195.out (fun _ hk => ⟨hk.2, hk.1⟩)), (by (with_reducible repeat (first | apply Kd.R_alloc | apply Kd.R_drewN | apply Kd.R_drew)); exact Kd.R_mono HO198.out (fun _ hk => ⟨hk.1.2, hk.2⟩)), (bkl BK173.out), bel⟩)
                    ·
                     skip
                     refine Kd.R_lit_step k29 _ 29 ?hg (N := 48) ?hd (xs := ([(⟨a1_0, a1_1, a1_2, a1_3, a1_4⟩ : S29)] : List (S29))) (inner := [.string a1_0, .string a1_1, .int .i64 a1_2, .string a1_3, .bool a1_4]) (ok := fun _ => True) (okp := fun _ => True) ?hr ?hp (fun _ hk => hk) trivial (Below.refl _ _) (Nat.le_refl _) (by simp) ?_; (case hd => rfl); (case hg => rfl); (case hr => first | (go_simp; done) | (go_simp; rfl)); (case hp => exact (Reps.c5 (show Kd.M k29 _ _ _ (⟨a1_0, a1_1, a1_2, a1_3, a1_4⟩ : S29) [.string a1_0, .string a1_1, .int .i64 a1_2, .string a1_3, .bool a1_4] from (k29_mkM _ _ _ (⟨a1_0, a1_1, a1_2, a1_3, a1_4⟩ : S29) )) (Reps.none _ _)))
                     intro v197 w35 ho36 hb hg_ hnew_
                     clear hg_ hnew_
                     (first | rw [← Ny196.out] at ho36 | (simp only [Int.reduceToNat] at ho36; rw [← Ny196.out] at ho36))
                     have n0_ := aS (Kd.R_elder' (rel HO188.out) (by first | exact Kd.R_base ho36 | exact Kd.S_base ho36 | exact Kd.R_base ho36 | exact Kd.V_base ho36) hb)
                     have n1_ := aS (Kd.R_lower (Kd.R_newB (Kd.R_new' ho36 (Kd.R_lt (rel HO188.out))) (g := gb173) (o := .cells #[.string a1_0, .string a1_1, .int .i64 a1_2, .string a1_3, .bool a1_4] 29 (0, 0)) (bkl BK173.out)) (below_size bel))
                     have n2_ := aS (blk_below (g := gb173) (o := .cells #[.string a1_0, .string a1_1, .int .i64 a1_2, .string a1_3, .bool a1_4] 29 (0, 0)) (bkl BK173.out) hb)
                     have n3_ := bstep hb
                     clear HO188; clear BK173; clear HB
                     have HO188 := n0_
                     have HO198 := n1_
                     have BK173 := n2_
                     have HB := n3_
                     clear n0_ n1_ n2_ n3_; clear hb ho36
                     refine hK.out _ _ ⟨(blk_cell BK173.out 0).trans rfl, (blk_cell BK173.out 1).trans rfl, (blk_cell BK173.out 2).trans rfl, (blk_cell BK173.out 3).trans rfl, (blk_cell BK173.out 4).trans rfl⟩ (fun hHeld => ?_)
                     clear hK K
                     refine norm_ (a' := ?_) ?_ ?_
                     rotate_left
                     ·
                      show Act.put _ (some 48) _ = _
                      simp only [Act.put, lsa, lsz, lss, i64_w, i32_w]
                      rfl
                     refine one_ (i := 4) (N := some 46) #[true, true, true, true, true, true, true, false, true, false, false] rfl rfl (one_of HT_.out (by kernel_rfl)) (by decide) (fun K hK => ?_)
                     refine Kd.R_append_rows_step k29 (w0 := w) w.heap.size (by rfl) (.tmp 42) (.tmp 45) 22 29 (.agg #[(.string ⟨#[]⟩), (.string ⟨#[]⟩), (.int .i64 0), (.string ⟨#[]⟩), (.bool false)]) 64 rfl Try.underlying22 info29 rfl (by decide) (by omega) v187 y186 y189 _ _ _ (fun k_ => some k_ ≠ (v197 : Value).ownBlock ∧ k_ ≠ gb173) (fun _ => False) rfl rfl ?aO ?aR (fun _ _ h => h) (fun _ h => h.elim) ?aF ?aB ?aS ?aL ?_
                     (case aR => exact cel (Kd.C_below HR192.out HB.out))
                     (case aB => exact bel)
                     (case aF => exact (fun k_ hk => ⟨Kd.fresh' (Kd.R_lt (rel HO198.out)) k_ hk, Kd.freshB (g := gb173) (o := .cells #[.string a1_0, .string a1_1, .int .i64 a1_2, .string a1_3, .bool a1_4] 29 (0, 0)) (bkl BK173.out) k_ hk⟩))
                     (case aO => exact (by (with_reducible repeat (first | apply Kd.R_alloc | apply Kd.R_drewN | apply Kd.R_drew)); exact Kd.R_mono HO188.out (fun _ hk => ⟨hk.2, hk.1.2⟩)))
                     (case aS => exact (below_size bel))
                     (case aL => have := LMc27.out; omega)
                     intro v194 w37 ho hb hg hat
                     rw [← Ny193.out] at ho
                     have n0_ := aS (blk_grown (g := gb173) (o := .cells #[.string a1_0, .string a1_1, .int .i64 a1_2, .string a1_3, .bool a1_4] 29 (0, 0)) (bkl BK173.out) hg (Kd.R_away HO188.out (fun _ hk => hk.1.2)))
                     have n1_ := aS (Kd.R_after (ok := (fun k_ => k_ ≠ gb173)) (by (with_reducible repeat (first | apply Kd.R_alloc | apply Kd.R_drewN | apply Kd.R_drew)); exact Kd.R_mono HO198.out (fun _ hk => ⟨hk.2, hk.1.2⟩)) hg hat)
                     have n2_ := aS (hb)
                     have n3_ := aS (ho)
                     clear BK173; clear HO198; clear HB; clear HO188
                     have BK173 := n0_
                     have HO198 := n1_
                     have HB := n2_
                     have HO195 := n3_
                     clear n0_ n1_ n2_ n3_; clear ho hb hg hat
                     refine hK.out _ _ ⟨(blk_cell BK173.out 0).trans rfl, (blk_cell BK173.out 1).trans rfl, (blk_cell BK173.out 2).trans rfl, (blk_cell BK173.out 3).trans rfl, (blk_cell BK173.out 4).trans rfl⟩ (fun hHeld => ?_)
                     clear hK K
                     refine norm_ (a' := ?_) ?_ ?_
                     rotate_left
                     ·
                      show Act.put _ (some 46) _ = _
                      simp only [Act.put, lsa, lsz, lss, i64_w, i32_w]
                      rfl
                     exact norm_ (by simp only [putAll, Act.put, lsa, lsz, lss]) (hCont (v187, v194, v197) _ ⟨hHeld, (rel HO195.out), (by (with_reducible repeat (first | apply Kd.R_alloc | apply Kd.R_drewN | apply Kd.R_drew)); exact Kd.R_mono HO198.out (fun _ hk => ⟨hk.2, hk.1⟩)), (bkl BK173.out), bel⟩)
                   ·
                    skip
                    refine Kd.R_lit_step k29 _ 29 ?hg (N := 48) ?hd (xs := ([(⟨a1_0, a1_1, a1_2, a1_3, a1_4⟩ : S29)] : List (S29))) (inner := [.string a1_0, .string a1_1, .int .i64 a1_2, .string a1_3, .bool a1_4]) (ok := fun _ => True) (okp := fun _ => True) ?hr ?hp (fun _ hk => hk) trivial (Below.refl _ _) (Nat.le_refl _) (by simp) ?_; (case hd => rfl); (case hg => rfl); (case hr => first | (go_simp; done) | (go_simp; rfl)); (case hp => exact (Reps.c5 (show Kd.M k29 _ _ _ (⟨a1_0, a1_1, a1_2, a1_3, a1_4⟩ : S29) [.string a1_0, .string a1_1, .int .i64 a1_2, .string a1_3, .bool a1_4] from (k29_mkM _ _ _ (⟨a1_0, a1_1, a1_2, a1_3, a1_4⟩ : S29) )) (Reps.none _ _)))
                    intro v197 w33 ho34 hb hg_ hnew_
                    clear hg_ hnew_
                    (first | rw [← Ny196.out] at ho34 | (simp only [Int.reduceToNat] at ho34; rw [← Ny196.out] at ho34))
                    have n0_ := aS (Kd.R_lower (Kd.R_newB ho34 (g := gb173) (o := .cells #[.string a1_0, .string a1_1, .int .i64 a1_2, .string a1_3, .bool a1_4] 29 (0, 0)) (bkl BK173.out)) (below_size bel))
                    have n1_ := aS (blk_below (g := gb173) (o := .cells #[.string a1_0, .string a1_1, .int .i64 a1_2, .string a1_3, .bool a1_4] 29 (0, 0)) (bkl BK173.out) hb)
                    have n2_ := bstep hb
                    clear BK173; clear HB
                    have HO198 := n0_
                    have BK173 := n1_
                    have HB := n2_
                    clear n0_ n1_ n2_; clear hb ho34
                    refine hK.out _ _ ⟨(blk_cell BK173.out 0).trans rfl, (blk_cell BK173.out 1).trans rfl, (blk_cell BK173.out 2).trans rfl, (blk_cell BK173.out 3).trans rfl, (blk_cell BK173.out 4).trans rfl⟩ (fun hHeld => ?_)
                    clear hK K
                    refine norm_ (a' := ?_) ?_ ?_
                    rotate_left
                    ·
                     show Act.put _ (some 48) _ = _
                     simp only [Act.put, lsa, lsz, lss, i64_w, i32_w]
                     rfl
                    refine one_ (i := 0) (N := some 42) #[true, true, true, true, false, true, true, false, true, false, false] rfl rfl (one_of HT_.out (by kernel_rfl)) (by decide) (fun K hK => ?_)
                    refine Kd.R_lit_step k29 _ 29 ?hg (N := 42) ?hd (xs := ([] : List (S29))) (inner := []) (ok := fun _ => True) (okp := fun _ => True) ?hr ?hp (fun _ hk => hk) trivial (Below.refl _ _) (Nat.le_refl _) (by simp) ?_; (case hd => rfl); (case hg => rfl); (case hr => first | (go_simp; done) | (go_simp; rfl)); (case hp => exact (Reps.none _ _))
                    intro v187 w35 ho36 hb hg_ hnew_
                    clear hg_ hnew_
                    (first | rw [← Ny186.out] at ho36 | (simp only [Int.reduceToNat] at ho36; rw [← Ny186.out] at ho36))
                    have n0_ := aS (Kd.R_elder' (rel HO198.out) (by first | exact Kd.R_base ho36 | exact Kd.S_base ho36 | exact Kd.R_base ho36 | exact Kd.V_base ho36) hb)
                    have n1_ := aS (Kd.R_lower (Kd.R_newB (Kd.R_new' ho36 (Kd.R_lt (rel HO198.out))) (g := gb173) (o := .cells #[.string a1_0, .string a1_1, .int .i64 a1_2, .string a1_3, .bool a1_4] 29 (0, 0)) (bkl BK173.out)) (below_size bel))
                    have n2_ := aS (blk_below (g := gb173) (o := .cells #[.string a1_0, .string a1_1, .int .i64 a1_2, .string a1_3, .bool a1_4] 29 (0, 0)) (bkl BK173.out) hb)
                    have n3_ := bstep hb
                    clear HO198; clear BK173; clear HB
                    have HO198 := n0_
                    have HO188 := n1_
                    have BK173 := n2_
                    have HB := n3_
                    clear n0_ n1_ n2_ n3_; clear hb ho36
                    refine hK.out _ _ ⟨(blk_cell BK173.out 0).trans rfl, (blk_cell BK173.out 1).trans rfl, (blk_cell BK173.out 2).trans rfl, (blk_cell BK173.out 3).trans rfl, (blk_cell BK173.out 4).trans rfl⟩ (fun hHeld => ?_)
                    clear hK K
                    refine norm_ (a' := ?_) ?_ ?_
                    rotate_left
                    ·
                     show Act.put _ (some 42) _ = _
                     simp only [Act.put, lsa, lsz, lss, i64_w, i32_w]
                     rfl
                    refine one_ (i := 4) (N := some 46) #[true, true, true, true, true, true, true, false, true, false, false] rfl rfl (one_of HT_.out (by kernel_rfl)) (by decide) (fun K hK => ?_)
                    refine Kd.R_append_rows_step k29 (w0 := w) w.heap.size (by rfl) (.tmp 42) (.tmp 45) 22 29 (.agg #[(.string ⟨#[]⟩), (.string ⟨#[]⟩), (.int .i64 0), (.string ⟨#[]⟩), (.bool false)]) 64 rfl Try.underlying22 info29 rfl (by decide) (by omega) v187 y186 y189 _ _ _ (fun k_ => some k_ ≠ (v197 : Value).ownBlock ∧ k_ ≠ gb173) (fun _ => False) rfl rfl ?aO ?aR (fun _ _ h => h) (fun _ h => h.elim) ?aF ?aB ?aS ?aL ?_
                    (case aR => exact cel (Kd.C_below HR192.out HB.out))
                    (case aB => exact bel)
                    (case aF => exact (fun k_ hk => ⟨Kd.fresh' (Kd.R_lt (rel HO198.out)) k_ hk, Kd.freshB (g := gb173) (o := .cells #[.string a1_0, .string a1_1, .int .i64 a1_2, .string a1_3, .bool a1_4] 29 (0, 0)) (bkl BK173.out) k_ hk⟩))
                    (case aO => exact (by (with_reducible repeat (first | apply Kd.R_alloc | apply Kd.R_drewN | apply Kd.R_drew)); exact Kd.R_mono HO188.out (fun _ hk => ⟨hk.1.2, hk.2⟩)))
                    (case aS => exact (below_size bel))
                    (case aL => have := LMc27.out; omega)
                    intro v194 w37 ho hb hg hat
                    rw [← Ny193.out] at ho
                    have n0_ := aS (blk_grown (g := gb173) (o := .cells #[.string a1_0, .string a1_1, .int .i64 a1_2, .string a1_3, .bool a1_4] 29 (0, 0)) (bkl BK173.out) hg (Kd.R_away HO188.out (fun _ hk => hk.2)))
                    have n1_ := aS (Kd.R_after (ok := (fun k_ => k_ ≠ gb173)) (by (with_reducible repeat (first | apply Kd.R_alloc | apply Kd.R_drewN | apply Kd.R_drew)); exact Kd.R_mono HO198.out (fun _ hk => ⟨hk.1.2, hk.2⟩)) hg hat)
                    have n2_ := aS (hb)
                    have n3_ := aS (ho)
                    clear BK173; clear HO198; clear HB; clear HO188
                    have BK173 := n0_
                    have HO198 := n1_
                    have HB := n2_
                    have HO195 := n3_
                    clear n0_ n1_ n2_ n3_; clear ho hb hg hat
                    refine hK.out _ _ ⟨(blk_cell BK173.out 0).trans rfl, (blk_cell BK173.out 1).trans rfl, (blk_cell BK173.out 2).trans rfl, (blk_cell BK173.out 3).trans rfl, (blk_cell BK173.out 4).trans rfl⟩ (fun hHeld => ?_)
                    clear hK K
                    refine norm_ (a' := ?_) ?_ ?_
                    rotate_left
                    ·
                     show Act.put _ (some 46) _ = _
                     simp only [Act.put, lsa, lsz, lss, i64_w, i32_w]
                     rfl
                    exact norm_ (by simp only [putAll, Act.put, lsa, lsz, lss]) (hCont (v187, v194, v197) _ ⟨hHeld, (rel HO195.out), (by (with_reducible repeat (first | apply Kd.R_alloc | apply Kd.R_drewN | apply Kd.R_drew)); exact Kd.R_mono HO198.out (fun _ hk => ⟨hk.2, hk.1⟩)), (bkl BK173.out), bel⟩)
                  rintro ⟨v187, v194, v197⟩ w38 ⟨hS_, h0_, h1_, h2_, h3_⟩
                  have n0_ : Aside0 (Kd.R k29 29 w38 w.heap.size (fun k_ => some k_ ≠ (v197 : Value).ownBlock ∧ k_ ≠ gb173) v194 y193) := ⟨h0_⟩
                  have n1_ : Aside0 (Kd.R k29 29 w38 w.heap.size (fun k_ => some k_ ≠ (v194 : Value).ownBlock ∧ k_ ≠ gb173) v197 y196) := ⟨h1_⟩
                  have n2_ : Aside0 (w38.heap[gb173]? = some (.cells #[.string a1_0, .string a1_1, .int .i64 a1_2, .string a1_3, .bool a1_4] 29 (0, 0))) := ⟨h2_⟩
                  have n3_ : Aside0 (Below w.heap.size w w38) := ⟨h3_⟩
                  clear BK173; clear HB; clear h0_ h1_ h2_ h3_
                  have HO195 := n0_
                  have HO198 := n1_
                  have BK173 := n2_
                  have HB := n3_
                  clear n0_ n1_ n2_ n3_
                  have hHeld : w38.cell? ⟨gb173, 0, none⟩ = some (.string a1_0) ∧ w38.cell? ⟨gb173, 1, none⟩ = some (.string a1_1) ∧ w38.cell? ⟨gb173, 2, none⟩ = some (.int .i64 a1_2) ∧ w38.cell? ⟨gb173, 3, none⟩ = some (.string a1_3) ∧ w38.cell? ⟨gb173, 4, none⟩ = some (.bool a1_4) := hS_
                  obtain ⟨Ao40, co40, eo40⟩ := Kd.R_slice HO198.out
                  (first | subst eo40 | (injection eo40 with f1_ f2_ f3_; have f4_ := f1_.symm; have f5_ := f3_.symm; clear f1_ f2_ f3_; subst f4_; subst f5_))
                  refine norm_ (a' := ?_) ?_ ?_
                  rotate_left
                  ·
                   simp only [putAll, Act.put, lsa, lsz, lss]
                   rfl
                  refine one_ (i := 7) (N := some 49) #[true, true, true, true, true, true, true, true, true, false, false] rfl rfl (one_of HT_.out (by kernel_rfl)) (by decide) (fun K hK => ?_)
                  refine Kd.R_append_rows_step k29 (w0 := w) w.heap.size (by rfl) (.tmp 46) (.tmp 48) 22 29 (.agg #[(.string ⟨#[]⟩), (.string ⟨#[]⟩), (.int .i64 0), (.string ⟨#[]⟩), (.bool false)]) 64 rfl Try.underlying22 info29 rfl (by decide) (by omega) v194 y193 y196 _ _ _ (fun k_ => some k_ ≠ (.slice Ao40 y196.length co40 : Value).ownBlock ∧ k_ ≠ gb173) (fun _ => False) rfl rfl ?aO ?aR (fun _ _ h => h) (fun _ h => h.elim) ?aF ?aB ?aS ?aL ?_
                  (case aR => exact cel ((Kd.R_reads' HO198.out).2.2))
                  (case aB => exact bel)
                  (case aF => exact (fun k_ hk => ⟨Kd.fresh' (Kd.R_lt (rel HO198.out)) k_ hk, Kd.freshB (g := gb173) (o := .cells #[.string a1_0, .string a1_1, .int .i64 a1_2, .string a1_3, .bool a1_4] 29 (0, 0)) (bkl BK173.out) k_ hk⟩))
                  (case aO => exact (rel HO195.out))
                  (case aS => exact (below_size bel))
                  (case aL => have := LMc28.out; omega)
                  intro v200 w39 ho hb hg hat
                  rw [← Ny199.out] at ho
                  have n0_ := aS (blk_grown (g := gb173) (o := .cells #[.string a1_0, .string a1_1, .int .i64 a1_2, .string a1_3, .bool a1_4] 29 (0, 0)) (bkl BK173.out) hg (Kd.R_away HO195.out (fun _ hk => hk.2)))
                  have n1_ := aS (Kd.R_after (ok := (fun k_ => k_ ≠ gb173)) (by (with_reducible repeat (first | apply Kd.R_alloc | apply Kd.R_drewN | apply Kd.R_drew)); exact Kd.R_mono HO198.out (fun _ hk => ⟨hk.2, hk.1⟩)) hg hat)
                  have n2_ := aS (hb)
                  have n3_ := aS (ho)
                  clear BK173; clear HO198; clear HB; clear HO195
                  have BK173 := n0_
                  have HO198 := n1_
                  have HB := n2_
                  have HO201 := n3_
                  clear n0_ n1_ n2_ n3_; clear ho hb hg hat
                  refine hK.out _ _ ⟨(blk_cell BK173.out 0).trans rfl, (blk_cell BK173.out 1).trans rfl, (blk_cell BK173.out 2).trans rfl, (blk_cell BK173.out 3).trans rfl, (blk_cell BK173.out 4).trans rfl⟩ (fun hHeld => ?_)
                  clear hK K
                  refine norm_ (a' := ?_) ?_ ?_
                  rotate_left
                  ·
                   show Act.put _ (some 49) _ = _
                   simp only [Act.put, lsa, lsz, lss, i64_w, i32_w]
                   rfl
                  refine one_ (i := 9) (N := some 51) #[true, true, true, true, true, true, true, true, true, true, false] rfl rfl (one_of HT_.out (by kernel_rfl)) (by decide) (fun K hK => ?_)
                  refine Kd.R_append_rows_step k29 (w0 := w) w.heap.size (by rfl) (.tmp 49) (.tmp 50) 22 29 (.agg #[(.string ⟨#[]⟩), (.string ⟨#[]⟩), (.int .i64 0), (.string ⟨#[]⟩), (.bool false)]) 64 rfl Try.underlying22 info29 rfl (by decide) (by omega) v200 y199 y182 _ _ _ (fun k_ => some k_ ≠ (.slice Ao40 y196.length co40 : Value).ownBlock ∧ k_ ≠ gb173) (fun _ => False) rfl rfl ?aO ?aR (fun _ _ h => h) (fun _ h => h.elim) ?aF ?aB ?aS ?aL ?_
                  (case aR => exact cel (Kd.C_below HR185.out HB.out))
                  (case aB => exact bel)
                  (case aF => exact (fun k_ hk => ⟨Kd.fresh' (Kd.R_lt (rel HO198.out)) k_ hk, Kd.freshB (g := gb173) (o := .cells #[.string a1_0, .string a1_1, .int .i64 a1_2, .string a1_3, .bool a1_4] 29 (0, 0)) (bkl BK173.out) k_ hk⟩))
                  (case aO => exact (rel HO201.out))
                  (case aS => exact (below_size bel))
                  (case aL => have := LMc29.out; omega)
                  intro v203 w41 ho hb hg hat
                  rw [← Ny202.out] at ho
                  have n0_ := aS (blk_grown (g := gb173) (o := .cells #[.string a1_0, .string a1_1, .int .i64 a1_2, .string a1_3, .bool a1_4] 29 (0, 0)) (bkl BK173.out) hg (Kd.R_away HO201.out (fun _ hk => hk.2)))
                  have n1_ := aS (Kd.R_after (ok := (fun k_ => k_ ≠ gb173)) (rel HO198.out) hg hat)
                  have n2_ := aS (hb)
                  have n3_ := aS (ho)
                  clear BK173; clear HO198; clear HB; clear HO201
                  have BK173 := n0_
                  have HO198 := n1_
                  have HB := n2_
                  have HO204 := n3_
                  clear n0_ n1_ n2_ n3_; clear ho hb hg hat
                  refine hK.out _ _ ⟨(blk_cell BK173.out 0).trans rfl, (blk_cell BK173.out 1).trans rfl, (blk_cell BK173.out 2).trans rfl, (blk_cell BK173.out 3).trans rfl, (blk_cell BK173.out 4).trans rfl⟩ (fun hHeld => ?_)
                  clear hK K
                  refine norm_ (a' := ?_) ?_ ?_
                  rotate_left
                  ·
                   show Act.put _ (some 51) _ = _
                   simp only [Act.put, lsa, lsz, lss, i64_w, i32_w]
                   rfl
                  refine pure_ (i := 10) (N := some 4) (v := ?_) (a' := ?_) #[true, true, true, true, true, true, true, true, true, true, true] rfl rfl (any_of HT_.out (by kernel_rfl)) (fun _ _ _ h => h) (Or.inl ⟨by rfl, ?_⟩) ?_ ?_
                  rotate_left
                  ·
                   intro w'
                   go_simp
                   with_reducible rfl
                  rotate_left
                  ·
                   simp only [Act.put, lsa, lsz, lss, i64_w, i32_w]
                   rfl
                  refine done_ (done_of HT_.out (by kernel_rfl)) ?_
                  try go_wp2
                  go_ret
                  exact ⟨_, by first | rfl | (simp [errW_none, errW_some] <;> rfl) | (simp only [← hji22]; first | rfl | (simp [errW_none, errW_some] <;> rfl)) | (simp [*, errW_none, errW_some] <;> rfl), by (with_reducible repeat (first | apply Kd.R_alloc | apply Kd.R_drewN | apply Kd.R_drew)); exact Kd.R_mono HO204.out (fun _ hk => trivial), bel⟩
                 ·
                  rw [if_neg c29] at H
                  exact absurd H (by simp)
                ·
                 rw [if_neg c28] at H
                 exact absurd H (by simp)
               ·
                rw [if_neg c27] at H
                exact absurd H (by simp)
              ·
               rw [if_neg c26] at H
               exact absurd H (by simp)
             ·
              rw [if_neg c25] at H
              exact absurd H (by simp)
            ·
             rw [if_neg c24] at H
             exact absurd H (by simp)
           ·
            rw [if_neg c23] at H
            exact absurd H (by simp)
          ·
           replace c21 := Bool.eq_false_iff.mpr c21
           subst c21
           have H1 : ((some (([] : List (S29)) : List (S29))).bind fun y205 => (if 0 ≤ x5_1 then (if x5_1 ≤ (l0.length : Int) then ((some (l0.take (x5_1 : Int).toNat : List (S29))).bind fun y208 => (if y205.length + y208.length < 2199023255552 then ((some (y205 ++ y208 : List (S29))).bind fun y212 => ((some (([(⟨a1_0, a1_1, a1_2, a1_3, a1_4⟩ : S29)] : List (S29)) : List (S29))).bind fun y215 => (if y212.length + y215.length < 2199023255552 then ((some (y212 ++ y215 : List (S29))).bind fun y218 => (if y218.length + y176.length < 2199023255552 then (some (y218 ++ y176)) else (none))) else (none)))) else (none))) else (none)) else (none))) = some r := by rw [if_neg (show ¬ (false = true) by decide)] at H; exact H
           clear H; have H := H1; clear H1
           obtain ⟨y205, hy205⟩ : ∃ y_ : List (S29), y_ = (([] : List (S29))) := ⟨_, rfl⟩
           replace H : (if 0 ≤ x5_1 then (if x5_1 ≤ (l0.length : Int) then ((some (l0.take (x5_1 : Int).toNat : List (S29))).bind fun y208 => (if y205.length + y208.length < 2199023255552 then ((some (y205 ++ y208 : List (S29))).bind fun y212 => ((some (([(⟨a1_0, a1_1, a1_2, a1_3, a1_4⟩ : S29)] : List (S29)) : List (S29))).bind fun y215 => (if y212.length + y215.length < 2199023255552 then ((some (y212 ++ y215 : List (S29))).bind fun y218 => (if y218.length + y176.length < 2199023255552 then (some (y218 ++ y176)) else (none))) else (none)))) else (none))) else (none)) else (none)) = some r := by first | (rw [hy205]; with_reducible exact H) | (have H2_ := (Option.bind_some _ _).symm.trans H; rw [hy205]; with_reducible exact H2_) | (have H2_ := (Option.bind_some _ _).symm.trans H; with_reducible exact H2_) | with_reducible exact H | (rw [hy205]; exact H) | exact H
           have Ny205 := aS hy205
           clear hy205
           by_cases c42 : 0 ≤ x5_1
           ·
            rw [if_pos c42] at H
            have c42b0 := eq_true c42
            have c42b1 : decide (0 ≤ x5_1) = true := decide_eq_true c42
            clear c42
            by_cases c43 : x5_1 ≤ (l0.length : Int)
            ·
             rw [if_pos c43] at H
             have c43b0 := eq_true c43
             have c43b1 : decide (x5_1 ≤ (l0.length : Int)) = true := decide_eq_true c43
             clear c43
             obtain ⟨y208, hy208⟩ : ∃ y_ : List (S29), y_ = (l0.take (x5_1 : Int).toNat) := ⟨_, rfl⟩
             replace H : (if y205.length + y208.length < 2199023255552 then ((some (y205 ++ y208 : List (S29))).bind fun y212 => ((some (([(⟨a1_0, a1_1, a1_2, a1_3, a1_4⟩ : S29)] : List (S29)) : List (S29))).bind fun y215 => (if y212.length + y215.length < 2199023255552 then ((some (y212 ++ y215 : List (S29))).bind fun y218 => (if y218.length + y176.length < 2199023255552 then (some (y218 ++ y176)) else (none))) else (none)))) else (none)) = some r := by first | (rw [hy208]; with_reducible exact H) | (have H2_ := (Option.bind_some _ _).symm.trans H; rw [hy208]; with_reducible exact H2_) | (have H2_ := (Option.bind_some _ _).symm.trans H; with_reducible exact H2_) | with_reducible exact H | (rw [hy208]; exact H) | exact H
             have Ny208 := aS hy208
             clear hy208
             by_cases c44 : y205.length + y208.length < 2199023255552
             ·
              rw [if_pos c44] at H
              have LMc44 := aS c44
              clear c44
              obtain ⟨y212, hy212⟩ : ∃ y_ : List (S29), y_ = (y205 ++ y208) := ⟨_, rfl⟩
              replace H : ((some (([(⟨a1_0, a1_1, a1_2, a1_3, a1_4⟩ : S29)] : List (S29)) : List (S29))).bind fun y215 => (if y212.length + y215.length < 2199023255552 then ((some (y212 ++ y215 : List (S29))).bind fun y218 => (if y218.length + y176.length < 2199023255552 then (some (y218 ++ y176)) else (none))) else (none))) = some r := by first | (rw [hy212]; with_reducible exact H) | (have H2_ := (Option.bind_some _ _).symm.trans H; rw [hy212]; with_reducible exact H2_) | (have H2_ := (Option.bind_some _ _).symm.trans H; with_reducible exact H2_) | with_reducible exact H | (rw [hy212]; exact H) | exact H
              have Ny212 := aS hy212
              clear hy212
              obtain ⟨y215, hy215⟩ : ∃ y_ : List (S29), y_ = (([(⟨a1_0, a1_1, a1_2, a1_3, a1_4⟩ : S29)] : List (S29))) := ⟨_, rfl⟩
              replace H : (if y212.length + y215.length < 2199023255552 then ((some (y212 ++ y215 : List (S29))).bind fun y218 => (if y218.length + y176.length < 2199023255552 then (some (y218 ++ y176)) else (none))) else (none)) = some r := by first | (rw [hy215]; with_reducible exact H) | (have H2_ := (Option.bind_some _ _).symm.trans H; rw [hy215]; with_reducible exact H2_) | (have H2_ := (Option.bind_some _ _).symm.trans H; with_reducible exact H2_) | with_reducible exact H | (rw [hy215]; exact H) | exact H
              have Ny215 := aS hy215
              clear hy215
              by_cases c45 : y212.length + y215.length < 2199023255552
              ·
               rw [if_pos c45] at H
               have LMc45 := aS c45
               clear c45
               obtain ⟨y218, hy218⟩ : ∃ y_ : List (S29), y_ = (y212 ++ y215) := ⟨_, rfl⟩
               replace H : (if y218.length + y176.length < 2199023255552 then (some (y218 ++ y176)) else (none)) = some r := by first | (rw [hy218]; with_reducible exact H) | (have H2_ := (Option.bind_some _ _).symm.trans H; rw [hy218]; with_reducible exact H2_) | (have H2_ := (Option.bind_some _ _).symm.trans H; with_reducible exact H2_) | with_reducible exact H | (rw [hy218]; exact H) | exact H
               have Ny218 := aS hy218
               clear hy218
               by_cases c46 : y218.length + y176.length < 2199023255552
               ·
                rw [if_pos c46] at H
                have LMc46 := aS c46
                clear c46
                obtain ⟨y221, hy221⟩ : ∃ y_ : List (S29), y_ = (y218 ++ y176) := ⟨_, rfl⟩
                replace H : (some y221) = some r := by first | (rw [hy221]; with_reducible exact H) | (have H2_ := (Option.bind_some _ _).symm.trans H; rw [hy221]; with_reducible exact H2_) | (have H2_ := (Option.bind_some _ _).symm.trans H; with_reducible exact H2_) | with_reducible exact H | (rw [hy221]; exact H) | exact H
                have Ny221 := aS hy221
                clear hy221
                obtain rfl := Option.some.inj H
                try go_wp2
                have n0_ := aS (blk_drew BK173.out)
                have n1_ := aS (bdo HB.out)
                clear BK173; clear HB
                have BK173 := n0_
                have HB := n1_
                clear n0_ n1_
                have q48 : (x5_1 : Int) ≤ ((l0.length : Int) : Int) := odt (by first | (with_reducible assumption) | assumption)
                obtain ⟨i048, hi048, _, hsz48, _⟩ := info_parts info29
                have hroom48 : l0.length ≤ c0 := HC0.out
                have hC48 : Kd.C k29 _ A0 l0.length l0 := HR0.out
                have hcut48 := cut_to (P := Try.prog) 22 29 .i64 Try.underlying22 hi048 A0 l0.length c0 x5_1 (odt (by first | (with_reducible assumption) | assumption)) q48 hroom48
                have hr48 := Kd.C_take (m := (x5_1 : Int).toNat) hC48 (by omega)
                have hy48 : y208.length = (x5_1 : Int).toNat := (by rw [Ny208.out, llt]; omega)
                rw [← Ny208.out] at hr48
                rw [← hy48] at hcut48
                have HR211 := aS hr48
                have HC211 := aS (show y208.length ≤ c0 from by omega)
                clear hr48 hC48 hroom48 hi048 hsz48
                have KY48 := aS hy48
                clear hy48
                replace q48 := eq_true q48
                refine start_ (n := 11) (S := fun w' => w'.cell? ⟨gb173, 0, none⟩ = some (.string a1_0) ∧ w'.cell? ⟨gb173, 1, none⟩ = some (.string a1_1) ∧ w'.cell? ⟨gb173, 2, none⟩ = some (.int .i64 a1_2) ∧ w'.cell? ⟨gb173, 3, none⟩ = some (.string a1_3) ∧ w'.cell? ⟨gb173, 4, none⟩ = some (.bool a1_4)) (ds := []) #[false, false, false, false, false, false, false, false, false, false, false] (by kernel_rfl) rfl rfl ⟨(blk_cell BK173.out 0).trans rfl, (blk_cell BK173.out 1).trans rfl, (blk_cell BK173.out 2).trans rfl, (blk_cell BK173.out 3).trans rfl, (blk_cell BK173.out 4).trans rfl⟩ (fun hHeld => ?_); refine with_tabW shardlogref08_Put1.tab7 shardlogref08_Put1.bits7 (fun HT_ HW_ => ?_)
                generalize wc.drew = w47 at BK173 HB HR211 hHeld ⊢
                refine along_ [(1, 43), (2, 44), (3, 45), (8, 50), (5, 47)] ?_
                iterate 5 (first | (apply pure1 HT_; (case hi => rfl); (case hN => rfl); (case hw => rfl); (case hc => kernel_rfl); (case hQ => exact fun _ _ _ h => h); (case hy => intro w'; go_simp; with_reducible rfl); (case ha => simp only [Act.put, lsa, lsz, lss, i64_w, i32_w]; rfl)) | (apply take1 HT_ HW_ hHeld; (case hi => rfl); (case hN => rfl); (case hw => rfl); (case hc => kernel_rfl); (case hQ => exact fun _ _ _ h => h); (case hy => intro w' hs_; go_simp; with_reducible rfl); (case ha => simp only [Act.put, lsa, lsz, lss, i64_w, i32_w]; rfl)))
                refine lay_ #[false, true, true, true, false, true, false, false, true, false, false] (by kernel_rfl) ?_
                refine join_ (σ := Value × Value × Value) 3 #[true, true, true, true, true, true, true, false, true, false, false] (fun s_ => [(42, s_.1), (46, s_.2.1), (48, s_.2.2)]) (fun s_ w' => (w'.cell? ⟨gb173, 0, none⟩ = some (.string a1_0) ∧ w'.cell? ⟨gb173, 1, none⟩ = some (.string a1_1) ∧ w'.cell? ⟨gb173, 2, none⟩ = some (.int .i64 a1_2) ∧ w'.cell? ⟨gb173, 3, none⟩ = some (.string a1_3) ∧ w'.cell? ⟨gb173, 4, none⟩ = some (.bool a1_4)) ∧ (Kd.R k29 29 w' w.heap.size (fun k_ => some k_ ≠ (s_.2.2 : Value).ownBlock ∧ k_ ≠ gb173) s_.2.1 y212) ∧ (Kd.R k29 29 w' w.heap.size (fun k_ => some k_ ≠ (s_.2.1 : Value).ownBlock ∧ k_ ≠ gb173) s_.2.2 y215) ∧ (w'.heap[gb173]? = some (.cells #[.string a1_0, .string a1_1, .int .i64 a1_2, .string a1_3, .bool a1_4] 29 (0, 0))) ∧ (Below w.heap.size w w')) ?_ ?_
                rotate_left
                ·
                 intro hCont
                 refine two_ (i := 0) (j := 6) (Ni := some 42) (Nj := some 48) #[true, true, true, true, false, true, false, false, true, false, false] #[false, true, true, true, false, true, true, false, true, false, false] rfl rfl rfl rfl (two_of HT_.out (by kernel_rfl)) (by decide) (by decide) (fun K hK => ?_) (fun K hK => ?_)
                 ·
                  skip
                  refine Kd.R_lit_step k29 _ 29 ?hg (N := 42) ?hd (xs := ([] : List (S29))) (inner := []) (ok := fun _ => True) (okp := fun _ => True) ?hr ?hp (fun _ hk => hk) trivial (Below.refl _ _) (Nat.le_refl _) (by simp) ?_; (case hd => rfl); (case hg => rfl); (case hr => first | (go_simp; done) | (go_simp; rfl)); (case hp => exact (Reps.none _ _))
                  intro v206 w49 ho50 hb hg_ hnew_
                  clear hg_ hnew_
                  (first | rw [← Ny205.out] at ho50 | (simp only [Int.reduceToNat] at ho50; rw [← Ny205.out] at ho50))
                  have n0_ := aS (Kd.R_lower (Kd.R_newB ho50 (g := gb173) (o := .cells #[.string a1_0, .string a1_1, .int .i64 a1_2, .string a1_3, .bool a1_4] 29 (0, 0)) (bkl BK173.out)) (below_size bel))
                  have n1_ := aS (blk_below (g := gb173) (o := .cells #[.string a1_0, .string a1_1, .int .i64 a1_2, .string a1_3, .bool a1_4] 29 (0, 0)) (bkl BK173.out) hb)
                  have n2_ := bstep hb
                  clear BK173; clear HB
                  have HO207 := n0_
                  have BK173 := n1_
                  have HB := n2_
                  clear n0_ n1_ n2_; clear hb ho50
                  refine hK.out _ _ ⟨(blk_cell BK173.out 0).trans rfl, (blk_cell BK173.out 1).trans rfl, (blk_cell BK173.out 2).trans rfl, (blk_cell BK173.out 3).trans rfl, (blk_cell BK173.out 4).trans rfl⟩ (fun hHeld => ?_)
                  clear hK K
                  refine norm_ (a' := ?_) ?_ ?_
                  rotate_left
                  ·
                   show Act.put _ (some 42) _ = _
                   simp only [Act.put, lsa, lsz, lss, i64_w, i32_w]
                   rfl
                  refine two_ (i := 4) (j := 6) (Ni := some 46) (Nj := some 48) #[true, true, true, true, true, true, false, false, true, false, false] #[true, true, true, true, false, true, true, false, true, false, false] rfl rfl rfl rfl (two_of HT_.out (by kernel_rfl)) (by decide) (by decide) (fun K hK => ?_) (fun K hK => ?_)
                  ·
                   skip
                   refine Kd.R_append_rows_step k29 (w0 := w) w.heap.size (by rfl) (.tmp 42) (.tmp 45) 22 29 (.agg #[(.string ⟨#[]⟩), (.string ⟨#[]⟩), (.int .i64 0), (.string ⟨#[]⟩), (.bool false)]) 64 rfl Try.underlying22 info29 rfl (by decide) (by omega) v206 y205 y208 _ _ _ (fun k_ => k_ ≠ gb173) (fun _ => False) rfl rfl ?aO ?aR (fun _ _ h => h) (fun _ h => h.elim) ?aF ?aB ?aS ?aL ?_
                   (case aR => exact cel (Kd.C_below HR211.out HB.out))
                   (case aB => exact bel)
                   (case aF => exact (fun k_ hk => Kd.freshB (g := gb173) (o := .cells #[.string a1_0, .string a1_1, .int .i64 a1_2, .string a1_3, .bool a1_4] 29 (0, 0)) (bkl BK173.out) k_ hk))
                   (case aO => exact (rel (Kd.R_mono HO207.out (fun _ hk => hk.2))))
                   (case aS => exact (below_size bel))
                   (case aL => have := LMc44.out; omega)
                   intro v213 w51 ho hb hg hat
                   rw [← Ny212.out] at ho
                   have n0_ := aS (blk_grown (g := gb173) (o := .cells #[.string a1_0, .string a1_1, .int .i64 a1_2, .string a1_3, .bool a1_4] 29 (0, 0)) (bkl BK173.out) hg (Kd.R_away HO207.out (fun _ hk => hk.2)))
                   have n1_ := aS (hb)
                   have n2_ := aS (ho)
                   clear BK173; clear HB; clear HO207
                   have BK173 := n0_
                   have HB := n1_
                   have HO214 := n2_
                   clear n0_ n1_ n2_; clear ho hb hg hat
                   refine hK.out _ _ ⟨(blk_cell BK173.out 0).trans rfl, (blk_cell BK173.out 1).trans rfl, (blk_cell BK173.out 2).trans rfl, (blk_cell BK173.out 3).trans rfl, (blk_cell BK173.out 4).trans rfl⟩ (fun hHeld => ?_)
                   clear hK K
                   refine norm_ (a' := ?_) ?_ ?_
                   rotate_left
                   ·
                    show Act.put _ (some 46) _ = _
                    simp only [Act.put, lsa, lsz, lss, i64_w, i32_w]
                    rfl
                   refine one_ (i := 6) (N := some 48) #[true, true, true, true, true, true, true, false, true, false, false] rfl rfl (one_of HT_.out (by kernel_rfl)) (by decide) (fun K hK => ?_)
                   refine Kd.R_lit_step k29 _ 29 ?hg (N := 48) ?hd (xs := ([(⟨a1_0, a1_1, a1_2, a1_3, a1_4⟩ : S29)] : List (S29))) (inner := [.string a1_0, .string a1_1, .int .i64 a1_2, .string a1_3, .bool a1_4]) (ok := fun _ => True) (okp := fun _ => True) ?hr ?hp (fun _ hk => hk) trivial (Below.refl _ _) (Nat.le_refl _) (by simp) ?_; (case hd => rfl); (case hg => rfl); (case hr => first | (go_simp; done) | (go_simp; rfl)); (case hp => exact (Reps.c5 (show Kd.M k29 _ _ _ (⟨a1_0, a1_1, a1_2, a1_3, a1_4⟩ : S29) [.string a1_0, .string a1_1, .int .i64 a1_2, .string a1_3, .bool a1_4] from (k29_mkM _ _ _ (⟨a1_0, a1_1, a1_2, a1_3, a1_4⟩ : S29) )) (Reps.none _ _)))
                   intro v216 w52 ho53 hb hg_ hnew_
                   clear hg_ hnew_
                   (first | rw [← Ny215.out] at ho53 | (simp only [Int.reduceToNat] at ho53; rw [← Ny215.out] at ho53))
                   have n0_ := aS (Kd.R_elder' (rel HO214.out) (by first | exact Kd.R_base ho53 | exact Kd.S_base ho53 | exact Kd.R_base ho53 | exact Kd.V_base ho53) hb)
                   have n1_ := aS (Kd.R_lower (Kd.R_newB (Kd.R_new' ho53 (Kd.R_lt (rel HO214.out))) (g := gb173) (o := .cells #[.string a1_0, .string a1_1, .int .i64 a1_2, .string a1_3, .bool a1_4] 29 (0, 0)) (bkl BK173.out)) (below_size bel))
                   have n2_ := aS (blk_below (g := gb173) (o := .cells #[.string a1_0, .string a1_1, .int .i64 a1_2, .string a1_3, .bool a1_4] 29 (0, 0)) (bkl BK173.out) hb)
                   have n3_ := bstep hb
                   clear HO214; clear BK173; clear HB
                   have HO214 := n0_
                   have HO217 := n1_
                   have BK173 := n2_
                   have HB := n3_
                   clear n0_ n1_ n2_ n3_; clear hb ho53
                   refine hK.out _ _ ⟨(blk_cell BK173.out 0).trans rfl, (blk_cell BK173.out 1).trans rfl, (blk_cell BK173.out 2).trans rfl, (blk_cell BK173.out 3).trans rfl, (blk_cell BK173.out 4).trans rfl⟩ (fun hHeld => ?_)
                   clear hK K
                   refine norm_ (a' := ?_) ?_ ?_
                   rotate_left
                   ·
                    show Act.put _ (some 48) _ = _
                    simp only [Act.put, lsa, lsz, lss, i64_w, i32_w]
                    rfl
                   exact norm_ (by simp only [putAll, Act.put, lsa, lsz, lss]) (hCont (v206, v213, v216) _ ⟨hHeld, (by (with_reducible repeat (first | apply Kd.R_alloc | apply Kd.R_drewN | apply Kd.R_drew)); exact Kd.R_mono HO214.out (fun _ hk => ⟨hk.2, hk.1⟩)), (by (with_reducible repeat (first | apply Kd.R_alloc | apply Kd.R_drewN | apply Kd.R_drew)); exact Kd.R_mono HO217.out (fun _ hk => ⟨hk.1.2, hk.2⟩)), (bkl BK173.out), bel⟩)
                  ·
                   skip
                   refine Kd.R_lit_step k29 _ 29 ?hg (N := 48) ?hd (xs := ([(⟨a1_0, a1_1, a1_2, a1_3, a1_4⟩ : S29)] : List (S29))) (inner := [.string a1_0, .string a1_1, .int .i64 a1_2, .string a1_3, .bool a1_4]) (ok := fun _ => True) (okp := fun _ => True) ?hr ?hp (fun _ hk => hk) trivial (Below.refl _ _) (Nat.le_refl _) (by simp) ?_; (case hd => rfl); (case hg => rfl); (case hr => first | (go_simp; done) | (go_simp; rfl)); (case hp => exact (Reps.c5 (show Kd.M k29 _ _ _ (⟨a1_0, a1_1, a1_2, a1_3, a1_4⟩ : S29) [.string a1_0, .string a1_1, .int .i64 a1_2, .string a1_3, .bool a1_4] from (k29_mkM _ _ _ (⟨a1_0, a1_1, a1_2, a1_3, a1_4⟩ : S29) )) (Reps.none _ _)))
                   intro v216 w51 ho52 hb hg_ hnew_
                   clear hg_ hnew_
                   (first | rw [← Ny215.out] at ho52 | (simp only [Int.reduceToNat] at ho52; rw [← Ny215.out] at ho52))
                   have n0_ := aS (Kd.R_elder' (rel HO207.out) (by first | exact Kd.R_base ho52 | exact Kd.S_base ho52 | exact Kd.R_base ho52 | exact Kd.V_base ho52) hb)
                   have n1_ := aS (Kd.R_lower (Kd.R_newB (Kd.R_new' ho52 (Kd.R_lt (rel HO207.out))) (g := gb173) (o := .cells #[.string a1_0, .string a1_1, .int .i64 a1_2, .string a1_3, .bool a1_4] 29 (0, 0)) (bkl BK173.out)) (below_size bel))
                   have n2_ := aS (blk_below (g := gb173) (o := .cells #[.string a1_0, .string a1_1, .int .i64 a1_2, .string a1_3, .bool a1_4] 29 (0, 0)) (bkl BK173.out) hb)
                   have n3_ := bstep hb
                   clear HO207; clear BK173; clear HB
                   have HO207 := n0_
                   have HO217 := n1_
                   have BK173 := n2_
                   have HB := n3_
                   clear n0_ n1_ n2_ n3_; clear hb ho52
                   refine hK.out _ _ ⟨(blk_cell BK173.out 0).trans rfl, (blk_cell BK173.out 1).trans rfl, (blk_cell BK173.out 2).trans rfl, (blk_cell BK173.out 3).trans rfl, (blk_cell BK173.out 4).trans rfl⟩ (fun hHeld => ?_)
                   clear hK K
                   refine norm_ (a' := ?_) ?_ ?_
                   rotate_left
                   ·
                    show Act.put _ (some 48) _ = _
                    simp only [Act.put, lsa, lsz, lss, i64_w, i32_w]
                    rfl
                   refine one_ (i := 4) (N := some 46) #[true, true, true, true, true, true, true, false, true, false, false] rfl rfl (one_of HT_.out (by kernel_rfl)) (by decide) (fun K hK => ?_)
                   refine Kd.R_append_rows_step k29 (w0 := w) w.heap.size (by rfl) (.tmp 42) (.tmp 45) 22 29 (.agg #[(.string ⟨#[]⟩), (.string ⟨#[]⟩), (.int .i64 0), (.string ⟨#[]⟩), (.bool false)]) 64 rfl Try.underlying22 info29 rfl (by decide) (by omega) v206 y205 y208 _ _ _ (fun k_ => some k_ ≠ (v216 : Value).ownBlock ∧ k_ ≠ gb173) (fun _ => False) rfl rfl ?aO ?aR (fun _ _ h => h) (fun _ h => h.elim) ?aF ?aB ?aS ?aL ?_
                   (case aR => exact cel (Kd.C_below HR211.out HB.out))
                   (case aB => exact bel)
                   (case aF => exact (fun k_ hk => ⟨Kd.fresh' (Kd.R_lt (rel HO217.out)) k_ hk, Kd.freshB (g := gb173) (o := .cells #[.string a1_0, .string a1_1, .int .i64 a1_2, .string a1_3, .bool a1_4] 29 (0, 0)) (bkl BK173.out) k_ hk⟩))
                   (case aO => exact (by (with_reducible repeat (first | apply Kd.R_alloc | apply Kd.R_drewN | apply Kd.R_drew)); exact Kd.R_mono HO207.out (fun _ hk => ⟨hk.2, hk.1.2⟩)))
                   (case aS => exact (below_size bel))
                   (case aL => have := LMc44.out; omega)
                   intro v213 w53 ho hb hg hat
                   rw [← Ny212.out] at ho
                   have n0_ := aS (blk_grown (g := gb173) (o := .cells #[.string a1_0, .string a1_1, .int .i64 a1_2, .string a1_3, .bool a1_4] 29 (0, 0)) (bkl BK173.out) hg (Kd.R_away HO207.out (fun _ hk => hk.1.2)))
                   have n1_ := aS (Kd.R_after (ok := (fun k_ => k_ ≠ gb173)) (by (with_reducible repeat (first | apply Kd.R_alloc | apply Kd.R_drewN | apply Kd.R_drew)); exact Kd.R_mono HO217.out (fun _ hk => ⟨hk.2, hk.1.2⟩)) hg hat)
                   have n2_ := aS (hb)
                   have n3_ := aS (ho)
                   clear BK173; clear HO217; clear HB; clear HO207
                   have BK173 := n0_
                   have HO217 := n1_
                   have HB := n2_
                   have HO214 := n3_
                   clear n0_ n1_ n2_ n3_; clear ho hb hg hat
                   refine hK.out _ _ ⟨(blk_cell BK173.out 0).trans rfl, (blk_cell BK173.out 1).trans rfl, (blk_cell BK173.out 2).trans rfl, (blk_cell BK173.out 3).trans rfl, (blk_cell BK173.out 4).trans rfl⟩ (fun hHeld => ?_)
                   clear hK K
                   refine norm_ (a' := ?_) ?_ ?_
                   rotate_left
                   ·
                    show Act.put _ (some 46) _ = _
                    simp only [Act.put, lsa, lsz, lss, i64_w, i32_w]
                    rfl
                   exact norm_ (by simp only [putAll, Act.put, lsa, lsz, lss]) (hCont (v206, v213, v216) _ ⟨hHeld, (rel HO214.out), (by (with_reducible repeat (first | apply Kd.R_alloc | apply Kd.R_drewN | apply Kd.R_drew)); exact Kd.R_mono HO217.out (fun _ hk => ⟨hk.2, hk.1⟩)), (bkl BK173.out), bel⟩)
                 ·
                  skip
                  refine Kd.R_lit_step k29 _ 29 ?hg (N := 48) ?hd (xs := ([(⟨a1_0, a1_1, a1_2, a1_3, a1_4⟩ : S29)] : List (S29))) (inner := [.string a1_0, .string a1_1, .int .i64 a1_2, .string a1_3, .bool a1_4]) (ok := fun _ => True) (okp := fun _ => True) ?hr ?hp (fun _ hk => hk) trivial (Below.refl _ _) (Nat.le_refl _) (by simp) ?_; (case hd => rfl); (case hg => rfl); (case hr => first | (go_simp; done) | (go_simp; rfl)); (case hp => exact (Reps.c5 (show Kd.M k29 _ _ _ (⟨a1_0, a1_1, a1_2, a1_3, a1_4⟩ : S29) [.string a1_0, .string a1_1, .int .i64 a1_2, .string a1_3, .bool a1_4] from (k29_mkM _ _ _ (⟨a1_0, a1_1, a1_2, a1_3, a1_4⟩ : S29) )) (Reps.none _ _)))
                  intro v216 w49 ho50 hb hg_ hnew_
                  clear hg_ hnew_
                  (first | rw [← Ny215.out] at ho50 | (simp only [Int.reduceToNat] at ho50; rw [← Ny215.out] at ho50))
                  have n0_ := aS (Kd.R_lower (Kd.R_newB ho50 (g := gb173) (o := .cells #[.string a1_0, .string a1_1, .int .i64 a1_2, .string a1_3, .bool a1_4] 29 (0, 0)) (bkl BK173.out)) (below_size bel))
                  have n1_ := aS (blk_below (g := gb173) (o := .cells #[.string a1_0, .string a1_1, .int .i64 a1_2, .string a1_3, .bool a1_4] 29 (0, 0)) (bkl BK173.out) hb)
                  have n2_ := bstep hb
                  clear BK173; clear HB
                  have HO217 := n0_
                  have BK173 := n1_
                  have HB := n2_
                  clear n0_ n1_ n2_; clear hb ho50
                  refine hK.out _ _ ⟨(blk_cell BK173.out 0).trans rfl, (blk_cell BK173.out 1).trans rfl, (blk_cell BK173.out 2).trans rfl, (blk_cell BK173.out 3).trans rfl, (blk_cell BK173.out 4).trans rfl⟩ (fun hHeld => ?_)
                  clear hK K
                  refine norm_ (a' := ?_) ?_ ?_
                  rotate_left
                  ·
                   show Act.put _ (some 48) _ = _
                   simp only [Act.put, lsa, lsz, lss, i64_w, i32_w]
                   rfl
                  refine one_ (i := 0) (N := some 42) #[true, true, true, true, false, true, true, false, true, false, false] rfl rfl (one_of HT_.out (by kernel_rfl)) (by decide) (fun K hK => ?_)
                  refine Kd.R_lit_step k29 _ 29 ?hg (N := 42) ?hd (xs := ([] : List (S29))) (inner := []) (ok := fun _ => True) (okp := fun _ => True) ?hr ?hp (fun _ hk => hk) trivial (Below.refl _ _) (Nat.le_refl _) (by simp) ?_; (case hd => rfl); (case hg => rfl); (case hr => first | (go_simp; done) | (go_simp; rfl)); (case hp => exact (Reps.none _ _))
                  intro v206 w51 ho52 hb hg_ hnew_
                  clear hg_ hnew_
                  (first | rw [← Ny205.out] at ho52 | (simp only [Int.reduceToNat] at ho52; rw [← Ny205.out] at ho52))
                  have n0_ := aS (Kd.R_elder' (rel HO217.out) (by first | exact Kd.R_base ho52 | exact Kd.S_base ho52 | exact Kd.R_base ho52 | exact Kd.V_base ho52) hb)
                  have n1_ := aS (Kd.R_lower (Kd.R_newB (Kd.R_new' ho52 (Kd.R_lt (rel HO217.out))) (g := gb173) (o := .cells #[.string a1_0, .string a1_1, .int .i64 a1_2, .string a1_3, .bool a1_4] 29 (0, 0)) (bkl BK173.out)) (below_size bel))
                  have n2_ := aS (blk_below (g := gb173) (o := .cells #[.string a1_0, .string a1_1, .int .i64 a1_2, .string a1_3, .bool a1_4] 29 (0, 0)) (bkl BK173.out) hb)
                  have n3_ := bstep hb
                  clear HO217; clear BK173; clear HB
                  have HO217 := n0_
                  have HO207 := n1_
                  have BK173 := n2_
                  have HB := n3_
                  clear n0_ n1_ n2_ n3_; clear hb ho52
                  refine hK.out _ _ ⟨(blk_cell BK173.out 0).trans rfl, (blk_cell BK173.out 1).trans rfl, (blk_cell BK173.out 2).trans rfl, (blk_cell BK173.out 3).trans rfl, (blk_cell BK173.out 4).trans rfl⟩ (fun hHeld => ?_)
                  clear hK K
                  refine norm_ (a' := ?_) ?_ ?_
                  rotate_left
                  ·
                   show Act.put _ (some 42) _ = _
                   simp only [Act.put, lsa, lsz, lss, i64_w, i32_w]
                   rfl
                  refine one_ (i := 4) (N := some 46) #[true, true, true, true, true, true, true, false, true, false, false] rfl rfl (one_of HT_.out (by kernel_rfl)) (by decide) (fun K hK => ?_)
                  refine Kd.R_append_rows_step k29 (w0 := w) w.heap.size (by rfl) (.tmp 42) (.tmp 45) 22 29 (.agg #[(.string ⟨#[]⟩), (.string ⟨#[]⟩), (.int .i64 0), (.string ⟨#[]⟩), (.bool false)]) 64 rfl Try.underlying22 info29 rfl (by decide) (by omega) v206 y205 y208 _ _ _ (fun k_ => some k_ ≠ (v216 : Value).ownBlock ∧ k_ ≠ gb173) (fun _ => False) rfl rfl ?aO ?aR (fun _ _ h => h) (fun _ h => h.elim) ?aF ?aB ?aS ?aL ?_
                  (case aR => exact cel (Kd.C_below HR211.out HB.out))
                  (case aB => exact bel)
                  (case aF => exact (fun k_ hk => ⟨Kd.fresh' (Kd.R_lt (rel HO217.out)) k_ hk, Kd.freshB (g := gb173) (o := .cells #[.string a1_0, .string a1_1, .int .i64 a1_2, .string a1_3, .bool a1_4] 29 (0, 0)) (bkl BK173.out) k_ hk⟩))
                  (case aO => exact (by (with_reducible repeat (first | apply Kd.R_alloc | apply Kd.R_drewN | apply Kd.R_drew)); exact Kd.R_mono HO207.out (fun _ hk => ⟨hk.1.2, hk.2⟩)))
                  (case aS => exact (below_size bel))
                  (case aL => have := LMc44.out; omega)
                  intro v213 w53 ho hb hg hat
                  rw [← Ny212.out] at ho
                  have n0_ := aS (blk_grown (g := gb173) (o := .cells #[.string a1_0, .string a1_1, .int .i64 a1_2, .string a1_3, .bool a1_4] 29 (0, 0)) (bkl BK173.out) hg (Kd.R_away HO207.out (fun _ hk => hk.2)))
                  have n1_ := aS (Kd.R_after (ok := (fun k_ => k_ ≠ gb173)) (by (with_reducible repeat (first | apply Kd.R_alloc | apply Kd.R_drewN | apply Kd.R_drew)); exact Kd.R_mono HO217.out (fun _ hk => ⟨hk.1.2, hk.2⟩)) hg hat)
                  have n2_ := aS (hb)
                  have n3_ := aS (ho)
                  clear BK173; clear HO217; clear HB; clear HO207
                  have BK173 := n0_
                  have HO217 := n1_
                  have HB := n2_
                  have HO214 := n3_
                  clear n0_ n1_ n2_ n3_; clear ho hb hg hat
                  refine hK.out _ _ ⟨(blk_cell BK173.out 0).trans rfl, (blk_cell BK173.out 1).trans rfl, (blk_cell BK173.out 2).trans rfl, (blk_cell BK173.out 3).trans rfl, (blk_cell BK173.out 4).trans rfl⟩ (fun hHeld => ?_)
                  clear hK K
                  refine norm_ (a' := ?_) ?_ ?_
                  rotate_left
                  ·
                   show Act.put _ (some 46) _ = _
                   simp only [Act.put, lsa, lsz, lss, i64_w, i32_w]
                   rfl
                  exact norm_ (by simp only [putAll, Act.put, lsa, lsz, lss]) (hCont (v206, v213, v216) _ ⟨hHeld, (rel HO214.out), (by (with_reducible repeat (first | apply Kd.R_alloc | apply Kd.R_drewN | apply Kd.R_drew)); exact Kd.R_mono HO217.out (fun _ hk => ⟨hk.2, hk.1⟩)), (bkl BK173.out), bel⟩)
                rintro ⟨v206, v213, v216⟩ w54 ⟨hS_, h0_, h1_, h2_, h3_⟩
                have n0_ : Aside0 (Kd.R k29 29 w54 w.heap.size (fun k_ => some k_ ≠ (v216 : Value).ownBlock ∧ k_ ≠ gb173) v213 y212) := ⟨h0_⟩
                have n1_ : Aside0 (Kd.R k29 29 w54 w.heap.size (fun k_ => some k_ ≠ (v213 : Value).ownBlock ∧ k_ ≠ gb173) v216 y215) := ⟨h1_⟩
                have n2_ : Aside0 (w54.heap[gb173]? = some (.cells #[.string a1_0, .string a1_1, .int .i64 a1_2, .string a1_3, .bool a1_4] 29 (0, 0))) := ⟨h2_⟩
                have n3_ : Aside0 (Below w.heap.size w w54) := ⟨h3_⟩
                clear BK173; clear HB; clear h0_ h1_ h2_ h3_
                have HO214 := n0_
                have HO217 := n1_
                have BK173 := n2_
                have HB := n3_
                clear n0_ n1_ n2_ n3_
                have hHeld : w54.cell? ⟨gb173, 0, none⟩ = some (.string a1_0) ∧ w54.cell? ⟨gb173, 1, none⟩ = some (.string a1_1) ∧ w54.cell? ⟨gb173, 2, none⟩ = some (.int .i64 a1_2) ∧ w54.cell? ⟨gb173, 3, none⟩ = some (.string a1_3) ∧ w54.cell? ⟨gb173, 4, none⟩ = some (.bool a1_4) := hS_
                obtain ⟨Ao56, co56, eo56⟩ := Kd.R_slice HO217.out
                (first | subst eo56 | (injection eo56 with f1_ f2_ f3_; have f4_ := f1_.symm; have f5_ := f3_.symm; clear f1_ f2_ f3_; subst f4_; subst f5_))
                refine norm_ (a' := ?_) ?_ ?_
                rotate_left
                ·
                 simp only [putAll, Act.put, lsa, lsz, lss]
                 rfl
                refine one_ (i := 7) (N := some 49) #[true, true, true, true, true, true, true, true, true, false, false] rfl rfl (one_of HT_.out (by kernel_rfl)) (by decide) (fun K hK => ?_)
                refine Kd.R_append_rows_step k29 (w0 := w) w.heap.size (by rfl) (.tmp 46) (.tmp 48) 22 29 (.agg #[(.string ⟨#[]⟩), (.string ⟨#[]⟩), (.int .i64 0), (.string ⟨#[]⟩), (.bool false)]) 64 rfl Try.underlying22 info29 rfl (by decide) (by omega) v213 y212 y215 _ _ _ (fun k_ => some k_ ≠ (.slice Ao56 y215.length co56 : Value).ownBlock ∧ k_ ≠ gb173) (fun _ => False) rfl rfl ?aO ?aR (fun _ _ h => h) (fun _ h => h.elim) ?aF ?aB ?aS ?aL ?_
                (case aR => exact cel ((Kd.R_reads' HO217.out).2.2))
                (case aB => exact bel)
                (case aF => exact (fun k_ hk => ⟨Kd.fresh' (Kd.R_lt (rel HO217.out)) k_ hk, Kd.freshB (g := gb173) (o := .cells #[.string a1_0, .string a1_1, .int .i64 a1_2, .string a1_3, .bool a1_4] 29 (0, 0)) (bkl BK173.out) k_ hk⟩))
                (case aO => exact (rel HO214.out))
                (case aS => exact (below_size bel))
                (case aL => have := LMc45.out; omega)
                intro v219 w55 ho hb hg hat
                rw [← Ny218.out] at ho
                have n0_ := aS (blk_grown (g := gb173) (o := .cells #[.string a1_0, .string a1_1, .int .i64 a1_2, .string a1_3, .bool a1_4] 29 (0, 0)) (bkl BK173.out) hg (Kd.R_away HO214.out (fun _ hk => hk.2)))
                have n1_ := aS (Kd.R_after (ok := (fun k_ => k_ ≠ gb173)) (by (with_reducible repeat (first | apply Kd.R_alloc | apply Kd.R_drewN | apply Kd.R_drew)); exact Kd.R_mono HO217.out (fun _ hk => ⟨hk.2, hk.1⟩)) hg hat)
                have n2_ := aS (hb)
                have n3_ := aS (ho)
                clear BK173; clear HO217; clear HB; clear HO214
                have BK173 := n0_
                have HO217 := n1_
                have HB := n2_
                have HO220 := n3_
                clear n0_ n1_ n2_ n3_; clear ho hb hg hat
                refine hK.out _ _ ⟨(blk_cell BK173.out 0).trans rfl, (blk_cell BK173.out 1).trans rfl, (blk_cell BK173.out 2).trans rfl, (blk_cell BK173.out 3).trans rfl, (blk_cell BK173.out 4).trans rfl⟩ (fun hHeld => ?_)
                clear hK K
                refine norm_ (a' := ?_) ?_ ?_
                rotate_left
                ·
                 show Act.put _ (some 49) _ = _
                 simp only [Act.put, lsa, lsz, lss, i64_w, i32_w]
                 rfl
                refine one_ (i := 9) (N := some 51) #[true, true, true, true, true, true, true, true, true, true, false] rfl rfl (one_of HT_.out (by kernel_rfl)) (by decide) (fun K hK => ?_)
                refine Kd.R_append_rows_step k29 (w0 := w) w.heap.size (by rfl) (.tmp 49) (.tmp 50) 22 29 (.agg #[(.string ⟨#[]⟩), (.string ⟨#[]⟩), (.int .i64 0), (.string ⟨#[]⟩), (.bool false)]) 64 rfl Try.underlying22 info29 rfl (by decide) (by omega) v219 y218 y176 _ _ _ (fun k_ => some k_ ≠ (.slice Ao56 y215.length co56 : Value).ownBlock ∧ k_ ≠ gb173) (fun _ => False) rfl rfl ?aO ?aR (fun _ _ h => h) (fun _ h => h.elim) ?aF ?aB ?aS ?aL ?_
                (case aR => exact cel (Kd.C_below HR179.out HB.out))
                (case aB => exact bel)
                (case aF => exact (fun k_ hk => ⟨Kd.fresh' (Kd.R_lt (rel HO217.out)) k_ hk, Kd.freshB (g := gb173) (o := .cells #[.string a1_0, .string a1_1, .int .i64 a1_2, .string a1_3, .bool a1_4] 29 (0, 0)) (bkl BK173.out) k_ hk⟩))
                (case aO => exact (rel HO220.out))
                (case aS => exact (below_size bel))
                (case aL => have := LMc46.out; omega)
                intro v222 w57 ho hb hg hat
                rw [← Ny221.out] at ho
                have n0_ := aS (blk_grown (g := gb173) (o := .cells #[.string a1_0, .string a1_1, .int .i64 a1_2, .string a1_3, .bool a1_4] 29 (0, 0)) (bkl BK173.out) hg (Kd.R_away HO220.out (fun _ hk => hk.2)))
                have n1_ := aS (Kd.R_after (ok := (fun k_ => k_ ≠ gb173)) (rel HO217.out) hg hat)
                have n2_ := aS (hb)
                have n3_ := aS (ho)
                clear BK173; clear HO217; clear HB; clear HO220
                have BK173 := n0_
                have HO217 := n1_
                have HB := n2_
                have HO223 := n3_
                clear n0_ n1_ n2_ n3_; clear ho hb hg hat
                refine hK.out _ _ ⟨(blk_cell BK173.out 0).trans rfl, (blk_cell BK173.out 1).trans rfl, (blk_cell BK173.out 2).trans rfl, (blk_cell BK173.out 3).trans rfl, (blk_cell BK173.out 4).trans rfl⟩ (fun hHeld => ?_)
                clear hK K
                refine norm_ (a' := ?_) ?_ ?_
                rotate_left
                ·
                 show Act.put _ (some 51) _ = _
                 simp only [Act.put, lsa, lsz, lss, i64_w, i32_w]
                 rfl
                refine pure_ (i := 10) (N := some 4) (v := ?_) (a' := ?_) #[true, true, true, true, true, true, true, true, true, true, true] rfl rfl (any_of HT_.out (by kernel_rfl)) (fun _ _ _ h => h) (Or.inl ⟨by rfl, ?_⟩) ?_ ?_
                rotate_left
                ·
                 intro w'
                 go_simp
                 with_reducible rfl
                rotate_left
                ·
                 simp only [Act.put, lsa, lsz, lss, i64_w, i32_w]
                 rfl
                refine done_ (done_of HT_.out (by kernel_rfl)) ?_
                try go_wp2
                go_ret
                exact ⟨_, rf3, by (with_reducible repeat (first | apply Kd.R_alloc | apply Kd.R_drewN | apply Kd.R_drew)); exact Kd.R_mono HO223.out (fun _ hk => trivial), bel⟩
               ·
                rw [if_neg c46] at H
                exact absurd H (by simp)
              ·
               rw [if_neg c45] at H
               exact absurd H (by simp)
             ·
              rw [if_neg c44] at H
              exact absurd H (by simp)
            ·
             rw [if_neg c43] at H
             exact absurd H (by simp)
           ·
            rw [if_neg c42] at H
            exact absurd H (by simp)
       ·
        rw [if_neg c13] at H
        exact absurd H (by simp)
      ·
       rw [if_neg c12] at H
       exact absurd H (by simp)

end Go.Proofs.Ytgcicgjfimfhpaa.X
