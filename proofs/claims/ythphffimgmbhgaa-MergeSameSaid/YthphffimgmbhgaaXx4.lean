-- written by a program of this session's, over the kit's print
import Derived.Test.YthphffimgmbhgaaXx0
import Derived.Test.YthphffimgmbhgaaXx3
namespace Go.Proofs.Ythphffimgmbhgaa.X
open Go.RowKit Go.Proofs.YthphffimgmbhgaaW.PrintWords Go.Proofs.YthphffimgmbhgaaW.PrintLast Go.Proofs.YthphffimgmbhgaaW.PrintMore
attribute [local go_sem] max2_int min2_int max_two min_two max_three min_three max_four min_four gtr_str   -- for this text's walks alone
set_option linter.unusedVariables false
set_option linter.unusedSimpArgs false

/-! ### merge_Clean: function 18 -/
mutual
def merge_Clean.l0 : Nat → List (S35) → Int → List (S35) → List (S35) → Int → Int → Option ((List (S35)))
 | 0, _, _, _, _, _, _ => none
 | k + 1, x0, x1, x5, x9, x10, x11 => if x11 < x10 then (if 0 ≤ x11 then (if x11 < (x9.length : Int) then (if x11 = 0 then (merge_Clean.j1 k x0 x1 x5 true x9 x10 x11 ((rd_T35 x9 x11).f0) ((rd_T35 x9 x11).f1) ((rd_T35 x9 x11).f2) ((rd_T35 x9 x11).f3) ((rd_T35 x9 x11).f4)) else (if 0 ≤ (wrap64 (x11 - 1)) then (if (wrap64 (x11 - 1)) < (x0.length : Int) then ((merge_same.f ((rd_T35 x0 (wrap64 (x11 - 1))).f0) ((rd_T35 x0 (wrap64 (x11 - 1))).f1) ((rd_T35 x0 (wrap64 (x11 - 1))).f2) ((rd_T35 x0 (wrap64 (x11 - 1))).f3) ((rd_T35 x0 (wrap64 (x11 - 1))).f4) ((rd_T35 x9 x11).f0) ((rd_T35 x9 x11).f1) ((rd_T35 x9 x11).f2) ((rd_T35 x9 x11).f3) ((rd_T35 x9 x11).f4)).bind fun t132 => (if t132 = true then (merge_Clean.j1 k x0 x1 x5 (decide (((rd_T35 x0 (wrap64 (x11 - 1))).f2) > x1)) x9 x10 x11 ((rd_T35 x9 x11).f0) ((rd_T35 x9 x11).f1) ((rd_T35 x9 x11).f2) ((rd_T35 x9 x11).f3) ((rd_T35 x9 x11).f4)) else (merge_Clean.j1 k x0 x1 x5 true x9 x10 x11 ((rd_T35 x9 x11).f0) ((rd_T35 x9 x11).f1) ((rd_T35 x9 x11).f2) ((rd_T35 x9 x11).f3) ((rd_T35 x9 x11).f4)))) else (none)) else (none))) else (none)) else (none)) else (some x5)
def merge_Clean.j1 : Nat → List (S35) → Int → List (S35) → Bool → List (S35) → Int → Int → ByteArray → ByteArray → Int → ByteArray → Bool → Option ((List (S35)))
 | 0, _, _, _, _, _, _, _, _, _, _, _, _ => none
 | k + 1, x0, x1, x5, x8, x9, x10, x11, x131000, x131001, x131002, x131003, x131004 => if x131002 > x1 then (merge_Clean.j2 k x0 x1 x5 x9 x10 x11 true x131000 x131001 x131002 x131003 x131004) else (if x8 = true then (merge_Clean.j2 k x0 x1 x5 x9 x10 x11 (!x131004) x131000 x131001 x131002 x131003 x131004) else (merge_Clean.j2 k x0 x1 x5 x9 x10 x11 false x131000 x131001 x131002 x131003 x131004))
def merge_Clean.j2 : Nat → List (S35) → Int → List (S35) → List (S35) → Int → Int → Bool → ByteArray → ByteArray → Int → ByteArray → Bool → Option ((List (S35)))
 | 0, _, _, _, _, _, _, _, _, _, _, _, _ => none
 | k + 1, x0, x1, x5, x9, x10, x11, x49, x131000, x131001, x131002, x131003, x131004 => if x49 = true then (if x5.length < 2199023255552 then (merge_Clean.l0 k x0 x1 (x5 ++ [(⟨x131000, x131001, x131002, x131003, x131004⟩ : S35)]) x9 x10 (wrap64 (x11 + 1))) else (none)) else (merge_Clean.l0 k x0 x1 x5 x9 x10 (wrap64 (x11 + 1)))
end
def merge_Clean.f (k : Nat) (l0 : List (S35)) (a1 : Int) : Option ((List (S35))) := merge_Clean.l0 k l0 a1 ([] : List (S35)) l0 (l0.length : Int) 0
theorem merge_Clean.mono_l : ∀ k, (∀ y0 y1 y2 y3 y4 y5, LeO (merge_Clean.l0 k y0 y1 y2 y3 y4 y5) (merge_Clean.l0 (k + 1) y0 y1 y2 y3 y4 y5)) ∧ (∀ y0 y1 y2 y3 y4 y5 y6 y7 y8 y9 y10 y11, LeO (merge_Clean.j1 k y0 y1 y2 y3 y4 y5 y6 y7 y8 y9 y10 y11) (merge_Clean.j1 (k + 1) y0 y1 y2 y3 y4 y5 y6 y7 y8 y9 y10 y11)) ∧ (∀ y0 y1 y2 y3 y4 y5 y6 y7 y8 y9 y10 y11, LeO (merge_Clean.j2 k y0 y1 y2 y3 y4 y5 y6 y7 y8 y9 y10 y11) (merge_Clean.j2 (k + 1) y0 y1 y2 y3 y4 y5 y6 y7 y8 y9 y10 y11))
 | 0 => ⟨fun _ _ _ _ _ _ r h => by simp [merge_Clean.l0] at h, fun _ _ _ _ _ _ _ _ _ _ _ _ r h => by simp [merge_Clean.j1] at h, fun _ _ _ _ _ _ _ _ _ _ _ _ r h => by simp [merge_Clean.j2] at h⟩
 | k + 1 => by
  obtain ⟨ih0, ih1, ih2⟩ := merge_Clean.mono_l k
  refine ⟨?_, ?_, ?_⟩
  ·
   intro y0 y1 y2 y3 y4 y5
   unfold merge_Clean.l0
   repeat' first
   | (with_reducible exact ih0 _ _ _ _ _ _)
   | (with_reducible exact ih1 _ _ _ _ _ _ _ _ _ _ _ _)
   | (with_reducible exact ih2 _ _ _ _ _ _ _ _ _ _ _ _)
   | (with_reducible exact LeO.refl _)
   | (with_reducible exact LeO.none _)
   | (with_reducible refine LeO.ite ?_ ?_)
   | (with_reducible refine LeO.bind ?_ (fun _ => ?_))
   | exact ih0 _ _ _ _ _ _
   | exact ih1 _ _ _ _ _ _ _ _ _ _ _ _
   | exact ih2 _ _ _ _ _ _ _ _ _ _ _ _
   | exact LeO.none _
   | refine LeO.ite ?_ ?_
   | refine LeO.bind ?_ (fun _ => ?_)
  ·
   intro y0 y1 y2 y3 y4 y5 y6 y7 y8 y9 y10 y11
   unfold merge_Clean.j1
   repeat' first
   | (with_reducible exact ih0 _ _ _ _ _ _)
   | (with_reducible exact ih1 _ _ _ _ _ _ _ _ _ _ _ _)
   | (with_reducible exact ih2 _ _ _ _ _ _ _ _ _ _ _ _)
   | (with_reducible exact LeO.refl _)
   | (with_reducible exact LeO.none _)
   | (with_reducible refine LeO.ite ?_ ?_)
   | (with_reducible refine LeO.bind ?_ (fun _ => ?_))
   | exact ih0 _ _ _ _ _ _
   | exact ih1 _ _ _ _ _ _ _ _ _ _ _ _
   | exact ih2 _ _ _ _ _ _ _ _ _ _ _ _
   | exact LeO.none _
   | refine LeO.ite ?_ ?_
   | refine LeO.bind ?_ (fun _ => ?_)
  ·
   intro y0 y1 y2 y3 y4 y5 y6 y7 y8 y9 y10 y11
   unfold merge_Clean.j2
   repeat' first
   | (with_reducible exact ih0 _ _ _ _ _ _)
   | (with_reducible exact ih1 _ _ _ _ _ _ _ _ _ _ _ _)
   | (with_reducible exact ih2 _ _ _ _ _ _ _ _ _ _ _ _)
   | (with_reducible exact LeO.refl _)
   | (with_reducible exact LeO.none _)
   | (with_reducible refine LeO.ite ?_ ?_)
   | (with_reducible refine LeO.bind ?_ (fun _ => ?_))
   | exact ih0 _ _ _ _ _ _
   | exact ih1 _ _ _ _ _ _ _ _ _ _ _ _
   | exact ih2 _ _ _ _ _ _ _ _ _ _ _ _
   | exact LeO.none _
   | refine LeO.ite ?_ ?_
   | refine LeO.bind ?_ (fun _ => ?_)
theorem merge_Clean.mono : ∀ a0 a1 k, LeO (merge_Clean.f k a0 a1) (merge_Clean.f (k + 1) a0 a1) := by
 intro a0 a1 k
 obtain ⟨ih0, ih1, ih2⟩ := merge_Clean.mono_l k
 unfold merge_Clean.f
 repeat' first
   | (with_reducible exact ih0 _ _ _ _ _ _)
   | (with_reducible exact ih1 _ _ _ _ _ _ _ _ _ _ _ _)
   | (with_reducible exact ih2 _ _ _ _ _ _ _ _ _ _ _ _)
   | (with_reducible exact LeO.refl _)
   | (with_reducible exact LeO.none _)
   | (with_reducible refine LeO.ite ?_ ?_)
   | (with_reducible refine LeO.bind ?_ (fun _ => ?_))
   | exact ih0 _ _ _ _ _ _
   | exact ih1 _ _ _ _ _ _ _ _ _ _ _ _
   | exact ih2 _ _ _ _ _ _ _ _ _ _ _ _
   | exact LeO.none _
   | refine LeO.ite ?_ ?_
   | refine LeO.bind ?_ (fun _ => ?_)
def merge_Clean.T5 : Bool × List (List Nat × List Nat) := (true, [([], []), ([0], [0]), ([1], [1]), ([2], [2]), ([2], [2]), ([4, 2], [2, 4]), ([3, 5, 2], [2, 3, 5]), ([6, 2], [2, 6]), ([2], [2]), ([7, 8, 2, 2], [2, 7, 8]), ([9, 2], [2, 9]), ([2, 10], [2, 10]), ([11, 9], [11]), ([12], [12]), ([12], [12]), ([14, 12], [12, 14]), ([13, 15, 12], [12, 13, 15]), ([16, 12], [12, 16]), ([17, 12], [12, 17]), ([12], [12]), ([18, 19, 12], [12, 18, 19]), ([12, 20], [12, 20]), ([21, 12, 0, 1, 2, 3, 4, 5, 6, 7, 8, 9, 10, 11, 12, 13, 14, 15, 16, 17, 18, 19, 20, 21], [21])])
def merge_Clean.B5 : List Nat := [0, 1, 3, 7, 7, 23, 63, 127, 7, 511, 1023, 2047, 4095, 8191, 8191, 24575, 65535, 131071, 262143, 8191, 1048575, 2097151, 4194303]
theorem merge_Clean.tab5 : rtab .any (opsOf Try.f18 5) = merge_Clean.T5 := by kernel_rfl
theorem merge_Clean.bits5 : waitsOk merge_Clean.T5.2 merge_Clean.B5 = true := by kernel_rfl
set_option maxHeartbeats 8000000 in
set_option maxRecDepth 100000 in
theorem merge_Clean.calls (k : Nat) (A0 : Option Addr) (c0 : Nat) (l0 : List (S35)) (a1 : Int) (r : List (S35)) (w : World) (hr0 : Kd.C k35 w A0 l0.length l0) (hc0 : l0.length ≤ c0) (h : merge_Clean.f k l0 a1 = some r) :
  Calls Try.prog 18 #[.slice A0 l0.length c0, .int .i64 a1] w fun e w' => ∃ v0_ : Value, e = .returned (v0_) ∧ Kd.R k35 35 w' w.heap.size (fun _ => True) v0_ r ∧ Below w.heap.size w w' := by
 have hu35 := Try.underlying35
 have HR0 := aS hr0
 have HC0 := aS hc0
 clear hr0 hc0
 have HB := aS (Below.refl w.heap.size w)
 have H : (merge_Clean.l0 k l0 a1 ([] : List (S35)) l0 (l0.length : Int) 0) = some r := h
 clear h
 have H' := aS H
 clear H
 go_enter Try.func18, Try.ntmps18
 go_wp2
 go_loopg [5, 11] k (fun kq v5 v11 w' => ∃ (x5_1 : List (S35)) (x11_1 : Int), v11 = .int .i64 x11_1 ∧ Aside0 (merge_Clean.l0 kq l0 a1 x5_1 l0 (l0.length : Int) x11_1 = some r) ∧ Aside0 (kq ≤ k) ∧ Aside0 (Kd.R k35 35 w' w.heap.size (fun _ => True) v5 x5_1) ∧ Aside0 (Below w.heap.size w w'))
 case atStart => exact ⟨(([] : List (S35))), (0), (by first | rfl | (simp; done) | (simp [*]; done) | (simp; exact (by decide : ∀ a_ b_ : Bool, (a_ == b_) = (!a_ != b_)) _ _)), H', ⟨Nat.le_refl _⟩, ⟨by first | exact Kd.R_nil _ _ _ _ _ | exact Kd.N_nil _ _ _ _ _ | exact Kd.V_nil _ _ _ _ _ | exact Kd.Q_nil _ _ _ _ _ | exact Kd.S_nil _ _ _ _ _⟩, ⟨by repeat (first | (with_reducible first | exact HB.out | apply bal | apply bdN | apply bdo) | exact HB.out)⟩⟩
 case round =>
  clear H'; (try clear c1); (try clear p2)
  obtain ⟨x5_1, x11_1, rfl, HA, HK1, HO_5, HB⟩ := hrel
  cases gk with
  | zero => exact absurd HA.out (by simp [merge_Clean.l0])
  | succ k1 =>
   have H := HA.out; clear HA
   simp only [merge_Clean.l0] at H
   by_cases c3 : x11_1 < (l0.length : Int)
   ·
    rw [if_pos c3] at H
    have c3b0 : decide (x11_1 < (l0.length : Int)) = true := decide_eq_true c3
    clear c3
    by_cases c4 : 0 ≤ x11_1
    ·
     rw [if_pos c4] at H
     have c4b0 : decide (0 ≤ x11_1) = true := decide_eq_true c4
     clear c4
     by_cases c5 : x11_1 < (l0.length : Int)
     ·
      rw [if_pos c5] at H
      have c5b0 : decide (x11_1 < (l0.length : Int)) = true := decide_eq_true c5
      clear c5
      have HC6 := aS H
      clear H
      have p129 : 0 ≤ (x11_1 : Int) := odt (by first | (with_reducible assumption) | assumption)
      have q129 : x11_1 < (l0.length : Int) := odt (by first | (with_reducible assumption) | assumption)
      obtain ⟨ad129, e129, hx129_0, hx129_1, hx129_2, hx129_3, hx129_4⟩ := at_T35 HR0.out x11_1 p129 q129
      cases e129
      replace hx129_0 := (HB.out.cell (wbl w _ hx129_0)).trans hx129_0
      replace hx129_1 := (HB.out.cell (wbl w _ hx129_1)).trans hx129_1
      replace hx129_2 := (HB.out.cell (wbl w _ hx129_2)).trans hx129_2
      replace hx129_3 := (HB.out.cell (wbl w _ hx129_3)).trans hx129_3
      replace hx129_4 := (HB.out.cell (wbl w _ hx129_4)).trans hx129_4
      replace p129 := eq_true p129
      replace q129 := eq_true q129
      go_upto_region 5 with (first | ((with_reducible refine gate_dst (N := 7) rfl ?_); refine box_event ?hg (N := 7) ?hd (cs := #[.string (⟨#[]⟩ : ByteArray), .string (⟨#[]⟩ : ByteArray), .int .i64 0, .string (⟨#[]⟩ : ByteArray), .bool false]) (t := 35) ?hr ?_; (case hd => rfl); (case hg => rfl); (case hr => first | (go_simp; done) | (go_simp; rfl)); intro gb130 hg w7 hbox hb; have n0_ := aS (Kd.R_below (Kd.R_elderB (by (with_reducible repeat (first | apply Kd.R_alloc | apply Kd.R_drewN | apply Kd.R_drew)); exact HO_5.out) gb130 (Nat.le_of_eq hg.symm)) hb); have n1_ := aS (below_step (by repeat (first | (with_reducible first | exact HB.out | apply bal | apply bdN | apply bdo) | exact HB.out)) hb); have n2_ := aS (hbox); have n3_ := aS ((by rw [hg]; exact (below_size (by repeat (first | (with_reducible first | exact HB.out | apply bal | apply bdN | apply bdo) | exact HB.out))) : w.heap.size ≤ gb130)); have n4_ := aS ((by rw [hg]; exact (below_size (by repeat (first | (with_reducible first | exact HB.out | apply bal | apply bdN | apply bdo) | exact HB.out))) : w.heap.size ≤ gb130)); clear HO_5; clear HB; have HO_5 := n0_; have HB := n1_; have BK130 := n2_; have GW130 := n3_; have GE130 := n4_; clear n0_ n1_ n2_ n3_ n4_; clear hb hbox hg; have hcz8_0 : w7.cell? ⟨gb130, 0, none⟩ = some (.string (⟨#[]⟩ : ByteArray)) := (blk_cell BK130.out 0).trans rfl; have hcz8_1 : w7.cell? ⟨gb130, 1, none⟩ = some (.string (⟨#[]⟩ : ByteArray)) := (blk_cell BK130.out 1).trans rfl; have hcz8_2 : w7.cell? ⟨gb130, 2, none⟩ = some (.int .i64 0) := (blk_cell BK130.out 2).trans rfl; have hcz8_3 : w7.cell? ⟨gb130, 3, none⟩ = some (.string (⟨#[]⟩ : ByteArray)) := (blk_cell BK130.out 3).trans rfl; have hcz8_4 : w7.cell? ⟨gb130, 4, none⟩ = some (.bool false) := (blk_cell BK130.out 4).trans rfl; have hfz8_0 := blk_frozen BK130.out 0; have hfz8_1 := blk_frozen BK130.out 1; have hfz8_2 := blk_frozen BK130.out 2; have hfz8_3 := blk_frozen BK130.out 3; have hfz8_4 := blk_frozen BK130.out 4))
      (try simp only [Act.put, lsa, lsz, lss])
      go_cut [8] (fun v8 wc => ∃ (kq : Nat) (x8_5 : Bool), v8 = .bool x8_5 ∧ Aside0 (merge_Clean.j1 kq l0 a1 x5_1 x8_5 l0 (l0.length : Int) x11_1 ((rd_T35 l0 x11_1).f0) ((rd_T35 l0 x11_1).f1) ((rd_T35 l0 x11_1).f2) ((rd_T35 l0 x11_1).f3) ((rd_T35 l0 x11_1).f4) = some r) ∧ Aside0 (kq ≤ k1) ∧ Aside0 (Kd.R k35 35 wc w.heap.size (fun k_ => k_ ≠ gb130) u5 x5_1) ∧ Aside0 (wc.heap[gb130]? = some (.cells #[.string ((rd_T35 l0 x11_1).f0), .string ((rd_T35 l0 x11_1).f1), .int .i64 ((rd_T35 l0 x11_1).f2), .string ((rd_T35 l0 x11_1).f3), .bool ((rd_T35 l0 x11_1).f4)] 35 (0, 0))) ∧ Aside0 (Below w.heap.size w wc))
      case first =>
       have H := HC6.out; clear HC6
       by_cases c9 : x11_1 = 0
       ·
        rw [if_pos c9] at H
        have c9b0 : (x11_1 == 0) = true := beq_iff_eq.mpr c9
        have c9b1 : (x11_1 != 0) = false := bne_eq_false_iff_eq.mpr c9
        clear c9
        (first | rw [c9b0] | (simp only [i64_w, i32_w]; rw [c9b0]) | skip)
        have H' := aS H
        clear H
        try go_wp2
        have n0_ : Aside0 (Kd.R k35 35 (((((w7.setCell ⟨gb130, 0, none⟩ (.string ((rd_T35 l0 x11_1).f0))).setCell ⟨gb130, 1, none⟩ (.string ((rd_T35 l0 x11_1).f1))).setCell ⟨gb130, 2, none⟩ (.int .i64 ((rd_T35 l0 x11_1).f2))).setCell ⟨gb130, 3, none⟩ (.string ((rd_T35 l0 x11_1).f3))).setCell ⟨gb130, 4, none⟩ (.bool ((rd_T35 l0 x11_1).f4))) w.heap.size (fun k_ => k_ ≠ gb130) u5 x5_1) := ⟨by (with_reducible repeat (first | apply Kd.R_alloc | apply Kd.R_drewN | apply Kd.R_drew)); exact Kd.R_mono (Kd.R_far (p := ⟨gb130, 4, none⟩) (Kd.R_far (p := ⟨gb130, 3, none⟩) (Kd.R_far (p := ⟨gb130, 2, none⟩) (Kd.R_far (p := ⟨gb130, 1, none⟩) (Kd.R_far (p := ⟨gb130, 0, none⟩) (Kd.R_mono HO_5.out (fun k_ hk => (⟨hk, hk.2⟩ : _ ∧ k_ ≠ gb130))) (fun _ hk => hk.2) (.string ((rd_T35 l0 x11_1).f0))) (fun _ hk => hk.2) (.string ((rd_T35 l0 x11_1).f1))) (fun _ hk => hk.2) (.int .i64 ((rd_T35 l0 x11_1).f2))) (fun _ hk => hk.2) (.string ((rd_T35 l0 x11_1).f3))) (fun _ hk => hk.2) (.bool ((rd_T35 l0 x11_1).f4))) (fun _ hk => hk.1.2)⟩
        have n1_ : Aside0 ((((((w7.setCell ⟨gb130, 0, none⟩ (.string ((rd_T35 l0 x11_1).f0))).setCell ⟨gb130, 1, none⟩ (.string ((rd_T35 l0 x11_1).f1))).setCell ⟨gb130, 2, none⟩ (.int .i64 ((rd_T35 l0 x11_1).f2))).setCell ⟨gb130, 3, none⟩ (.string ((rd_T35 l0 x11_1).f3))).setCell ⟨gb130, 4, none⟩ (.bool ((rd_T35 l0 x11_1).f4))).heap[gb130]? = some (.cells #[.string ((rd_T35 l0 x11_1).f0), .string ((rd_T35 l0 x11_1).f1), .int .i64 ((rd_T35 l0 x11_1).f2), .string ((rd_T35 l0 x11_1).f3), .bool ((rd_T35 l0 x11_1).f4)] 35 (0, 0))) := ⟨by (with_reducible repeat (first | refine blk_drewN ?_ _ | refine blk_drew ?_ | refine blk_alloc ?_ _)); refine blk_put (cs := #[.string ((rd_T35 l0 x11_1).f0), .string ((rd_T35 l0 x11_1).f1), .int .i64 ((rd_T35 l0 x11_1).f2), .string ((rd_T35 l0 x11_1).f3), .bool false]) ?_ 4 _ rfl; (with_reducible repeat (first | refine blk_drewN ?_ _ | refine blk_drew ?_ | refine blk_alloc ?_ _)); refine blk_put (cs := #[.string ((rd_T35 l0 x11_1).f0), .string ((rd_T35 l0 x11_1).f1), .int .i64 ((rd_T35 l0 x11_1).f2), .string (⟨#[]⟩ : ByteArray), .bool false]) ?_ 3 _ rfl; (with_reducible repeat (first | refine blk_drewN ?_ _ | refine blk_drew ?_ | refine blk_alloc ?_ _)); refine blk_put (cs := #[.string ((rd_T35 l0 x11_1).f0), .string ((rd_T35 l0 x11_1).f1), .int .i64 0, .string (⟨#[]⟩ : ByteArray), .bool false]) ?_ 2 _ rfl; (with_reducible repeat (first | refine blk_drewN ?_ _ | refine blk_drew ?_ | refine blk_alloc ?_ _)); refine blk_put (cs := #[.string ((rd_T35 l0 x11_1).f0), .string (⟨#[]⟩ : ByteArray), .int .i64 0, .string (⟨#[]⟩ : ByteArray), .bool false]) ?_ 1 _ rfl; (with_reducible repeat (first | refine blk_drewN ?_ _ | refine blk_drew ?_ | refine blk_alloc ?_ _)); refine blk_put (cs := #[.string (⟨#[]⟩ : ByteArray), .string (⟨#[]⟩ : ByteArray), .int .i64 0, .string (⟨#[]⟩ : ByteArray), .bool false]) ?_ 0 _ rfl; (with_reducible repeat (first | refine blk_drewN ?_ _ | refine blk_drew ?_ | refine blk_alloc ?_ _)); exact BK130.out⟩
        have n2_ : Aside0 (Below w.heap.size w (((((w7.setCell ⟨gb130, 0, none⟩ (.string ((rd_T35 l0 x11_1).f0))).setCell ⟨gb130, 1, none⟩ (.string ((rd_T35 l0 x11_1).f1))).setCell ⟨gb130, 2, none⟩ (.int .i64 ((rd_T35 l0 x11_1).f2))).setCell ⟨gb130, 3, none⟩ (.string ((rd_T35 l0 x11_1).f3))).setCell ⟨gb130, 4, none⟩ (.bool ((rd_T35 l0 x11_1).f4)))) := ⟨by repeat (first | (with_reducible first | exact HB.out | apply bal | apply bdN | apply bdo | refine below_set ?_ GE130.out) | exact HB.out)⟩
        (try clear HO_5); (try clear BK130); (try clear HB)
        generalize (((((w7.setCell ⟨gb130, 0, none⟩ (.string ((rd_T35 l0 x11_1).f0))).setCell ⟨gb130, 1, none⟩ (.string ((rd_T35 l0 x11_1).f1))).setCell ⟨gb130, 2, none⟩ (.int .i64 ((rd_T35 l0 x11_1).f2))).setCell ⟨gb130, 3, none⟩ (.string ((rd_T35 l0 x11_1).f3))).setCell ⟨gb130, 4, none⟩ (.bool ((rd_T35 l0 x11_1).f4))) = w10 at n0_ n1_ n2_ ⊢
        have HO_5 := n0_
        have BK130 := n1_
        have HB := n2_
        clear n0_ n1_ n2_
        have n0_ := aS (Kd.R_drew HO_5.out)
        have n1_ := aS (blk_drew BK130.out)
        have n2_ := aS (bdo HB.out)
        clear HO_5; clear BK130; clear HB
        have HO_5 := n0_
        have BK130 := n1_
        have HB := n2_
        clear n0_ n1_ n2_
        refine start_ (n := 23) (S := fun w' => True) (ds := []) #[false, false, false, false, false, false, false, false, false, false, false, false, false, false, false, false, false, false, false, false, false, false, false] (by kernel_rfl) rfl rfl trivial (fun hHeld => ?_); refine with_tabW merge_Clean.tab5 merge_Clean.bits5 (fun HT_ HW_ => ?_)
        generalize w10.drew = w11 at HO_5 BK130 HB hHeld ⊢
        refine pure_ (i := 0) (N := some 16) (v := ?_) (a' := ?_) #[true, false, false, false, false, false, false, false, false, false, false, false, false, false, false, false, false, false, false, false, false, false, false] rfl rfl (any_of HT_.out (by kernel_rfl)) (fun _ _ _ h => h) (Or.inl ⟨by rfl, ?_⟩) ?_ ?_
        rotate_left
        ·
         intro w'
         go_simp
         with_reducible rfl
        rotate_left
        ·
         simp only [Act.put, lsa, lsz, lss, i64_w, i32_w]
         rfl
        refine pure_ (i := 1) (N := some 17) (v := ?_) (a' := ?_) #[true, true, false, false, false, false, false, false, false, false, false, false, false, false, false, false, false, false, false, false, false, false, false] rfl rfl (any_of HT_.out (by kernel_rfl)) (fun _ _ _ h => h) (Or.inl ⟨by rfl, ?_⟩) ?_ ?_
        rotate_left
        ·
         intro w'
         go_simp
         with_reducible rfl
        rotate_left
        ·
         simp only [Act.put, lsa, lsz, lss, i64_w, i32_w]
         rfl
        refine pure_ (i := 2) (N := some 18) (v := ?_) (a' := ?_) #[true, true, true, false, false, false, false, false, false, false, false, false, false, false, false, false, false, false, false, false, false, false, false] rfl rfl (any_of HT_.out (by kernel_rfl)) (fun _ _ _ h => h) (Or.inl ⟨by rfl, ?_⟩) ?_ ?_
        rotate_left
        ·
         intro w'
         go_simp
         with_reducible rfl
        rotate_left
        ·
         simp only [Act.put, lsa, lsz, lss, i64_w, i32_w]
         rfl
        refine pure_ (i := 3) (N := some 19) (v := undef) (a' := ?_) #[true, true, true, true, false, false, false, false, false, false, false, false, false, false, false, false, false, false, false, false, false, false, false] rfl rfl (any_of HT_.out (by kernel_rfl)) (fun _ _ _ h => h) (Or.inr ⟨by rfl, rfl⟩) ?_ ?_
        rotate_left
        ·
         simp only [Act.put, lsa, lsz, lss, i64_w, i32_w]
         rfl
        refine pure_ (i := 4) (N := some 20) (v := undef) (a' := ?_) #[true, true, true, true, true, false, false, false, false, false, false, false, false, false, false, false, false, false, false, false, false, false, false] rfl rfl (any_of HT_.out (by kernel_rfl)) (fun _ _ _ h => h) (Or.inr ⟨by rfl, rfl⟩) ?_ ?_
        rotate_left
        ·
         simp only [Act.put, lsa, lsz, lss, i64_w, i32_w]
         rfl
        refine pure_ (i := 5) (N := some 21) (v := undef) (a' := ?_) #[true, true, true, true, true, true, false, false, false, false, false, false, false, false, false, false, false, false, false, false, false, false, false] rfl rfl (any_of HT_.out (by kernel_rfl)) (fun _ _ _ h => h) (Or.inr ⟨by rfl, rfl⟩) ?_ ?_
        rotate_left
        ·
         simp only [Act.put, lsa, lsz, lss, i64_w, i32_w]
         rfl
        refine pure_ (i := 6) (N := some 22) (v := undef) (a' := ?_) #[true, true, true, true, true, true, true, false, false, false, false, false, false, false, false, false, false, false, false, false, false, false, false] rfl rfl (any_of HT_.out (by kernel_rfl)) (fun _ _ _ h => h) (Or.inr ⟨by rfl, rfl⟩) ?_ ?_
        rotate_left
        ·
         simp only [Act.put, lsa, lsz, lss, i64_w, i32_w]
         rfl
        refine pure_ (i := 7) (N := some 23) (v := undef) (a' := ?_) #[true, true, true, true, true, true, true, true, false, false, false, false, false, false, false, false, false, false, false, false, false, false, false] rfl rfl (any_of HT_.out (by kernel_rfl)) (fun _ _ _ h => h) (Or.inr ⟨by rfl, rfl⟩) ?_ ?_
        rotate_left
        ·
         simp only [Act.put, lsa, lsz, lss, i64_w, i32_w]
         rfl
        refine pure_ (i := 8) (N := some 24) (v := undef) (a' := ?_) #[true, true, true, true, true, true, true, true, true, false, false, false, false, false, false, false, false, false, false, false, false, false, false] rfl rfl (any_of HT_.out (by kernel_rfl)) (fun _ _ _ h => h) (Or.inr ⟨by rfl, rfl⟩) ?_ ?_
        rotate_left
        ·
         simp only [Act.put, lsa, lsz, lss, i64_w, i32_w]
         rfl
        refine pure_ (i := 9) (N := some 25) (v := undef) (a' := ?_) #[true, true, true, true, true, true, true, true, true, true, false, false, false, false, false, false, false, false, false, false, false, false, false] rfl rfl (any_of HT_.out (by kernel_rfl)) (fun _ _ _ h => h) (Or.inr ⟨by rfl, rfl⟩) ?_ ?_
        rotate_left
        ·
         simp only [Act.put, lsa, lsz, lss, i64_w, i32_w]
         rfl
        refine pure_ (i := 10) (N := some 26) (v := undef) (a' := ?_) #[true, true, true, true, true, true, true, true, true, true, true, false, false, false, false, false, false, false, false, false, false, false, false] rfl rfl (any_of HT_.out (by kernel_rfl)) (fun _ _ _ h => h) (Or.inr ⟨by rfl, rfl⟩) ?_ ?_
        rotate_left
        ·
         simp only [Act.put, lsa, lsz, lss, i64_w, i32_w]
         rfl
        refine pure_ (i := 11) (N := some 27) (v := ?_) (a' := ?_) #[true, true, true, true, true, true, true, true, true, true, true, true, false, false, false, false, false, false, false, false, false, false, false] rfl rfl (any_of HT_.out (by kernel_rfl)) (fun _ _ _ h => h) (Or.inl ⟨by rfl, ?_⟩) ?_ ?_
        rotate_left
        ·
         intro w'
         go_simp
         with_reducible rfl
        rotate_left
        ·
         simp only [Act.put, lsa, lsz, lss, i64_w, i32_w]
         rfl
        refine pure_ (i := 12) (N := some 28) (v := ?_) (a' := ?_) #[true, true, true, true, true, true, true, true, true, true, true, true, true, false, false, false, false, false, false, false, false, false, false] rfl rfl (any_of HT_.out (by kernel_rfl)) (fun _ _ _ h => h) (Or.inl ⟨by rfl, ?_⟩) ?_ ?_
        rotate_left
        ·
         intro w'
         go_simp
         with_reducible rfl
        rotate_left
        ·
         simp only [Act.put, lsa, lsz, lss, i64_w, i32_w]
         rfl
        refine pure_ (i := 13) (N := some 29) (v := undef) (a' := ?_) #[true, true, true, true, true, true, true, true, true, true, true, true, true, true, false, false, false, false, false, false, false, false, false] rfl rfl (any_of HT_.out (by kernel_rfl)) (fun _ _ _ h => h) (Or.inr ⟨by rfl, rfl⟩) ?_ ?_
        rotate_left
        ·
         simp only [Act.put, lsa, lsz, lss, i64_w, i32_w]
         rfl
        refine pure_ (i := 14) (N := some 30) (v := undef) (a' := ?_) #[true, true, true, true, true, true, true, true, true, true, true, true, true, true, true, false, false, false, false, false, false, false, false] rfl rfl (any_of HT_.out (by kernel_rfl)) (fun _ _ _ h => h) (Or.inr ⟨by rfl, rfl⟩) ?_ ?_
        rotate_left
        ·
         simp only [Act.put, lsa, lsz, lss, i64_w, i32_w]
         rfl
        refine pure_ (i := 15) (N := some 31) (v := undef) (a' := ?_) #[true, true, true, true, true, true, true, true, true, true, true, true, true, true, true, true, false, false, false, false, false, false, false] rfl rfl (any_of HT_.out (by kernel_rfl)) (fun _ _ _ h => h) (Or.inr ⟨by rfl, rfl⟩) ?_ ?_
        rotate_left
        ·
         simp only [Act.put, lsa, lsz, lss, i64_w, i32_w]
         rfl
        refine pure_ (i := 16) (N := some 32) (v := undef) (a' := ?_) #[true, true, true, true, true, true, true, true, true, true, true, true, true, true, true, true, true, false, false, false, false, false, false] rfl rfl (any_of HT_.out (by kernel_rfl)) (fun _ _ _ h => h) (Or.inr ⟨by rfl, rfl⟩) ?_ ?_
        rotate_left
        ·
         simp only [Act.put, lsa, lsz, lss, i64_w, i32_w]
         rfl
        refine pure_ (i := 17) (N := some 33) (v := undef) (a' := ?_) #[true, true, true, true, true, true, true, true, true, true, true, true, true, true, true, true, true, true, false, false, false, false, false] rfl rfl (any_of HT_.out (by kernel_rfl)) (fun _ _ _ h => h) (Or.inr ⟨by rfl, rfl⟩) ?_ ?_
        rotate_left
        ·
         simp only [Act.put, lsa, lsz, lss, i64_w, i32_w]
         rfl
        refine pure_ (i := 18) (N := some 34) (v := undef) (a' := ?_) #[true, true, true, true, true, true, true, true, true, true, true, true, true, true, true, true, true, true, true, false, false, false, false] rfl rfl (any_of HT_.out (by kernel_rfl)) (fun _ _ _ h => h) (Or.inr ⟨by rfl, rfl⟩) ?_ ?_
        rotate_left
        ·
         simp only [Act.put, lsa, lsz, lss, i64_w, i32_w]
         rfl
        refine pure_ (i := 19) (N := some 35) (v := undef) (a' := ?_) #[true, true, true, true, true, true, true, true, true, true, true, true, true, true, true, true, true, true, true, true, false, false, false] rfl rfl (any_of HT_.out (by kernel_rfl)) (fun _ _ _ h => h) (Or.inr ⟨by rfl, rfl⟩) ?_ ?_
        rotate_left
        ·
         simp only [Act.put, lsa, lsz, lss, i64_w, i32_w]
         rfl
        refine pure_ (i := 20) (N := some 36) (v := undef) (a' := ?_) #[true, true, true, true, true, true, true, true, true, true, true, true, true, true, true, true, true, true, true, true, true, false, false] rfl rfl (any_of HT_.out (by kernel_rfl)) (fun _ _ _ h => h) (Or.inr ⟨by rfl, rfl⟩) ?_ ?_
        rotate_left
        ·
         simp only [Act.put, lsa, lsz, lss, i64_w, i32_w]
         rfl
        refine pure_ (i := 21) (N := some 37) (v := ?_) (a' := ?_) #[true, true, true, true, true, true, true, true, true, true, true, true, true, true, true, true, true, true, true, true, true, true, false] rfl rfl (any_of HT_.out (by kernel_rfl)) (fun _ _ _ h => h) (Or.inl ⟨by rfl, ?_⟩) ?_ ?_
        rotate_left
        ·
         intro w'
         go_simp
         with_reducible rfl
        rotate_left
        ·
         simp only [Act.put, lsa, lsz, lss, i64_w, i32_w]
         rfl
        refine pure_ (i := 22) (N := some 8) (v := ?_) (a' := ?_) #[true, true, true, true, true, true, true, true, true, true, true, true, true, true, true, true, true, true, true, true, true, true, true] rfl rfl (any_of HT_.out (by kernel_rfl)) (fun _ _ _ h => h) (Or.inl ⟨by rfl, ?_⟩) ?_ ?_
        rotate_left
        ·
         intro w'
         go_simp
         with_reducible rfl
        rotate_left
        ·
         simp only [Act.put, lsa, lsz, lss, i64_w, i32_w]
         rfl
        refine done_ (done_of HT_.out (by kernel_rfl)) ?_
        try go_wp2
        go_meet
        case rel => exact ⟨_, (true), (by first | rfl | (simp; done) | (simp [*]; done) | (simp; exact (by decide : ∀ a_ b_ : Bool, (a_ == b_) = (!a_ != b_)) _ _)), H', ⟨by have := HK1.out; first | omega | exact Nat.le_refl _⟩, ⟨by (with_reducible repeat (first | apply Kd.R_alloc | apply Kd.R_drewN | apply Kd.R_drew)); exact HO_5.out⟩, ⟨by (with_reducible repeat (first | refine blk_drewN ?_ _ | refine blk_drew ?_ | refine blk_alloc ?_ _)); exact BK130.out⟩, ⟨by repeat (first | (with_reducible first | exact HB.out | apply bal | apply bdN | apply bdo | refine below_set ?_ GE130.out) | exact HB.out)⟩⟩
       ·
        rw [if_neg c9] at H
        have c9b0 : (x11_1 == 0) = false := beq_eq_false_iff_ne.mpr c9
        have c9b1 : (x11_1 != 0) = true := bne_iff_ne.mpr c9
        (first | rw [c9b0] | (simp only [i64_w, i32_w]; rw [c9b0]) | skip)
        obtain ⟨ji12, hji12⟩ : ∃ j_ : Int, (wrap64 (x11_1 - 1)) = j_ := ⟨_, rfl⟩
        replace H : (if 0 ≤ (ji12) then (if (ji12) < (l0.length : Int) then ((merge_same.f ((rd_T35 l0 (ji12)).f0) ((rd_T35 l0 (ji12)).f1) ((rd_T35 l0 (ji12)).f2) ((rd_T35 l0 (ji12)).f3) ((rd_T35 l0 (ji12)).f4) ((rd_T35 l0 x11_1).f0) ((rd_T35 l0 x11_1).f1) ((rd_T35 l0 x11_1).f2) ((rd_T35 l0 x11_1).f3) ((rd_T35 l0 x11_1).f4)).bind fun t132 => (if t132 = true then (merge_Clean.j1 k1 l0 a1 x5_1 (decide (((rd_T35 l0 (ji12)).f2) > a1)) l0 (l0.length : Int) x11_1 ((rd_T35 l0 x11_1).f0) ((rd_T35 l0 x11_1).f1) ((rd_T35 l0 x11_1).f2) ((rd_T35 l0 x11_1).f3) ((rd_T35 l0 x11_1).f4)) else (merge_Clean.j1 k1 l0 a1 x5_1 true l0 (l0.length : Int) x11_1 ((rd_T35 l0 x11_1).f0) ((rd_T35 l0 x11_1).f1) ((rd_T35 l0 x11_1).f2) ((rd_T35 l0 x11_1).f3) ((rd_T35 l0 x11_1).f4)))) else (none)) else (none)) = some r := by first | (rw [hji12] at H; exact H) | (simp only [hji12] at H ⊢; exact H)
        have hji12w : (IntKind.i64.wrap (x11_1 - 1)) = ji12 := (i64_w _).trans hji12
        by_cases c13 : 0 ≤ (ji12)
        ·
         rw [if_pos c13] at H
         have c13b0 : decide (0 ≤ (ji12)) = true := decide_eq_true c13
         clear c13
         by_cases c14 : (ji12) < (l0.length : Int)
         ·
          rw [if_pos c14] at H
          have c14b0 : decide ((ji12) < (l0.length : Int)) = true := decide_eq_true c14
          clear c14
          replace H := obm H
          obtain ⟨t132, A150, H⟩ := H
          replace H : (if t132 = true then (merge_Clean.j1 k1 l0 a1 x5_1 (decide (((rd_T35 l0 (ji12)).f2) > a1)) l0 (l0.length : Int) x11_1 ((rd_T35 l0 x11_1).f0) ((rd_T35 l0 x11_1).f1) ((rd_T35 l0 x11_1).f2) ((rd_T35 l0 x11_1).f3) ((rd_T35 l0 x11_1).f4)) else (merge_Clean.j1 k1 l0 a1 x5_1 true l0 (l0.length : Int) x11_1 ((rd_T35 l0 x11_1).f0) ((rd_T35 l0 x11_1).f1) ((rd_T35 l0 x11_1).f2) ((rd_T35 l0 x11_1).f3) ((rd_T35 l0 x11_1).f4))) = some r := H
          have A15 := aS A150
          clear A150
          by_cases c16 : t132 = true
          ·
           subst c16
           have H1 : (merge_Clean.j1 k1 l0 a1 x5_1 (decide (((rd_T35 l0 (ji12)).f2) > a1)) l0 (l0.length : Int) x11_1 ((rd_T35 l0 x11_1).f0) ((rd_T35 l0 x11_1).f1) ((rd_T35 l0 x11_1).f2) ((rd_T35 l0 x11_1).f3) ((rd_T35 l0 x11_1).f4)) = some r := by rw [if_pos rfl] at H; exact H
           clear H; have H := H1; clear H1
           have H' := aS H
           clear H
           try go_wp2
           have n0_ : Aside0 (Kd.R k35 35 (((((w7.setCell ⟨gb130, 0, none⟩ (.string ((rd_T35 l0 x11_1).f0))).setCell ⟨gb130, 1, none⟩ (.string ((rd_T35 l0 x11_1).f1))).setCell ⟨gb130, 2, none⟩ (.int .i64 ((rd_T35 l0 x11_1).f2))).setCell ⟨gb130, 3, none⟩ (.string ((rd_T35 l0 x11_1).f3))).setCell ⟨gb130, 4, none⟩ (.bool ((rd_T35 l0 x11_1).f4))) w.heap.size (fun k_ => k_ ≠ gb130) u5 x5_1) := ⟨by (with_reducible repeat (first | apply Kd.R_alloc | apply Kd.R_drewN | apply Kd.R_drew)); exact Kd.R_mono (Kd.R_far (p := ⟨gb130, 4, none⟩) (Kd.R_far (p := ⟨gb130, 3, none⟩) (Kd.R_far (p := ⟨gb130, 2, none⟩) (Kd.R_far (p := ⟨gb130, 1, none⟩) (Kd.R_far (p := ⟨gb130, 0, none⟩) (Kd.R_mono HO_5.out (fun k_ hk => (⟨hk, hk.2⟩ : _ ∧ k_ ≠ gb130))) (fun _ hk => hk.2) (.string ((rd_T35 l0 x11_1).f0))) (fun _ hk => hk.2) (.string ((rd_T35 l0 x11_1).f1))) (fun _ hk => hk.2) (.int .i64 ((rd_T35 l0 x11_1).f2))) (fun _ hk => hk.2) (.string ((rd_T35 l0 x11_1).f3))) (fun _ hk => hk.2) (.bool ((rd_T35 l0 x11_1).f4))) (fun _ hk => hk.1.2)⟩
           have n1_ : Aside0 ((((((w7.setCell ⟨gb130, 0, none⟩ (.string ((rd_T35 l0 x11_1).f0))).setCell ⟨gb130, 1, none⟩ (.string ((rd_T35 l0 x11_1).f1))).setCell ⟨gb130, 2, none⟩ (.int .i64 ((rd_T35 l0 x11_1).f2))).setCell ⟨gb130, 3, none⟩ (.string ((rd_T35 l0 x11_1).f3))).setCell ⟨gb130, 4, none⟩ (.bool ((rd_T35 l0 x11_1).f4))).heap[gb130]? = some (.cells #[.string ((rd_T35 l0 x11_1).f0), .string ((rd_T35 l0 x11_1).f1), .int .i64 ((rd_T35 l0 x11_1).f2), .string ((rd_T35 l0 x11_1).f3), .bool ((rd_T35 l0 x11_1).f4)] 35 (0, 0))) := ⟨by (with_reducible repeat (first | refine blk_drewN ?_ _ | refine blk_drew ?_ | refine blk_alloc ?_ _)); refine blk_put (cs := #[.string ((rd_T35 l0 x11_1).f0), .string ((rd_T35 l0 x11_1).f1), .int .i64 ((rd_T35 l0 x11_1).f2), .string ((rd_T35 l0 x11_1).f3), .bool false]) ?_ 4 _ rfl; (with_reducible repeat (first | refine blk_drewN ?_ _ | refine blk_drew ?_ | refine blk_alloc ?_ _)); refine blk_put (cs := #[.string ((rd_T35 l0 x11_1).f0), .string ((rd_T35 l0 x11_1).f1), .int .i64 ((rd_T35 l0 x11_1).f2), .string (⟨#[]⟩ : ByteArray), .bool false]) ?_ 3 _ rfl; (with_reducible repeat (first | refine blk_drewN ?_ _ | refine blk_drew ?_ | refine blk_alloc ?_ _)); refine blk_put (cs := #[.string ((rd_T35 l0 x11_1).f0), .string ((rd_T35 l0 x11_1).f1), .int .i64 0, .string (⟨#[]⟩ : ByteArray), .bool false]) ?_ 2 _ rfl; (with_reducible repeat (first | refine blk_drewN ?_ _ | refine blk_drew ?_ | refine blk_alloc ?_ _)); refine blk_put (cs := #[.string ((rd_T35 l0 x11_1).f0), .string (⟨#[]⟩ : ByteArray), .int .i64 0, .string (⟨#[]⟩ : ByteArray), .bool false]) ?_ 1 _ rfl; (with_reducible repeat (first | refine blk_drewN ?_ _ | refine blk_drew ?_ | refine blk_alloc ?_ _)); refine blk_put (cs := #[.string (⟨#[]⟩ : ByteArray), .string (⟨#[]⟩ : ByteArray), .int .i64 0, .string (⟨#[]⟩ : ByteArray), .bool false]) ?_ 0 _ rfl; (with_reducible repeat (first | refine blk_drewN ?_ _ | refine blk_drew ?_ | refine blk_alloc ?_ _)); exact BK130.out⟩
           have n2_ : Aside0 (Below w.heap.size w (((((w7.setCell ⟨gb130, 0, none⟩ (.string ((rd_T35 l0 x11_1).f0))).setCell ⟨gb130, 1, none⟩ (.string ((rd_T35 l0 x11_1).f1))).setCell ⟨gb130, 2, none⟩ (.int .i64 ((rd_T35 l0 x11_1).f2))).setCell ⟨gb130, 3, none⟩ (.string ((rd_T35 l0 x11_1).f3))).setCell ⟨gb130, 4, none⟩ (.bool ((rd_T35 l0 x11_1).f4)))) := ⟨by repeat (first | (with_reducible first | exact HB.out | apply bal | apply bdN | apply bdo | refine below_set ?_ GE130.out) | exact HB.out)⟩
           (try clear HO_5); (try clear BK130); (try clear HB)
           generalize (((((w7.setCell ⟨gb130, 0, none⟩ (.string ((rd_T35 l0 x11_1).f0))).setCell ⟨gb130, 1, none⟩ (.string ((rd_T35 l0 x11_1).f1))).setCell ⟨gb130, 2, none⟩ (.int .i64 ((rd_T35 l0 x11_1).f2))).setCell ⟨gb130, 3, none⟩ (.string ((rd_T35 l0 x11_1).f3))).setCell ⟨gb130, 4, none⟩ (.bool ((rd_T35 l0 x11_1).f4))) = w17 at n0_ n1_ n2_ ⊢
           have HO_5 := n0_
           have BK130 := n1_
           have HB := n2_
           clear n0_ n1_ n2_
           have n0_ := aS (Kd.R_drew HO_5.out)
           have n1_ := aS (blk_drew BK130.out)
           have n2_ := aS (bdo HB.out)
           clear HO_5; clear BK130; clear HB
           have HO_5 := n0_
           have BK130 := n1_
           have HB := n2_
           clear n0_ n1_ n2_
           have p131 : 0 ≤ ((ji12) : Int) := odt (by first | (with_reducible assumption) | assumption)
           have q131 : (ji12) < (l0.length : Int) := odt (by first | (with_reducible assumption) | assumption)
           obtain ⟨ad131, e131, hx131_0, hx131_1, hx131_2, hx131_3, hx131_4⟩ := at_T35 HR0.out (ji12) p131 q131
           have hw131_4 := hx131_4
           have hw131_3 := hx131_3
           have hw131_2 := hx131_2
           have hw131_1 := hx131_1
           have hw131_0 := hx131_0
           obtain rfl : ad129 = ad131 := (by injection e131)
           replace hx131_0 := (HB.out.cell (wbl w _ hx131_0)).trans hx131_0
           replace hx131_1 := (HB.out.cell (wbl w _ hx131_1)).trans hx131_1
           replace hx131_2 := (HB.out.cell (wbl w _ hx131_2)).trans hx131_2
           replace hx131_3 := (HB.out.cell (wbl w _ hx131_3)).trans hx131_3
           replace hx131_4 := (HB.out.cell (wbl w _ hx131_4)).trans hx131_4
           replace p131 := eq_true p131
           replace q131 := eq_true q131
           have p133 : 0 ≤ ((ji12) : Int) := odt (by first | (with_reducible assumption) | assumption)
           have q133 : (ji12) < (l0.length : Int) := odt (by first | (with_reducible assumption) | assumption)
           obtain ⟨ad133, e133, hx133_0, hx133_1, hx133_2, hx133_3, hx133_4⟩ := at_T35 HR0.out (ji12) p133 q133
           have hw133_4 := hx133_4
           have hw133_3 := hx133_3
           have hw133_2 := hx133_2
           have hw133_1 := hx133_1
           have hw133_0 := hx133_0
           obtain rfl : ad129 = ad133 := (by injection e133)
           replace hx133_0 := (HB.out.cell (wbl w _ hx133_0)).trans hx133_0
           replace hx133_1 := (HB.out.cell (wbl w _ hx133_1)).trans hx133_1
           replace hx133_2 := (HB.out.cell (wbl w _ hx133_2)).trans hx133_2
           replace hx133_3 := (HB.out.cell (wbl w _ hx133_3)).trans hx133_3
           replace hx133_4 := (HB.out.cell (wbl w _ hx133_4)).trans hx133_4
           replace p133 := eq_true p133
           replace q133 := eq_true q133
           refine start_ (n := 23) (S := fun w' => w'.cell? ⟨gb130, 0, none⟩ = some (.string ((rd_T35 l0 x11_1).f0)) ∧ w'.cell? ⟨gb130, 1, none⟩ = some (.string ((rd_T35 l0 x11_1).f1)) ∧ w'.cell? ⟨gb130, 2, none⟩ = some (.int .i64 ((rd_T35 l0 x11_1).f2)) ∧ w'.cell? ⟨gb130, 3, none⟩ = some (.string ((rd_T35 l0 x11_1).f3)) ∧ w'.cell? ⟨gb130, 4, none⟩ = some (.bool ((rd_T35 l0 x11_1).f4)) ∧ w'.cell? (ad129.add (((ji12)).toNat * 5)) = some (.string ((rd_T35 l0 (ji12)).f0)) ∧ w'.cell? ⟨(ad129.add (((ji12)).toNat * 5)).block, (ad129.add (((ji12)).toNat * 5)).off + 1, none⟩ = some (.string ((rd_T35 l0 (ji12)).f1)) ∧ w'.cell? ⟨(ad129.add (((ji12)).toNat * 5)).block, (ad129.add (((ji12)).toNat * 5)).off + 2, none⟩ = some (.int .i64 ((rd_T35 l0 (ji12)).f2)) ∧ w'.cell? ⟨(ad129.add (((ji12)).toNat * 5)).block, (ad129.add (((ji12)).toNat * 5)).off + 3, none⟩ = some (.string ((rd_T35 l0 (ji12)).f3)) ∧ w'.cell? ⟨(ad129.add (((ji12)).toNat * 5)).block, (ad129.add (((ji12)).toNat * 5)).off + 4, none⟩ = some (.bool ((rd_T35 l0 (ji12)).f4)) ∧ w'.cell? (ad129.add (((ji12)).toNat * 5)) = some (.string ((rd_T35 l0 (ji12)).f0)) ∧ w'.cell? ⟨(ad129.add (((ji12)).toNat * 5)).block, (ad129.add (((ji12)).toNat * 5)).off + 1, none⟩ = some (.string ((rd_T35 l0 (ji12)).f1)) ∧ w'.cell? ⟨(ad129.add (((ji12)).toNat * 5)).block, (ad129.add (((ji12)).toNat * 5)).off + 2, none⟩ = some (.int .i64 ((rd_T35 l0 (ji12)).f2)) ∧ w'.cell? ⟨(ad129.add (((ji12)).toNat * 5)).block, (ad129.add (((ji12)).toNat * 5)).off + 3, none⟩ = some (.string ((rd_T35 l0 (ji12)).f3)) ∧ w'.cell? ⟨(ad129.add (((ji12)).toNat * 5)).block, (ad129.add (((ji12)).toNat * 5)).off + 4, none⟩ = some (.bool ((rd_T35 l0 (ji12)).f4))) (ds := []) #[false, false, false, false, false, false, false, false, false, false, false, false, false, false, false, false, false, false, false, false, false, false, false] (by kernel_rfl) rfl rfl ⟨(blk_cell BK130.out 0).trans rfl, (blk_cell BK130.out 1).trans rfl, (blk_cell BK130.out 2).trans rfl, (blk_cell BK130.out 3).trans rfl, (blk_cell BK130.out 4).trans rfl, ((HB.out.cell (wbl w _ hw131_0)).trans hw131_0), ((HB.out.cell (wbl w _ hw131_1)).trans hw131_1), ((HB.out.cell (wbl w _ hw131_2)).trans hw131_2), ((HB.out.cell (wbl w _ hw131_3)).trans hw131_3), ((HB.out.cell (wbl w _ hw131_4)).trans hw131_4), ((HB.out.cell (wbl w _ hw133_0)).trans hw133_0), ((HB.out.cell (wbl w _ hw133_1)).trans hw133_1), ((HB.out.cell (wbl w _ hw133_2)).trans hw133_2), ((HB.out.cell (wbl w _ hw133_3)).trans hw133_3), ((HB.out.cell (wbl w _ hw133_4)).trans hw133_4)⟩ (fun hHeld => ?_); refine with_tabW merge_Clean.tab5 merge_Clean.bits5 (fun HT_ HW_ => ?_)
           generalize w17.drew = w18 at HO_5 BK130 HB hx131_0 hx131_1 hx131_2 hx131_3 hx131_4 hx133_0 hx133_1 hx133_2 hx133_3 hx133_4 hHeld ⊢
           refine pure_ (i := 0) (N := some 16) (v := ?_) (a' := ?_) #[true, false, false, false, false, false, false, false, false, false, false, false, false, false, false, false, false, false, false, false, false, false, false] rfl rfl (any_of HT_.out (by kernel_rfl)) (fun _ _ _ h => h) (Or.inl ⟨by rfl, ?_⟩) ?_ ?_
           rotate_left
           ·
            intro w'
            go_simp
            with_reducible rfl
           rotate_left
           ·
            simp only [Act.put, lsa, lsz, lss, i64_w, i32_w]
            rfl
           refine pure_ (i := 1) (N := some 17) (v := ?_) (a' := ?_) #[true, true, false, false, false, false, false, false, false, false, false, false, false, false, false, false, false, false, false, false, false, false, false] rfl rfl (any_of HT_.out (by kernel_rfl)) (fun _ _ _ h => h) (Or.inl ⟨by rfl, ?_⟩) ?_ ?_
           rotate_left
           ·
            intro w'
            go_simp
            with_reducible rfl
           rotate_left
           ·
            simp only [Act.put, lsa, lsz, lss, i64_w, i32_w]
            rfl
           refine pure_ (i := 2) (N := some 18) (v := ?_) (a' := ?_) #[true, true, true, false, false, false, false, false, false, false, false, false, false, false, false, false, false, false, false, false, false, false, false] rfl rfl (any_of HT_.out (by kernel_rfl)) (fun _ _ _ h => h) (Or.inl ⟨by rfl, ?_⟩) ?_ ?_
           rotate_left
           ·
            intro w'
            go_simp
            with_reducible rfl
           rotate_left
           ·
            simp only [Act.put, lsa, lsz, lss, i64_w, i32_w]
            rfl
           refine pure_ (i := 3) (N := some 19) (v := ?_) (a' := ?_) #[true, true, true, true, false, false, false, false, false, false, false, false, false, false, false, false, false, false, false, false, false, false, false] rfl rfl (any_of HT_.out (by kernel_rfl)) (fun _ _ _ h => h) (Or.inl ⟨by rfl, ?_⟩) ?_ ?_
           rotate_left
           ·
            intro w'
            go_simp
            with_reducible rfl
           rotate_left
           ·
            simp only [Act.put, lsa, lsz, lss, i64_w, i32_w]
            rfl
           refine pure_ (i := 4) (N := some 20) (v := ?_) (a' := ?_) #[true, true, true, true, true, false, false, false, false, false, false, false, false, false, false, false, false, false, false, false, false, false, false] rfl rfl (any_of HT_.out (by kernel_rfl)) (fun _ _ _ h => h) (Or.inl ⟨by rfl, ?_⟩) ?_ ?_
           rotate_left
           ·
            intro w'
            go_simp
            with_reducible rfl
           rotate_left
           ·
            simp only [Act.put, lsa, lsz, lss, i64_w, i32_w]
            rfl
           refine pure_ (i := 5) (N := some 21) (v := ?_) (a' := ?_) #[true, true, true, true, true, true, false, false, false, false, false, false, false, false, false, false, false, false, false, false, false, false, false] rfl rfl (any_of HT_.out (by kernel_rfl)) (fun _ _ _ h => h) (Or.inl ⟨by rfl, ?_⟩) ?_ ?_
           rotate_left
           ·
            intro w'
            go_simp
            with_reducible rfl
           rotate_left
           ·
            simp only [Act.put, lsa, lsz, lss, i64_w, i32_w]
            rfl
           refine pure_ (i := 6) (N := some 22) (v := ?_) (a' := ?_) #[true, true, true, true, true, true, true, false, false, false, false, false, false, false, false, false, false, false, false, false, false, false, false] rfl rfl (any_of HT_.out (by kernel_rfl)) (fun _ _ _ h => h) (Or.inl ⟨by rfl, ?_⟩) ?_ ?_
           rotate_left
           ·
            intro w'
            go_simp
            with_reducible rfl
           rotate_left
           ·
            simp only [Act.put, lsa, lsz, lss, i64_w, i32_w]
            rfl
           refine take_ (i := 7) (N := some 23) (v := ?_) (a' := ?_) #[true, true, true, true, true, true, true, true, false, false, false, false, false, false, false, false, false, false, false, false, false, false, false] rfl rfl (take_ofW HT_.out HW_.out (by kernel_rfl)) (fun _ _ _ h => h) (Or.inl ⟨by rfl, ?_⟩) hHeld ?_ ?_
           rotate_left
           ·
            rintro w' ⟨s0, s1, s2, s3, s4, s5, s6, s7, s8, s9, s10, s11, s12, s13, s14⟩
            go_simp
            with_reducible rfl
           rotate_left
           ·
            simp only [Act.put, lsa, lsz, lss, i64_w, i32_w]
            rfl
           refine take_ (i := 8) (N := some 24) (v := ?_) (a' := ?_) #[true, true, true, true, true, true, true, true, true, false, false, false, false, false, false, false, false, false, false, false, false, false, false] rfl rfl (take_ofW HT_.out HW_.out (by kernel_rfl)) (fun _ _ _ h => h) (Or.inl ⟨by rfl, ?_⟩) hHeld ?_ ?_
           rotate_left
           ·
            rintro w' ⟨s0, s1, s2, s3, s4, s5, s6, s7, s8, s9, s10, s11, s12, s13, s14⟩
            go_simp
            with_reducible rfl
           rotate_left
           ·
            simp only [Act.put, lsa, lsz, lss, i64_w, i32_w]
            rfl
           refine one_ (i := 9) (N := some 25) #[true, true, true, true, true, true, true, true, true, true, false, false, false, false, false, false, false, false, false, false, false, false, false] rfl rfl (one_of HT_.out (by kernel_rfl)) (by decide) (fun K hK => ?_)
           refine goes_ Try.func31 (by kernel_rfl) rfl #[.agg #[.string ((rd_T35 l0 (ji12)).f0), .string ((rd_T35 l0 (ji12)).f1), .int .i64 ((rd_T35 l0 (ji12)).f2), .string ((rd_T35 l0 (ji12)).f3), .bool ((rd_T35 l0 (ji12)).f4)], .agg #[.string ((rd_T35 l0 x11_1).f0), .string ((rd_T35 l0 x11_1).f1), .int .i64 ((rd_T35 l0 x11_1).f2), .string ((rd_T35 l0 x11_1).f3), .bool ((rd_T35 l0 x11_1).f4)]] (by rfl) rfl rfl (by (try simp only [List.map_toArray, List.map_cons, List.map_nil]); first | done | (simp only [hji12]; rfl) | rfl | (simp only [lld, llt]; rfl)) ?_
           with_reducible refine (merge_same.calls ((rd_T35 l0 (ji12)).f0) ((rd_T35 l0 (ji12)).f1) ((rd_T35 l0 (ji12)).f2) ((rd_T35 l0 (ji12)).f3) ((rd_T35 l0 (ji12)).f4) ((rd_T35 l0 x11_1).f0) ((rd_T35 l0 x11_1).f1) ((rd_T35 l0 x11_1).f2) ((rd_T35 l0 x11_1).f3) ((rd_T35 l0 x11_1).f4) true _ A15.out).mono ?_
           rintro e w19 ⟨rfl, hb⟩
           refine ⟨_, rfl, ?_⟩
           have n0_ := aS (Kd.R_below (by (with_reducible repeat (first | apply Kd.R_alloc | apply Kd.R_drewN | apply Kd.R_drew)); exact HO_5.out) hb)
           have n1_ := aS (blk_below (g := gb130) (o := .cells #[.string ((rd_T35 l0 x11_1).f0), .string ((rd_T35 l0 x11_1).f1), .int .i64 ((rd_T35 l0 x11_1).f2), .string ((rd_T35 l0 x11_1).f3), .bool ((rd_T35 l0 x11_1).f4)] 35 (0, 0)) (by (with_reducible repeat (first | refine blk_drewN ?_ _ | refine blk_drew ?_ | refine blk_alloc ?_ _)); exact BK130.out) hb)
           have n2_ := aS (below_step (by repeat (first | (with_reducible first | exact HB.out | apply bal | apply bdN | apply bdo | refine below_set ?_ GE130.out) | exact HB.out)) hb)
           clear HO_5; clear BK130; clear HB
           have HO_5 := n0_
           have BK130 := n1_
           have HB := n2_
           clear n0_ n1_ n2_; (try clear hb); (try clear hb2); (try clear hk); (try clear hi)
           refine hK.out _ _ ⟨(blk_cell BK130.out 0).trans rfl, (blk_cell BK130.out 1).trans rfl, (blk_cell BK130.out 2).trans rfl, (blk_cell BK130.out 3).trans rfl, (blk_cell BK130.out 4).trans rfl, ((HB.out.cell (wbl w _ hw131_0)).trans hw131_0), ((HB.out.cell (wbl w _ hw131_1)).trans hw131_1), ((HB.out.cell (wbl w _ hw131_2)).trans hw131_2), ((HB.out.cell (wbl w _ hw131_3)).trans hw131_3), ((HB.out.cell (wbl w _ hw131_4)).trans hw131_4), ((HB.out.cell (wbl w _ hw133_0)).trans hw133_0), ((HB.out.cell (wbl w _ hw133_1)).trans hw133_1), ((HB.out.cell (wbl w _ hw133_2)).trans hw133_2), ((HB.out.cell (wbl w _ hw133_3)).trans hw133_3), ((HB.out.cell (wbl w _ hw133_4)).trans hw133_4)⟩ (fun hHeld => ?_)
           clear hK K
           refine norm_ (a' := ?_) ?_ ?_
           rotate_left
           ·
            show Act.put _ (some 25) _ = _
            simp only [Act.put, lsa, lsz, lss, i64_w, i32_w]
            rfl
           refine pure_ (i := 10) (N := some 26) (v := ?_) (a' := ?_) #[true, true, true, true, true, true, true, true, true, true, true, false, false, false, false, false, false, false, false, false, false, false, false] rfl rfl (any_of HT_.out (by kernel_rfl)) (fun _ _ _ h => h) (Or.inl ⟨by rfl, ?_⟩) ?_ ?_
           rotate_left
           ·
            intro w'
            go_simp
            with_reducible rfl
           rotate_left
           ·
            simp only [Act.put, lsa, lsz, lss, i64_w, i32_w]
            rfl
           refine pure_ (i := 11) (N := some 27) (v := ?_) (a' := ?_) #[true, true, true, true, true, true, true, true, true, true, true, true, false, false, false, false, false, false, false, false, false, false, false] rfl rfl (any_of HT_.out (by kernel_rfl)) (fun _ _ _ h => h) (Or.inl ⟨by rfl, ?_⟩) ?_ ?_
           rotate_left
           ·
            intro w'
            go_simp
            with_reducible rfl
           rotate_left
           ·
            simp only [Act.put, lsa, lsz, lss, i64_w, i32_w]
            rfl
           refine pure_ (i := 12) (N := some 28) (v := ?_) (a' := ?_) #[true, true, true, true, true, true, true, true, true, true, true, true, true, false, false, false, false, false, false, false, false, false, false] rfl rfl (any_of HT_.out (by kernel_rfl)) (fun _ _ _ h => h) (Or.inl ⟨by rfl, ?_⟩) ?_ ?_
           rotate_left
           ·
            intro w'
            go_simp
            with_reducible rfl
           rotate_left
           ·
            simp only [Act.put, lsa, lsz, lss, i64_w, i32_w]
            rfl
           refine pure_ (i := 13) (N := some 29) (v := ?_) (a' := ?_) #[true, true, true, true, true, true, true, true, true, true, true, true, true, true, false, false, false, false, false, false, false, false, false] rfl rfl (any_of HT_.out (by kernel_rfl)) (fun _ _ _ h => h) (Or.inl ⟨by rfl, ?_⟩) ?_ ?_
           rotate_left
           ·
            intro w'
            go_simp
            with_reducible rfl
           rotate_left
           ·
            simp only [Act.put, lsa, lsz, lss, i64_w, i32_w]
            rfl
           refine pure_ (i := 14) (N := some 30) (v := ?_) (a' := ?_) #[true, true, true, true, true, true, true, true, true, true, true, true, true, true, true, false, false, false, false, false, false, false, false] rfl rfl (any_of HT_.out (by kernel_rfl)) (fun _ _ _ h => h) (Or.inl ⟨by rfl, ?_⟩) ?_ ?_
           rotate_left
           ·
            intro w'
            go_simp
            with_reducible rfl
           rotate_left
           ·
            simp only [Act.put, lsa, lsz, lss, i64_w, i32_w]
            rfl
           refine pure_ (i := 15) (N := some 31) (v := ?_) (a' := ?_) #[true, true, true, true, true, true, true, true, true, true, true, true, true, true, true, true, false, false, false, false, false, false, false] rfl rfl (any_of HT_.out (by kernel_rfl)) (fun _ _ _ h => h) (Or.inl ⟨by rfl, ?_⟩) ?_ ?_
           rotate_left
           ·
            intro w'
            go_simp
            with_reducible rfl
           rotate_left
           ·
            simp only [Act.put, lsa, lsz, lss, i64_w, i32_w]
            rfl
           refine pure_ (i := 16) (N := some 32) (v := ?_) (a' := ?_) #[true, true, true, true, true, true, true, true, true, true, true, true, true, true, true, true, true, false, false, false, false, false, false] rfl rfl (any_of HT_.out (by kernel_rfl)) (fun _ _ _ h => h) (Or.inl ⟨by rfl, ?_⟩) ?_ ?_
           rotate_left
           ·
            intro w'
            go_simp
            with_reducible rfl
           rotate_left
           ·
            simp only [Act.put, lsa, lsz, lss, i64_w, i32_w]
            rfl
           refine pure_ (i := 17) (N := some 33) (v := ?_) (a' := ?_) #[true, true, true, true, true, true, true, true, true, true, true, true, true, true, true, true, true, true, false, false, false, false, false] rfl rfl (any_of HT_.out (by kernel_rfl)) (fun _ _ _ h => h) (Or.inl ⟨by rfl, ?_⟩) ?_ ?_
           rotate_left
           ·
            intro w'
            go_simp
            with_reducible rfl
           rotate_left
           ·
            simp only [Act.put, lsa, lsz, lss, i64_w, i32_w]
            rfl
           refine pure_ (i := 19) (N := some 35) (v := ?_) (a' := ?_) #[true, true, true, true, true, true, true, true, true, true, true, true, true, true, true, true, true, true, false, true, false, false, false] rfl rfl (any_of HT_.out (by kernel_rfl)) (fun _ _ _ h => h) (Or.inl ⟨by rfl, ?_⟩) ?_ ?_
           rotate_left
           ·
            intro w'
            go_simp
            with_reducible rfl
           rotate_left
           ·
            simp only [Act.put, lsa, lsz, lss, i64_w, i32_w]
            rfl
           refine take_ (i := 18) (N := some 34) (v := ?_) (a' := ?_) #[true, true, true, true, true, true, true, true, true, true, true, true, true, true, true, true, true, true, true, true, false, false, false] rfl rfl (take_ofW HT_.out HW_.out (by kernel_rfl)) (fun _ _ _ h => h) (Or.inl ⟨by rfl, ?_⟩) hHeld ?_ ?_
           rotate_left
           ·
            rintro w' ⟨s0, s1, s2, s3, s4, s5, s6, s7, s8, s9, s10, s11, s12, s13, s14⟩
            go_simp
            with_reducible rfl
           rotate_left
           ·
            simp only [Act.put, lsa, lsz, lss, i64_w, i32_w]
            rfl
           refine pure_ (i := 20) (N := some 36) (v := ?_) (a' := ?_) #[true, true, true, true, true, true, true, true, true, true, true, true, true, true, true, true, true, true, true, true, true, false, false] rfl rfl (any_of HT_.out (by kernel_rfl)) (fun _ _ _ h => h) (Or.inl ⟨by rfl, ?_⟩) ?_ ?_
           rotate_left
           ·
            intro w'
            go_simp
            with_reducible rfl
           rotate_left
           ·
            simp only [Act.put, lsa, lsz, lss, i64_w, i32_w]
            rfl
           refine pure_ (i := 21) (N := some 37) (v := ?_) (a' := ?_) #[true, true, true, true, true, true, true, true, true, true, true, true, true, true, true, true, true, true, true, true, true, true, false] rfl rfl (any_of HT_.out (by kernel_rfl)) (fun _ _ _ h => h) (Or.inl ⟨by rfl, ?_⟩) ?_ ?_
           rotate_left
           ·
            intro w'
            go_simp
            with_reducible rfl
           rotate_left
           ·
            simp only [Act.put, lsa, lsz, lss, i64_w, i32_w]
            rfl
           refine pure_ (i := 22) (N := some 8) (v := ?_) (a' := ?_) #[true, true, true, true, true, true, true, true, true, true, true, true, true, true, true, true, true, true, true, true, true, true, true] rfl rfl (any_of HT_.out (by kernel_rfl)) (fun _ _ _ h => h) (Or.inl ⟨by rfl, ?_⟩) ?_ ?_
           rotate_left
           ·
            intro w'
            go_simp
            with_reducible rfl
           rotate_left
           ·
            simp only [Act.put, lsa, lsz, lss, i64_w, i32_w]
            rfl
           refine done_ (done_of HT_.out (by kernel_rfl)) ?_
           try go_wp2
           go_meet
           case rel => exact ⟨_, (decide (((rd_T35 l0 (ji12)).f2) > a1)), (by first | rfl | (simp; done) | (simp only [← hji12] <;> (first | rfl | simp)) | (simp [*]; done)), H', ⟨by have := HK1.out; first | omega | exact Nat.le_refl _⟩, ⟨by (with_reducible repeat (first | apply Kd.R_alloc | apply Kd.R_drewN | apply Kd.R_drew)); exact HO_5.out⟩, ⟨by (with_reducible repeat (first | refine blk_drewN ?_ _ | refine blk_drew ?_ | refine blk_alloc ?_ _)); exact BK130.out⟩, ⟨by repeat (first | (with_reducible first | exact HB.out | apply bal | apply bdN | apply bdo | refine below_set ?_ GE130.out) | exact HB.out)⟩⟩
          ·
           replace c16 := Bool.eq_false_iff.mpr c16
           subst c16
           have H1 : (merge_Clean.j1 k1 l0 a1 x5_1 true l0 (l0.length : Int) x11_1 ((rd_T35 l0 x11_1).f0) ((rd_T35 l0 x11_1).f1) ((rd_T35 l0 x11_1).f2) ((rd_T35 l0 x11_1).f3) ((rd_T35 l0 x11_1).f4)) = some r := by rw [if_neg (show ¬ (false = true) by decide)] at H; exact H
           clear H; have H := H1; clear H1
           have H' := aS H
           clear H
           try go_wp2
           have n0_ : Aside0 (Kd.R k35 35 (((((w7.setCell ⟨gb130, 0, none⟩ (.string ((rd_T35 l0 x11_1).f0))).setCell ⟨gb130, 1, none⟩ (.string ((rd_T35 l0 x11_1).f1))).setCell ⟨gb130, 2, none⟩ (.int .i64 ((rd_T35 l0 x11_1).f2))).setCell ⟨gb130, 3, none⟩ (.string ((rd_T35 l0 x11_1).f3))).setCell ⟨gb130, 4, none⟩ (.bool ((rd_T35 l0 x11_1).f4))) w.heap.size (fun k_ => k_ ≠ gb130) u5 x5_1) := ⟨by (with_reducible repeat (first | apply Kd.R_alloc | apply Kd.R_drewN | apply Kd.R_drew)); exact Kd.R_mono (Kd.R_far (p := ⟨gb130, 4, none⟩) (Kd.R_far (p := ⟨gb130, 3, none⟩) (Kd.R_far (p := ⟨gb130, 2, none⟩) (Kd.R_far (p := ⟨gb130, 1, none⟩) (Kd.R_far (p := ⟨gb130, 0, none⟩) (Kd.R_mono HO_5.out (fun k_ hk => (⟨hk, hk.2⟩ : _ ∧ k_ ≠ gb130))) (fun _ hk => hk.2) (.string ((rd_T35 l0 x11_1).f0))) (fun _ hk => hk.2) (.string ((rd_T35 l0 x11_1).f1))) (fun _ hk => hk.2) (.int .i64 ((rd_T35 l0 x11_1).f2))) (fun _ hk => hk.2) (.string ((rd_T35 l0 x11_1).f3))) (fun _ hk => hk.2) (.bool ((rd_T35 l0 x11_1).f4))) (fun _ hk => hk.1.2)⟩
           have n1_ : Aside0 ((((((w7.setCell ⟨gb130, 0, none⟩ (.string ((rd_T35 l0 x11_1).f0))).setCell ⟨gb130, 1, none⟩ (.string ((rd_T35 l0 x11_1).f1))).setCell ⟨gb130, 2, none⟩ (.int .i64 ((rd_T35 l0 x11_1).f2))).setCell ⟨gb130, 3, none⟩ (.string ((rd_T35 l0 x11_1).f3))).setCell ⟨gb130, 4, none⟩ (.bool ((rd_T35 l0 x11_1).f4))).heap[gb130]? = some (.cells #[.string ((rd_T35 l0 x11_1).f0), .string ((rd_T35 l0 x11_1).f1), .int .i64 ((rd_T35 l0 x11_1).f2), .string ((rd_T35 l0 x11_1).f3), .bool ((rd_T35 l0 x11_1).f4)] 35 (0, 0))) := ⟨by (with_reducible repeat (first | refine blk_drewN ?_ _ | refine blk_drew ?_ | refine blk_alloc ?_ _)); refine blk_put (cs := #[.string ((rd_T35 l0 x11_1).f0), .string ((rd_T35 l0 x11_1).f1), .int .i64 ((rd_T35 l0 x11_1).f2), .string ((rd_T35 l0 x11_1).f3), .bool false]) ?_ 4 _ rfl; (with_reducible repeat (first | refine blk_drewN ?_ _ | refine blk_drew ?_ | refine blk_alloc ?_ _)); refine blk_put (cs := #[.string ((rd_T35 l0 x11_1).f0), .string ((rd_T35 l0 x11_1).f1), .int .i64 ((rd_T35 l0 x11_1).f2), .string (⟨#[]⟩ : ByteArray), .bool false]) ?_ 3 _ rfl; (with_reducible repeat (first | refine blk_drewN ?_ _ | refine blk_drew ?_ | refine blk_alloc ?_ _)); refine blk_put (cs := #[.string ((rd_T35 l0 x11_1).f0), .string ((rd_T35 l0 x11_1).f1), .int .i64 0, .string (⟨#[]⟩ : ByteArray), .bool false]) ?_ 2 _ rfl; (with_reducible repeat (first | refine blk_drewN ?_ _ | refine blk_drew ?_ | refine blk_alloc ?_ _)); refine blk_put (cs := #[.string ((rd_T35 l0 x11_1).f0), .string (⟨#[]⟩ : ByteArray), .int .i64 0, .string (⟨#[]⟩ : ByteArray), .bool false]) ?_ 1 _ rfl; (with_reducible repeat (first | refine blk_drewN ?_ _ | refine blk_drew ?_ | refine blk_alloc ?_ _)); refine blk_put (cs := #[.string (⟨#[]⟩ : ByteArray), .string (⟨#[]⟩ : ByteArray), .int .i64 0, .string (⟨#[]⟩ : ByteArray), .bool false]) ?_ 0 _ rfl; (with_reducible repeat (first | refine blk_drewN ?_ _ | refine blk_drew ?_ | refine blk_alloc ?_ _)); exact BK130.out⟩
           have n2_ : Aside0 (Below w.heap.size w (((((w7.setCell ⟨gb130, 0, none⟩ (.string ((rd_T35 l0 x11_1).f0))).setCell ⟨gb130, 1, none⟩ (.string ((rd_T35 l0 x11_1).f1))).setCell ⟨gb130, 2, none⟩ (.int .i64 ((rd_T35 l0 x11_1).f2))).setCell ⟨gb130, 3, none⟩ (.string ((rd_T35 l0 x11_1).f3))).setCell ⟨gb130, 4, none⟩ (.bool ((rd_T35 l0 x11_1).f4)))) := ⟨by repeat (first | (with_reducible first | exact HB.out | apply bal | apply bdN | apply bdo | refine below_set ?_ GE130.out) | exact HB.out)⟩
           (try clear HO_5); (try clear BK130); (try clear HB)
           generalize (((((w7.setCell ⟨gb130, 0, none⟩ (.string ((rd_T35 l0 x11_1).f0))).setCell ⟨gb130, 1, none⟩ (.string ((rd_T35 l0 x11_1).f1))).setCell ⟨gb130, 2, none⟩ (.int .i64 ((rd_T35 l0 x11_1).f2))).setCell ⟨gb130, 3, none⟩ (.string ((rd_T35 l0 x11_1).f3))).setCell ⟨gb130, 4, none⟩ (.bool ((rd_T35 l0 x11_1).f4))) = w20 at n0_ n1_ n2_ ⊢
           have HO_5 := n0_
           have BK130 := n1_
           have HB := n2_
           clear n0_ n1_ n2_
           have n0_ := aS (Kd.R_drew HO_5.out)
           have n1_ := aS (blk_drew BK130.out)
           have n2_ := aS (bdo HB.out)
           clear HO_5; clear BK130; clear HB
           have HO_5 := n0_
           have BK130 := n1_
           have HB := n2_
           clear n0_ n1_ n2_
           have p131 : 0 ≤ ((ji12) : Int) := odt (by first | (with_reducible assumption) | assumption)
           have q131 : (ji12) < (l0.length : Int) := odt (by first | (with_reducible assumption) | assumption)
           obtain ⟨ad131, e131, hx131_0, hx131_1, hx131_2, hx131_3, hx131_4⟩ := at_T35 HR0.out (ji12) p131 q131
           have hw131_4 := hx131_4
           have hw131_3 := hx131_3
           have hw131_2 := hx131_2
           have hw131_1 := hx131_1
           have hw131_0 := hx131_0
           obtain rfl : ad129 = ad131 := (by injection e131)
           replace hx131_0 := (HB.out.cell (wbl w _ hx131_0)).trans hx131_0
           replace hx131_1 := (HB.out.cell (wbl w _ hx131_1)).trans hx131_1
           replace hx131_2 := (HB.out.cell (wbl w _ hx131_2)).trans hx131_2
           replace hx131_3 := (HB.out.cell (wbl w _ hx131_3)).trans hx131_3
           replace hx131_4 := (HB.out.cell (wbl w _ hx131_4)).trans hx131_4
           replace p131 := eq_true p131
           replace q131 := eq_true q131
           refine start_ (n := 23) (S := fun w' => w'.cell? ⟨gb130, 0, none⟩ = some (.string ((rd_T35 l0 x11_1).f0)) ∧ w'.cell? ⟨gb130, 1, none⟩ = some (.string ((rd_T35 l0 x11_1).f1)) ∧ w'.cell? ⟨gb130, 2, none⟩ = some (.int .i64 ((rd_T35 l0 x11_1).f2)) ∧ w'.cell? ⟨gb130, 3, none⟩ = some (.string ((rd_T35 l0 x11_1).f3)) ∧ w'.cell? ⟨gb130, 4, none⟩ = some (.bool ((rd_T35 l0 x11_1).f4)) ∧ w'.cell? (ad129.add (((ji12)).toNat * 5)) = some (.string ((rd_T35 l0 (ji12)).f0)) ∧ w'.cell? ⟨(ad129.add (((ji12)).toNat * 5)).block, (ad129.add (((ji12)).toNat * 5)).off + 1, none⟩ = some (.string ((rd_T35 l0 (ji12)).f1)) ∧ w'.cell? ⟨(ad129.add (((ji12)).toNat * 5)).block, (ad129.add (((ji12)).toNat * 5)).off + 2, none⟩ = some (.int .i64 ((rd_T35 l0 (ji12)).f2)) ∧ w'.cell? ⟨(ad129.add (((ji12)).toNat * 5)).block, (ad129.add (((ji12)).toNat * 5)).off + 3, none⟩ = some (.string ((rd_T35 l0 (ji12)).f3)) ∧ w'.cell? ⟨(ad129.add (((ji12)).toNat * 5)).block, (ad129.add (((ji12)).toNat * 5)).off + 4, none⟩ = some (.bool ((rd_T35 l0 (ji12)).f4))) (ds := []) #[false, false, false, false, false, false, false, false, false, false, false, false, false, false, false, false, false, false, false, false, false, false, false] (by kernel_rfl) rfl rfl ⟨(blk_cell BK130.out 0).trans rfl, (blk_cell BK130.out 1).trans rfl, (blk_cell BK130.out 2).trans rfl, (blk_cell BK130.out 3).trans rfl, (blk_cell BK130.out 4).trans rfl, ((HB.out.cell (wbl w _ hw131_0)).trans hw131_0), ((HB.out.cell (wbl w _ hw131_1)).trans hw131_1), ((HB.out.cell (wbl w _ hw131_2)).trans hw131_2), ((HB.out.cell (wbl w _ hw131_3)).trans hw131_3), ((HB.out.cell (wbl w _ hw131_4)).trans hw131_4)⟩ (fun hHeld => ?_); refine with_tabW merge_Clean.tab5 merge_Clean.bits5 (fun HT_ HW_ => ?_)
           generalize w20.drew = w21 at HO_5 BK130 HB hx131_0 hx131_1 hx131_2 hx131_3 hx131_4 hHeld ⊢
           refine pure_ (i := 0) (N := some 16) (v := ?_) (a' := ?_) #[true, false, false, false, false, false, false, false, false, false, false, false, false, false, false, false, false, false, false, false, false, false, false] rfl rfl (any_of HT_.out (by kernel_rfl)) (fun _ _ _ h => h) (Or.inl ⟨by rfl, ?_⟩) ?_ ?_
           rotate_left
           ·
            intro w'
            go_simp
            with_reducible rfl
           rotate_left
           ·
            simp only [Act.put, lsa, lsz, lss, i64_w, i32_w]
            rfl
           refine pure_ (i := 1) (N := some 17) (v := ?_) (a' := ?_) #[true, true, false, false, false, false, false, false, false, false, false, false, false, false, false, false, false, false, false, false, false, false, false] rfl rfl (any_of HT_.out (by kernel_rfl)) (fun _ _ _ h => h) (Or.inl ⟨by rfl, ?_⟩) ?_ ?_
           rotate_left
           ·
            intro w'
            go_simp
            with_reducible rfl
           rotate_left
           ·
            simp only [Act.put, lsa, lsz, lss, i64_w, i32_w]
            rfl
           refine pure_ (i := 2) (N := some 18) (v := ?_) (a' := ?_) #[true, true, true, false, false, false, false, false, false, false, false, false, false, false, false, false, false, false, false, false, false, false, false] rfl rfl (any_of HT_.out (by kernel_rfl)) (fun _ _ _ h => h) (Or.inl ⟨by rfl, ?_⟩) ?_ ?_
           rotate_left
           ·
            intro w'
            go_simp
            with_reducible rfl
           rotate_left
           ·
            simp only [Act.put, lsa, lsz, lss, i64_w, i32_w]
            rfl
           refine pure_ (i := 3) (N := some 19) (v := ?_) (a' := ?_) #[true, true, true, true, false, false, false, false, false, false, false, false, false, false, false, false, false, false, false, false, false, false, false] rfl rfl (any_of HT_.out (by kernel_rfl)) (fun _ _ _ h => h) (Or.inl ⟨by rfl, ?_⟩) ?_ ?_
           rotate_left
           ·
            intro w'
            go_simp
            with_reducible rfl
           rotate_left
           ·
            simp only [Act.put, lsa, lsz, lss, i64_w, i32_w]
            rfl
           refine pure_ (i := 4) (N := some 20) (v := ?_) (a' := ?_) #[true, true, true, true, true, false, false, false, false, false, false, false, false, false, false, false, false, false, false, false, false, false, false] rfl rfl (any_of HT_.out (by kernel_rfl)) (fun _ _ _ h => h) (Or.inl ⟨by rfl, ?_⟩) ?_ ?_
           rotate_left
           ·
            intro w'
            go_simp
            with_reducible rfl
           rotate_left
           ·
            simp only [Act.put, lsa, lsz, lss, i64_w, i32_w]
            rfl
           refine pure_ (i := 5) (N := some 21) (v := ?_) (a' := ?_) #[true, true, true, true, true, true, false, false, false, false, false, false, false, false, false, false, false, false, false, false, false, false, false] rfl rfl (any_of HT_.out (by kernel_rfl)) (fun _ _ _ h => h) (Or.inl ⟨by rfl, ?_⟩) ?_ ?_
           rotate_left
           ·
            intro w'
            go_simp
            with_reducible rfl
           rotate_left
           ·
            simp only [Act.put, lsa, lsz, lss, i64_w, i32_w]
            rfl
           refine pure_ (i := 6) (N := some 22) (v := ?_) (a' := ?_) #[true, true, true, true, true, true, true, false, false, false, false, false, false, false, false, false, false, false, false, false, false, false, false] rfl rfl (any_of HT_.out (by kernel_rfl)) (fun _ _ _ h => h) (Or.inl ⟨by rfl, ?_⟩) ?_ ?_
           rotate_left
           ·
            intro w'
            go_simp
            with_reducible rfl
           rotate_left
           ·
            simp only [Act.put, lsa, lsz, lss, i64_w, i32_w]
            rfl
           refine take_ (i := 7) (N := some 23) (v := ?_) (a' := ?_) #[true, true, true, true, true, true, true, true, false, false, false, false, false, false, false, false, false, false, false, false, false, false, false] rfl rfl (take_ofW HT_.out HW_.out (by kernel_rfl)) (fun _ _ _ h => h) (Or.inl ⟨by rfl, ?_⟩) hHeld ?_ ?_
           rotate_left
           ·
            rintro w' ⟨s0, s1, s2, s3, s4, s5, s6, s7, s8, s9⟩
            go_simp
            with_reducible rfl
           rotate_left
           ·
            simp only [Act.put, lsa, lsz, lss, i64_w, i32_w]
            rfl
           refine take_ (i := 8) (N := some 24) (v := ?_) (a' := ?_) #[true, true, true, true, true, true, true, true, true, false, false, false, false, false, false, false, false, false, false, false, false, false, false] rfl rfl (take_ofW HT_.out HW_.out (by kernel_rfl)) (fun _ _ _ h => h) (Or.inl ⟨by rfl, ?_⟩) hHeld ?_ ?_
           rotate_left
           ·
            rintro w' ⟨s0, s1, s2, s3, s4, s5, s6, s7, s8, s9⟩
            go_simp
            with_reducible rfl
           rotate_left
           ·
            simp only [Act.put, lsa, lsz, lss, i64_w, i32_w]
            rfl
           refine one_ (i := 9) (N := some 25) #[true, true, true, true, true, true, true, true, true, true, false, false, false, false, false, false, false, false, false, false, false, false, false] rfl rfl (one_of HT_.out (by kernel_rfl)) (by decide) (fun K hK => ?_)
           refine goes_ Try.func31 (by kernel_rfl) rfl #[.agg #[.string ((rd_T35 l0 (ji12)).f0), .string ((rd_T35 l0 (ji12)).f1), .int .i64 ((rd_T35 l0 (ji12)).f2), .string ((rd_T35 l0 (ji12)).f3), .bool ((rd_T35 l0 (ji12)).f4)], .agg #[.string ((rd_T35 l0 x11_1).f0), .string ((rd_T35 l0 x11_1).f1), .int .i64 ((rd_T35 l0 x11_1).f2), .string ((rd_T35 l0 x11_1).f3), .bool ((rd_T35 l0 x11_1).f4)]] (by rfl) rfl rfl (by (try simp only [List.map_toArray, List.map_cons, List.map_nil]); first | done | (simp only [hji12]; rfl) | rfl | (simp only [lld, llt]; rfl)) ?_
           with_reducible refine (merge_same.calls ((rd_T35 l0 (ji12)).f0) ((rd_T35 l0 (ji12)).f1) ((rd_T35 l0 (ji12)).f2) ((rd_T35 l0 (ji12)).f3) ((rd_T35 l0 (ji12)).f4) ((rd_T35 l0 x11_1).f0) ((rd_T35 l0 x11_1).f1) ((rd_T35 l0 x11_1).f2) ((rd_T35 l0 x11_1).f3) ((rd_T35 l0 x11_1).f4) false _ A15.out).mono ?_
           rintro e w22 ⟨rfl, hb⟩
           refine ⟨_, rfl, ?_⟩
           have n0_ := aS (Kd.R_below (by (with_reducible repeat (first | apply Kd.R_alloc | apply Kd.R_drewN | apply Kd.R_drew)); exact HO_5.out) hb)
           have n1_ := aS (blk_below (g := gb130) (o := .cells #[.string ((rd_T35 l0 x11_1).f0), .string ((rd_T35 l0 x11_1).f1), .int .i64 ((rd_T35 l0 x11_1).f2), .string ((rd_T35 l0 x11_1).f3), .bool ((rd_T35 l0 x11_1).f4)] 35 (0, 0)) (by (with_reducible repeat (first | refine blk_drewN ?_ _ | refine blk_drew ?_ | refine blk_alloc ?_ _)); exact BK130.out) hb)
           have n2_ := aS (below_step (by repeat (first | (with_reducible first | exact HB.out | apply bal | apply bdN | apply bdo | refine below_set ?_ GE130.out) | exact HB.out)) hb)
           clear HO_5; clear BK130; clear HB
           have HO_5 := n0_
           have BK130 := n1_
           have HB := n2_
           clear n0_ n1_ n2_; (try clear hb); (try clear hb2); (try clear hk); (try clear hi)
           refine hK.out _ _ ⟨(blk_cell BK130.out 0).trans rfl, (blk_cell BK130.out 1).trans rfl, (blk_cell BK130.out 2).trans rfl, (blk_cell BK130.out 3).trans rfl, (blk_cell BK130.out 4).trans rfl, ((HB.out.cell (wbl w _ hw131_0)).trans hw131_0), ((HB.out.cell (wbl w _ hw131_1)).trans hw131_1), ((HB.out.cell (wbl w _ hw131_2)).trans hw131_2), ((HB.out.cell (wbl w _ hw131_3)).trans hw131_3), ((HB.out.cell (wbl w _ hw131_4)).trans hw131_4)⟩ (fun hHeld => ?_)
           clear hK K
           refine norm_ (a' := ?_) ?_ ?_
           rotate_left
           ·
            show Act.put _ (some 25) _ = _
            simp only [Act.put, lsa, lsz, lss, i64_w, i32_w]
            rfl
           refine pure_ (i := 10) (N := some 26) (v := ?_) (a' := ?_) #[true, true, true, true, true, true, true, true, true, true, true, false, false, false, false, false, false, false, false, false, false, false, false] rfl rfl (any_of HT_.out (by kernel_rfl)) (fun _ _ _ h => h) (Or.inl ⟨by rfl, ?_⟩) ?_ ?_
           rotate_left
           ·
            intro w'
            go_simp
            with_reducible rfl
           rotate_left
           ·
            simp only [Act.put, lsa, lsz, lss, i64_w, i32_w]
            rfl
           refine pure_ (i := 11) (N := some 27) (v := ?_) (a' := ?_) #[true, true, true, true, true, true, true, true, true, true, true, true, false, false, false, false, false, false, false, false, false, false, false] rfl rfl (any_of HT_.out (by kernel_rfl)) (fun _ _ _ h => h) (Or.inl ⟨by rfl, ?_⟩) ?_ ?_
           rotate_left
           ·
            intro w'
            go_simp
            with_reducible rfl
           rotate_left
           ·
            simp only [Act.put, lsa, lsz, lss, i64_w, i32_w]
            rfl
           refine pure_ (i := 12) (N := some 28) (v := ?_) (a' := ?_) #[true, true, true, true, true, true, true, true, true, true, true, true, true, false, false, false, false, false, false, false, false, false, false] rfl rfl (any_of HT_.out (by kernel_rfl)) (fun _ _ _ h => h) (Or.inl ⟨by rfl, ?_⟩) ?_ ?_
           rotate_left
           ·
            intro w'
            go_simp
            with_reducible rfl
           rotate_left
           ·
            simp only [Act.put, lsa, lsz, lss, i64_w, i32_w]
            rfl
           refine pure_ (i := 13) (N := some 29) (v := undef) (a' := ?_) #[true, true, true, true, true, true, true, true, true, true, true, true, true, true, false, false, false, false, false, false, false, false, false] rfl rfl (any_of HT_.out (by kernel_rfl)) (fun _ _ _ h => h) (Or.inr ⟨by rfl, rfl⟩) ?_ ?_
           rotate_left
           ·
            simp only [Act.put, lsa, lsz, lss, i64_w, i32_w]
            rfl
           refine pure_ (i := 14) (N := some 30) (v := undef) (a' := ?_) #[true, true, true, true, true, true, true, true, true, true, true, true, true, true, true, false, false, false, false, false, false, false, false] rfl rfl (any_of HT_.out (by kernel_rfl)) (fun _ _ _ h => h) (Or.inr ⟨by rfl, rfl⟩) ?_ ?_
           rotate_left
           ·
            simp only [Act.put, lsa, lsz, lss, i64_w, i32_w]
            rfl
           refine pure_ (i := 15) (N := some 31) (v := undef) (a' := ?_) #[true, true, true, true, true, true, true, true, true, true, true, true, true, true, true, true, false, false, false, false, false, false, false] rfl rfl (any_of HT_.out (by kernel_rfl)) (fun _ _ _ h => h) (Or.inr ⟨by rfl, rfl⟩) ?_ ?_
           rotate_left
           ·
            simp only [Act.put, lsa, lsz, lss, i64_w, i32_w]
            rfl
           refine pure_ (i := 16) (N := some 32) (v := undef) (a' := ?_) #[true, true, true, true, true, true, true, true, true, true, true, true, true, true, true, true, true, false, false, false, false, false, false] rfl rfl (any_of HT_.out (by kernel_rfl)) (fun _ _ _ h => h) (Or.inr ⟨by rfl, rfl⟩) ?_ ?_
           rotate_left
           ·
            simp only [Act.put, lsa, lsz, lss, i64_w, i32_w]
            rfl
           refine pure_ (i := 17) (N := some 33) (v := undef) (a' := ?_) #[true, true, true, true, true, true, true, true, true, true, true, true, true, true, true, true, true, true, false, false, false, false, false] rfl rfl (any_of HT_.out (by kernel_rfl)) (fun _ _ _ h => h) (Or.inr ⟨by rfl, rfl⟩) ?_ ?_
           rotate_left
           ·
            simp only [Act.put, lsa, lsz, lss, i64_w, i32_w]
            rfl
           refine pure_ (i := 18) (N := some 34) (v := undef) (a' := ?_) #[true, true, true, true, true, true, true, true, true, true, true, true, true, true, true, true, true, true, true, false, false, false, false] rfl rfl (any_of HT_.out (by kernel_rfl)) (fun _ _ _ h => h) (Or.inr ⟨by rfl, rfl⟩) ?_ ?_
           rotate_left
           ·
            simp only [Act.put, lsa, lsz, lss, i64_w, i32_w]
            rfl
           refine pure_ (i := 19) (N := some 35) (v := undef) (a' := ?_) #[true, true, true, true, true, true, true, true, true, true, true, true, true, true, true, true, true, true, true, true, false, false, false] rfl rfl (any_of HT_.out (by kernel_rfl)) (fun _ _ _ h => h) (Or.inr ⟨by rfl, rfl⟩) ?_ ?_
           rotate_left
           ·
            simp only [Act.put, lsa, lsz, lss, i64_w, i32_w]
            rfl
           refine pure_ (i := 20) (N := some 36) (v := undef) (a' := ?_) #[true, true, true, true, true, true, true, true, true, true, true, true, true, true, true, true, true, true, true, true, true, false, false] rfl rfl (any_of HT_.out (by kernel_rfl)) (fun _ _ _ h => h) (Or.inr ⟨by rfl, rfl⟩) ?_ ?_
           rotate_left
           ·
            simp only [Act.put, lsa, lsz, lss, i64_w, i32_w]
            rfl
           refine pure_ (i := 21) (N := some 37) (v := ?_) (a' := ?_) #[true, true, true, true, true, true, true, true, true, true, true, true, true, true, true, true, true, true, true, true, true, true, false] rfl rfl (any_of HT_.out (by kernel_rfl)) (fun _ _ _ h => h) (Or.inl ⟨by rfl, ?_⟩) ?_ ?_
           rotate_left
           ·
            intro w'
            go_simp
            with_reducible rfl
           rotate_left
           ·
            simp only [Act.put, lsa, lsz, lss, i64_w, i32_w]
            rfl
           refine pure_ (i := 22) (N := some 8) (v := ?_) (a' := ?_) #[true, true, true, true, true, true, true, true, true, true, true, true, true, true, true, true, true, true, true, true, true, true, true] rfl rfl (any_of HT_.out (by kernel_rfl)) (fun _ _ _ h => h) (Or.inl ⟨by rfl, ?_⟩) ?_ ?_
           rotate_left
           ·
            intro w'
            go_simp
            with_reducible rfl
           rotate_left
           ·
            simp only [Act.put, lsa, lsz, lss, i64_w, i32_w]
            rfl
           refine done_ (done_of HT_.out (by kernel_rfl)) ?_
           try go_wp2
           go_meet
           case rel => exact ⟨_, (true), (by first | rfl | (simp; done) | (simp [*]; done) | (simp; exact (by decide : ∀ a_ b_ : Bool, (a_ == b_) = (!a_ != b_)) _ _)), H', ⟨by have := HK1.out; first | omega | exact Nat.le_refl _⟩, ⟨by (with_reducible repeat (first | apply Kd.R_alloc | apply Kd.R_drewN | apply Kd.R_drew)); exact HO_5.out⟩, ⟨by (with_reducible repeat (first | refine blk_drewN ?_ _ | refine blk_drew ?_ | refine blk_alloc ?_ _)); exact BK130.out⟩, ⟨by repeat (first | (with_reducible first | exact HB.out | apply bal | apply bdN | apply bdo | refine below_set ?_ GE130.out) | exact HB.out)⟩⟩
         ·
          rw [if_neg c14] at H
          exact absurd H (by simp)
        ·
         rw [if_neg c13] at H
         exact absurd H (by simp)
      case rest =>
       clear HC6; (try clear c1); (try clear p1); (try clear q1); (try clear hx1); (try clear p2); (try clear c3); (try clear p6); (try clear c9); (try clear c9b0); (try clear c9b1); (try clear c13); (try clear c13b0); (try clear p13); (try clear q13); (try clear hx13); (try clear c14); (try clear c14b0); (try clear c16); (try clear hx131_0); (try clear hx131_1); (try clear hx131_2); (try clear hx131_3); (try clear hx131_4); (try clear hx133_0); (try clear hx133_1); (try clear hx133_2); (try clear hx133_3); (try clear hx133_4); (try clear p131); (try clear p133); (try clear q131); (try clear q133)
       obtain ⟨kq, x8_5, rfl, HA, HJ5, HO_5, BK130, HB⟩ := hcut
       cases kq with
       | zero => exact absurd HA.out (by simp [merge_Clean.j1])
       | succ kj5 =>
        have H := HA.out; clear HA
        simp only [merge_Clean.j1] at H
        have HC23 := aS H
        clear H
        go_upto_region 6 with (fail)
        go_cut [49] (fun v49 wc => ∃ (kq : Nat) (x49_22 : Bool), v49 = .bool x49_22 ∧ Aside0 (merge_Clean.j2 kq l0 a1 x5_1 l0 (l0.length : Int) x11_1 x49_22 ((rd_T35 l0 x11_1).f0) ((rd_T35 l0 x11_1).f1) ((rd_T35 l0 x11_1).f2) ((rd_T35 l0 x11_1).f3) ((rd_T35 l0 x11_1).f4) = some r) ∧ Aside0 (kq ≤ kj5) ∧ Aside0 (Kd.R k35 35 wc w.heap.size (fun k_ => k_ ≠ gb130) u5 x5_1) ∧ Aside0 (wc.heap[gb130]? = some (.cells #[.string ((rd_T35 l0 x11_1).f0), .string ((rd_T35 l0 x11_1).f1), .int .i64 ((rd_T35 l0 x11_1).f2), .string ((rd_T35 l0 x11_1).f3), .bool ((rd_T35 l0 x11_1).f4)] 35 (0, 0))) ∧ Aside0 (Below w.heap.size w wc))
        case first =>
         have H := HC23.out; clear HC23
         by_cases c24 : ((rd_T35 l0 x11_1).f2) > a1
         ·
          rw [if_pos c24] at H
          have c24b0 : decide (a1 < ((rd_T35 l0 x11_1).f2)) = true := decide_eq_true c24
          clear c24
          (first | rw [c24b0] | (simp only [i64_w, i32_w]; rw [c24b0]) | skip)
          have H' := aS H
          clear H
          have hcz25_0 : wc.cell? ⟨gb130, 0, none⟩ = some (.string ((rd_T35 l0 x11_1).f0)) := (blk_cell BK130.out 0).trans rfl
          have hcz25_1 : wc.cell? ⟨gb130, 1, none⟩ = some (.string ((rd_T35 l0 x11_1).f1)) := (blk_cell BK130.out 1).trans rfl
          have hcz25_2 : wc.cell? ⟨gb130, 2, none⟩ = some (.int .i64 ((rd_T35 l0 x11_1).f2)) := (blk_cell BK130.out 2).trans rfl
          have hcz25_3 : wc.cell? ⟨gb130, 3, none⟩ = some (.string ((rd_T35 l0 x11_1).f3)) := (blk_cell BK130.out 3).trans rfl
          have hcz25_4 : wc.cell? ⟨gb130, 4, none⟩ = some (.bool ((rd_T35 l0 x11_1).f4)) := (blk_cell BK130.out 4).trans rfl
          have hfz25_0 := blk_frozen BK130.out 0
          have hfz25_1 := blk_frozen BK130.out 1
          have hfz25_2 := blk_frozen BK130.out 2
          have hfz25_3 := blk_frozen BK130.out 3
          have hfz25_4 := blk_frozen BK130.out 4
          go_wp2
          go_meet
          case rel => exact ⟨_, (true), (by first | rfl | (simp; done) | (simp [*]; done) | (simp; exact (by decide : ∀ a_ b_ : Bool, (a_ == b_) = (!a_ != b_)) _ _)), H', ⟨by have := HK1.out; have := HJ5.out; first | omega | exact Nat.le_refl _⟩, ⟨by (with_reducible repeat (first | apply Kd.R_alloc | apply Kd.R_drewN | apply Kd.R_drew)); exact HO_5.out⟩, ⟨by (with_reducible repeat (first | refine blk_drewN ?_ _ | refine blk_drew ?_ | refine blk_alloc ?_ _)); exact BK130.out⟩, ⟨by repeat (first | (with_reducible first | exact HB.out | apply bal | apply bdN | apply bdo | refine below_set ?_ GE130.out) | exact HB.out)⟩⟩
         ·
          rw [if_neg c24] at H
          have c24b0 : decide (a1 < ((rd_T35 l0 x11_1).f2)) = false := decide_eq_false c24
          clear c24
          (first | rw [c24b0] | (simp only [i64_w, i32_w]; rw [c24b0]) | skip)
          by_cases c26 : x8_5 = true
          ·
           subst c26
           have H1 : (merge_Clean.j2 kj5 l0 a1 x5_1 l0 (l0.length : Int) x11_1 (!((rd_T35 l0 x11_1).f4)) ((rd_T35 l0 x11_1).f0) ((rd_T35 l0 x11_1).f1) ((rd_T35 l0 x11_1).f2) ((rd_T35 l0 x11_1).f3) ((rd_T35 l0 x11_1).f4)) = some r := by rw [if_pos rfl] at H; exact H
           clear H; have H := H1; clear H1
           have H' := aS H
           clear H
           have hcz27_0 : wc.cell? ⟨gb130, 0, none⟩ = some (.string ((rd_T35 l0 x11_1).f0)) := (blk_cell BK130.out 0).trans rfl
           have hcz27_1 : wc.cell? ⟨gb130, 1, none⟩ = some (.string ((rd_T35 l0 x11_1).f1)) := (blk_cell BK130.out 1).trans rfl
           have hcz27_2 : wc.cell? ⟨gb130, 2, none⟩ = some (.int .i64 ((rd_T35 l0 x11_1).f2)) := (blk_cell BK130.out 2).trans rfl
           have hcz27_3 : wc.cell? ⟨gb130, 3, none⟩ = some (.string ((rd_T35 l0 x11_1).f3)) := (blk_cell BK130.out 3).trans rfl
           have hcz27_4 : wc.cell? ⟨gb130, 4, none⟩ = some (.bool ((rd_T35 l0 x11_1).f4)) := (blk_cell BK130.out 4).trans rfl
           have hfz27_0 := blk_frozen BK130.out 0
           have hfz27_1 := blk_frozen BK130.out 1
           have hfz27_2 := blk_frozen BK130.out 2
           have hfz27_3 := blk_frozen BK130.out 3
           have hfz27_4 := blk_frozen BK130.out 4
           go_wp2
           go_meet
           case rel => exact ⟨_, (!((rd_T35 l0 x11_1).f4)), (by first | rfl | (simp; done) | (simp [*]; done) | (simp; exact (by decide : ∀ a_ b_ : Bool, (a_ == b_) = (!a_ != b_)) _ _)), H', ⟨by have := HK1.out; have := HJ5.out; first | omega | exact Nat.le_refl _⟩, ⟨by (with_reducible repeat (first | apply Kd.R_alloc | apply Kd.R_drewN | apply Kd.R_drew)); exact HO_5.out⟩, ⟨by (with_reducible repeat (first | refine blk_drewN ?_ _ | refine blk_drew ?_ | refine blk_alloc ?_ _)); exact BK130.out⟩, ⟨by repeat (first | (with_reducible first | exact HB.out | apply bal | apply bdN | apply bdo | refine below_set ?_ GE130.out) | exact HB.out)⟩⟩
          ·
           replace c26 := Bool.eq_false_iff.mpr c26
           subst c26
           have H1 : (merge_Clean.j2 kj5 l0 a1 x5_1 l0 (l0.length : Int) x11_1 false ((rd_T35 l0 x11_1).f0) ((rd_T35 l0 x11_1).f1) ((rd_T35 l0 x11_1).f2) ((rd_T35 l0 x11_1).f3) ((rd_T35 l0 x11_1).f4)) = some r := by rw [if_neg (show ¬ (false = true) by decide)] at H; exact H
           clear H; have H := H1; clear H1
           have H' := aS H
           clear H
           have hcz28_0 : wc.cell? ⟨gb130, 0, none⟩ = some (.string ((rd_T35 l0 x11_1).f0)) := (blk_cell BK130.out 0).trans rfl
           have hcz28_1 : wc.cell? ⟨gb130, 1, none⟩ = some (.string ((rd_T35 l0 x11_1).f1)) := (blk_cell BK130.out 1).trans rfl
           have hcz28_2 : wc.cell? ⟨gb130, 2, none⟩ = some (.int .i64 ((rd_T35 l0 x11_1).f2)) := (blk_cell BK130.out 2).trans rfl
           have hcz28_3 : wc.cell? ⟨gb130, 3, none⟩ = some (.string ((rd_T35 l0 x11_1).f3)) := (blk_cell BK130.out 3).trans rfl
           have hcz28_4 : wc.cell? ⟨gb130, 4, none⟩ = some (.bool ((rd_T35 l0 x11_1).f4)) := (blk_cell BK130.out 4).trans rfl
           have hfz28_0 := blk_frozen BK130.out 0
           have hfz28_1 := blk_frozen BK130.out 1
           have hfz28_2 := blk_frozen BK130.out 2
           have hfz28_3 := blk_frozen BK130.out 3
           have hfz28_4 := blk_frozen BK130.out 4
           go_wp2
           go_meet
           case rel => exact ⟨_, (false), (by first | rfl | (simp; done) | (simp [*]; done) | (simp; exact (by decide : ∀ a_ b_ : Bool, (a_ == b_) = (!a_ != b_)) _ _)), H', ⟨by have := HK1.out; have := HJ5.out; first | omega | exact Nat.le_refl _⟩, ⟨by (with_reducible repeat (first | apply Kd.R_alloc | apply Kd.R_drewN | apply Kd.R_drew)); exact HO_5.out⟩, ⟨by (with_reducible repeat (first | refine blk_drewN ?_ _ | refine blk_drew ?_ | refine blk_alloc ?_ _)); exact BK130.out⟩, ⟨by repeat (first | (with_reducible first | exact HB.out | apply bal | apply bdN | apply bdo | refine below_set ?_ GE130.out) | exact HB.out)⟩⟩
        case rest =>
         clear HC23; (try clear c1); (try clear p1); (try clear q1); (try clear hx1); (try clear c2); (try clear p2); (try clear c3); (try clear p6); (try clear c9); (try clear c9b0); (try clear c9b1); (try clear c13); (try clear c13b0); (try clear p13); (try clear q13); (try clear hx13); (try clear c14); (try clear c14b0); (try clear c16); (try clear c24); (try clear c24b0); (try clear c26); (try clear hcz25_0); (try clear hcz25_1); (try clear hcz25_2); (try clear hcz25_3); (try clear hcz25_4); (try clear hcz27_0); (try clear hcz27_1); (try clear hcz27_2); (try clear hcz27_3); (try clear hcz27_4); (try clear hcz28_0); (try clear hcz28_1); (try clear hcz28_2); (try clear hcz28_3); (try clear hcz28_4); (try clear hfz25_0); (try clear hfz25_1); (try clear hfz25_2); (try clear hfz25_3); (try clear hfz25_4); (try clear hfz27_0); (try clear hfz27_1); (try clear hfz27_2); (try clear hfz27_3); (try clear hfz27_4); (try clear hfz28_0); (try clear hfz28_1); (try clear hfz28_2); (try clear hfz28_3); (try clear hfz28_4); (try clear hx131_0); (try clear hx131_1); (try clear hx131_2); (try clear hx131_3); (try clear hx131_4); (try clear hx133_0); (try clear hx133_1); (try clear hx133_2); (try clear hx133_3); (try clear hx133_4); (try clear p1); (try clear p13); (try clear p131); (try clear p133); (try clear p2); (try clear p6); (try clear q1); (try clear q13); (try clear q131); (try clear q133)
         obtain ⟨kq, x49_22, rfl, HA, HJ22, HO_5, BK130, HB⟩ := hcut
         cases kq with
         | zero => exact absurd HA.out (by simp [merge_Clean.j2])
         | succ kj22 =>
          have H := HA.out; clear HA
          simp only [merge_Clean.j2] at H
          by_cases c29 : x49_22 = true
          ·
           subst c29
           have H1 : (if x5_1.length < 2199023255552 then (merge_Clean.l0 kj22 l0 a1 (x5_1 ++ [(⟨((rd_T35 l0 x11_1).f0), ((rd_T35 l0 x11_1).f1), ((rd_T35 l0 x11_1).f2), ((rd_T35 l0 x11_1).f3), ((rd_T35 l0 x11_1).f4)⟩ : S35)]) l0 (l0.length : Int) (wrap64 (x11_1 + 1))) else (none)) = some r := by rw [if_pos rfl] at H; exact H
           clear H; have H := H1; clear H1
           by_cases c30 : x5_1.length < 2199023255552
           ·
            rw [if_pos c30] at H
            have LMc30 := aS c30
            clear c30
            obtain ⟨y134, hy134⟩ : ∃ y_ : List (S35), y_ = (x5_1 ++ [(⟨((rd_T35 l0 x11_1).f0), ((rd_T35 l0 x11_1).f1), ((rd_T35 l0 x11_1).f2), ((rd_T35 l0 x11_1).f3), ((rd_T35 l0 x11_1).f4)⟩ : S35)]) := ⟨_, rfl⟩
            replace H : (merge_Clean.l0 kj22 l0 a1 y134 l0 (l0.length : Int) (wrap64 (x11_1 + 1))) = some r := by first | (rw [hy134]; with_reducible exact H) | (have H2_ := (Option.bind_some _ _).symm.trans H; rw [hy134]; with_reducible exact H2_) | (have H2_ := (Option.bind_some _ _).symm.trans H; with_reducible exact H2_) | with_reducible exact H | (rw [hy134]; exact H) | exact H
            have Ny134 := aS hy134
            clear hy134
            have H' := aS H
            clear H
            have hcz31_0 : wc.cell? ⟨gb130, 0, none⟩ = some (.string ((rd_T35 l0 x11_1).f0)) := (blk_cell BK130.out 0).trans rfl
            have hcz31_1 : wc.cell? ⟨gb130, 1, none⟩ = some (.string ((rd_T35 l0 x11_1).f1)) := (blk_cell BK130.out 1).trans rfl
            have hcz31_2 : wc.cell? ⟨gb130, 2, none⟩ = some (.int .i64 ((rd_T35 l0 x11_1).f2)) := (blk_cell BK130.out 2).trans rfl
            have hcz31_3 : wc.cell? ⟨gb130, 3, none⟩ = some (.string ((rd_T35 l0 x11_1).f3)) := (blk_cell BK130.out 3).trans rfl
            have hcz31_4 : wc.cell? ⟨gb130, 4, none⟩ = some (.bool ((rd_T35 l0 x11_1).f4)) := (blk_cell BK130.out 4).trans rfl
            have hfz31_0 := blk_frozen BK130.out 0
            have hfz31_1 := blk_frozen BK130.out 1
            have hfz31_2 := blk_frozen BK130.out 2
            have hfz31_3 := blk_frozen BK130.out 3
            have hfz31_4 := blk_frozen BK130.out 4
            go_wp2_with (first | ((with_reducible refine gate_builtin (b := .append) (xs := #[.tmp 50, .tmp 52]) rfl ?_); at_builtin; refine Kd.R_append k35 (w0 := w) w.heap.size rfl (.tmp 50) (.tmp 52) 27 35 (.agg #[(.string ⟨#[]⟩), (.string ⟨#[]⟩), (.int .i64 0), (.string ⟨#[]⟩), (.bool false)]) 64 rfl Try.underlying27 info35 rfl (by decide) (by omega) u5 x5_1 (⟨((rd_T35 l0 x11_1).f0), ((rd_T35 l0 x11_1).f1), ((rd_T35 l0 x11_1).f2), ((rd_T35 l0 x11_1).f3), ((rd_T35 l0 x11_1).f4)⟩ : S35) [.string ((rd_T35 l0 x11_1).f0), .string ((rd_T35 l0 x11_1).f1), .int .i64 ((rd_T35 l0 x11_1).f2), .string ((rd_T35 l0 x11_1).f3), .bool ((rd_T35 l0 x11_1).f4)] (fun k_ => k_ ≠ gb130) (fun _ => False) rfl rfl ?aP (fun _ hk => hk.elim) ?aF ?aO ?aB ?aS ?aL ?_; (case aP => exact k35_mkM _ _ _ (⟨((rd_T35 l0 x11_1).f0), ((rd_T35 l0 x11_1).f1), ((rd_T35 l0 x11_1).f2), ((rd_T35 l0 x11_1).f3), ((rd_T35 l0 x11_1).f4)⟩ : S35)); (case aB => exact (by repeat (first | (with_reducible first | exact HB.out | apply bal | apply bdN | apply bdo | refine below_set ?_ GE130.out) | exact HB.out))); (case aF => exact (fun k_ hk => Kd.freshB (g := gb130) (o := .cells #[.string ((rd_T35 l0 x11_1).f0), .string ((rd_T35 l0 x11_1).f1), .int .i64 ((rd_T35 l0 x11_1).f2), .string ((rd_T35 l0 x11_1).f3), .bool ((rd_T35 l0 x11_1).f4)] 35 (0, 0)) (by (with_reducible repeat (first | refine blk_drewN ?_ _ | refine blk_drew ?_ | refine blk_alloc ?_ _)); exact BK130.out) k_ hk)); (case aO => exact (by (with_reducible repeat (first | apply Kd.R_alloc | apply Kd.R_drewN | apply Kd.R_drew)); exact HO_5.out)); (case aS => exact (below_size (by repeat (first | (with_reducible first | exact HB.out | apply bal | apply bdN | apply bdo | refine below_set ?_ GE130.out) | exact HB.out)))); (case aL => have := LMc30.out; omega); intro v135 w32 ho hb hg hat; rw [← Ny134.out] at ho; have n0_ := aS (blk_grown (g := gb130) (o := .cells #[.string ((rd_T35 l0 x11_1).f0), .string ((rd_T35 l0 x11_1).f1), .int .i64 ((rd_T35 l0 x11_1).f2), .string ((rd_T35 l0 x11_1).f3), .bool ((rd_T35 l0 x11_1).f4)] 35 (0, 0)) (by (with_reducible repeat (first | refine blk_drewN ?_ _ | refine blk_drew ?_ | refine blk_alloc ?_ _)); exact BK130.out) hg (Kd.R_away HO_5.out (fun _ hk => hk))); have n1_ := aS (hb); have n2_ := aS (ho); clear BK130; clear HB; clear HO_5; have BK130 := n0_; have HB := n1_; have HO136 := n2_; clear n0_ n1_ n2_; clear ho hb hg hat))
            go_roundg kj22
            case measure => have := HK1.out; have := HJ5.out; have := HJ22.out; omega
            case rel => exact ⟨(y134), (wrap64 (x11_1 + 1)), (by first | rfl | (simp; done) | (simp [*]; done) | (simp; exact (by decide : ∀ a_ b_ : Bool, (a_ == b_) = (!a_ != b_)) _ _)), H', ⟨by have := HK1.out; have := HJ5.out; have := HJ22.out; omega⟩, ⟨by (with_reducible repeat (first | apply Kd.R_alloc | apply Kd.R_drewN | apply Kd.R_drew)); exact Kd.R_mono HO136.out (fun _ hk => trivial)⟩, ⟨by repeat (first | (with_reducible first | exact HB.out | apply bal | apply bdN | apply bdo | refine below_set ?_ GE130.out) | exact HB.out)⟩⟩
           ·
            rw [if_neg c30] at H
            exact absurd H (by simp)
          ·
           replace c29 := Bool.eq_false_iff.mpr c29
           subst c29
           have H1 : (merge_Clean.l0 kj22 l0 a1 x5_1 l0 (l0.length : Int) (wrap64 (x11_1 + 1))) = some r := by rw [if_neg (show ¬ (false = true) by decide)] at H; exact H
           clear H; have H := H1; clear H1
           have H' := aS H
           clear H
           go_wp2
           go_roundg kj22
           case measure => have := HK1.out; have := HJ5.out; have := HJ22.out; omega
           case rel => exact ⟨(x5_1), (wrap64 (x11_1 + 1)), (by first | rfl | (simp; done) | (simp [*]; done) | (simp; exact (by decide : ∀ a_ b_ : Bool, (a_ == b_) = (!a_ != b_)) _ _)), H', ⟨by have := HK1.out; have := HJ5.out; have := HJ22.out; omega⟩, ⟨by (with_reducible repeat (first | apply Kd.R_alloc | apply Kd.R_drewN | apply Kd.R_drew)); exact Kd.R_mono HO_5.out (fun _ hk => trivial)⟩, ⟨by repeat (first | (with_reducible first | exact HB.out | apply bal | apply bdN | apply bdo | refine below_set ?_ GE130.out) | exact HB.out)⟩⟩
     ·
      rw [if_neg c5] at H
      exact absurd H (by simp)
    ·
     rw [if_neg c4] at H
     exact absurd H (by simp)
   ·
    rw [if_neg c3] at H
    have c3b0 : decide (x11_1 < (l0.length : Int)) = false := decide_eq_false c3
    clear c3
    obtain rfl := Option.some.inj H
    go_wp2
    go_ret
    exact ⟨_, by first | rfl | (simp [errW_none, errW_some] <;> rfl) | (simp [*, errW_none, errW_some] <;> rfl), by (with_reducible repeat (first | apply Kd.R_alloc | apply Kd.R_drewN | apply Kd.R_drew)); exact HO_5.out, by repeat (first | (with_reducible first | exact HB.out | apply bal | apply bdN | apply bdo) | exact HB.out)⟩

end Go.Proofs.Ythphffimgmbhgaa.X
