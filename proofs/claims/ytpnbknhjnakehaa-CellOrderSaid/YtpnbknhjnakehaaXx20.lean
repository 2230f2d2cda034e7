-- written by a program of this session's, over the kit's print
import Derived.Test.YtpnbknhjnakehaaXx0
import Derived.Test.YtpnbknhjnakehaaXx6
import Derived.Test.YtpnbknhjnakehaaXx15
namespace Go.Proofs.Ytpnbknhjnakehaa.X
open Go.RowKit Go.Proofs.YtpnbknhjnakehaaW.PrintWords Go.Proofs.YtpnbknhjnakehaaW.PrintLast Go.Proofs.YtpnbknhjnakehaaW.PrintMore
attribute [local go_sem] max2_int min2_int max_two min_two max_three min_three max_four min_four gtr_str   -- for this text's walks alone
set_option linter.unusedVariables false
set_option linter.unusedSimpArgs false

/-! ### shardloglaw08_CellOrder: function 4 -/
mutual
def shardloglaw08_CellOrder.j0 : Nat → Bool → ByteArray → ByteArray → Int → ByteArray → Bool → ByteArray → ByteArray → Int → ByteArray → Bool → ByteArray → ByteArray → Int → ByteArray → Bool → Option (Bool)
  | 0, _, _, _, _, _, _, _, _, _, _, _, _, _, _, _, _ => none
  | k + 1, x25, x275000, x275001, x275002, x275003, x275004, x276000, x276001, x276002, x276003, x276004, x277000, x277001, x277002, x277003, x277004 => if x25 = true then ((shardloglaw08_awake.f k).bind fun t281 => (some t281)) else ((cell_Compare.f k x275000 x275001 x275002 x275003 x275004 x276000 x276001 x276002 x276003 x276004).bind fun t282 => ((cell_Compare.f k x276000 x276001 x276002 x276003 x276004 x277000 x277001 x277002 x277003 x277004).bind fun t283 => ((cell_Compare.f k x276000 x276001 x276002 x276003 x276004 x275000 x275001 x275002 x275003 x275004).bind fun t284 => (if t282 = (wrap64 (-t284)) then (if x275000.toList = x276000.toList then (if x275001.toList = x276001.toList then (shardloglaw08_CellOrder.j1 k t282 t283 ((t282 == 0) != (x275002 == x276002)) x275000 x275001 x275002 x275003 x275004 x277000 x277001 x277002 x277003 x277004) else (shardloglaw08_CellOrder.j1 k t282 t283 ((t282 == 0) != false) x275000 x275001 x275002 x275003 x275004 x277000 x277001 x277002 x277003 x277004)) else (shardloglaw08_CellOrder.j1 k t282 t283 ((t282 == 0) != false) x275000 x275001 x275002 x275003 x275004 x277000 x277001 x277002 x277003 x277004)) else (shardloglaw08_CellOrder.j1 k t282 t283 true x275000 x275001 x275002 x275003 x275004 x277000 x277001 x277002 x277003 x277004)))))
def shardloglaw08_CellOrder.j1 : Nat → Int → Int → Bool → ByteArray → ByteArray → Int → ByteArray → Bool → ByteArray → ByteArray → Int → ByteArray → Bool → Option (Bool)
  | 0, _, _, _, _, _, _, _, _, _, _, _, _, _ => none
  | k + 1, x7, x8, x62, x275000, x275001, x275002, x275003, x275004, x277000, x277001, x277002, x277003, x277004 => if x62 = true then (none) else (if x7 ≤ 0 then (if x8 ≤ 0 then ((cell_Compare.f k x275000 x275001 x275002 x275003 x275004 x277000 x277001 x277002 x277003 x277004).bind fun t285 => (if t285 ≤ 0 then ((cell_Compare.f k x275000 x275001 x275002 x275003 x275004 x277000 x277001 x277002 x277003 x277004).bind fun t286 => (if t286 < 0 then (some true) else (if x7 = 0 then (some (x8 == 0)) else (none)))) else (none))) else (some true)) else (some true))
end
def shardloglaw08_CellOrder.f (k : Nat) (a0_0 : ByteArray) (a0_1 : ByteArray) (a0_2 : Int) (a0_3 : ByteArray) (a0_4 : Bool) (a1_0 : ByteArray) (a1_1 : ByteArray) (a1_2 : Int) (a1_3 : ByteArray) (a1_4 : Bool) (a2_0 : ByteArray) (a2_1 : ByteArray) (a2_2 : Int) (a2_3 : ByteArray) (a2_4 : Bool) : Option (Bool) := (shardloglaw08_awake.f k).bind fun t277 => (if t277 = true then ((shardloglaw08_small.f a0_0 a0_1 a0_2 a0_3 a0_4).bind fun t278 => (if t278 = true then ((shardloglaw08_small.f a1_0 a1_1 a1_2 a1_3 a1_4).bind fun t279 => (if t279 = true then ((shardloglaw08_small.f a2_0 a2_1 a2_2 a2_3 a2_4).bind fun t280 => (shardloglaw08_CellOrder.j0 k (!t280) a0_0 a0_1 a0_2 a0_3 a0_4 a1_0 a1_1 a1_2 a1_3 a1_4 a2_0 a2_1 a2_2 a2_3 a2_4)) else (shardloglaw08_CellOrder.j0 k true a0_0 a0_1 a0_2 a0_3 a0_4 a1_0 a1_1 a1_2 a1_3 a1_4 a2_0 a2_1 a2_2 a2_3 a2_4))) else (shardloglaw08_CellOrder.j0 k true a0_0 a0_1 a0_2 a0_3 a0_4 a1_0 a1_1 a1_2 a1_3 a1_4 a2_0 a2_1 a2_2 a2_3 a2_4))) else (shardloglaw08_CellOrder.j0 k true a0_0 a0_1 a0_2 a0_3 a0_4 a1_0 a1_1 a1_2 a1_3 a1_4 a2_0 a2_1 a2_2 a2_3 a2_4))
theorem shardloglaw08_CellOrder.mono_l : ∀ k, (∀ y0 y1 y2 y3 y4 y5 y6 y7 y8 y9 y10 y11 y12 y13 y14 y15, LeO (shardloglaw08_CellOrder.j0 k y0 y1 y2 y3 y4 y5 y6 y7 y8 y9 y10 y11 y12 y13 y14 y15) (shardloglaw08_CellOrder.j0 (k + 1) y0 y1 y2 y3 y4 y5 y6 y7 y8 y9 y10 y11 y12 y13 y14 y15)) ∧ (∀ y0 y1 y2 y3 y4 y5 y6 y7 y8 y9 y10 y11 y12, LeO (shardloglaw08_CellOrder.j1 k y0 y1 y2 y3 y4 y5 y6 y7 y8 y9 y10 y11 y12) (shardloglaw08_CellOrder.j1 (k + 1) y0 y1 y2 y3 y4 y5 y6 y7 y8 y9 y10 y11 y12))
  | 0 => ⟨fun _ _ _ _ _ _ _ _ _ _ _ _ _ _ _ _ r h => by simp [shardloglaw08_CellOrder.j0] at h, fun _ _ _ _ _ _ _ _ _ _ _ _ _ r h => by simp [shardloglaw08_CellOrder.j1] at h⟩
  | k + 1 => by
    obtain ⟨ih0, ih1⟩ := shardloglaw08_CellOrder.mono_l k
    refine ⟨?_, ?_⟩
    · intro y0 y1 y2 y3 y4 y5 y6 y7 y8 y9 y10 y11 y12 y13 y14 y15
      unfold shardloglaw08_CellOrder.j0
      repeat' first
      | (with_reducible exact ih0 _ _ _ _ _ _ _ _ _ _ _ _ _ _ _ _)
      | (with_reducible exact ih1 _ _ _ _ _ _ _ _ _ _ _ _ _)
      | (with_reducible exact cell_Compare.mono _ _ _ _ _ _ _ _ _ _ _)
      | (with_reducible exact shardloglaw08_awake.mono _)
      | (with_reducible exact LeO.refl _)
      | (with_reducible exact LeO.none _)
      | (with_reducible refine LeO.ite ?_ ?_)
      | (with_reducible refine LeO.bind ?_ (fun _ => ?_))
      | exact ih0 _ _ _ _ _ _ _ _ _ _ _ _ _ _ _ _
      | exact ih1 _ _ _ _ _ _ _ _ _ _ _ _ _
      | exact cell_Compare.mono _ _ _ _ _ _ _ _ _ _ _
      | exact shardloglaw08_awake.mono _
      | exact LeO.none _
      | refine LeO.ite ?_ ?_
      | refine LeO.bind ?_ (fun _ => ?_)
    · intro y0 y1 y2 y3 y4 y5 y6 y7 y8 y9 y10 y11 y12
      unfold shardloglaw08_CellOrder.j1
      repeat' first
      | (with_reducible exact ih0 _ _ _ _ _ _ _ _ _ _ _ _ _ _ _ _)
      | (with_reducible exact ih1 _ _ _ _ _ _ _ _ _ _ _ _ _)
      | (with_reducible exact cell_Compare.mono _ _ _ _ _ _ _ _ _ _ _)
      | (with_reducible exact shardloglaw08_awake.mono _)
      | (with_reducible exact LeO.refl _)
      | (with_reducible exact LeO.none _)
      | (with_reducible refine LeO.ite ?_ ?_)
      | (with_reducible refine LeO.bind ?_ (fun _ => ?_))
      | exact ih0 _ _ _ _ _ _ _ _ _ _ _ _ _ _ _ _
      | exact ih1 _ _ _ _ _ _ _ _ _ _ _ _ _
      | exact cell_Compare.mono _ _ _ _ _ _ _ _ _ _ _
      | exact shardloglaw08_awake.mono _
      | exact LeO.none _
      | refine LeO.ite ?_ ?_
      | refine LeO.bind ?_ (fun _ => ?_)
theorem shardloglaw08_CellOrder.mono : ∀ a0 a1 a2 a3 a4 a5 a6 a7 a8 a9 a10 a11 a12 a13 a14 k, LeO (shardloglaw08_CellOrder.f k a0 a1 a2 a3 a4 a5 a6 a7 a8 a9 a10 a11 a12 a13 a14) (shardloglaw08_CellOrder.f (k + 1) a0 a1 a2 a3 a4 a5 a6 a7 a8 a9 a10 a11 a12 a13 a14) := by
  intro a0 a1 a2 a3 a4 a5 a6 a7 a8 a9 a10 a11 a12 a13 a14 k
  obtain ⟨ih0, ih1⟩ := shardloglaw08_CellOrder.mono_l k
  unfold shardloglaw08_CellOrder.f
  repeat' first
      | (with_reducible exact ih0 _ _ _ _ _ _ _ _ _ _ _ _ _ _ _ _)
      | (with_reducible exact ih1 _ _ _ _ _ _ _ _ _ _ _ _ _)
      | (with_reducible exact cell_Compare.mono _ _ _ _ _ _ _ _ _ _ _)
      | (with_reducible exact shardloglaw08_awake.mono _)
      | (with_reducible exact LeO.refl _)
      | (with_reducible exact LeO.none _)
      | (with_reducible refine LeO.ite ?_ ?_)
      | (with_reducible refine LeO.bind ?_ (fun _ => ?_))
      | exact ih0 _ _ _ _ _ _ _ _ _ _ _ _ _ _ _ _
      | exact ih1 _ _ _ _ _ _ _ _ _ _ _ _ _
      | exact cell_Compare.mono _ _ _ _ _ _ _ _ _ _ _
      | exact shardloglaw08_awake.mono _
      | exact LeO.none _
      | refine LeO.ite ?_ ?_
      | refine LeO.bind ?_ (fun _ => ?_)
set_option maxHeartbeats 8000000 in
set_option maxRecDepth 100000 in
theorem shardloglaw08_CellOrder.calls (k : Nat) (a0_0 : ByteArray) (a0_1 : ByteArray) (a0_2 : Int) (a0_3 : ByteArray) (a0_4 : Bool) (a1_0 : ByteArray) (a1_1 : ByteArray) (a1_2 : Int) (a1_3 : ByteArray) (a1_4 : Bool) (a2_0 : ByteArray) (a2_1 : ByteArray) (a2_2 : Int) (a2_3 : ByteArray) (a2_4 : Bool) (r : Bool) (w : World) (h : shardloglaw08_CellOrder.f k a0_0 a0_1 a0_2 a0_3 a0_4 a1_0 a1_1 a1_2 a1_3 a1_4 a2_0 a2_1 a2_2 a2_3 a2_4 = some r) :
    Calls Try.prog 4 #[.agg #[.string a0_0, .string a0_1, .int .i64 a0_2, .string a0_3, .bool a0_4], .agg #[.string a1_0, .string a1_1, .int .i64 a1_2, .string a1_3, .bool a1_4], .agg #[.string a2_0, .string a2_1, .int .i64 a2_2, .string a2_3, .bool a2_4]] w fun e w' => e = .returned (.bool r) ∧ Below w.heap.size w w' := by
  have hu23 := Try.underlying23
  have HB := Aside0.mk (Below.refl w.heap.size w)
  have H : ((shardloglaw08_awake.f k).bind fun t277 => (if t277 = true then ((shardloglaw08_small.f a0_0 a0_1 a0_2 a0_3 a0_4).bind fun t278 => (if t278 = true then ((shardloglaw08_small.f a1_0 a1_1 a1_2 a1_3 a1_4).bind fun t279 => (if t279 = true then ((shardloglaw08_small.f a2_0 a2_1 a2_2 a2_3 a2_4).bind fun t280 => (shardloglaw08_CellOrder.j0 k (!t280) a0_0 a0_1 a0_2 a0_3 a0_4 a1_0 a1_1 a1_2 a1_3 a1_4 a2_0 a2_1 a2_2 a2_3 a2_4)) else (shardloglaw08_CellOrder.j0 k true a0_0 a0_1 a0_2 a0_3 a0_4 a1_0 a1_1 a1_2 a1_3 a1_4 a2_0 a2_1 a2_2 a2_3 a2_4))) else (shardloglaw08_CellOrder.j0 k true a0_0 a0_1 a0_2 a0_3 a0_4 a1_0 a1_1 a1_2 a1_3 a1_4 a2_0 a2_1 a2_2 a2_3 a2_4))) else (shardloglaw08_CellOrder.j0 k true a0_0 a0_1 a0_2 a0_3 a0_4 a1_0 a1_1 a1_2 a1_3 a1_4 a2_0 a2_1 a2_2 a2_3 a2_4))) = some r := h
  clear h
  have HC4 := Aside0.mk H
  clear H
  go_enter Try.func4, Try.ntmps4
  go_upto_region 1 with (first | ((with_reducible refine gate_dst (N := 3) rfl ?_); refine box_event ?hg (N := 3) ?hd (cs := #[.string a0_0, .string a0_1, .int .i64 a0_2, .string a0_3, .bool a0_4]) (t := 23) ?hr ?_; (case hd => rfl); (case hg => rfl); (case hr => first | (go_simp; done) | (go_simp; rfl)); intro gb274 hg w5 hbox hb; have n0_ := Aside0.mk (below_step (by repeat (first | (with_reducible first | exact HB.out | apply below_alloc | apply pw_below_drewN | apply below_drew1) | exact HB.out)) hb); have n1_ := Aside0.mk (hbox); have n2_ := Aside0.mk ((by rw [hg]; exact (below_size (by repeat (first | (with_reducible first | exact HB.out | apply below_alloc | apply pw_below_drewN | apply below_drew1) | exact HB.out))) : w.heap.size ≤ gb274)); have n3_ := Aside0.mk ((by rw [hg]; exact (below_size (by repeat (first | (with_reducible first | exact HB.out | apply below_alloc | apply pw_below_drewN | apply below_drew1) | exact HB.out))) : w.heap.size ≤ gb274)); clear HB; have HB := n0_; have BK274 := n1_; have GW274 := n2_; have GE274 := n3_; clear n0_ n1_ n2_ n3_; clear hb hbox hg) | ((with_reducible refine gate_dst (N := 4) rfl ?_); refine box_event ?hg (N := 4) ?hd (cs := #[.string a1_0, .string a1_1, .int .i64 a1_2, .string a1_3, .bool a1_4]) (t := 23) ?hr ?_; (case hd => rfl); (case hg => rfl); (case hr => first | (go_simp; done) | (go_simp; rfl)); intro gb275 hg w6 hbox hb; have n0_ := Aside0.mk (blk_below (g := gb274) (o := .cells #[.string a0_0, .string a0_1, .int .i64 a0_2, .string a0_3, .bool a0_4] 23 (0, 0)) (by (with_reducible repeat (first | refine blk_drewN ?_ _ | refine blk_drew ?_ | refine blk_alloc ?_ _)); exact BK274.out) hb); have n1_ := Aside0.mk (below_step (by repeat (first | (with_reducible first | exact HB.out | apply below_alloc | apply pw_below_drewN | apply below_drew1 | refine below_set ?_ GE274.out) | exact HB.out)) hb); have n2_ := Aside0.mk (hbox); have n3_ := Aside0.mk ((by rw [hg]; exact (below_size (by repeat (first | (with_reducible first | exact HB.out | apply below_alloc | apply pw_below_drewN | apply below_drew1 | refine below_set ?_ GE274.out) | exact HB.out))) : w.heap.size ≤ gb275)); have n4_ := Aside0.mk ((by rw [hg]; exact (below_size (by repeat (first | (with_reducible first | exact HB.out | apply below_alloc | apply pw_below_drewN | apply below_drew1 | refine below_set ?_ GE274.out) | exact HB.out))) : w.heap.size ≤ gb275)); have n5_ := Aside0.mk ((by rw [hg]; exact Nat.ne_of_lt (blk_lt (g := gb274) (o := .cells #[.string a0_0, .string a0_1, .int .i64 a0_2, .string a0_3, .bool a0_4] 23 (0, 0)) (by (with_reducible repeat (first | refine blk_drewN ?_ _ | refine blk_drew ?_ | refine blk_alloc ?_ _)); exact BK274.out)) : gb274 ≠ gb275)); have n6_ := Aside0.mk ((by rw [hg]; exact Nat.ne_of_gt (blk_lt (g := gb274) (o := .cells #[.string a0_0, .string a0_1, .int .i64 a0_2, .string a0_3, .bool a0_4] 23 (0, 0)) (by (with_reducible repeat (first | refine blk_drewN ?_ _ | refine blk_drew ?_ | refine blk_alloc ?_ _)); exact BK274.out)) : gb275 ≠ gb274)); clear BK274; clear HB; have BK274 := n0_; have HB := n1_; have BK275 := n2_; have GW275 := n3_; have GE275 := n4_; have NB274_275 := n5_; have NB275_274 := n6_; clear n0_ n1_ n2_ n3_ n4_ n5_ n6_; clear hb hbox hg) | ((with_reducible refine gate_dst (N := 5) rfl ?_); refine box_event ?hg (N := 5) ?hd (cs := #[.string a2_0, .string a2_1, .int .i64 a2_2, .string a2_3, .bool a2_4]) (t := 23) ?hr ?_; (case hd => rfl); (case hg => rfl); (case hr => first | (go_simp; done) | (go_simp; rfl)); intro gb276 hg w7 hbox hb; have n0_ := Aside0.mk (blk_below (g := gb274) (o := .cells #[.string a0_0, .string a0_1, .int .i64 a0_2, .string a0_3, .bool a0_4] 23 (0, 0)) (by (with_reducible repeat (first | refine blk_drewN ?_ _ | refine blk_drew ?_ | refine blk_alloc ?_ _)); exact BK274.out) hb); have n1_ := Aside0.mk (blk_below (g := gb275) (o := .cells #[.string a1_0, .string a1_1, .int .i64 a1_2, .string a1_3, .bool a1_4] 23 (0, 0)) (by (with_reducible repeat (first | refine blk_drewN ?_ _ | refine blk_drew ?_ | refine blk_alloc ?_ _)); exact BK275.out) hb); have n2_ := Aside0.mk (below_step (by repeat (first | (with_reducible first | exact HB.out | apply below_alloc | apply pw_below_drewN | apply below_drew1 | refine below_set ?_ GE274.out | refine below_set ?_ GE275.out) | exact HB.out)) hb); have n3_ := Aside0.mk (hbox); have n4_ := Aside0.mk ((by rw [hg]; exact (below_size (by repeat (first | (with_reducible first | exact HB.out | apply below_alloc | apply pw_below_drewN | apply below_drew1 | refine below_set ?_ GE274.out | refine below_set ?_ GE275.out) | exact HB.out))) : w.heap.size ≤ gb276)); have n5_ := Aside0.mk ((by rw [hg]; exact (below_size (by repeat (first | (with_reducible first | exact HB.out | apply below_alloc | apply pw_below_drewN | apply below_drew1 | refine below_set ?_ GE274.out | refine below_set ?_ GE275.out) | exact HB.out))) : w.heap.size ≤ gb276)); have n6_ := Aside0.mk ((by rw [hg]; exact Nat.ne_of_lt (blk_lt (g := gb274) (o := .cells #[.string a0_0, .string a0_1, .int .i64 a0_2, .string a0_3, .bool a0_4] 23 (0, 0)) (by (with_reducible repeat (first | refine blk_drewN ?_ _ | refine blk_drew ?_ | refine blk_alloc ?_ _)); exact BK274.out)) : gb274 ≠ gb276)); have n7_ := Aside0.mk ((by rw [hg]; exact Nat.ne_of_gt (blk_lt (g := gb274) (o := .cells #[.string a0_0, .string a0_1, .int .i64 a0_2, .string a0_3, .bool a0_4] 23 (0, 0)) (by (with_reducible repeat (first | refine blk_drewN ?_ _ | refine blk_drew ?_ | refine blk_alloc ?_ _)); exact BK274.out)) : gb276 ≠ gb274)); have n8_ := Aside0.mk ((by rw [hg]; exact Nat.ne_of_lt (blk_lt (g := gb275) (o := .cells #[.string a1_0, .string a1_1, .int .i64 a1_2, .string a1_3, .bool a1_4] 23 (0, 0)) (by (with_reducible repeat (first | refine blk_drewN ?_ _ | refine blk_drew ?_ | refine blk_alloc ?_ _)); exact BK275.out)) : gb275 ≠ gb276)); have n9_ := Aside0.mk ((by rw [hg]; exact Nat.ne_of_gt (blk_lt (g := gb275) (o := .cells #[.string a1_0, .string a1_1, .int .i64 a1_2, .string a1_3, .bool a1_4] 23 (0, 0)) (by (with_reducible repeat (first | refine blk_drewN ?_ _ | refine blk_drew ?_ | refine blk_alloc ?_ _)); exact BK275.out)) : gb276 ≠ gb275)); clear BK274; clear BK275; clear HB; have BK274 := n0_; have BK275 := n1_; have HB := n2_; have BK276 := n3_; have GW276 := n4_; have GE276 := n5_; have NB274_276 := n6_; have NB276_274 := n7_; have NB275_276 := n8_; have NB276_275 := n9_; clear n0_ n1_ n2_ n3_ n4_ n5_ n6_ n7_ n8_ n9_; clear hb hbox hg))
  (try simp only [Act.put, List.setIfInBounds_toArray, List.set_cons_zero, List.set_cons_succ])
  go_cut [25] (fun v25 wc => ∃ (kq : Nat) (x25_3 : Bool), v25 = .bool x25_3 ∧ Aside0 (shardloglaw08_CellOrder.j0 kq x25_3 a0_0 a0_1 a0_2 a0_3 a0_4 a1_0 a1_1 a1_2 a1_3 a1_4 a2_0 a2_1 a2_2 a2_3 a2_4 = some r) ∧ Aside0 (kq ≤ k) ∧ Aside0 (wc.heap[gb274]? = some (.cells #[.string a0_0, .string a0_1, .int .i64 a0_2, .string a0_3, .bool a0_4] 23 (0, 0))) ∧ Aside0 (wc.heap[gb275]? = some (.cells #[.string a1_0, .string a1_1, .int .i64 a1_2, .string a1_3, .bool a1_4] 23 (0, 0))) ∧ Aside0 (wc.heap[gb276]? = some (.cells #[.string a2_0, .string a2_1, .int .i64 a2_2, .string a2_3, .bool a2_4] 23 (0, 0))) ∧ Aside0 (Below w.heap.size w wc))
  case first =>
    have H := HC4.out
    clear HC4
    replace H := Option.bind_eq_some_iff.mp H
    obtain ⟨t277, A80, H⟩ := H
    replace H : (if t277 = true then ((shardloglaw08_small.f a0_0 a0_1 a0_2 a0_3 a0_4).bind fun t278 => (if t278 = true then ((shardloglaw08_small.f a1_0 a1_1 a1_2 a1_3 a1_4).bind fun t279 => (if t279 = true then ((shardloglaw08_small.f a2_0 a2_1 a2_2 a2_3 a2_4).bind fun t280 => (shardloglaw08_CellOrder.j0 k (!t280) a0_0 a0_1 a0_2 a0_3 a0_4 a1_0 a1_1 a1_2 a1_3 a1_4 a2_0 a2_1 a2_2 a2_3 a2_4)) else (shardloglaw08_CellOrder.j0 k true a0_0 a0_1 a0_2 a0_3 a0_4 a1_0 a1_1 a1_2 a1_3 a1_4 a2_0 a2_1 a2_2 a2_3 a2_4))) else (shardloglaw08_CellOrder.j0 k true a0_0 a0_1 a0_2 a0_3 a0_4 a1_0 a1_1 a1_2 a1_3 a1_4 a2_0 a2_1 a2_2 a2_3 a2_4))) else (shardloglaw08_CellOrder.j0 k true a0_0 a0_1 a0_2 a0_3 a0_4 a1_0 a1_1 a1_2 a1_3 a1_4 a2_0 a2_1 a2_2 a2_3 a2_4)) = some r := H
    have A8 := Aside0.mk A80
    clear A80
    by_cases c9 : t277 = true
    · subst c9
      have H1 : ((shardloglaw08_small.f a0_0 a0_1 a0_2 a0_3 a0_4).bind fun t278 => (if t278 = true then ((shardloglaw08_small.f a1_0 a1_1 a1_2 a1_3 a1_4).bind fun t279 => (if t279 = true then ((shardloglaw08_small.f a2_0 a2_1 a2_2 a2_3 a2_4).bind fun t280 => (shardloglaw08_CellOrder.j0 k (!t280) a0_0 a0_1 a0_2 a0_3 a0_4 a1_0 a1_1 a1_2 a1_3 a1_4 a2_0 a2_1 a2_2 a2_3 a2_4)) else (shardloglaw08_CellOrder.j0 k true a0_0 a0_1 a0_2 a0_3 a0_4 a1_0 a1_1 a1_2 a1_3 a1_4 a2_0 a2_1 a2_2 a2_3 a2_4))) else (shardloglaw08_CellOrder.j0 k true a0_0 a0_1 a0_2 a0_3 a0_4 a1_0 a1_1 a1_2 a1_3 a1_4 a2_0 a2_1 a2_2 a2_3 a2_4))) = some r := by rw [if_pos rfl] at H; exact H
      clear H
      have H := H1
      clear H1
      replace H := Option.bind_eq_some_iff.mp H
      obtain ⟨t278, A100, H⟩ := H
      replace H : (if t278 = true then ((shardloglaw08_small.f a1_0 a1_1 a1_2 a1_3 a1_4).bind fun t279 => (if t279 = true then ((shardloglaw08_small.f a2_0 a2_1 a2_2 a2_3 a2_4).bind fun t280 => (shardloglaw08_CellOrder.j0 k (!t280) a0_0 a0_1 a0_2 a0_3 a0_4 a1_0 a1_1 a1_2 a1_3 a1_4 a2_0 a2_1 a2_2 a2_3 a2_4)) else (shardloglaw08_CellOrder.j0 k true a0_0 a0_1 a0_2 a0_3 a0_4 a1_0 a1_1 a1_2 a1_3 a1_4 a2_0 a2_1 a2_2 a2_3 a2_4))) else (shardloglaw08_CellOrder.j0 k true a0_0 a0_1 a0_2 a0_3 a0_4 a1_0 a1_1 a1_2 a1_3 a1_4 a2_0 a2_1 a2_2 a2_3 a2_4)) = some r := H
      have A10 := Aside0.mk A100
      clear A100
      by_cases c11 : t278 = true
      · subst c11
        have H1 : ((shardloglaw08_small.f a1_0 a1_1 a1_2 a1_3 a1_4).bind fun t279 => (if t279 = true then ((shardloglaw08_small.f a2_0 a2_1 a2_2 a2_3 a2_4).bind fun t280 => (shardloglaw08_CellOrder.j0 k (!t280) a0_0 a0_1 a0_2 a0_3 a0_4 a1_0 a1_1 a1_2 a1_3 a1_4 a2_0 a2_1 a2_2 a2_3 a2_4)) else (shardloglaw08_CellOrder.j0 k true a0_0 a0_1 a0_2 a0_3 a0_4 a1_0 a1_1 a1_2 a1_3 a1_4 a2_0 a2_1 a2_2 a2_3 a2_4))) = some r := by rw [if_pos rfl] at H; exact H
        clear H
        have H := H1
        clear H1
        replace H := Option.bind_eq_some_iff.mp H
        obtain ⟨t279, A120, H⟩ := H
        replace H : (if t279 = true then ((shardloglaw08_small.f a2_0 a2_1 a2_2 a2_3 a2_4).bind fun t280 => (shardloglaw08_CellOrder.j0 k (!t280) a0_0 a0_1 a0_2 a0_3 a0_4 a1_0 a1_1 a1_2 a1_3 a1_4 a2_0 a2_1 a2_2 a2_3 a2_4)) else (shardloglaw08_CellOrder.j0 k true a0_0 a0_1 a0_2 a0_3 a0_4 a1_0 a1_1 a1_2 a1_3 a1_4 a2_0 a2_1 a2_2 a2_3 a2_4)) = some r := H
        have A12 := Aside0.mk A120
        clear A120
        by_cases c13 : t279 = true
        · subst c13
          have H1 : ((shardloglaw08_small.f a2_0 a2_1 a2_2 a2_3 a2_4).bind fun t280 => (shardloglaw08_CellOrder.j0 k (!t280) a0_0 a0_1 a0_2 a0_3 a0_4 a1_0 a1_1 a1_2 a1_3 a1_4 a2_0 a2_1 a2_2 a2_3 a2_4)) = some r := by rw [if_pos rfl] at H; exact H
          clear H
          have H := H1
          clear H1
          replace H := Option.bind_eq_some_iff.mp H
          obtain ⟨t280, A140, H⟩ := H
          replace H : (shardloglaw08_CellOrder.j0 k (!t280) a0_0 a0_1 a0_2 a0_3 a0_4 a1_0 a1_1 a1_2 a1_3 a1_4 a2_0 a2_1 a2_2 a2_3 a2_4) = some r := H
          have A14 := Aside0.mk A140
          clear A140
          have H' := Aside0.mk H
          clear H
          go_wp2_with (first | ((with_reducible refine gate_callee (f := 8) rfl ?_); refine goesL_ (some 9) rfl rfl Try.func8 (by kernel_rfl) rfl #[] rfl (by (try simp only [List.map_toArray, List.map_cons, List.map_nil]); first | done | rfl | (simp only [List.length_drop, List.length_take]; rfl)) ?_; (with_reducible refine (shardloglaw08_awake.calls k  true _ A8.out).mono ?_); rintro e w15 ⟨rfl, hb⟩; refine ⟨_, rfl, ?_⟩; have n0_ := Aside0.mk (blk_below (g := gb274) (o := .cells #[.string a0_0, .string a0_1, .int .i64 a0_2, .string a0_3, .bool a0_4] 23 (0, 0)) (by (with_reducible repeat (first | refine blk_drewN ?_ _ | refine blk_drew ?_ | refine blk_alloc ?_ _)); exact BK274.out) hb); have n1_ := Aside0.mk (blk_below (g := gb275) (o := .cells #[.string a1_0, .string a1_1, .int .i64 a1_2, .string a1_3, .bool a1_4] 23 (0, 0)) (by (with_reducible repeat (first | refine blk_drewN ?_ _ | refine blk_drew ?_ | refine blk_alloc ?_ _)); exact BK275.out) hb); have n2_ := Aside0.mk (blk_below (g := gb276) (o := .cells #[.string a2_0, .string a2_1, .int .i64 a2_2, .string a2_3, .bool a2_4] 23 (0, 0)) (by (with_reducible repeat (first | refine blk_drewN ?_ _ | refine blk_drew ?_ | refine blk_alloc ?_ _)); exact BK276.out) hb); have n3_ := Aside0.mk (below_step (by repeat (first | (with_reducible first | exact HB.out | apply below_alloc | apply pw_below_drewN | apply below_drew1 | refine below_set ?_ GE274.out | refine below_set ?_ GE275.out | refine below_set ?_ GE276.out) | exact HB.out)) hb); clear BK274; clear BK275; clear BK276; clear HB; have BK274 := n0_; have BK275 := n1_; have BK276 := n2_; have HB := n3_; clear n0_ n1_ n2_ n3_; (try clear hb); (try clear hb2); (try clear hk); (try clear hi); have hnb16 := NB274_275.out; have hnc16 := NB275_274.out; have hnb17 := NB274_276.out; have hnc17 := NB276_274.out; have hcz18_0 : w15.cell? ⟨gb274, 0, none⟩ = some (.string a0_0) := (blk_cell BK274.out 0).trans rfl; have hcz18_1 : w15.cell? ⟨gb274, 1, none⟩ = some (.string a0_1) := (blk_cell BK274.out 1).trans rfl; have hcz18_2 : w15.cell? ⟨gb274, 2, none⟩ = some (.int .i64 a0_2) := (blk_cell BK274.out 2).trans rfl; have hcz18_3 : w15.cell? ⟨gb274, 3, none⟩ = some (.string a0_3) := (blk_cell BK274.out 3).trans rfl; have hcz18_4 : w15.cell? ⟨gb274, 4, none⟩ = some (.bool a0_4) := (blk_cell BK274.out 4).trans rfl; have hfz18_0 := blk_frozen BK274.out 0; have hfz18_1 := blk_frozen BK274.out 1; have hfz18_2 := blk_frozen BK274.out 2; have hfz18_3 := blk_frozen BK274.out 3; have hfz18_4 := blk_frozen BK274.out 4) | (go_at_call 9; (with_reducible refine (shardloglaw08_small.calls a0_0 a0_1 a0_2 a0_3 a0_4 true _ A10.out).mono ?_); rintro e w19 ⟨rfl, hb⟩; have n0_ := Aside0.mk (blk_below (g := gb274) (o := .cells #[.string a0_0, .string a0_1, .int .i64 a0_2, .string a0_3, .bool a0_4] 23 (0, 0)) (by (with_reducible repeat (first | refine blk_drewN ?_ _ | refine blk_drew ?_ | refine blk_alloc ?_ _)); exact BK274.out) hb); have n1_ := Aside0.mk (blk_below (g := gb275) (o := .cells #[.string a1_0, .string a1_1, .int .i64 a1_2, .string a1_3, .bool a1_4] 23 (0, 0)) (by (with_reducible repeat (first | refine blk_drewN ?_ _ | refine blk_drew ?_ | refine blk_alloc ?_ _)); exact BK275.out) hb); have n2_ := Aside0.mk (blk_below (g := gb276) (o := .cells #[.string a2_0, .string a2_1, .int .i64 a2_2, .string a2_3, .bool a2_4] 23 (0, 0)) (by (with_reducible repeat (first | refine blk_drewN ?_ _ | refine blk_drew ?_ | refine blk_alloc ?_ _)); exact BK276.out) hb); have n3_ := Aside0.mk (below_step (by repeat (first | (with_reducible first | exact HB.out | apply below_alloc | apply pw_below_drewN | apply below_drew1 | refine below_set ?_ GE274.out | refine below_set ?_ GE275.out | refine below_set ?_ GE276.out) | exact HB.out)) hb); clear BK274; clear BK275; clear BK276; clear HB; have BK274 := n0_; have BK275 := n1_; have BK276 := n2_; have HB := n3_; clear n0_ n1_ n2_ n3_; (try clear hb); (try clear hb2); (try clear hk); (try clear hi); have hnb20 := NB275_276.out; have hnc20 := NB276_275.out; have hcz21_0 : w19.cell? ⟨gb275, 0, none⟩ = some (.string a1_0) := (blk_cell BK275.out 0).trans rfl; have hcz21_1 : w19.cell? ⟨gb275, 1, none⟩ = some (.string a1_1) := (blk_cell BK275.out 1).trans rfl; have hcz21_2 : w19.cell? ⟨gb275, 2, none⟩ = some (.int .i64 a1_2) := (blk_cell BK275.out 2).trans rfl; have hcz21_3 : w19.cell? ⟨gb275, 3, none⟩ = some (.string a1_3) := (blk_cell BK275.out 3).trans rfl; have hcz21_4 : w19.cell? ⟨gb275, 4, none⟩ = some (.bool a1_4) := (blk_cell BK275.out 4).trans rfl; have hfz21_0 := blk_frozen BK275.out 0; have hfz21_1 := blk_frozen BK275.out 1; have hfz21_2 := blk_frozen BK275.out 2; have hfz21_3 := blk_frozen BK275.out 3; have hfz21_4 := blk_frozen BK275.out 4) | (go_at_call 9; (with_reducible refine (shardloglaw08_small.calls a1_0 a1_1 a1_2 a1_3 a1_4 true _ A12.out).mono ?_); rintro e w22 ⟨rfl, hb⟩; have n0_ := Aside0.mk (blk_below (g := gb274) (o := .cells #[.string a0_0, .string a0_1, .int .i64 a0_2, .string a0_3, .bool a0_4] 23 (0, 0)) (by (with_reducible repeat (first | refine blk_drewN ?_ _ | refine blk_drew ?_ | refine blk_alloc ?_ _)); exact BK274.out) hb); have n1_ := Aside0.mk (blk_below (g := gb275) (o := .cells #[.string a1_0, .string a1_1, .int .i64 a1_2, .string a1_3, .bool a1_4] 23 (0, 0)) (by (with_reducible repeat (first | refine blk_drewN ?_ _ | refine blk_drew ?_ | refine blk_alloc ?_ _)); exact BK275.out) hb); have n2_ := Aside0.mk (blk_below (g := gb276) (o := .cells #[.string a2_0, .string a2_1, .int .i64 a2_2, .string a2_3, .bool a2_4] 23 (0, 0)) (by (with_reducible repeat (first | refine blk_drewN ?_ _ | refine blk_drew ?_ | refine blk_alloc ?_ _)); exact BK276.out) hb); have n3_ := Aside0.mk (below_step (by repeat (first | (with_reducible first | exact HB.out | apply below_alloc | apply pw_below_drewN | apply below_drew1 | refine below_set ?_ GE274.out | refine below_set ?_ GE275.out | refine below_set ?_ GE276.out) | exact HB.out)) hb); clear BK274; clear BK275; clear BK276; clear HB; have BK274 := n0_; have BK275 := n1_; have BK276 := n2_; have HB := n3_; clear n0_ n1_ n2_ n3_; (try clear hb); (try clear hb2); (try clear hk); (try clear hi); have hcz23_0 : w22.cell? ⟨gb276, 0, none⟩ = some (.string a2_0) := (blk_cell BK276.out 0).trans rfl; have hcz23_1 : w22.cell? ⟨gb276, 1, none⟩ = some (.string a2_1) := (blk_cell BK276.out 1).trans rfl; have hcz23_2 : w22.cell? ⟨gb276, 2, none⟩ = some (.int .i64 a2_2) := (blk_cell BK276.out 2).trans rfl; have hcz23_3 : w22.cell? ⟨gb276, 3, none⟩ = some (.string a2_3) := (blk_cell BK276.out 3).trans rfl; have hcz23_4 : w22.cell? ⟨gb276, 4, none⟩ = some (.bool a2_4) := (blk_cell BK276.out 4).trans rfl; have hfz23_0 := blk_frozen BK276.out 0; have hfz23_1 := blk_frozen BK276.out 1; have hfz23_2 := blk_frozen BK276.out 2; have hfz23_3 := blk_frozen BK276.out 3; have hfz23_4 := blk_frozen BK276.out 4) | (go_at_call 9; (with_reducible refine (shardloglaw08_small.calls a2_0 a2_1 a2_2 a2_3 a2_4 t280 _ A14.out).mono ?_); rintro e w24 ⟨rfl, hb⟩; have n0_ := Aside0.mk (blk_below (g := gb274) (o := .cells #[.string a0_0, .string a0_1, .int .i64 a0_2, .string a0_3, .bool a0_4] 23 (0, 0)) (by (with_reducible repeat (first | refine blk_drewN ?_ _ | refine blk_drew ?_ | refine blk_alloc ?_ _)); exact BK274.out) hb); have n1_ := Aside0.mk (blk_below (g := gb275) (o := .cells #[.string a1_0, .string a1_1, .int .i64 a1_2, .string a1_3, .bool a1_4] 23 (0, 0)) (by (with_reducible repeat (first | refine blk_drewN ?_ _ | refine blk_drew ?_ | refine blk_alloc ?_ _)); exact BK275.out) hb); have n2_ := Aside0.mk (blk_below (g := gb276) (o := .cells #[.string a2_0, .string a2_1, .int .i64 a2_2, .string a2_3, .bool a2_4] 23 (0, 0)) (by (with_reducible repeat (first | refine blk_drewN ?_ _ | refine blk_drew ?_ | refine blk_alloc ?_ _)); exact BK276.out) hb); have n3_ := Aside0.mk (below_step (by repeat (first | (with_reducible first | exact HB.out | apply below_alloc | apply pw_below_drewN | apply below_drew1 | refine below_set ?_ GE274.out | refine below_set ?_ GE275.out | refine below_set ?_ GE276.out) | exact HB.out)) hb); clear BK274; clear BK275; clear BK276; clear HB; have BK274 := n0_; have BK275 := n1_; have BK276 := n2_; have HB := n3_; clear n0_ n1_ n2_ n3_; (try clear hb); (try clear hb2); (try clear hk); (try clear hi)))
          go_meet
          case rel => exact ⟨_, (!t280), (by first | rfl | (simp; done) | (simp [*]; done) | (simp; exact (by decide : ∀ a_ b_ : Bool, (a_ == b_) = (!a_ != b_)) _ _)), H', ⟨by first | omega | exact Nat.le_refl _⟩, ⟨by (with_reducible repeat (first | refine blk_drewN ?_ _ | refine blk_drew ?_ | refine blk_alloc ?_ _)); exact BK274.out⟩, ⟨by (with_reducible repeat (first | refine blk_drewN ?_ _ | refine blk_drew ?_ | refine blk_alloc ?_ _)); exact BK275.out⟩, ⟨by (with_reducible repeat (first | refine blk_drewN ?_ _ | refine blk_drew ?_ | refine blk_alloc ?_ _)); exact BK276.out⟩, ⟨by repeat (first | (with_reducible first | exact HB.out | apply below_alloc | apply pw_below_drewN | apply below_drew1 | refine below_set ?_ GE274.out | refine below_set ?_ GE275.out | refine below_set ?_ GE276.out) | exact HB.out)⟩⟩
        · replace c13 := Bool.eq_false_iff.mpr c13
          subst c13
          have H1 : (shardloglaw08_CellOrder.j0 k true a0_0 a0_1 a0_2 a0_3 a0_4 a1_0 a1_1 a1_2 a1_3 a1_4 a2_0 a2_1 a2_2 a2_3 a2_4) = some r := by rw [if_neg (show ¬ (false = true) by decide)] at H; exact H
          clear H
          have H := H1
          clear H1
          have H' := Aside0.mk H
          clear H
          go_wp2_with (first | ((with_reducible refine gate_callee (f := 8) rfl ?_); refine goesL_ (some 9) rfl rfl Try.func8 (by kernel_rfl) rfl #[] rfl (by (try simp only [List.map_toArray, List.map_cons, List.map_nil]); first | done | rfl | (simp only [List.length_drop, List.length_take]; rfl)) ?_; (with_reducible refine (shardloglaw08_awake.calls k  true _ A8.out).mono ?_); rintro e w25 ⟨rfl, hb⟩; refine ⟨_, rfl, ?_⟩; have n0_ := Aside0.mk (blk_below (g := gb274) (o := .cells #[.string a0_0, .string a0_1, .int .i64 a0_2, .string a0_3, .bool a0_4] 23 (0, 0)) (by (with_reducible repeat (first | refine blk_drewN ?_ _ | refine blk_drew ?_ | refine blk_alloc ?_ _)); exact BK274.out) hb); have n1_ := Aside0.mk (blk_below (g := gb275) (o := .cells #[.string a1_0, .string a1_1, .int .i64 a1_2, .string a1_3, .bool a1_4] 23 (0, 0)) (by (with_reducible repeat (first | refine blk_drewN ?_ _ | refine blk_drew ?_ | refine blk_alloc ?_ _)); exact BK275.out) hb); have n2_ := Aside0.mk (blk_below (g := gb276) (o := .cells #[.string a2_0, .string a2_1, .int .i64 a2_2, .string a2_3, .bool a2_4] 23 (0, 0)) (by (with_reducible repeat (first | refine blk_drewN ?_ _ | refine blk_drew ?_ | refine blk_alloc ?_ _)); exact BK276.out) hb); have n3_ := Aside0.mk (below_step (by repeat (first | (with_reducible first | exact HB.out | apply below_alloc | apply pw_below_drewN | apply below_drew1 | refine below_set ?_ GE274.out | refine below_set ?_ GE275.out | refine below_set ?_ GE276.out) | exact HB.out)) hb); clear BK274; clear BK275; clear BK276; clear HB; have BK274 := n0_; have BK275 := n1_; have BK276 := n2_; have HB := n3_; clear n0_ n1_ n2_ n3_; (try clear hb); (try clear hb2); (try clear hk); (try clear hi); have hnb26 := NB274_275.out; have hnc26 := NB275_274.out; have hnb27 := NB274_276.out; have hnc27 := NB276_274.out; have hcz28_0 : w25.cell? ⟨gb274, 0, none⟩ = some (.string a0_0) := (blk_cell BK274.out 0).trans rfl; have hcz28_1 : w25.cell? ⟨gb274, 1, none⟩ = some (.string a0_1) := (blk_cell BK274.out 1).trans rfl; have hcz28_2 : w25.cell? ⟨gb274, 2, none⟩ = some (.int .i64 a0_2) := (blk_cell BK274.out 2).trans rfl; have hcz28_3 : w25.cell? ⟨gb274, 3, none⟩ = some (.string a0_3) := (blk_cell BK274.out 3).trans rfl; have hcz28_4 : w25.cell? ⟨gb274, 4, none⟩ = some (.bool a0_4) := (blk_cell BK274.out 4).trans rfl; have hfz28_0 := blk_frozen BK274.out 0; have hfz28_1 := blk_frozen BK274.out 1; have hfz28_2 := blk_frozen BK274.out 2; have hfz28_3 := blk_frozen BK274.out 3; have hfz28_4 := blk_frozen BK274.out 4) | (go_at_call 9; (with_reducible refine (shardloglaw08_small.calls a0_0 a0_1 a0_2 a0_3 a0_4 true _ A10.out).mono ?_); rintro e w29 ⟨rfl, hb⟩; have n0_ := Aside0.mk (blk_below (g := gb274) (o := .cells #[.string a0_0, .string a0_1, .int .i64 a0_2, .string a0_3, .bool a0_4] 23 (0, 0)) (by (with_reducible repeat (first | refine blk_drewN ?_ _ | refine blk_drew ?_ | refine blk_alloc ?_ _)); exact BK274.out) hb); have n1_ := Aside0.mk (blk_below (g := gb275) (o := .cells #[.string a1_0, .string a1_1, .int .i64 a1_2, .string a1_3, .bool a1_4] 23 (0, 0)) (by (with_reducible repeat (first | refine blk_drewN ?_ _ | refine blk_drew ?_ | refine blk_alloc ?_ _)); exact BK275.out) hb); have n2_ := Aside0.mk (blk_below (g := gb276) (o := .cells #[.string a2_0, .string a2_1, .int .i64 a2_2, .string a2_3, .bool a2_4] 23 (0, 0)) (by (with_reducible repeat (first | refine blk_drewN ?_ _ | refine blk_drew ?_ | refine blk_alloc ?_ _)); exact BK276.out) hb); have n3_ := Aside0.mk (below_step (by repeat (first | (with_reducible first | exact HB.out | apply below_alloc | apply pw_below_drewN | apply below_drew1 | refine below_set ?_ GE274.out | refine below_set ?_ GE275.out | refine below_set ?_ GE276.out) | exact HB.out)) hb); clear BK274; clear BK275; clear BK276; clear HB; have BK274 := n0_; have BK275 := n1_; have BK276 := n2_; have HB := n3_; clear n0_ n1_ n2_ n3_; (try clear hb); (try clear hb2); (try clear hk); (try clear hi); have hnb30 := NB275_276.out; have hnc30 := NB276_275.out; have hcz31_0 : w29.cell? ⟨gb275, 0, none⟩ = some (.string a1_0) := (blk_cell BK275.out 0).trans rfl; have hcz31_1 : w29.cell? ⟨gb275, 1, none⟩ = some (.string a1_1) := (blk_cell BK275.out 1).trans rfl; have hcz31_2 : w29.cell? ⟨gb275, 2, none⟩ = some (.int .i64 a1_2) := (blk_cell BK275.out 2).trans rfl; have hcz31_3 : w29.cell? ⟨gb275, 3, none⟩ = some (.string a1_3) := (blk_cell BK275.out 3).trans rfl; have hcz31_4 : w29.cell? ⟨gb275, 4, none⟩ = some (.bool a1_4) := (blk_cell BK275.out 4).trans rfl; have hfz31_0 := blk_frozen BK275.out 0; have hfz31_1 := blk_frozen BK275.out 1; have hfz31_2 := blk_frozen BK275.out 2; have hfz31_3 := blk_frozen BK275.out 3; have hfz31_4 := blk_frozen BK275.out 4) | (go_at_call 9; (with_reducible refine (shardloglaw08_small.calls a1_0 a1_1 a1_2 a1_3 a1_4 false _ A12.out).mono ?_); rintro e w32 ⟨rfl, hb⟩; have n0_ := Aside0.mk (blk_below (g := gb274) (o := .cells #[.string a0_0, .string a0_1, .int .i64 a0_2, .string a0_3, .bool a0_4] 23 (0, 0)) (by (with_reducible repeat (first | refine blk_drewN ?_ _ | refine blk_drew ?_ | refine blk_alloc ?_ _)); exact BK274.out) hb); have n1_ := Aside0.mk (blk_below (g := gb275) (o := .cells #[.string a1_0, .string a1_1, .int .i64 a1_2, .string a1_3, .bool a1_4] 23 (0, 0)) (by (with_reducible repeat (first | refine blk_drewN ?_ _ | refine blk_drew ?_ | refine blk_alloc ?_ _)); exact BK275.out) hb); have n2_ := Aside0.mk (blk_below (g := gb276) (o := .cells #[.string a2_0, .string a2_1, .int .i64 a2_2, .string a2_3, .bool a2_4] 23 (0, 0)) (by (with_reducible repeat (first | refine blk_drewN ?_ _ | refine blk_drew ?_ | refine blk_alloc ?_ _)); exact BK276.out) hb); have n3_ := Aside0.mk (below_step (by repeat (first | (with_reducible first | exact HB.out | apply below_alloc | apply pw_below_drewN | apply below_drew1 | refine below_set ?_ GE274.out | refine below_set ?_ GE275.out | refine below_set ?_ GE276.out) | exact HB.out)) hb); clear BK274; clear BK275; clear BK276; clear HB; have BK274 := n0_; have BK275 := n1_; have BK276 := n2_; have HB := n3_; clear n0_ n1_ n2_ n3_; (try clear hb); (try clear hb2); (try clear hk); (try clear hi)))
          go_meet
          case rel => exact ⟨_, (true), (by first | rfl | (simp; done) | (simp [*]; done) | (simp; exact (by decide : ∀ a_ b_ : Bool, (a_ == b_) = (!a_ != b_)) _ _)), H', ⟨by first | omega | exact Nat.le_refl _⟩, ⟨by (with_reducible repeat (first | refine blk_drewN ?_ _ | refine blk_drew ?_ | refine blk_alloc ?_ _)); exact BK274.out⟩, ⟨by (with_reducible repeat (first | refine blk_drewN ?_ _ | refine blk_drew ?_ | refine blk_alloc ?_ _)); exact BK275.out⟩, ⟨by (with_reducible repeat (first | refine blk_drewN ?_ _ | refine blk_drew ?_ | refine blk_alloc ?_ _)); exact BK276.out⟩, ⟨by repeat (first | (with_reducible first | exact HB.out | apply below_alloc | apply pw_below_drewN | apply below_drew1 | refine below_set ?_ GE274.out | refine below_set ?_ GE275.out | refine below_set ?_ GE276.out) | exact HB.out)⟩⟩
      · replace c11 := Bool.eq_false_iff.mpr c11
        subst c11
        have H1 : (shardloglaw08_CellOrder.j0 k true a0_0 a0_1 a0_2 a0_3 a0_4 a1_0 a1_1 a1_2 a1_3 a1_4 a2_0 a2_1 a2_2 a2_3 a2_4) = some r := by rw [if_neg (show ¬ (false = true) by decide)] at H; exact H
        clear H
        have H := H1
        clear H1
        have H' := Aside0.mk H
        clear H
        go_wp2_with (first | ((with_reducible refine gate_callee (f := 8) rfl ?_); refine goesL_ (some 9) rfl rfl Try.func8 (by kernel_rfl) rfl #[] rfl (by (try simp only [List.map_toArray, List.map_cons, List.map_nil]); first | done | rfl | (simp only [List.length_drop, List.length_take]; rfl)) ?_; (with_reducible refine (shardloglaw08_awake.calls k  true _ A8.out).mono ?_); rintro e w33 ⟨rfl, hb⟩; refine ⟨_, rfl, ?_⟩; have n0_ := Aside0.mk (blk_below (g := gb274) (o := .cells #[.string a0_0, .string a0_1, .int .i64 a0_2, .string a0_3, .bool a0_4] 23 (0, 0)) (by (with_reducible repeat (first | refine blk_drewN ?_ _ | refine blk_drew ?_ | refine blk_alloc ?_ _)); exact BK274.out) hb); have n1_ := Aside0.mk (blk_below (g := gb275) (o := .cells #[.string a1_0, .string a1_1, .int .i64 a1_2, .string a1_3, .bool a1_4] 23 (0, 0)) (by (with_reducible repeat (first | refine blk_drewN ?_ _ | refine blk_drew ?_ | refine blk_alloc ?_ _)); exact BK275.out) hb); have n2_ := Aside0.mk (blk_below (g := gb276) (o := .cells #[.string a2_0, .string a2_1, .int .i64 a2_2, .string a2_3, .bool a2_4] 23 (0, 0)) (by (with_reducible repeat (first | refine blk_drewN ?_ _ | refine blk_drew ?_ | refine blk_alloc ?_ _)); exact BK276.out) hb); have n3_ := Aside0.mk (below_step (by repeat (first | (with_reducible first | exact HB.out | apply below_alloc | apply pw_below_drewN | apply below_drew1 | refine below_set ?_ GE274.out | refine below_set ?_ GE275.out | refine below_set ?_ GE276.out) | exact HB.out)) hb); clear BK274; clear BK275; clear BK276; clear HB; have BK274 := n0_; have BK275 := n1_; have BK276 := n2_; have HB := n3_; clear n0_ n1_ n2_ n3_; (try clear hb); (try clear hb2); (try clear hk); (try clear hi); have hnb34 := NB274_275.out; have hnc34 := NB275_274.out; have hnb35 := NB274_276.out; have hnc35 := NB276_274.out; have hcz36_0 : w33.cell? ⟨gb274, 0, none⟩ = some (.string a0_0) := (blk_cell BK274.out 0).trans rfl; have hcz36_1 : w33.cell? ⟨gb274, 1, none⟩ = some (.string a0_1) := (blk_cell BK274.out 1).trans rfl; have hcz36_2 : w33.cell? ⟨gb274, 2, none⟩ = some (.int .i64 a0_2) := (blk_cell BK274.out 2).trans rfl; have hcz36_3 : w33.cell? ⟨gb274, 3, none⟩ = some (.string a0_3) := (blk_cell BK274.out 3).trans rfl; have hcz36_4 : w33.cell? ⟨gb274, 4, none⟩ = some (.bool a0_4) := (blk_cell BK274.out 4).trans rfl; have hfz36_0 := blk_frozen BK274.out 0; have hfz36_1 := blk_frozen BK274.out 1; have hfz36_2 := blk_frozen BK274.out 2; have hfz36_3 := blk_frozen BK274.out 3; have hfz36_4 := blk_frozen BK274.out 4) | (go_at_call 9; (with_reducible refine (shardloglaw08_small.calls a0_0 a0_1 a0_2 a0_3 a0_4 false _ A10.out).mono ?_); rintro e w37 ⟨rfl, hb⟩; have n0_ := Aside0.mk (blk_below (g := gb274) (o := .cells #[.string a0_0, .string a0_1, .int .i64 a0_2, .string a0_3, .bool a0_4] 23 (0, 0)) (by (with_reducible repeat (first | refine blk_drewN ?_ _ | refine blk_drew ?_ | refine blk_alloc ?_ _)); exact BK274.out) hb); have n1_ := Aside0.mk (blk_below (g := gb275) (o := .cells #[.string a1_0, .string a1_1, .int .i64 a1_2, .string a1_3, .bool a1_4] 23 (0, 0)) (by (with_reducible repeat (first | refine blk_drewN ?_ _ | refine blk_drew ?_ | refine blk_alloc ?_ _)); exact BK275.out) hb); have n2_ := Aside0.mk (blk_below (g := gb276) (o := .cells #[.string a2_0, .string a2_1, .int .i64 a2_2, .string a2_3, .bool a2_4] 23 (0, 0)) (by (with_reducible repeat (first | refine blk_drewN ?_ _ | refine blk_drew ?_ | refine blk_alloc ?_ _)); exact BK276.out) hb); have n3_ := Aside0.mk (below_step (by repeat (first | (with_reducible first | exact HB.out | apply below_alloc | apply pw_below_drewN | apply below_drew1 | refine below_set ?_ GE274.out | refine below_set ?_ GE275.out | refine below_set ?_ GE276.out) | exact HB.out)) hb); clear BK274; clear BK275; clear BK276; clear HB; have BK274 := n0_; have BK275 := n1_; have BK276 := n2_; have HB := n3_; clear n0_ n1_ n2_ n3_; (try clear hb); (try clear hb2); (try clear hk); (try clear hi)))
        go_meet
        case rel => exact ⟨_, (true), (by first | rfl | (simp; done) | (simp [*]; done) | (simp; exact (by decide : ∀ a_ b_ : Bool, (a_ == b_) = (!a_ != b_)) _ _)), H', ⟨by first | omega | exact Nat.le_refl _⟩, ⟨by (with_reducible repeat (first | refine blk_drewN ?_ _ | refine blk_drew ?_ | refine blk_alloc ?_ _)); exact BK274.out⟩, ⟨by (with_reducible repeat (first | refine blk_drewN ?_ _ | refine blk_drew ?_ | refine blk_alloc ?_ _)); exact BK275.out⟩, ⟨by (with_reducible repeat (first | refine blk_drewN ?_ _ | refine blk_drew ?_ | refine blk_alloc ?_ _)); exact BK276.out⟩, ⟨by repeat (first | (with_reducible first | exact HB.out | apply below_alloc | apply pw_below_drewN | apply below_drew1 | refine below_set ?_ GE274.out | refine below_set ?_ GE275.out | refine below_set ?_ GE276.out) | exact HB.out)⟩⟩
    · replace c9 := Bool.eq_false_iff.mpr c9
      subst c9
      have H1 : (shardloglaw08_CellOrder.j0 k true a0_0 a0_1 a0_2 a0_3 a0_4 a1_0 a1_1 a1_2 a1_3 a1_4 a2_0 a2_1 a2_2 a2_3 a2_4) = some r := by rw [if_neg (show ¬ (false = true) by decide)] at H; exact H
      clear H
      have H := H1
      clear H1
      have H' := Aside0.mk H
      clear H
      go_wp2_with (first | ((with_reducible refine gate_callee (f := 8) rfl ?_); refine goesL_ (some 9) rfl rfl Try.func8 (by kernel_rfl) rfl #[] rfl (by (try simp only [List.map_toArray, List.map_cons, List.map_nil]); first | done | rfl | (simp only [List.length_drop, List.length_take]; rfl)) ?_; (with_reducible refine (shardloglaw08_awake.calls k  false _ A8.out).mono ?_); rintro e w38 ⟨rfl, hb⟩; refine ⟨_, rfl, ?_⟩; have n0_ := Aside0.mk (blk_below (g := gb274) (o := .cells #[.string a0_0, .string a0_1, .int .i64 a0_2, .string a0_3, .bool a0_4] 23 (0, 0)) (by (with_reducible repeat (first | refine blk_drewN ?_ _ | refine blk_drew ?_ | refine blk_alloc ?_ _)); exact BK274.out) hb); have n1_ := Aside0.mk (blk_below (g := gb275) (o := .cells #[.string a1_0, .string a1_1, .int .i64 a1_2, .string a1_3, .bool a1_4] 23 (0, 0)) (by (with_reducible repeat (first | refine blk_drewN ?_ _ | refine blk_drew ?_ | refine blk_alloc ?_ _)); exact BK275.out) hb); have n2_ := Aside0.mk (blk_below (g := gb276) (o := .cells #[.string a2_0, .string a2_1, .int .i64 a2_2, .string a2_3, .bool a2_4] 23 (0, 0)) (by (with_reducible repeat (first | refine blk_drewN ?_ _ | refine blk_drew ?_ | refine blk_alloc ?_ _)); exact BK276.out) hb); have n3_ := Aside0.mk (below_step (by repeat (first | (with_reducible first | exact HB.out | apply below_alloc | apply pw_below_drewN | apply below_drew1 | refine below_set ?_ GE274.out | refine below_set ?_ GE275.out | refine below_set ?_ GE276.out) | exact HB.out)) hb); clear BK274; clear BK275; clear BK276; clear HB; have BK274 := n0_; have BK275 := n1_; have BK276 := n2_; have HB := n3_; clear n0_ n1_ n2_ n3_; (try clear hb); (try clear hb2); (try clear hk); (try clear hi)))
      go_meet
      case rel => exact ⟨_, (true), (by first | rfl | (simp; done) | (simp [*]; done) | (simp; exact (by decide : ∀ a_ b_ : Bool, (a_ == b_) = (!a_ != b_)) _ _)), H', ⟨by first | omega | exact Nat.le_refl _⟩, ⟨by (with_reducible repeat (first | refine blk_drewN ?_ _ | refine blk_drew ?_ | refine blk_alloc ?_ _)); exact BK274.out⟩, ⟨by (with_reducible repeat (first | refine blk_drewN ?_ _ | refine blk_drew ?_ | refine blk_alloc ?_ _)); exact BK275.out⟩, ⟨by (with_reducible repeat (first | refine blk_drewN ?_ _ | refine blk_drew ?_ | refine blk_alloc ?_ _)); exact BK276.out⟩, ⟨by repeat (first | (with_reducible first | exact HB.out | apply below_alloc | apply pw_below_drewN | apply below_drew1 | refine below_set ?_ GE274.out | refine below_set ?_ GE275.out | refine below_set ?_ GE276.out) | exact HB.out)⟩⟩
  case rest =>
    clear HC4
    try clear c1
    try clear c2
    try clear p2
    try clear c3
    try clear c4
    try clear c8
    try clear c9
    try clear c11
    try clear c13
    try clear c16
    try clear c17
    try clear c20
    try clear c26
    try clear c27
    try clear c30
    try clear c34
    try clear c35
    try clear hcz18_0
    try clear hcz18_1
    try clear hcz18_2
    try clear hcz18_3
    try clear hcz18_4
    try clear hcz21_0
    try clear hcz21_1
    try clear hcz21_2
    try clear hcz21_3
    try clear hcz21_4
    try clear hcz23_0
    try clear hcz23_1
    try clear hcz23_2
    try clear hcz23_3
    try clear hcz23_4
    try clear hcz28_0
    try clear hcz28_1
    try clear hcz28_2
    try clear hcz28_3
    try clear hcz28_4
    try clear hcz31_0
    try clear hcz31_1
    try clear hcz31_2
    try clear hcz31_3
    try clear hcz31_4
    try clear hcz36_0
    try clear hcz36_1
    try clear hcz36_2
    try clear hcz36_3
    try clear hcz36_4
    try clear hfz18_0
    try clear hfz18_1
    try clear hfz18_2
    try clear hfz18_3
    try clear hfz18_4
    try clear hfz21_0
    try clear hfz21_1
    try clear hfz21_2
    try clear hfz21_3
    try clear hfz21_4
    try clear hfz23_0
    try clear hfz23_1
    try clear hfz23_2
    try clear hfz23_3
    try clear hfz23_4
    try clear hfz28_0
    try clear hfz28_1
    try clear hfz28_2
    try clear hfz28_3
    try clear hfz28_4
    try clear hfz31_0
    try clear hfz31_1
    try clear hfz31_2
    try clear hfz31_3
    try clear hfz31_4
    try clear hfz36_0
    try clear hfz36_1
    try clear hfz36_2
    try clear hfz36_3
    try clear hfz36_4
    obtain ⟨kq, x25_3, rfl, HA, HJ3, BK274, BK275, BK276, HB⟩ := hcut
    cases kq with
    | zero => exact absurd HA.out (by simp [shardloglaw08_CellOrder.j0])
    | succ kj3 =>
      have H := HA.out
      clear HA
      simp only [shardloglaw08_CellOrder.j0] at H
      by_cases c39 : x25_3 = true
      · subst c39
        have H1 : ((shardloglaw08_awake.f kj3).bind fun t281 => (some t281)) = some r := by rw [if_pos rfl] at H; exact H
        clear H
        have H := H1
        clear H1
        replace H := Option.bind_eq_some_iff.mp H
        obtain ⟨t281, A400, H⟩ := H
        replace H : (some t281) = some r := H
        have A40 := Aside0.mk A400
        clear A400
        obtain rfl := Option.some.inj H
        go_wp2_with (first | ((with_reducible refine gate_callee (f := 8) rfl ?_); refine goesL_ (some 26) rfl rfl Try.func8 (by kernel_rfl) rfl #[] rfl (by (try simp only [List.map_toArray, List.map_cons, List.map_nil]); first | done | rfl | (simp only [List.length_drop, List.length_take]; rfl)) ?_; (with_reducible refine (shardloglaw08_awake.calls kj3  t281 _ A40.out).mono ?_); rintro e w41 ⟨rfl, hb⟩; refine ⟨_, rfl, ?_⟩; have n0_ := Aside0.mk (blk_below (g := gb274) (o := .cells #[.string a0_0, .string a0_1, .int .i64 a0_2, .string a0_3, .bool a0_4] 23 (0, 0)) (by (with_reducible repeat (first | refine blk_drewN ?_ _ | refine blk_drew ?_ | refine blk_alloc ?_ _)); exact BK274.out) hb); have n1_ := Aside0.mk (blk_below (g := gb275) (o := .cells #[.string a1_0, .string a1_1, .int .i64 a1_2, .string a1_3, .bool a1_4] 23 (0, 0)) (by (with_reducible repeat (first | refine blk_drewN ?_ _ | refine blk_drew ?_ | refine blk_alloc ?_ _)); exact BK275.out) hb); have n2_ := Aside0.mk (blk_below (g := gb276) (o := .cells #[.string a2_0, .string a2_1, .int .i64 a2_2, .string a2_3, .bool a2_4] 23 (0, 0)) (by (with_reducible repeat (first | refine blk_drewN ?_ _ | refine blk_drew ?_ | refine blk_alloc ?_ _)); exact BK276.out) hb); have n3_ := Aside0.mk (below_step (by repeat (first | (with_reducible first | exact HB.out | apply below_alloc | apply pw_below_drewN | apply below_drew1 | refine below_set ?_ GE274.out | refine below_set ?_ GE275.out | refine below_set ?_ GE276.out) | exact HB.out)) hb); clear BK274; clear BK275; clear BK276; clear HB; have BK274 := n0_; have BK275 := n1_; have BK276 := n2_; have HB := n3_; clear n0_ n1_ n2_ n3_; (try clear hb); (try clear hb2); (try clear hk); (try clear hi)))
        go_ret
        exact ⟨by first | rfl | (simp [errW_none, errW_some] <;> rfl) | (simp [*, errW_none, errW_some] <;> rfl), by repeat (first | (with_reducible first | exact HB.out | apply below_alloc | apply pw_below_drewN | apply below_drew1 | refine below_set ?_ GE274.out | refine below_set ?_ GE275.out | refine below_set ?_ GE276.out) | exact HB.out)⟩
      · replace c39 := Bool.eq_false_iff.mpr c39
        subst c39
        have H1 : ((cell_Compare.f kj3 a0_0 a0_1 a0_2 a0_3 a0_4 a1_0 a1_1 a1_2 a1_3 a1_4).bind fun t282 => ((cell_Compare.f kj3 a1_0 a1_1 a1_2 a1_3 a1_4 a2_0 a2_1 a2_2 a2_3 a2_4).bind fun t283 => ((cell_Compare.f kj3 a1_0 a1_1 a1_2 a1_3 a1_4 a0_0 a0_1 a0_2 a0_3 a0_4).bind fun t284 => (if t282 = (wrap64 (-t284)) then (if a0_0.toList = a1_0.toList then (if a0_1.toList = a1_1.toList then (shardloglaw08_CellOrder.j1 kj3 t282 t283 ((t282 == 0) != (a0_2 == a1_2)) a0_0 a0_1 a0_2 a0_3 a0_4 a2_0 a2_1 a2_2 a2_3 a2_4) else (shardloglaw08_CellOrder.j1 kj3 t282 t283 ((t282 == 0) != false) a0_0 a0_1 a0_2 a0_3 a0_4 a2_0 a2_1 a2_2 a2_3 a2_4)) else (shardloglaw08_CellOrder.j1 kj3 t282 t283 ((t282 == 0) != false) a0_0 a0_1 a0_2 a0_3 a0_4 a2_0 a2_1 a2_2 a2_3 a2_4)) else (shardloglaw08_CellOrder.j1 kj3 t282 t283 true a0_0 a0_1 a0_2 a0_3 a0_4 a2_0 a2_1 a2_2 a2_3 a2_4))))) = some r := by rw [if_neg (show ¬ (false = true) by decide)] at H; exact H
        clear H
        have H := H1
        clear H1
        replace H := Option.bind_eq_some_iff.mp H
        obtain ⟨t282, A420, H⟩ := H
        replace H : ((cell_Compare.f kj3 a1_0 a1_1 a1_2 a1_3 a1_4 a2_0 a2_1 a2_2 a2_3 a2_4).bind fun t283 => ((cell_Compare.f kj3 a1_0 a1_1 a1_2 a1_3 a1_4 a0_0 a0_1 a0_2 a0_3 a0_4).bind fun t284 => (if t282 = (wrap64 (-t284)) then (if a0_0.toList = a1_0.toList then (if a0_1.toList = a1_1.toList then (shardloglaw08_CellOrder.j1 kj3 t282 t283 ((t282 == 0) != (a0_2 == a1_2)) a0_0 a0_1 a0_2 a0_3 a0_4 a2_0 a2_1 a2_2 a2_3 a2_4) else (shardloglaw08_CellOrder.j1 kj3 t282 t283 ((t282 == 0) != false) a0_0 a0_1 a0_2 a0_3 a0_4 a2_0 a2_1 a2_2 a2_3 a2_4)) else (shardloglaw08_CellOrder.j1 kj3 t282 t283 ((t282 == 0) != false) a0_0 a0_1 a0_2 a0_3 a0_4 a2_0 a2_1 a2_2 a2_3 a2_4)) else (shardloglaw08_CellOrder.j1 kj3 t282 t283 true a0_0 a0_1 a0_2 a0_3 a0_4 a2_0 a2_1 a2_2 a2_3 a2_4)))) = some r := H
        have A42 := Aside0.mk A420
        clear A420
        replace H := Option.bind_eq_some_iff.mp H
        obtain ⟨t283, A430, H⟩ := H
        replace H : ((cell_Compare.f kj3 a1_0 a1_1 a1_2 a1_3 a1_4 a0_0 a0_1 a0_2 a0_3 a0_4).bind fun t284 => (if t282 = (wrap64 (-t284)) then (if a0_0.toList = a1_0.toList then (if a0_1.toList = a1_1.toList then (shardloglaw08_CellOrder.j1 kj3 t282 t283 ((t282 == 0) != (a0_2 == a1_2)) a0_0 a0_1 a0_2 a0_3 a0_4 a2_0 a2_1 a2_2 a2_3 a2_4) else (shardloglaw08_CellOrder.j1 kj3 t282 t283 ((t282 == 0) != false) a0_0 a0_1 a0_2 a0_3 a0_4 a2_0 a2_1 a2_2 a2_3 a2_4)) else (shardloglaw08_CellOrder.j1 kj3 t282 t283 ((t282 == 0) != false) a0_0 a0_1 a0_2 a0_3 a0_4 a2_0 a2_1 a2_2 a2_3 a2_4)) else (shardloglaw08_CellOrder.j1 kj3 t282 t283 true a0_0 a0_1 a0_2 a0_3 a0_4 a2_0 a2_1 a2_2 a2_3 a2_4))) = some r := H
        have A43 := Aside0.mk A430
        clear A430
        have HC44 := Aside0.mk H
        clear H
        have hnb45 := NB274_275.out
        have hnc45 := NB275_274.out
        have hnb46 := NB274_276.out
        have hnc46 := NB276_274.out
        have hcz47_0 : wc.cell? ⟨gb274, 0, none⟩ = some (.string a0_0) := (blk_cell BK274.out 0).trans rfl
        have hcz47_1 : wc.cell? ⟨gb274, 1, none⟩ = some (.string a0_1) := (blk_cell BK274.out 1).trans rfl
        have hcz47_2 : wc.cell? ⟨gb274, 2, none⟩ = some (.int .i64 a0_2) := (blk_cell BK274.out 2).trans rfl
        have hcz47_3 : wc.cell? ⟨gb274, 3, none⟩ = some (.string a0_3) := (blk_cell BK274.out 3).trans rfl
        have hcz47_4 : wc.cell? ⟨gb274, 4, none⟩ = some (.bool a0_4) := (blk_cell BK274.out 4).trans rfl
        have hfz47_0 := blk_frozen BK274.out 0
        have hfz47_1 := blk_frozen BK274.out 1
        have hfz47_2 := blk_frozen BK274.out 2
        have hfz47_3 := blk_frozen BK274.out 3
        have hfz47_4 := blk_frozen BK274.out 4
        have hnb48 := NB275_276.out
        have hnc48 := NB276_275.out
        have hcz49_0 : wc.cell? ⟨gb275, 0, none⟩ = some (.string a1_0) := (blk_cell BK275.out 0).trans rfl
        have hcz49_1 : wc.cell? ⟨gb275, 1, none⟩ = some (.string a1_1) := (blk_cell BK275.out 1).trans rfl
        have hcz49_2 : wc.cell? ⟨gb275, 2, none⟩ = some (.int .i64 a1_2) := (blk_cell BK275.out 2).trans rfl
        have hcz49_3 : wc.cell? ⟨gb275, 3, none⟩ = some (.string a1_3) := (blk_cell BK275.out 3).trans rfl
        have hcz49_4 : wc.cell? ⟨gb275, 4, none⟩ = some (.bool a1_4) := (blk_cell BK275.out 4).trans rfl
        have hfz49_0 := blk_frozen BK275.out 0
        have hfz49_1 := blk_frozen BK275.out 1
        have hfz49_2 := blk_frozen BK275.out 2
        have hfz49_3 := blk_frozen BK275.out 3
        have hfz49_4 := blk_frozen BK275.out 4
        go_upto_region 5 with (first | ((with_reducible refine gate_callee (f := 12) rfl ?_); refine goesL_ (some 29) rfl rfl Try.func12 (by kernel_rfl) rfl #[.agg #[.string a0_0, .string a0_1, .int .i64 a0_2, .string a0_3, .bool a0_4], .agg #[.string a1_0, .string a1_1, .int .i64 a1_2, .string a1_3, .bool a1_4]] rfl (by (try simp only [List.map_toArray, List.map_cons, List.map_nil]); first | done | rfl | (simp only [List.length_drop, List.length_take]; rfl)) ?_; (with_reducible refine (cell_Compare.calls kj3 a0_0 a0_1 a0_2 a0_3 a0_4 a1_0 a1_1 a1_2 a1_3 a1_4 t282 _ A42.out).mono ?_); rintro e w50 ⟨rfl, hb⟩; refine ⟨_, rfl, ?_⟩; have n0_ := Aside0.mk (blk_below (g := gb274) (o := .cells #[.string a0_0, .string a0_1, .int .i64 a0_2, .string a0_3, .bool a0_4] 23 (0, 0)) (by (with_reducible repeat (first | refine blk_drewN ?_ _ | refine blk_drew ?_ | refine blk_alloc ?_ _)); exact BK274.out) hb); have n1_ := Aside0.mk (blk_below (g := gb275) (o := .cells #[.string a1_0, .string a1_1, .int .i64 a1_2, .string a1_3, .bool a1_4] 23 (0, 0)) (by (with_reducible repeat (first | refine blk_drewN ?_ _ | refine blk_drew ?_ | refine blk_alloc ?_ _)); exact BK275.out) hb); have n2_ := Aside0.mk (blk_below (g := gb276) (o := .cells #[.string a2_0, .string a2_1, .int .i64 a2_2, .string a2_3, .bool a2_4] 23 (0, 0)) (by (with_reducible repeat (first | refine blk_drewN ?_ _ | refine blk_drew ?_ | refine blk_alloc ?_ _)); exact BK276.out) hb); have n3_ := Aside0.mk (below_step (by repeat (first | (with_reducible first | exact HB.out | apply below_alloc | apply pw_below_drewN | apply below_drew1 | refine below_set ?_ GE274.out | refine below_set ?_ GE275.out | refine below_set ?_ GE276.out) | exact HB.out)) hb); clear BK274; clear BK275; clear BK276; clear HB; have BK274 := n0_; have BK275 := n1_; have BK276 := n2_; have HB := n3_; clear n0_ n1_ n2_ n3_; (try clear hb); (try clear hb2); (try clear hk); (try clear hi); have hcz51_0 : w50.cell? ⟨gb275, 0, none⟩ = some (.string a1_0) := (blk_cell BK275.out 0).trans rfl; have hcz51_1 : w50.cell? ⟨gb275, 1, none⟩ = some (.string a1_1) := (blk_cell BK275.out 1).trans rfl; have hcz51_2 : w50.cell? ⟨gb275, 2, none⟩ = some (.int .i64 a1_2) := (blk_cell BK275.out 2).trans rfl; have hcz51_3 : w50.cell? ⟨gb275, 3, none⟩ = some (.string a1_3) := (blk_cell BK275.out 3).trans rfl; have hcz51_4 : w50.cell? ⟨gb275, 4, none⟩ = some (.bool a1_4) := (blk_cell BK275.out 4).trans rfl; have hfz51_0 := blk_frozen BK275.out 0; have hfz51_1 := blk_frozen BK275.out 1; have hfz51_2 := blk_frozen BK275.out 2; have hfz51_3 := blk_frozen BK275.out 3; have hfz51_4 := blk_frozen BK275.out 4; have hcz52_0 : w50.cell? ⟨gb276, 0, none⟩ = some (.string a2_0) := (blk_cell BK276.out 0).trans rfl; have hcz52_1 : w50.cell? ⟨gb276, 1, none⟩ = some (.string a2_1) := (blk_cell BK276.out 1).trans rfl; have hcz52_2 : w50.cell? ⟨gb276, 2, none⟩ = some (.int .i64 a2_2) := (blk_cell BK276.out 2).trans rfl; have hcz52_3 : w50.cell? ⟨gb276, 3, none⟩ = some (.string a2_3) := (blk_cell BK276.out 3).trans rfl; have hcz52_4 : w50.cell? ⟨gb276, 4, none⟩ = some (.bool a2_4) := (blk_cell BK276.out 4).trans rfl; have hfz52_0 := blk_frozen BK276.out 0; have hfz52_1 := blk_frozen BK276.out 1; have hfz52_2 := blk_frozen BK276.out 2; have hfz52_3 := blk_frozen BK276.out 3; have hfz52_4 := blk_frozen BK276.out 4) | ((with_reducible refine gate_callee (f := 12) rfl ?_); refine goesL_ (some 32) rfl rfl Try.func12 (by kernel_rfl) rfl #[.agg #[.string a1_0, .string a1_1, .int .i64 a1_2, .string a1_3, .bool a1_4], .agg #[.string a2_0, .string a2_1, .int .i64 a2_2, .string a2_3, .bool a2_4]] rfl (by (try simp only [List.map_toArray, List.map_cons, List.map_nil]); first | done | rfl | (simp only [List.length_drop, List.length_take]; rfl)) ?_; (with_reducible refine (cell_Compare.calls kj3 a1_0 a1_1 a1_2 a1_3 a1_4 a2_0 a2_1 a2_2 a2_3 a2_4 t283 _ A43.out).mono ?_); rintro e w53 ⟨rfl, hb⟩; refine ⟨_, rfl, ?_⟩; have n0_ := Aside0.mk (blk_below (g := gb274) (o := .cells #[.string a0_0, .string a0_1, .int .i64 a0_2, .string a0_3, .bool a0_4] 23 (0, 0)) (by (with_reducible repeat (first | refine blk_drewN ?_ _ | refine blk_drew ?_ | refine blk_alloc ?_ _)); exact BK274.out) hb); have n1_ := Aside0.mk (blk_below (g := gb275) (o := .cells #[.string a1_0, .string a1_1, .int .i64 a1_2, .string a1_3, .bool a1_4] 23 (0, 0)) (by (with_reducible repeat (first | refine blk_drewN ?_ _ | refine blk_drew ?_ | refine blk_alloc ?_ _)); exact BK275.out) hb); have n2_ := Aside0.mk (blk_below (g := gb276) (o := .cells #[.string a2_0, .string a2_1, .int .i64 a2_2, .string a2_3, .bool a2_4] 23 (0, 0)) (by (with_reducible repeat (first | refine blk_drewN ?_ _ | refine blk_drew ?_ | refine blk_alloc ?_ _)); exact BK276.out) hb); have n3_ := Aside0.mk (below_step (by repeat (first | (with_reducible first | exact HB.out | apply below_alloc | apply pw_below_drewN | apply below_drew1 | refine below_set ?_ GE274.out | refine below_set ?_ GE275.out | refine below_set ?_ GE276.out) | exact HB.out)) hb); clear BK274; clear BK275; clear BK276; clear HB; have BK274 := n0_; have BK275 := n1_; have BK276 := n2_; have HB := n3_; clear n0_ n1_ n2_ n3_; (try clear hb); (try clear hb2); (try clear hk); (try clear hi)))
        (try simp only [Act.put, List.setIfInBounds_toArray, List.set_cons_zero, List.set_cons_succ])
        go_cut [62] (fun v62 wc => ∃ (kq : Nat) (x62_43 : Bool), v62 = .bool x62_43 ∧ Aside0 (shardloglaw08_CellOrder.j1 kq t282 t283 x62_43 a0_0 a0_1 a0_2 a0_3 a0_4 a2_0 a2_1 a2_2 a2_3 a2_4 = some r) ∧ Aside0 (kq ≤ kj3) ∧ Aside0 (wc.heap[gb274]? = some (.cells #[.string a0_0, .string a0_1, .int .i64 a0_2, .string a0_3, .bool a0_4] 23 (0, 0))) ∧ Aside0 (wc.heap[gb275]? = some (.cells #[.string a1_0, .string a1_1, .int .i64 a1_2, .string a1_3, .bool a1_4] 23 (0, 0))) ∧ Aside0 (wc.heap[gb276]? = some (.cells #[.string a2_0, .string a2_1, .int .i64 a2_2, .string a2_3, .bool a2_4] 23 (0, 0))) ∧ Aside0 (Below w.heap.size w wc))
        case first =>
          have H := HC44.out
          clear HC44
          replace H := Option.bind_eq_some_iff.mp H
          obtain ⟨t284, A540, H⟩ := H
          replace H : (if t282 = (wrap64 (-t284)) then (if a0_0.toList = a1_0.toList then (if a0_1.toList = a1_1.toList then (shardloglaw08_CellOrder.j1 kj3 t282 t283 ((t282 == 0) != (a0_2 == a1_2)) a0_0 a0_1 a0_2 a0_3 a0_4 a2_0 a2_1 a2_2 a2_3 a2_4) else (shardloglaw08_CellOrder.j1 kj3 t282 t283 ((t282 == 0) != false) a0_0 a0_1 a0_2 a0_3 a0_4 a2_0 a2_1 a2_2 a2_3 a2_4)) else (shardloglaw08_CellOrder.j1 kj3 t282 t283 ((t282 == 0) != false) a0_0 a0_1 a0_2 a0_3 a0_4 a2_0 a2_1 a2_2 a2_3 a2_4)) else (shardloglaw08_CellOrder.j1 kj3 t282 t283 true a0_0 a0_1 a0_2 a0_3 a0_4 a2_0 a2_1 a2_2 a2_3 a2_4)) = some r := H
          have A54 := Aside0.mk A540
          clear A540
          by_cases c55 : t282 = (wrap64 (-t284))
          · rw [if_pos c55] at H
            have c55b0 : (t282 == (wrap64 (-t284))) = true := beq_iff_eq.mpr c55
            have c55b1 : (t282 != (wrap64 (-t284))) = false := bne_eq_false_iff_eq.mpr c55
            clear c55
            (first | rw [c55b0] | (simp only [i64_w, i32_w]; rw [c55b0]) | skip)
            by_cases c56 : a0_0.toList = a1_0.toList
            · rw [if_pos c56] at H
              have c56b0 : (a0_0.toList == a1_0.toList) = true := beq_iff_eq.mpr c56
              have c56b1 : (a0_0.toList != a1_0.toList) = false := bne_eq_false_iff_eq.mpr c56
              clear c56
              by_cases c57 : a0_1.toList = a1_1.toList
              · rw [if_pos c57] at H
                have c57b0 : (a0_1.toList == a1_1.toList) = true := beq_iff_eq.mpr c57
                have c57b1 : (a0_1.toList != a1_1.toList) = false := bne_eq_false_iff_eq.mpr c57
                clear c57
                have H' := Aside0.mk H
                clear H
                have hnb58 := NB275_274.out
                have hnc58 := NB274_275.out
                have hnb59 := NB275_276.out
                have hnc59 := NB276_275.out
                have hcz60_0 : w53.cell? ⟨gb275, 0, none⟩ = some (.string a1_0) := (blk_cell BK275.out 0).trans rfl
                have hcz60_1 : w53.cell? ⟨gb275, 1, none⟩ = some (.string a1_1) := (blk_cell BK275.out 1).trans rfl
                have hcz60_2 : w53.cell? ⟨gb275, 2, none⟩ = some (.int .i64 a1_2) := (blk_cell BK275.out 2).trans rfl
                have hcz60_3 : w53.cell? ⟨gb275, 3, none⟩ = some (.string a1_3) := (blk_cell BK275.out 3).trans rfl
                have hcz60_4 : w53.cell? ⟨gb275, 4, none⟩ = some (.bool a1_4) := (blk_cell BK275.out 4).trans rfl
                have hfz60_0 := blk_frozen BK275.out 0
                have hfz60_1 := blk_frozen BK275.out 1
                have hfz60_2 := blk_frozen BK275.out 2
                have hfz60_3 := blk_frozen BK275.out 3
                have hfz60_4 := blk_frozen BK275.out 4
                have hnb61 := NB274_276.out
                have hnc61 := NB276_274.out
                have hcz62_0 : w53.cell? ⟨gb274, 0, none⟩ = some (.string a0_0) := (blk_cell BK274.out 0).trans rfl
                have hcz62_1 : w53.cell? ⟨gb274, 1, none⟩ = some (.string a0_1) := (blk_cell BK274.out 1).trans rfl
                have hcz62_2 : w53.cell? ⟨gb274, 2, none⟩ = some (.int .i64 a0_2) := (blk_cell BK274.out 2).trans rfl
                have hcz62_3 : w53.cell? ⟨gb274, 3, none⟩ = some (.string a0_3) := (blk_cell BK274.out 3).trans rfl
                have hcz62_4 : w53.cell? ⟨gb274, 4, none⟩ = some (.bool a0_4) := (blk_cell BK274.out 4).trans rfl
                have hfz62_0 := blk_frozen BK274.out 0
                have hfz62_1 := blk_frozen BK274.out 1
                have hfz62_2 := blk_frozen BK274.out 2
                have hfz62_3 := blk_frozen BK274.out 3
                have hfz62_4 := blk_frozen BK274.out 4
                go_wp2_with (first | ((with_reducible refine gate_callee (f := 12) rfl ?_); refine goesL_ (some 36) rfl rfl Try.func12 (by kernel_rfl) rfl #[.agg #[.string a1_0, .string a1_1, .int .i64 a1_2, .string a1_3, .bool a1_4], .agg #[.string a0_0, .string a0_1, .int .i64 a0_2, .string a0_3, .bool a0_4]] rfl (by (try simp only [List.map_toArray, List.map_cons, List.map_nil]); first | done | rfl | (simp only [List.length_drop, List.length_take]; rfl)) ?_; (with_reducible refine (cell_Compare.calls kj3 a1_0 a1_1 a1_2 a1_3 a1_4 a0_0 a0_1 a0_2 a0_3 a0_4 t284 _ A54.out).mono ?_); rintro e w63 ⟨rfl, hb⟩; refine ⟨_, rfl, ?_⟩; have n0_ := Aside0.mk (blk_below (g := gb274) (o := .cells #[.string a0_0, .string a0_1, .int .i64 a0_2, .string a0_3, .bool a0_4] 23 (0, 0)) (by (with_reducible repeat (first | refine blk_drewN ?_ _ | refine blk_drew ?_ | refine blk_alloc ?_ _)); exact BK274.out) hb); have n1_ := Aside0.mk (blk_below (g := gb275) (o := .cells #[.string a1_0, .string a1_1, .int .i64 a1_2, .string a1_3, .bool a1_4] 23 (0, 0)) (by (with_reducible repeat (first | refine blk_drewN ?_ _ | refine blk_drew ?_ | refine blk_alloc ?_ _)); exact BK275.out) hb); have n2_ := Aside0.mk (blk_below (g := gb276) (o := .cells #[.string a2_0, .string a2_1, .int .i64 a2_2, .string a2_3, .bool a2_4] 23 (0, 0)) (by (with_reducible repeat (first | refine blk_drewN ?_ _ | refine blk_drew ?_ | refine blk_alloc ?_ _)); exact BK276.out) hb); have n3_ := Aside0.mk (below_step (by repeat (first | (with_reducible first | exact HB.out | apply below_alloc | apply pw_below_drewN | apply below_drew1 | refine below_set ?_ GE274.out | refine below_set ?_ GE275.out | refine below_set ?_ GE276.out) | exact HB.out)) hb); clear BK274; clear BK275; clear BK276; clear HB; have BK274 := n0_; have BK275 := n1_; have BK276 := n2_; have HB := n3_; clear n0_ n1_ n2_ n3_; (try clear hb); (try clear hb2); (try clear hk); (try clear hi); have hcz64_0 : w63.cell? ⟨gb274, 0, none⟩ = some (.string a0_0) := (blk_cell BK274.out 0).trans rfl; have hcz64_1 : w63.cell? ⟨gb274, 1, none⟩ = some (.string a0_1) := (blk_cell BK274.out 1).trans rfl; have hcz64_2 : w63.cell? ⟨gb274, 2, none⟩ = some (.int .i64 a0_2) := (blk_cell BK274.out 2).trans rfl; have hcz64_3 : w63.cell? ⟨gb274, 3, none⟩ = some (.string a0_3) := (blk_cell BK274.out 3).trans rfl; have hcz64_4 : w63.cell? ⟨gb274, 4, none⟩ = some (.bool a0_4) := (blk_cell BK274.out 4).trans rfl; have hfz64_0 := blk_frozen BK274.out 0; have hfz64_1 := blk_frozen BK274.out 1; have hfz64_2 := blk_frozen BK274.out 2; have hfz64_3 := blk_frozen BK274.out 3; have hfz64_4 := blk_frozen BK274.out 4; have hcz65_0 : w63.cell? ⟨gb275, 0, none⟩ = some (.string a1_0) := (blk_cell BK275.out 0).trans rfl; have hcz65_1 : w63.cell? ⟨gb275, 1, none⟩ = some (.string a1_1) := (blk_cell BK275.out 1).trans rfl; have hcz65_2 : w63.cell? ⟨gb275, 2, none⟩ = some (.int .i64 a1_2) := (blk_cell BK275.out 2).trans rfl; have hcz65_3 : w63.cell? ⟨gb275, 3, none⟩ = some (.string a1_3) := (blk_cell BK275.out 3).trans rfl; have hcz65_4 : w63.cell? ⟨gb275, 4, none⟩ = some (.bool a1_4) := (blk_cell BK275.out 4).trans rfl; have hfz65_0 := blk_frozen BK275.out 0; have hfz65_1 := blk_frozen BK275.out 1; have hfz65_2 := blk_frozen BK275.out 2; have hfz65_3 := blk_frozen BK275.out 3; have hfz65_4 := blk_frozen BK275.out 4))
                go_meet
                case rel => exact ⟨_, (((t282 == 0) != (a0_2 == a1_2))), (by first | rfl | (simp; done) | (simp [*]; done) | (simp; exact (by decide : ∀ a_ b_ : Bool, (a_ == b_) = (!a_ != b_)) _ _)), H', ⟨by have := HJ3.out; first | omega | exact Nat.le_refl _⟩, ⟨by (with_reducible repeat (first | refine blk_drewN ?_ _ | refine blk_drew ?_ | refine blk_alloc ?_ _)); exact BK274.out⟩, ⟨by (with_reducible repeat (first | refine blk_drewN ?_ _ | refine blk_drew ?_ | refine blk_alloc ?_ _)); exact BK275.out⟩, ⟨by (with_reducible repeat (first | refine blk_drewN ?_ _ | refine blk_drew ?_ | refine blk_alloc ?_ _)); exact BK276.out⟩, ⟨by repeat (first | (with_reducible first | exact HB.out | apply below_alloc | apply pw_below_drewN | apply below_drew1 | refine below_set ?_ GE274.out | refine below_set ?_ GE275.out | refine below_set ?_ GE276.out) | exact HB.out)⟩⟩
              · rw [if_neg c57] at H
                have c57b0 : (a0_1.toList == a1_1.toList) = false := beq_eq_false_iff_ne.mpr c57
                have c57b1 : (a0_1.toList != a1_1.toList) = true := bne_iff_ne.mpr c57
                have H' := Aside0.mk H
                clear H
                have hnb66 := NB275_274.out
                have hnc66 := NB274_275.out
                have hnb67 := NB275_276.out
                have hnc67 := NB276_275.out
                have hcz68_0 : w53.cell? ⟨gb275, 0, none⟩ = some (.string a1_0) := (blk_cell BK275.out 0).trans rfl
                have hcz68_1 : w53.cell? ⟨gb275, 1, none⟩ = some (.string a1_1) := (blk_cell BK275.out 1).trans rfl
                have hcz68_2 : w53.cell? ⟨gb275, 2, none⟩ = some (.int .i64 a1_2) := (blk_cell BK275.out 2).trans rfl
                have hcz68_3 : w53.cell? ⟨gb275, 3, none⟩ = some (.string a1_3) := (blk_cell BK275.out 3).trans rfl
                have hcz68_4 : w53.cell? ⟨gb275, 4, none⟩ = some (.bool a1_4) := (blk_cell BK275.out 4).trans rfl
                have hfz68_0 := blk_frozen BK275.out 0
                have hfz68_1 := blk_frozen BK275.out 1
                have hfz68_2 := blk_frozen BK275.out 2
                have hfz68_3 := blk_frozen BK275.out 3
                have hfz68_4 := blk_frozen BK275.out 4
                have hnb69 := NB274_276.out
                have hnc69 := NB276_274.out
                have hcz70_0 : w53.cell? ⟨gb274, 0, none⟩ = some (.string a0_0) := (blk_cell BK274.out 0).trans rfl
                have hcz70_1 : w53.cell? ⟨gb274, 1, none⟩ = some (.string a0_1) := (blk_cell BK274.out 1).trans rfl
                have hcz70_2 : w53.cell? ⟨gb274, 2, none⟩ = some (.int .i64 a0_2) := (blk_cell BK274.out 2).trans rfl
                have hcz70_3 : w53.cell? ⟨gb274, 3, none⟩ = some (.string a0_3) := (blk_cell BK274.out 3).trans rfl
                have hcz70_4 : w53.cell? ⟨gb274, 4, none⟩ = some (.bool a0_4) := (blk_cell BK274.out 4).trans rfl
                have hfz70_0 := blk_frozen BK274.out 0
                have hfz70_1 := blk_frozen BK274.out 1
                have hfz70_2 := blk_frozen BK274.out 2
                have hfz70_3 := blk_frozen BK274.out 3
                have hfz70_4 := blk_frozen BK274.out 4
                go_wp2_with (first | ((with_reducible refine gate_callee (f := 12) rfl ?_); refine goesL_ (some 36) rfl rfl Try.func12 (by kernel_rfl) rfl #[.agg #[.string a1_0, .string a1_1, .int .i64 a1_2, .string a1_3, .bool a1_4], .agg #[.string a0_0, .string a0_1, .int .i64 a0_2, .string a0_3, .bool a0_4]] rfl (by (try simp only [List.map_toArray, List.map_cons, List.map_nil]); first | done | rfl | (simp only [List.length_drop, List.length_take]; rfl)) ?_; (with_reducible refine (cell_Compare.calls kj3 a1_0 a1_1 a1_2 a1_3 a1_4 a0_0 a0_1 a0_2 a0_3 a0_4 t284 _ A54.out).mono ?_); rintro e w71 ⟨rfl, hb⟩; refine ⟨_, rfl, ?_⟩; have n0_ := Aside0.mk (blk_below (g := gb274) (o := .cells #[.string a0_0, .string a0_1, .int .i64 a0_2, .string a0_3, .bool a0_4] 23 (0, 0)) (by (with_reducible repeat (first | refine blk_drewN ?_ _ | refine blk_drew ?_ | refine blk_alloc ?_ _)); exact BK274.out) hb); have n1_ := Aside0.mk (blk_below (g := gb275) (o := .cells #[.string a1_0, .string a1_1, .int .i64 a1_2, .string a1_3, .bool a1_4] 23 (0, 0)) (by (with_reducible repeat (first | refine blk_drewN ?_ _ | refine blk_drew ?_ | refine blk_alloc ?_ _)); exact BK275.out) hb); have n2_ := Aside0.mk (blk_below (g := gb276) (o := .cells #[.string a2_0, .string a2_1, .int .i64 a2_2, .string a2_3, .bool a2_4] 23 (0, 0)) (by (with_reducible repeat (first | refine blk_drewN ?_ _ | refine blk_drew ?_ | refine blk_alloc ?_ _)); exact BK276.out) hb); have n3_ := Aside0.mk (below_step (by repeat (first | (with_reducible first | exact HB.out | apply below_alloc | apply pw_below_drewN | apply below_drew1 | refine below_set ?_ GE274.out | refine below_set ?_ GE275.out | refine below_set ?_ GE276.out) | exact HB.out)) hb); clear BK274; clear BK275; clear BK276; clear HB; have BK274 := n0_; have BK275 := n1_; have BK276 := n2_; have HB := n3_; clear n0_ n1_ n2_ n3_; (try clear hb); (try clear hb2); (try clear hk); (try clear hi); have hcz72_0 : w71.cell? ⟨gb274, 0, none⟩ = some (.string a0_0) := (blk_cell BK274.out 0).trans rfl; have hcz72_1 : w71.cell? ⟨gb274, 1, none⟩ = some (.string a0_1) := (blk_cell BK274.out 1).trans rfl; have hcz72_2 : w71.cell? ⟨gb274, 2, none⟩ = some (.int .i64 a0_2) := (blk_cell BK274.out 2).trans rfl; have hcz72_3 : w71.cell? ⟨gb274, 3, none⟩ = some (.string a0_3) := (blk_cell BK274.out 3).trans rfl; have hcz72_4 : w71.cell? ⟨gb274, 4, none⟩ = some (.bool a0_4) := (blk_cell BK274.out 4).trans rfl; have hfz72_0 := blk_frozen BK274.out 0; have hfz72_1 := blk_frozen BK274.out 1; have hfz72_2 := blk_frozen BK274.out 2; have hfz72_3 := blk_frozen BK274.out 3; have hfz72_4 := blk_frozen BK274.out 4; have hcz73_0 : w71.cell? ⟨gb275, 0, none⟩ = some (.string a1_0) := (blk_cell BK275.out 0).trans rfl; have hcz73_1 : w71.cell? ⟨gb275, 1, none⟩ = some (.string a1_1) := (blk_cell BK275.out 1).trans rfl; have hcz73_2 : w71.cell? ⟨gb275, 2, none⟩ = some (.int .i64 a1_2) := (blk_cell BK275.out 2).trans rfl; have hcz73_3 : w71.cell? ⟨gb275, 3, none⟩ = some (.string a1_3) := (blk_cell BK275.out 3).trans rfl; have hcz73_4 : w71.cell? ⟨gb275, 4, none⟩ = some (.bool a1_4) := (blk_cell BK275.out 4).trans rfl; have hfz73_0 := blk_frozen BK275.out 0; have hfz73_1 := blk_frozen BK275.out 1; have hfz73_2 := blk_frozen BK275.out 2; have hfz73_3 := blk_frozen BK275.out 3; have hfz73_4 := blk_frozen BK275.out 4))
                go_meet
                case rel => exact ⟨_, (((t282 == 0) != false)), (by first | rfl | (simp; done) | (simp [*]; done) | (simp; exact (by decide : ∀ a_ b_ : Bool, (a_ == b_) = (!a_ != b_)) _ _)), H', ⟨by have := HJ3.out; first | omega | exact Nat.le_refl _⟩, ⟨by (with_reducible repeat (first | refine blk_drewN ?_ _ | refine blk_drew ?_ | refine blk_alloc ?_ _)); exact BK274.out⟩, ⟨by (with_reducible repeat (first | refine blk_drewN ?_ _ | refine blk_drew ?_ | refine blk_alloc ?_ _)); exact BK275.out⟩, ⟨by (with_reducible repeat (first | refine blk_drewN ?_ _ | refine blk_drew ?_ | refine blk_alloc ?_ _)); exact BK276.out⟩, ⟨by repeat (first | (with_reducible first | exact HB.out | apply below_alloc | apply pw_below_drewN | apply below_drew1 | refine below_set ?_ GE274.out | refine below_set ?_ GE275.out | refine below_set ?_ GE276.out) | exact HB.out)⟩⟩
            · rw [if_neg c56] at H
              have c56b0 : (a0_0.toList == a1_0.toList) = false := beq_eq_false_iff_ne.mpr c56
              have c56b1 : (a0_0.toList != a1_0.toList) = true := bne_iff_ne.mpr c56
              have H' := Aside0.mk H
              clear H
              have hnb74 := NB275_274.out
              have hnc74 := NB274_275.out
              have hnb75 := NB275_276.out
              have hnc75 := NB276_275.out
              have hcz76_0 : w53.cell? ⟨gb275, 0, none⟩ = some (.string a1_0) := (blk_cell BK275.out 0).trans rfl
              have hcz76_1 : w53.cell? ⟨gb275, 1, none⟩ = some (.string a1_1) := (blk_cell BK275.out 1).trans rfl
              have hcz76_2 : w53.cell? ⟨gb275, 2, none⟩ = some (.int .i64 a1_2) := (blk_cell BK275.out 2).trans rfl
              have hcz76_3 : w53.cell? ⟨gb275, 3, none⟩ = some (.string a1_3) := (blk_cell BK275.out 3).trans rfl
              have hcz76_4 : w53.cell? ⟨gb275, 4, none⟩ = some (.bool a1_4) := (blk_cell BK275.out 4).trans rfl
              have hfz76_0 := blk_frozen BK275.out 0
              have hfz76_1 := blk_frozen BK275.out 1
              have hfz76_2 := blk_frozen BK275.out 2
              have hfz76_3 := blk_frozen BK275.out 3
              have hfz76_4 := blk_frozen BK275.out 4
              have hnb77 := NB274_276.out
              have hnc77 := NB276_274.out
              have hcz78_0 : w53.cell? ⟨gb274, 0, none⟩ = some (.string a0_0) := (blk_cell BK274.out 0).trans rfl
              have hcz78_1 : w53.cell? ⟨gb274, 1, none⟩ = some (.string a0_1) := (blk_cell BK274.out 1).trans rfl
              have hcz78_2 : w53.cell? ⟨gb274, 2, none⟩ = some (.int .i64 a0_2) := (blk_cell BK274.out 2).trans rfl
              have hcz78_3 : w53.cell? ⟨gb274, 3, none⟩ = some (.string a0_3) := (blk_cell BK274.out 3).trans rfl
              have hcz78_4 : w53.cell? ⟨gb274, 4, none⟩ = some (.bool a0_4) := (blk_cell BK274.out 4).trans rfl
              have hfz78_0 := blk_frozen BK274.out 0
              have hfz78_1 := blk_frozen BK274.out 1
              have hfz78_2 := blk_frozen BK274.out 2
              have hfz78_3 := blk_frozen BK274.out 3
              have hfz78_4 := blk_frozen BK274.out 4
              go_wp2_with (first | ((with_reducible refine gate_callee (f := 12) rfl ?_); refine goesL_ (some 36) rfl rfl Try.func12 (by kernel_rfl) rfl #[.agg #[.string a1_0, .string a1_1, .int .i64 a1_2, .string a1_3, .bool a1_4], .agg #[.string a0_0, .string a0_1, .int .i64 a0_2, .string a0_3, .bool a0_4]] rfl (by (try simp only [List.map_toArray, List.map_cons, List.map_nil]); first | done | rfl | (simp only [List.length_drop, List.length_take]; rfl)) ?_; (with_reducible refine (cell_Compare.calls kj3 a1_0 a1_1 a1_2 a1_3 a1_4 a0_0 a0_1 a0_2 a0_3 a0_4 t284 _ A54.out).mono ?_); rintro e w79 ⟨rfl, hb⟩; refine ⟨_, rfl, ?_⟩; have n0_ := Aside0.mk (blk_below (g := gb274) (o := .cells #[.string a0_0, .string a0_1, .int .i64 a0_2, .string a0_3, .bool a0_4] 23 (0, 0)) (by (with_reducible repeat (first | refine blk_drewN ?_ _ | refine blk_drew ?_ | refine blk_alloc ?_ _)); exact BK274.out) hb); have n1_ := Aside0.mk (blk_below (g := gb275) (o := .cells #[.string a1_0, .string a1_1, .int .i64 a1_2, .string a1_3, .bool a1_4] 23 (0, 0)) (by (with_reducible repeat (first | refine blk_drewN ?_ _ | refine blk_drew ?_ | refine blk_alloc ?_ _)); exact BK275.out) hb); have n2_ := Aside0.mk (blk_below (g := gb276) (o := .cells #[.string a2_0, .string a2_1, .int .i64 a2_2, .string a2_3, .bool a2_4] 23 (0, 0)) (by (with_reducible repeat (first | refine blk_drewN ?_ _ | refine blk_drew ?_ | refine blk_alloc ?_ _)); exact BK276.out) hb); have n3_ := Aside0.mk (below_step (by repeat (first | (with_reducible first | exact HB.out | apply below_alloc | apply pw_below_drewN | apply below_drew1 | refine below_set ?_ GE274.out | refine below_set ?_ GE275.out | refine below_set ?_ GE276.out) | exact HB.out)) hb); clear BK274; clear BK275; clear BK276; clear HB; have BK274 := n0_; have BK275 := n1_; have BK276 := n2_; have HB := n3_; clear n0_ n1_ n2_ n3_; (try clear hb); (try clear hb2); (try clear hk); (try clear hi); have hcz80_0 : w79.cell? ⟨gb274, 0, none⟩ = some (.string a0_0) := (blk_cell BK274.out 0).trans rfl; have hcz80_1 : w79.cell? ⟨gb274, 1, none⟩ = some (.string a0_1) := (blk_cell BK274.out 1).trans rfl; have hcz80_2 : w79.cell? ⟨gb274, 2, none⟩ = some (.int .i64 a0_2) := (blk_cell BK274.out 2).trans rfl; have hcz80_3 : w79.cell? ⟨gb274, 3, none⟩ = some (.string a0_3) := (blk_cell BK274.out 3).trans rfl; have hcz80_4 : w79.cell? ⟨gb274, 4, none⟩ = some (.bool a0_4) := (blk_cell BK274.out 4).trans rfl; have hfz80_0 := blk_frozen BK274.out 0; have hfz80_1 := blk_frozen BK274.out 1; have hfz80_2 := blk_frozen BK274.out 2; have hfz80_3 := blk_frozen BK274.out 3; have hfz80_4 := blk_frozen BK274.out 4; have hcz81_0 : w79.cell? ⟨gb275, 0, none⟩ = some (.string a1_0) := (blk_cell BK275.out 0).trans rfl; have hcz81_1 : w79.cell? ⟨gb275, 1, none⟩ = some (.string a1_1) := (blk_cell BK275.out 1).trans rfl; have hcz81_2 : w79.cell? ⟨gb275, 2, none⟩ = some (.int .i64 a1_2) := (blk_cell BK275.out 2).trans rfl; have hcz81_3 : w79.cell? ⟨gb275, 3, none⟩ = some (.string a1_3) := (blk_cell BK275.out 3).trans rfl; have hcz81_4 : w79.cell? ⟨gb275, 4, none⟩ = some (.bool a1_4) := (blk_cell BK275.out 4).trans rfl; have hfz81_0 := blk_frozen BK275.out 0; have hfz81_1 := blk_frozen BK275.out 1; have hfz81_2 := blk_frozen BK275.out 2; have hfz81_3 := blk_frozen BK275.out 3; have hfz81_4 := blk_frozen BK275.out 4))
              go_meet
              case rel => exact ⟨_, (((t282 == 0) != false)), (by first | rfl | (simp; done) | (simp [*]; done) | (simp; exact (by decide : ∀ a_ b_ : Bool, (a_ == b_) = (!a_ != b_)) _ _)), H', ⟨by have := HJ3.out; first | omega | exact Nat.le_refl _⟩, ⟨by (with_reducible repeat (first | refine blk_drewN ?_ _ | refine blk_drew ?_ | refine blk_alloc ?_ _)); exact BK274.out⟩, ⟨by (with_reducible repeat (first | refine blk_drewN ?_ _ | refine blk_drew ?_ | refine blk_alloc ?_ _)); exact BK275.out⟩, ⟨by (with_reducible repeat (first | refine blk_drewN ?_ _ | refine blk_drew ?_ | refine blk_alloc ?_ _)); exact BK276.out⟩, ⟨by repeat (first | (with_reducible first | exact HB.out | apply below_alloc | apply pw_below_drewN | apply below_drew1 | refine below_set ?_ GE274.out | refine below_set ?_ GE275.out | refine below_set ?_ GE276.out) | exact HB.out)⟩⟩
          · rw [if_neg c55] at H
            have c55b0 : (t282 == (wrap64 (-t284))) = false := beq_eq_false_iff_ne.mpr c55
            have c55b1 : (t282 != (wrap64 (-t284))) = true := bne_iff_ne.mpr c55
            (first | rw [c55b0] | (simp only [i64_w, i32_w]; rw [c55b0]) | skip)
            have H' := Aside0.mk H
            clear H
            have hnb82 := NB275_274.out
            have hnc82 := NB274_275.out
            have hnb83 := NB275_276.out
            have hnc83 := NB276_275.out
            have hcz84_0 : w53.cell? ⟨gb275, 0, none⟩ = some (.string a1_0) := (blk_cell BK275.out 0).trans rfl
            have hcz84_1 : w53.cell? ⟨gb275, 1, none⟩ = some (.string a1_1) := (blk_cell BK275.out 1).trans rfl
            have hcz84_2 : w53.cell? ⟨gb275, 2, none⟩ = some (.int .i64 a1_2) := (blk_cell BK275.out 2).trans rfl
            have hcz84_3 : w53.cell? ⟨gb275, 3, none⟩ = some (.string a1_3) := (blk_cell BK275.out 3).trans rfl
            have hcz84_4 : w53.cell? ⟨gb275, 4, none⟩ = some (.bool a1_4) := (blk_cell BK275.out 4).trans rfl
            have hfz84_0 := blk_frozen BK275.out 0
            have hfz84_1 := blk_frozen BK275.out 1
            have hfz84_2 := blk_frozen BK275.out 2
            have hfz84_3 := blk_frozen BK275.out 3
            have hfz84_4 := blk_frozen BK275.out 4
            have hnb85 := NB274_276.out
            have hnc85 := NB276_274.out
            have hcz86_0 : w53.cell? ⟨gb274, 0, none⟩ = some (.string a0_0) := (blk_cell BK274.out 0).trans rfl
            have hcz86_1 : w53.cell? ⟨gb274, 1, none⟩ = some (.string a0_1) := (blk_cell BK274.out 1).trans rfl
            have hcz86_2 : w53.cell? ⟨gb274, 2, none⟩ = some (.int .i64 a0_2) := (blk_cell BK274.out 2).trans rfl
            have hcz86_3 : w53.cell? ⟨gb274, 3, none⟩ = some (.string a0_3) := (blk_cell BK274.out 3).trans rfl
            have hcz86_4 : w53.cell? ⟨gb274, 4, none⟩ = some (.bool a0_4) := (blk_cell BK274.out 4).trans rfl
            have hfz86_0 := blk_frozen BK274.out 0
            have hfz86_1 := blk_frozen BK274.out 1
            have hfz86_2 := blk_frozen BK274.out 2
            have hfz86_3 := blk_frozen BK274.out 3
            have hfz86_4 := blk_frozen BK274.out 4
            go_wp2_with (first | ((with_reducible refine gate_callee (f := 12) rfl ?_); refine goesL_ (some 36) rfl rfl Try.func12 (by kernel_rfl) rfl #[.agg #[.string a1_0, .string a1_1, .int .i64 a1_2, .string a1_3, .bool a1_4], .agg #[.string a0_0, .string a0_1, .int .i64 a0_2, .string a0_3, .bool a0_4]] rfl (by (try simp only [List.map_toArray, List.map_cons, List.map_nil]); first | done | rfl | (simp only [List.length_drop, List.length_take]; rfl)) ?_; (with_reducible refine (cell_Compare.calls kj3 a1_0 a1_1 a1_2 a1_3 a1_4 a0_0 a0_1 a0_2 a0_3 a0_4 t284 _ A54.out).mono ?_); rintro e w87 ⟨rfl, hb⟩; refine ⟨_, rfl, ?_⟩; have n0_ := Aside0.mk (blk_below (g := gb274) (o := .cells #[.string a0_0, .string a0_1, .int .i64 a0_2, .string a0_3, .bool a0_4] 23 (0, 0)) (by (with_reducible repeat (first | refine blk_drewN ?_ _ | refine blk_drew ?_ | refine blk_alloc ?_ _)); exact BK274.out) hb); have n1_ := Aside0.mk (blk_below (g := gb275) (o := .cells #[.string a1_0, .string a1_1, .int .i64 a1_2, .string a1_3, .bool a1_4] 23 (0, 0)) (by (with_reducible repeat (first | refine blk_drewN ?_ _ | refine blk_drew ?_ | refine blk_alloc ?_ _)); exact BK275.out) hb); have n2_ := Aside0.mk (blk_below (g := gb276) (o := .cells #[.string a2_0, .string a2_1, .int .i64 a2_2, .string a2_3, .bool a2_4] 23 (0, 0)) (by (with_reducible repeat (first | refine blk_drewN ?_ _ | refine blk_drew ?_ | refine blk_alloc ?_ _)); exact BK276.out) hb); have n3_ := Aside0.mk (below_step (by repeat (first | (with_reducible first | exact HB.out | apply below_alloc | apply pw_below_drewN | apply below_drew1 | refine below_set ?_ GE274.out | refine below_set ?_ GE275.out | refine below_set ?_ GE276.out) | exact HB.out)) hb); clear BK274; clear BK275; clear BK276; clear HB; have BK274 := n0_; have BK275 := n1_; have BK276 := n2_; have HB := n3_; clear n0_ n1_ n2_ n3_; (try clear hb); (try clear hb2); (try clear hk); (try clear hi)))
            go_meet
            case rel => exact ⟨_, (true), (by first | rfl | (simp; done) | (simp [*]; done) | (simp; exact (by decide : ∀ a_ b_ : Bool, (a_ == b_) = (!a_ != b_)) _ _)), H', ⟨by have := HJ3.out; first | omega | exact Nat.le_refl _⟩, ⟨by (with_reducible repeat (first | refine blk_drewN ?_ _ | refine blk_drew ?_ | refine blk_alloc ?_ _)); exact BK274.out⟩, ⟨by (with_reducible repeat (first | refine blk_drewN ?_ _ | refine blk_drew ?_ | refine blk_alloc ?_ _)); exact BK275.out⟩, ⟨by (with_reducible repeat (first | refine blk_drewN ?_ _ | refine blk_drew ?_ | refine blk_alloc ?_ _)); exact BK276.out⟩, ⟨by repeat (first | (with_reducible first | exact HB.out | apply below_alloc | apply pw_below_drewN | apply below_drew1 | refine below_set ?_ GE274.out | refine below_set ?_ GE275.out | refine below_set ?_ GE276.out) | exact HB.out)⟩⟩
        case rest =>
          clear HC44
          try clear c1
          try clear c2
          try clear p2
          try clear c3
          try clear c4
          try clear c5
          try clear c6
          try clear p6
          try clear c7
          try clear c8
          try clear c9
          try clear c11
          try clear c12
          try clear c13
          try clear c16
          try clear c17
          try clear c20
          try clear c26
          try clear c27
          try clear c30
          try clear c34
          try clear c35
          try clear c39
          try clear c45
          try clear c46
          try clear c48
          try clear c55
          try clear c55b0
          try clear c55b1
          try clear c56
          try clear c56b0
          try clear c56b1
          try clear c57
          try clear c57b0
          try clear c57b1
          try clear c58
          try clear c59
          try clear c61
          try clear p64
          try clear c66
          try clear c67
          try clear c69
          try clear c74
          try clear c75
          try clear c77
          try clear c82
          try clear c83
          try clear c85
          try clear hcz18_0
          try clear hcz18_1
          try clear hcz18_2
          try clear hcz18_3
          try clear hcz18_4
          try clear hcz21_0
          try clear hcz21_1
          try clear hcz21_2
          try clear hcz21_3
          try clear hcz21_4
          try clear hcz23_0
          try clear hcz23_1
          try clear hcz23_2
          try clear hcz23_3
          try clear hcz23_4
          try clear hcz28_0
          try clear hcz28_1
          try clear hcz28_2
          try clear hcz28_3
          try clear hcz28_4
          try clear hcz31_0
          try clear hcz31_1
          try clear hcz31_2
          try clear hcz31_3
          try clear hcz31_4
          try clear hcz36_0
          try clear hcz36_1
          try clear hcz36_2
          try clear hcz36_3
          try clear hcz36_4
          try clear hcz47_0
          try clear hcz47_1
          try clear hcz47_2
          try clear hcz47_3
          try clear hcz47_4
          try clear hcz49_0
          try clear hcz49_1
          try clear hcz49_2
          try clear hcz49_3
          try clear hcz49_4
          try clear hcz51_0
          try clear hcz51_1
          try clear hcz51_2
          try clear hcz51_3
          try clear hcz51_4
          try clear hcz52_0
          try clear hcz52_1
          try clear hcz52_2
          try clear hcz52_3
          try clear hcz52_4
          try clear hcz60_0
          try clear hcz60_1
          try clear hcz60_2
          try clear hcz60_3
          try clear hcz60_4
          try clear hcz62_0
          try clear hcz62_1
          try clear hcz62_2
          try clear hcz62_3
          try clear hcz62_4
          try clear hcz64_0
          try clear hcz64_1
          try clear hcz64_2
          try clear hcz64_3
          try clear hcz64_4
          try clear hcz65_0
          try clear hcz65_1
          try clear hcz65_2
          try clear hcz65_3
          try clear hcz65_4
          try clear hcz68_0
          try clear hcz68_1
          try clear hcz68_2
          try clear hcz68_3
          try clear hcz68_4
          try clear hcz70_0
          try clear hcz70_1
          try clear hcz70_2
          try clear hcz70_3
          try clear hcz70_4
          try clear hcz72_0
          try clear hcz72_1
          try clear hcz72_2
          try clear hcz72_3
          try clear hcz72_4
          try clear hcz73_0
          try clear hcz73_1
          try clear hcz73_2
          try clear hcz73_3
          try clear hcz73_4
          try clear hcz76_0
          try clear hcz76_1
          try clear hcz76_2
          try clear hcz76_3
          try clear hcz76_4
          try clear hcz78_0
          try clear hcz78_1
          try clear hcz78_2
          try clear hcz78_3
          try clear hcz78_4
          try clear hcz80_0
          try clear hcz80_1
          try clear hcz80_2
          try clear hcz80_3
          try clear hcz80_4
          try clear hcz81_0
          try clear hcz81_1
          try clear hcz81_2
          try clear hcz81_3
          try clear hcz81_4
          try clear hcz84_0
          try clear hcz84_1
          try clear hcz84_2
          try clear hcz84_3
          try clear hcz84_4
          try clear hcz86_0
          try clear hcz86_1
          try clear hcz86_2
          try clear hcz86_3
          try clear hcz86_4
          try clear hfz18_0
          try clear hfz18_1
          try clear hfz18_2
          try clear hfz18_3
          try clear hfz18_4
          try clear hfz21_0
          try clear hfz21_1
          try clear hfz21_2
          try clear hfz21_3
          try clear hfz21_4
          try clear hfz23_0
          try clear hfz23_1
          try clear hfz23_2
          try clear hfz23_3
          try clear hfz23_4
          try clear hfz28_0
          try clear hfz28_1
          try clear hfz28_2
          try clear hfz28_3
          try clear hfz28_4
          try clear hfz31_0
          try clear hfz31_1
          try clear hfz31_2
          try clear hfz31_3
          try clear hfz31_4
          try clear hfz36_0
          try clear hfz36_1
          try clear hfz36_2
          try clear hfz36_3
          try clear hfz36_4
          try clear hfz47_0
          try clear hfz47_1
          try clear hfz47_2
          try clear hfz47_3
          try clear hfz47_4
          try clear hfz49_0
          try clear hfz49_1
          try clear hfz49_2
          try clear hfz49_3
          try clear hfz49_4
          try clear hfz51_0
          try clear hfz51_1
          try clear hfz51_2
          try clear hfz51_3
          try clear hfz51_4
          try clear hfz52_0
          try clear hfz52_1
          try clear hfz52_2
          try clear hfz52_3
          try clear hfz52_4
          try clear hfz60_0
          try clear hfz60_1
          try clear hfz60_2
          try clear hfz60_3
          try clear hfz60_4
          try clear hfz62_0
          try clear hfz62_1
          try clear hfz62_2
          try clear hfz62_3
          try clear hfz62_4
          try clear hfz64_0
          try clear hfz64_1
          try clear hfz64_2
          try clear hfz64_3
          try clear hfz64_4
          try clear hfz65_0
          try clear hfz65_1
          try clear hfz65_2
          try clear hfz65_3
          try clear hfz65_4
          try clear hfz68_0
          try clear hfz68_1
          try clear hfz68_2
          try clear hfz68_3
          try clear hfz68_4
          try clear hfz70_0
          try clear hfz70_1
          try clear hfz70_2
          try clear hfz70_3
          try clear hfz70_4
          try clear hfz72_0
          try clear hfz72_1
          try clear hfz72_2
          try clear hfz72_3
          try clear hfz72_4
          try clear hfz73_0
          try clear hfz73_1
          try clear hfz73_2
          try clear hfz73_3
          try clear hfz73_4
          try clear hfz76_0
          try clear hfz76_1
          try clear hfz76_2
          try clear hfz76_3
          try clear hfz76_4
          try clear hfz78_0
          try clear hfz78_1
          try clear hfz78_2
          try clear hfz78_3
          try clear hfz78_4
          try clear hfz80_0
          try clear hfz80_1
          try clear hfz80_2
          try clear hfz80_3
          try clear hfz80_4
          try clear hfz81_0
          try clear hfz81_1
          try clear hfz81_2
          try clear hfz81_3
          try clear hfz81_4
          try clear hfz84_0
          try clear hfz84_1
          try clear hfz84_2
          try clear hfz84_3
          try clear hfz84_4
          try clear hfz86_0
          try clear hfz86_1
          try clear hfz86_2
          try clear hfz86_3
          try clear hfz86_4
          try clear p2
          obtain ⟨kq, x62_43, rfl, HA, HJ43, BK274, BK275, BK276, HB⟩ := hcut
          cases kq with
          | zero => exact absurd HA.out (by simp [shardloglaw08_CellOrder.j1])
          | succ kj43 =>
            have H := HA.out
            clear HA
            simp only [shardloglaw08_CellOrder.j1] at H
            by_cases c88 : x62_43 = true
            · subst c88
              have H1 : (none) = some r := by rw [if_pos rfl] at H; exact H
              clear H
              have H := H1
              clear H1
              exact absurd H (by simp)
            · replace c88 := Bool.eq_false_iff.mpr c88
              subst c88
              have H1 : (if t282 ≤ 0 then (if t283 ≤ 0 then ((cell_Compare.f kj43 a0_0 a0_1 a0_2 a0_3 a0_4 a2_0 a2_1 a2_2 a2_3 a2_4).bind fun t285 => (if t285 ≤ 0 then ((cell_Compare.f kj43 a0_0 a0_1 a0_2 a0_3 a0_4 a2_0 a2_1 a2_2 a2_3 a2_4).bind fun t286 => (if t286 < 0 then (some true) else (if t282 = 0 then (some (t283 == 0)) else (none)))) else (none))) else (some true)) else (some true)) = some r := by rw [if_neg (show ¬ (false = true) by decide)] at H; exact H
              clear H
              have H := H1
              clear H1
              by_cases c89 : t282 ≤ 0
              · rw [if_pos c89] at H
                have c89b0 : decide (t282 ≤ 0) = true := decide_eq_true c89
                clear c89
                by_cases c90 : t283 ≤ 0
                · rw [if_pos c90] at H
                  have c90b0 : decide (t283 ≤ 0) = true := decide_eq_true c90
                  clear c90
                  replace H := Option.bind_eq_some_iff.mp H
                  obtain ⟨t285, A910, H⟩ := H
                  replace H : (if t285 ≤ 0 then ((cell_Compare.f kj43 a0_0 a0_1 a0_2 a0_3 a0_4 a2_0 a2_1 a2_2 a2_3 a2_4).bind fun t286 => (if t286 < 0 then (some true) else (if t282 = 0 then (some (t283 == 0)) else (none)))) else (none)) = some r := H
                  have A91 := Aside0.mk A910
                  clear A910
                  by_cases c92 : t285 ≤ 0
                  · rw [if_pos c92] at H
                    have c92b0 : decide (t285 ≤ 0) = true := decide_eq_true c92
                    clear c92
                    replace H := Option.bind_eq_some_iff.mp H
                    obtain ⟨t286, A930, H⟩ := H
                    obtain rfl : t285 = t286 := Option.some.inj (A91.out.symm.trans A930)
                    replace H : (if t285 < 0 then (some true) else (if t282 = 0 then (some (t283 == 0)) else (none))) = some r := H
                    clear A930
                    by_cases c94 : t285 < 0
                    · rw [if_pos c94] at H
                      have c94b0 : decide (t285 < 0) = true := decide_eq_true c94
                      clear c94
                      obtain rfl := Option.some.inj H
                      have hnb95 := NB274_275.out
                      have hnc95 := NB275_274.out
                      have hnb96 := NB274_276.out
                      have hnc96 := NB276_274.out
                      have hcz97_0 : wc.cell? ⟨gb274, 0, none⟩ = some (.string a0_0) := (blk_cell BK274.out 0).trans rfl
                      have hcz97_1 : wc.cell? ⟨gb274, 1, none⟩ = some (.string a0_1) := (blk_cell BK274.out 1).trans rfl
                      have hcz97_2 : wc.cell? ⟨gb274, 2, none⟩ = some (.int .i64 a0_2) := (blk_cell BK274.out 2).trans rfl
                      have hcz97_3 : wc.cell? ⟨gb274, 3, none⟩ = some (.string a0_3) := (blk_cell BK274.out 3).trans rfl
                      have hcz97_4 : wc.cell? ⟨gb274, 4, none⟩ = some (.bool a0_4) := (blk_cell BK274.out 4).trans rfl
                      have hfz97_0 := blk_frozen BK274.out 0
                      have hfz97_1 := blk_frozen BK274.out 1
                      have hfz97_2 := blk_frozen BK274.out 2
                      have hfz97_3 := blk_frozen BK274.out 3
                      have hfz97_4 := blk_frozen BK274.out 4
                      have hnb98 := NB276_275.out
                      have hnc98 := NB275_276.out
                      have hcz99_0 : wc.cell? ⟨gb276, 0, none⟩ = some (.string a2_0) := (blk_cell BK276.out 0).trans rfl
                      have hcz99_1 : wc.cell? ⟨gb276, 1, none⟩ = some (.string a2_1) := (blk_cell BK276.out 1).trans rfl
                      have hcz99_2 : wc.cell? ⟨gb276, 2, none⟩ = some (.int .i64 a2_2) := (blk_cell BK276.out 2).trans rfl
                      have hcz99_3 : wc.cell? ⟨gb276, 3, none⟩ = some (.string a2_3) := (blk_cell BK276.out 3).trans rfl
                      have hcz99_4 : wc.cell? ⟨gb276, 4, none⟩ = some (.bool a2_4) := (blk_cell BK276.out 4).trans rfl
                      have hfz99_0 := blk_frozen BK276.out 0
                      have hfz99_1 := blk_frozen BK276.out 1
                      have hfz99_2 := blk_frozen BK276.out 2
                      have hfz99_3 := blk_frozen BK276.out 3
                      have hfz99_4 := blk_frozen BK276.out 4
                      go_wp2_with (first | (go_at_call 12; (with_reducible refine (cell_Compare.calls kj43 a0_0 a0_1 a0_2 a0_3 a0_4 a2_0 a2_1 a2_2 a2_3 a2_4 t285 _ A91.out).mono ?_); rintro e w100 ⟨rfl, hb⟩; have n0_ := Aside0.mk (blk_below (g := gb274) (o := .cells #[.string a0_0, .string a0_1, .int .i64 a0_2, .string a0_3, .bool a0_4] 23 (0, 0)) (by (with_reducible repeat (first | refine blk_drewN ?_ _ | refine blk_drew ?_ | refine blk_alloc ?_ _)); exact BK274.out) hb); have n1_ := Aside0.mk (blk_below (g := gb275) (o := .cells #[.string a1_0, .string a1_1, .int .i64 a1_2, .string a1_3, .bool a1_4] 23 (0, 0)) (by (with_reducible repeat (first | refine blk_drewN ?_ _ | refine blk_drew ?_ | refine blk_alloc ?_ _)); exact BK275.out) hb); have n2_ := Aside0.mk (blk_below (g := gb276) (o := .cells #[.string a2_0, .string a2_1, .int .i64 a2_2, .string a2_3, .bool a2_4] 23 (0, 0)) (by (with_reducible repeat (first | refine blk_drewN ?_ _ | refine blk_drew ?_ | refine blk_alloc ?_ _)); exact BK276.out) hb); have n3_ := Aside0.mk (below_step (by repeat (first | (with_reducible first | exact HB.out | apply below_alloc | apply pw_below_drewN | apply below_drew1 | refine below_set ?_ GE274.out | refine below_set ?_ GE275.out | refine below_set ?_ GE276.out) | exact HB.out)) hb); clear BK274; clear BK275; clear BK276; clear HB; have BK274 := n0_; have BK275 := n1_; have BK276 := n2_; have HB := n3_; clear n0_ n1_ n2_ n3_; (try clear hb); (try clear hb2); (try clear hk); (try clear hi); have hcz101_0 : w100.cell? ⟨gb274, 0, none⟩ = some (.string a0_0) := (blk_cell BK274.out 0).trans rfl; have hcz101_1 : w100.cell? ⟨gb274, 1, none⟩ = some (.string a0_1) := (blk_cell BK274.out 1).trans rfl; have hcz101_2 : w100.cell? ⟨gb274, 2, none⟩ = some (.int .i64 a0_2) := (blk_cell BK274.out 2).trans rfl; have hcz101_3 : w100.cell? ⟨gb274, 3, none⟩ = some (.string a0_3) := (blk_cell BK274.out 3).trans rfl; have hcz101_4 : w100.cell? ⟨gb274, 4, none⟩ = some (.bool a0_4) := (blk_cell BK274.out 4).trans rfl; have hfz101_0 := blk_frozen BK274.out 0; have hfz101_1 := blk_frozen BK274.out 1; have hfz101_2 := blk_frozen BK274.out 2; have hfz101_3 := blk_frozen BK274.out 3; have hfz101_4 := blk_frozen BK274.out 4; have hcz102_0 : w100.cell? ⟨gb276, 0, none⟩ = some (.string a2_0) := (blk_cell BK276.out 0).trans rfl; have hcz102_1 : w100.cell? ⟨gb276, 1, none⟩ = some (.string a2_1) := (blk_cell BK276.out 1).trans rfl; have hcz102_2 : w100.cell? ⟨gb276, 2, none⟩ = some (.int .i64 a2_2) := (blk_cell BK276.out 2).trans rfl; have hcz102_3 : w100.cell? ⟨gb276, 3, none⟩ = some (.string a2_3) := (blk_cell BK276.out 3).trans rfl; have hcz102_4 : w100.cell? ⟨gb276, 4, none⟩ = some (.bool a2_4) := (blk_cell BK276.out 4).trans rfl; have hfz102_0 := blk_frozen BK276.out 0; have hfz102_1 := blk_frozen BK276.out 1; have hfz102_2 := blk_frozen BK276.out 2; have hfz102_3 := blk_frozen BK276.out 3; have hfz102_4 := blk_frozen BK276.out 4) | (go_at_call 12; (with_reducible refine (cell_Compare.calls kj43 a0_0 a0_1 a0_2 a0_3 a0_4 a2_0 a2_1 a2_2 a2_3 a2_4 t285 _ A91.out).mono ?_); rintro e w103 ⟨rfl, hb⟩; have n0_ := Aside0.mk (blk_below (g := gb274) (o := .cells #[.string a0_0, .string a0_1, .int .i64 a0_2, .string a0_3, .bool a0_4] 23 (0, 0)) (by (with_reducible repeat (first | refine blk_drewN ?_ _ | refine blk_drew ?_ | refine blk_alloc ?_ _)); exact BK274.out) hb); have n1_ := Aside0.mk (blk_below (g := gb275) (o := .cells #[.string a1_0, .string a1_1, .int .i64 a1_2, .string a1_3, .bool a1_4] 23 (0, 0)) (by (with_reducible repeat (first | refine blk_drewN ?_ _ | refine blk_drew ?_ | refine blk_alloc ?_ _)); exact BK275.out) hb); have n2_ := Aside0.mk (blk_below (g := gb276) (o := .cells #[.string a2_0, .string a2_1, .int .i64 a2_2, .string a2_3, .bool a2_4] 23 (0, 0)) (by (with_reducible repeat (first | refine blk_drewN ?_ _ | refine blk_drew ?_ | refine blk_alloc ?_ _)); exact BK276.out) hb); have n3_ := Aside0.mk (below_step (by repeat (first | (with_reducible first | exact HB.out | apply below_alloc | apply pw_below_drewN | apply below_drew1 | refine below_set ?_ GE274.out | refine below_set ?_ GE275.out | refine below_set ?_ GE276.out) | exact HB.out)) hb); clear BK274; clear BK275; clear BK276; clear HB; have BK274 := n0_; have BK275 := n1_; have BK276 := n2_; have HB := n3_; clear n0_ n1_ n2_ n3_; (try clear hb); (try clear hb2); (try clear hk); (try clear hi)))
                      go_ret
                      exact ⟨by first | rfl | (simp [errW_none, errW_some] <;> rfl) | (simp [*, errW_none, errW_some] <;> rfl), by repeat (first | (with_reducible first | exact HB.out | apply below_alloc | apply pw_below_drewN | apply below_drew1 | refine below_set ?_ GE274.out | refine below_set ?_ GE275.out | refine below_set ?_ GE276.out) | exact HB.out)⟩
                    · rw [if_neg c94] at H
                      have c94b0 : decide (t285 < 0) = false := decide_eq_false c94
                      clear c94
                      by_cases c104 : t282 = 0
                      · rw [if_pos c104] at H
                        have c104b0 : (t282 == 0) = true := beq_iff_eq.mpr c104
                        have c104b1 : (t282 != 0) = false := bne_eq_false_iff_eq.mpr c104
                        clear c104
                        obtain rfl := Option.some.inj H
                        have hnb105 := NB274_275.out
                        have hnc105 := NB275_274.out
                        have hnb106 := NB274_276.out
                        have hnc106 := NB276_274.out
                        have hcz107_0 : wc.cell? ⟨gb274, 0, none⟩ = some (.string a0_0) := (blk_cell BK274.out 0).trans rfl
                        have hcz107_1 : wc.cell? ⟨gb274, 1, none⟩ = some (.string a0_1) := (blk_cell BK274.out 1).trans rfl
                        have hcz107_2 : wc.cell? ⟨gb274, 2, none⟩ = some (.int .i64 a0_2) := (blk_cell BK274.out 2).trans rfl
                        have hcz107_3 : wc.cell? ⟨gb274, 3, none⟩ = some (.string a0_3) := (blk_cell BK274.out 3).trans rfl
                        have hcz107_4 : wc.cell? ⟨gb274, 4, none⟩ = some (.bool a0_4) := (blk_cell BK274.out 4).trans rfl
                        have hfz107_0 := blk_frozen BK274.out 0
                        have hfz107_1 := blk_frozen BK274.out 1
                        have hfz107_2 := blk_frozen BK274.out 2
                        have hfz107_3 := blk_frozen BK274.out 3
                        have hfz107_4 := blk_frozen BK274.out 4
                        have hnb108 := NB276_275.out
                        have hnc108 := NB275_276.out
                        have hcz109_0 : wc.cell? ⟨gb276, 0, none⟩ = some (.string a2_0) := (blk_cell BK276.out 0).trans rfl
                        have hcz109_1 : wc.cell? ⟨gb276, 1, none⟩ = some (.string a2_1) := (blk_cell BK276.out 1).trans rfl
                        have hcz109_2 : wc.cell? ⟨gb276, 2, none⟩ = some (.int .i64 a2_2) := (blk_cell BK276.out 2).trans rfl
                        have hcz109_3 : wc.cell? ⟨gb276, 3, none⟩ = some (.string a2_3) := (blk_cell BK276.out 3).trans rfl
                        have hcz109_4 : wc.cell? ⟨gb276, 4, none⟩ = some (.bool a2_4) := (blk_cell BK276.out 4).trans rfl
                        have hfz109_0 := blk_frozen BK276.out 0
                        have hfz109_1 := blk_frozen BK276.out 1
                        have hfz109_2 := blk_frozen BK276.out 2
                        have hfz109_3 := blk_frozen BK276.out 3
                        have hfz109_4 := blk_frozen BK276.out 4
                        go_wp2_with (first | (go_at_call 12; (with_reducible refine (cell_Compare.calls kj43 a0_0 a0_1 a0_2 a0_3 a0_4 a2_0 a2_1 a2_2 a2_3 a2_4 t285 _ A91.out).mono ?_); rintro e w110 ⟨rfl, hb⟩; have n0_ := Aside0.mk (blk_below (g := gb274) (o := .cells #[.string a0_0, .string a0_1, .int .i64 a0_2, .string a0_3, .bool a0_4] 23 (0, 0)) (by (with_reducible repeat (first | refine blk_drewN ?_ _ | refine blk_drew ?_ | refine blk_alloc ?_ _)); exact BK274.out) hb); have n1_ := Aside0.mk (blk_below (g := gb275) (o := .cells #[.string a1_0, .string a1_1, .int .i64 a1_2, .string a1_3, .bool a1_4] 23 (0, 0)) (by (with_reducible repeat (first | refine blk_drewN ?_ _ | refine blk_drew ?_ | refine blk_alloc ?_ _)); exact BK275.out) hb); have n2_ := Aside0.mk (blk_below (g := gb276) (o := .cells #[.string a2_0, .string a2_1, .int .i64 a2_2, .string a2_3, .bool a2_4] 23 (0, 0)) (by (with_reducible repeat (first | refine blk_drewN ?_ _ | refine blk_drew ?_ | refine blk_alloc ?_ _)); exact BK276.out) hb); have n3_ := Aside0.mk (below_step (by repeat (first | (with_reducible first | exact HB.out | apply below_alloc | apply pw_below_drewN | apply below_drew1 | refine below_set ?_ GE274.out | refine below_set ?_ GE275.out | refine below_set ?_ GE276.out) | exact HB.out)) hb); clear BK274; clear BK275; clear BK276; clear HB; have BK274 := n0_; have BK275 := n1_; have BK276 := n2_; have HB := n3_; clear n0_ n1_ n2_ n3_; (try clear hb); (try clear hb2); (try clear hk); (try clear hi); have hcz111_0 : w110.cell? ⟨gb274, 0, none⟩ = some (.string a0_0) := (blk_cell BK274.out 0).trans rfl; have hcz111_1 : w110.cell? ⟨gb274, 1, none⟩ = some (.string a0_1) := (blk_cell BK274.out 1).trans rfl; have hcz111_2 : w110.cell? ⟨gb274, 2, none⟩ = some (.int .i64 a0_2) := (blk_cell BK274.out 2).trans rfl; have hcz111_3 : w110.cell? ⟨gb274, 3, none⟩ = some (.string a0_3) := (blk_cell BK274.out 3).trans rfl; have hcz111_4 : w110.cell? ⟨gb274, 4, none⟩ = some (.bool a0_4) := (blk_cell BK274.out 4).trans rfl; have hfz111_0 := blk_frozen BK274.out 0; have hfz111_1 := blk_frozen BK274.out 1; have hfz111_2 := blk_frozen BK274.out 2; have hfz111_3 := blk_frozen BK274.out 3; have hfz111_4 := blk_frozen BK274.out 4; have hcz112_0 : w110.cell? ⟨gb276, 0, none⟩ = some (.string a2_0) := (blk_cell BK276.out 0).trans rfl; have hcz112_1 : w110.cell? ⟨gb276, 1, none⟩ = some (.string a2_1) := (blk_cell BK276.out 1).trans rfl; have hcz112_2 : w110.cell? ⟨gb276, 2, none⟩ = some (.int .i64 a2_2) := (blk_cell BK276.out 2).trans rfl; have hcz112_3 : w110.cell? ⟨gb276, 3, none⟩ = some (.string a2_3) := (blk_cell BK276.out 3).trans rfl; have hcz112_4 : w110.cell? ⟨gb276, 4, none⟩ = some (.bool a2_4) := (blk_cell BK276.out 4).trans rfl; have hfz112_0 := blk_frozen BK276.out 0; have hfz112_1 := blk_frozen BK276.out 1; have hfz112_2 := blk_frozen BK276.out 2; have hfz112_3 := blk_frozen BK276.out 3; have hfz112_4 := blk_frozen BK276.out 4) | (go_at_call 12; (with_reducible refine (cell_Compare.calls kj43 a0_0 a0_1 a0_2 a0_3 a0_4 a2_0 a2_1 a2_2 a2_3 a2_4 t285 _ A91.out).mono ?_); rintro e w113 ⟨rfl, hb⟩; have n0_ := Aside0.mk (blk_below (g := gb274) (o := .cells #[.string a0_0, .string a0_1, .int .i64 a0_2, .string a0_3, .bool a0_4] 23 (0, 0)) (by (with_reducible repeat (first | refine blk_drewN ?_ _ | refine blk_drew ?_ | refine blk_alloc ?_ _)); exact BK274.out) hb); have n1_ := Aside0.mk (blk_below (g := gb275) (o := .cells #[.string a1_0, .string a1_1, .int .i64 a1_2, .string a1_3, .bool a1_4] 23 (0, 0)) (by (with_reducible repeat (first | refine blk_drewN ?_ _ | refine blk_drew ?_ | refine blk_alloc ?_ _)); exact BK275.out) hb); have n2_ := Aside0.mk (blk_below (g := gb276) (o := .cells #[.string a2_0, .string a2_1, .int .i64 a2_2, .string a2_3, .bool a2_4] 23 (0, 0)) (by (with_reducible repeat (first | refine blk_drewN ?_ _ | refine blk_drew ?_ | refine blk_alloc ?_ _)); exact BK276.out) hb); have n3_ := Aside0.mk (below_step (by repeat (first | (with_reducible first | exact HB.out | apply below_alloc | apply pw_below_drewN | apply below_drew1 | refine below_set ?_ GE274.out | refine below_set ?_ GE275.out | refine below_set ?_ GE276.out) | exact HB.out)) hb); clear BK274; clear BK275; clear BK276; clear HB; have BK274 := n0_; have BK275 := n1_; have BK276 := n2_; have HB := n3_; clear n0_ n1_ n2_ n3_; (try clear hb); (try clear hb2); (try clear hk); (try clear hi)))
                        go_ret
                        exact ⟨by first | rfl | (simp [errW_none, errW_some] <;> rfl) | (simp [*, errW_none, errW_some] <;> rfl), by repeat (first | (with_reducible first | exact HB.out | apply below_alloc | apply pw_below_drewN | apply below_drew1 | refine below_set ?_ GE274.out | refine below_set ?_ GE275.out | refine below_set ?_ GE276.out) | exact HB.out)⟩
                      · rw [if_neg c104] at H
                        exact absurd H (by simp)
                  · rw [if_neg c92] at H
                    exact absurd H (by simp)
                · rw [if_neg c90] at H
                  have c90b0 : decide (t283 ≤ 0) = false := decide_eq_false c90
                  clear c90
                  obtain rfl := Option.some.inj H
                  go_wp2
                  go_ret
                  exact ⟨by first | rfl | (simp [errW_none, errW_some] <;> rfl) | (simp [*, errW_none, errW_some] <;> rfl), by repeat (first | (with_reducible first | exact HB.out | apply below_alloc | apply pw_below_drewN | apply below_drew1 | refine below_set ?_ GE274.out | refine below_set ?_ GE275.out | refine below_set ?_ GE276.out) | exact HB.out)⟩
              · rw [if_neg c89] at H
                have c89b0 : decide (t282 ≤ 0) = false := decide_eq_false c89
                clear c89
                obtain rfl := Option.some.inj H
                go_wp2
                go_ret
                exact ⟨by first | rfl | (simp [errW_none, errW_some] <;> rfl) | (simp [*, errW_none, errW_some] <;> rfl), by repeat (first | (with_reducible first | exact HB.out | apply below_alloc | apply pw_below_drewN | apply below_drew1 | refine below_set ?_ GE274.out | refine below_set ?_ GE275.out | refine below_set ?_ GE276.out) | exact HB.out)⟩

/-- THE ONE PURE STATEMENT of shardloglaw08_CellOrder. -/
def shardloglaw08_CellOrder.Pure : Prop := ∀ (a0_0 : ByteArray) (a0_1 : ByteArray) (a0_2 : Int) (a0_3 : ByteArray) (a0_4 : Bool) (a1_0 : ByteArray) (a1_1 : ByteArray) (a1_2 : Int) (a1_3 : ByteArray) (a1_4 : Bool) (a2_0 : ByteArray) (a2_1 : ByteArray) (a2_2 : Int) (a2_3 : ByteArray) (a2_4 : Bool), a0_0.size ≤ 140737488351232 → a0_1.size ≤ 140737488351232 → (Lit.int .i64 a0_2).wf = true → a0_3.size ≤ 140737488351232 → a1_0.size ≤ 140737488351232 → a1_1.size ≤ 140737488351232 → (Lit.int .i64 a1_2).wf = true → a1_3.size ≤ 140737488351232 → a2_0.size ≤ 140737488351232 → a2_1.size ≤ 140737488351232 → (Lit.int .i64 a2_2).wf = true → a2_3.size ≤ 140737488351232 → ∃ k, shardloglaw08_CellOrder.f k a0_0 a0_1 a0_2 a0_3 a0_4 a1_0 a1_1 a1_2 a1_3 a1_4 a2_0 a2_1 a2_2 a2_3 a2_4 = some true
theorem shardloglaw08_CellOrder.walk (P : shardloglaw08_CellOrder.Pure) (a0_0 : ByteArray) (a0_1 : ByteArray) (a0_2 : Int) (a0_3 : ByteArray) (a0_4 : Bool) (a1_0 : ByteArray) (a1_1 : ByteArray) (a1_2 : Int) (a1_3 : ByteArray) (a1_4 : Bool) (a2_0 : ByteArray) (a2_1 : ByteArray) (a2_2 : Int) (a2_3 : ByteArray) (a2_4 : Bool) (w : World) (wf0_0 : a0_0.size ≤ 140737488351232) (wf0_1 : a0_1.size ≤ 140737488351232) (wf0_2 : (Lit.int .i64 a0_2).wf = true) (wf0_3 : a0_3.size ≤ 140737488351232) (wf1_0 : a1_0.size ≤ 140737488351232) (wf1_1 : a1_1.size ≤ 140737488351232) (wf1_2 : (Lit.int .i64 a1_2).wf = true) (wf1_3 : a1_3.size ≤ 140737488351232) (wf2_0 : a2_0.size ≤ 140737488351232) (wf2_1 : a2_1.size ≤ 140737488351232) (wf2_2 : (Lit.int .i64 a2_2).wf = true) (wf2_3 : a2_3.size ≤ 140737488351232) :
    Calls Try.prog 4 #[.agg #[.string a0_0, .string a0_1, .int .i64 a0_2, .string a0_3, .bool a0_4], .agg #[.string a1_0, .string a1_1, .int .i64 a1_2, .string a1_3, .bool a1_4], .agg #[.string a2_0, .string a2_1, .int .i64 a2_2, .string a2_3, .bool a2_4]] w fun e w' => e = .returned (.bool true) ∧ Below w.heap.size w w' := by
  obtain ⟨k, h⟩ := P a0_0 a0_1 a0_2 a0_3 a0_4 a1_0 a1_1 a1_2 a1_3 a1_4 a2_0 a2_1 a2_2 a2_3 a2_4 wf0_0 wf0_1 wf0_2 wf0_3 wf1_0 wf1_1 wf1_2 wf1_3 wf2_0 wf2_1 wf2_2 wf2_3
  refine (shardloglaw08_CellOrder.calls k a0_0 a0_1 a0_2 a0_3 a0_4 a1_0 a1_1 a1_2 a1_3 a1_4 a2_0 a2_1 a2_2 a2_3 a2_4 true w  h).mono ?_
  rintro e w' ⟨rfl, hd⟩
  exact ⟨rfl, hd⟩

end Go.Proofs.Ytpnbknhjnakehaa.X
