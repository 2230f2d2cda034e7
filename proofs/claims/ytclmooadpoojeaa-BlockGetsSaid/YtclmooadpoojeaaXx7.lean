-- written by a program of this session's, over the kit's print
import Derived.Test.YtclmooadpoojeaaXx0
import Derived.Test.YtclmooadpoojeaaXx2
import Derived.Test.YtclmooadpoojeaaXx3
import Derived.Test.YtclmooadpoojeaaXx4
import Derived.Test.YtclmooadpoojeaaXx5
import Derived.Test.YtclmooadpoojeaaXx6
namespace Go.Proofs.Ytclmooadpoojeaa.X
open Go.RowKit Go.Proofs.YtclmooadpoojeaaW.PrintWords Go.Proofs.YtclmooadpoojeaaW.PrintLast Go.Proofs.YtclmooadpoojeaaW.PrintMore
attribute [local go_sem] max2_int min2_int max_two min_two max_three min_three max_four min_four gtr_str   -- for this text's walks alone
set_option linter.unusedVariables false
set_option linter.unusedSimpArgs false

attribute [local go_sem high] eqA80
/-! ### cell_Cut: function 48 -/
def cell_Cut.j0 : Nat → List Int → Bool → ByteArray → ByteArray → Int → ByteArray → Bool → Option (ByteArray × ByteArray × Int × ByteArray × Bool × List Int × Bool)
 | 0, _, _, _, _, _, _, _ => none
 | k + 1, x0, x54, x306000, x306001, x306002, x306003, x306004 => if x54 = true then (some ((⟨#[]⟩ : ByteArray), (⟨#[]⟩ : ByteArray), 0, (⟨#[]⟩ : ByteArray), false, ([] : List Int), false)) else (some (x306000, x306001, x306002, x306003, x306004, x0, true))
def cell_Cut.f (k : Nat) (l0 : List Int) : Option (ByteArray × ByteArray × Int × ByteArray × Bool × List Int × Bool) := (wire_CutText.f k l0).bind fun bt307 => ((wire_CutText.f k bt307.2.1).bind fun bt312 => ((wire_CutNum.f k bt312.2.1).bind fun bt317 => ((cell_cutFlag.f bt317.2.1).bind fun bt322 => ((wire_CutText.f k bt322.2.1).bind fun bt327 => (if (!bt307.2.2 || (!bt312.2.2 || (!bt317.2.2 || (!bt322.2.2 || (!bt327.2.2))))) = true then (cell_Cut.j0 k bt327.2.1 true bt307.1 bt312.1 bt317.1 bt327.1 bt322.1) else ((cell_Right.f bt307.1 bt312.1 bt317.1 bt327.1 bt322.1).bind fun t332 => (cell_Cut.j0 k bt327.2.1 (!t332) bt307.1 bt312.1 bt317.1 bt327.1 bt322.1)))))))
theorem cell_Cut.mono_l : ∀ k, (∀ y0 y1 y2 y3 y4 y5 y6, LeO (cell_Cut.j0 k y0 y1 y2 y3 y4 y5 y6) (cell_Cut.j0 (k + 1) y0 y1 y2 y3 y4 y5 y6))
 | 0 => fun _ _ _ _ _ _ _ r h => by simp [cell_Cut.j0] at h
 | k + 1 => by
  have ih0 := cell_Cut.mono_l k
  ·
   intro y0 y1 y2 y3 y4 y5 y6
   unfold cell_Cut.j0
   repeat' first
   | (with_reducible exact ih0 _ _ _ _ _ _ _)
   | (with_reducible exact wire_CutNum.mono _ _)
   | (with_reducible exact wire_CutText.mono _ _)
   | (with_reducible exact LeO.refl _)
   | (with_reducible exact LeO.none _)
   | (with_reducible refine LeO.ite ?_ ?_)
   | (with_reducible refine LeO.bind ?_ (fun _ => ?_))
   | exact ih0 _ _ _ _ _ _ _
   | exact wire_CutNum.mono _ _
   | exact wire_CutText.mono _ _
   | exact LeO.none _
   | refine LeO.ite ?_ ?_
   | refine LeO.bind ?_ (fun _ => ?_)
theorem cell_Cut.mono : ∀ a0 k, LeO (cell_Cut.f k a0) (cell_Cut.f (k + 1) a0) := by
 intro a0 k
 have ih0 := cell_Cut.mono_l k
 unfold cell_Cut.f
 repeat' first
   | (with_reducible exact ih0 _ _ _ _ _ _ _)
   | (with_reducible exact wire_CutNum.mono _ _)
   | (with_reducible exact wire_CutText.mono _ _)
   | (with_reducible exact LeO.refl _)
   | (with_reducible exact LeO.none _)
   | (with_reducible refine LeO.ite ?_ ?_)
   | (with_reducible refine LeO.bind ?_ (fun _ => ?_))
   | exact ih0 _ _ _ _ _ _ _
   | exact wire_CutNum.mono _ _
   | exact wire_CutText.mono _ _
   | exact LeO.none _
   | refine LeO.ite ?_ ?_
   | refine LeO.bind ?_ (fun _ => ?_)
set_option maxHeartbeats 8000000 in
set_option maxRecDepth 100000 in
theorem cell_Cut.calls (k : Nat) (A0 : Option Addr) (c0 : Nat) (l0 : List Int) (r1 : ByteArray) (r2 : ByteArray) (r3 : Int) (r4 : ByteArray) (r5 : Bool) (r6 : List Int) (r7 : Bool) (w : World) (hr0 : Kd.C (Kd.int .u8) w A0 l0.length l0) (hc0 : l0.length ≤ c0) (h : cell_Cut.f k l0 = some (r1, r2, r3, r4, r5, r6, r7)) :
  Calls Try.prog 48 #[.slice A0 l0.length c0] w fun e w' => ∃ v5_ : Value, e = .returned (.tuple #[.agg #[.string r1, .string r2, .int .i64 r3, .string r4, .bool r5], v5_, .bool r7]) ∧ Kd.Q (Kd.int .u8) 5 w' w.heap.size (fun _ => True) v5_ r6 ∧ Below w.heap.size w w' := by
 have hu46 := Try.underlying46; have hu80 := Try.underlying80
 have HR0 := aS hr0
 have HC0 := aS hc0
 clear hr0 hc0
 have HB := aS (Below.refl w.heap.size w)
 have H : ((wire_CutText.f k l0).bind fun bt307 => ((wire_CutText.f k bt307.2.1).bind fun bt312 => ((wire_CutNum.f k bt312.2.1).bind fun bt317 => ((cell_cutFlag.f bt317.2.1).bind fun bt322 => ((wire_CutText.f k bt322.2.1).bind fun bt327 => (if (!bt307.2.2 || (!bt312.2.2 || (!bt317.2.2 || (!bt322.2.2 || (!bt327.2.2))))) = true then (cell_Cut.j0 k bt327.2.1 true bt307.1 bt312.1 bt317.1 bt327.1 bt322.1) else ((cell_Right.f bt307.1 bt312.1 bt317.1 bt327.1 bt322.1).bind fun t332 => (cell_Cut.j0 k bt327.2.1 (!t332) bt307.1 bt312.1 bt317.1 bt327.1 bt322.1)))))))) = some (r1, r2, r3, r4, r5, r6, r7) := h
 clear h
 replace H := obm H
 obtain ⟨⟨t307, t308, t309⟩, A20, H⟩ := H
 replace H : ((wire_CutText.f k t308).bind fun bt312 => ((wire_CutNum.f k bt312.2.1).bind fun bt317 => ((cell_cutFlag.f bt317.2.1).bind fun bt322 => ((wire_CutText.f k bt322.2.1).bind fun bt327 => (if (!t309 || (!bt312.2.2 || (!bt317.2.2 || (!bt322.2.2 || (!bt327.2.2))))) = true then (cell_Cut.j0 k bt327.2.1 true t307 bt312.1 bt317.1 bt327.1 bt322.1) else ((cell_Right.f t307 bt312.1 bt317.1 bt327.1 bt322.1).bind fun t332 => (cell_Cut.j0 k bt327.2.1 (!t332) t307 bt312.1 bt317.1 bt327.1 bt322.1))))))) = some (r1, r2, r3, r4, r5, r6, r7) := H
 have A2 := aS A20
 clear A20
 replace H := obm H
 obtain ⟨⟨t312, t313, t314⟩, A30, H⟩ := H
 replace H : ((wire_CutNum.f k t313).bind fun bt317 => ((cell_cutFlag.f bt317.2.1).bind fun bt322 => ((wire_CutText.f k bt322.2.1).bind fun bt327 => (if (!t309 || (!t314 || (!bt317.2.2 || (!bt322.2.2 || (!bt327.2.2))))) = true then (cell_Cut.j0 k bt327.2.1 true t307 t312 bt317.1 bt327.1 bt322.1) else ((cell_Right.f t307 t312 bt317.1 bt327.1 bt322.1).bind fun t332 => (cell_Cut.j0 k bt327.2.1 (!t332) t307 t312 bt317.1 bt327.1 bt322.1)))))) = some (r1, r2, r3, r4, r5, r6, r7) := H
 have A3 := aS A30
 clear A30
 replace H := obm H
 obtain ⟨⟨t317, t318, t319⟩, A40, H⟩ := H
 replace H : ((cell_cutFlag.f t318).bind fun bt322 => ((wire_CutText.f k bt322.2.1).bind fun bt327 => (if (!t309 || (!t314 || (!t319 || (!bt322.2.2 || (!bt327.2.2))))) = true then (cell_Cut.j0 k bt327.2.1 true t307 t312 t317 bt327.1 bt322.1) else ((cell_Right.f t307 t312 t317 bt327.1 bt322.1).bind fun t332 => (cell_Cut.j0 k bt327.2.1 (!t332) t307 t312 t317 bt327.1 bt322.1))))) = some (r1, r2, r3, r4, r5, r6, r7) := H
 have A4 := aS A40
 clear A40
 replace H := obm H
 obtain ⟨⟨t322, t323, t326⟩, A50, H⟩ := H
 replace H : ((wire_CutText.f k t323).bind fun bt327 => (if (!t309 || (!t314 || (!t319 || (!t326 || (!bt327.2.2))))) = true then (cell_Cut.j0 k bt327.2.1 true t307 t312 t317 bt327.1 t322) else ((cell_Right.f t307 t312 t317 bt327.1 t322).bind fun t332 => (cell_Cut.j0 k bt327.2.1 (!t332) t307 t312 t317 bt327.1 t322)))) = some (r1, r2, r3, r4, r5, r6, r7) := H
 have A5 := aS A50
 clear A50
 replace H := obm H
 obtain ⟨⟨t327, t328, t329⟩, A60, H⟩ := H
 replace H : (if (!t309 || (!t314 || (!t319 || (!t326 || (!t329))))) = true then (cell_Cut.j0 k t328 true t307 t312 t317 t327 t322) else ((cell_Right.f t307 t312 t317 t327 t322).bind fun t332 => (cell_Cut.j0 k t328 (!t332) t307 t312 t317 t327 t322))) = some (r1, r2, r3, r4, r5, r6, r7) := H
 have A6 := aS A60
 clear A60
 have HC7 := aS H
 clear H
 go_enter Try.func48, Try.ntmps48
 go_upto_region 8 with (first | ((with_reducible refine gate_dst (N := 2) rfl ?_); refine box_event ?hg (N := 2) ?hd (cs := #[.string (⟨#[]⟩ : ByteArray), .string (⟨#[]⟩ : ByteArray), .int .i64 0, .string (⟨#[]⟩ : ByteArray), .bool false]) (t := 46) ?hr ?_; (case hd => rfl); (case hg => rfl); (case hr => first | (go_simp; done) | (go_simp; rfl)); intro gb304 hg w8 hbox hb; have n0_ := aS (below_step (by repeat (first | (with_reducible first | exact HB.out | apply bal | apply bdN | apply bdo) | exact HB.out)) hb); have n1_ := aS (hbox); have n2_ := aS ((by rw [hg]; exact (below_size (by repeat (first | (with_reducible first | exact HB.out | apply bal | apply bdN | apply bdo) | exact HB.out))) : w.heap.size ≤ gb304)); have n3_ := aS ((by rw [hg]; exact (below_size (by repeat (first | (with_reducible first | exact HB.out | apply bal | apply bdN | apply bdo) | exact HB.out))) : w.heap.size ≤ gb304)); clear HB; have HB := n0_; have BK304 := n1_; have GW304 := n2_; have GE304 := n3_; clear n0_ n1_ n2_ n3_; clear hb hbox hg) | ((with_reducible refine gate_dst (N := 5) rfl ?_); refine box_event ?hg (N := 5) ?hd (cs := #[.string (⟨#[]⟩ : ByteArray), .string (⟨#[]⟩ : ByteArray), .int .i64 0, .string (⟨#[]⟩ : ByteArray), .bool false]) (t := 46) ?hr ?_; (case hd => rfl); (case hg => rfl); (case hr => first | (go_simp; done) | (go_simp; rfl)); intro gb305 hg w9 hbox hb; have n0_ := aS (blk_below (g := gb304) (o := .cells #[.string (⟨#[]⟩ : ByteArray), .string (⟨#[]⟩ : ByteArray), .int .i64 0, .string (⟨#[]⟩ : ByteArray), .bool false] 46 (0, 0)) (by (with_reducible repeat (first | refine blk_drewN ?_ _ | refine blk_drew ?_ | refine blk_alloc ?_ _)); exact BK304.out) hb); have n1_ := aS (below_step (by repeat (first | (with_reducible first | exact HB.out | apply bal | apply bdN | apply bdo | refine below_set ?_ GE304.out) | exact HB.out)) hb); have n2_ := aS (hbox); have n3_ := aS ((by rw [hg]; exact (below_size (by repeat (first | (with_reducible first | exact HB.out | apply bal | apply bdN | apply bdo | refine below_set ?_ GE304.out) | exact HB.out))) : w.heap.size ≤ gb305)); have n4_ := aS ((by rw [hg]; exact (below_size (by repeat (first | (with_reducible first | exact HB.out | apply bal | apply bdN | apply bdo | refine below_set ?_ GE304.out) | exact HB.out))) : w.heap.size ≤ gb305)); have n5_ := aS ((by rw [hg]; exact Nat.ne_of_lt (blk_lt (g := gb304) (o := .cells #[.string (⟨#[]⟩ : ByteArray), .string (⟨#[]⟩ : ByteArray), .int .i64 0, .string (⟨#[]⟩ : ByteArray), .bool false] 46 (0, 0)) (by (with_reducible repeat (first | refine blk_drewN ?_ _ | refine blk_drew ?_ | refine blk_alloc ?_ _)); exact BK304.out)) : gb304 ≠ gb305)); have n6_ := aS ((by rw [hg]; exact Nat.ne_of_gt (blk_lt (g := gb304) (o := .cells #[.string (⟨#[]⟩ : ByteArray), .string (⟨#[]⟩ : ByteArray), .int .i64 0, .string (⟨#[]⟩ : ByteArray), .bool false] 46 (0, 0)) (by (with_reducible repeat (first | refine blk_drewN ?_ _ | refine blk_drew ?_ | refine blk_alloc ?_ _)); exact BK304.out)) : gb305 ≠ gb304)); clear BK304; clear HB; have BK304 := n0_; have HB := n1_; have BK305 := n2_; have GW305 := n3_; have GE305 := n4_; have NB304_305 := n5_; have NB305_304 := n6_; clear n0_ n1_ n2_ n3_ n4_ n5_ n6_; clear hb hbox hg) | ((with_reducible refine gate_dst (N := 6) rfl ?_); refine box_event ?hg (N := 6) ?hd (cs := #[.bool false, .bool false, .bool false, .bool false, .bool false]) (t := 80) ?hr ?_; (case hd => rfl); (case hg => rfl); (case hr => first | (go_simp; done) | (go_simp; rfl)); intro gb306 hg w10 hbox hb; have n0_ := aS (blk_below (g := gb304) (o := .cells #[.string (⟨#[]⟩ : ByteArray), .string (⟨#[]⟩ : ByteArray), .int .i64 0, .string (⟨#[]⟩ : ByteArray), .bool false] 46 (0, 0)) (by (with_reducible repeat (first | refine blk_drewN ?_ _ | refine blk_drew ?_ | refine blk_alloc ?_ _)); exact BK304.out) hb); have n1_ := aS (blk_below (g := gb305) (o := .cells #[.string (⟨#[]⟩ : ByteArray), .string (⟨#[]⟩ : ByteArray), .int .i64 0, .string (⟨#[]⟩ : ByteArray), .bool false] 46 (0, 0)) (by (with_reducible repeat (first | refine blk_drewN ?_ _ | refine blk_drew ?_ | refine blk_alloc ?_ _)); exact BK305.out) hb); have n2_ := aS (below_step (by repeat (first | (with_reducible first | exact HB.out | apply bal | apply bdN | apply bdo | refine below_set ?_ GE304.out | refine below_set ?_ GE305.out) | exact HB.out)) hb); have n3_ := aS (hbox); have n4_ := aS ((by rw [hg]; exact (below_size (by repeat (first | (with_reducible first | exact HB.out | apply bal | apply bdN | apply bdo | refine below_set ?_ GE304.out | refine below_set ?_ GE305.out) | exact HB.out))) : w.heap.size ≤ gb306)); have n5_ := aS ((by rw [hg]; exact (below_size (by repeat (first | (with_reducible first | exact HB.out | apply bal | apply bdN | apply bdo | refine below_set ?_ GE304.out | refine below_set ?_ GE305.out) | exact HB.out))) : w.heap.size ≤ gb306)); have n6_ := aS ((by rw [hg]; exact Nat.ne_of_lt (blk_lt (g := gb304) (o := .cells #[.string (⟨#[]⟩ : ByteArray), .string (⟨#[]⟩ : ByteArray), .int .i64 0, .string (⟨#[]⟩ : ByteArray), .bool false] 46 (0, 0)) (by (with_reducible repeat (first | refine blk_drewN ?_ _ | refine blk_drew ?_ | refine blk_alloc ?_ _)); exact BK304.out)) : gb304 ≠ gb306)); have n7_ := aS ((by rw [hg]; exact Nat.ne_of_gt (blk_lt (g := gb304) (o := .cells #[.string (⟨#[]⟩ : ByteArray), .string (⟨#[]⟩ : ByteArray), .int .i64 0, .string (⟨#[]⟩ : ByteArray), .bool false] 46 (0, 0)) (by (with_reducible repeat (first | refine blk_drewN ?_ _ | refine blk_drew ?_ | refine blk_alloc ?_ _)); exact BK304.out)) : gb306 ≠ gb304)); have n8_ := aS ((by rw [hg]; exact Nat.ne_of_lt (blk_lt (g := gb305) (o := .cells #[.string (⟨#[]⟩ : ByteArray), .string (⟨#[]⟩ : ByteArray), .int .i64 0, .string (⟨#[]⟩ : ByteArray), .bool false] 46 (0, 0)) (by (with_reducible repeat (first | refine blk_drewN ?_ _ | refine blk_drew ?_ | refine blk_alloc ?_ _)); exact BK305.out)) : gb305 ≠ gb306)); have n9_ := aS ((by rw [hg]; exact Nat.ne_of_gt (blk_lt (g := gb305) (o := .cells #[.string (⟨#[]⟩ : ByteArray), .string (⟨#[]⟩ : ByteArray), .int .i64 0, .string (⟨#[]⟩ : ByteArray), .bool false] 46 (0, 0)) (by (with_reducible repeat (first | refine blk_drewN ?_ _ | refine blk_drew ?_ | refine blk_alloc ?_ _)); exact BK305.out)) : gb306 ≠ gb305)); clear BK304; clear BK305; clear HB; have BK304 := n0_; have BK305 := n1_; have HB := n2_; have BK306 := n3_; have GW306 := n4_; have GE306 := n5_; have NB304_306 := n6_; have NB306_304 := n7_; have NB305_306 := n8_; have NB306_305 := n9_; clear n0_ n1_ n2_ n3_ n4_ n5_ n6_ n7_ n8_ n9_; clear hb hbox hg) | ((with_reducible refine gate_callee (f := 56) rfl ?_); refine goesL_ (some 9) rfl rfl Try.func56 (by kernel_rfl) rfl #[.slice A0 l0.length c0] rfl (by (try simp only [List.map_toArray, List.map_cons, List.map_nil]); first | done | rfl | (simp only [lld, llt]; rfl)) ?_; (with_reducible refine (wire_CutText.calls k _ _ l0 t307 t308 t309 _ ?side1 ?side2 A2.out).mono ?_); (case side1 => repeat (first | exact (Kd.C_below HR0.out HB.out) | (with_reducible refine Kd.C_alloc ?_ _) | (with_reducible refine Kd.C_drewN ?_ _) | (with_reducible refine Kd.C_drew ?_))); (case side2 => exact HC0.out); rintro e w11 ⟨v310, rfl, ho0, hb⟩; refine ⟨_, rfl, ?_⟩; have n0_ := aS (Kd.Q_lower ho0 (below_size (by repeat (first | (with_reducible first | exact HB.out | apply bal | apply bdN | apply bdo | refine below_set ?_ GE304.out | refine below_set ?_ GE305.out | refine below_set ?_ GE306.out) | exact HB.out)))); have n1_ := aS (blk_below (g := gb304) (o := .cells #[.string (⟨#[]⟩ : ByteArray), .string (⟨#[]⟩ : ByteArray), .int .i64 0, .string (⟨#[]⟩ : ByteArray), .bool false] 46 (0, 0)) (by (with_reducible repeat (first | refine blk_drewN ?_ _ | refine blk_drew ?_ | refine blk_alloc ?_ _)); exact BK304.out) hb); have n2_ := aS (blk_below (g := gb305) (o := .cells #[.string (⟨#[]⟩ : ByteArray), .string (⟨#[]⟩ : ByteArray), .int .i64 0, .string (⟨#[]⟩ : ByteArray), .bool false] 46 (0, 0)) (by (with_reducible repeat (first | refine blk_drewN ?_ _ | refine blk_drew ?_ | refine blk_alloc ?_ _)); exact BK305.out) hb); have n3_ := aS (blk_below (g := gb306) (o := .cells #[.bool false, .bool false, .bool false, .bool false, .bool false] 80 (0, 0)) (by (with_reducible repeat (first | refine blk_drewN ?_ _ | refine blk_drew ?_ | refine blk_alloc ?_ _)); exact BK306.out) hb); have n4_ := aS (below_step (by repeat (first | (with_reducible first | exact HB.out | apply bal | apply bdN | apply bdo | refine below_set ?_ GE304.out | refine below_set ?_ GE305.out | refine below_set ?_ GE306.out) | exact HB.out)) hb); clear BK304; clear BK305; clear BK306; clear HB; have HO311 := n0_; have BK304 := n1_; have BK305 := n2_; have BK306 := n3_; have HB := n4_; clear n0_ n1_ n2_ n3_ n4_; (try clear hb); (try clear hb2); (try clear hk); (try clear hi); (try clear ho0); have hnb12 := NB305_304.out; have hnc12 := NB304_305.out; have hnb13 := NB305_306.out; have hnc13 := NB306_305.out; have hcz14_0 : w11.cell? ⟨gb305, 0, none⟩ = some (.string (⟨#[]⟩ : ByteArray)) := (blk_cell BK305.out 0).trans rfl; have hcz14_1 : w11.cell? ⟨gb305, 1, none⟩ = some (.string (⟨#[]⟩ : ByteArray)) := (blk_cell BK305.out 1).trans rfl; have hcz14_2 : w11.cell? ⟨gb305, 2, none⟩ = some (.int .i64 0) := (blk_cell BK305.out 2).trans rfl; have hcz14_3 : w11.cell? ⟨gb305, 3, none⟩ = some (.string (⟨#[]⟩ : ByteArray)) := (blk_cell BK305.out 3).trans rfl; have hcz14_4 : w11.cell? ⟨gb305, 4, none⟩ = some (.bool false) := (blk_cell BK305.out 4).trans rfl; have hfz14_0 := blk_frozen BK305.out 0; have hfz14_1 := blk_frozen BK305.out 1; have hfz14_2 := blk_frozen BK305.out 2; have hfz14_3 := blk_frozen BK305.out 3; have hfz14_4 := blk_frozen BK305.out 4; have hnb15 := NB306_304.out; have hnc15 := NB304_306.out; have hcz16_0 : w11.cell? ⟨gb306, 0, none⟩ = some (.bool false) := (blk_cell BK306.out 0).trans rfl; have hcz16_1 : w11.cell? ⟨gb306, 1, none⟩ = some (.bool false) := (blk_cell BK306.out 1).trans rfl; have hcz16_2 : w11.cell? ⟨gb306, 2, none⟩ = some (.bool false) := (blk_cell BK306.out 2).trans rfl; have hcz16_3 : w11.cell? ⟨gb306, 3, none⟩ = some (.bool false) := (blk_cell BK306.out 3).trans rfl; have hcz16_4 : w11.cell? ⟨gb306, 4, none⟩ = some (.bool false) := (blk_cell BK306.out 4).trans rfl; have hfz16_0 := blk_frozen BK306.out 0; have hfz16_1 := blk_frozen BK306.out 1; have hfz16_2 := blk_frozen BK306.out 2; have hfz16_3 := blk_frozen BK306.out 3; have hfz16_4 := blk_frozen BK306.out 4; obtain ⟨Ao17, co17, eo17, _⟩ := Kd.Q_slice HO311.out; subst eo17) | ((with_reducible refine gate_callee (f := 56) rfl ?_); refine goesL_ (some 17) rfl rfl Try.func56 (by kernel_rfl) rfl #[.slice Ao17 t308.length co17] rfl (by (try simp only [List.map_toArray, List.map_cons, List.map_nil]); first | done | rfl | (simp only [lld, llt]; rfl)) ?_; (with_reducible refine (wire_CutText.calls k _ _ t308 t312 t313 t314 _ ?side1 ?side2 A3.out).mono ?_); (case side1 => refine (Kd.Q_reads' (e := 5) (base := w.heap.size) (ok := fun k_ => True) (n := t308.length) (c := co17) ?_).2.2; exact (by (with_reducible repeat (first | apply Kd.Q_alloc | apply Kd.Q_drewN | apply Kd.Q_drew)); exact (Kd.Q_mono (Kd.Q_mono (Kd.Q_far (p := ⟨gb306, 0, none⟩) (Kd.Q_far (p := ⟨gb305, 0, none⟩) (Kd.Q_types (Kd.Q_types HO311.out BK305.out (by decide)) BK306.out (by decide)) (fun _ hk => hk.1.2) (.string t307)) (fun _ hk => hk.2) (.bool t309)) (fun _ h_ => h_.1)) (fun _ h_ => h_.1)))); (case side2 => exact (Kd.Q_reads' HO311.out).2.1); rintro e w18 ⟨v315, rfl, ho0, hb⟩; refine ⟨_, rfl, ?_⟩; have n0_ := aS (Kd.Q_elder' (by (with_reducible repeat (first | apply Kd.Q_alloc | apply Kd.Q_drewN | apply Kd.Q_drew)); exact (Kd.Q_mono (Kd.Q_mono (Kd.Q_far (p := ⟨gb306, 0, none⟩) (Kd.Q_far (p := ⟨gb305, 0, none⟩) (Kd.Q_types (Kd.Q_types HO311.out BK305.out (by decide)) BK306.out (by decide)) (fun _ hk => hk.1.2) (.string t307)) (fun _ hk => hk.2) (.bool t309)) (fun _ h_ => h_.1)) (fun _ h_ => h_.1))) (by first | exact Kd.Q_base ho0 | exact Kd.S_base ho0 | exact Kd.R_base ho0 | exact Kd.V_base ho0) hb); have n1_ := aS (Kd.Q_lower (Kd.Q_new' ho0 (Kd.Q_lt (by (with_reducible repeat (first | apply Kd.Q_alloc | apply Kd.Q_drewN | apply Kd.Q_drew)); exact (Kd.Q_mono (Kd.Q_mono (Kd.Q_far (p := ⟨gb306, 0, none⟩) (Kd.Q_far (p := ⟨gb305, 0, none⟩) (Kd.Q_types (Kd.Q_types HO311.out BK305.out (by decide)) BK306.out (by decide)) (fun _ hk => hk.1.2) (.string t307)) (fun _ hk => hk.2) (.bool t309)) (fun _ h_ => h_.1)) (fun _ h_ => h_.1))))) (below_size (by repeat (first | (with_reducible first | exact HB.out | apply bal | apply bdN | apply bdo | refine below_set ?_ GE304.out | refine below_set ?_ GE305.out | refine below_set ?_ GE306.out) | exact HB.out)))); have n2_ := aS (blk_below (g := gb304) (o := .cells #[.string (⟨#[]⟩ : ByteArray), .string (⟨#[]⟩ : ByteArray), .int .i64 0, .string (⟨#[]⟩ : ByteArray), .bool false] 46 (0, 0)) (by (with_reducible repeat (first | refine blk_drewN ?_ _ | refine blk_drew ?_ | refine blk_alloc ?_ _)); refine blk_far ?_ NB304_306.out _; (with_reducible repeat (first | refine blk_drewN ?_ _ | refine blk_drew ?_ | refine blk_alloc ?_ _)); refine blk_far ?_ NB304_305.out _; (with_reducible repeat (first | refine blk_drewN ?_ _ | refine blk_drew ?_ | refine blk_alloc ?_ _)); exact BK304.out) hb); have n3_ := aS (blk_below (g := gb305) (o := .cells #[.string t307, .string (⟨#[]⟩ : ByteArray), .int .i64 0, .string (⟨#[]⟩ : ByteArray), .bool false] 46 (0, 0)) (by (with_reducible repeat (first | refine blk_drewN ?_ _ | refine blk_drew ?_ | refine blk_alloc ?_ _)); refine blk_far ?_ NB305_306.out _; (with_reducible repeat (first | refine blk_drewN ?_ _ | refine blk_drew ?_ | refine blk_alloc ?_ _)); refine blk_put (cs := #[.string (⟨#[]⟩ : ByteArray), .string (⟨#[]⟩ : ByteArray), .int .i64 0, .string (⟨#[]⟩ : ByteArray), .bool false]) ?_ 0 _ rfl; (with_reducible repeat (first | refine blk_drewN ?_ _ | refine blk_drew ?_ | refine blk_alloc ?_ _)); exact BK305.out) hb); have n4_ := aS (blk_below (g := gb306) (o := .cells #[.bool t309, .bool false, .bool false, .bool false, .bool false] 80 (0, 0)) (by (with_reducible repeat (first | refine blk_drewN ?_ _ | refine blk_drew ?_ | refine blk_alloc ?_ _)); refine blk_put (cs := #[.bool false, .bool false, .bool false, .bool false, .bool false]) ?_ 0 _ rfl; (with_reducible repeat (first | refine blk_drewN ?_ _ | refine blk_drew ?_ | refine blk_alloc ?_ _)); refine blk_far ?_ NB306_305.out _; (with_reducible repeat (first | refine blk_drewN ?_ _ | refine blk_drew ?_ | refine blk_alloc ?_ _)); exact BK306.out) hb); have n5_ := aS (below_step (by repeat (first | (with_reducible first | exact HB.out | apply bal | apply bdN | apply bdo | refine below_set ?_ GE304.out | refine below_set ?_ GE305.out | refine below_set ?_ GE306.out) | exact HB.out)) hb); clear HO311; clear BK304; clear BK305; clear BK306; clear HB; have HO311 := n0_; have HO316 := n1_; have BK304 := n2_; have BK305 := n3_; have BK306 := n4_; have HB := n5_; clear n0_ n1_ n2_ n3_ n4_ n5_; (try clear hb); (try clear hb2); (try clear hk); (try clear hi); (try clear ho0); have hcz19_0 : w18.cell? ⟨gb305, 0, none⟩ = some (.string t307) := (blk_cell BK305.out 0).trans rfl; have hcz19_1 : w18.cell? ⟨gb305, 1, none⟩ = some (.string (⟨#[]⟩ : ByteArray)) := (blk_cell BK305.out 1).trans rfl; have hcz19_2 : w18.cell? ⟨gb305, 2, none⟩ = some (.int .i64 0) := (blk_cell BK305.out 2).trans rfl; have hcz19_3 : w18.cell? ⟨gb305, 3, none⟩ = some (.string (⟨#[]⟩ : ByteArray)) := (blk_cell BK305.out 3).trans rfl; have hcz19_4 : w18.cell? ⟨gb305, 4, none⟩ = some (.bool false) := (blk_cell BK305.out 4).trans rfl; have hfz19_0 := blk_frozen BK305.out 0; have hfz19_1 := blk_frozen BK305.out 1; have hfz19_2 := blk_frozen BK305.out 2; have hfz19_3 := blk_frozen BK305.out 3; have hfz19_4 := blk_frozen BK305.out 4; have hcz20_0 : w18.cell? ⟨gb306, 0, none⟩ = some (.bool t309) := (blk_cell BK306.out 0).trans rfl; have hcz20_1 : w18.cell? ⟨gb306, 1, none⟩ = some (.bool false) := (blk_cell BK306.out 1).trans rfl; have hcz20_2 : w18.cell? ⟨gb306, 2, none⟩ = some (.bool false) := (blk_cell BK306.out 2).trans rfl; have hcz20_3 : w18.cell? ⟨gb306, 3, none⟩ = some (.bool false) := (blk_cell BK306.out 3).trans rfl; have hcz20_4 : w18.cell? ⟨gb306, 4, none⟩ = some (.bool false) := (blk_cell BK306.out 4).trans rfl; have hfz20_0 := blk_frozen BK306.out 0; have hfz20_1 := blk_frozen BK306.out 1; have hfz20_2 := blk_frozen BK306.out 2; have hfz20_3 := blk_frozen BK306.out 3; have hfz20_4 := blk_frozen BK306.out 4; obtain ⟨Ao21, co21, eo21, _⟩ := Kd.Q_slice HO316.out; subst eo21) | ((with_reducible refine gate_callee (f := 46) rfl ?_); refine goesL_ (some 25) rfl rfl Try.func46 (by kernel_rfl) rfl #[.slice Ao21 t313.length co21] rfl (by (try simp only [List.map_toArray, List.map_cons, List.map_nil]); first | done | rfl | (simp only [lld, llt]; rfl)) ?_; (with_reducible refine (wire_CutNum.calls k _ _ t313 t317 t318 t319 _ ?side1 ?side2 A4.out).mono ?_); (case side1 => refine (Kd.Q_reads' (e := 5) (base := w.heap.size) (ok := fun k_ => (True ∧ some k_ ≠ (.slice Ao17 t308.length co17 : Value).ownBlock)) (n := t313.length) (c := co21) ?_).2.2; exact (by (with_reducible repeat (first | apply Kd.Q_alloc | apply Kd.Q_drewN | apply Kd.Q_drew)); exact (Kd.Q_mono (Kd.Q_mono (Kd.Q_far (p := ⟨gb306, 1, none⟩) (Kd.Q_far (p := ⟨gb305, 1, none⟩) (Kd.Q_types (Kd.Q_types HO316.out BK305.out (by decide)) BK306.out (by decide)) (fun _ hk => hk.1.2) (.string t312)) (fun _ hk => hk.2) (.bool t314)) (fun _ h_ => h_.1)) (fun _ h_ => h_.1)))); (case side2 => exact (Kd.Q_reads' HO316.out).2.1); rintro e w22 ⟨v320, rfl, ho0, hb⟩; refine ⟨_, rfl, ?_⟩; have n0_ := aS (Kd.Q_elder' (by (with_reducible repeat (first | apply Kd.Q_alloc | apply Kd.Q_drewN | apply Kd.Q_drew)); exact (Kd.Q_mono (Kd.Q_mono (Kd.Q_far (p := ⟨gb306, 1, none⟩) (Kd.Q_far (p := ⟨gb305, 1, none⟩) (Kd.Q_types (Kd.Q_types HO311.out BK305.out (by decide)) BK306.out (by decide)) (fun _ hk => hk.1.2) (.string t312)) (fun _ hk => hk.2) (.bool t314)) (fun _ h_ => h_.1)) (fun _ h_ => h_.1))) (by first | exact Kd.R_base ho0 | exact Kd.S_base ho0 | exact Kd.R_base ho0 | exact Kd.V_base ho0) hb); have n1_ := aS (Kd.Q_elder' (by (with_reducible repeat (first | apply Kd.Q_alloc | apply Kd.Q_drewN | apply Kd.Q_drew)); exact (Kd.Q_mono (Kd.Q_mono (Kd.Q_far (p := ⟨gb306, 1, none⟩) (Kd.Q_far (p := ⟨gb305, 1, none⟩) (Kd.Q_types (Kd.Q_types HO316.out BK305.out (by decide)) BK306.out (by decide)) (fun _ hk => hk.1.2) (.string t312)) (fun _ hk => hk.2) (.bool t314)) (fun _ h_ => h_.1)) (fun _ h_ => h_.1))) (by first | exact Kd.R_base ho0 | exact Kd.S_base ho0 | exact Kd.R_base ho0 | exact Kd.V_base ho0) hb); have n2_ := aS (Kd.R_lower (Kd.R_new' (Kd.R_new' ho0 (Kd.Q_lt (by (with_reducible repeat (first | apply Kd.Q_alloc | apply Kd.Q_drewN | apply Kd.Q_drew)); exact (Kd.Q_mono (Kd.Q_mono (Kd.Q_far (p := ⟨gb306, 1, none⟩) (Kd.Q_far (p := ⟨gb305, 1, none⟩) (Kd.Q_types (Kd.Q_types HO311.out BK305.out (by decide)) BK306.out (by decide)) (fun _ hk => hk.1.2) (.string t312)) (fun _ hk => hk.2) (.bool t314)) (fun _ h_ => h_.1)) (fun _ h_ => h_.1))))) (Kd.Q_lt (by (with_reducible repeat (first | apply Kd.Q_alloc | apply Kd.Q_drewN | apply Kd.Q_drew)); exact (Kd.Q_mono (Kd.Q_mono (Kd.Q_far (p := ⟨gb306, 1, none⟩) (Kd.Q_far (p := ⟨gb305, 1, none⟩) (Kd.Q_types (Kd.Q_types HO316.out BK305.out (by decide)) BK306.out (by decide)) (fun _ hk => hk.1.2) (.string t312)) (fun _ hk => hk.2) (.bool t314)) (fun _ h_ => h_.1)) (fun _ h_ => h_.1))))) (below_size (by repeat (first | (with_reducible first | exact HB.out | apply bal | apply bdN | apply bdo | refine below_set ?_ GE304.out | refine below_set ?_ GE305.out | refine below_set ?_ GE306.out) | exact HB.out)))); have n3_ := aS (blk_below (g := gb304) (o := .cells #[.string (⟨#[]⟩ : ByteArray), .string (⟨#[]⟩ : ByteArray), .int .i64 0, .string (⟨#[]⟩ : ByteArray), .bool false] 46 (0, 0)) (by (with_reducible repeat (first | refine blk_drewN ?_ _ | refine blk_drew ?_ | refine blk_alloc ?_ _)); refine blk_far ?_ NB304_306.out _; (with_reducible repeat (first | refine blk_drewN ?_ _ | refine blk_drew ?_ | refine blk_alloc ?_ _)); refine blk_far ?_ NB304_305.out _; (with_reducible repeat (first | refine blk_drewN ?_ _ | refine blk_drew ?_ | refine blk_alloc ?_ _)); exact BK304.out) hb); have n4_ := aS (blk_below (g := gb305) (o := .cells #[.string t307, .string t312, .int .i64 0, .string (⟨#[]⟩ : ByteArray), .bool false] 46 (0, 0)) (by (with_reducible repeat (first | refine blk_drewN ?_ _ | refine blk_drew ?_ | refine blk_alloc ?_ _)); refine blk_far ?_ NB305_306.out _; (with_reducible repeat (first | refine blk_drewN ?_ _ | refine blk_drew ?_ | refine blk_alloc ?_ _)); refine blk_put (cs := #[.string t307, .string (⟨#[]⟩ : ByteArray), .int .i64 0, .string (⟨#[]⟩ : ByteArray), .bool false]) ?_ 1 _ rfl; (with_reducible repeat (first | refine blk_drewN ?_ _ | refine blk_drew ?_ | refine blk_alloc ?_ _)); exact BK305.out) hb); have n5_ := aS (blk_below (g := gb306) (o := .cells #[.bool t309, .bool t314, .bool false, .bool false, .bool false] 80 (0, 0)) (by (with_reducible repeat (first | refine blk_drewN ?_ _ | refine blk_drew ?_ | refine blk_alloc ?_ _)); refine blk_put (cs := #[.bool t309, .bool false, .bool false, .bool false, .bool false]) ?_ 1 _ rfl; (with_reducible repeat (first | refine blk_drewN ?_ _ | refine blk_drew ?_ | refine blk_alloc ?_ _)); refine blk_far ?_ NB306_305.out _; (with_reducible repeat (first | refine blk_drewN ?_ _ | refine blk_drew ?_ | refine blk_alloc ?_ _)); exact BK306.out) hb); have n6_ := aS (below_step (by repeat (first | (with_reducible first | exact HB.out | apply bal | apply bdN | apply bdo | refine below_set ?_ GE304.out | refine below_set ?_ GE305.out | refine below_set ?_ GE306.out) | exact HB.out)) hb); clear HO311; clear HO316; clear BK304; clear BK305; clear BK306; clear HB; have HO311 := n0_; have HO316 := n1_; have HO321 := n2_; have BK304 := n3_; have BK305 := n4_; have BK306 := n5_; have HB := n6_; clear n0_ n1_ n2_ n3_ n4_ n5_ n6_; (try clear hb); (try clear hb2); (try clear hk); (try clear hi); (try clear ho0); have hcz23_0 : w22.cell? ⟨gb305, 0, none⟩ = some (.string t307) := (blk_cell BK305.out 0).trans rfl; have hcz23_1 : w22.cell? ⟨gb305, 1, none⟩ = some (.string t312) := (blk_cell BK305.out 1).trans rfl; have hcz23_2 : w22.cell? ⟨gb305, 2, none⟩ = some (.int .i64 0) := (blk_cell BK305.out 2).trans rfl; have hcz23_3 : w22.cell? ⟨gb305, 3, none⟩ = some (.string (⟨#[]⟩ : ByteArray)) := (blk_cell BK305.out 3).trans rfl; have hcz23_4 : w22.cell? ⟨gb305, 4, none⟩ = some (.bool false) := (blk_cell BK305.out 4).trans rfl; have hfz23_0 := blk_frozen BK305.out 0; have hfz23_1 := blk_frozen BK305.out 1; have hfz23_2 := blk_frozen BK305.out 2; have hfz23_3 := blk_frozen BK305.out 3; have hfz23_4 := blk_frozen BK305.out 4) | ((with_reducible refine gate_store (t := 3) (p := 29) rfl ?_); refine store_event (t := 3) (p := 29) (v := ?vo_w24) (w1 := (w22.setCell ⟨gb305, 2, none⟩ (.int .i64 t317))) ?hg ?ho ?hn ?hr ?_; (case ho => rfl); (case hg => rfl); (case hn => rfl); (case hr => first | (go_simp; done) | (go_simp; rfl)); intro w24 hw; have n0_ : Aside0 (Kd.Q (Kd.int .u8) 5 w24 w.heap.size (fun k_ => some k_ ≠ (.slice Ao21 t313.length co21 : Value).ownBlock ∧ some k_ ≠ (v320 : Value).ownBlock) (.slice Ao17 t308.length co17) t308) := ⟨(by rw [hw]; exact (by (with_reducible repeat (first | apply Kd.Q_alloc | apply Kd.Q_drewN | apply Kd.Q_drew)); exact Kd.Q_mono (Kd.Q_far (p := ⟨gb305, 2, none⟩) (Kd.Q_types HO311.out BK305.out (by decide)) (fun _ hk => hk.2) (.int .i64 t317)) (fun _ hk => ⟨hk.1.1.2, hk.1.2⟩)))⟩; have n1_ : Aside0 (Kd.Q (Kd.int .u8) 5 w24 w.heap.size (fun k_ => some k_ ≠ (.slice Ao17 t308.length co17 : Value).ownBlock ∧ some k_ ≠ (v320 : Value).ownBlock) (.slice Ao21 t313.length co21) t313) := ⟨(by rw [hw]; exact (by (with_reducible repeat (first | apply Kd.Q_alloc | apply Kd.Q_drewN | apply Kd.Q_drew)); exact Kd.Q_mono (Kd.Q_far (p := ⟨gb305, 2, none⟩) (Kd.Q_types HO316.out BK305.out (by decide)) (fun _ hk => hk.2) (.int .i64 t317)) (fun _ hk => ⟨hk.1.1.2, hk.1.2⟩)))⟩; have n2_ : Aside0 (Kd.R (Kd.int .u8) 5 w24 w.heap.size (fun k_ => some k_ ≠ (.slice Ao17 t308.length co17 : Value).ownBlock ∧ some k_ ≠ (.slice Ao21 t313.length co21 : Value).ownBlock) v320 t318) := ⟨(by rw [hw]; exact (by (with_reducible repeat (first | apply Kd.R_alloc | apply Kd.R_drewN | apply Kd.R_drew)); exact Kd.R_mono (Kd.R_far (p := ⟨gb305, 2, none⟩) (Kd.R_types HO321.out BK305.out (by decide)) (fun _ hk => hk.2) (.int .i64 t317)) (fun _ hk => ⟨hk.1.1.2, hk.1.2⟩)))⟩; have n3_ : Aside0 (w24.heap[gb304]? = some (.cells #[.string (⟨#[]⟩ : ByteArray), .string (⟨#[]⟩ : ByteArray), .int .i64 0, .string (⟨#[]⟩ : ByteArray), .bool false] 46 (0, 0))) := ⟨(by rw [hw]; exact (by (with_reducible repeat (first | refine blk_drewN ?_ _ | refine blk_drew ?_ | refine blk_alloc ?_ _)); refine blk_far ?_ NB304_305.out _; (with_reducible repeat (first | refine blk_drewN ?_ _ | refine blk_drew ?_ | refine blk_alloc ?_ _)); exact BK304.out))⟩; have n4_ : Aside0 (w24.heap[gb305]? = some (.cells #[.string t307, .string t312, .int .i64 t317, .string (⟨#[]⟩ : ByteArray), .bool false] 46 (0, 0))) := ⟨(by rw [hw]; exact (by (with_reducible repeat (first | refine blk_drewN ?_ _ | refine blk_drew ?_ | refine blk_alloc ?_ _)); refine blk_put (cs := #[.string t307, .string t312, .int .i64 0, .string (⟨#[]⟩ : ByteArray), .bool false]) ?_ 2 _ rfl; (with_reducible repeat (first | refine blk_drewN ?_ _ | refine blk_drew ?_ | refine blk_alloc ?_ _)); exact BK305.out))⟩; have n5_ : Aside0 (w24.heap[gb306]? = some (.cells #[.bool t309, .bool t314, .bool false, .bool false, .bool false] 80 (0, 0))) := ⟨(by rw [hw]; exact (by (with_reducible repeat (first | refine blk_drewN ?_ _ | refine blk_drew ?_ | refine blk_alloc ?_ _)); refine blk_far ?_ NB306_305.out _; (with_reducible repeat (first | refine blk_drewN ?_ _ | refine blk_drew ?_ | refine blk_alloc ?_ _)); exact BK306.out))⟩; have n6_ : Aside0 (Below w.heap.size w w24) := ⟨(by rw [hw]; exact (by repeat (first | (with_reducible first | exact HB.out | apply bal | apply bdN | apply bdo | refine below_set ?_ GE304.out | refine below_set ?_ GE305.out | refine below_set ?_ GE306.out) | exact HB.out)))⟩; clear hw; clear HO311; clear HO316; clear HO321; clear BK304; clear BK305; clear BK306; clear HB; have HO311 := n0_; have HO316 := n1_; have HO321 := n2_; have BK304 := n3_; have BK305 := n4_; have BK306 := n5_; have HB := n6_; clear n0_ n1_ n2_ n3_ n4_ n5_ n6_; have hcz25_0 : w24.cell? ⟨gb306, 0, none⟩ = some (.bool t309) := (blk_cell BK306.out 0).trans rfl; have hcz25_1 : w24.cell? ⟨gb306, 1, none⟩ = some (.bool t314) := (blk_cell BK306.out 1).trans rfl; have hcz25_2 : w24.cell? ⟨gb306, 2, none⟩ = some (.bool false) := (blk_cell BK306.out 2).trans rfl; have hcz25_3 : w24.cell? ⟨gb306, 3, none⟩ = some (.bool false) := (blk_cell BK306.out 3).trans rfl; have hcz25_4 : w24.cell? ⟨gb306, 4, none⟩ = some (.bool false) := (blk_cell BK306.out 4).trans rfl; have hfz25_0 := blk_frozen BK306.out 0; have hfz25_1 := blk_frozen BK306.out 1; have hfz25_2 := blk_frozen BK306.out 2; have hfz25_3 := blk_frozen BK306.out 3; have hfz25_4 := blk_frozen BK306.out 4) | ((with_reducible refine gate_store (t := 4) (p := 30) rfl ?_); refine store_event (t := 4) (p := 30) (v := ?vo_w26) (w1 := (w24.setCell ⟨gb306, 2, none⟩ (.bool t319))) ?hg ?ho ?hn ?hr ?_; (case ho => rfl); (case hg => rfl); (case hn => rfl); (case hr => first | (go_simp; done) | (go_simp; rfl)); intro w26 hw; have n0_ : Aside0 (Kd.Q (Kd.int .u8) 5 w26 w.heap.size (fun k_ => some k_ ≠ (.slice Ao21 t313.length co21 : Value).ownBlock ∧ some k_ ≠ (v320 : Value).ownBlock) (.slice Ao17 t308.length co17) t308) := ⟨(by rw [hw]; exact (by (with_reducible repeat (first | apply Kd.Q_alloc | apply Kd.Q_drewN | apply Kd.Q_drew)); exact Kd.Q_mono (Kd.Q_far (p := ⟨gb306, 2, none⟩) (Kd.Q_types HO311.out BK306.out (by decide)) (fun _ hk => hk.2) (.bool t319)) (fun _ hk => ⟨hk.1.1, hk.1.2⟩)))⟩; have n1_ : Aside0 (Kd.Q (Kd.int .u8) 5 w26 w.heap.size (fun k_ => some k_ ≠ (.slice Ao17 t308.length co17 : Value).ownBlock ∧ some k_ ≠ (v320 : Value).ownBlock) (.slice Ao21 t313.length co21) t313) := ⟨(by rw [hw]; exact (by (with_reducible repeat (first | apply Kd.Q_alloc | apply Kd.Q_drewN | apply Kd.Q_drew)); exact Kd.Q_mono (Kd.Q_far (p := ⟨gb306, 2, none⟩) (Kd.Q_types HO316.out BK306.out (by decide)) (fun _ hk => hk.2) (.bool t319)) (fun _ hk => ⟨hk.1.1, hk.1.2⟩)))⟩; have n2_ : Aside0 (Kd.R (Kd.int .u8) 5 w26 w.heap.size (fun k_ => some k_ ≠ (.slice Ao17 t308.length co17 : Value).ownBlock ∧ some k_ ≠ (.slice Ao21 t313.length co21 : Value).ownBlock) v320 t318) := ⟨(by rw [hw]; exact (by (with_reducible repeat (first | apply Kd.R_alloc | apply Kd.R_drewN | apply Kd.R_drew)); exact Kd.R_mono (Kd.R_far (p := ⟨gb306, 2, none⟩) (Kd.R_types HO321.out BK306.out (by decide)) (fun _ hk => hk.2) (.bool t319)) (fun _ hk => ⟨hk.1.1, hk.1.2⟩)))⟩; have n3_ : Aside0 (w26.heap[gb304]? = some (.cells #[.string (⟨#[]⟩ : ByteArray), .string (⟨#[]⟩ : ByteArray), .int .i64 0, .string (⟨#[]⟩ : ByteArray), .bool false] 46 (0, 0))) := ⟨(by rw [hw]; exact (by (with_reducible repeat (first | refine blk_drewN ?_ _ | refine blk_drew ?_ | refine blk_alloc ?_ _)); refine blk_far ?_ NB304_306.out _; (with_reducible repeat (first | refine blk_drewN ?_ _ | refine blk_drew ?_ | refine blk_alloc ?_ _)); exact BK304.out))⟩; have n4_ : Aside0 (w26.heap[gb305]? = some (.cells #[.string t307, .string t312, .int .i64 t317, .string (⟨#[]⟩ : ByteArray), .bool false] 46 (0, 0))) := ⟨(by rw [hw]; exact (by (with_reducible repeat (first | refine blk_drewN ?_ _ | refine blk_drew ?_ | refine blk_alloc ?_ _)); refine blk_far ?_ NB305_306.out _; (with_reducible repeat (first | refine blk_drewN ?_ _ | refine blk_drew ?_ | refine blk_alloc ?_ _)); exact BK305.out))⟩; have n5_ : Aside0 (w26.heap[gb306]? = some (.cells #[.bool t309, .bool t314, .bool t319, .bool false, .bool false] 80 (0, 0))) := ⟨(by rw [hw]; exact (by (with_reducible repeat (first | refine blk_drewN ?_ _ | refine blk_drew ?_ | refine blk_alloc ?_ _)); refine blk_put (cs := #[.bool t309, .bool t314, .bool false, .bool false, .bool false]) ?_ 2 _ rfl; (with_reducible repeat (first | refine blk_drewN ?_ _ | refine blk_drew ?_ | refine blk_alloc ?_ _)); exact BK306.out))⟩; have n6_ : Aside0 (Below w.heap.size w w26) := ⟨(by rw [hw]; exact (by repeat (first | (with_reducible first | exact HB.out | apply bal | apply bdN | apply bdo | refine below_set ?_ GE304.out | refine below_set ?_ GE305.out | refine below_set ?_ GE306.out) | exact HB.out)))⟩; clear hw; clear HO311; clear HO316; clear HO321; clear BK304; clear BK305; clear BK306; clear HB; have HO311 := n0_; have HO316 := n1_; have HO321 := n2_; have BK304 := n3_; have BK305 := n4_; have BK306 := n5_; have HB := n6_; clear n0_ n1_ n2_ n3_ n4_ n5_ n6_; obtain ⟨Ao27, co27, eo27⟩ := Kd.R_slice HO321.out; subst eo27) | ((with_reducible refine gate_callee (f := 57) rfl ?_); refine goesL_ (some 33) rfl rfl Try.func57 (by kernel_rfl) rfl #[.slice Ao27 t318.length co27] rfl (by (try simp only [List.map_toArray, List.map_cons, List.map_nil]); first | done | rfl | (simp only [lld, llt]; rfl)) ?_; (with_reducible refine (cell_cutFlag.calls (fun k_ => some k_ = (.slice Ao27 t318.length co27 : Value).ownBlock) (.slice Ao27 t318.length co27) t318 t322 t323 t326 w _ ?side1 ?side2 A5.out).mono ?_); (case side1 => repeat (first | (with_reducible first | exact HB.out | apply bal | apply bdN | apply bdo | refine below_set ?_ GE304.out | refine below_set ?_ GE305.out | refine below_set ?_ GE306.out) | exact HB.out)); (case side2 => exact Kd.R_tight rfl HO321.out); rintro e w28 ⟨v324, rfl, ho0, hb, hkp⟩; refine ⟨_, rfl, ?_⟩; have n0_ := aS (blk_kept (by (with_reducible repeat (first | refine blk_drewN ?_ _ | refine blk_drew ?_ | refine blk_alloc ?_ _)); exact BK304.out) hkp (fun hs_ => (fun e_ => (Kd.R_ne HO321.out BK304.out (by decide)) e_) hs_)); have n1_ := aS (blk_kept (by (with_reducible repeat (first | refine blk_drewN ?_ _ | refine blk_drew ?_ | refine blk_alloc ?_ _)); exact BK305.out) hkp (fun hs_ => (fun e_ => (Kd.R_ne HO321.out BK305.out (by decide)) e_) hs_)); have n2_ := aS (blk_kept (by (with_reducible repeat (first | refine blk_drewN ?_ _ | refine blk_drew ?_ | refine blk_alloc ?_ _)); exact BK306.out) hkp (fun hs_ => (fun e_ => (Kd.R_ne HO321.out BK306.out (by decide)) e_) hs_)); have n3_ := aS (Kd.Q_mono (ok' := fun k_ => some k_ ≠ (.slice Ao21 t313.length co21 : Value).ownBlock ∧ some k_ ≠ (v324 : Value).ownBlock) (Kd.Q_keptB (HO311.out) hkp (fun k_ hk_ hs_ => (hk_.2) hs_)) (fun k_ hk_ => ⟨hk_.1.1, fun e_ => Or.elim (ho0.1 k_ e_.symm) (fun hs_ => hk_.2.1 hs_) (fun hn_ => Nat.not_le.2 hk_.2.2 hn_)⟩)); have n4_ := aS (Kd.Q_mono (ok' := fun k_ => some k_ ≠ (.slice Ao17 t308.length co17 : Value).ownBlock ∧ some k_ ≠ (v324 : Value).ownBlock) (Kd.Q_keptB (HO316.out) hkp (fun k_ hk_ hs_ => (hk_.2) hs_)) (fun k_ hk_ => ⟨hk_.1.1, fun e_ => Or.elim (ho0.1 k_ e_.symm) (fun hs_ => hk_.2.1 hs_) (fun hn_ => Nat.not_le.2 hk_.2.2 hn_)⟩)); have n5_ := aS (Kd.Q_mono (ok' := fun k_ => some k_ ≠ (.slice Ao17 t308.length co17 : Value).ownBlock ∧ some k_ ≠ (.slice Ao21 t313.length co21 : Value).ownBlock) ho0 (fun k_ hk_ => ⟨Or.elim hk_ (fun hs_ => fun e_ => (((HO311.out).1 k_ e_.symm).2) hs_) (fun hn_ => (Kd.fresh' (Kd.Q_lt (by (with_reducible repeat (first | apply Kd.Q_alloc | apply Kd.Q_drewN | apply Kd.Q_drew)); exact HO311.out)) k_ hn_)), Or.elim hk_ (fun hs_ => fun e_ => (((HO316.out).1 k_ e_.symm).2) hs_) (fun hn_ => (Kd.fresh' (Kd.Q_lt (by (with_reducible repeat (first | apply Kd.Q_alloc | apply Kd.Q_drewN | apply Kd.Q_drew)); exact HO316.out)) k_ hn_))⟩)); have n6_ := aS (hb); clear BK304; clear BK305; clear BK306; clear HO311; clear HO316; clear HB; clear HO321; have BK304 := n0_; have BK305 := n1_; have BK306 := n2_; have HO311 := n3_; have HO316 := n4_; have HO325 := n5_; have HB := n6_; clear n0_ n1_ n2_ n3_ n4_ n5_ n6_; (try clear hb); (try clear hkp); (try clear ho0); have hcz29_0 : w28.cell? ⟨gb305, 0, none⟩ = some (.string t307) := (blk_cell BK305.out 0).trans rfl; have hcz29_1 : w28.cell? ⟨gb305, 1, none⟩ = some (.string t312) := (blk_cell BK305.out 1).trans rfl; have hcz29_2 : w28.cell? ⟨gb305, 2, none⟩ = some (.int .i64 t317) := (blk_cell BK305.out 2).trans rfl; have hcz29_3 : w28.cell? ⟨gb305, 3, none⟩ = some (.string (⟨#[]⟩ : ByteArray)) := (blk_cell BK305.out 3).trans rfl; have hcz29_4 : w28.cell? ⟨gb305, 4, none⟩ = some (.bool false) := (blk_cell BK305.out 4).trans rfl; have hfz29_0 := blk_frozen BK305.out 0; have hfz29_1 := blk_frozen BK305.out 1; have hfz29_2 := blk_frozen BK305.out 2; have hfz29_3 := blk_frozen BK305.out 3; have hfz29_4 := blk_frozen BK305.out 4; have hcz30_0 : w28.cell? ⟨gb306, 0, none⟩ = some (.bool t309) := (blk_cell BK306.out 0).trans rfl; have hcz30_1 : w28.cell? ⟨gb306, 1, none⟩ = some (.bool t314) := (blk_cell BK306.out 1).trans rfl; have hcz30_2 : w28.cell? ⟨gb306, 2, none⟩ = some (.bool t319) := (blk_cell BK306.out 2).trans rfl; have hcz30_3 : w28.cell? ⟨gb306, 3, none⟩ = some (.bool false) := (blk_cell BK306.out 3).trans rfl; have hcz30_4 : w28.cell? ⟨gb306, 4, none⟩ = some (.bool false) := (blk_cell BK306.out 4).trans rfl; have hfz30_0 := blk_frozen BK306.out 0; have hfz30_1 := blk_frozen BK306.out 1; have hfz30_2 := blk_frozen BK306.out 2; have hfz30_3 := blk_frozen BK306.out 3; have hfz30_4 := blk_frozen BK306.out 4; obtain ⟨Ao31, co31, eo31, _⟩ := Kd.Q_slice HO325.out; subst eo31) | ((with_reducible refine gate_callee (f := 56) rfl ?_); refine goesL_ (some 41) rfl rfl Try.func56 (by kernel_rfl) rfl #[.slice Ao31 t323.length co31] rfl (by (try simp only [List.map_toArray, List.map_cons, List.map_nil]); first | done | rfl | (simp only [lld, llt]; rfl)) ?_; (with_reducible refine (wire_CutText.calls k _ _ t323 t327 t328 t329 _ ?side1 ?side2 A6.out).mono ?_); (case side1 => refine (Kd.Q_reads' (e := 5) (base := w.heap.size) (ok := fun k_ => (some k_ ≠ (.slice Ao17 t308.length co17 : Value).ownBlock ∧ some k_ ≠ (.slice Ao21 t313.length co21 : Value).ownBlock)) (n := t323.length) (c := co31) ?_).2.2; exact (by (with_reducible repeat (first | apply Kd.Q_alloc | apply Kd.Q_drewN | apply Kd.Q_drew)); exact (Kd.Q_mono (Kd.Q_mono (Kd.Q_far (p := ⟨gb306, 3, none⟩) (Kd.Q_far (p := ⟨gb305, 4, none⟩) (Kd.Q_types (Kd.Q_types HO325.out BK305.out (by decide)) BK306.out (by decide)) (fun _ hk => hk.1.2) (.bool t322)) (fun _ hk => hk.2) (.bool t326)) (fun _ h_ => h_.1)) (fun _ h_ => h_.1)))); (case side2 => exact (Kd.Q_reads' HO325.out).2.1); rintro e w32 ⟨v330, rfl, ho0, hb⟩; refine ⟨_, rfl, ?_⟩; have n0_ := aS (Kd.Q_elder' (by (with_reducible repeat (first | apply Kd.Q_alloc | apply Kd.Q_drewN | apply Kd.Q_drew)); exact (Kd.Q_mono (Kd.Q_mono (Kd.Q_far (p := ⟨gb306, 3, none⟩) (Kd.Q_far (p := ⟨gb305, 4, none⟩) (Kd.Q_types (Kd.Q_types HO311.out BK305.out (by decide)) BK306.out (by decide)) (fun _ hk => hk.1.2) (.bool t322)) (fun _ hk => hk.2) (.bool t326)) (fun _ h_ => h_.1)) (fun _ h_ => h_.1))) (by first | exact Kd.Q_base ho0 | exact Kd.S_base ho0 | exact Kd.R_base ho0 | exact Kd.V_base ho0) hb); have n1_ := aS (Kd.Q_elder' (by (with_reducible repeat (first | apply Kd.Q_alloc | apply Kd.Q_drewN | apply Kd.Q_drew)); exact (Kd.Q_mono (Kd.Q_mono (Kd.Q_far (p := ⟨gb306, 3, none⟩) (Kd.Q_far (p := ⟨gb305, 4, none⟩) (Kd.Q_types (Kd.Q_types HO316.out BK305.out (by decide)) BK306.out (by decide)) (fun _ hk => hk.1.2) (.bool t322)) (fun _ hk => hk.2) (.bool t326)) (fun _ h_ => h_.1)) (fun _ h_ => h_.1))) (by first | exact Kd.Q_base ho0 | exact Kd.S_base ho0 | exact Kd.R_base ho0 | exact Kd.V_base ho0) hb); have n2_ := aS (Kd.Q_elder' (by (with_reducible repeat (first | apply Kd.Q_alloc | apply Kd.Q_drewN | apply Kd.Q_drew)); exact (Kd.Q_mono (Kd.Q_mono (Kd.Q_far (p := ⟨gb306, 3, none⟩) (Kd.Q_far (p := ⟨gb305, 4, none⟩) (Kd.Q_types (Kd.Q_types HO325.out BK305.out (by decide)) BK306.out (by decide)) (fun _ hk => hk.1.2) (.bool t322)) (fun _ hk => hk.2) (.bool t326)) (fun _ h_ => h_.1)) (fun _ h_ => h_.1))) (by first | exact Kd.Q_base ho0 | exact Kd.S_base ho0 | exact Kd.R_base ho0 | exact Kd.V_base ho0) hb); have n3_ := aS (Kd.Q_lower (Kd.Q_new' (Kd.Q_new' (Kd.Q_new' ho0 (Kd.Q_lt (by (with_reducible repeat (first | apply Kd.Q_alloc | apply Kd.Q_drewN | apply Kd.Q_drew)); exact (Kd.Q_mono (Kd.Q_mono (Kd.Q_far (p := ⟨gb306, 3, none⟩) (Kd.Q_far (p := ⟨gb305, 4, none⟩) (Kd.Q_types (Kd.Q_types HO311.out BK305.out (by decide)) BK306.out (by decide)) (fun _ hk => hk.1.2) (.bool t322)) (fun _ hk => hk.2) (.bool t326)) (fun _ h_ => h_.1)) (fun _ h_ => h_.1))))) (Kd.Q_lt (by (with_reducible repeat (first | apply Kd.Q_alloc | apply Kd.Q_drewN | apply Kd.Q_drew)); exact (Kd.Q_mono (Kd.Q_mono (Kd.Q_far (p := ⟨gb306, 3, none⟩) (Kd.Q_far (p := ⟨gb305, 4, none⟩) (Kd.Q_types (Kd.Q_types HO316.out BK305.out (by decide)) BK306.out (by decide)) (fun _ hk => hk.1.2) (.bool t322)) (fun _ hk => hk.2) (.bool t326)) (fun _ h_ => h_.1)) (fun _ h_ => h_.1))))) (Kd.Q_lt (by (with_reducible repeat (first | apply Kd.Q_alloc | apply Kd.Q_drewN | apply Kd.Q_drew)); exact (Kd.Q_mono (Kd.Q_mono (Kd.Q_far (p := ⟨gb306, 3, none⟩) (Kd.Q_far (p := ⟨gb305, 4, none⟩) (Kd.Q_types (Kd.Q_types HO325.out BK305.out (by decide)) BK306.out (by decide)) (fun _ hk => hk.1.2) (.bool t322)) (fun _ hk => hk.2) (.bool t326)) (fun _ h_ => h_.1)) (fun _ h_ => h_.1))))) (below_size (by repeat (first | (with_reducible first | exact HB.out | apply bal | apply bdN | apply bdo | refine below_set ?_ GE304.out | refine below_set ?_ GE305.out | refine below_set ?_ GE306.out) | exact HB.out)))); have n4_ := aS (blk_below (g := gb304) (o := .cells #[.string (⟨#[]⟩ : ByteArray), .string (⟨#[]⟩ : ByteArray), .int .i64 0, .string (⟨#[]⟩ : ByteArray), .bool false] 46 (0, 0)) (by (with_reducible repeat (first | refine blk_drewN ?_ _ | refine blk_drew ?_ | refine blk_alloc ?_ _)); refine blk_far ?_ NB304_306.out _; (with_reducible repeat (first | refine blk_drewN ?_ _ | refine blk_drew ?_ | refine blk_alloc ?_ _)); refine blk_far ?_ NB304_305.out _; (with_reducible repeat (first | refine blk_drewN ?_ _ | refine blk_drew ?_ | refine blk_alloc ?_ _)); exact BK304.out) hb); have n5_ := aS (blk_below (g := gb305) (o := .cells #[.string t307, .string t312, .int .i64 t317, .string (⟨#[]⟩ : ByteArray), .bool t322] 46 (0, 0)) (by (with_reducible repeat (first | refine blk_drewN ?_ _ | refine blk_drew ?_ | refine blk_alloc ?_ _)); refine blk_far ?_ NB305_306.out _; (with_reducible repeat (first | refine blk_drewN ?_ _ | refine blk_drew ?_ | refine blk_alloc ?_ _)); refine blk_put (cs := #[.string t307, .string t312, .int .i64 t317, .string (⟨#[]⟩ : ByteArray), .bool false]) ?_ 4 _ rfl; (with_reducible repeat (first | refine blk_drewN ?_ _ | refine blk_drew ?_ | refine blk_alloc ?_ _)); exact BK305.out) hb); have n6_ := aS (blk_below (g := gb306) (o := .cells #[.bool t309, .bool t314, .bool t319, .bool t326, .bool false] 80 (0, 0)) (by (with_reducible repeat (first | refine blk_drewN ?_ _ | refine blk_drew ?_ | refine blk_alloc ?_ _)); refine blk_put (cs := #[.bool t309, .bool t314, .bool t319, .bool false, .bool false]) ?_ 3 _ rfl; (with_reducible repeat (first | refine blk_drewN ?_ _ | refine blk_drew ?_ | refine blk_alloc ?_ _)); refine blk_far ?_ NB306_305.out _; (with_reducible repeat (first | refine blk_drewN ?_ _ | refine blk_drew ?_ | refine blk_alloc ?_ _)); exact BK306.out) hb); have n7_ := aS (below_step (by repeat (first | (with_reducible first | exact HB.out | apply bal | apply bdN | apply bdo | refine below_set ?_ GE304.out | refine below_set ?_ GE305.out | refine below_set ?_ GE306.out) | exact HB.out)) hb); clear HO311; clear HO316; clear HO325; clear BK304; clear BK305; clear BK306; clear HB; have HO311 := n0_; have HO316 := n1_; have HO325 := n2_; have HO331 := n3_; have BK304 := n4_; have BK305 := n5_; have BK306 := n6_; have HB := n7_; clear n0_ n1_ n2_ n3_ n4_ n5_ n6_ n7_; (try clear hb); (try clear hb2); (try clear hk); (try clear hi); (try clear ho0); have hcz33_0 : w32.cell? ⟨gb305, 0, none⟩ = some (.string t307) := (blk_cell BK305.out 0).trans rfl; have hcz33_1 : w32.cell? ⟨gb305, 1, none⟩ = some (.string t312) := (blk_cell BK305.out 1).trans rfl; have hcz33_2 : w32.cell? ⟨gb305, 2, none⟩ = some (.int .i64 t317) := (blk_cell BK305.out 2).trans rfl; have hcz33_3 : w32.cell? ⟨gb305, 3, none⟩ = some (.string (⟨#[]⟩ : ByteArray)) := (blk_cell BK305.out 3).trans rfl; have hcz33_4 : w32.cell? ⟨gb305, 4, none⟩ = some (.bool t322) := (blk_cell BK305.out 4).trans rfl; have hfz33_0 := blk_frozen BK305.out 0; have hfz33_1 := blk_frozen BK305.out 1; have hfz33_2 := blk_frozen BK305.out 2; have hfz33_3 := blk_frozen BK305.out 3; have hfz33_4 := blk_frozen BK305.out 4; have hcz34_0 : w32.cell? ⟨gb306, 0, none⟩ = some (.bool t309) := (blk_cell BK306.out 0).trans rfl; have hcz34_1 : w32.cell? ⟨gb306, 1, none⟩ = some (.bool t314) := (blk_cell BK306.out 1).trans rfl; have hcz34_2 : w32.cell? ⟨gb306, 2, none⟩ = some (.bool t319) := (blk_cell BK306.out 2).trans rfl; have hcz34_3 : w32.cell? ⟨gb306, 3, none⟩ = some (.bool t326) := (blk_cell BK306.out 3).trans rfl; have hcz34_4 : w32.cell? ⟨gb306, 4, none⟩ = some (.bool false) := (blk_cell BK306.out 4).trans rfl; have hfz34_0 := blk_frozen BK306.out 0; have hfz34_1 := blk_frozen BK306.out 1; have hfz34_2 := blk_frozen BK306.out 2; have hfz34_3 := blk_frozen BK306.out 3; have hfz34_4 := blk_frozen BK306.out 4))
 (try simp only [Act.put, lsa, lsz, lss])
 go_cut [54] (fun v54 wc => ∃ (kq : Nat) (x54_6 : Bool), v54 = .bool x54_6 ∧ Aside0 (cell_Cut.j0 kq t328 x54_6 t307 t312 t317 t327 t322 = some (r1, r2, r3, r4, r5, r6, r7)) ∧ Aside0 (kq ≤ k) ∧ Aside0 (Kd.Q (Kd.int .u8) 5 wc w.heap.size (fun _ => True) v330 t328) ∧ Aside0 (wc.heap[gb304]? = some (.cells #[.string (⟨#[]⟩ : ByteArray), .string (⟨#[]⟩ : ByteArray), .int .i64 0, .string (⟨#[]⟩ : ByteArray), .bool false] 46 (0, 0))) ∧ Aside0 (wc.heap[gb305]? = some (.cells #[.string t307, .string t312, .int .i64 t317, .string t327, .bool t322] 46 (0, 0))) ∧ Aside0 (wc.heap[gb306]? = some (.cells #[.bool t309, .bool t314, .bool t319, .bool t326, .bool t329] 80 (0, 0))) ∧ Aside0 (Below w.heap.size w wc))
 case first =>
  have H := HC7.out; clear HC7
  by_cases c35 : (!t309 || (!t314 || (!t319 || (!t326 || (!t329))))) = true
  ·
   rw [if_pos c35] at H
   have c35b0 : (!t309 || (!t314 || (!t319 || (!t326 || (!t329))))) = true := c35
   clear c35
   (first | rw [c35b0] | (simp only [i64_w, i32_w]; rw [c35b0]) | skip)
   have H' := aS H
   clear H; have hnb36 := NB306_304.out; have hnc36 := NB304_306.out; have hnb37 := NB306_305.out; have hnc37 := NB305_306.out
   have hcz38_0 : w32.cell? ⟨gb306, 0, none⟩ = some (.bool t309) := (blk_cell BK306.out 0).trans rfl
   have hcz38_1 : w32.cell? ⟨gb306, 1, none⟩ = some (.bool t314) := (blk_cell BK306.out 1).trans rfl
   have hcz38_2 : w32.cell? ⟨gb306, 2, none⟩ = some (.bool t319) := (blk_cell BK306.out 2).trans rfl
   have hcz38_3 : w32.cell? ⟨gb306, 3, none⟩ = some (.bool t326) := (blk_cell BK306.out 3).trans rfl
   have hcz38_4 : w32.cell? ⟨gb306, 4, none⟩ = some (.bool false) := (blk_cell BK306.out 4).trans rfl
   have hfz38_0 := blk_frozen BK306.out 0
   have hfz38_1 := blk_frozen BK306.out 1
   have hfz38_2 := blk_frozen BK306.out 2
   have hfz38_3 := blk_frozen BK306.out 3
   have hfz38_4 := blk_frozen BK306.out 4
   go_wp2
   go_meet
   case rel => exact ⟨_, (true), (by first | rfl | (simp; done) | (simp [*]; done) | (simp; exact (by decide : ∀ a_ b_ : Bool, (a_ == b_) = (!a_ != b_)) _ _)), H', ⟨by first | omega | exact Nat.le_refl _⟩, ⟨by (with_reducible repeat (first | apply Kd.Q_alloc | apply Kd.Q_drewN | apply Kd.Q_drew)); exact Kd.Q_mono (Kd.Q_far (p := ⟨gb306, 4, none⟩) (Kd.Q_far (p := ⟨gb305, 3, none⟩) (Kd.Q_types (Kd.Q_types HO331.out BK305.out (by decide)) BK306.out (by decide)) (fun _ hk => hk.1.2) (.string t327)) (fun _ hk => hk.2) (.bool t329)) (fun _ hk => trivial)⟩, ⟨by (with_reducible repeat (first | refine blk_drewN ?_ _ | refine blk_drew ?_ | refine blk_alloc ?_ _)); refine blk_far ?_ NB304_306.out _; (with_reducible repeat (first | refine blk_drewN ?_ _ | refine blk_drew ?_ | refine blk_alloc ?_ _)); refine blk_far ?_ NB304_305.out _; (with_reducible repeat (first | refine blk_drewN ?_ _ | refine blk_drew ?_ | refine blk_alloc ?_ _)); exact BK304.out⟩, ⟨by (with_reducible repeat (first | refine blk_drewN ?_ _ | refine blk_drew ?_ | refine blk_alloc ?_ _)); refine blk_far ?_ NB305_306.out _; (with_reducible repeat (first | refine blk_drewN ?_ _ | refine blk_drew ?_ | refine blk_alloc ?_ _)); refine blk_put (cs := #[.string t307, .string t312, .int .i64 t317, .string (⟨#[]⟩ : ByteArray), .bool t322]) ?_ 3 _ rfl; (with_reducible repeat (first | refine blk_drewN ?_ _ | refine blk_drew ?_ | refine blk_alloc ?_ _)); exact BK305.out⟩, ⟨by (with_reducible repeat (first | refine blk_drewN ?_ _ | refine blk_drew ?_ | refine blk_alloc ?_ _)); refine blk_put (cs := #[.bool t309, .bool t314, .bool t319, .bool t326, .bool false]) ?_ 4 _ rfl; (with_reducible repeat (first | refine blk_drewN ?_ _ | refine blk_drew ?_ | refine blk_alloc ?_ _)); refine blk_far ?_ NB306_305.out _; (with_reducible repeat (first | refine blk_drewN ?_ _ | refine blk_drew ?_ | refine blk_alloc ?_ _)); exact BK306.out⟩, ⟨by repeat (first | (with_reducible first | exact HB.out | apply bal | apply bdN | apply bdo | refine below_set ?_ GE304.out | refine below_set ?_ GE305.out | refine below_set ?_ GE306.out) | exact HB.out)⟩⟩
  ·
   rw [if_neg c35] at H
   have c35b0 : (!t309 || (!t314 || (!t319 || (!t326 || (!t329))))) = false := by simpa using c35
   clear c35
   (first | rw [c35b0] | (simp only [i64_w, i32_w]; rw [c35b0]) | skip)
   replace H := obm H
   obtain ⟨t332, A390, H⟩ := H
   replace H : (cell_Cut.j0 k t328 (!t332) t307 t312 t317 t327 t322) = some (r1, r2, r3, r4, r5, r6, r7) := H
   have A39 := aS A390
   clear A390
   have H' := aS H
   clear H; have hnb40 := NB306_304.out; have hnc40 := NB304_306.out; have hnb41 := NB306_305.out; have hnc41 := NB305_306.out
   have hcz42_0 : w32.cell? ⟨gb306, 0, none⟩ = some (.bool t309) := (blk_cell BK306.out 0).trans rfl
   have hcz42_1 : w32.cell? ⟨gb306, 1, none⟩ = some (.bool t314) := (blk_cell BK306.out 1).trans rfl
   have hcz42_2 : w32.cell? ⟨gb306, 2, none⟩ = some (.bool t319) := (blk_cell BK306.out 2).trans rfl
   have hcz42_3 : w32.cell? ⟨gb306, 3, none⟩ = some (.bool t326) := (blk_cell BK306.out 3).trans rfl
   have hcz42_4 : w32.cell? ⟨gb306, 4, none⟩ = some (.bool false) := (blk_cell BK306.out 4).trans rfl
   have hfz42_0 := blk_frozen BK306.out 0
   have hfz42_1 := blk_frozen BK306.out 1
   have hfz42_2 := blk_frozen BK306.out 2
   have hfz42_3 := blk_frozen BK306.out 3
   have hfz42_4 := blk_frozen BK306.out 4
   have hnb43 := NB305_304.out; have hnc43 := NB304_305.out
   have hcz44_0 : w32.cell? ⟨gb305, 0, none⟩ = some (.string t307) := (blk_cell BK305.out 0).trans rfl
   have hcz44_1 : w32.cell? ⟨gb305, 1, none⟩ = some (.string t312) := (blk_cell BK305.out 1).trans rfl
   have hcz44_2 : w32.cell? ⟨gb305, 2, none⟩ = some (.int .i64 t317) := (blk_cell BK305.out 2).trans rfl
   have hcz44_3 : w32.cell? ⟨gb305, 3, none⟩ = some (.string (⟨#[]⟩ : ByteArray)) := (blk_cell BK305.out 3).trans rfl
   have hcz44_4 : w32.cell? ⟨gb305, 4, none⟩ = some (.bool t322) := (blk_cell BK305.out 4).trans rfl
   have hfz44_0 := blk_frozen BK305.out 0
   have hfz44_1 := blk_frozen BK305.out 1
   have hfz44_2 := blk_frozen BK305.out 2
   have hfz44_3 := blk_frozen BK305.out 3
   have hfz44_4 := blk_frozen BK305.out 4
   go_wp2_with (first | (go_at_call 38; (with_reducible refine (cell_Right.calls t307 t312 t317 t327 t322 t332 _ A39.out).mono ?_); rintro e w45 ⟨rfl, hb⟩; have n0_ := aS (Kd.Q_below (by (with_reducible repeat (first | apply Kd.Q_alloc | apply Kd.Q_drewN | apply Kd.Q_drew)); exact (Kd.Q_mono (Kd.Q_mono (Kd.Q_far (p := ⟨gb306, 4, none⟩) (Kd.Q_far (p := ⟨gb305, 3, none⟩) (Kd.Q_types (Kd.Q_types HO311.out BK305.out (by decide)) BK306.out (by decide)) (fun _ hk => hk.1.2) (.string t327)) (fun _ hk => hk.2) (.bool t329)) (fun _ h_ => h_.1)) (fun _ h_ => h_.1))) hb); have n1_ := aS (Kd.Q_below (by (with_reducible repeat (first | apply Kd.Q_alloc | apply Kd.Q_drewN | apply Kd.Q_drew)); exact (Kd.Q_mono (Kd.Q_mono (Kd.Q_far (p := ⟨gb306, 4, none⟩) (Kd.Q_far (p := ⟨gb305, 3, none⟩) (Kd.Q_types (Kd.Q_types HO316.out BK305.out (by decide)) BK306.out (by decide)) (fun _ hk => hk.1.2) (.string t327)) (fun _ hk => hk.2) (.bool t329)) (fun _ h_ => h_.1)) (fun _ h_ => h_.1))) hb); have n2_ := aS (Kd.Q_below (by (with_reducible repeat (first | apply Kd.Q_alloc | apply Kd.Q_drewN | apply Kd.Q_drew)); exact (Kd.Q_mono (Kd.Q_mono (Kd.Q_far (p := ⟨gb306, 4, none⟩) (Kd.Q_far (p := ⟨gb305, 3, none⟩) (Kd.Q_types (Kd.Q_types HO325.out BK305.out (by decide)) BK306.out (by decide)) (fun _ hk => hk.1.2) (.string t327)) (fun _ hk => hk.2) (.bool t329)) (fun _ h_ => h_.1)) (fun _ h_ => h_.1))) hb); have n3_ := aS (Kd.Q_below (by (with_reducible repeat (first | apply Kd.Q_alloc | apply Kd.Q_drewN | apply Kd.Q_drew)); exact (Kd.Q_mono (Kd.Q_mono (Kd.Q_far (p := ⟨gb306, 4, none⟩) (Kd.Q_far (p := ⟨gb305, 3, none⟩) (Kd.Q_types (Kd.Q_types HO331.out BK305.out (by decide)) BK306.out (by decide)) (fun _ hk => hk.1.2) (.string t327)) (fun _ hk => hk.2) (.bool t329)) (fun _ h_ => h_.1)) (fun _ h_ => h_.1))) hb); have n4_ := aS (blk_below (g := gb304) (o := .cells #[.string (⟨#[]⟩ : ByteArray), .string (⟨#[]⟩ : ByteArray), .int .i64 0, .string (⟨#[]⟩ : ByteArray), .bool false] 46 (0, 0)) (by (with_reducible repeat (first | refine blk_drewN ?_ _ | refine blk_drew ?_ | refine blk_alloc ?_ _)); refine blk_far ?_ NB304_306.out _; (with_reducible repeat (first | refine blk_drewN ?_ _ | refine blk_drew ?_ | refine blk_alloc ?_ _)); refine blk_far ?_ NB304_305.out _; (with_reducible repeat (first | refine blk_drewN ?_ _ | refine blk_drew ?_ | refine blk_alloc ?_ _)); exact BK304.out) hb); have n5_ := aS (blk_below (g := gb305) (o := .cells #[.string t307, .string t312, .int .i64 t317, .string t327, .bool t322] 46 (0, 0)) (by (with_reducible repeat (first | refine blk_drewN ?_ _ | refine blk_drew ?_ | refine blk_alloc ?_ _)); refine blk_far ?_ NB305_306.out _; (with_reducible repeat (first | refine blk_drewN ?_ _ | refine blk_drew ?_ | refine blk_alloc ?_ _)); refine blk_put (cs := #[.string t307, .string t312, .int .i64 t317, .string (⟨#[]⟩ : ByteArray), .bool t322]) ?_ 3 _ rfl; (with_reducible repeat (first | refine blk_drewN ?_ _ | refine blk_drew ?_ | refine blk_alloc ?_ _)); exact BK305.out) hb); have n6_ := aS (blk_below (g := gb306) (o := .cells #[.bool t309, .bool t314, .bool t319, .bool t326, .bool t329] 80 (0, 0)) (by (with_reducible repeat (first | refine blk_drewN ?_ _ | refine blk_drew ?_ | refine blk_alloc ?_ _)); refine blk_put (cs := #[.bool t309, .bool t314, .bool t319, .bool t326, .bool false]) ?_ 4 _ rfl; (with_reducible repeat (first | refine blk_drewN ?_ _ | refine blk_drew ?_ | refine blk_alloc ?_ _)); refine blk_far ?_ NB306_305.out _; (with_reducible repeat (first | refine blk_drewN ?_ _ | refine blk_drew ?_ | refine blk_alloc ?_ _)); exact BK306.out) hb); have n7_ := aS (below_step (by repeat (first | (with_reducible first | exact HB.out | apply bal | apply bdN | apply bdo | refine below_set ?_ GE304.out | refine below_set ?_ GE305.out | refine below_set ?_ GE306.out) | exact HB.out)) hb); clear HO311; clear HO316; clear HO325; clear HO331; clear BK304; clear BK305; clear BK306; clear HB; have HO311 := n0_; have HO316 := n1_; have HO325 := n2_; have HO331 := n3_; have BK304 := n4_; have BK305 := n5_; have BK306 := n6_; have HB := n7_; clear n0_ n1_ n2_ n3_ n4_ n5_ n6_ n7_; (try clear hb); (try clear hb2); (try clear hk); (try clear hi)))
   go_meet
   case rel => exact ⟨_, (!t332), (by first | rfl | (simp; done) | (simp [*]; done) | (simp; exact (by decide : ∀ a_ b_ : Bool, (a_ == b_) = (!a_ != b_)) _ _)), H', ⟨by first | omega | exact Nat.le_refl _⟩, ⟨by (with_reducible repeat (first | apply Kd.Q_alloc | apply Kd.Q_drewN | apply Kd.Q_drew)); exact Kd.Q_mono HO331.out (fun _ hk => trivial)⟩, ⟨by (with_reducible repeat (first | refine blk_drewN ?_ _ | refine blk_drew ?_ | refine blk_alloc ?_ _)); exact BK304.out⟩, ⟨by (with_reducible repeat (first | refine blk_drewN ?_ _ | refine blk_drew ?_ | refine blk_alloc ?_ _)); exact BK305.out⟩, ⟨by (with_reducible repeat (first | refine blk_drewN ?_ _ | refine blk_drew ?_ | refine blk_alloc ?_ _)); exact BK306.out⟩, ⟨by repeat (first | (with_reducible first | exact HB.out | apply bal | apply bdN | apply bdo | refine below_set ?_ GE304.out | refine below_set ?_ GE305.out | refine below_set ?_ GE306.out) | exact HB.out)⟩⟩
 case rest =>
  clear HC7; (try clear c1); (try clear p2); (try clear c3); (try clear c4); (try clear c5); (try clear c12); (try clear c13); (try clear c15); (try clear c35); (try clear c35b0); (try clear c36); (try clear c37); (try clear c40); (try clear c41); (try clear c43); (try clear hcz14_0); (try clear hcz14_1); (try clear hcz14_2); (try clear hcz14_3); (try clear hcz14_4); (try clear hcz16_0); (try clear hcz16_1); (try clear hcz16_2); (try clear hcz16_3); (try clear hcz16_4); (try clear hcz19_0); (try clear hcz19_1); (try clear hcz19_2); (try clear hcz19_3); (try clear hcz19_4); (try clear hcz20_0); (try clear hcz20_1); (try clear hcz20_2); (try clear hcz20_3); (try clear hcz20_4); (try clear hcz23_0); (try clear hcz23_1); (try clear hcz23_2); (try clear hcz23_3); (try clear hcz23_4); (try clear hcz25_0); (try clear hcz25_1); (try clear hcz25_2); (try clear hcz25_3); (try clear hcz25_4); (try clear hcz29_0); (try clear hcz29_1); (try clear hcz29_2); (try clear hcz29_3); (try clear hcz29_4); (try clear hcz30_0); (try clear hcz30_1); (try clear hcz30_2); (try clear hcz30_3); (try clear hcz30_4); (try clear hcz33_0); (try clear hcz33_1); (try clear hcz33_2); (try clear hcz33_3); (try clear hcz33_4); (try clear hcz34_0); (try clear hcz34_1); (try clear hcz34_2); (try clear hcz34_3); (try clear hcz34_4); (try clear hcz38_0); (try clear hcz38_1); (try clear hcz38_2); (try clear hcz38_3); (try clear hcz38_4); (try clear hcz42_0); (try clear hcz42_1); (try clear hcz42_2); (try clear hcz42_3); (try clear hcz42_4); (try clear hcz44_0); (try clear hcz44_1); (try clear hcz44_2); (try clear hcz44_3); (try clear hcz44_4); (try clear hfz14_0); (try clear hfz14_1); (try clear hfz14_2); (try clear hfz14_3); (try clear hfz14_4); (try clear hfz16_0); (try clear hfz16_1); (try clear hfz16_2); (try clear hfz16_3); (try clear hfz16_4); (try clear hfz19_0); (try clear hfz19_1); (try clear hfz19_2); (try clear hfz19_3); (try clear hfz19_4); (try clear hfz20_0); (try clear hfz20_1); (try clear hfz20_2); (try clear hfz20_3); (try clear hfz20_4); (try clear hfz23_0); (try clear hfz23_1); (try clear hfz23_2); (try clear hfz23_3); (try clear hfz23_4); (try clear hfz25_0); (try clear hfz25_1); (try clear hfz25_2); (try clear hfz25_3); (try clear hfz25_4); (try clear hfz29_0); (try clear hfz29_1); (try clear hfz29_2); (try clear hfz29_3); (try clear hfz29_4); (try clear hfz30_0); (try clear hfz30_1); (try clear hfz30_2); (try clear hfz30_3); (try clear hfz30_4); (try clear hfz33_0); (try clear hfz33_1); (try clear hfz33_2); (try clear hfz33_3); (try clear hfz33_4); (try clear hfz34_0); (try clear hfz34_1); (try clear hfz34_2); (try clear hfz34_3); (try clear hfz34_4); (try clear hfz38_0); (try clear hfz38_1); (try clear hfz38_2); (try clear hfz38_3); (try clear hfz38_4); (try clear hfz42_0); (try clear hfz42_1); (try clear hfz42_2); (try clear hfz42_3); (try clear hfz42_4); (try clear hfz44_0); (try clear hfz44_1); (try clear hfz44_2); (try clear hfz44_3); (try clear hfz44_4)
  obtain ⟨kq, x54_6, rfl, HA, HJ6, HO_0, BK304, BK305, BK306, HB⟩ := hcut
  cases kq with
  | zero => exact absurd HA.out (by simp [cell_Cut.j0])
  | succ kj6 =>
   have H := HA.out; clear HA
   simp only [cell_Cut.j0] at H
   by_cases c46 : x54_6 = true
   ·
    subst c46
    have H1 : (some ((⟨#[]⟩ : ByteArray), (⟨#[]⟩ : ByteArray), 0, (⟨#[]⟩ : ByteArray), false, ([] : List Int), false)) = some (r1, r2, r3, r4, r5, r6, r7) := by rw [if_pos rfl] at H; exact H
    clear H; have H := H1; clear H1
    simp only [Option.some.injEq, Prod.mk.injEq] at H
    obtain ⟨rfl, rfl, rfl, rfl, rfl, rfl, rfl⟩ := H
    have hnb47 := NB304_305.out; have hnc47 := NB305_304.out; have hnb48 := NB304_306.out; have hnc48 := NB306_304.out
    have hcz49_0 : wc.cell? ⟨gb304, 0, none⟩ = some (.string (⟨#[]⟩ : ByteArray)) := (blk_cell BK304.out 0).trans rfl
    have hcz49_1 : wc.cell? ⟨gb304, 1, none⟩ = some (.string (⟨#[]⟩ : ByteArray)) := (blk_cell BK304.out 1).trans rfl
    have hcz49_2 : wc.cell? ⟨gb304, 2, none⟩ = some (.int .i64 0) := (blk_cell BK304.out 2).trans rfl
    have hcz49_3 : wc.cell? ⟨gb304, 3, none⟩ = some (.string (⟨#[]⟩ : ByteArray)) := (blk_cell BK304.out 3).trans rfl
    have hcz49_4 : wc.cell? ⟨gb304, 4, none⟩ = some (.bool false) := (blk_cell BK304.out 4).trans rfl
    have hfz49_0 := blk_frozen BK304.out 0
    have hfz49_1 := blk_frozen BK304.out 1
    have hfz49_2 := blk_frozen BK304.out 2
    have hfz49_3 := blk_frozen BK304.out 3
    have hfz49_4 := blk_frozen BK304.out 4
    go_wp2
    refine bodyPost_ret (results_ctt rfl _ _ gb304 46 #[.string (⟨#[]⟩ : ByteArray), .string (⟨#[]⟩ : ByteArray), .int .i64 0, .string (⟨#[]⟩ : ByteArray), .bool false] (0, 0) _ rfl (by (with_reducible repeat (first | refine blk_drewN ?_ _ | refine blk_drew ?_ | refine blk_alloc ?_ _)); refine blk_put (cs := #[.string (⟨#[]⟩ : ByteArray), .string (⟨#[]⟩ : ByteArray), .int .i64 0, .string (⟨#[]⟩ : ByteArray), .bool false]) ?_ 4 _ rfl; (with_reducible repeat (first | refine blk_drewN ?_ _ | refine blk_drew ?_ | refine blk_alloc ?_ _)); refine blk_put (cs := #[.string (⟨#[]⟩ : ByteArray), .string (⟨#[]⟩ : ByteArray), .int .i64 0, .string (⟨#[]⟩ : ByteArray), .bool false]) ?_ 3 _ rfl; (with_reducible repeat (first | refine blk_drewN ?_ _ | refine blk_drew ?_ | refine blk_alloc ?_ _)); refine blk_put (cs := #[.string (⟨#[]⟩ : ByteArray), .string (⟨#[]⟩ : ByteArray), .int .i64 0, .string (⟨#[]⟩ : ByteArray), .bool false]) ?_ 2 _ rfl; (with_reducible repeat (first | refine blk_drewN ?_ _ | refine blk_drew ?_ | refine blk_alloc ?_ _)); refine blk_put (cs := #[.string (⟨#[]⟩ : ByteArray), .string (⟨#[]⟩ : ByteArray), .int .i64 0, .string (⟨#[]⟩ : ByteArray), .bool false]) ?_ 1 _ rfl; (with_reducible repeat (first | refine blk_drewN ?_ _ | refine blk_drew ?_ | refine blk_alloc ?_ _)); refine blk_put (cs := #[.string (⟨#[]⟩ : ByteArray), .string (⟨#[]⟩ : ByteArray), .int .i64 0, .string (⟨#[]⟩ : ByteArray), .bool false]) ?_ 0 _ rfl; (with_reducible repeat (first | refine blk_drewN ?_ _ | refine blk_drew ?_ | refine blk_alloc ?_ _)); exact BK304.out) Try.underlying46 rfl (by kernel_rfl)) rfl ?_
    exact ⟨_, by first | rfl | (simp [errW_none, errW_some] <;> rfl) | (simp [*, errW_none, errW_some] <;> rfl), Kd.Q_of_R (by first | exact Kd.R_nil _ _ _ _ _ | exact Kd.N_nil _ _ _ _ _ | exact Kd.V_nil _ _ _ _ _ | exact Kd.Q_nil _ _ _ _ _ | exact Kd.S_nil _ _ _ _ _), by repeat (first | (with_reducible first | exact HB.out | apply bal | apply bdN | apply bdo | refine below_set ?_ GE304.out | refine below_set ?_ GE305.out | refine below_set ?_ GE306.out) | exact HB.out)⟩
   ·
    replace c46 := Bool.eq_false_iff.mpr c46
    subst c46
    have H1 : (some (t307, t312, t317, t327, t322, t328, true)) = some (r1, r2, r3, r4, r5, r6, r7) := by rw [if_neg (show ¬ (false = true) by decide)] at H; exact H
    clear H; have H := H1; clear H1
    simp only [Option.some.injEq, Prod.mk.injEq] at H
    obtain ⟨rfl, rfl, rfl, rfl, rfl, rfl, rfl⟩ := H
    have hnb50 := NB305_304.out; have hnc50 := NB304_305.out; have hnb51 := NB305_306.out; have hnc51 := NB306_305.out
    have hcz52_0 : wc.cell? ⟨gb305, 0, none⟩ = some (.string t307) := (blk_cell BK305.out 0).trans rfl
    have hcz52_1 : wc.cell? ⟨gb305, 1, none⟩ = some (.string t312) := (blk_cell BK305.out 1).trans rfl
    have hcz52_2 : wc.cell? ⟨gb305, 2, none⟩ = some (.int .i64 t317) := (blk_cell BK305.out 2).trans rfl
    have hcz52_3 : wc.cell? ⟨gb305, 3, none⟩ = some (.string t327) := (blk_cell BK305.out 3).trans rfl
    have hcz52_4 : wc.cell? ⟨gb305, 4, none⟩ = some (.bool t322) := (blk_cell BK305.out 4).trans rfl
    have hfz52_0 := blk_frozen BK305.out 0
    have hfz52_1 := blk_frozen BK305.out 1
    have hfz52_2 := blk_frozen BK305.out 2
    have hfz52_3 := blk_frozen BK305.out 3
    have hfz52_4 := blk_frozen BK305.out 4
    have hnb53 := NB304_306.out; have hnc53 := NB306_304.out
    have hcz54_0 : wc.cell? ⟨gb304, 0, none⟩ = some (.string (⟨#[]⟩ : ByteArray)) := (blk_cell BK304.out 0).trans rfl
    have hcz54_1 : wc.cell? ⟨gb304, 1, none⟩ = some (.string (⟨#[]⟩ : ByteArray)) := (blk_cell BK304.out 1).trans rfl
    have hcz54_2 : wc.cell? ⟨gb304, 2, none⟩ = some (.int .i64 0) := (blk_cell BK304.out 2).trans rfl
    have hcz54_3 : wc.cell? ⟨gb304, 3, none⟩ = some (.string (⟨#[]⟩ : ByteArray)) := (blk_cell BK304.out 3).trans rfl
    have hcz54_4 : wc.cell? ⟨gb304, 4, none⟩ = some (.bool false) := (blk_cell BK304.out 4).trans rfl
    have hfz54_0 := blk_frozen BK304.out 0
    have hfz54_1 := blk_frozen BK304.out 1
    have hfz54_2 := blk_frozen BK304.out 2
    have hfz54_3 := blk_frozen BK304.out 3
    have hfz54_4 := blk_frozen BK304.out 4
    go_wp2
    refine bodyPost_ret (results_ctt rfl _ _ gb304 46 #[.string t307, .string t312, .int .i64 t317, .string t327, .bool t322] (0, 0) _ rfl (by (with_reducible repeat (first | refine blk_drewN ?_ _ | refine blk_drew ?_ | refine blk_alloc ?_ _)); refine blk_put (cs := #[.string t307, .string t312, .int .i64 t317, .string t327, .bool false]) ?_ 4 _ rfl; (with_reducible repeat (first | refine blk_drewN ?_ _ | refine blk_drew ?_ | refine blk_alloc ?_ _)); refine blk_put (cs := #[.string t307, .string t312, .int .i64 t317, .string (⟨#[]⟩ : ByteArray), .bool false]) ?_ 3 _ rfl; (with_reducible repeat (first | refine blk_drewN ?_ _ | refine blk_drew ?_ | refine blk_alloc ?_ _)); refine blk_put (cs := #[.string t307, .string t312, .int .i64 0, .string (⟨#[]⟩ : ByteArray), .bool false]) ?_ 2 _ rfl; (with_reducible repeat (first | refine blk_drewN ?_ _ | refine blk_drew ?_ | refine blk_alloc ?_ _)); refine blk_put (cs := #[.string t307, .string (⟨#[]⟩ : ByteArray), .int .i64 0, .string (⟨#[]⟩ : ByteArray), .bool false]) ?_ 1 _ rfl; (with_reducible repeat (first | refine blk_drewN ?_ _ | refine blk_drew ?_ | refine blk_alloc ?_ _)); refine blk_put (cs := #[.string (⟨#[]⟩ : ByteArray), .string (⟨#[]⟩ : ByteArray), .int .i64 0, .string (⟨#[]⟩ : ByteArray), .bool false]) ?_ 0 _ rfl; (with_reducible repeat (first | refine blk_drewN ?_ _ | refine blk_drew ?_ | refine blk_alloc ?_ _)); exact BK304.out) Try.underlying46 rfl (by kernel_rfl)) rfl ?_
    exact ⟨_, by first | rfl | (simp [errW_none, errW_some] <;> rfl) | (simp [*, errW_none, errW_some] <;> rfl), by (with_reducible repeat (first | apply Kd.Q_alloc | apply Kd.Q_drewN | apply Kd.Q_drew)); exact Kd.Q_mono (Kd.Q_far (p := ⟨gb304, 4, none⟩) (Kd.Q_far (p := ⟨gb304, 3, none⟩) (Kd.Q_far (p := ⟨gb304, 2, none⟩) (Kd.Q_far (p := ⟨gb304, 1, none⟩) (Kd.Q_far (p := ⟨gb304, 0, none⟩) (Kd.Q_types HO_0.out BK304.out (by decide)) (fun _ hk => hk.2) (.string t307)) (fun _ hk => hk.2) (.string t312)) (fun _ hk => hk.2) (.int .i64 t317)) (fun _ hk => hk.2) (.string t327)) (fun _ hk => hk.2) (.bool t322)) (fun _ hk => trivial), by repeat (first | (with_reducible first | exact HB.out | apply bal | apply bdN | apply bdo | refine below_set ?_ GE304.out | refine below_set ?_ GE305.out | refine below_set ?_ GE306.out) | exact HB.out)⟩

/-! ### block_cells: function 32 -/
def block_cells.l0 : Nat → List Int → Int → Bool → List (S46) → Option ((List (S46)) × Bool)
 | 0, _, _, _, _ => none
 | k + 1, x0, x4, x5, x6 => if x5 = true then (if x4 > 0 then ((cell_Cut.f k x0).bind fun bt339 => (if x6.length < 2199023255552 then (block_cells.l0 k bt339.2.2.2.2.2.1 (wrap64 (x4 - 1)) bt339.2.2.2.2.2.2 (x6 ++ [(⟨bt339.1, bt339.2.1, bt339.2.2.1, bt339.2.2.2.1, bt339.2.2.2.2.1⟩ : S46)])) else (none))) else (some (x6, ((x0.length : Int) == 0)))) else (some (x6, false))
def block_cells.f (k : Nat) (l0 : List Int) : Option ((List (S46)) × Bool) := (wire_CutNum.f k l0).bind fun bt333 => (block_cells.l0 k bt333.2.1 bt333.1 bt333.2.2 ([] : List (S46)))
theorem block_cells.mono_l : ∀ k, (∀ y0 y1 y2 y3, LeO (block_cells.l0 k y0 y1 y2 y3) (block_cells.l0 (k + 1) y0 y1 y2 y3))
 | 0 => fun _ _ _ _ r h => by simp [block_cells.l0] at h
 | k + 1 => by
  have ih0 := block_cells.mono_l k
  ·
   intro y0 y1 y2 y3
   unfold block_cells.l0
   repeat' first
   | (with_reducible exact ih0 _ _ _ _)
   | (with_reducible exact cell_Cut.mono _ _)
   | (with_reducible exact wire_CutNum.mono _ _)
   | (with_reducible exact LeO.refl _)
   | (with_reducible exact LeO.none _)
   | (with_reducible refine LeO.ite ?_ ?_)
   | (with_reducible refine LeO.bind ?_ (fun _ => ?_))
   | exact ih0 _ _ _ _
   | exact cell_Cut.mono _ _
   | exact wire_CutNum.mono _ _
   | exact LeO.none _
   | refine LeO.ite ?_ ?_
   | refine LeO.bind ?_ (fun _ => ?_)
theorem block_cells.mono : ∀ a0 k, LeO (block_cells.f k a0) (block_cells.f (k + 1) a0) := by
 intro a0 k
 have ih0 := block_cells.mono_l k
 unfold block_cells.f
 repeat' first
   | (with_reducible exact ih0 _ _ _ _)
   | (with_reducible exact cell_Cut.mono _ _)
   | (with_reducible exact wire_CutNum.mono _ _)
   | (with_reducible exact LeO.refl _)
   | (with_reducible exact LeO.none _)
   | (with_reducible refine LeO.ite ?_ ?_)
   | (with_reducible refine LeO.bind ?_ (fun _ => ?_))
   | exact ih0 _ _ _ _
   | exact cell_Cut.mono _ _
   | exact wire_CutNum.mono _ _
   | exact LeO.none _
   | refine LeO.ite ?_ ?_
   | refine LeO.bind ?_ (fun _ => ?_)
set_option maxHeartbeats 8000000 in
set_option maxRecDepth 100000 in
theorem block_cells.calls (k : Nat) (A0 : Option Addr) (c0 : Nat) (l0 : List Int) (r1 : List (S46)) (r2 : Bool) (w : World) (hr0 : Kd.C (Kd.int .u8) w A0 l0.length l0) (hc0 : l0.length ≤ c0) (h : block_cells.f k l0 = some (r1, r2)) :
  Calls Try.prog 32 #[.slice A0 l0.length c0] w fun e w' => ∃ v0_ : Value, e = .returned (.tuple #[v0_, .bool r2]) ∧ Kd.R k46 46 w' w.heap.size (fun _ => True) v0_ r1 ∧ Below w.heap.size w w' := by
 have hu46 := Try.underlying46
 have HR0 := aS hr0
 have HC0 := aS hc0
 clear hr0 hc0
 have HB := aS (Below.refl w.heap.size w)
 have H : ((wire_CutNum.f k l0).bind fun bt333 => (block_cells.l0 k bt333.2.1 bt333.1 bt333.2.2 ([] : List (S46)))) = some (r1, r2) := h
 clear h
 replace H := obm H
 obtain ⟨⟨t333, t334, t335⟩, A20, H⟩ := H
 replace H : (block_cells.l0 k t334 t333 t335 ([] : List (S46))) = some (r1, r2) := H
 have A2 := aS A20
 clear A20
 have H' := aS H
 clear H
 go_enter Try.func32, Try.ntmps32
 go_wp2_with (first | ((with_reducible refine gate_callee (f := 46) rfl ?_); refine goesL_ (some 10) rfl rfl Try.func46 (by kernel_rfl) rfl #[.slice A0 l0.length c0] rfl (by (try simp only [List.map_toArray, List.map_cons, List.map_nil]); first | done | rfl | (simp only [lld, llt]; rfl)) ?_; (with_reducible refine (wire_CutNum.calls k _ _ l0 t333 t334 t335 _ ?side1 ?side2 A2.out).mono ?_); (case side1 => repeat (first | exact HR0.out | (with_reducible refine Kd.C_alloc ?_ _) | (with_reducible refine Kd.C_drewN ?_ _) | (with_reducible refine Kd.C_drew ?_))); (case side2 => exact HC0.out); rintro e w3 ⟨v336, rfl, ho0, hb⟩; refine ⟨_, rfl, ?_⟩; have n0_ := aS (Kd.R_lower ho0 (below_size (by repeat (first | (with_reducible first | exact HB.out | apply bal | apply bdN | apply bdo) | exact HB.out)))); have n1_ := aS (below_step (by repeat (first | (with_reducible first | exact HB.out | apply bal | apply bdN | apply bdo) | exact HB.out)) hb); clear HB; have HO337 := n0_; have HB := n1_; clear n0_ n1_; (try clear hb); (try clear hb2); (try clear hk); (try clear hi); (try clear ho0)))
 go_loopg [0, 4, 5, 6] k (fun kq v0 v4 v5 v6 w' => ∃ (x0_1 : List Int) (x4_1 : Int) (x5_1 : Bool) (x6_1 : List (S46)), v4 = .int .i64 x4_1 ∧ v5 = .bool x5_1 ∧ Aside0 (block_cells.l0 kq x0_1 x4_1 x5_1 x6_1 = some (r1, r2)) ∧ Aside0 (kq ≤ k) ∧ Aside0 (Kd.Q (Kd.int .u8) 5 w' w.heap.size (fun _ => True) v0 x0_1) ∧ Aside0 (Kd.R k46 46 w' w.heap.size (fun _ => True) v6 x6_1) ∧ Aside0 (Below w.heap.size w w'))
 case atStart => exact ⟨(t334), (t333), (t335), (([] : List (S46))), (by first | rfl | (simp; done) | (simp [*]; done) | (simp; exact (by decide : ∀ a_ b_ : Bool, (a_ == b_) = (!a_ != b_)) _ _)), (by first | rfl | (simp; done) | (simp [*]; done) | (simp; exact (by decide : ∀ a_ b_ : Bool, (a_ == b_) = (!a_ != b_)) _ _)), H', ⟨Nat.le_refl _⟩, ⟨Kd.Q_of_R (by (with_reducible repeat (first | apply Kd.R_alloc | apply Kd.R_drewN | apply Kd.R_drew)); exact HO337.out)⟩, ⟨by first | exact Kd.R_nil _ _ _ _ _ | exact Kd.N_nil _ _ _ _ _ | exact Kd.V_nil _ _ _ _ _ | exact Kd.Q_nil _ _ _ _ _ | exact Kd.S_nil _ _ _ _ _⟩, ⟨by repeat (first | (with_reducible first | exact HB.out | apply bal | apply bdN | apply bdo) | exact HB.out)⟩⟩
 case round =>
  clear H'; (try clear p2); (try clear c3)
  obtain ⟨x0_1, x4_1, x5_1, x6_1, rfl, rfl, HA, HK1, HO_0, HO_6, HB⟩ := hrel
  cases gk with
  | zero => exact absurd HA.out (by simp [block_cells.l0])
  | succ k1 =>
   have H := HA.out; clear HA
   simp only [block_cells.l0] at H
   by_cases c4 : x5_1 = true
   ·
    subst c4
    have H1 : (if x4_1 > 0 then ((cell_Cut.f k1 x0_1).bind fun bt339 => (if x6_1.length < 2199023255552 then (block_cells.l0 k1 bt339.2.2.2.2.2.1 (wrap64 (x4_1 - 1)) bt339.2.2.2.2.2.2 (x6_1 ++ [(⟨bt339.1, bt339.2.1, bt339.2.2.1, bt339.2.2.2.1, bt339.2.2.2.2.1⟩ : S46)])) else (none))) else (some (x6_1, ((x0_1.length : Int) == 0)))) = some (r1, r2) := by rw [if_pos rfl] at H; exact H
    clear H; have H := H1; clear H1
    by_cases c5 : x4_1 > 0
    ·
     rw [if_pos c5] at H
     have c5b0 : decide (0 < x4_1) = true := decide_eq_true c5
     clear c5
     replace H := obm H
     obtain ⟨⟨t339, t340, t341, t342, t343, t344, t347⟩, A60, H⟩ := H
     replace H : (if x6_1.length < 2199023255552 then (block_cells.l0 k1 t344 (wrap64 (x4_1 - 1)) t347 (x6_1 ++ [(⟨t339, t340, t341, t342, t343⟩ : S46)])) else (none)) = some (r1, r2) := H
     have A6 := aS A60
     clear A60
     by_cases c7 : x6_1.length < 2199023255552
     ·
      rw [if_pos c7] at H
      have LMc7 := aS c7
      clear c7
      obtain ⟨y348, hy348⟩ : ∃ y_ : List (S46), y_ = (x6_1 ++ [(⟨t339, t340, t341, t342, t343⟩ : S46)]) := ⟨_, rfl⟩
      replace H : (block_cells.l0 k1 t344 (wrap64 (x4_1 - 1)) t347 y348) = some (r1, r2) := by first | (rw [hy348]; with_reducible exact H) | (have H2_ := (Option.bind_some _ _).symm.trans H; rw [hy348]; with_reducible exact H2_) | (have H2_ := (Option.bind_some _ _).symm.trans H; with_reducible exact H2_) | with_reducible exact H | (rw [hy348]; exact H) | exact H
      have Ny348 := aS hy348
      clear hy348
      have H' := aS H
      clear H
      go_wp2_with (first | ((with_reducible refine gate_dst (N := 7) rfl ?_); (try (refine gate_guard (by rfl) ?_; dsimp only)); refine box_event ?hg (N := 7) ?hd (cs := #[.string (⟨#[]⟩ : ByteArray), .string (⟨#[]⟩ : ByteArray), .int .i64 0, .string (⟨#[]⟩ : ByteArray), .bool false]) (t := 46) ?hr ?_; (case hd => rfl); (case hg => rfl); (case hr => first | (go_simp; done) | (go_simp; rfl)); intro gb338 hg w8 hbox hb; have n0_ := aS (Kd.Q_below (by (with_reducible repeat (first | apply Kd.Q_alloc | apply Kd.Q_drewN | apply Kd.Q_drew)); exact HO_0.out) hb); have n1_ := aS (Kd.R_below (Kd.R_elderB (by (with_reducible repeat (first | apply Kd.R_alloc | apply Kd.R_drewN | apply Kd.R_drew)); exact HO_6.out) gb338 (Nat.le_of_eq hg.symm)) hb); have n2_ := aS (below_step (by repeat (first | (with_reducible first | exact HB.out | apply bal | apply bdN | apply bdo) | exact HB.out)) hb); have n3_ := aS (hbox); have n4_ := aS ((by rw [hg]; exact (below_size (by repeat (first | (with_reducible first | exact HB.out | apply bal | apply bdN | apply bdo) | exact HB.out))) : w.heap.size ≤ gb338)); have n5_ := aS ((by rw [hg]; exact (below_size (by repeat (first | (with_reducible first | exact HB.out | apply bal | apply bdN | apply bdo) | exact HB.out))) : w.heap.size ≤ gb338)); clear HO_0; clear HO_6; clear HB; have HO_0 := n0_; have HO_6 := n1_; have HB := n2_; have BK338 := n3_; have GW338 := n4_; have GE338 := n5_; clear n0_ n1_ n2_ n3_ n4_ n5_; clear hb hbox hg; obtain ⟨Ao9, co9, eo9, _⟩ := Kd.Q_slice HO_0.out; subst eo9) | ((with_reducible refine gate_callee (f := 48) rfl ?_); refine goesL_ (some 23) rfl rfl Try.func48 (by kernel_rfl) rfl #[.slice Ao9 x0_1.length co9] rfl (by (try simp only [List.map_toArray, List.map_cons, List.map_nil]); first | done | rfl | (simp only [lld, llt]; rfl)) ?_; (with_reducible refine (cell_Cut.calls k1 _ _ x0_1 t339 t340 t341 t342 t343 t344 t347 _ ?side1 ?side2 A6.out).mono ?_); (case side1 => repeat (first | exact (Kd.Q_reads' HO_0.out).2.2 | (with_reducible refine Kd.C_alloc ?_ _) | (with_reducible refine Kd.C_drewN ?_ _) | (with_reducible refine Kd.C_drew ?_))); (case side2 => exact (Kd.Q_reads' HO_0.out).2.1); rintro e w10 ⟨v345, rfl, ho0, hb⟩; refine ⟨_, rfl, ?_⟩; have n0_ := aS (Kd.Q_elder' (by (with_reducible repeat (first | apply Kd.Q_alloc | apply Kd.Q_drewN | apply Kd.Q_drew)); exact HO_0.out) (by first | exact Kd.Q_base ho0 | exact Kd.S_base ho0 | exact Kd.R_base ho0 | exact Kd.V_base ho0) hb); have n1_ := aS (Kd.R_below (by (with_reducible repeat (first | apply Kd.R_alloc | apply Kd.R_drewN | apply Kd.R_drew)); exact HO_6.out) hb); have n2_ := aS (Kd.Q_lower (Kd.Q_new' ho0 (Kd.Q_lt (by (with_reducible repeat (first | apply Kd.Q_alloc | apply Kd.Q_drewN | apply Kd.Q_drew)); exact HO_0.out))) (below_size (by repeat (first | (with_reducible first | exact HB.out | apply bal | apply bdN | apply bdo | refine below_set ?_ GE338.out) | exact HB.out)))); have n3_ := aS (blk_below (g := gb338) (o := .cells #[.string (⟨#[]⟩ : ByteArray), .string (⟨#[]⟩ : ByteArray), .int .i64 0, .string (⟨#[]⟩ : ByteArray), .bool false] 46 (0, 0)) (by (with_reducible repeat (first | refine blk_drewN ?_ _ | refine blk_drew ?_ | refine blk_alloc ?_ _)); exact BK338.out) hb); have n4_ := aS (below_step (by repeat (first | (with_reducible first | exact HB.out | apply bal | apply bdN | apply bdo | refine below_set ?_ GE338.out) | exact HB.out)) hb); clear HO_0; clear HO_6; clear BK338; clear HB; have HO_0 := n0_; have HO_6 := n1_; have HO346 := n2_; have BK338 := n3_; have HB := n4_; clear n0_ n1_ n2_ n3_ n4_; (try clear hb); (try clear hb2); (try clear hk); (try clear hi); (try clear ho0); have hcz11_0 : w10.cell? ⟨gb338, 0, none⟩ = some (.string (⟨#[]⟩ : ByteArray)) := (blk_cell BK338.out 0).trans rfl; have hcz11_1 : w10.cell? ⟨gb338, 1, none⟩ = some (.string (⟨#[]⟩ : ByteArray)) := (blk_cell BK338.out 1).trans rfl; have hcz11_2 : w10.cell? ⟨gb338, 2, none⟩ = some (.int .i64 0) := (blk_cell BK338.out 2).trans rfl; have hcz11_3 : w10.cell? ⟨gb338, 3, none⟩ = some (.string (⟨#[]⟩ : ByteArray)) := (blk_cell BK338.out 3).trans rfl; have hcz11_4 : w10.cell? ⟨gb338, 4, none⟩ = some (.bool false) := (blk_cell BK338.out 4).trans rfl; have hfz11_0 := blk_frozen BK338.out 0; have hfz11_1 := blk_frozen BK338.out 1; have hfz11_2 := blk_frozen BK338.out 2; have hfz11_3 := blk_frozen BK338.out 3; have hfz11_4 := blk_frozen BK338.out 4) | ((with_reducible refine gate_builtin (b := .append) (xs := #[.tmp 27, .tmp 29]) rfl ?_); (try (refine gate_guard (by rfl) ?_; dsimp only)); at_builtin; refine Kd.R_append k46 (w0 := w) w.heap.size rfl (.tmp 27) (.tmp 29) 22 46 (.agg #[(.string ⟨#[]⟩), (.string ⟨#[]⟩), (.int .i64 0), (.string ⟨#[]⟩), (.bool false)]) 64 rfl Try.underlying22 info46 rfl (by decide) (by omega) u6 x6_1 (⟨t339, t340, t341, t342, t343⟩ : S46) [.string t339, .string t340, .int .i64 t341, .string t342, .bool t343] (fun k_ => k_ ≠ gb338) (fun _ => False) rfl (by first | (go_simp; done) | (go_simp; rfl)) ?aP (fun _ hk => hk.elim) ?aF ?aO ?aB ?aS ?aL ?_; (case aP => exact k46_mkM _ _ _ (⟨t339, t340, t341, t342, t343⟩ : S46)); (case aB => exact (by repeat (first | (with_reducible first | exact HB.out | apply bal | apply bdN | apply bdo | refine below_set ?_ GE338.out) | exact HB.out))); (case aF => exact (fun k_ hk => Kd.freshB (g := gb338) (o := .cells #[.string t339, .string t340, .int .i64 t341, .string t342, .bool t343] 46 (0, 0)) (by (with_reducible repeat (first | refine blk_drewN ?_ _ | refine blk_drew ?_ | refine blk_alloc ?_ _)); refine blk_put (cs := #[.string t339, .string t340, .int .i64 t341, .string t342, .bool false]) ?_ 4 _ rfl; (with_reducible repeat (first | refine blk_drewN ?_ _ | refine blk_drew ?_ | refine blk_alloc ?_ _)); refine blk_put (cs := #[.string t339, .string t340, .int .i64 t341, .string (⟨#[]⟩ : ByteArray), .bool false]) ?_ 3 _ rfl; (with_reducible repeat (first | refine blk_drewN ?_ _ | refine blk_drew ?_ | refine blk_alloc ?_ _)); refine blk_put (cs := #[.string t339, .string t340, .int .i64 0, .string (⟨#[]⟩ : ByteArray), .bool false]) ?_ 2 _ rfl; (with_reducible repeat (first | refine blk_drewN ?_ _ | refine blk_drew ?_ | refine blk_alloc ?_ _)); refine blk_put (cs := #[.string t339, .string (⟨#[]⟩ : ByteArray), .int .i64 0, .string (⟨#[]⟩ : ByteArray), .bool false]) ?_ 1 _ rfl; (with_reducible repeat (first | refine blk_drewN ?_ _ | refine blk_drew ?_ | refine blk_alloc ?_ _)); refine blk_put (cs := #[.string (⟨#[]⟩ : ByteArray), .string (⟨#[]⟩ : ByteArray), .int .i64 0, .string (⟨#[]⟩ : ByteArray), .bool false]) ?_ 0 _ rfl; (with_reducible repeat (first | refine blk_drewN ?_ _ | refine blk_drew ?_ | refine blk_alloc ?_ _)); exact BK338.out) k_ hk)); (case aO => exact (by (with_reducible repeat (first | apply Kd.R_alloc | apply Kd.R_drewN | apply Kd.R_drew)); exact Kd.R_mono (Kd.R_far (p := ⟨gb338, 4, none⟩) (Kd.R_far (p := ⟨gb338, 3, none⟩) (Kd.R_far (p := ⟨gb338, 2, none⟩) (Kd.R_far (p := ⟨gb338, 1, none⟩) (Kd.R_far (p := ⟨gb338, 0, none⟩) (Kd.R_mono HO_6.out (fun k_ hk => (⟨hk, hk.2⟩ : _ ∧ k_ ≠ gb338))) (fun _ hk => hk.2) (.string t339)) (fun _ hk => hk.2) (.string t340)) (fun _ hk => hk.2) (.int .i64 t341)) (fun _ hk => hk.2) (.string t342)) (fun _ hk => hk.2) (.bool t343)) (fun _ hk => hk.1.2))); (case aS => exact (below_size (by repeat (first | (with_reducible first | exact HB.out | apply bal | apply bdN | apply bdo | refine below_set ?_ GE338.out) | exact HB.out)))); (case aL => have := LMc7.out; omega); intro v349 w12 ho hb hg hat; rw [← Ny348.out] at ho; have n0_ := aS (Kd.Q_over' (by (with_reducible repeat (first | apply Kd.Q_alloc | apply Kd.Q_drewN | apply Kd.Q_drew)); exact (Kd.Q_mono (Kd.Q_far (p := ⟨gb338, 4, none⟩) (Kd.Q_far (p := ⟨gb338, 3, none⟩) (Kd.Q_far (p := ⟨gb338, 2, none⟩) (Kd.Q_far (p := ⟨gb338, 1, none⟩) (Kd.Q_far (p := ⟨gb338, 0, none⟩) (Kd.Q_types HO_0.out BK338.out (by decide)) (fun _ hk => hk.2) (.string t339)) (fun _ hk => hk.2) (.string t340)) (fun _ hk => hk.2) (.int .i64 t341)) (fun _ hk => hk.2) (.string t342)) (fun _ hk => hk.2) (.bool t343)) (fun _ h_ => h_.1))) (Kd.R_typed (by (with_reducible repeat (first | apply Kd.R_alloc | apply Kd.R_drewN | apply Kd.R_drew)); exact (Kd.R_mono (Kd.R_far (p := ⟨gb338, 4, none⟩) (Kd.R_far (p := ⟨gb338, 3, none⟩) (Kd.R_far (p := ⟨gb338, 2, none⟩) (Kd.R_far (p := ⟨gb338, 1, none⟩) (Kd.R_far (p := ⟨gb338, 0, none⟩) (Kd.R_mono HO_6.out (fun k_ hk => (⟨hk, hk.2⟩ : _ ∧ k_ ≠ gb338))) (fun _ hk => hk.2) (.string t339)) (fun _ hk => hk.2) (.string t340)) (fun _ hk => hk.2) (.int .i64 t341)) (fun _ hk => hk.2) (.string t342)) (fun _ hk => hk.2) (.bool t343)) (fun _ h_ => h_.1)))) (by decide) hg); have n1_ := aS (blk_grown (g := gb338) (o := .cells #[.string t339, .string t340, .int .i64 t341, .string t342, .bool t343] 46 (0, 0)) (by (with_reducible repeat (first | refine blk_drewN ?_ _ | refine blk_drew ?_ | refine blk_alloc ?_ _)); refine blk_put (cs := #[.string t339, .string t340, .int .i64 t341, .string t342, .bool false]) ?_ 4 _ rfl; (with_reducible repeat (first | refine blk_drewN ?_ _ | refine blk_drew ?_ | refine blk_alloc ?_ _)); refine blk_put (cs := #[.string t339, .string t340, .int .i64 t341, .string (⟨#[]⟩ : ByteArray), .bool false]) ?_ 3 _ rfl; (with_reducible repeat (first | refine blk_drewN ?_ _ | refine blk_drew ?_ | refine blk_alloc ?_ _)); refine blk_put (cs := #[.string t339, .string t340, .int .i64 0, .string (⟨#[]⟩ : ByteArray), .bool false]) ?_ 2 _ rfl; (with_reducible repeat (first | refine blk_drewN ?_ _ | refine blk_drew ?_ | refine blk_alloc ?_ _)); refine blk_put (cs := #[.string t339, .string (⟨#[]⟩ : ByteArray), .int .i64 0, .string (⟨#[]⟩ : ByteArray), .bool false]) ?_ 1 _ rfl; (with_reducible repeat (first | refine blk_drewN ?_ _ | refine blk_drew ?_ | refine blk_alloc ?_ _)); refine blk_put (cs := #[.string (⟨#[]⟩ : ByteArray), .string (⟨#[]⟩ : ByteArray), .int .i64 0, .string (⟨#[]⟩ : ByteArray), .bool false]) ?_ 0 _ rfl; (with_reducible repeat (first | refine blk_drewN ?_ _ | refine blk_drew ?_ | refine blk_alloc ?_ _)); exact BK338.out) hg (Kd.R_away HO_6.out (fun _ hk => hk.2))); have n2_ := aS (Kd.Q_over' (by (with_reducible repeat (first | apply Kd.Q_alloc | apply Kd.Q_drewN | apply Kd.Q_drew)); exact (Kd.Q_mono (Kd.Q_far (p := ⟨gb338, 4, none⟩) (Kd.Q_far (p := ⟨gb338, 3, none⟩) (Kd.Q_far (p := ⟨gb338, 2, none⟩) (Kd.Q_far (p := ⟨gb338, 1, none⟩) (Kd.Q_far (p := ⟨gb338, 0, none⟩) (Kd.Q_types HO346.out BK338.out (by decide)) (fun _ hk => hk.2) (.string t339)) (fun _ hk => hk.2) (.string t340)) (fun _ hk => hk.2) (.int .i64 t341)) (fun _ hk => hk.2) (.string t342)) (fun _ hk => hk.2) (.bool t343)) (fun _ h_ => h_.1))) (Kd.R_typed (by (with_reducible repeat (first | apply Kd.R_alloc | apply Kd.R_drewN | apply Kd.R_drew)); exact (Kd.R_mono (Kd.R_far (p := ⟨gb338, 4, none⟩) (Kd.R_far (p := ⟨gb338, 3, none⟩) (Kd.R_far (p := ⟨gb338, 2, none⟩) (Kd.R_far (p := ⟨gb338, 1, none⟩) (Kd.R_far (p := ⟨gb338, 0, none⟩) (Kd.R_mono HO_6.out (fun k_ hk => (⟨hk, hk.2⟩ : _ ∧ k_ ≠ gb338))) (fun _ hk => hk.2) (.string t339)) (fun _ hk => hk.2) (.string t340)) (fun _ hk => hk.2) (.int .i64 t341)) (fun _ hk => hk.2) (.string t342)) (fun _ hk => hk.2) (.bool t343)) (fun _ h_ => h_.1)))) (by decide) hg); have n3_ := aS (hb); have n4_ := aS (ho); clear HO_0; clear BK338; clear HO346; clear HB; clear HO_6; have HO_0 := n0_; have BK338 := n1_; have HO346 := n2_; have HB := n3_; have HO350 := n4_; clear n0_ n1_ n2_ n3_ n4_; clear ho hb hg hat))
      go_roundg k1
      case measure => have := HK1.out; omega
      case rel => exact ⟨(t344), (wrap64 (x4_1 - 1)), (t347), (y348), (by first | rfl | (simp; done) | (simp [*]; done) | (simp; exact (by decide : ∀ a_ b_ : Bool, (a_ == b_) = (!a_ != b_)) _ _)), (by first | rfl | (simp; done) | (simp [*]; done) | (simp; exact (by decide : ∀ a_ b_ : Bool, (a_ == b_) = (!a_ != b_)) _ _)), H', ⟨by have := HK1.out; omega⟩, ⟨by (with_reducible repeat (first | apply Kd.Q_alloc | apply Kd.Q_drewN | apply Kd.Q_drew)); exact Kd.Q_mono HO346.out (fun _ hk => trivial)⟩, ⟨by (with_reducible repeat (first | apply Kd.R_alloc | apply Kd.R_drewN | apply Kd.R_drew)); exact Kd.R_mono HO350.out (fun _ hk => trivial)⟩, ⟨by repeat (first | (with_reducible first | exact HB.out | apply bal | apply bdN | apply bdo | refine below_set ?_ GE338.out) | exact HB.out)⟩⟩
     ·
      rw [if_neg c7] at H
      exact absurd H (by simp)
    ·
     rw [if_neg c5] at H
     have c5b0 : decide (0 < x4_1) = false := decide_eq_false c5
     clear c5
     simp only [Option.some.injEq, Prod.mk.injEq] at H
     obtain ⟨rfl, rfl⟩ := H
     obtain ⟨Ao13, co13, eo13, _⟩ := Kd.Q_slice HO_0.out
     subst eo13
     go_wp2
     go_ret2
     exact ⟨_, by first | rfl | (simp [errW_none, errW_some] <;> rfl) | (simp [*, errW_none, errW_some] <;> rfl), by (with_reducible repeat (first | apply Kd.R_alloc | apply Kd.R_drewN | apply Kd.R_drew)); exact HO_6.out, by repeat (first | (with_reducible first | exact HB.out | apply bal | apply bdN | apply bdo) | exact HB.out)⟩
   ·
    replace c4 := Bool.eq_false_iff.mpr c4
    subst c4
    have H1 : (some (x6_1, false)) = some (r1, r2) := by rw [if_neg (show ¬ (false = true) by decide)] at H; exact H
    clear H; have H := H1; clear H1
    simp only [Option.some.injEq, Prod.mk.injEq] at H
    obtain ⟨rfl, rfl⟩ := H
    go_wp2
    go_ret2
    exact ⟨_, by first | rfl | (simp [errW_none, errW_some] <;> rfl) | (simp [*, errW_none, errW_some] <;> rfl), by (with_reducible repeat (first | apply Kd.R_alloc | apply Kd.R_drewN | apply Kd.R_drew)); exact HO_6.out, by repeat (first | (with_reducible first | exact HB.out | apply bal | apply bdN | apply bdo) | exact HB.out)⟩

/-! ### block_Get: function 18 -/
def block_Get.j0 : Nat → List Int → List (S46) → Bool → Option ((List (S46)) × List Int × Int)
 | 0, _, _, _ => none
 | k + 1, x6, x8, x33 => if x33 = true then (some (([] : List (S46)), ([] : List Int), 2)) else ((slices_Clone_byte_byte.f x6).bind fun t363 => (some (x8, t363, 0)))
def block_Get.f (k : Nat) (l0 : List Int) : Option ((List (S46)) × List Int × Int) := (frame_Cut.f k l0).bind fun bt351 => (if bt351.2.2 = true then ((block_cells.f k bt351.1).bind fun bt358 => (if bt358.2 = true then (if (bt358.1.length : Int) = 0 then (block_Get.j0 k bt351.2.1 bt358.1 true) else ((cell_Sorted.f k bt358.1).bind fun t362 => (block_Get.j0 k bt351.2.1 bt358.1 (!t362)))) else (block_Get.j0 k bt351.2.1 bt358.1 true))) else (some (([] : List (S46)), ([] : List Int), 2)))
theorem block_Get.mono_l : ∀ k, (∀ y0 y1 y2, LeO (block_Get.j0 k y0 y1 y2) (block_Get.j0 (k + 1) y0 y1 y2))
 | 0 => fun _ _ _ r h => by simp [block_Get.j0] at h
 | k + 1 => by
  have ih0 := block_Get.mono_l k
  ·
   intro y0 y1 y2
   unfold block_Get.j0
   repeat' first
   | (with_reducible exact ih0 _ _ _)
   | (with_reducible exact block_cells.mono _ _)
   | (with_reducible exact cell_Sorted.mono _ _)
   | (with_reducible exact frame_Cut.mono _ _)
   | (with_reducible exact LeO.refl _)
   | (with_reducible exact LeO.none _)
   | (with_reducible refine LeO.ite ?_ ?_)
   | (with_reducible refine LeO.bind ?_ (fun _ => ?_))
   | exact ih0 _ _ _
   | exact block_cells.mono _ _
   | exact cell_Sorted.mono _ _
   | exact frame_Cut.mono _ _
   | exact LeO.none _
   | refine LeO.ite ?_ ?_
   | refine LeO.bind ?_ (fun _ => ?_)
theorem block_Get.mono : ∀ a0 k, LeO (block_Get.f k a0) (block_Get.f (k + 1) a0) := by
 intro a0 k
 have ih0 := block_Get.mono_l k
 unfold block_Get.f
 repeat' first
   | (with_reducible exact ih0 _ _ _)
   | (with_reducible exact block_cells.mono _ _)
   | (with_reducible exact cell_Sorted.mono _ _)
   | (with_reducible exact frame_Cut.mono _ _)
   | (with_reducible exact LeO.refl _)
   | (with_reducible exact LeO.none _)
   | (with_reducible refine LeO.ite ?_ ?_)
   | (with_reducible refine LeO.bind ?_ (fun _ => ?_))
   | exact ih0 _ _ _
   | exact block_cells.mono _ _
   | exact cell_Sorted.mono _ _
   | exact frame_Cut.mono _ _
   | exact LeO.none _
   | refine LeO.ite ?_ ?_
   | refine LeO.bind ?_ (fun _ => ?_)
set_option maxHeartbeats 8000000 in
set_option maxRecDepth 100000 in
theorem block_Get.calls (k : Nat) (A0 : Option Addr) (c0 : Nat) (l0 : List Int) (r1 : List (S46)) (r2 : List Int) (r3 : Int) (w : World) (hr0 : Kd.C (Kd.int .u8) w A0 l0.length l0) (hc0 : l0.length ≤ c0) (h : block_Get.f k l0 = some (r1, r2, r3)) :
  Calls Try.prog 18 #[.slice A0 l0.length c0] w fun e w' => ∃ v0_ v1_ : Value, e = .returned (.tuple #[v0_, v1_, .int .i64 r3]) ∧ Kd.R k46 46 w' w.heap.size (fun _ => True) v0_ r1 ∧ Kd.R (Kd.int .u8) 5 w' w.heap.size (fun _ => True) v1_ r2 ∧ Below w.heap.size w w' := by
 have HR0 := aS hr0
 have HC0 := aS hc0
 clear hr0 hc0
 have HB := aS (Below.refl w.heap.size w)
 have H : ((frame_Cut.f k l0).bind fun bt351 => (if bt351.2.2 = true then ((block_cells.f k bt351.1).bind fun bt358 => (if bt358.2 = true then (if (bt358.1.length : Int) = 0 then (block_Get.j0 k bt351.2.1 bt358.1 true) else ((cell_Sorted.f k bt358.1).bind fun t362 => (block_Get.j0 k bt351.2.1 bt358.1 (!t362)))) else (block_Get.j0 k bt351.2.1 bt358.1 true))) else (some (([] : List (S46)), ([] : List Int), 2)))) = some (r1, r2, r3) := h
 clear h
 replace H := obm H
 obtain ⟨⟨t351, t354, t357⟩, A20, H⟩ := H
 replace H : (if t357 = true then ((block_cells.f k t351).bind fun bt358 => (if bt358.2 = true then (if (bt358.1.length : Int) = 0 then (block_Get.j0 k t354 bt358.1 true) else ((cell_Sorted.f k bt358.1).bind fun t362 => (block_Get.j0 k t354 bt358.1 (!t362)))) else (block_Get.j0 k t354 bt358.1 true))) else (some (([] : List (S46)), ([] : List Int), 2))) = some (r1, r2, r3) := H
 have A2 := aS A20
 clear A20
 by_cases c3 : t357 = true
 ·
  subst c3
  have H1 : ((block_cells.f k t351).bind fun bt358 => (if bt358.2 = true then (if (bt358.1.length : Int) = 0 then (block_Get.j0 k t354 bt358.1 true) else ((cell_Sorted.f k bt358.1).bind fun t362 => (block_Get.j0 k t354 bt358.1 (!t362)))) else (block_Get.j0 k t354 bt358.1 true))) = some (r1, r2, r3) := by rw [if_pos rfl] at H; exact H
  clear H; have H := H1; clear H1
  replace H := obm H
  obtain ⟨⟨t358, t359⟩, A40, H⟩ := H
  replace H : (if t359 = true then (if (t358.length : Int) = 0 then (block_Get.j0 k t354 t358 true) else ((cell_Sorted.f k t358).bind fun t362 => (block_Get.j0 k t354 t358 (!t362)))) else (block_Get.j0 k t354 t358 true)) = some (r1, r2, r3) := H
  have A4 := aS A40
  clear A40
  have HC5 := aS H
  clear H
  go_enter Try.func18, Try.ntmps18
  go_upto_region 5 with (first | ((with_reducible refine gate_callee (f := 31) rfl ?_); refine goesL_ (some 11) rfl rfl Try.func31 (by kernel_rfl) rfl #[.slice A0 l0.length c0] rfl (by (try simp only [List.map_toArray, List.map_cons, List.map_nil]); first | done | rfl | (simp only [lld, llt]; rfl)) ?_; (with_reducible refine (frame_Cut.calls k (fun k_ => k_ < w.heap.size) _ _ l0 t351 t354 true _ ?side1 A2.out).mono ?_); (case side1 => exact Kd.V_mk HC0.out (Kd.F_below (Kd.C_F (Kd.heap_int .u8) HR0.out) (by repeat (first | (with_reducible first | exact HB.out | apply bal | apply bdN | apply bdo) | exact HB.out)))); rintro e w6 ⟨v352, v355, rfl, ho0, ho1, hb⟩; refine ⟨_, rfl, ?_⟩; have n0_ := aS (Kd.V_lower (Kd.V_mono (ok' := fun k_ => True) ho0 (fun k_ hk_ => trivial)) (below_size (by repeat (first | (with_reducible first | exact HB.out | apply bal | apply bdN | apply bdo) | exact HB.out)))); have n1_ := aS (Kd.V_lower (Kd.V_mono (ok' := fun k_ => True) ho1 (fun k_ hk_ => trivial)) (below_size (by repeat (first | (with_reducible first | exact HB.out | apply bal | apply bdN | apply bdo) | exact HB.out)))); have n2_ := aS (below_step (by repeat (first | (with_reducible first | exact HB.out | apply bal | apply bdN | apply bdo) | exact HB.out)) hb); clear HB; have HO353 := n0_; have HO356 := n1_; have HB := n2_; clear n0_ n1_ n2_; (try clear hb); (try clear hb2); (try clear hk); (try clear hi); (try clear ho0); (try clear ho1); obtain ⟨Ao7, co7, eo7⟩ := Kd.V_slice HO353.out; subst eo7) | ((with_reducible refine gate_callee (f := 32) rfl ?_); refine goesL_ (some 19) rfl rfl Try.func32 (by kernel_rfl) rfl #[.slice Ao7 t351.length co7] rfl (by (try simp only [List.map_toArray, List.map_cons, List.map_nil]); first | done | rfl | (simp only [lld, llt]; rfl)) ?_; (with_reducible refine (block_cells.calls k _ _ t351 t358 t359 _ ?side1 ?side2 A4.out).mono ?_); (case side1 => repeat (first | exact (Kd.V_reads' HO353.out).2.2 | (with_reducible refine Kd.C_alloc ?_ _) | (with_reducible refine Kd.C_drewN ?_ _) | (with_reducible refine Kd.C_drew ?_))); (case side2 => exact (Kd.V_reads' HO353.out).2.1); rintro e w8 ⟨v360, rfl, ho0, hb⟩; refine ⟨_, rfl, ?_⟩; have n0_ := aS (Kd.V_elder' (by (with_reducible repeat (first | apply Kd.V_alloc | apply Kd.V_drewN | apply Kd.V_drew)); exact HO353.out) (by first | exact Kd.R_base ho0 | exact Kd.S_base ho0 | exact Kd.R_base ho0 | exact Kd.V_base ho0) hb); have n1_ := aS (Kd.V_elder' (by (with_reducible repeat (first | apply Kd.V_alloc | apply Kd.V_drewN | apply Kd.V_drew)); exact HO356.out) (by first | exact Kd.R_base ho0 | exact Kd.S_base ho0 | exact Kd.R_base ho0 | exact Kd.V_base ho0) hb); have n2_ := aS (Kd.R_lower ho0 (below_size (by repeat (first | (with_reducible first | exact HB.out | apply bal | apply bdN | apply bdo) | exact HB.out)))); have n3_ := aS (below_step (by repeat (first | (with_reducible first | exact HB.out | apply bal | apply bdN | apply bdo) | exact HB.out)) hb); clear HO353; clear HO356; clear HB; have HO353 := n0_; have HO356 := n1_; have HO361 := n2_; have HB := n3_; clear n0_ n1_ n2_ n3_; (try clear hb); (try clear hb2); (try clear hk); (try clear hi); (try clear ho0)))
  (try simp only [Act.put, lsa, lsz, lss])
  go_cut [33] (fun v33 wc => ∃ (kq : Nat) (x33_4 : Bool), v33 = .bool x33_4 ∧ Aside0 (block_Get.j0 kq t354 t358 x33_4 = some (r1, r2, r3)) ∧ Aside0 (kq ≤ k) ∧ Aside0 (Kd.V (Kd.int .u8) 5 wc w.heap.size (fun k_ => some k_ ≠ (v360 : Value).ownBlock) v355 t354) ∧ Aside0 (Kd.R k46 46 wc w.heap.size (fun _ => True) v360 t358) ∧ Aside0 (Below w.heap.size w wc))
  case first =>
   have H := HC5.out; clear HC5
   by_cases c9 : t359 = true
   ·
    subst c9
    have H1 : (if (t358.length : Int) = 0 then (block_Get.j0 k t354 t358 true) else ((cell_Sorted.f k t358).bind fun t362 => (block_Get.j0 k t354 t358 (!t362)))) = some (r1, r2, r3) := by rw [if_pos rfl] at H; exact H
    clear H; have H := H1; clear H1
    by_cases c10 : (t358.length : Int) = 0
    ·
     rw [if_pos c10] at H
     have c10b0 : ((t358.length : Int) == 0) = true := beq_iff_eq.mpr c10
     have c10b1 : ((t358.length : Int) != 0) = false := bne_eq_false_iff_eq.mpr c10
     clear c10
     (first | rw [c10b0] | (simp only [i64_w, i32_w]; rw [c10b0]) | skip)
     have H' := aS H
     clear H
     obtain ⟨Ao11, co11, eo11⟩ := Kd.R_slice HO361.out
     subst eo11
     go_wp2
     go_meet
     case rel => exact ⟨_, (true), (by first | rfl | (simp; done) | (simp [*]; done) | (simp; exact (by decide : ∀ a_ b_ : Bool, (a_ == b_) = (!a_ != b_)) _ _)), H', ⟨by first | omega | exact Nat.le_refl _⟩, ⟨by (with_reducible repeat (first | apply Kd.V_alloc | apply Kd.V_drewN | apply Kd.V_drew)); exact Kd.V_mono HO356.out (fun _ hk => hk.2)⟩, ⟨by (with_reducible repeat (first | apply Kd.R_alloc | apply Kd.R_drewN | apply Kd.R_drew)); exact HO361.out⟩, ⟨by repeat (first | (with_reducible first | exact HB.out | apply bal | apply bdN | apply bdo) | exact HB.out)⟩⟩
    ·
     rw [if_neg c10] at H
     have c10b0 : ((t358.length : Int) == 0) = false := beq_eq_false_iff_ne.mpr c10
     have c10b1 : ((t358.length : Int) != 0) = true := bne_iff_ne.mpr c10
     have c10b2 : ¬ (t358 = []) := fun h_ => c10 (by rw [h_]; rfl)
     (first | rw [c10b0] | (simp only [i64_w, i32_w]; rw [c10b0]) | skip)
     replace H := obm H
     obtain ⟨t362, A120, H⟩ := H
     replace H : (block_Get.j0 k t354 t358 (!t362)) = some (r1, r2, r3) := H
     have A12 := aS A120
     clear A120
     have H' := aS H
     clear H
     obtain ⟨Ao13, co13, eo13⟩ := Kd.R_slice HO361.out
     subst eo13
     go_wp2_with (first | (go_at_call 23; (with_reducible refine (cell_Sorted.calls k _ _ t358 t362 _ ?side1 ?side2 A12.out).mono ?_); (case side1 => repeat (first | exact (Kd.R_reads' HO361.out).2.2 | (with_reducible refine Kd.C_alloc ?_ _) | (with_reducible refine Kd.C_drewN ?_ _) | (with_reducible refine Kd.C_drew ?_))); (case side2 => exact (Kd.R_reads' HO361.out).2.1); rintro e w14 ⟨rfl, hb⟩; have n0_ := aS (Kd.V_below (by (with_reducible repeat (first | apply Kd.V_alloc | apply Kd.V_drewN | apply Kd.V_drew)); exact HO353.out) hb); have n1_ := aS (Kd.V_below (by (with_reducible repeat (first | apply Kd.V_alloc | apply Kd.V_drewN | apply Kd.V_drew)); exact HO356.out) hb); have n2_ := aS (Kd.R_below (by (with_reducible repeat (first | apply Kd.R_alloc | apply Kd.R_drewN | apply Kd.R_drew)); exact HO361.out) hb); have n3_ := aS (below_step (by repeat (first | (with_reducible first | exact HB.out | apply bal | apply bdN | apply bdo) | exact HB.out)) hb); clear HO353; clear HO356; clear HO361; clear HB; have HO353 := n0_; have HO356 := n1_; have HO361 := n2_; have HB := n3_; clear n0_ n1_ n2_ n3_; (try clear hb); (try clear hb2); (try clear hk); (try clear hi)))
     go_meet
     case rel => exact ⟨_, (!t362), (by first | rfl | (simp; done) | (simp [*]; done) | (simp; exact (by decide : ∀ a_ b_ : Bool, (a_ == b_) = (!a_ != b_)) _ _)), H', ⟨by first | omega | exact Nat.le_refl _⟩, ⟨by (with_reducible repeat (first | apply Kd.V_alloc | apply Kd.V_drewN | apply Kd.V_drew)); exact Kd.V_mono HO356.out (fun _ hk => hk.2)⟩, ⟨by (with_reducible repeat (first | apply Kd.R_alloc | apply Kd.R_drewN | apply Kd.R_drew)); exact HO361.out⟩, ⟨by repeat (first | (with_reducible first | exact HB.out | apply bal | apply bdN | apply bdo) | exact HB.out)⟩⟩
   ·
    replace c9 := Bool.eq_false_iff.mpr c9
    subst c9
    have H1 : (block_Get.j0 k t354 t358 true) = some (r1, r2, r3) := by rw [if_neg (show ¬ (false = true) by decide)] at H; exact H
    clear H; have H := H1; clear H1
    have H' := aS H
    clear H
    go_wp2
    go_meet
    case rel => exact ⟨_, (true), (by first | rfl | (simp; done) | (simp [*]; done) | (simp; exact (by decide : ∀ a_ b_ : Bool, (a_ == b_) = (!a_ != b_)) _ _)), H', ⟨by first | omega | exact Nat.le_refl _⟩, ⟨by (with_reducible repeat (first | apply Kd.V_alloc | apply Kd.V_drewN | apply Kd.V_drew)); exact Kd.V_mono HO356.out (fun _ hk => hk.2)⟩, ⟨by (with_reducible repeat (first | apply Kd.R_alloc | apply Kd.R_drewN | apply Kd.R_drew)); exact HO361.out⟩, ⟨by repeat (first | (with_reducible first | exact HB.out | apply bal | apply bdN | apply bdo) | exact HB.out)⟩⟩
  case rest =>
   clear HC5; (try clear c1); (try clear p2); (try clear c3); (try clear c9); (try clear c10); (try clear c10b0); (try clear c10b1); (try clear c10b2)
   obtain ⟨kq, x33_4, rfl, HA, HJ4, HO_6, HO_8, HB⟩ := hcut
   cases kq with
   | zero => exact absurd HA.out (by simp [block_Get.j0])
   | succ kj4 =>
    have H := HA.out; clear HA
    simp only [block_Get.j0] at H
    by_cases c15 : x33_4 = true
    ·
     subst c15
     have H1 : (some (([] : List (S46)), ([] : List Int), 2)) = some (r1, r2, r3) := by rw [if_pos rfl] at H; exact H
     clear H; have H := H1; clear H1
     simp only [Option.some.injEq, Prod.mk.injEq] at H
     obtain ⟨rfl, rfl, rfl⟩ := H
     go_wp2
     go_ret3
     exact ⟨_, _, by first | rfl | (simp [errW_none, errW_some] <;> rfl) | (simp [*, errW_none, errW_some] <;> rfl), by first | exact Kd.R_nil _ _ _ _ _ | exact Kd.N_nil _ _ _ _ _ | exact Kd.V_nil _ _ _ _ _ | exact Kd.Q_nil _ _ _ _ _ | exact Kd.S_nil _ _ _ _ _, by first | exact Kd.R_nil _ _ _ _ _ | exact Kd.N_nil _ _ _ _ _ | exact Kd.V_nil _ _ _ _ _ | exact Kd.Q_nil _ _ _ _ _ | exact Kd.S_nil _ _ _ _ _, by repeat (first | (with_reducible first | exact HB.out | apply bal | apply bdN | apply bdo) | exact HB.out)⟩
    ·
     replace c15 := Bool.eq_false_iff.mpr c15
     subst c15
     have H1 : ((slices_Clone_byte_byte.f t354).bind fun t363 => (some (t358, t363, 0))) = some (r1, r2, r3) := by rw [if_neg (show ¬ (false = true) by decide)] at H; exact H
     clear H; have H := H1; clear H1
     replace H := obm H
     obtain ⟨t363, A160, H⟩ := H
     replace H : (some (t358, t363, 0)) = some (r1, r2, r3) := H
     have A16 := aS A160
     clear A160
     simp only [Option.some.injEq, Prod.mk.injEq] at H
     obtain ⟨rfl, rfl, rfl⟩ := H
     obtain ⟨Ao17, co17, eo17⟩ := Kd.V_slice HO_6.out
     subst eo17
     go_wp2_with (first | ((with_reducible refine gate_callee (f := 33) rfl ?_); refine goesL_ (some 36) rfl rfl Try.func33 (by kernel_rfl) rfl #[.slice Ao17 t354.length co17] rfl (by (try simp only [List.map_toArray, List.map_cons, List.map_nil]); first | done | rfl | (simp only [lld, llt]; rfl)) ?_; (with_reducible refine (slices_Clone_byte_byte.calls _ _ t354 t363 _ ?side1 ?side2 A16.out).mono ?_); (case side1 => repeat (first | exact (Kd.V_reads' HO_6.out).2.2 | (with_reducible refine Kd.C_alloc ?_ _) | (with_reducible refine Kd.C_drewN ?_ _) | (with_reducible refine Kd.C_drew ?_))); (case side2 => exact (Kd.V_reads' HO_6.out).2.1); rintro e w18 ⟨v364, rfl, ho0, hb⟩; refine ⟨_, rfl, ?_⟩; have n0_ := aS (Kd.V_elder' (by (with_reducible repeat (first | apply Kd.V_alloc | apply Kd.V_drewN | apply Kd.V_drew)); exact HO_6.out) (by first | exact Kd.R_base ho0 | exact Kd.S_base ho0 | exact Kd.R_base ho0 | exact Kd.V_base ho0) hb); have n1_ := aS (Kd.R_below (by (with_reducible repeat (first | apply Kd.R_alloc | apply Kd.R_drewN | apply Kd.R_drew)); exact HO_8.out) hb); have n2_ := aS (Kd.R_lower ho0 (below_size (by repeat (first | (with_reducible first | exact HB.out | apply bal | apply bdN | apply bdo) | exact HB.out)))); have n3_ := aS (below_step (by repeat (first | (with_reducible first | exact HB.out | apply bal | apply bdN | apply bdo) | exact HB.out)) hb); clear HO_6; clear HO_8; clear HB; have HO_6 := n0_; have HO_8 := n1_; have HO365 := n2_; have HB := n3_; clear n0_ n1_ n2_ n3_; (try clear hb); (try clear hb2); (try clear hk); (try clear hi); (try clear ho0)))
     go_ret3
     exact ⟨_, _, by first | rfl | (simp [errW_none, errW_some] <;> rfl) | (simp [*, errW_none, errW_some] <;> rfl), by (with_reducible repeat (first | apply Kd.R_alloc | apply Kd.R_drewN | apply Kd.R_drew)); exact HO_8.out, by (with_reducible repeat (first | apply Kd.R_alloc | apply Kd.R_drewN | apply Kd.R_drew)); exact HO365.out, by repeat (first | (with_reducible first | exact HB.out | apply bal | apply bdN | apply bdo) | exact HB.out)⟩
 ·
  replace c3 := Bool.eq_false_iff.mpr c3
  subst c3
  have H1 : (some (([] : List (S46)), ([] : List Int), 2)) = some (r1, r2, r3) := by rw [if_neg (show ¬ (false = true) by decide)] at H; exact H
  clear H; have H := H1; clear H1
  simp only [Option.some.injEq, Prod.mk.injEq] at H
  obtain ⟨rfl, rfl, rfl⟩ := H
  go_enter Try.func18, Try.ntmps18
  go_wp2_with (first | ((with_reducible refine gate_callee (f := 31) rfl ?_); refine goesL_ (some 11) rfl rfl Try.func31 (by kernel_rfl) rfl #[.slice A0 l0.length c0] rfl (by (try simp only [List.map_toArray, List.map_cons, List.map_nil]); first | done | rfl | (simp only [lld, llt]; rfl)) ?_; (with_reducible refine (frame_Cut.calls k (fun k_ => k_ < w.heap.size) _ _ l0 t351 t354 false _ ?side1 A2.out).mono ?_); (case side1 => exact Kd.V_mk HC0.out (Kd.F_below (Kd.C_F (Kd.heap_int .u8) HR0.out) (by repeat (first | (with_reducible first | exact HB.out | apply bal | apply bdN | apply bdo) | exact HB.out)))); rintro e w19 ⟨v352, v355, rfl, ho0, ho1, hb⟩; refine ⟨_, rfl, ?_⟩; have n0_ := aS (Kd.V_lower (Kd.V_mono (ok' := fun k_ => True) ho0 (fun k_ hk_ => trivial)) (below_size (by repeat (first | (with_reducible first | exact HB.out | apply bal | apply bdN | apply bdo) | exact HB.out)))); have n1_ := aS (Kd.V_lower (Kd.V_mono (ok' := fun k_ => True) ho1 (fun k_ hk_ => trivial)) (below_size (by repeat (first | (with_reducible first | exact HB.out | apply bal | apply bdN | apply bdo) | exact HB.out)))); have n2_ := aS (below_step (by repeat (first | (with_reducible first | exact HB.out | apply bal | apply bdN | apply bdo) | exact HB.out)) hb); clear HB; have HO353 := n0_; have HO356 := n1_; have HB := n2_; clear n0_ n1_ n2_; (try clear hb); (try clear hb2); (try clear hk); (try clear hi); (try clear ho0); (try clear ho1)))
  go_ret3
  exact ⟨_, _, by first | rfl | (simp [errW_none, errW_some] <;> rfl) | (simp [*, errW_none, errW_some] <;> rfl), by first | exact Kd.R_nil _ _ _ _ _ | exact Kd.N_nil _ _ _ _ _ | exact Kd.V_nil _ _ _ _ _ | exact Kd.Q_nil _ _ _ _ _ | exact Kd.S_nil _ _ _ _ _, by first | exact Kd.R_nil _ _ _ _ _ | exact Kd.N_nil _ _ _ _ _ | exact Kd.V_nil _ _ _ _ _ | exact Kd.Q_nil _ _ _ _ _ | exact Kd.S_nil _ _ _ _ _, by repeat (first | (with_reducible first | exact HB.out | apply bal | apply bdN | apply bdo) | exact HB.out)⟩

/-! ### shardloglaw10_awake: function 8 -/
def shardloglaw10_awake.f (k : Nat)  : Option (Bool) := (some (([(⟨(⟨#[97]⟩ : ByteArray), (⟨#[120]⟩ : ByteArray), 0, (⟨#[]⟩ : ByteArray), false⟩ : S46), (⟨(⟨#[98]⟩ : ByteArray), (⟨#[120]⟩ : ByteArray), 0, (⟨#[]⟩ : ByteArray), false⟩ : S46)] : List (S46)) : List (S46))).bind fun y366 => ((block_Cut.f k y366 1).bind fun bt369 => ((block_Put.f k y366).bind fun bt373 => ((some (([] : List Int) : List Int)).bind fun y377 => (if y377.length + bt373.1.length < 140737488355328 then ((some (y377 ++ bt373.1 : List Int)).bind fun y380 => (if y380.length < 140737488355328 then ((block_Get.f k (y380 ++ [9])).bind fun bt386 => (if bt369.2 = 0 then (if (bt369.1.length : Int) = 2 then (if bt373.2 = 0 then (if (bt373.1.length : Int) = 54 then (if bt386.2.2 = 0 then ((shardlogref08_Same.f k bt386.1 y366).bind fun t393 => (if t393 = true then (some ((bt386.2.1.length : Int) == 1)) else (none))) else (none)) else (none)) else (none)) else (none)) else (none))) else (none))) else (none)))))
theorem shardloglaw10_awake.mono : ∀ k, LeO (shardloglaw10_awake.f k ) (shardloglaw10_awake.f (k + 1) ) := by
 intro  k
 unfold shardloglaw10_awake.f
 repeat' first
   | (with_reducible exact block_Cut.mono _ _ _)
   | (with_reducible exact block_Get.mono _ _)
   | (with_reducible exact block_Put.mono _ _)
   | (with_reducible exact shardlogref08_Same.mono _ _ _)
   | (with_reducible exact LeO.refl _)
   | (with_reducible exact LeO.none _)
   | (with_reducible refine LeO.ite ?_ ?_)
   | (with_reducible refine LeO.bind ?_ (fun _ => ?_))
   | exact block_Cut.mono _ _ _
   | exact block_Get.mono _ _
   | exact block_Put.mono _ _
   | exact shardlogref08_Same.mono _ _ _
   | exact LeO.none _
   | refine LeO.ite ?_ ?_
   | refine LeO.bind ?_ (fun _ => ?_)
set_option maxHeartbeats 8000000 in
set_option maxRecDepth 100000 in
theorem shardloglaw10_awake.calls (k : Nat)  (r : Bool) (w : World) (h : shardloglaw10_awake.f k  = some r) :
  Calls Try.prog 8 #[] w fun e w' => e = .returned (.bool r) ∧ Below w.heap.size w w' := by
 have hu46 := Try.underlying46
 have HB := aS (Below.refl w.heap.size w)
 have H : ((some (([(⟨(⟨#[97]⟩ : ByteArray), (⟨#[120]⟩ : ByteArray), 0, (⟨#[]⟩ : ByteArray), false⟩ : S46), (⟨(⟨#[98]⟩ : ByteArray), (⟨#[120]⟩ : ByteArray), 0, (⟨#[]⟩ : ByteArray), false⟩ : S46)] : List (S46)) : List (S46))).bind fun y366 => ((block_Cut.f k y366 1).bind fun bt369 => ((block_Put.f k y366).bind fun bt373 => ((some (([] : List Int) : List Int)).bind fun y377 => (if y377.length + bt373.1.length < 140737488355328 then ((some (y377 ++ bt373.1 : List Int)).bind fun y380 => (if y380.length < 140737488355328 then ((block_Get.f k (y380 ++ [9])).bind fun bt386 => (if bt369.2 = 0 then (if (bt369.1.length : Int) = 2 then (if bt373.2 = 0 then (if (bt373.1.length : Int) = 54 then (if bt386.2.2 = 0 then ((shardlogref08_Same.f k bt386.1 y366).bind fun t393 => (if t393 = true then (some ((bt386.2.1.length : Int) == 1)) else (none))) else (none)) else (none)) else (none)) else (none)) else (none))) else (none))) else (none)))))) = some r := h
 clear h
 obtain ⟨y366, hy366⟩ : ∃ y_ : List (S46), y_ = (([(⟨(⟨#[97]⟩ : ByteArray), (⟨#[120]⟩ : ByteArray), 0, (⟨#[]⟩ : ByteArray), false⟩ : S46), (⟨(⟨#[98]⟩ : ByteArray), (⟨#[120]⟩ : ByteArray), 0, (⟨#[]⟩ : ByteArray), false⟩ : S46)] : List (S46))) := ⟨_, rfl⟩
 replace H : ((block_Cut.f k y366 1).bind fun bt369 => ((block_Put.f k y366).bind fun bt373 => ((some (([] : List Int) : List Int)).bind fun y377 => (if y377.length + bt373.1.length < 140737488355328 then ((some (y377 ++ bt373.1 : List Int)).bind fun y380 => (if y380.length < 140737488355328 then ((block_Get.f k (y380 ++ [9])).bind fun bt386 => (if bt369.2 = 0 then (if (bt369.1.length : Int) = 2 then (if bt373.2 = 0 then (if (bt373.1.length : Int) = 54 then (if bt386.2.2 = 0 then ((shardlogref08_Same.f k bt386.1 y366).bind fun t393 => (if t393 = true then (some ((bt386.2.1.length : Int) == 1)) else (none))) else (none)) else (none)) else (none)) else (none)) else (none))) else (none))) else (none))))) = some r := by first | (rw [hy366]; with_reducible exact H) | (have H2_ := (Option.bind_some _ _).symm.trans H; rw [hy366]; with_reducible exact H2_) | (have H2_ := (Option.bind_some _ _).symm.trans H; with_reducible exact H2_) | with_reducible exact H | (rw [hy366]; exact H) | exact H
 have Ny366 := aS hy366
 clear hy366
 replace H := obm H
 obtain ⟨⟨t369, t372⟩, A10, H⟩ := H
 replace H : ((block_Put.f k y366).bind fun bt373 => ((some (([] : List Int) : List Int)).bind fun y377 => (if y377.length + bt373.1.length < 140737488355328 then ((some (y377 ++ bt373.1 : List Int)).bind fun y380 => (if y380.length < 140737488355328 then ((block_Get.f k (y380 ++ [9])).bind fun bt386 => (if t372 = 0 then (if (t369.length : Int) = 2 then (if bt373.2 = 0 then (if (bt373.1.length : Int) = 54 then (if bt386.2.2 = 0 then ((shardlogref08_Same.f k bt386.1 y366).bind fun t393 => (if t393 = true then (some ((bt386.2.1.length : Int) == 1)) else (none))) else (none)) else (none)) else (none)) else (none)) else (none))) else (none))) else (none)))) = some r := H
 have A1 := aS A10
 clear A10
 replace H := obm H
 obtain ⟨⟨t373, t374⟩, A20, H⟩ := H
 replace H : ((some (([] : List Int) : List Int)).bind fun y377 => (if y377.length + t373.length < 140737488355328 then ((some (y377 ++ t373 : List Int)).bind fun y380 => (if y380.length < 140737488355328 then ((block_Get.f k (y380 ++ [9])).bind fun bt386 => (if t372 = 0 then (if (t369.length : Int) = 2 then (if t374 = 0 then (if (t373.length : Int) = 54 then (if bt386.2.2 = 0 then ((shardlogref08_Same.f k bt386.1 y366).bind fun t393 => (if t393 = true then (some ((bt386.2.1.length : Int) == 1)) else (none))) else (none)) else (none)) else (none)) else (none)) else (none))) else (none))) else (none))) = some r := H
 have A2 := aS A20
 clear A20
 obtain ⟨y377, hy377⟩ : ∃ y_ : List Int, y_ = (([] : List Int)) := ⟨_, rfl⟩
 replace H : (if y377.length + t373.length < 140737488355328 then ((some (y377 ++ t373 : List Int)).bind fun y380 => (if y380.length < 140737488355328 then ((block_Get.f k (y380 ++ [9])).bind fun bt386 => (if t372 = 0 then (if (t369.length : Int) = 2 then (if t374 = 0 then (if (t373.length : Int) = 54 then (if bt386.2.2 = 0 then ((shardlogref08_Same.f k bt386.1 y366).bind fun t393 => (if t393 = true then (some ((bt386.2.1.length : Int) == 1)) else (none))) else (none)) else (none)) else (none)) else (none)) else (none))) else (none))) else (none)) = some r := by first | (rw [hy377]; with_reducible exact H) | (have H2_ := (Option.bind_some _ _).symm.trans H; rw [hy377]; with_reducible exact H2_) | (have H2_ := (Option.bind_some _ _).symm.trans H; with_reducible exact H2_) | with_reducible exact H | (rw [hy377]; exact H) | exact H
 have Ny377 := aS hy377
 clear hy377
 by_cases c3 : y377.length + t373.length < 140737488355328
 ·
  rw [if_pos c3] at H
  have LMc3 := aS c3
  clear c3
  obtain ⟨y380, hy380⟩ : ∃ y_ : List Int, y_ = (y377 ++ t373) := ⟨_, rfl⟩
  replace H : (if y380.length < 140737488355328 then ((block_Get.f k (y380 ++ [9])).bind fun bt386 => (if t372 = 0 then (if (t369.length : Int) = 2 then (if t374 = 0 then (if (t373.length : Int) = 54 then (if bt386.2.2 = 0 then ((shardlogref08_Same.f k bt386.1 y366).bind fun t393 => (if t393 = true then (some ((bt386.2.1.length : Int) == 1)) else (none))) else (none)) else (none)) else (none)) else (none)) else (none))) else (none)) = some r := by first | (rw [hy380]; with_reducible exact H) | (have H2_ := (Option.bind_some _ _).symm.trans H; rw [hy380]; with_reducible exact H2_) | (have H2_ := (Option.bind_some _ _).symm.trans H; with_reducible exact H2_) | with_reducible exact H | (rw [hy380]; exact H) | exact H
  have Ny380 := aS hy380
  clear hy380
  by_cases c4 : y380.length < 140737488355328
  ·
   rw [if_pos c4] at H
   have LMc4 := aS c4
   clear c4
   obtain ⟨y383, hy383⟩ : ∃ y_ : List Int, y_ = (y380 ++ [9]) := ⟨_, rfl⟩
   replace H : ((block_Get.f k y383).bind fun bt386 => (if t372 = 0 then (if (t369.length : Int) = 2 then (if t374 = 0 then (if (t373.length : Int) = 54 then (if bt386.2.2 = 0 then ((shardlogref08_Same.f k bt386.1 y366).bind fun t393 => (if t393 = true then (some ((bt386.2.1.length : Int) == 1)) else (none))) else (none)) else (none)) else (none)) else (none)) else (none))) = some r := by first | (rw [hy383]; with_reducible exact H) | (have H2_ := (Option.bind_some _ _).symm.trans H; rw [hy383]; with_reducible exact H2_) | (have H2_ := (Option.bind_some _ _).symm.trans H; with_reducible exact H2_) | with_reducible exact H | (rw [hy383]; exact H) | exact H
   have Ny383 := aS hy383
   clear hy383
   replace H := obm H
   obtain ⟨⟨t386, t387, t388⟩, A50, H⟩ := H
   replace H : (if t372 = 0 then (if (t369.length : Int) = 2 then (if t374 = 0 then (if (t373.length : Int) = 54 then (if t388 = 0 then ((shardlogref08_Same.f k t386 y366).bind fun t393 => (if t393 = true then (some ((t387.length : Int) == 1)) else (none))) else (none)) else (none)) else (none)) else (none)) else (none)) = some r := H
   have A5 := aS A50
   clear A50
   by_cases c6 : t372 = 0
   ·
    rw [if_pos c6] at H
    have c6b0 : (t372 == 0) = true := beq_iff_eq.mpr c6
    have c6b1 : (t372 != 0) = false := bne_eq_false_iff_eq.mpr c6
    clear c6
    by_cases c7 : (t369.length : Int) = 2
    ·
     rw [if_pos c7] at H
     have c7b0 : ((t369.length : Int) == 2) = true := beq_iff_eq.mpr c7
     have c7b1 : ((t369.length : Int) != 2) = false := bne_eq_false_iff_eq.mpr c7
     clear c7
     by_cases c8 : t374 = 0
     ·
      rw [if_pos c8] at H
      have c8b0 : (t374 == 0) = true := beq_iff_eq.mpr c8
      have c8b1 : (t374 != 0) = false := bne_eq_false_iff_eq.mpr c8
      clear c8
      by_cases c9 : (t373.length : Int) = 54
      ·
       rw [if_pos c9] at H
       have c9b0 : ((t373.length : Int) == 54) = true := beq_iff_eq.mpr c9
       have c9b1 : ((t373.length : Int) != 54) = false := bne_eq_false_iff_eq.mpr c9
       clear c9
       by_cases c10 : t388 = 0
       ·
        rw [if_pos c10] at H
        have c10b0 : (t388 == 0) = true := beq_iff_eq.mpr c10
        have c10b1 : (t388 != 0) = false := bne_eq_false_iff_eq.mpr c10
        clear c10
        replace H := obm H
        obtain ⟨t393, A110, H⟩ := H
        replace H : (if t393 = true then (some ((t387.length : Int) == 1)) else (none)) = some r := H
        have A11 := aS A110
        clear A110
        by_cases c12 : t393 = true
        ·
         subst c12
         have H1 : (some ((t387.length : Int) == 1)) = some r := by rw [if_pos rfl] at H; exact H
         clear H; have H := H1; clear H1
         obtain rfl := Option.some.inj H
         go_enter Try.func8, Try.ntmps8
         go_wp2_with (first | ((with_reducible refine gate_dst (N := 11) rfl ?_); (try (refine gate_guard (by rfl) ?_; dsimp only)); refine Kd.R_lit k46 _ 46 ?hg (N := 11) ?hd (xs := ([(⟨(⟨#[97]⟩ : ByteArray), (⟨#[120]⟩ : ByteArray), 0, (⟨#[]⟩ : ByteArray), false⟩ : S46), (⟨(⟨#[98]⟩ : ByteArray), (⟨#[120]⟩ : ByteArray), 0, (⟨#[]⟩ : ByteArray), false⟩ : S46)] : List (S46))) (inner := [.string (⟨#[97]⟩ : ByteArray), .string (⟨#[120]⟩ : ByteArray), .int .i64 0, .string (⟨#[]⟩ : ByteArray), .bool false, .string (⟨#[98]⟩ : ByteArray), .string (⟨#[120]⟩ : ByteArray), .int .i64 0, .string (⟨#[]⟩ : ByteArray), .bool false]) (ok := fun _ => True) (okp := fun _ => True) ?hr ?hp (fun _ hk => hk) trivial (Below.refl _ _) (Nat.le_refl _) (by simp) ?_; (case hd => rfl); (case hg => rfl); (case hr => first | (go_simp; done) | (go_simp; rfl)); (case hp => exact (Reps.c5 (show Kd.M k46 _ _ _ (⟨(⟨#[97]⟩ : ByteArray), (⟨#[120]⟩ : ByteArray), 0, (⟨#[]⟩ : ByteArray), false⟩ : S46) [.string (⟨#[97]⟩ : ByteArray), .string (⟨#[120]⟩ : ByteArray), .int .i64 0, .string (⟨#[]⟩ : ByteArray), .bool false] from (k46_mkM _ _ _ (⟨(⟨#[97]⟩ : ByteArray), (⟨#[120]⟩ : ByteArray), 0, (⟨#[]⟩ : ByteArray), false⟩ : S46) )) (Reps.c5 (show Kd.M k46 _ _ _ (⟨(⟨#[98]⟩ : ByteArray), (⟨#[120]⟩ : ByteArray), 0, (⟨#[]⟩ : ByteArray), false⟩ : S46) [.string (⟨#[98]⟩ : ByteArray), .string (⟨#[120]⟩ : ByteArray), .int .i64 0, .string (⟨#[]⟩ : ByteArray), .bool false] from (k46_mkM _ _ _ (⟨(⟨#[98]⟩ : ByteArray), (⟨#[120]⟩ : ByteArray), 0, (⟨#[]⟩ : ByteArray), false⟩ : S46) )) (Reps.none _ _)))); intro v367 w13 ho14 hb hg_ hnew_; clear hg_ hnew_; (first | rw [← Ny366.out] at ho14 | (simp only [Int.reduceToNat] at ho14; rw [← Ny366.out] at ho14)); have n0_ := aS (Kd.R_lower ho14 (below_size (by repeat (first | (with_reducible first | exact HB.out | apply bal | apply bdN | apply bdo) | exact HB.out)))); have n1_ := aS (below_step (by repeat (first | (with_reducible first | exact HB.out | apply bal | apply bdN | apply bdo) | exact HB.out)) hb); clear HB; have HO368 := n0_; have HB := n1_; clear n0_ n1_; clear hb ho14; obtain ⟨Ao15, co15, eo15⟩ := Kd.R_slice HO368.out; subst eo15) | ((with_reducible refine gate_callee (f := 11) rfl ?_); refine goesL_ (some 14) rfl rfl Try.func11 (by kernel_rfl) rfl #[.slice Ao15 y366.length co15, .int .i64 1] rfl (by (try simp only [List.map_toArray, List.map_cons, List.map_nil]); first | done | rfl | (simp only [lld, llt]; rfl)) ?_; (with_reducible refine (block_Cut.calls k (fun k_ => some k_ = (.slice Ao15 y366.length co15 : Value).ownBlock) _ _ y366 1 t369 t372 _ ?side1 A1.out).mono ?_); (case side1 => exact Kd.R_V (Kd.R_tight rfl (HO368.out))); rintro e w16 ⟨v370, rfl, ho0, hb⟩; refine ⟨_, rfl, ?_⟩; have n0_ := aS (Kd.R_below (by (with_reducible repeat (first | apply Kd.R_alloc | apply Kd.R_drewN | apply Kd.R_drew)); exact HO368.out) hb); have n1_ := aS (Kd.S_lower (Kd.S_new' (Kd.S_mono (ok' := fun k_ => True) ho0 (fun _ hk_ => trivial)) (Kd.R_lt (by (with_reducible repeat (first | apply Kd.R_alloc | apply Kd.R_drewN | apply Kd.R_drew)); exact HO368.out))) (below_size (by repeat (first | (with_reducible first | exact HB.out | apply bal | apply bdN | apply bdo) | exact HB.out)))); have n2_ := aS (below_step (by repeat (first | (with_reducible first | exact HB.out | apply bal | apply bdN | apply bdo) | exact HB.out)) hb); clear HO368; clear HB; have HO368 := n0_; have HO371 := n1_; have HB := n2_; clear n0_ n1_ n2_; (try clear hb); (try clear hb2); (try clear hk); (try clear hi); (try clear ho0)) | ((with_reducible refine gate_callee (f := 15) rfl ?_); refine goesL_ (some 19) rfl rfl Try.func15 (by kernel_rfl) rfl #[.slice Ao15 y366.length co15] rfl (by (try simp only [List.map_toArray, List.map_cons, List.map_nil]); first | done | rfl | (simp only [lld, llt]; rfl)) ?_; (with_reducible refine (block_Put.calls k _ _ y366 t373 t374 _ ?side1 ?side2 A2.out).mono ?_); (case side1 => repeat (first | exact (Kd.R_reads' HO368.out).2.2 | (with_reducible refine Kd.C_alloc ?_ _) | (with_reducible refine Kd.C_drewN ?_ _) | (with_reducible refine Kd.C_drew ?_))); (case side2 => exact (Kd.R_reads' HO368.out).2.1); rintro e w17 ⟨v375, rfl, ho0, hb⟩; refine ⟨_, rfl, ?_⟩; have n0_ := aS (Kd.R_below (by (with_reducible repeat (first | apply Kd.R_alloc | apply Kd.R_drewN | apply Kd.R_drew)); exact HO368.out) hb); have n1_ := aS (Kd.S_below (by (with_reducible repeat (first | apply Kd.S_alloc | apply Kd.S_drewN | apply Kd.S_drew)); exact HO371.out) hb); have n2_ := aS (Kd.R_lower ho0 (below_size (by repeat (first | (with_reducible first | exact HB.out | apply bal | apply bdN | apply bdo) | exact HB.out)))); have n3_ := aS (below_step (by repeat (first | (with_reducible first | exact HB.out | apply bal | apply bdN | apply bdo) | exact HB.out)) hb); clear HO368; clear HO371; clear HB; have HO368 := n0_; have HO371 := n1_; have HO376 := n2_; have HB := n3_; clear n0_ n1_ n2_ n3_; (try clear hb); (try clear hb2); (try clear hk); (try clear hi); (try clear ho0)) | ((with_reducible refine gate_dst (N := 23) rfl ?_); (try (refine gate_guard (by rfl) ?_; dsimp only)); refine Kd.R_lit (Kd.int .u8) _ 5 ?hg (N := 23) ?hd (xs := ([] : List Int)) (inner := []) (ok := fun _ => True) (okp := fun _ => True) ?hr ?hp (fun _ hk => hk) trivial (Below.refl _ _) (Nat.le_refl _) (by simp) ?_; (case hd => rfl); (case hg => rfl); (case hr => first | (go_simp; done) | (go_simp; rfl)); (case hp => exact (Reps.none _ _)); intro v378 w18 ho19 hb hg_ hnew_; clear hg_ hnew_; (first | rw [← Ny377.out] at ho19 | (simp only [Int.reduceToNat] at ho19; rw [← Ny377.out] at ho19)); have n0_ := aS (Kd.R_below (by (with_reducible repeat (first | apply Kd.R_alloc | apply Kd.R_drewN | apply Kd.R_drew)); exact HO368.out) hb); have n1_ := aS (Kd.S_below (by (with_reducible repeat (first | apply Kd.S_alloc | apply Kd.S_drewN | apply Kd.S_drew)); exact HO371.out) hb); have n2_ := aS (Kd.R_elder' (by (with_reducible repeat (first | apply Kd.R_alloc | apply Kd.R_drewN | apply Kd.R_drew)); exact HO376.out) (by first | exact Kd.R_base ho19 | exact Kd.S_base ho19 | exact Kd.R_base ho19 | exact Kd.V_base ho19) hb); have n3_ := aS (Kd.R_lower (Kd.R_new' ho19 (Kd.R_lt (by (with_reducible repeat (first | apply Kd.R_alloc | apply Kd.R_drewN | apply Kd.R_drew)); exact HO376.out))) (below_size (by repeat (first | (with_reducible first | exact HB.out | apply bal | apply bdN | apply bdo) | exact HB.out)))); have n4_ := aS (below_step (by repeat (first | (with_reducible first | exact HB.out | apply bal | apply bdN | apply bdo) | exact HB.out)) hb); clear HO368; clear HO371; clear HO376; clear HB; have HO368 := n0_; have HO371 := n1_; have HO376 := n2_; have HO379 := n3_; have HB := n4_; clear n0_ n1_ n2_ n3_ n4_; clear hb ho19; obtain ⟨Ao21, co21, eo21⟩ := Kd.R_slice HO376.out; subst eo21) | ((with_reducible refine gate_builtin (b := .append) (xs := #[.tmp 23, .tmp 24]) rfl ?_); (try (refine gate_guard (by rfl) ?_; dsimp only)); at_builtin; refine Kd.R_append_rows (Kd.int .u8) (w0 := w) w.heap.size rfl (.tmp 23) (.tmp 24) 33 5 (.int .u8 0) 1 rfl Try.underlying33 info5 rfl (by decide) (by omega) v378 y377 t373 _ _ _ (fun k_ => some k_ ≠ (.slice Ao21 t373.length co21 : Value).ownBlock) (fun _ => False) rfl rfl ?aO ?aR (fun _ _ h => h) (fun _ h => h.elim) ?aF ?aB ?aS ?aL ?_; (case aR => repeat (first | exact (Kd.R_reads' HO376.out).2.2 | (with_reducible refine Kd.C_alloc ?_ _) | (with_reducible refine Kd.C_drewN ?_ _) | (with_reducible refine Kd.C_drew ?_))); (case aB => exact (by repeat (first | (with_reducible first | exact HB.out | apply bal | apply bdN | apply bdo) | exact HB.out))); (case aF => exact (fun k_ hk => Kd.fresh' (Kd.R_lt (by (with_reducible repeat (first | apply Kd.R_alloc | apply Kd.R_drewN | apply Kd.R_drew)); exact HO376.out)) k_ hk)); (case aO => exact (by (with_reducible repeat (first | apply Kd.R_alloc | apply Kd.R_drewN | apply Kd.R_drew)); exact Kd.R_mono HO379.out (fun _ hk => hk.2))); (case aS => exact (below_size (by repeat (first | (with_reducible first | exact HB.out | apply bal | apply bdN | apply bdo) | exact HB.out)))); (case aL => have := LMc3.out; omega); intro v381 w20 ho hb hg hat; rw [← Ny380.out] at ho; have n0_ := aS (Kd.R_over' (by (with_reducible repeat (first | apply Kd.R_alloc | apply Kd.R_drewN | apply Kd.R_drew)); exact HO368.out) (Kd.R_typed (by (with_reducible repeat (first | apply Kd.R_alloc | apply Kd.R_drewN | apply Kd.R_drew)); exact HO379.out)) (by decide) hg); have n1_ := aS (Kd.S_over' (by (with_reducible repeat (first | apply Kd.S_alloc | apply Kd.S_drewN | apply Kd.S_drew)); exact HO371.out) (Kd.R_typed (by (with_reducible repeat (first | apply Kd.R_alloc | apply Kd.R_drewN | apply Kd.R_drew)); exact HO379.out)) (by decide) hg); have n2_ := aS (Kd.R_after (ok := (fun _ => True)) (by (with_reducible repeat (first | apply Kd.R_alloc | apply Kd.R_drewN | apply Kd.R_drew)); exact HO376.out) hg hat); have n3_ := aS (hb); have n4_ := aS (ho); clear HO368; clear HO371; clear HO376; clear HB; clear HO379; have HO368 := n0_; have HO371 := n1_; have HO376 := n2_; have HB := n3_; have HO382 := n4_; clear n0_ n1_ n2_ n3_ n4_; clear ho hb hg hat) | ((with_reducible refine gate_builtin (b := .append) (xs := #[.tmp 25, .tmp 26]) rfl ?_); (try (refine gate_guard (by rfl) ?_; dsimp only)); at_builtin; refine Kd.R_append (Kd.int .u8) (w0 := w) w.heap.size rfl (.tmp 25) (.tmp 26) 33 5 (.int .u8 0) 1 rfl Try.underlying33 info5 rfl (by decide) (by omega) v381 y380 9 [.int .u8 9] (fun k_ => some k_ ≠ (.slice Ao21 t373.length co21 : Value).ownBlock) (fun _ => False) rfl rfl ?aP (fun _ hk => hk.elim) ?aF ?aO ?aB ?aS ?aL ?_; (case aP => exact rfl); (case aB => exact (by repeat (first | (with_reducible first | exact HB.out | apply bal | apply bdN | apply bdo) | exact HB.out))); (case aF => exact (fun k_ hk => Kd.fresh' (Kd.R_lt (by (with_reducible repeat (first | apply Kd.R_alloc | apply Kd.R_drewN | apply Kd.R_drew)); exact HO376.out)) k_ hk)); (case aO => exact (by (with_reducible repeat (first | apply Kd.R_alloc | apply Kd.R_drewN | apply Kd.R_drew)); exact HO382.out)); (case aS => exact (below_size (by repeat (first | (with_reducible first | exact HB.out | apply bal | apply bdN | apply bdo) | exact HB.out)))); (case aL => have := LMc4.out; omega); intro v384 w22 ho hb hg hat; rw [← Ny383.out] at ho; have n0_ := aS (Kd.R_over' (by (with_reducible repeat (first | apply Kd.R_alloc | apply Kd.R_drewN | apply Kd.R_drew)); exact HO368.out) (Kd.R_typed (by (with_reducible repeat (first | apply Kd.R_alloc | apply Kd.R_drewN | apply Kd.R_drew)); exact HO382.out)) (by decide) hg); have n1_ := aS (Kd.S_over' (by (with_reducible repeat (first | apply Kd.S_alloc | apply Kd.S_drewN | apply Kd.S_drew)); exact HO371.out) (Kd.R_typed (by (with_reducible repeat (first | apply Kd.R_alloc | apply Kd.R_drewN | apply Kd.R_drew)); exact HO382.out)) (by decide) hg); have n2_ := aS (Kd.R_after (ok := (fun _ => True)) (by (with_reducible repeat (first | apply Kd.R_alloc | apply Kd.R_drewN | apply Kd.R_drew)); exact HO376.out) hg hat); have n3_ := aS (hb); have n4_ := aS (ho); clear HO368; clear HO371; clear HO376; clear HB; clear HO382; have HO368 := n0_; have HO371 := n1_; have HO376 := n2_; have HB := n3_; have HO385 := n4_; clear n0_ n1_ n2_ n3_ n4_; clear ho hb hg hat; obtain ⟨Ao23, co23, eo23⟩ := Kd.R_slice HO385.out; subst eo23) | ((with_reducible refine gate_callee (f := 18) rfl ?_); refine goesL_ (some 28) rfl rfl Try.func18 (by kernel_rfl) rfl #[.slice Ao23 y383.length co23] rfl (by (try simp only [List.map_toArray, List.map_cons, List.map_nil]); first | done | rfl | (simp only [lld, llt]; rfl)) ?_; (with_reducible refine (block_Get.calls k _ _ y383 t386 t387 t388 _ ?side1 ?side2 A5.out).mono ?_); (case side1 => repeat (first | exact (Kd.R_reads' HO385.out).2.2 | (with_reducible refine Kd.C_alloc ?_ _) | (with_reducible refine Kd.C_drewN ?_ _) | (with_reducible refine Kd.C_drew ?_))); (case side2 => exact (Kd.R_reads' HO385.out).2.1); rintro e w24 ⟨v389, v391, rfl, ho0, ho1, hb⟩; refine ⟨_, rfl, ?_⟩; have n0_ := aS (Kd.R_elder' (by (with_reducible repeat (first | apply Kd.R_alloc | apply Kd.R_drewN | apply Kd.R_drew)); exact HO368.out) (by first | exact Kd.R_base ho0 | exact Kd.S_base ho0 | exact Kd.R_base ho0 | exact Kd.V_base ho0) hb); have n1_ := aS (Kd.S_elder' (by (with_reducible repeat (first | apply Kd.S_alloc | apply Kd.S_drewN | apply Kd.S_drew)); exact HO371.out) (by first | exact Kd.R_base ho0 | exact Kd.S_base ho0 | exact Kd.R_base ho0 | exact Kd.V_base ho0) hb); have n2_ := aS (Kd.R_elder' (by (with_reducible repeat (first | apply Kd.R_alloc | apply Kd.R_drewN | apply Kd.R_drew)); exact HO376.out) (by first | exact Kd.R_base ho1 | exact Kd.S_base ho1 | exact Kd.R_base ho1 | exact Kd.V_base ho1) hb); have n3_ := aS (Kd.R_elder' (by (with_reducible repeat (first | apply Kd.R_alloc | apply Kd.R_drewN | apply Kd.R_drew)); exact HO385.out) (by first | exact Kd.R_base ho1 | exact Kd.S_base ho1 | exact Kd.R_base ho1 | exact Kd.V_base ho1) hb); have n4_ := aS (Kd.R_lower (Kd.R_new' ho0 (Kd.R_lt (by (with_reducible repeat (first | apply Kd.R_alloc | apply Kd.R_drewN | apply Kd.R_drew)); exact HO368.out))) (below_size (by repeat (first | (with_reducible first | exact HB.out | apply bal | apply bdN | apply bdo) | exact HB.out)))); have n5_ := aS (Kd.R_lower (Kd.R_new' (Kd.R_new' ho1 (Kd.R_lt (by (with_reducible repeat (first | apply Kd.R_alloc | apply Kd.R_drewN | apply Kd.R_drew)); exact HO376.out))) (Kd.R_lt (by (with_reducible repeat (first | apply Kd.R_alloc | apply Kd.R_drewN | apply Kd.R_drew)); exact HO385.out))) (below_size (by repeat (first | (with_reducible first | exact HB.out | apply bal | apply bdN | apply bdo) | exact HB.out)))); have n6_ := aS (below_step (by repeat (first | (with_reducible first | exact HB.out | apply bal | apply bdN | apply bdo) | exact HB.out)) hb); clear HO368; clear HO371; clear HO376; clear HO385; clear HB; have HO368 := n0_; have HO371 := n1_; have HO376 := n2_; have HO385 := n3_; have HO390 := n4_; have HO392 := n5_; have HB := n6_; clear n0_ n1_ n2_ n3_ n4_ n5_ n6_; (try clear hb); (try clear hb2); (try clear hk); (try clear hi); (try clear ho0); (try clear ho1); obtain ⟨Ao25, co25, eo25⟩ := Kd.S_slice HO371.out; subst eo25; obtain ⟨Ao26, co26, eo26⟩ := Kd.R_slice HO390.out; subst eo26) | (go_at_call 14; (with_reducible refine (shardlogref08_Same.calls k _ _ t386 _ _ y366 true _ ?side1 ?side2 ?side3 ?side4 A11.out).mono ?_); (case side1 => repeat (first | exact (Kd.R_reads' HO390.out).2.2 | (with_reducible refine Kd.C_alloc ?_ _) | (with_reducible refine Kd.C_drewN ?_ _) | (with_reducible refine Kd.C_drew ?_))); (case side2 => exact (Kd.R_reads' HO390.out).2.1); (case side3 => repeat (first | exact (Kd.R_reads' HO368.out).2.2 | (with_reducible refine Kd.C_alloc ?_ _) | (with_reducible refine Kd.C_drewN ?_ _) | (with_reducible refine Kd.C_drew ?_))); (case side4 => exact (Kd.R_reads' HO368.out).2.1); rintro e w' ⟨rfl, ⟨nd, rfl⟩⟩; obtain ⟨Ao27, co27, eo27⟩ := Kd.R_slice HO392.out; subst eo27))
         go_ret
         exact ⟨by first | rfl | (simp [errW_none, errW_some] <;> rfl) | (simp [*, errW_none, errW_some] <;> rfl), by repeat (first | (with_reducible first | exact HB.out | apply bal | apply bdN | apply bdo) | exact HB.out)⟩
        ·
         replace c12 := Bool.eq_false_iff.mpr c12
         subst c12
         have H1 : (none) = some r := by rw [if_neg (show ¬ (false = true) by decide)] at H; exact H
         clear H; have H := H1; clear H1
         exact absurd H (by simp)
       ·
        rw [if_neg c10] at H
        exact absurd H (by simp)
      ·
       rw [if_neg c9] at H
       exact absurd H (by simp)
     ·
      rw [if_neg c8] at H
      exact absurd H (by simp)
    ·
     rw [if_neg c7] at H
     exact absurd H (by simp)
   ·
    rw [if_neg c6] at H
    exact absurd H (by simp)
  ·
   rw [if_neg c4] at H
   exact absurd H (by simp)
 ·
  rw [if_neg c3] at H
  exact absurd H (by simp)

/-! ### shardlogref01_Same: function 16 -/
def shardlogref01_Same.f (l0 : List Int) (l1 : List Int) : Option (Bool) := some ((strOfNums l0).toList == (strOfNums l1).toList)
set_option maxHeartbeats 8000000 in
set_option maxRecDepth 100000 in
theorem shardlogref01_Same.calls (A0 : Option Addr) (c0 : Nat) (l0 : List Int) (A1 : Option Addr) (c1 : Nat) (l1 : List Int) (r : Bool) (w : World) (hr0 : Kd.C (Kd.int .u8) w A0 l0.length l0) (hc0 : l0.length ≤ c0) (hr1 : Kd.C (Kd.int .u8) w A1 l1.length l1) (hc1 : l1.length ≤ c1) (h : shardlogref01_Same.f l0 l1 = some r) :
  Calls Try.prog 16 #[.slice A0 l0.length c0, .slice A1 l1.length c1] w fun e w' => e = .returned (.bool r) ∧ Drawn0 w w' := by
 have HR0 := aS hr0
 have HC0 := aS hc0
 clear hr0 hc0
 have HR1 := aS hr1
 have HC1 := aS hc1
 clear hr1 hc1
 have H : (some ((strOfNums l0).toList == (strOfNums l1).toList)) = some r := h
 clear h
 obtain rfl := Option.some.inj H
 have hcv3 := Kd.C_string (P := Try.prog) (A := A0) (c := c0) Try.underlying33 Try.underlying5 Try.underlying9 HR0.out
 have hcv4 := fun (m_ : Nat) => Kd.C_string (P := Try.prog) (A := A0) (c := c0) Try.underlying33 Try.underlying5 Try.underlying9 (Kd.C_drewN (HR0.out) m_)
 have hcv5 := Kd.C_string (P := Try.prog) (A := A1) (c := c1) Try.underlying33 Try.underlying5 Try.underlying9 HR1.out
 have hcv6 := fun (m_ : Nat) => Kd.C_string (P := Try.prog) (A := A1) (c := c1) Try.underlying33 Try.underlying5 Try.underlying9 (Kd.C_drewN (HR1.out) m_)
 go_enter Try.func16, Try.ntmps16
 go_wp2
 go_ret
 exact ⟨by first | rfl | (simp; done) | (simp [*]; done) | (simp; exact (by decide : ∀ a_ b_ : Bool, (a_ == b_) = (!a_ != b_)) _ _), by repeat (first | exact Drawn0.refl _ | apply Drawn0.step)⟩

/-! ### shardlogref08_Right: function 21 -/
def shardlogref08_Right.f (a0_0 : ByteArray) (a0_1 : ByteArray) (a0_2 : Int) (a0_3 : ByteArray) (a0_4 : Bool) : Option (Bool) := if (a0_0.size : Int) < 1 then (some false) else (if (a0_0.size : Int) > 64 then (some false) else (if (a0_1.size : Int) < 1 then (some false) else (if (a0_1.size : Int) > 64 then (some false) else (if a0_2 < 0 then (some false) else (if a0_2 > 4294967295 then (some false) else (if (a0_3.size : Int) ≤ 256 then (if a0_4 = true then (some (a0_3.toList == ([] : List UInt8))) else (some true)) else (some false)))))))
set_option maxHeartbeats 8000000 in
set_option maxRecDepth 100000 in
theorem shardlogref08_Right.calls (a0_0 : ByteArray) (a0_1 : ByteArray) (a0_2 : Int) (a0_3 : ByteArray) (a0_4 : Bool) (r : Bool) (w : World) (h : shardlogref08_Right.f a0_0 a0_1 a0_2 a0_3 a0_4 = some r) :
  Calls Try.prog 21 #[.agg #[.string a0_0, .string a0_1, .int .i64 a0_2, .string a0_3, .bool a0_4]] w fun e w' => e = .returned (.bool r) ∧ Below w.heap.size w w' := by
 have hu46 := Try.underlying46
 have HB := aS (Below.refl w.heap.size w)
 have H : (if (a0_0.size : Int) < 1 then (some false) else (if (a0_0.size : Int) > 64 then (some false) else (if (a0_1.size : Int) < 1 then (some false) else (if (a0_1.size : Int) > 64 then (some false) else (if a0_2 < 0 then (some false) else (if a0_2 > 4294967295 then (some false) else (if (a0_3.size : Int) ≤ 256 then (if a0_4 = true then (some (a0_3.toList == ([] : List UInt8))) else (some true)) else (some false)))))))) = some r := h
 clear h
 by_cases c2 : (a0_0.size : Int) < 1
 ·
  rw [if_pos c2] at H
  have c2b0 : decide ((a0_0.size : Int) < 1) = true := decide_eq_true c2
  have c2b1 : decide (a0_0.size < 1) = true := decide_eq_true (by omega)
  clear c2
  obtain rfl := Option.some.inj H
  go_enter Try.func21, Try.ntmps21
  go_wp2_with (first | ((with_reducible refine gate_dst (N := 1) rfl ?_); (try (refine gate_guard (by rfl) ?_; dsimp only)); refine box_event ?hg (N := 1) ?hd (cs := #[.string a0_0, .string a0_1, .int .i64 a0_2, .string a0_3, .bool a0_4]) (t := 46) ?hr ?_; (case hd => rfl); (case hg => rfl); (case hr => first | (go_simp; done) | (go_simp; rfl)); intro gb394 hg w3 hbox hb; have n0_ := aS (below_step (by repeat (first | (with_reducible first | exact HB.out | apply bal | apply bdN | apply bdo) | exact HB.out)) hb); have n1_ := aS (hbox); have n2_ := aS ((by rw [hg]; exact (below_size (by repeat (first | (with_reducible first | exact HB.out | apply bal | apply bdN | apply bdo) | exact HB.out))) : w.heap.size ≤ gb394)); have n3_ := aS ((by rw [hg]; exact (below_size (by repeat (first | (with_reducible first | exact HB.out | apply bal | apply bdN | apply bdo) | exact HB.out))) : w.heap.size ≤ gb394)); clear HB; have HB := n0_; have BK394 := n1_; have GW394 := n2_; have GE394 := n3_; clear n0_ n1_ n2_ n3_; clear hb hbox hg; have hcz4_0 : w3.cell? ⟨gb394, 0, none⟩ = some (.string a0_0) := (blk_cell BK394.out 0).trans rfl; have hcz4_1 : w3.cell? ⟨gb394, 1, none⟩ = some (.string a0_1) := (blk_cell BK394.out 1).trans rfl; have hcz4_2 : w3.cell? ⟨gb394, 2, none⟩ = some (.int .i64 a0_2) := (blk_cell BK394.out 2).trans rfl; have hcz4_3 : w3.cell? ⟨gb394, 3, none⟩ = some (.string a0_3) := (blk_cell BK394.out 3).trans rfl; have hcz4_4 : w3.cell? ⟨gb394, 4, none⟩ = some (.bool a0_4) := (blk_cell BK394.out 4).trans rfl; have hfz4_0 := blk_frozen BK394.out 0; have hfz4_1 := blk_frozen BK394.out 1; have hfz4_2 := blk_frozen BK394.out 2; have hfz4_3 := blk_frozen BK394.out 3; have hfz4_4 := blk_frozen BK394.out 4))
  go_ret
  exact ⟨by first | rfl | (simp [errW_none, errW_some] <;> rfl) | (simp [*, errW_none, errW_some] <;> rfl), by repeat (first | (with_reducible first | exact HB.out | apply bal | apply bdN | apply bdo | refine below_set ?_ GE394.out) | exact HB.out)⟩
 ·
  rw [if_neg c2] at H
  have c2b0 : decide ((a0_0.size : Int) < 1) = false := decide_eq_false c2
  have c2b1 : decide (a0_0.size < 1) = false := decide_eq_false (by omega)
  clear c2
  by_cases c5 : (a0_0.size : Int) > 64
  ·
   rw [if_pos c5] at H
   have c5b0 : decide (64 < (a0_0.size : Int)) = true := decide_eq_true c5
   have c5b1 : decide (64 < a0_0.size) = true := decide_eq_true (by omega)
   clear c5
   obtain rfl := Option.some.inj H
   go_enter Try.func21, Try.ntmps21
   go_wp2_with (first | ((with_reducible refine gate_dst (N := 1) rfl ?_); (try (refine gate_guard (by rfl) ?_; dsimp only)); refine box_event ?hg (N := 1) ?hd (cs := #[.string a0_0, .string a0_1, .int .i64 a0_2, .string a0_3, .bool a0_4]) (t := 46) ?hr ?_; (case hd => rfl); (case hg => rfl); (case hr => first | (go_simp; done) | (go_simp; rfl)); intro gb394 hg w6 hbox hb; have n0_ := aS (below_step (by repeat (first | (with_reducible first | exact HB.out | apply bal | apply bdN | apply bdo) | exact HB.out)) hb); have n1_ := aS (hbox); have n2_ := aS ((by rw [hg]; exact (below_size (by repeat (first | (with_reducible first | exact HB.out | apply bal | apply bdN | apply bdo) | exact HB.out))) : w.heap.size ≤ gb394)); have n3_ := aS ((by rw [hg]; exact (below_size (by repeat (first | (with_reducible first | exact HB.out | apply bal | apply bdN | apply bdo) | exact HB.out))) : w.heap.size ≤ gb394)); clear HB; have HB := n0_; have BK394 := n1_; have GW394 := n2_; have GE394 := n3_; clear n0_ n1_ n2_ n3_; clear hb hbox hg; have hcz7_0 : w6.cell? ⟨gb394, 0, none⟩ = some (.string a0_0) := (blk_cell BK394.out 0).trans rfl; have hcz7_1 : w6.cell? ⟨gb394, 1, none⟩ = some (.string a0_1) := (blk_cell BK394.out 1).trans rfl; have hcz7_2 : w6.cell? ⟨gb394, 2, none⟩ = some (.int .i64 a0_2) := (blk_cell BK394.out 2).trans rfl; have hcz7_3 : w6.cell? ⟨gb394, 3, none⟩ = some (.string a0_3) := (blk_cell BK394.out 3).trans rfl; have hcz7_4 : w6.cell? ⟨gb394, 4, none⟩ = some (.bool a0_4) := (blk_cell BK394.out 4).trans rfl; have hfz7_0 := blk_frozen BK394.out 0; have hfz7_1 := blk_frozen BK394.out 1; have hfz7_2 := blk_frozen BK394.out 2; have hfz7_3 := blk_frozen BK394.out 3; have hfz7_4 := blk_frozen BK394.out 4))
   go_ret
   exact ⟨by first | rfl | (simp [errW_none, errW_some] <;> rfl) | (simp [*, errW_none, errW_some] <;> rfl), by repeat (first | (with_reducible first | exact HB.out | apply bal | apply bdN | apply bdo | refine below_set ?_ GE394.out) | exact HB.out)⟩
  ·
   rw [if_neg c5] at H
   have c5b0 : decide (64 < (a0_0.size : Int)) = false := decide_eq_false c5
   have c5b1 : decide (64 < a0_0.size) = false := decide_eq_false (by omega)
   clear c5
   by_cases c8 : (a0_1.size : Int) < 1
   ·
    rw [if_pos c8] at H
    have c8b0 : decide ((a0_1.size : Int) < 1) = true := decide_eq_true c8
    have c8b1 : decide (a0_1.size < 1) = true := decide_eq_true (by omega)
    clear c8
    obtain rfl := Option.some.inj H
    go_enter Try.func21, Try.ntmps21
    go_wp2_with (first | ((with_reducible refine gate_dst (N := 1) rfl ?_); (try (refine gate_guard (by rfl) ?_; dsimp only)); refine box_event ?hg (N := 1) ?hd (cs := #[.string a0_0, .string a0_1, .int .i64 a0_2, .string a0_3, .bool a0_4]) (t := 46) ?hr ?_; (case hd => rfl); (case hg => rfl); (case hr => first | (go_simp; done) | (go_simp; rfl)); intro gb394 hg w9 hbox hb; have n0_ := aS (below_step (by repeat (first | (with_reducible first | exact HB.out | apply bal | apply bdN | apply bdo) | exact HB.out)) hb); have n1_ := aS (hbox); have n2_ := aS ((by rw [hg]; exact (below_size (by repeat (first | (with_reducible first | exact HB.out | apply bal | apply bdN | apply bdo) | exact HB.out))) : w.heap.size ≤ gb394)); have n3_ := aS ((by rw [hg]; exact (below_size (by repeat (first | (with_reducible first | exact HB.out | apply bal | apply bdN | apply bdo) | exact HB.out))) : w.heap.size ≤ gb394)); clear HB; have HB := n0_; have BK394 := n1_; have GW394 := n2_; have GE394 := n3_; clear n0_ n1_ n2_ n3_; clear hb hbox hg; have hcz10_0 : w9.cell? ⟨gb394, 0, none⟩ = some (.string a0_0) := (blk_cell BK394.out 0).trans rfl; have hcz10_1 : w9.cell? ⟨gb394, 1, none⟩ = some (.string a0_1) := (blk_cell BK394.out 1).trans rfl; have hcz10_2 : w9.cell? ⟨gb394, 2, none⟩ = some (.int .i64 a0_2) := (blk_cell BK394.out 2).trans rfl; have hcz10_3 : w9.cell? ⟨gb394, 3, none⟩ = some (.string a0_3) := (blk_cell BK394.out 3).trans rfl; have hcz10_4 : w9.cell? ⟨gb394, 4, none⟩ = some (.bool a0_4) := (blk_cell BK394.out 4).trans rfl; have hfz10_0 := blk_frozen BK394.out 0; have hfz10_1 := blk_frozen BK394.out 1; have hfz10_2 := blk_frozen BK394.out 2; have hfz10_3 := blk_frozen BK394.out 3; have hfz10_4 := blk_frozen BK394.out 4))
    go_ret
    exact ⟨by first | rfl | (simp [errW_none, errW_some] <;> rfl) | (simp [*, errW_none, errW_some] <;> rfl), by repeat (first | (with_reducible first | exact HB.out | apply bal | apply bdN | apply bdo | refine below_set ?_ GE394.out) | exact HB.out)⟩
   ·
    rw [if_neg c8] at H
    have c8b0 : decide ((a0_1.size : Int) < 1) = false := decide_eq_false c8
    have c8b1 : decide (a0_1.size < 1) = false := decide_eq_false (by omega)
    clear c8
    by_cases c11 : (a0_1.size : Int) > 64
    ·
     rw [if_pos c11] at H
     have c11b0 : decide (64 < (a0_1.size : Int)) = true := decide_eq_true c11
     have c11b1 : decide (64 < a0_1.size) = true := decide_eq_true (by omega)
     clear c11
     obtain rfl := Option.some.inj H
     go_enter Try.func21, Try.ntmps21
     go_wp2_with (first | ((with_reducible refine gate_dst (N := 1) rfl ?_); (try (refine gate_guard (by rfl) ?_; dsimp only)); refine box_event ?hg (N := 1) ?hd (cs := #[.string a0_0, .string a0_1, .int .i64 a0_2, .string a0_3, .bool a0_4]) (t := 46) ?hr ?_; (case hd => rfl); (case hg => rfl); (case hr => first | (go_simp; done) | (go_simp; rfl)); intro gb394 hg w12 hbox hb; have n0_ := aS (below_step (by repeat (first | (with_reducible first | exact HB.out | apply bal | apply bdN | apply bdo) | exact HB.out)) hb); have n1_ := aS (hbox); have n2_ := aS ((by rw [hg]; exact (below_size (by repeat (first | (with_reducible first | exact HB.out | apply bal | apply bdN | apply bdo) | exact HB.out))) : w.heap.size ≤ gb394)); have n3_ := aS ((by rw [hg]; exact (below_size (by repeat (first | (with_reducible first | exact HB.out | apply bal | apply bdN | apply bdo) | exact HB.out))) : w.heap.size ≤ gb394)); clear HB; have HB := n0_; have BK394 := n1_; have GW394 := n2_; have GE394 := n3_; clear n0_ n1_ n2_ n3_; clear hb hbox hg; have hcz13_0 : w12.cell? ⟨gb394, 0, none⟩ = some (.string a0_0) := (blk_cell BK394.out 0).trans rfl; have hcz13_1 : w12.cell? ⟨gb394, 1, none⟩ = some (.string a0_1) := (blk_cell BK394.out 1).trans rfl; have hcz13_2 : w12.cell? ⟨gb394, 2, none⟩ = some (.int .i64 a0_2) := (blk_cell BK394.out 2).trans rfl; have hcz13_3 : w12.cell? ⟨gb394, 3, none⟩ = some (.string a0_3) := (blk_cell BK394.out 3).trans rfl; have hcz13_4 : w12.cell? ⟨gb394, 4, none⟩ = some (.bool a0_4) := (blk_cell BK394.out 4).trans rfl; have hfz13_0 := blk_frozen BK394.out 0; have hfz13_1 := blk_frozen BK394.out 1; have hfz13_2 := blk_frozen BK394.out 2; have hfz13_3 := blk_frozen BK394.out 3; have hfz13_4 := blk_frozen BK394.out 4))
     go_ret
     exact ⟨by first | rfl | (simp [errW_none, errW_some] <;> rfl) | (simp [*, errW_none, errW_some] <;> rfl), by repeat (first | (with_reducible first | exact HB.out | apply bal | apply bdN | apply bdo | refine below_set ?_ GE394.out) | exact HB.out)⟩
    ·
     rw [if_neg c11] at H
     have c11b0 : decide (64 < (a0_1.size : Int)) = false := decide_eq_false c11
     have c11b1 : decide (64 < a0_1.size) = false := decide_eq_false (by omega)
     clear c11
     by_cases c14 : a0_2 < 0
     ·
      rw [if_pos c14] at H
      have c14b0 : decide (a0_2 < 0) = true := decide_eq_true c14
      clear c14
      obtain rfl := Option.some.inj H
      go_enter Try.func21, Try.ntmps21
      go_wp2_with (first | ((with_reducible refine gate_dst (N := 1) rfl ?_); (try (refine gate_guard (by rfl) ?_; dsimp only)); refine box_event ?hg (N := 1) ?hd (cs := #[.string a0_0, .string a0_1, .int .i64 a0_2, .string a0_3, .bool a0_4]) (t := 46) ?hr ?_; (case hd => rfl); (case hg => rfl); (case hr => first | (go_simp; done) | (go_simp; rfl)); intro gb394 hg w15 hbox hb; have n0_ := aS (below_step (by repeat (first | (with_reducible first | exact HB.out | apply bal | apply bdN | apply bdo) | exact HB.out)) hb); have n1_ := aS (hbox); have n2_ := aS ((by rw [hg]; exact (below_size (by repeat (first | (with_reducible first | exact HB.out | apply bal | apply bdN | apply bdo) | exact HB.out))) : w.heap.size ≤ gb394)); have n3_ := aS ((by rw [hg]; exact (below_size (by repeat (first | (with_reducible first | exact HB.out | apply bal | apply bdN | apply bdo) | exact HB.out))) : w.heap.size ≤ gb394)); clear HB; have HB := n0_; have BK394 := n1_; have GW394 := n2_; have GE394 := n3_; clear n0_ n1_ n2_ n3_; clear hb hbox hg; have hcz16_0 : w15.cell? ⟨gb394, 0, none⟩ = some (.string a0_0) := (blk_cell BK394.out 0).trans rfl; have hcz16_1 : w15.cell? ⟨gb394, 1, none⟩ = some (.string a0_1) := (blk_cell BK394.out 1).trans rfl; have hcz16_2 : w15.cell? ⟨gb394, 2, none⟩ = some (.int .i64 a0_2) := (blk_cell BK394.out 2).trans rfl; have hcz16_3 : w15.cell? ⟨gb394, 3, none⟩ = some (.string a0_3) := (blk_cell BK394.out 3).trans rfl; have hcz16_4 : w15.cell? ⟨gb394, 4, none⟩ = some (.bool a0_4) := (blk_cell BK394.out 4).trans rfl; have hfz16_0 := blk_frozen BK394.out 0; have hfz16_1 := blk_frozen BK394.out 1; have hfz16_2 := blk_frozen BK394.out 2; have hfz16_3 := blk_frozen BK394.out 3; have hfz16_4 := blk_frozen BK394.out 4))
      go_ret
      exact ⟨by first | rfl | (simp [errW_none, errW_some] <;> rfl) | (simp [*, errW_none, errW_some] <;> rfl), by repeat (first | (with_reducible first | exact HB.out | apply bal | apply bdN | apply bdo | refine below_set ?_ GE394.out) | exact HB.out)⟩
     ·
      rw [if_neg c14] at H
      have c14b0 : decide (a0_2 < 0) = false := decide_eq_false c14
      clear c14
      by_cases c17 : a0_2 > 4294967295
      ·
       rw [if_pos c17] at H
       have c17b0 : decide (4294967295 < a0_2) = true := decide_eq_true c17
       clear c17
       obtain rfl := Option.some.inj H
       go_enter Try.func21, Try.ntmps21
       go_wp2_with (first | ((with_reducible refine gate_dst (N := 1) rfl ?_); (try (refine gate_guard (by rfl) ?_; dsimp only)); refine box_event ?hg (N := 1) ?hd (cs := #[.string a0_0, .string a0_1, .int .i64 a0_2, .string a0_3, .bool a0_4]) (t := 46) ?hr ?_; (case hd => rfl); (case hg => rfl); (case hr => first | (go_simp; done) | (go_simp; rfl)); intro gb394 hg w18 hbox hb; have n0_ := aS (below_step (by repeat (first | (with_reducible first | exact HB.out | apply bal | apply bdN | apply bdo) | exact HB.out)) hb); have n1_ := aS (hbox); have n2_ := aS ((by rw [hg]; exact (below_size (by repeat (first | (with_reducible first | exact HB.out | apply bal | apply bdN | apply bdo) | exact HB.out))) : w.heap.size ≤ gb394)); have n3_ := aS ((by rw [hg]; exact (below_size (by repeat (first | (with_reducible first | exact HB.out | apply bal | apply bdN | apply bdo) | exact HB.out))) : w.heap.size ≤ gb394)); clear HB; have HB := n0_; have BK394 := n1_; have GW394 := n2_; have GE394 := n3_; clear n0_ n1_ n2_ n3_; clear hb hbox hg; have hcz19_0 : w18.cell? ⟨gb394, 0, none⟩ = some (.string a0_0) := (blk_cell BK394.out 0).trans rfl; have hcz19_1 : w18.cell? ⟨gb394, 1, none⟩ = some (.string a0_1) := (blk_cell BK394.out 1).trans rfl; have hcz19_2 : w18.cell? ⟨gb394, 2, none⟩ = some (.int .i64 a0_2) := (blk_cell BK394.out 2).trans rfl; have hcz19_3 : w18.cell? ⟨gb394, 3, none⟩ = some (.string a0_3) := (blk_cell BK394.out 3).trans rfl; have hcz19_4 : w18.cell? ⟨gb394, 4, none⟩ = some (.bool a0_4) := (blk_cell BK394.out 4).trans rfl; have hfz19_0 := blk_frozen BK394.out 0; have hfz19_1 := blk_frozen BK394.out 1; have hfz19_2 := blk_frozen BK394.out 2; have hfz19_3 := blk_frozen BK394.out 3; have hfz19_4 := blk_frozen BK394.out 4))
       go_ret
       exact ⟨by first | rfl | (simp [errW_none, errW_some] <;> rfl) | (simp [*, errW_none, errW_some] <;> rfl), by repeat (first | (with_reducible first | exact HB.out | apply bal | apply bdN | apply bdo | refine below_set ?_ GE394.out) | exact HB.out)⟩
      ·
       rw [if_neg c17] at H
       have c17b0 : decide (4294967295 < a0_2) = false := decide_eq_false c17
       clear c17
       by_cases c20 : (a0_3.size : Int) ≤ 256
       ·
        rw [if_pos c20] at H
        have c20b0 : decide ((a0_3.size : Int) ≤ 256) = true := decide_eq_true c20
        have c20b1 : decide (a0_3.size ≤ 256) = true := decide_eq_true (by omega)
        clear c20
        by_cases c21 : a0_4 = true
        ·
         subst c21
         have H1 : (some (a0_3.toList == ([] : List UInt8))) = some r := by rw [if_pos rfl] at H; exact H
         clear H; have H := H1; clear H1
         obtain rfl := Option.some.inj H
         go_enter Try.func21, Try.ntmps21
         go_wp2_with (first | ((with_reducible refine gate_dst (N := 1) rfl ?_); (try (refine gate_guard (by rfl) ?_; dsimp only)); refine box_event ?hg (N := 1) ?hd (cs := #[.string a0_0, .string a0_1, .int .i64 a0_2, .string a0_3, .bool true]) (t := 46) ?hr ?_; (case hd => rfl); (case hg => rfl); (case hr => first | (go_simp; done) | (go_simp; rfl)); intro gb394 hg w22 hbox hb; have n0_ := aS (below_step (by repeat (first | (with_reducible first | exact HB.out | apply bal | apply bdN | apply bdo) | exact HB.out)) hb); have n1_ := aS (hbox); have n2_ := aS ((by rw [hg]; exact (below_size (by repeat (first | (with_reducible first | exact HB.out | apply bal | apply bdN | apply bdo) | exact HB.out))) : w.heap.size ≤ gb394)); have n3_ := aS ((by rw [hg]; exact (below_size (by repeat (first | (with_reducible first | exact HB.out | apply bal | apply bdN | apply bdo) | exact HB.out))) : w.heap.size ≤ gb394)); clear HB; have HB := n0_; have BK394 := n1_; have GW394 := n2_; have GE394 := n3_; clear n0_ n1_ n2_ n3_; clear hb hbox hg; have hcz23_0 : w22.cell? ⟨gb394, 0, none⟩ = some (.string a0_0) := (blk_cell BK394.out 0).trans rfl; have hcz23_1 : w22.cell? ⟨gb394, 1, none⟩ = some (.string a0_1) := (blk_cell BK394.out 1).trans rfl; have hcz23_2 : w22.cell? ⟨gb394, 2, none⟩ = some (.int .i64 a0_2) := (blk_cell BK394.out 2).trans rfl; have hcz23_3 : w22.cell? ⟨gb394, 3, none⟩ = some (.string a0_3) := (blk_cell BK394.out 3).trans rfl; have hcz23_4 : w22.cell? ⟨gb394, 4, none⟩ = some (.bool true) := (blk_cell BK394.out 4).trans rfl; have hfz23_0 := blk_frozen BK394.out 0; have hfz23_1 := blk_frozen BK394.out 1; have hfz23_2 := blk_frozen BK394.out 2; have hfz23_3 := blk_frozen BK394.out 3; have hfz23_4 := blk_frozen BK394.out 4))
         go_ret
         exact ⟨by first | rfl | (simp [errW_none, errW_some] <;> rfl) | (simp [*, errW_none, errW_some] <;> rfl), by repeat (first | (with_reducible first | exact HB.out | apply bal | apply bdN | apply bdo | refine below_set ?_ GE394.out) | exact HB.out)⟩
        ·
         replace c21 := Bool.eq_false_iff.mpr c21
         subst c21
         have H1 : (some true) = some r := by rw [if_neg (show ¬ (false = true) by decide)] at H; exact H
         clear H; have H := H1; clear H1
         obtain rfl := Option.some.inj H
         go_enter Try.func21, Try.ntmps21
         go_wp2_with (first | ((with_reducible refine gate_dst (N := 1) rfl ?_); (try (refine gate_guard (by rfl) ?_; dsimp only)); refine box_event ?hg (N := 1) ?hd (cs := #[.string a0_0, .string a0_1, .int .i64 a0_2, .string a0_3, .bool false]) (t := 46) ?hr ?_; (case hd => rfl); (case hg => rfl); (case hr => first | (go_simp; done) | (go_simp; rfl)); intro gb394 hg w24 hbox hb; have n0_ := aS (below_step (by repeat (first | (with_reducible first | exact HB.out | apply bal | apply bdN | apply bdo) | exact HB.out)) hb); have n1_ := aS (hbox); have n2_ := aS ((by rw [hg]; exact (below_size (by repeat (first | (with_reducible first | exact HB.out | apply bal | apply bdN | apply bdo) | exact HB.out))) : w.heap.size ≤ gb394)); have n3_ := aS ((by rw [hg]; exact (below_size (by repeat (first | (with_reducible first | exact HB.out | apply bal | apply bdN | apply bdo) | exact HB.out))) : w.heap.size ≤ gb394)); clear HB; have HB := n0_; have BK394 := n1_; have GW394 := n2_; have GE394 := n3_; clear n0_ n1_ n2_ n3_; clear hb hbox hg; have hcz25_0 : w24.cell? ⟨gb394, 0, none⟩ = some (.string a0_0) := (blk_cell BK394.out 0).trans rfl; have hcz25_1 : w24.cell? ⟨gb394, 1, none⟩ = some (.string a0_1) := (blk_cell BK394.out 1).trans rfl; have hcz25_2 : w24.cell? ⟨gb394, 2, none⟩ = some (.int .i64 a0_2) := (blk_cell BK394.out 2).trans rfl; have hcz25_3 : w24.cell? ⟨gb394, 3, none⟩ = some (.string a0_3) := (blk_cell BK394.out 3).trans rfl; have hcz25_4 : w24.cell? ⟨gb394, 4, none⟩ = some (.bool false) := (blk_cell BK394.out 4).trans rfl; have hfz25_0 := blk_frozen BK394.out 0; have hfz25_1 := blk_frozen BK394.out 1; have hfz25_2 := blk_frozen BK394.out 2; have hfz25_3 := blk_frozen BK394.out 3; have hfz25_4 := blk_frozen BK394.out 4))
         go_ret
         exact ⟨by first | rfl | (simp [errW_none, errW_some] <;> rfl) | (simp [*, errW_none, errW_some] <;> rfl), by repeat (first | (with_reducible first | exact HB.out | apply bal | apply bdN | apply bdo | refine below_set ?_ GE394.out) | exact HB.out)⟩
       ·
        rw [if_neg c20] at H
        have c20b0 : decide ((a0_3.size : Int) ≤ 256) = false := decide_eq_false c20
        have c20b1 : decide (a0_3.size ≤ 256) = false := decide_eq_false (by omega)
        clear c20
        obtain rfl := Option.some.inj H
        go_enter Try.func21, Try.ntmps21
        go_wp2_with (first | ((with_reducible refine gate_dst (N := 1) rfl ?_); (try (refine gate_guard (by rfl) ?_; dsimp only)); refine box_event ?hg (N := 1) ?hd (cs := #[.string a0_0, .string a0_1, .int .i64 a0_2, .string a0_3, .bool a0_4]) (t := 46) ?hr ?_; (case hd => rfl); (case hg => rfl); (case hr => first | (go_simp; done) | (go_simp; rfl)); intro gb394 hg w26 hbox hb; have n0_ := aS (below_step (by repeat (first | (with_reducible first | exact HB.out | apply bal | apply bdN | apply bdo) | exact HB.out)) hb); have n1_ := aS (hbox); have n2_ := aS ((by rw [hg]; exact (below_size (by repeat (first | (with_reducible first | exact HB.out | apply bal | apply bdN | apply bdo) | exact HB.out))) : w.heap.size ≤ gb394)); have n3_ := aS ((by rw [hg]; exact (below_size (by repeat (first | (with_reducible first | exact HB.out | apply bal | apply bdN | apply bdo) | exact HB.out))) : w.heap.size ≤ gb394)); clear HB; have HB := n0_; have BK394 := n1_; have GW394 := n2_; have GE394 := n3_; clear n0_ n1_ n2_ n3_; clear hb hbox hg; have hcz27_0 : w26.cell? ⟨gb394, 0, none⟩ = some (.string a0_0) := (blk_cell BK394.out 0).trans rfl; have hcz27_1 : w26.cell? ⟨gb394, 1, none⟩ = some (.string a0_1) := (blk_cell BK394.out 1).trans rfl; have hcz27_2 : w26.cell? ⟨gb394, 2, none⟩ = some (.int .i64 a0_2) := (blk_cell BK394.out 2).trans rfl; have hcz27_3 : w26.cell? ⟨gb394, 3, none⟩ = some (.string a0_3) := (blk_cell BK394.out 3).trans rfl; have hcz27_4 : w26.cell? ⟨gb394, 4, none⟩ = some (.bool a0_4) := (blk_cell BK394.out 4).trans rfl; have hfz27_0 := blk_frozen BK394.out 0; have hfz27_1 := blk_frozen BK394.out 1; have hfz27_2 := blk_frozen BK394.out 2; have hfz27_3 := blk_frozen BK394.out 3; have hfz27_4 := blk_frozen BK394.out 4))
        go_ret
        exact ⟨by first | rfl | (simp [errW_none, errW_some] <;> rfl) | (simp [*, errW_none, errW_some] <;> rfl), by repeat (first | (with_reducible first | exact HB.out | apply bal | apply bdN | apply bdo | refine below_set ?_ GE394.out) | exact HB.out)⟩

/-! ### shardlogref08_Text: function 43 -/
mutual
def shardlogref08_Text.l0 : Nat → ByteArray → ByteArray → Int → Option (Int)
 | 0, _, _, _ => none
 | k + 1, x0, x1, x5 => if x5 < (x0.size : Int) then (shardlogref08_Text.j1 k x0 x1 x5 (decide (x5 < (x1.size : Int)))) else (shardlogref08_Text.j1 k x0 x1 x5 false)
def shardlogref08_Text.j1 : Nat → ByteArray → ByteArray → Int → Bool → Option (Int)
 | 0, _, _, _, _ => none
 | k + 1, x0, x1, x5, x15 => if x15 = true then (if 0 ≤ x5 then (if x5 < (x0.size : Int) then (if x5 < (x1.size : Int) then (if (bt x0 x5) < (bt x1 x5) then (some (-1)) else (if (bt x0 x5) > (bt x1 x5) then (some 1) else (shardlogref08_Text.l0 k x0 x1 (wrap64 (x5 + 1))))) else (none)) else (none)) else (none)) else (if (x0.size : Int) < (x1.size : Int) then (some (-1)) else (if (x0.size : Int) > (x1.size : Int) then (some 1) else (some 0)))
end
def shardlogref08_Text.f (k : Nat) (a0 : ByteArray) (a1 : ByteArray) : Option (Int) := shardlogref08_Text.l0 k a0 a1 0
theorem shardlogref08_Text.mono_l : ∀ k, (∀ y0 y1 y2, LeO (shardlogref08_Text.l0 k y0 y1 y2) (shardlogref08_Text.l0 (k + 1) y0 y1 y2)) ∧ (∀ y0 y1 y2 y3, LeO (shardlogref08_Text.j1 k y0 y1 y2 y3) (shardlogref08_Text.j1 (k + 1) y0 y1 y2 y3))
 | 0 => ⟨fun _ _ _ r h => by simp [shardlogref08_Text.l0] at h, fun _ _ _ _ r h => by simp [shardlogref08_Text.j1] at h⟩
 | k + 1 => by
  obtain ⟨ih0, ih1⟩ := shardlogref08_Text.mono_l k
  refine ⟨?_, ?_⟩
  ·
   intro y0 y1 y2
   unfold shardlogref08_Text.l0
   repeat' first
   | (with_reducible exact ih0 _ _ _)
   | (with_reducible exact ih1 _ _ _ _)
   | (with_reducible exact LeO.refl _)
   | (with_reducible exact LeO.none _)
   | (with_reducible refine LeO.ite ?_ ?_)
   | (with_reducible refine LeO.bind ?_ (fun _ => ?_))
   | exact ih0 _ _ _
   | exact ih1 _ _ _ _
   | exact LeO.none _
   | refine LeO.ite ?_ ?_
   | refine LeO.bind ?_ (fun _ => ?_)
  ·
   intro y0 y1 y2 y3
   unfold shardlogref08_Text.j1
   repeat' first
   | (with_reducible exact ih0 _ _ _)
   | (with_reducible exact ih1 _ _ _ _)
   | (with_reducible exact LeO.refl _)
   | (with_reducible exact LeO.none _)
   | (with_reducible refine LeO.ite ?_ ?_)
   | (with_reducible refine LeO.bind ?_ (fun _ => ?_))
   | exact ih0 _ _ _
   | exact ih1 _ _ _ _
   | exact LeO.none _
   | refine LeO.ite ?_ ?_
   | refine LeO.bind ?_ (fun _ => ?_)
theorem shardlogref08_Text.mono : ∀ a0 a1 k, LeO (shardlogref08_Text.f k a0 a1) (shardlogref08_Text.f (k + 1) a0 a1) := by
 intro a0 a1 k
 obtain ⟨ih0, ih1⟩ := shardlogref08_Text.mono_l k
 unfold shardlogref08_Text.f
 repeat' first
   | (with_reducible exact ih0 _ _ _)
   | (with_reducible exact ih1 _ _ _ _)
   | (with_reducible exact LeO.refl _)
   | (with_reducible exact LeO.none _)
   | (with_reducible refine LeO.ite ?_ ?_)
   | (with_reducible refine LeO.bind ?_ (fun _ => ?_))
   | exact ih0 _ _ _
   | exact ih1 _ _ _ _
   | exact LeO.none _
   | refine LeO.ite ?_ ?_
   | refine LeO.bind ?_ (fun _ => ?_)
set_option maxHeartbeats 8000000 in
set_option maxRecDepth 100000 in
theorem shardlogref08_Text.calls (k : Nat) (a0 : ByteArray) (a1 : ByteArray) (r : Int) (w : World) (h : shardlogref08_Text.f k a0 a1 = some r) :
  Calls Try.prog 43 #[.string a0, .string a1] w fun e w' => e = .returned (.int .i64 r) ∧ Drawn0 w w' := by
 have H : (shardlogref08_Text.l0 k a0 a1 0) = some r := h
 clear h
 have H' := aS H
 clear H
 go_enter Try.func43, Try.ntmps43
 go_wp2
 repeat (go_quiet (fail); try go_wp2)
 go_loopg [5] k (fun kq v5 w' => ∃ (x5_1 : Int), v5 = .int .i64 x5_1 ∧ Aside0 (shardlogref08_Text.l0 kq a0 a1 x5_1 = some r) ∧ Aside0 (kq ≤ k) ∧ Drawn0 w w')
 case atStart => exact ⟨(0), (by first | rfl | (simp; done) | (simp [*]; done) | (simp; exact (by decide : ∀ a_ b_ : Bool, (a_ == b_) = (!a_ != b_)) _ _)), H', ⟨Nat.le_refl _⟩, by repeat (first | exact Drawn0.refl _ | apply Drawn0.step)⟩
 case round =>
  clear H'; (try clear p2)
  obtain ⟨x5_1, rfl, HA, HK1, ⟨m1, rfl⟩⟩ := hrel
  cases gk with
  | zero => exact absurd HA.out (by simp [shardlogref08_Text.l0])
  | succ k1 =>
   have H := HA.out; clear HA
   simp only [shardlogref08_Text.l0] at H
   have HC3 := aS H
   clear H
   go_upto_region 2 with (fail)
   repeat (go_quiet (fail); go_upto_region 2 with (fail))
   go_cut [15] (fun v15 wc => ∃ (kq : Nat) (x15_2 : Bool), v15 = .bool x15_2 ∧ Aside0 (shardlogref08_Text.j1 kq a0 a1 x5_1 x15_2 = some r) ∧ Aside0 (kq ≤ k1) ∧ Drawn0 w wc)
   case first =>
    have H := HC3.out; clear HC3
    by_cases c4 : x5_1 < (a0.size : Int)
    ·
     rw [if_pos c4] at H
     have c4b0 : decide (x5_1 < (a0.size : Int)) = true := decide_eq_true c4
     clear c4
     (first | rw [c4b0] | (simp only [i64_w, i32_w]; rw [c4b0]) | skip)
     have H' := aS H
     clear H
     go_wp2
     repeat (go_quiet (fail); try go_wp2)
     go_meet
     case rel => exact ⟨_, (decide (x5_1 < (a1.size : Int))), (by first | rfl | (simp; done) | (simp [*]; done) | (simp; exact (by decide : ∀ a_ b_ : Bool, (a_ == b_) = (!a_ != b_)) _ _)), H', ⟨by have := HK1.out; first | omega | exact Nat.le_refl _⟩, by repeat (first | exact Drawn0.refl _ | apply Drawn0.step)⟩
    ·
     rw [if_neg c4] at H
     have c4b0 : decide (x5_1 < (a0.size : Int)) = false := decide_eq_false c4
     clear c4
     (first | rw [c4b0] | (simp only [i64_w, i32_w]; rw [c4b0]) | skip)
     have H' := aS H
     clear H
     go_wp2
     repeat (go_quiet (fail); try go_wp2)
     go_meet
     case rel => exact ⟨_, (false), (by first | rfl | (simp; done) | (simp [*]; done) | (simp; exact (by decide : ∀ a_ b_ : Bool, (a_ == b_) = (!a_ != b_)) _ _)), H', ⟨by have := HK1.out; first | omega | exact Nat.le_refl _⟩, by repeat (first | exact Drawn0.refl _ | apply Drawn0.step)⟩
   case rest =>
    clear HC3; (try clear p2); (try clear c4); (try clear c4b0); (try clear p2)
    obtain ⟨kq, x15_2, rfl, HA, HJ2, ⟨mc2, rfl⟩⟩ := hcut
    cases kq with
    | zero => exact absurd HA.out (by simp [shardlogref08_Text.j1])
    | succ kj2 =>
     have H := HA.out; clear HA
     simp only [shardlogref08_Text.j1] at H
     by_cases c5 : x15_2 = true
     ·
      subst c5
      have H1 : (if 0 ≤ x5_1 then (if x5_1 < (a0.size : Int) then (if x5_1 < (a1.size : Int) then (if (bt a0 x5_1) < (bt a1 x5_1) then (some (-1)) else (if (bt a0 x5_1) > (bt a1 x5_1) then (some 1) else (shardlogref08_Text.l0 kj2 a0 a1 (wrap64 (x5_1 + 1))))) else (none)) else (none)) else (none)) = some r := by rw [if_pos rfl] at H; exact H
      clear H; have H := H1; clear H1
      by_cases c6 : 0 ≤ x5_1
      ·
       rw [if_pos c6] at H
       have c6b0 : decide (0 ≤ x5_1) = true := decide_eq_true c6
       clear c6
       by_cases c7 : x5_1 < (a0.size : Int)
       ·
        rw [if_pos c7] at H
        have c7b0 : decide (x5_1 < (a0.size : Int)) = true := decide_eq_true c7
        clear c7
        by_cases c9 : x5_1 < (a1.size : Int)
        ·
         rw [if_pos c9] at H
         have c9b0 : decide (x5_1 < (a1.size : Int)) = true := decide_eq_true c9
         clear c9
         by_cases c11 : (bt a0 x5_1) < (bt a1 x5_1)
         ·
          rw [if_pos c11] at H
          have c11b0 : decide ((bt a0 x5_1) < (bt a1 x5_1)) = true := decide_eq_true c11
          clear c11
          obtain rfl := Option.some.inj H
          have p8 : 0 ≤ (x5_1 : Int) := odt (by first | (with_reducible assumption) | assumption)
          have q8 : x5_1 < (a0.size : Int) := odt (by first | (with_reducible assumption) | assumption)
          have hx8 := bt_at a0 x5_1
          replace p8 := eq_true p8
          replace q8 := eq_true q8
          have p10 : 0 ≤ (x5_1 : Int) := odt (by first | (with_reducible assumption) | assumption)
          have q10 : x5_1 < (a1.size : Int) := odt (by first | (with_reducible assumption) | assumption)
          have hx10 := bt_at a1 x5_1
          replace p10 := eq_true p10
          replace q10 := eq_true q10
          go_wp2
          repeat (go_quiet (fail); try go_wp2)
          go_ret
          exact ⟨by first | rfl | (simp; done) | (simp [*]; done) | (simp; exact (by decide : ∀ a_ b_ : Bool, (a_ == b_) = (!a_ != b_)) _ _), by repeat (first | exact Drawn0.refl _ | apply Drawn0.step)⟩
         ·
          rw [if_neg c11] at H
          have c11b0 : decide ((bt a0 x5_1) < (bt a1 x5_1)) = false := decide_eq_false c11
          clear c11
          by_cases c14 : (bt a0 x5_1) > (bt a1 x5_1)
          ·
           rw [if_pos c14] at H
           have c14b0 : decide ((bt a1 x5_1) < (bt a0 x5_1)) = true := decide_eq_true c14
           clear c14
           obtain rfl := Option.some.inj H
           have p8 : 0 ≤ (x5_1 : Int) := odt (by first | (with_reducible assumption) | assumption)
           have q8 : x5_1 < (a0.size : Int) := odt (by first | (with_reducible assumption) | assumption)
           have hx8 := bt_at a0 x5_1
           replace p8 := eq_true p8
           replace q8 := eq_true q8
           have p10 : 0 ≤ (x5_1 : Int) := odt (by first | (with_reducible assumption) | assumption)
           have q10 : x5_1 < (a1.size : Int) := odt (by first | (with_reducible assumption) | assumption)
           have hx10 := bt_at a1 x5_1
           replace p10 := eq_true p10
           replace q10 := eq_true q10
           have p12 : 0 ≤ (x5_1 : Int) := odt (by first | (with_reducible assumption) | assumption)
           have q12 : x5_1 < (a0.size : Int) := odt (by first | (with_reducible assumption) | assumption)
           have hx12 := bt_at a0 x5_1
           replace p12 := eq_true p12
           replace q12 := eq_true q12
           have p13 : 0 ≤ (x5_1 : Int) := odt (by first | (with_reducible assumption) | assumption)
           have q13 : x5_1 < (a1.size : Int) := odt (by first | (with_reducible assumption) | assumption)
           have hx13 := bt_at a1 x5_1
           replace p13 := eq_true p13
           replace q13 := eq_true q13
           go_wp2
           repeat (go_quiet (fail); try go_wp2)
           go_ret
           exact ⟨by first | rfl | (simp; done) | (simp [*]; done) | (simp; exact (by decide : ∀ a_ b_ : Bool, (a_ == b_) = (!a_ != b_)) _ _), by repeat (first | exact Drawn0.refl _ | apply Drawn0.step)⟩
          ·
           rw [if_neg c14] at H
           have c14b0 : decide ((bt a1 x5_1) < (bt a0 x5_1)) = false := decide_eq_false c14
           clear c14
           have H' := aS H
           clear H
           have p8 : 0 ≤ (x5_1 : Int) := odt (by first | (with_reducible assumption) | assumption)
           have q8 : x5_1 < (a0.size : Int) := odt (by first | (with_reducible assumption) | assumption)
           have hx8 := bt_at a0 x5_1
           replace p8 := eq_true p8
           replace q8 := eq_true q8
           have p10 : 0 ≤ (x5_1 : Int) := odt (by first | (with_reducible assumption) | assumption)
           have q10 : x5_1 < (a1.size : Int) := odt (by first | (with_reducible assumption) | assumption)
           have hx10 := bt_at a1 x5_1
           replace p10 := eq_true p10
           replace q10 := eq_true q10
           have p12 : 0 ≤ (x5_1 : Int) := odt (by first | (with_reducible assumption) | assumption)
           have q12 : x5_1 < (a0.size : Int) := odt (by first | (with_reducible assumption) | assumption)
           have hx12 := bt_at a0 x5_1
           replace p12 := eq_true p12
           replace q12 := eq_true q12
           have p13 : 0 ≤ (x5_1 : Int) := odt (by first | (with_reducible assumption) | assumption)
           have q13 : x5_1 < (a1.size : Int) := odt (by first | (with_reducible assumption) | assumption)
           have hx13 := bt_at a1 x5_1
           replace p13 := eq_true p13
           replace q13 := eq_true q13
           go_wp2
           repeat (go_quiet (fail); try go_wp2)
           go_roundg kj2
           case measure => have := HK1.out; have := HJ2.out; omega
           case rel => exact ⟨(wrap64 (x5_1 + 1)), (by first | rfl | (simp; done) | (simp [*]; done) | (simp; exact (by decide : ∀ a_ b_ : Bool, (a_ == b_) = (!a_ != b_)) _ _)), H', ⟨by have := HK1.out; have := HJ2.out; omega⟩, by repeat (first | exact Drawn0.refl _ | apply Drawn0.step)⟩
        ·
         rw [if_neg c9] at H
         exact absurd H (by simp)
       ·
        rw [if_neg c7] at H
        exact absurd H (by simp)
      ·
       rw [if_neg c6] at H
       exact absurd H (by simp)
     ·
      replace c5 := Bool.eq_false_iff.mpr c5
      subst c5
      have H1 : (if (a0.size : Int) < (a1.size : Int) then (some (-1)) else (if (a0.size : Int) > (a1.size : Int) then (some 1) else (some 0))) = some r := by rw [if_neg (show ¬ (false = true) by decide)] at H; exact H
      clear H; have H := H1; clear H1
      by_cases c15 : (a0.size : Int) < (a1.size : Int)
      ·
       rw [if_pos c15] at H
       have c15b0 : decide ((a0.size : Int) < (a1.size : Int)) = true := decide_eq_true c15
       have c15b1 : decide (a0.size < a1.size) = true := decide_eq_true (Int.ofNat_lt.mp c15)
       clear c15
       obtain rfl := Option.some.inj H
       go_wp2
       repeat (go_quiet (fail); try go_wp2)
       go_ret
       exact ⟨by first | rfl | (simp; done) | (simp [*]; done) | (simp; exact (by decide : ∀ a_ b_ : Bool, (a_ == b_) = (!a_ != b_)) _ _), by repeat (first | exact Drawn0.refl _ | apply Drawn0.step)⟩
      ·
       rw [if_neg c15] at H
       have c15b0 : decide ((a0.size : Int) < (a1.size : Int)) = false := decide_eq_false c15
       have c15b1 : decide (a0.size < a1.size) = false := decide_eq_false (fun h => c15 (Int.ofNat_lt.mpr h))
       clear c15
       by_cases c16 : (a0.size : Int) > (a1.size : Int)
       ·
        rw [if_pos c16] at H
        have c16b0 : decide ((a1.size : Int) < (a0.size : Int)) = true := decide_eq_true c16
        have c16b1 : decide (a1.size < a0.size) = true := decide_eq_true (Int.ofNat_lt.mp c16)
        clear c16
        obtain rfl := Option.some.inj H
        go_wp2
        repeat (go_quiet (fail); try go_wp2)
        go_ret
        exact ⟨by first | rfl | (simp; done) | (simp [*]; done) | (simp; exact (by decide : ∀ a_ b_ : Bool, (a_ == b_) = (!a_ != b_)) _ _), by repeat (first | exact Drawn0.refl _ | apply Drawn0.step)⟩
       ·
        rw [if_neg c16] at H
        have c16b0 : decide ((a1.size : Int) < (a0.size : Int)) = false := decide_eq_false c16
        have c16b1 : decide (a1.size < a0.size) = false := decide_eq_false (fun h => c16 (Int.ofNat_lt.mpr h))
        clear c16
        obtain rfl := Option.some.inj H
        go_wp2
        repeat (go_quiet (fail); try go_wp2)
        go_ret
        exact ⟨by first | rfl | (simp; done) | (simp [*]; done) | (simp; exact (by decide : ∀ a_ b_ : Bool, (a_ == b_) = (!a_ != b_)) _ _), by repeat (first | exact Drawn0.refl _ | apply Drawn0.step)⟩

/-! ### shardlogref08_Compare: function 26 -/
def shardlogref08_Compare.f (k : Nat) (a0_0 : ByteArray) (a0_1 : ByteArray) (a0_2 : Int) (a0_3 : ByteArray) (a0_4 : Bool) (a1_0 : ByteArray) (a1_1 : ByteArray) (a1_2 : Int) (a1_3 : ByteArray) (a1_4 : Bool) : Option (Int) := if a0_0.toList = a1_0.toList then (if a0_1.toList = a1_1.toList then (if a0_2 > a1_2 then (some (-1)) else (if a0_2 < a1_2 then (some 1) else (some 0))) else ((shardlogref08_Text.f k a0_1 a1_1).bind fun t398 => (some t398))) else ((shardlogref08_Text.f k a0_0 a1_0).bind fun t397 => (some t397))
theorem shardlogref08_Compare.mono : ∀ a0 a1 a2 a3 a4 a5 a6 a7 a8 a9 k, LeO (shardlogref08_Compare.f k a0 a1 a2 a3 a4 a5 a6 a7 a8 a9) (shardlogref08_Compare.f (k + 1) a0 a1 a2 a3 a4 a5 a6 a7 a8 a9) := by
 intro a0 a1 a2 a3 a4 a5 a6 a7 a8 a9 k
 unfold shardlogref08_Compare.f
 repeat' first
   | (with_reducible exact shardlogref08_Text.mono _ _ _)
   | (with_reducible exact LeO.refl _)
   | (with_reducible exact LeO.none _)
   | (with_reducible refine LeO.ite ?_ ?_)
   | (with_reducible refine LeO.bind ?_ (fun _ => ?_))
   | exact shardlogref08_Text.mono _ _ _
   | exact LeO.none _
   | refine LeO.ite ?_ ?_
   | refine LeO.bind ?_ (fun _ => ?_)
set_option maxHeartbeats 8000000 in
set_option maxRecDepth 100000 in
theorem shardlogref08_Compare.calls (k : Nat) (a0_0 : ByteArray) (a0_1 : ByteArray) (a0_2 : Int) (a0_3 : ByteArray) (a0_4 : Bool) (a1_0 : ByteArray) (a1_1 : ByteArray) (a1_2 : Int) (a1_3 : ByteArray) (a1_4 : Bool) (r : Int) (w : World) (h : shardlogref08_Compare.f k a0_0 a0_1 a0_2 a0_3 a0_4 a1_0 a1_1 a1_2 a1_3 a1_4 = some r) :
  Calls Try.prog 26 #[.agg #[.string a0_0, .string a0_1, .int .i64 a0_2, .string a0_3, .bool a0_4], .agg #[.string a1_0, .string a1_1, .int .i64 a1_2, .string a1_3, .bool a1_4]] w fun e w' => e = .returned (.int .i64 r) ∧ Below w.heap.size w w' := by
 have hu46 := Try.underlying46
 have HB := aS (Below.refl w.heap.size w)
 have H : (if a0_0.toList = a1_0.toList then (if a0_1.toList = a1_1.toList then (if a0_2 > a1_2 then (some (-1)) else (if a0_2 < a1_2 then (some 1) else (some 0))) else ((shardlogref08_Text.f k a0_1 a1_1).bind fun t398 => (some t398))) else ((shardlogref08_Text.f k a0_0 a1_0).bind fun t397 => (some t397))) = some r := h
 clear h
 by_cases c3 : a0_0.toList = a1_0.toList
 ·
  rw [if_pos c3] at H
  have c3b0 : (a0_0.toList == a1_0.toList) = true := beq_iff_eq.mpr c3
  have c3b1 : (a0_0.toList != a1_0.toList) = false := bne_eq_false_iff_eq.mpr c3
  clear c3
  by_cases c4 : a0_1.toList = a1_1.toList
  ·
   rw [if_pos c4] at H
   have c4b0 : (a0_1.toList == a1_1.toList) = true := beq_iff_eq.mpr c4
   have c4b1 : (a0_1.toList != a1_1.toList) = false := bne_eq_false_iff_eq.mpr c4
   clear c4
   by_cases c5 : a0_2 > a1_2
   ·
    rw [if_pos c5] at H
    have c5b0 : decide (a1_2 < a0_2) = true := decide_eq_true c5
    clear c5
    obtain rfl := Option.some.inj H
    go_enter Try.func26, Try.ntmps26
    go_wp2_with (first | ((with_reducible refine gate_dst (N := 2) rfl ?_); refine box_event ?hg (N := 2) ?hd (cs := #[.string a0_0, .string a0_1, .int .i64 a0_2, .string a0_3, .bool a0_4]) (t := 46) ?hr ?_; (case hd => rfl); (case hg => rfl); (case hr => first | (go_simp; done) | (go_simp; rfl)); intro gb395 hg w6 hbox hb; have n0_ := aS (below_step (by repeat (first | (with_reducible first | exact HB.out | apply bal | apply bdN | apply bdo) | exact HB.out)) hb); have n1_ := aS (hbox); have n2_ := aS ((by rw [hg]; exact (below_size (by repeat (first | (with_reducible first | exact HB.out | apply bal | apply bdN | apply bdo) | exact HB.out))) : w.heap.size ≤ gb395)); have n3_ := aS ((by rw [hg]; exact (below_size (by repeat (first | (with_reducible first | exact HB.out | apply bal | apply bdN | apply bdo) | exact HB.out))) : w.heap.size ≤ gb395)); clear HB; have HB := n0_; have BK395 := n1_; have GW395 := n2_; have GE395 := n3_; clear n0_ n1_ n2_ n3_; clear hb hbox hg) | ((with_reducible refine gate_dst (N := 3) rfl ?_); refine box_event ?hg (N := 3) ?hd (cs := #[.string a1_0, .string a1_1, .int .i64 a1_2, .string a1_3, .bool a1_4]) (t := 46) ?hr ?_; (case hd => rfl); (case hg => rfl); (case hr => first | (go_simp; done) | (go_simp; rfl)); intro gb396 hg w7 hbox hb; have n0_ := aS (blk_below (g := gb395) (o := .cells #[.string a0_0, .string a0_1, .int .i64 a0_2, .string a0_3, .bool a0_4] 46 (0, 0)) (by (with_reducible repeat (first | refine blk_drewN ?_ _ | refine blk_drew ?_ | refine blk_alloc ?_ _)); exact BK395.out) hb); have n1_ := aS (below_step (by repeat (first | (with_reducible first | exact HB.out | apply bal | apply bdN | apply bdo | refine below_set ?_ GE395.out) | exact HB.out)) hb); have n2_ := aS (hbox); have n3_ := aS ((by rw [hg]; exact (below_size (by repeat (first | (with_reducible first | exact HB.out | apply bal | apply bdN | apply bdo | refine below_set ?_ GE395.out) | exact HB.out))) : w.heap.size ≤ gb396)); have n4_ := aS ((by rw [hg]; exact (below_size (by repeat (first | (with_reducible first | exact HB.out | apply bal | apply bdN | apply bdo | refine below_set ?_ GE395.out) | exact HB.out))) : w.heap.size ≤ gb396)); have n5_ := aS ((by rw [hg]; exact Nat.ne_of_lt (blk_lt (g := gb395) (o := .cells #[.string a0_0, .string a0_1, .int .i64 a0_2, .string a0_3, .bool a0_4] 46 (0, 0)) (by (with_reducible repeat (first | refine blk_drewN ?_ _ | refine blk_drew ?_ | refine blk_alloc ?_ _)); exact BK395.out)) : gb395 ≠ gb396)); have n6_ := aS ((by rw [hg]; exact Nat.ne_of_gt (blk_lt (g := gb395) (o := .cells #[.string a0_0, .string a0_1, .int .i64 a0_2, .string a0_3, .bool a0_4] 46 (0, 0)) (by (with_reducible repeat (first | refine blk_drewN ?_ _ | refine blk_drew ?_ | refine blk_alloc ?_ _)); exact BK395.out)) : gb396 ≠ gb395)); clear BK395; clear HB; have BK395 := n0_; have HB := n1_; have BK396 := n2_; have GW396 := n3_; have GE396 := n4_; have NB395_396 := n5_; have NB396_395 := n6_; clear n0_ n1_ n2_ n3_ n4_ n5_ n6_; clear hb hbox hg; have hnb8 := NB395_396.out; have hnc8 := NB396_395.out; have hcz9_0 : w7.cell? ⟨gb395, 0, none⟩ = some (.string a0_0) := (blk_cell BK395.out 0).trans rfl; have hcz9_1 : w7.cell? ⟨gb395, 1, none⟩ = some (.string a0_1) := (blk_cell BK395.out 1).trans rfl; have hcz9_2 : w7.cell? ⟨gb395, 2, none⟩ = some (.int .i64 a0_2) := (blk_cell BK395.out 2).trans rfl; have hcz9_3 : w7.cell? ⟨gb395, 3, none⟩ = some (.string a0_3) := (blk_cell BK395.out 3).trans rfl; have hcz9_4 : w7.cell? ⟨gb395, 4, none⟩ = some (.bool a0_4) := (blk_cell BK395.out 4).trans rfl; have hfz9_0 := blk_frozen BK395.out 0; have hfz9_1 := blk_frozen BK395.out 1; have hfz9_2 := blk_frozen BK395.out 2; have hfz9_3 := blk_frozen BK395.out 3; have hfz9_4 := blk_frozen BK395.out 4; have hcz10_0 : w7.cell? ⟨gb396, 0, none⟩ = some (.string a1_0) := (blk_cell BK396.out 0).trans rfl; have hcz10_1 : w7.cell? ⟨gb396, 1, none⟩ = some (.string a1_1) := (blk_cell BK396.out 1).trans rfl; have hcz10_2 : w7.cell? ⟨gb396, 2, none⟩ = some (.int .i64 a1_2) := (blk_cell BK396.out 2).trans rfl; have hcz10_3 : w7.cell? ⟨gb396, 3, none⟩ = some (.string a1_3) := (blk_cell BK396.out 3).trans rfl; have hcz10_4 : w7.cell? ⟨gb396, 4, none⟩ = some (.bool a1_4) := (blk_cell BK396.out 4).trans rfl; have hfz10_0 := blk_frozen BK396.out 0; have hfz10_1 := blk_frozen BK396.out 1; have hfz10_2 := blk_frozen BK396.out 2; have hfz10_3 := blk_frozen BK396.out 3; have hfz10_4 := blk_frozen BK396.out 4))
    go_ret
    exact ⟨by first | rfl | (simp [errW_none, errW_some] <;> rfl) | (simp [*, errW_none, errW_some] <;> rfl), by repeat (first | (with_reducible first | exact HB.out | apply bal | apply bdN | apply bdo | refine below_set ?_ GE395.out | refine below_set ?_ GE396.out) | exact HB.out)⟩
   ·
    rw [if_neg c5] at H
    have c5b0 : decide (a1_2 < a0_2) = false := decide_eq_false c5
    clear c5
    by_cases c11 : a0_2 < a1_2
    ·
     rw [if_pos c11] at H
     have c11b0 : decide (a0_2 < a1_2) = true := decide_eq_true c11
     clear c11
     obtain rfl := Option.some.inj H
     go_enter Try.func26, Try.ntmps26
     go_wp2_with (first | ((with_reducible refine gate_dst (N := 2) rfl ?_); refine box_event ?hg (N := 2) ?hd (cs := #[.string a0_0, .string a0_1, .int .i64 a0_2, .string a0_3, .bool a0_4]) (t := 46) ?hr ?_; (case hd => rfl); (case hg => rfl); (case hr => first | (go_simp; done) | (go_simp; rfl)); intro gb395 hg w12 hbox hb; have n0_ := aS (below_step (by repeat (first | (with_reducible first | exact HB.out | apply bal | apply bdN | apply bdo) | exact HB.out)) hb); have n1_ := aS (hbox); have n2_ := aS ((by rw [hg]; exact (below_size (by repeat (first | (with_reducible first | exact HB.out | apply bal | apply bdN | apply bdo) | exact HB.out))) : w.heap.size ≤ gb395)); have n3_ := aS ((by rw [hg]; exact (below_size (by repeat (first | (with_reducible first | exact HB.out | apply bal | apply bdN | apply bdo) | exact HB.out))) : w.heap.size ≤ gb395)); clear HB; have HB := n0_; have BK395 := n1_; have GW395 := n2_; have GE395 := n3_; clear n0_ n1_ n2_ n3_; clear hb hbox hg) | ((with_reducible refine gate_dst (N := 3) rfl ?_); refine box_event ?hg (N := 3) ?hd (cs := #[.string a1_0, .string a1_1, .int .i64 a1_2, .string a1_3, .bool a1_4]) (t := 46) ?hr ?_; (case hd => rfl); (case hg => rfl); (case hr => first | (go_simp; done) | (go_simp; rfl)); intro gb396 hg w13 hbox hb; have n0_ := aS (blk_below (g := gb395) (o := .cells #[.string a0_0, .string a0_1, .int .i64 a0_2, .string a0_3, .bool a0_4] 46 (0, 0)) (by (with_reducible repeat (first | refine blk_drewN ?_ _ | refine blk_drew ?_ | refine blk_alloc ?_ _)); exact BK395.out) hb); have n1_ := aS (below_step (by repeat (first | (with_reducible first | exact HB.out | apply bal | apply bdN | apply bdo | refine below_set ?_ GE395.out) | exact HB.out)) hb); have n2_ := aS (hbox); have n3_ := aS ((by rw [hg]; exact (below_size (by repeat (first | (with_reducible first | exact HB.out | apply bal | apply bdN | apply bdo | refine below_set ?_ GE395.out) | exact HB.out))) : w.heap.size ≤ gb396)); have n4_ := aS ((by rw [hg]; exact (below_size (by repeat (first | (with_reducible first | exact HB.out | apply bal | apply bdN | apply bdo | refine below_set ?_ GE395.out) | exact HB.out))) : w.heap.size ≤ gb396)); have n5_ := aS ((by rw [hg]; exact Nat.ne_of_lt (blk_lt (g := gb395) (o := .cells #[.string a0_0, .string a0_1, .int .i64 a0_2, .string a0_3, .bool a0_4] 46 (0, 0)) (by (with_reducible repeat (first | refine blk_drewN ?_ _ | refine blk_drew ?_ | refine blk_alloc ?_ _)); exact BK395.out)) : gb395 ≠ gb396)); have n6_ := aS ((by rw [hg]; exact Nat.ne_of_gt (blk_lt (g := gb395) (o := .cells #[.string a0_0, .string a0_1, .int .i64 a0_2, .string a0_3, .bool a0_4] 46 (0, 0)) (by (with_reducible repeat (first | refine blk_drewN ?_ _ | refine blk_drew ?_ | refine blk_alloc ?_ _)); exact BK395.out)) : gb396 ≠ gb395)); clear BK395; clear HB; have BK395 := n0_; have HB := n1_; have BK396 := n2_; have GW396 := n3_; have GE396 := n4_; have NB395_396 := n5_; have NB396_395 := n6_; clear n0_ n1_ n2_ n3_ n4_ n5_ n6_; clear hb hbox hg; have hnb14 := NB395_396.out; have hnc14 := NB396_395.out; have hcz15_0 : w13.cell? ⟨gb395, 0, none⟩ = some (.string a0_0) := (blk_cell BK395.out 0).trans rfl; have hcz15_1 : w13.cell? ⟨gb395, 1, none⟩ = some (.string a0_1) := (blk_cell BK395.out 1).trans rfl; have hcz15_2 : w13.cell? ⟨gb395, 2, none⟩ = some (.int .i64 a0_2) := (blk_cell BK395.out 2).trans rfl; have hcz15_3 : w13.cell? ⟨gb395, 3, none⟩ = some (.string a0_3) := (blk_cell BK395.out 3).trans rfl; have hcz15_4 : w13.cell? ⟨gb395, 4, none⟩ = some (.bool a0_4) := (blk_cell BK395.out 4).trans rfl; have hfz15_0 := blk_frozen BK395.out 0; have hfz15_1 := blk_frozen BK395.out 1; have hfz15_2 := blk_frozen BK395.out 2; have hfz15_3 := blk_frozen BK395.out 3; have hfz15_4 := blk_frozen BK395.out 4; have hcz16_0 : w13.cell? ⟨gb396, 0, none⟩ = some (.string a1_0) := (blk_cell BK396.out 0).trans rfl; have hcz16_1 : w13.cell? ⟨gb396, 1, none⟩ = some (.string a1_1) := (blk_cell BK396.out 1).trans rfl; have hcz16_2 : w13.cell? ⟨gb396, 2, none⟩ = some (.int .i64 a1_2) := (blk_cell BK396.out 2).trans rfl; have hcz16_3 : w13.cell? ⟨gb396, 3, none⟩ = some (.string a1_3) := (blk_cell BK396.out 3).trans rfl; have hcz16_4 : w13.cell? ⟨gb396, 4, none⟩ = some (.bool a1_4) := (blk_cell BK396.out 4).trans rfl; have hfz16_0 := blk_frozen BK396.out 0; have hfz16_1 := blk_frozen BK396.out 1; have hfz16_2 := blk_frozen BK396.out 2; have hfz16_3 := blk_frozen BK396.out 3; have hfz16_4 := blk_frozen BK396.out 4))
     go_ret
     exact ⟨by first | rfl | (simp [errW_none, errW_some] <;> rfl) | (simp [*, errW_none, errW_some] <;> rfl), by repeat (first | (with_reducible first | exact HB.out | apply bal | apply bdN | apply bdo | refine below_set ?_ GE395.out | refine below_set ?_ GE396.out) | exact HB.out)⟩
    ·
     rw [if_neg c11] at H
     have c11b0 : decide (a0_2 < a1_2) = false := decide_eq_false c11
     clear c11
     obtain rfl := Option.some.inj H
     go_enter Try.func26, Try.ntmps26
     go_wp2_with (first | ((with_reducible refine gate_dst (N := 2) rfl ?_); refine box_event ?hg (N := 2) ?hd (cs := #[.string a0_0, .string a0_1, .int .i64 a0_2, .string a0_3, .bool a0_4]) (t := 46) ?hr ?_; (case hd => rfl); (case hg => rfl); (case hr => first | (go_simp; done) | (go_simp; rfl)); intro gb395 hg w17 hbox hb; have n0_ := aS (below_step (by repeat (first | (with_reducible first | exact HB.out | apply bal | apply bdN | apply bdo) | exact HB.out)) hb); have n1_ := aS (hbox); have n2_ := aS ((by rw [hg]; exact (below_size (by repeat (first | (with_reducible first | exact HB.out | apply bal | apply bdN | apply bdo) | exact HB.out))) : w.heap.size ≤ gb395)); have n3_ := aS ((by rw [hg]; exact (below_size (by repeat (first | (with_reducible first | exact HB.out | apply bal | apply bdN | apply bdo) | exact HB.out))) : w.heap.size ≤ gb395)); clear HB; have HB := n0_; have BK395 := n1_; have GW395 := n2_; have GE395 := n3_; clear n0_ n1_ n2_ n3_; clear hb hbox hg) | ((with_reducible refine gate_dst (N := 3) rfl ?_); refine box_event ?hg (N := 3) ?hd (cs := #[.string a1_0, .string a1_1, .int .i64 a1_2, .string a1_3, .bool a1_4]) (t := 46) ?hr ?_; (case hd => rfl); (case hg => rfl); (case hr => first | (go_simp; done) | (go_simp; rfl)); intro gb396 hg w18 hbox hb; have n0_ := aS (blk_below (g := gb395) (o := .cells #[.string a0_0, .string a0_1, .int .i64 a0_2, .string a0_3, .bool a0_4] 46 (0, 0)) (by (with_reducible repeat (first | refine blk_drewN ?_ _ | refine blk_drew ?_ | refine blk_alloc ?_ _)); exact BK395.out) hb); have n1_ := aS (below_step (by repeat (first | (with_reducible first | exact HB.out | apply bal | apply bdN | apply bdo | refine below_set ?_ GE395.out) | exact HB.out)) hb); have n2_ := aS (hbox); have n3_ := aS ((by rw [hg]; exact (below_size (by repeat (first | (with_reducible first | exact HB.out | apply bal | apply bdN | apply bdo | refine below_set ?_ GE395.out) | exact HB.out))) : w.heap.size ≤ gb396)); have n4_ := aS ((by rw [hg]; exact (below_size (by repeat (first | (with_reducible first | exact HB.out | apply bal | apply bdN | apply bdo | refine below_set ?_ GE395.out) | exact HB.out))) : w.heap.size ≤ gb396)); have n5_ := aS ((by rw [hg]; exact Nat.ne_of_lt (blk_lt (g := gb395) (o := .cells #[.string a0_0, .string a0_1, .int .i64 a0_2, .string a0_3, .bool a0_4] 46 (0, 0)) (by (with_reducible repeat (first | refine blk_drewN ?_ _ | refine blk_drew ?_ | refine blk_alloc ?_ _)); exact BK395.out)) : gb395 ≠ gb396)); have n6_ := aS ((by rw [hg]; exact Nat.ne_of_gt (blk_lt (g := gb395) (o := .cells #[.string a0_0, .string a0_1, .int .i64 a0_2, .string a0_3, .bool a0_4] 46 (0, 0)) (by (with_reducible repeat (first | refine blk_drewN ?_ _ | refine blk_drew ?_ | refine blk_alloc ?_ _)); exact BK395.out)) : gb396 ≠ gb395)); clear BK395; clear HB; have BK395 := n0_; have HB := n1_; have BK396 := n2_; have GW396 := n3_; have GE396 := n4_; have NB395_396 := n5_; have NB396_395 := n6_; clear n0_ n1_ n2_ n3_ n4_ n5_ n6_; clear hb hbox hg; have hnb19 := NB395_396.out; have hnc19 := NB396_395.out; have hcz20_0 : w18.cell? ⟨gb395, 0, none⟩ = some (.string a0_0) := (blk_cell BK395.out 0).trans rfl; have hcz20_1 : w18.cell? ⟨gb395, 1, none⟩ = some (.string a0_1) := (blk_cell BK395.out 1).trans rfl; have hcz20_2 : w18.cell? ⟨gb395, 2, none⟩ = some (.int .i64 a0_2) := (blk_cell BK395.out 2).trans rfl; have hcz20_3 : w18.cell? ⟨gb395, 3, none⟩ = some (.string a0_3) := (blk_cell BK395.out 3).trans rfl; have hcz20_4 : w18.cell? ⟨gb395, 4, none⟩ = some (.bool a0_4) := (blk_cell BK395.out 4).trans rfl; have hfz20_0 := blk_frozen BK395.out 0; have hfz20_1 := blk_frozen BK395.out 1; have hfz20_2 := blk_frozen BK395.out 2; have hfz20_3 := blk_frozen BK395.out 3; have hfz20_4 := blk_frozen BK395.out 4; have hcz21_0 : w18.cell? ⟨gb396, 0, none⟩ = some (.string a1_0) := (blk_cell BK396.out 0).trans rfl; have hcz21_1 : w18.cell? ⟨gb396, 1, none⟩ = some (.string a1_1) := (blk_cell BK396.out 1).trans rfl; have hcz21_2 : w18.cell? ⟨gb396, 2, none⟩ = some (.int .i64 a1_2) := (blk_cell BK396.out 2).trans rfl; have hcz21_3 : w18.cell? ⟨gb396, 3, none⟩ = some (.string a1_3) := (blk_cell BK396.out 3).trans rfl; have hcz21_4 : w18.cell? ⟨gb396, 4, none⟩ = some (.bool a1_4) := (blk_cell BK396.out 4).trans rfl; have hfz21_0 := blk_frozen BK396.out 0; have hfz21_1 := blk_frozen BK396.out 1; have hfz21_2 := blk_frozen BK396.out 2; have hfz21_3 := blk_frozen BK396.out 3; have hfz21_4 := blk_frozen BK396.out 4))
     go_ret
     exact ⟨by first | rfl | (simp [errW_none, errW_some] <;> rfl) | (simp [*, errW_none, errW_some] <;> rfl), by repeat (first | (with_reducible first | exact HB.out | apply bal | apply bdN | apply bdo | refine below_set ?_ GE395.out | refine below_set ?_ GE396.out) | exact HB.out)⟩
  ·
   rw [if_neg c4] at H
   have c4b0 : (a0_1.toList == a1_1.toList) = false := beq_eq_false_iff_ne.mpr c4
   have c4b1 : (a0_1.toList != a1_1.toList) = true := bne_iff_ne.mpr c4
   replace H := obm H
   obtain ⟨t398, A220, H⟩ := H
   replace H : (some t398) = some r := H
   have A22 := aS A220
   clear A220
   obtain rfl := Option.some.inj H
   go_enter Try.func26, Try.ntmps26
   go_wp2_with (first | ((with_reducible refine gate_dst (N := 2) rfl ?_); refine box_event ?hg (N := 2) ?hd (cs := #[.string a0_0, .string a0_1, .int .i64 a0_2, .string a0_3, .bool a0_4]) (t := 46) ?hr ?_; (case hd => rfl); (case hg => rfl); (case hr => first | (go_simp; done) | (go_simp; rfl)); intro gb395 hg w23 hbox hb; have n0_ := aS (below_step (by repeat (first | (with_reducible first | exact HB.out | apply bal | apply bdN | apply bdo) | exact HB.out)) hb); have n1_ := aS (hbox); have n2_ := aS ((by rw [hg]; exact (below_size (by repeat (first | (with_reducible first | exact HB.out | apply bal | apply bdN | apply bdo) | exact HB.out))) : w.heap.size ≤ gb395)); have n3_ := aS ((by rw [hg]; exact (below_size (by repeat (first | (with_reducible first | exact HB.out | apply bal | apply bdN | apply bdo) | exact HB.out))) : w.heap.size ≤ gb395)); clear HB; have HB := n0_; have BK395 := n1_; have GW395 := n2_; have GE395 := n3_; clear n0_ n1_ n2_ n3_; clear hb hbox hg) | ((with_reducible refine gate_dst (N := 3) rfl ?_); refine box_event ?hg (N := 3) ?hd (cs := #[.string a1_0, .string a1_1, .int .i64 a1_2, .string a1_3, .bool a1_4]) (t := 46) ?hr ?_; (case hd => rfl); (case hg => rfl); (case hr => first | (go_simp; done) | (go_simp; rfl)); intro gb396 hg w24 hbox hb; have n0_ := aS (blk_below (g := gb395) (o := .cells #[.string a0_0, .string a0_1, .int .i64 a0_2, .string a0_3, .bool a0_4] 46 (0, 0)) (by (with_reducible repeat (first | refine blk_drewN ?_ _ | refine blk_drew ?_ | refine blk_alloc ?_ _)); exact BK395.out) hb); have n1_ := aS (below_step (by repeat (first | (with_reducible first | exact HB.out | apply bal | apply bdN | apply bdo | refine below_set ?_ GE395.out) | exact HB.out)) hb); have n2_ := aS (hbox); have n3_ := aS ((by rw [hg]; exact (below_size (by repeat (first | (with_reducible first | exact HB.out | apply bal | apply bdN | apply bdo | refine below_set ?_ GE395.out) | exact HB.out))) : w.heap.size ≤ gb396)); have n4_ := aS ((by rw [hg]; exact (below_size (by repeat (first | (with_reducible first | exact HB.out | apply bal | apply bdN | apply bdo | refine below_set ?_ GE395.out) | exact HB.out))) : w.heap.size ≤ gb396)); have n5_ := aS ((by rw [hg]; exact Nat.ne_of_lt (blk_lt (g := gb395) (o := .cells #[.string a0_0, .string a0_1, .int .i64 a0_2, .string a0_3, .bool a0_4] 46 (0, 0)) (by (with_reducible repeat (first | refine blk_drewN ?_ _ | refine blk_drew ?_ | refine blk_alloc ?_ _)); exact BK395.out)) : gb395 ≠ gb396)); have n6_ := aS ((by rw [hg]; exact Nat.ne_of_gt (blk_lt (g := gb395) (o := .cells #[.string a0_0, .string a0_1, .int .i64 a0_2, .string a0_3, .bool a0_4] 46 (0, 0)) (by (with_reducible repeat (first | refine blk_drewN ?_ _ | refine blk_drew ?_ | refine blk_alloc ?_ _)); exact BK395.out)) : gb396 ≠ gb395)); clear BK395; clear HB; have BK395 := n0_; have HB := n1_; have BK396 := n2_; have GW396 := n3_; have GE396 := n4_; have NB395_396 := n5_; have NB396_395 := n6_; clear n0_ n1_ n2_ n3_ n4_ n5_ n6_; clear hb hbox hg; have hnb25 := NB395_396.out; have hnc25 := NB396_395.out; have hcz26_0 : w24.cell? ⟨gb395, 0, none⟩ = some (.string a0_0) := (blk_cell BK395.out 0).trans rfl; have hcz26_1 : w24.cell? ⟨gb395, 1, none⟩ = some (.string a0_1) := (blk_cell BK395.out 1).trans rfl; have hcz26_2 : w24.cell? ⟨gb395, 2, none⟩ = some (.int .i64 a0_2) := (blk_cell BK395.out 2).trans rfl; have hcz26_3 : w24.cell? ⟨gb395, 3, none⟩ = some (.string a0_3) := (blk_cell BK395.out 3).trans rfl; have hcz26_4 : w24.cell? ⟨gb395, 4, none⟩ = some (.bool a0_4) := (blk_cell BK395.out 4).trans rfl; have hfz26_0 := blk_frozen BK395.out 0; have hfz26_1 := blk_frozen BK395.out 1; have hfz26_2 := blk_frozen BK395.out 2; have hfz26_3 := blk_frozen BK395.out 3; have hfz26_4 := blk_frozen BK395.out 4; have hcz27_0 : w24.cell? ⟨gb396, 0, none⟩ = some (.string a1_0) := (blk_cell BK396.out 0).trans rfl; have hcz27_1 : w24.cell? ⟨gb396, 1, none⟩ = some (.string a1_1) := (blk_cell BK396.out 1).trans rfl; have hcz27_2 : w24.cell? ⟨gb396, 2, none⟩ = some (.int .i64 a1_2) := (blk_cell BK396.out 2).trans rfl; have hcz27_3 : w24.cell? ⟨gb396, 3, none⟩ = some (.string a1_3) := (blk_cell BK396.out 3).trans rfl; have hcz27_4 : w24.cell? ⟨gb396, 4, none⟩ = some (.bool a1_4) := (blk_cell BK396.out 4).trans rfl; have hfz27_0 := blk_frozen BK396.out 0; have hfz27_1 := blk_frozen BK396.out 1; have hfz27_2 := blk_frozen BK396.out 2; have hfz27_3 := blk_frozen BK396.out 3; have hfz27_4 := blk_frozen BK396.out 4) | ((with_reducible refine gate_callee (f := 43) rfl ?_); refine goesL_ (some 24) rfl rfl Try.func43 (by kernel_rfl) rfl #[.string a0_1, .string a1_1] rfl (by (try simp only [List.map_toArray, List.map_cons, List.map_nil]); first | done | rfl | (simp only [lld, llt]; rfl)) ?_; (with_reducible refine (shardlogref08_Text.calls k a0_1 a1_1 t398 _ A22.out).mono ?_); rintro e w' ⟨rfl, ⟨nd, rfl⟩⟩; refine ⟨_, rfl, ?_⟩))
   go_ret
   exact ⟨by first | rfl | (simp [errW_none, errW_some] <;> rfl) | (simp [*, errW_none, errW_some] <;> rfl), by repeat (first | (with_reducible first | exact HB.out | apply bal | apply bdN | apply bdo | refine below_set ?_ GE395.out | refine below_set ?_ GE396.out) | exact HB.out)⟩
 ·
  rw [if_neg c3] at H
  have c3b0 : (a0_0.toList == a1_0.toList) = false := beq_eq_false_iff_ne.mpr c3
  have c3b1 : (a0_0.toList != a1_0.toList) = true := bne_iff_ne.mpr c3
  replace H := obm H
  obtain ⟨t397, A280, H⟩ := H
  replace H : (some t397) = some r := H
  have A28 := aS A280
  clear A280
  obtain rfl := Option.some.inj H
  go_enter Try.func26, Try.ntmps26
  go_wp2_with (first | ((with_reducible refine gate_dst (N := 2) rfl ?_); refine box_event ?hg (N := 2) ?hd (cs := #[.string a0_0, .string a0_1, .int .i64 a0_2, .string a0_3, .bool a0_4]) (t := 46) ?hr ?_; (case hd => rfl); (case hg => rfl); (case hr => first | (go_simp; done) | (go_simp; rfl)); intro gb395 hg w29 hbox hb; have n0_ := aS (below_step (by repeat (first | (with_reducible first | exact HB.out | apply bal | apply bdN | apply bdo) | exact HB.out)) hb); have n1_ := aS (hbox); have n2_ := aS ((by rw [hg]; exact (below_size (by repeat (first | (with_reducible first | exact HB.out | apply bal | apply bdN | apply bdo) | exact HB.out))) : w.heap.size ≤ gb395)); have n3_ := aS ((by rw [hg]; exact (below_size (by repeat (first | (with_reducible first | exact HB.out | apply bal | apply bdN | apply bdo) | exact HB.out))) : w.heap.size ≤ gb395)); clear HB; have HB := n0_; have BK395 := n1_; have GW395 := n2_; have GE395 := n3_; clear n0_ n1_ n2_ n3_; clear hb hbox hg) | ((with_reducible refine gate_dst (N := 3) rfl ?_); refine box_event ?hg (N := 3) ?hd (cs := #[.string a1_0, .string a1_1, .int .i64 a1_2, .string a1_3, .bool a1_4]) (t := 46) ?hr ?_; (case hd => rfl); (case hg => rfl); (case hr => first | (go_simp; done) | (go_simp; rfl)); intro gb396 hg w30 hbox hb; have n0_ := aS (blk_below (g := gb395) (o := .cells #[.string a0_0, .string a0_1, .int .i64 a0_2, .string a0_3, .bool a0_4] 46 (0, 0)) (by (with_reducible repeat (first | refine blk_drewN ?_ _ | refine blk_drew ?_ | refine blk_alloc ?_ _)); exact BK395.out) hb); have n1_ := aS (below_step (by repeat (first | (with_reducible first | exact HB.out | apply bal | apply bdN | apply bdo | refine below_set ?_ GE395.out) | exact HB.out)) hb); have n2_ := aS (hbox); have n3_ := aS ((by rw [hg]; exact (below_size (by repeat (first | (with_reducible first | exact HB.out | apply bal | apply bdN | apply bdo | refine below_set ?_ GE395.out) | exact HB.out))) : w.heap.size ≤ gb396)); have n4_ := aS ((by rw [hg]; exact (below_size (by repeat (first | (with_reducible first | exact HB.out | apply bal | apply bdN | apply bdo | refine below_set ?_ GE395.out) | exact HB.out))) : w.heap.size ≤ gb396)); have n5_ := aS ((by rw [hg]; exact Nat.ne_of_lt (blk_lt (g := gb395) (o := .cells #[.string a0_0, .string a0_1, .int .i64 a0_2, .string a0_3, .bool a0_4] 46 (0, 0)) (by (with_reducible repeat (first | refine blk_drewN ?_ _ | refine blk_drew ?_ | refine blk_alloc ?_ _)); exact BK395.out)) : gb395 ≠ gb396)); have n6_ := aS ((by rw [hg]; exact Nat.ne_of_gt (blk_lt (g := gb395) (o := .cells #[.string a0_0, .string a0_1, .int .i64 a0_2, .string a0_3, .bool a0_4] 46 (0, 0)) (by (with_reducible repeat (first | refine blk_drewN ?_ _ | refine blk_drew ?_ | refine blk_alloc ?_ _)); exact BK395.out)) : gb396 ≠ gb395)); clear BK395; clear HB; have BK395 := n0_; have HB := n1_; have BK396 := n2_; have GW396 := n3_; have GE396 := n4_; have NB395_396 := n5_; have NB396_395 := n6_; clear n0_ n1_ n2_ n3_ n4_ n5_ n6_; clear hb hbox hg; have hnb31 := NB395_396.out; have hnc31 := NB396_395.out; have hcz32_0 : w30.cell? ⟨gb395, 0, none⟩ = some (.string a0_0) := (blk_cell BK395.out 0).trans rfl; have hcz32_1 : w30.cell? ⟨gb395, 1, none⟩ = some (.string a0_1) := (blk_cell BK395.out 1).trans rfl; have hcz32_2 : w30.cell? ⟨gb395, 2, none⟩ = some (.int .i64 a0_2) := (blk_cell BK395.out 2).trans rfl; have hcz32_3 : w30.cell? ⟨gb395, 3, none⟩ = some (.string a0_3) := (blk_cell BK395.out 3).trans rfl; have hcz32_4 : w30.cell? ⟨gb395, 4, none⟩ = some (.bool a0_4) := (blk_cell BK395.out 4).trans rfl; have hfz32_0 := blk_frozen BK395.out 0; have hfz32_1 := blk_frozen BK395.out 1; have hfz32_2 := blk_frozen BK395.out 2; have hfz32_3 := blk_frozen BK395.out 3; have hfz32_4 := blk_frozen BK395.out 4; have hcz33_0 : w30.cell? ⟨gb396, 0, none⟩ = some (.string a1_0) := (blk_cell BK396.out 0).trans rfl; have hcz33_1 : w30.cell? ⟨gb396, 1, none⟩ = some (.string a1_1) := (blk_cell BK396.out 1).trans rfl; have hcz33_2 : w30.cell? ⟨gb396, 2, none⟩ = some (.int .i64 a1_2) := (blk_cell BK396.out 2).trans rfl; have hcz33_3 : w30.cell? ⟨gb396, 3, none⟩ = some (.string a1_3) := (blk_cell BK396.out 3).trans rfl; have hcz33_4 : w30.cell? ⟨gb396, 4, none⟩ = some (.bool a1_4) := (blk_cell BK396.out 4).trans rfl; have hfz33_0 := blk_frozen BK396.out 0; have hfz33_1 := blk_frozen BK396.out 1; have hfz33_2 := blk_frozen BK396.out 2; have hfz33_3 := blk_frozen BK396.out 3; have hfz33_4 := blk_frozen BK396.out 4) | ((with_reducible refine gate_callee (f := 43) rfl ?_); refine goesL_ (some 14) rfl rfl Try.func43 (by kernel_rfl) rfl #[.string a0_0, .string a1_0] rfl (by (try simp only [List.map_toArray, List.map_cons, List.map_nil]); first | done | rfl | (simp only [lld, llt]; rfl)) ?_; (with_reducible refine (shardlogref08_Text.calls k a0_0 a1_0 t397 _ A28.out).mono ?_); rintro e w' ⟨rfl, ⟨nd, rfl⟩⟩; refine ⟨_, rfl, ?_⟩))
  go_ret
  exact ⟨by first | rfl | (simp [errW_none, errW_some] <;> rfl) | (simp [*, errW_none, errW_some] <;> rfl), by repeat (first | (with_reducible first | exact HB.out | apply bal | apply bdN | apply bdo | refine below_set ?_ GE395.out | refine below_set ?_ GE396.out) | exact HB.out)⟩

end Go.Proofs.Ytclmooadpoojeaa.X
