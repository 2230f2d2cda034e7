-- written by a program of this session's, over the kit's print
import Derived.Test.YthphffimgmbhgaaXx0
import Derived.Test.YthphffimgmbhgaaXx1
import Derived.Test.YthphffimgmbhgaaXx3
import Derived.Test.YthphffimgmbhgaaXx6
import Derived.Test.YthphffimgmbhgaaXx8
namespace Go.Proofs.Ythphffimgmbhgaa.X
open Go.RowKit Go.Proofs.YthphffimgmbhgaaW.PrintWords Go.Proofs.YthphffimgmbhgaaW.PrintLast Go.Proofs.YthphffimgmbhgaaW.PrintMore
attribute [local go_sem] max2_int min2_int max_two min_two max_three min_three max_four min_four gtr_str   -- for this text's walks alone
set_option linter.unusedVariables false
set_option linter.unusedSimpArgs false

attribute [local go_sem high] eqA35
/-! ### shardloglaw13_MergeWins: function 5 -/
mutual
def shardloglaw13_MergeWins.j0 : Nat → List (List (S35)) → Bool → Option (Bool)
 | 0, _, _ => none
 | k + 1, x0, x19 => if x19 = true then ((shardloglaw13_awake.f k).bind fun t247 => (some t247)) else ((shardlogref13_Sorts.f k x0).bind fun t248 => ((merge_All.f k t248).bind fun t251 => ((shardlogref08_Sorted.f k t251).bind fun t254 => (if t254 = true then (shardloglaw13_MergeWins.l0 k t248 t251 0 0) else (none)))))
def shardloglaw13_MergeWins.l0 : Nat → List (List (S35)) → List (S35) → Int → Int → Option (Bool)
 | 0, _, _, _, _ => none
 | k + 1, x3, x4, x5, x6 => if x6 < (x3.length : Int) then (shardloglaw13_MergeWins.l1 k x3 x4 x5 x6 0) else (some ((x4.length : Int) == x5))
def shardloglaw13_MergeWins.l1 : Nat → List (List (S35)) → List (S35) → Int → Int → Int → Option (Bool)
 | 0, _, _, _, _, _ => none
 | k + 1, x3, x4, x5, x6, x7 => if 0 ≤ x6 then (if x6 < (x3.length : Int) then (if x7 < ((rd_L4 x3 x6).length : Int) then (shardloglaw13_MergeWins.l2 k x3 x4 x5 x6 x7 true 0) else (shardloglaw13_MergeWins.l0 k x3 x4 x5 (wrap64 (x6 + 1)))) else (none)) else (none)
def shardloglaw13_MergeWins.l2 : Nat → List (List (S35)) → List (S35) → Int → Int → Int → Bool → Int → Option (Bool)
 | 0, _, _, _, _, _, _, _ => none
 | k + 1, x3, x4, x5, x6, x7, x8, x9 => if x9 < x6 then (shardloglaw13_MergeWins.l3 k x3 x4 x5 x6 x7 x8 x9 0) else (shardloglaw13_MergeWins.l4 k x3 x4 x5 x6 x7 x8 false 0)
def shardloglaw13_MergeWins.l3 : Nat → List (List (S35)) → List (S35) → Int → Int → Int → Bool → Int → Int → Option (Bool)
 | 0, _, _, _, _, _, _, _, _ => none
 | k + 1, x3, x4, x5, x6, x7, x8, x9, x10 => if 0 ≤ x9 then (if x9 < (x3.length : Int) then (if x10 < ((rd_L4 x3 x9).length : Int) then (if x8 = true then (if 0 ≤ x10 then (if 0 ≤ x6 then (if x6 < (x3.length : Int) then (if 0 ≤ x7 then (if x7 < ((rd_L4 x3 x6).length : Int) then ((shardlogref08_Compare.f k ((rd_T35 (rd_L4 x3 x9) x10).f0) ((rd_T35 (rd_L4 x3 x9) x10).f1) ((rd_T35 (rd_L4 x3 x9) x10).f2) ((rd_T35 (rd_L4 x3 x9) x10).f3) ((rd_T35 (rd_L4 x3 x9) x10).f4) ((rd_T35 (rd_L4 x3 x6) x7).f0) ((rd_T35 (rd_L4 x3 x6) x7).f1) ((rd_T35 (rd_L4 x3 x6) x7).f2) ((rd_T35 (rd_L4 x3 x6) x7).f3) ((rd_T35 (rd_L4 x3 x6) x7).f4)).bind fun t261 => (shardloglaw13_MergeWins.l3 k x3 x4 x5 x6 x7 (t261 != 0) x9 (wrap64 (x10 + 1)))) else (none)) else (none)) else (none)) else (none)) else (none)) else (shardloglaw13_MergeWins.l3 k x3 x4 x5 x6 x7 false x9 (wrap64 (x10 + 1)))) else (shardloglaw13_MergeWins.l2 k x3 x4 x5 x6 x7 x8 (wrap64 (x9 + 1)))) else (none)) else (none)
def shardloglaw13_MergeWins.l4 : Nat → List (List (S35)) → List (S35) → Int → Int → Int → Bool → Bool → Int → Option (Bool)
 | 0, _, _, _, _, _, _, _, _ => none
 | k + 1, x3, x4, x5, x6, x7, x8, x11, x12 => if x12 < (x4.length : Int) then (if x11 = true then (shardloglaw13_MergeWins.l4 k x3 x4 x5 x6 x7 x8 true (wrap64 (x12 + 1))) else (if 0 ≤ x12 then (if 0 ≤ x6 then (if x6 < (x3.length : Int) then (if 0 ≤ x7 then (if x7 < ((rd_L4 x3 x6).length : Int) then (shardloglaw13_MergeWins.l4 k x3 x4 x5 x6 x7 x8 ((((rd_T35 x4 x12).f0).toList) == (((rd_T35 (rd_L4 x3 x6) x7).f0).toList) && ((((rd_T35 x4 x12).f1).toList) == (((rd_T35 (rd_L4 x3 x6) x7).f1).toList) && (((rd_T35 x4 x12).f2) == ((rd_T35 (rd_L4 x3 x6) x7).f2) && ((((rd_T35 x4 x12).f3).toList) == (((rd_T35 (rd_L4 x3 x6) x7).f3).toList) && (((rd_T35 x4 x12).f4) == ((rd_T35 (rd_L4 x3 x6) x7).f4)))))) (wrap64 (x12 + 1))) else (none)) else (none)) else (none)) else (none)) else (none))) else (if x8 = true then (if x11 = true then (shardloglaw13_MergeWins.l1 k x3 x4 (wrap64 (x5 + 1)) x6 (wrap64 (x7 + 1))) else (none)) else (shardloglaw13_MergeWins.l1 k x3 x4 x5 x6 (wrap64 (x7 + 1))))
end
def shardloglaw13_MergeWins.f (k : Nat) (l0 : List (List (S35))) : Option (Bool) := (shardloglaw13_awake.f k).bind fun t245 => (if t245 = true then ((shardlogref13_Few.f k l0).bind fun t246 => (shardloglaw13_MergeWins.j0 k l0 (!t246))) else (shardloglaw13_MergeWins.j0 k l0 true))
theorem shardloglaw13_MergeWins.mono_l : ∀ k, (∀ y0 y1, LeO (shardloglaw13_MergeWins.j0 k y0 y1) (shardloglaw13_MergeWins.j0 (k + 1) y0 y1)) ∧ (∀ y0 y1 y2 y3, LeO (shardloglaw13_MergeWins.l0 k y0 y1 y2 y3) (shardloglaw13_MergeWins.l0 (k + 1) y0 y1 y2 y3)) ∧ (∀ y0 y1 y2 y3 y4, LeO (shardloglaw13_MergeWins.l1 k y0 y1 y2 y3 y4) (shardloglaw13_MergeWins.l1 (k + 1) y0 y1 y2 y3 y4)) ∧ (∀ y0 y1 y2 y3 y4 y5 y6, LeO (shardloglaw13_MergeWins.l2 k y0 y1 y2 y3 y4 y5 y6) (shardloglaw13_MergeWins.l2 (k + 1) y0 y1 y2 y3 y4 y5 y6)) ∧ (∀ y0 y1 y2 y3 y4 y5 y6 y7, LeO (shardloglaw13_MergeWins.l3 k y0 y1 y2 y3 y4 y5 y6 y7) (shardloglaw13_MergeWins.l3 (k + 1) y0 y1 y2 y3 y4 y5 y6 y7)) ∧ (∀ y0 y1 y2 y3 y4 y5 y6 y7, LeO (shardloglaw13_MergeWins.l4 k y0 y1 y2 y3 y4 y5 y6 y7) (shardloglaw13_MergeWins.l4 (k + 1) y0 y1 y2 y3 y4 y5 y6 y7))
 | 0 => ⟨fun _ _ r h => by simp [shardloglaw13_MergeWins.j0] at h, fun _ _ _ _ r h => by simp [shardloglaw13_MergeWins.l0] at h, fun _ _ _ _ _ r h => by simp [shardloglaw13_MergeWins.l1] at h, fun _ _ _ _ _ _ _ r h => by simp [shardloglaw13_MergeWins.l2] at h, fun _ _ _ _ _ _ _ _ r h => by simp [shardloglaw13_MergeWins.l3] at h, fun _ _ _ _ _ _ _ _ r h => by simp [shardloglaw13_MergeWins.l4] at h⟩
 | k + 1 => by
  obtain ⟨ih0, ih1, ih2, ih3, ih4, ih5⟩ := shardloglaw13_MergeWins.mono_l k
  refine ⟨?_, ?_, ?_, ?_, ?_, ?_⟩
  ·
   intro y0 y1
   unfold shardloglaw13_MergeWins.j0
   repeat' first
   | (with_reducible exact ih0 _ _)
   | (with_reducible exact ih1 _ _ _ _)
   | (with_reducible exact ih2 _ _ _ _ _)
   | (with_reducible exact ih3 _ _ _ _ _ _ _)
   | (with_reducible exact ih4 _ _ _ _ _ _ _ _)
   | (with_reducible exact ih5 _ _ _ _ _ _ _ _)
   | (with_reducible exact merge_All.mono _ _)
   | (with_reducible exact shardloglaw13_awake.mono _)
   | (with_reducible exact shardlogref08_Compare.mono _ _ _ _ _ _ _ _ _ _ _)
   | (with_reducible exact shardlogref08_Sorted.mono _ _)
   | (with_reducible exact shardlogref13_Few.mono _ _)
   | (with_reducible exact shardlogref13_Sorts.mono _ _)
   | (with_reducible exact LeO.refl _)
   | (with_reducible exact LeO.none _)
   | (with_reducible refine LeO.ite ?_ ?_)
   | (with_reducible refine LeO.bind ?_ (fun _ => ?_))
   | exact ih0 _ _
   | exact ih1 _ _ _ _
   | exact ih2 _ _ _ _ _
   | exact ih3 _ _ _ _ _ _ _
   | exact ih4 _ _ _ _ _ _ _ _
   | exact ih5 _ _ _ _ _ _ _ _
   | exact merge_All.mono _ _
   | exact shardloglaw13_awake.mono _
   | exact shardlogref08_Compare.mono _ _ _ _ _ _ _ _ _ _ _
   | exact shardlogref08_Sorted.mono _ _
   | exact shardlogref13_Few.mono _ _
   | exact shardlogref13_Sorts.mono _ _
   | exact LeO.none _
   | refine LeO.ite ?_ ?_
   | refine LeO.bind ?_ (fun _ => ?_)
  ·
   intro y0 y1 y2 y3
   unfold shardloglaw13_MergeWins.l0
   repeat' first
   | (with_reducible exact ih0 _ _)
   | (with_reducible exact ih1 _ _ _ _)
   | (with_reducible exact ih2 _ _ _ _ _)
   | (with_reducible exact ih3 _ _ _ _ _ _ _)
   | (with_reducible exact ih4 _ _ _ _ _ _ _ _)
   | (with_reducible exact ih5 _ _ _ _ _ _ _ _)
   | (with_reducible exact merge_All.mono _ _)
   | (with_reducible exact shardloglaw13_awake.mono _)
   | (with_reducible exact shardlogref08_Compare.mono _ _ _ _ _ _ _ _ _ _ _)
   | (with_reducible exact shardlogref08_Sorted.mono _ _)
   | (with_reducible exact shardlogref13_Few.mono _ _)
   | (with_reducible exact shardlogref13_Sorts.mono _ _)
   | (with_reducible exact LeO.refl _)
   | (with_reducible exact LeO.none _)
   | (with_reducible refine LeO.ite ?_ ?_)
   | (with_reducible refine LeO.bind ?_ (fun _ => ?_))
   | exact ih0 _ _
   | exact ih1 _ _ _ _
   | exact ih2 _ _ _ _ _
   | exact ih3 _ _ _ _ _ _ _
   | exact ih4 _ _ _ _ _ _ _ _
   | exact ih5 _ _ _ _ _ _ _ _
   | exact merge_All.mono _ _
   | exact shardloglaw13_awake.mono _
   | exact shardlogref08_Compare.mono _ _ _ _ _ _ _ _ _ _ _
   | exact shardlogref08_Sorted.mono _ _
   | exact shardlogref13_Few.mono _ _
   | exact shardlogref13_Sorts.mono _ _
   | exact LeO.none _
   | refine LeO.ite ?_ ?_
   | refine LeO.bind ?_ (fun _ => ?_)
  ·
   intro y0 y1 y2 y3 y4
   unfold shardloglaw13_MergeWins.l1
   repeat' first
   | (with_reducible exact ih0 _ _)
   | (with_reducible exact ih1 _ _ _ _)
   | (with_reducible exact ih2 _ _ _ _ _)
   | (with_reducible exact ih3 _ _ _ _ _ _ _)
   | (with_reducible exact ih4 _ _ _ _ _ _ _ _)
   | (with_reducible exact ih5 _ _ _ _ _ _ _ _)
   | (with_reducible exact merge_All.mono _ _)
   | (with_reducible exact shardloglaw13_awake.mono _)
   | (with_reducible exact shardlogref08_Compare.mono _ _ _ _ _ _ _ _ _ _ _)
   | (with_reducible exact shardlogref08_Sorted.mono _ _)
   | (with_reducible exact shardlogref13_Few.mono _ _)
   | (with_reducible exact shardlogref13_Sorts.mono _ _)
   | (with_reducible exact LeO.refl _)
   | (with_reducible exact LeO.none _)
   | (with_reducible refine LeO.ite ?_ ?_)
   | (with_reducible refine LeO.bind ?_ (fun _ => ?_))
   | exact ih0 _ _
   | exact ih1 _ _ _ _
   | exact ih2 _ _ _ _ _
   | exact ih3 _ _ _ _ _ _ _
   | exact ih4 _ _ _ _ _ _ _ _
   | exact ih5 _ _ _ _ _ _ _ _
   | exact merge_All.mono _ _
   | exact shardloglaw13_awake.mono _
   | exact shardlogref08_Compare.mono _ _ _ _ _ _ _ _ _ _ _
   | exact shardlogref08_Sorted.mono _ _
   | exact shardlogref13_Few.mono _ _
   | exact shardlogref13_Sorts.mono _ _
   | exact LeO.none _
   | refine LeO.ite ?_ ?_
   | refine LeO.bind ?_ (fun _ => ?_)
  ·
   intro y0 y1 y2 y3 y4 y5 y6
   unfold shardloglaw13_MergeWins.l2
   repeat' first
   | (with_reducible exact ih0 _ _)
   | (with_reducible exact ih1 _ _ _ _)
   | (with_reducible exact ih2 _ _ _ _ _)
   | (with_reducible exact ih3 _ _ _ _ _ _ _)
   | (with_reducible exact ih4 _ _ _ _ _ _ _ _)
   | (with_reducible exact ih5 _ _ _ _ _ _ _ _)
   | (with_reducible exact merge_All.mono _ _)
   | (with_reducible exact shardloglaw13_awake.mono _)
   | (with_reducible exact shardlogref08_Compare.mono _ _ _ _ _ _ _ _ _ _ _)
   | (with_reducible exact shardlogref08_Sorted.mono _ _)
   | (with_reducible exact shardlogref13_Few.mono _ _)
   | (with_reducible exact shardlogref13_Sorts.mono _ _)
   | (with_reducible exact LeO.refl _)
   | (with_reducible exact LeO.none _)
   | (with_reducible refine LeO.ite ?_ ?_)
   | (with_reducible refine LeO.bind ?_ (fun _ => ?_))
   | exact ih0 _ _
   | exact ih1 _ _ _ _
   | exact ih2 _ _ _ _ _
   | exact ih3 _ _ _ _ _ _ _
   | exact ih4 _ _ _ _ _ _ _ _
   | exact ih5 _ _ _ _ _ _ _ _
   | exact merge_All.mono _ _
   | exact shardloglaw13_awake.mono _
   | exact shardlogref08_Compare.mono _ _ _ _ _ _ _ _ _ _ _
   | exact shardlogref08_Sorted.mono _ _
   | exact shardlogref13_Few.mono _ _
   | exact shardlogref13_Sorts.mono _ _
   | exact LeO.none _
   | refine LeO.ite ?_ ?_
   | refine LeO.bind ?_ (fun _ => ?_)
  ·
   intro y0 y1 y2 y3 y4 y5 y6 y7
   unfold shardloglaw13_MergeWins.l3
   repeat' first
   | (with_reducible exact ih0 _ _)
   | (with_reducible exact ih1 _ _ _ _)
   | (with_reducible exact ih2 _ _ _ _ _)
   | (with_reducible exact ih3 _ _ _ _ _ _ _)
   | (with_reducible exact ih4 _ _ _ _ _ _ _ _)
   | (with_reducible exact ih5 _ _ _ _ _ _ _ _)
   | (with_reducible exact merge_All.mono _ _)
   | (with_reducible exact shardloglaw13_awake.mono _)
   | (with_reducible exact shardlogref08_Compare.mono _ _ _ _ _ _ _ _ _ _ _)
   | (with_reducible exact shardlogref08_Sorted.mono _ _)
   | (with_reducible exact shardlogref13_Few.mono _ _)
   | (with_reducible exact shardlogref13_Sorts.mono _ _)
   | (with_reducible exact LeO.refl _)
   | (with_reducible exact LeO.none _)
   | (with_reducible refine LeO.ite ?_ ?_)
   | (with_reducible refine LeO.bind ?_ (fun _ => ?_))
   | exact ih0 _ _
   | exact ih1 _ _ _ _
   | exact ih2 _ _ _ _ _
   | exact ih3 _ _ _ _ _ _ _
   | exact ih4 _ _ _ _ _ _ _ _
   | exact ih5 _ _ _ _ _ _ _ _
   | exact merge_All.mono _ _
   | exact shardloglaw13_awake.mono _
   | exact shardlogref08_Compare.mono _ _ _ _ _ _ _ _ _ _ _
   | exact shardlogref08_Sorted.mono _ _
   | exact shardlogref13_Few.mono _ _
   | exact shardlogref13_Sorts.mono _ _
   | exact LeO.none _
   | refine LeO.ite ?_ ?_
   | refine LeO.bind ?_ (fun _ => ?_)
  ·
   intro y0 y1 y2 y3 y4 y5 y6 y7
   unfold shardloglaw13_MergeWins.l4
   repeat' first
   | (with_reducible exact ih0 _ _)
   | (with_reducible exact ih1 _ _ _ _)
   | (with_reducible exact ih2 _ _ _ _ _)
   | (with_reducible exact ih3 _ _ _ _ _ _ _)
   | (with_reducible exact ih4 _ _ _ _ _ _ _ _)
   | (with_reducible exact ih5 _ _ _ _ _ _ _ _)
   | (with_reducible exact merge_All.mono _ _)
   | (with_reducible exact shardloglaw13_awake.mono _)
   | (with_reducible exact shardlogref08_Compare.mono _ _ _ _ _ _ _ _ _ _ _)
   | (with_reducible exact shardlogref08_Sorted.mono _ _)
   | (with_reducible exact shardlogref13_Few.mono _ _)
   | (with_reducible exact shardlogref13_Sorts.mono _ _)
   | (with_reducible exact LeO.refl _)
   | (with_reducible exact LeO.none _)
   | (with_reducible refine LeO.ite ?_ ?_)
   | (with_reducible refine LeO.bind ?_ (fun _ => ?_))
   | exact ih0 _ _
   | exact ih1 _ _ _ _
   | exact ih2 _ _ _ _ _
   | exact ih3 _ _ _ _ _ _ _
   | exact ih4 _ _ _ _ _ _ _ _
   | exact ih5 _ _ _ _ _ _ _ _
   | exact merge_All.mono _ _
   | exact shardloglaw13_awake.mono _
   | exact shardlogref08_Compare.mono _ _ _ _ _ _ _ _ _ _ _
   | exact shardlogref08_Sorted.mono _ _
   | exact shardlogref13_Few.mono _ _
   | exact shardlogref13_Sorts.mono _ _
   | exact LeO.none _
   | refine LeO.ite ?_ ?_
   | refine LeO.bind ?_ (fun _ => ?_)
theorem shardloglaw13_MergeWins.mono : ∀ a0 k, LeO (shardloglaw13_MergeWins.f k a0) (shardloglaw13_MergeWins.f (k + 1) a0) := by
 intro a0 k
 obtain ⟨ih0, ih1, ih2, ih3, ih4, ih5⟩ := shardloglaw13_MergeWins.mono_l k
 unfold shardloglaw13_MergeWins.f
 repeat' first
   | (with_reducible exact ih0 _ _)
   | (with_reducible exact ih1 _ _ _ _)
   | (with_reducible exact ih2 _ _ _ _ _)
   | (with_reducible exact ih3 _ _ _ _ _ _ _)
   | (with_reducible exact ih4 _ _ _ _ _ _ _ _)
   | (with_reducible exact ih5 _ _ _ _ _ _ _ _)
   | (with_reducible exact merge_All.mono _ _)
   | (with_reducible exact shardloglaw13_awake.mono _)
   | (with_reducible exact shardlogref08_Compare.mono _ _ _ _ _ _ _ _ _ _ _)
   | (with_reducible exact shardlogref08_Sorted.mono _ _)
   | (with_reducible exact shardlogref13_Few.mono _ _)
   | (with_reducible exact shardlogref13_Sorts.mono _ _)
   | (with_reducible exact LeO.refl _)
   | (with_reducible exact LeO.none _)
   | (with_reducible refine LeO.ite ?_ ?_)
   | (with_reducible refine LeO.bind ?_ (fun _ => ?_))
   | exact ih0 _ _
   | exact ih1 _ _ _ _
   | exact ih2 _ _ _ _ _
   | exact ih3 _ _ _ _ _ _ _
   | exact ih4 _ _ _ _ _ _ _ _
   | exact ih5 _ _ _ _ _ _ _ _
   | exact merge_All.mono _ _
   | exact shardloglaw13_awake.mono _
   | exact shardlogref08_Compare.mono _ _ _ _ _ _ _ _ _ _ _
   | exact shardlogref08_Sorted.mono _ _
   | exact shardlogref13_Few.mono _ _
   | exact shardlogref13_Sorts.mono _ _
   | exact LeO.none _
   | refine LeO.ite ?_ ?_
   | refine LeO.bind ?_ (fun _ => ?_)
def shardloglaw13_MergeWins.T21 : Bool × List (List Nat × List Nat) := (true, [([], []), ([0], [0]), ([1], [1]), ([1], [1]), ([2, 3, 1], [1, 2, 3]), ([4, 1], [1, 4]), ([1], [1]), ([5, 6, 1], [1, 5, 6]), ([7, 1], [1, 7]), ([1], [1]), ([1], [1]), ([9, 10, 1], [1, 9, 10]), ([11, 1], [1, 11]), ([1], [1]), ([12, 13, 1], [1, 12, 13]), ([14, 1], [1, 14]), ([8, 15, 1, 1], [1, 8, 15]), ([16, 1], [1, 16]), ([1, 17], [1, 17]), ([18, 16, 0, 1, 2, 3, 4, 5, 6, 7, 8, 9, 10, 11, 12, 13, 14, 15, 16, 17, 18], [0, 18])])
def shardloglaw13_MergeWins.B21 : List Nat := [0, 1, 3, 3, 15, 31, 3, 127, 255, 3, 3, 1539, 3587, 3, 15875, 32259, 65535, 131071, 262143, 524287]
theorem shardloglaw13_MergeWins.tab21 : rtab .any (opsOf Try.f5 21) = shardloglaw13_MergeWins.T21 := by kernel_rfl
theorem shardloglaw13_MergeWins.bits21 : waitsOk shardloglaw13_MergeWins.T21.2 shardloglaw13_MergeWins.B21 = true := by kernel_rfl
def shardloglaw13_MergeWins.T26 : Bool × List (List Nat × List Nat) := (true, [([], []), ([0], [0]), ([1], [1]), ([1], [1]), ([2, 3, 1], [1, 2, 3]), ([4, 1], [1, 4]), ([1], [1]), ([1], [1]), ([6, 7, 1], [1, 6, 7]), ([8, 1], [1, 8]), ([1], [1]), ([9, 10, 1], [1, 9, 10]), ([11, 1], [1, 11]), ([5, 12, 1], [1, 5, 12]), ([1, 13], [1, 13]), ([14, 1, 0, 1, 2, 3, 4, 5, 6, 7, 8, 9, 10, 11, 12, 13, 14], [0, 14])])
def shardloglaw13_MergeWins.B26 : List Nat := [0, 1, 3, 3, 15, 31, 3, 3, 195, 451, 3, 1987, 4035, 8191, 16383, 32767]
theorem shardloglaw13_MergeWins.tab26 : rtab .any (opsOf Try.f5 26) = shardloglaw13_MergeWins.T26 := by kernel_rfl
theorem shardloglaw13_MergeWins.bits26 : waitsOk shardloglaw13_MergeWins.T26.2 shardloglaw13_MergeWins.B26 = true := by kernel_rfl
set_option maxHeartbeats 8000000 in
set_option maxRecDepth 100000 in
theorem shardloglaw13_MergeWins.calls (k : Nat) (A0 : Option Addr) (c0 : Nat) (l0 : List (List (S35))) (r : Bool) (w : World) (hr0 : Kd.C (Kd.slice 35 k35) w A0 l0.length l0) (hc0 : l0.length ≤ c0) (h : shardloglaw13_MergeWins.f k l0 = some r) :
  Calls Try.prog 5 #[.slice A0 l0.length c0] w fun e w' => e = .returned (.bool r) ∧ Below w.heap.size w w' := by
 have hu35 := Try.underlying35
 have HR0 := aS hr0
 have HC0 := aS hc0
 clear hr0 hc0
 have HB := aS (Below.refl w.heap.size w)
 have H : ((shardloglaw13_awake.f k).bind fun t245 => (if t245 = true then ((shardlogref13_Few.f k l0).bind fun t246 => (shardloglaw13_MergeWins.j0 k l0 (!t246))) else (shardloglaw13_MergeWins.j0 k l0 true))) = some r := h
 clear h
 have HC2 := aS H
 clear H
 go_enter Try.func5, Try.ntmps5
 go_upto_region 1 with (fail)
 go_cut [19] (fun v19 wc => ∃ (kq : Nat) (x19_1 : Bool), v19 = .bool x19_1 ∧ Aside0 (shardloglaw13_MergeWins.j0 kq l0 x19_1 = some r) ∧ Aside0 (kq ≤ k) ∧ Aside0 (Below w.heap.size w wc))
 case first =>
  have H := HC2.out; clear HC2
  replace H := obm H
  obtain ⟨t245, A30, H⟩ := H
  replace H : (if t245 = true then ((shardlogref13_Few.f k l0).bind fun t246 => (shardloglaw13_MergeWins.j0 k l0 (!t246))) else (shardloglaw13_MergeWins.j0 k l0 true)) = some r := H
  have A3 := aS A30
  clear A30
  by_cases c4 : t245 = true
  ·
   subst c4
   have H1 : ((shardlogref13_Few.f k l0).bind fun t246 => (shardloglaw13_MergeWins.j0 k l0 (!t246))) = some r := by rw [if_pos rfl] at H; exact H
   clear H; have H := H1; clear H1
   replace H := obm H
   obtain ⟨t246, A50, H⟩ := H
   replace H : (shardloglaw13_MergeWins.j0 k l0 (!t246)) = some r := H
   have A5 := aS A50
   clear A50
   have H' := aS H
   clear H
   go_wp2_with (first | ((with_reducible refine gate_callee (f := 10) rfl ?_); refine goesL_ (some 13) rfl rfl Try.func10 (by kernel_rfl) rfl #[] rfl (by (try simp only [List.map_toArray, List.map_cons, List.map_nil]); first | done | rfl | (simp only [lld, llt]; rfl)) ?_; (with_reducible refine (shardloglaw13_awake.calls k  true _ A3.out).mono ?_); rintro e w6 ⟨rfl, hb⟩; refine ⟨_, rfl, ?_⟩; have n0_ := aS (below_step (by repeat (first | (with_reducible first | exact HB.out | apply bal | apply bdN | apply bdo) | exact HB.out)) hb); clear HB; have HB := n0_; clear n0_; (try clear hb); (try clear hb2); (try clear hk); (try clear hi)) | (go_at_call 11; (with_reducible refine (shardlogref13_Few.calls k _ _ l0 t246 _ ?side1 ?side2 A5.out).mono ?_); (case side1 => repeat (first | exact (Kd.C_below HR0.out HB.out) | (with_reducible refine Kd.C_alloc ?_ _) | (with_reducible refine Kd.C_drewN ?_ _) | (with_reducible refine Kd.C_drew ?_))); (case side2 => exact HC0.out); rintro e w7 ⟨rfl, hb⟩; have n0_ := aS (below_step (by repeat (first | (with_reducible first | exact HB.out | apply bal | apply bdN | apply bdo) | exact HB.out)) hb); clear HB; have HB := n0_; clear n0_; (try clear hb); (try clear hb2); (try clear hk); (try clear hi)))
   go_meet
   case rel => exact ⟨_, (!t246), (by first | rfl | (simp; done) | (simp [*]; done) | (simp; exact (by decide : ∀ a_ b_ : Bool, (a_ == b_) = (!a_ != b_)) _ _)), H', ⟨by first | omega | exact Nat.le_refl _⟩, ⟨by repeat (first | (with_reducible first | exact HB.out | apply bal | apply bdN | apply bdo) | exact HB.out)⟩⟩
  ·
   replace c4 := Bool.eq_false_iff.mpr c4
   subst c4
   have H1 : (shardloglaw13_MergeWins.j0 k l0 true) = some r := by rw [if_neg (show ¬ (false = true) by decide)] at H; exact H
   clear H; have H := H1; clear H1
   have H' := aS H
   clear H
   go_wp2_with (first | ((with_reducible refine gate_callee (f := 10) rfl ?_); refine goesL_ (some 13) rfl rfl Try.func10 (by kernel_rfl) rfl #[] rfl (by (try simp only [List.map_toArray, List.map_cons, List.map_nil]); first | done | rfl | (simp only [lld, llt]; rfl)) ?_; (with_reducible refine (shardloglaw13_awake.calls k  false _ A3.out).mono ?_); rintro e w8 ⟨rfl, hb⟩; refine ⟨_, rfl, ?_⟩; have n0_ := aS (below_step (by repeat (first | (with_reducible first | exact HB.out | apply bal | apply bdN | apply bdo) | exact HB.out)) hb); clear HB; have HB := n0_; clear n0_; (try clear hb); (try clear hb2); (try clear hk); (try clear hi)))
   go_meet
   case rel => exact ⟨_, (true), (by first | rfl | (simp; done) | (simp [*]; done) | (simp; exact (by decide : ∀ a_ b_ : Bool, (a_ == b_) = (!a_ != b_)) _ _)), H', ⟨by first | omega | exact Nat.le_refl _⟩, ⟨by repeat (first | (with_reducible first | exact HB.out | apply bal | apply bdN | apply bdo) | exact HB.out)⟩⟩
 case rest =>
  clear HC2; (try clear c1); (try clear p2); (try clear c4); (try clear c5)
  obtain ⟨kq, x19_1, rfl, HA, HJ1, HB⟩ := hcut
  cases kq with
  | zero => exact absurd HA.out (by simp [shardloglaw13_MergeWins.j0])
  | succ kj1 =>
   have H := HA.out; clear HA
   simp only [shardloglaw13_MergeWins.j0] at H
   by_cases c9 : x19_1 = true
   ·
    subst c9
    have H1 : ((shardloglaw13_awake.f kj1).bind fun t247 => (some t247)) = some r := by rw [if_pos rfl] at H; exact H
    clear H; have H := H1; clear H1
    replace H := obm H
    obtain ⟨t247, A100, H⟩ := H
    replace H : (some t247) = some r := H
    have A10 := aS A100
    clear A100
    obtain rfl := Option.some.inj H
    go_wp2_with (first | ((with_reducible refine gate_callee (f := 10) rfl ?_); refine goesL_ (some 20) rfl rfl Try.func10 (by kernel_rfl) rfl #[] rfl (by (try simp only [List.map_toArray, List.map_cons, List.map_nil]); first | done | rfl | (simp only [lld, llt]; rfl)) ?_; (with_reducible refine (shardloglaw13_awake.calls kj1  t247 _ A10.out).mono ?_); rintro e w11 ⟨rfl, hb⟩; refine ⟨_, rfl, ?_⟩; have n0_ := aS (below_step (by repeat (first | (with_reducible first | exact HB.out | apply bal | apply bdN | apply bdo) | exact HB.out)) hb); clear HB; have HB := n0_; clear n0_; (try clear hb); (try clear hb2); (try clear hk); (try clear hi)))
    go_ret
    exact ⟨by first | rfl | (simp [errW_none, errW_some] <;> rfl) | (simp [*, errW_none, errW_some] <;> rfl), by repeat (first | (with_reducible first | exact HB.out | apply bal | apply bdN | apply bdo) | exact HB.out)⟩
   ·
    replace c9 := Bool.eq_false_iff.mpr c9
    subst c9
    have H1 : ((shardlogref13_Sorts.f kj1 l0).bind fun t248 => ((merge_All.f kj1 t248).bind fun t251 => ((shardlogref08_Sorted.f kj1 t251).bind fun t254 => (if t254 = true then (shardloglaw13_MergeWins.l0 kj1 t248 t251 0 0) else (none))))) = some r := by rw [if_neg (show ¬ (false = true) by decide)] at H; exact H
    clear H; have H := H1; clear H1
    replace H := obm H
    obtain ⟨t248, A120, H⟩ := H
    replace H : ((merge_All.f kj1 t248).bind fun t251 => ((shardlogref08_Sorted.f kj1 t251).bind fun t254 => (if t254 = true then (shardloglaw13_MergeWins.l0 kj1 t248 t251 0 0) else (none)))) = some r := H
    have A12 := aS A120
    clear A120
    replace H := obm H
    obtain ⟨t251, A130, H⟩ := H
    replace H : ((shardlogref08_Sorted.f kj1 t251).bind fun t254 => (if t254 = true then (shardloglaw13_MergeWins.l0 kj1 t248 t251 0 0) else (none))) = some r := H
    have A13 := aS A130
    clear A130
    replace H := obm H
    obtain ⟨t254, A140, H⟩ := H
    replace H : (if t254 = true then (shardloglaw13_MergeWins.l0 kj1 t248 t251 0 0) else (none)) = some r := H
    have A14 := aS A140
    clear A140
    by_cases c15 : t254 = true
    ·
     subst c15
     have H1 : (shardloglaw13_MergeWins.l0 kj1 t248 t251 0 0) = some r := by rw [if_pos rfl] at H; exact H
     clear H; have H := H1; clear H1
     have H' := aS H
     clear H
     go_wp2_with (first | ((with_reducible refine gate_callee (f := 12) rfl ?_); refine goesL_ (some 22) rfl rfl Try.func12 (by kernel_rfl) rfl #[.slice A0 l0.length c0] rfl (by (try simp only [List.map_toArray, List.map_cons, List.map_nil]); first | done | rfl | (simp only [lld, llt]; rfl)) ?_; (with_reducible refine (shardlogref13_Sorts.calls kj1 _ _ l0 t248 _ ?side1 ?side2 A12.out).mono ?_); (case side1 => repeat (first | exact (Kd.C_below HR0.out HB.out) | (with_reducible refine Kd.C_alloc ?_ _) | (with_reducible refine Kd.C_drewN ?_ _) | (with_reducible refine Kd.C_drew ?_))); (case side2 => exact HC0.out); rintro e w16 ⟨v249, rfl, ho0, hb⟩; refine ⟨_, rfl, ?_⟩; have n0_ := aS (Kd.S_lower ho0 (below_size (by repeat (first | (with_reducible first | exact HB.out | apply bal | apply bdN | apply bdo) | exact HB.out)))); have n1_ := aS (below_step (by repeat (first | (with_reducible first | exact HB.out | apply bal | apply bdN | apply bdo) | exact HB.out)) hb); clear HB; have HO250 := n0_; have HB := n1_; clear n0_ n1_; (try clear hb); (try clear hb2); (try clear hk); (try clear hi); (try clear ho0); obtain ⟨Ao17, co17, eo17⟩ := Kd.S_slice HO250.out; subst eo17) | ((with_reducible refine gate_callee (f := 14) rfl ?_); refine goesL_ (some 24) rfl rfl Try.func14 (by kernel_rfl) rfl #[.slice Ao17 t248.length co17] rfl (by (try simp only [List.map_toArray, List.map_cons, List.map_nil]); first | done | rfl | (simp only [lld, llt]; rfl)) ?_; (with_reducible refine (merge_All.calls kj1 _ _ t248 t251 _ ?side1 ?side2 A13.out).mono ?_); (case side1 => repeat (first | exact (Kd.S_reads' HO250.out).2.2 | (with_reducible refine Kd.C_alloc ?_ _) | (with_reducible refine Kd.C_drewN ?_ _) | (with_reducible refine Kd.C_drew ?_))); (case side2 => exact (Kd.S_reads' HO250.out).2.1); rintro e w18 ⟨v252, rfl, ho0, hb⟩; refine ⟨_, rfl, ?_⟩; have n0_ := aS (Kd.S_elder' (by (with_reducible repeat (first | apply Kd.S_alloc | apply Kd.S_drewN | apply Kd.S_drew)); exact HO250.out) (by first | exact Kd.R_base ho0 | exact Kd.S_base ho0 | exact Kd.R_base ho0 | exact Kd.V_base ho0) hb); have n1_ := aS (Kd.R_lower ho0 (below_size (by repeat (first | (with_reducible first | exact HB.out | apply bal | apply bdN | apply bdo) | exact HB.out)))); have n2_ := aS (below_step (by repeat (first | (with_reducible first | exact HB.out | apply bal | apply bdN | apply bdo) | exact HB.out)) hb); clear HO250; clear HB; have HO250 := n0_; have HO253 := n1_; have HB := n2_; clear n0_ n1_ n2_; (try clear hb); (try clear hb2); (try clear hk); (try clear hi); (try clear ho0); obtain ⟨Ao19, co19, eo19⟩ := Kd.R_slice HO253.out; subst eo19) | ((with_reducible refine gate_callee (f := 22) rfl ?_); refine goesL_ (some 26) rfl rfl Try.func22 (by kernel_rfl) rfl #[.slice Ao19 t251.length co19] rfl (by (try simp only [List.map_toArray, List.map_cons, List.map_nil]); first | done | rfl | (simp only [lld, llt]; rfl)) ?_; (with_reducible refine (shardlogref08_Sorted.calls kj1 _ _ t251 true _ ?side1 ?side2 A14.out).mono ?_); (case side1 => repeat (first | exact (Kd.R_reads' HO253.out).2.2 | (with_reducible refine Kd.C_alloc ?_ _) | (with_reducible refine Kd.C_drewN ?_ _) | (with_reducible refine Kd.C_drew ?_))); (case side2 => exact (Kd.R_reads' HO253.out).2.1); rintro e w20 ⟨rfl, hb⟩; refine ⟨_, rfl, ?_⟩; have n0_ := aS (Kd.S_below (by (with_reducible repeat (first | apply Kd.S_alloc | apply Kd.S_drewN | apply Kd.S_drew)); exact HO250.out) hb); have n1_ := aS (Kd.R_below (by (with_reducible repeat (first | apply Kd.R_alloc | apply Kd.R_drewN | apply Kd.R_drew)); exact HO253.out) hb); have n2_ := aS (below_step (by repeat (first | (with_reducible first | exact HB.out | apply bal | apply bdN | apply bdo) | exact HB.out)) hb); clear HO250; clear HO253; clear HB; have HO250 := n0_; have HO253 := n1_; have HB := n2_; clear n0_ n1_ n2_; (try clear hb); (try clear hb2); (try clear hk); (try clear hi)))
     go_loopg [5, 6] kj1 (fun kq v5 v6 w' => ∃ (x5_2 : Int) (x6_2 : Int), v5 = .int .i64 x5_2 ∧ v6 = .int .i64 x6_2 ∧ Aside0 (shardloglaw13_MergeWins.l0 kq t248 t251 x5_2 x6_2 = some r) ∧ Aside0 (kq ≤ kj1) ∧ Aside0 (Kd.S (Kd.slice 35 k35) 27 w' w.heap.size (fun k_ => some k_ ≠ ((.slice Ao19 t251.length co19) : Value).ownBlock) (.slice Ao17 t248.length co17) t248) ∧ Aside0 (Kd.R k35 35 w' w.heap.size (fun _ => True) (.slice Ao19 t251.length co19) t251) ∧ Aside0 (Below w.heap.size w w'))
     case atStart => exact ⟨(0), (0), (by first | rfl | (simp; done) | (simp [*]; done) | (simp; exact (by decide : ∀ a_ b_ : Bool, (a_ == b_) = (!a_ != b_)) _ _)), (by first | rfl | (simp; done) | (simp [*]; done) | (simp; exact (by decide : ∀ a_ b_ : Bool, (a_ == b_) = (!a_ != b_)) _ _)), H', ⟨Nat.le_refl _⟩, ⟨by (with_reducible repeat (first | apply Kd.S_alloc | apply Kd.S_drewN | apply Kd.S_drew)); exact Kd.S_mono HO250.out (fun _ hk => hk.2)⟩, ⟨by (with_reducible repeat (first | apply Kd.R_alloc | apply Kd.R_drewN | apply Kd.R_drew)); exact HO253.out⟩, ⟨by repeat (first | (with_reducible first | exact HB.out | apply bal | apply bdN | apply bdo) | exact HB.out)⟩⟩
     case round =>
      clear H'; (try clear c1); (try clear c2); (try clear p2); (try clear c4); (try clear c5); (try clear c9); (try clear c10); (try clear c12); (try clear c14); (try clear c15); (try clear p2)
      obtain ⟨x5_2, x6_2, rfl, rfl, HA, HK2, HO_3, HO_4, HB⟩ := hrel
      cases gk with
      | zero => exact absurd HA.out (by simp [shardloglaw13_MergeWins.l0])
      | succ k2 =>
       have H := HA.out; clear HA
       simp only [shardloglaw13_MergeWins.l0] at H
       by_cases c21 : x6_2 < (t248.length : Int)
       ·
        rw [if_pos c21] at H
        have c21b0 : decide (x6_2 < (t248.length : Int)) = true := decide_eq_true c21
        clear c21
        have H' := aS H
        clear H
        go_wp2
        go_loopg [5, 7] k2 (fun kq v5 v7 w' => ∃ (x5_3 : Int) (x7_3 : Int), v5 = .int .i64 x5_3 ∧ v7 = .int .i64 x7_3 ∧ Aside0 (shardloglaw13_MergeWins.l1 kq t248 t251 x5_3 x6_2 x7_3 = some r) ∧ Aside0 (kq ≤ k2) ∧ Aside0 (Kd.S (Kd.slice 35 k35) 27 w' w.heap.size (fun k_ => some k_ ≠ ((.slice Ao19 t251.length co19) : Value).ownBlock) (.slice Ao17 t248.length co17) t248) ∧ Aside0 (Kd.R k35 35 w' w.heap.size (fun _ => True) (.slice Ao19 t251.length co19) t251) ∧ Aside0 (Below w.heap.size w w'))
        case atStart => exact ⟨(x5_2), (0), (by first | rfl | (simp; done) | (simp [*]; done) | (simp; exact (by decide : ∀ a_ b_ : Bool, (a_ == b_) = (!a_ != b_)) _ _)), (by first | rfl | (simp; done) | (simp [*]; done) | (simp; exact (by decide : ∀ a_ b_ : Bool, (a_ == b_) = (!a_ != b_)) _ _)), H', ⟨Nat.le_refl _⟩, ⟨by (with_reducible repeat (first | apply Kd.S_alloc | apply Kd.S_drewN | apply Kd.S_drew)); exact HO_3.out⟩, ⟨by (with_reducible repeat (first | apply Kd.R_alloc | apply Kd.R_drewN | apply Kd.R_drew)); exact HO_4.out⟩, ⟨by repeat (first | (with_reducible first | exact HB.out | apply bal | apply bdN | apply bdo) | exact HB.out)⟩⟩
        case round =>
         clear H'; (try clear c1); (try clear c2); (try clear p2); (try clear c4); (try clear c5); (try clear c9); (try clear c10); (try clear c12); (try clear c14); (try clear c15); (try clear c21); (try clear c21b0); (try clear p2)
         obtain ⟨x5_3, x7_3, rfl, rfl, HA, HK3, HO_3, HO_4, HB⟩ := hrel
         cases gk with
         | zero => exact absurd HA.out (by simp [shardloglaw13_MergeWins.l1])
         | succ k3 =>
          have H := HA.out; clear HA
          simp only [shardloglaw13_MergeWins.l1] at H
          by_cases c22 : 0 ≤ x6_2
          ·
           rw [if_pos c22] at H
           have c22b0 : decide (0 ≤ x6_2) = true := decide_eq_true c22
           clear c22
           by_cases c23 : x6_2 < (t248.length : Int)
           ·
            rw [if_pos c23] at H
            have c23b0 : decide (x6_2 < (t248.length : Int)) = true := decide_eq_true c23
            clear c23
            by_cases c24 : x7_3 < ((rd_L4 t248 x6_2).length : Int)
            ·
             rw [if_pos c24] at H
             have c24b0 : decide (x7_3 < ((rd_L4 t248 x6_2).length : Int)) = true := decide_eq_true c24
             clear c24
             have H' := aS H
             clear H
             have p255 : 0 ≤ (x6_2 : Int) := odt (by first | (with_reducible assumption) | assumption)
             have q255 : x6_2 < (t248.length : Int) := odt (by first | (with_reducible assumption) | assumption)
             obtain ⟨ad255, A255_0, c255_0, e255, hx255_0, hl255_0, hi255_0⟩ := at_L4 (Kd.S_reads' HO_3.out).2.2 x6_2 p255 q255
             cases e255
             obtain ⟨ce255, hce255, hMe255, hcc255⟩ := Kd.S_get HO_3.out [] x6_2 p255 (by first | exact q255 | exact odt (by first | (with_reducible assumption) | assumption) | (have e_ := (Kd.S_reads' HO_3.out).1; omega))
             obtain ⟨ve255_0, rfl, ge255_0⟩ := hMe255
             have hv255_0 := hcc255 0 _ rfl
             rw [Nat.add_zero, show ((Kd.slice 35 k35)).sz = 1 from rfl, Nat.mul_one] at hv255_0
             replace hv255_0 := Option.some.inj (hv255_0.symm.trans hx255_0)
             rw [hv255_0] at ge255_0
             have HL255_0 := aS (show Kd.R k35 35 _ _ _ _ (rd_L4 t248 x6_2) from ge255_0)
             clear hv255_0 ge255_0; clear hcc255 hce255
             have HR255_0 := aS hi255_0
             have HC255_0 := aS hl255_0
             clear hi255_0 hl255_0
             replace p255 := eq_true p255
             replace q255 := eq_true q255
             go_wp2
             go_loopg [8, 9] k3 (fun kq v8 v9 w' => ∃ (x8_4 : Bool) (x9_4 : Int), v8 = .bool x8_4 ∧ v9 = .int .i64 x9_4 ∧ Aside0 (shardloglaw13_MergeWins.l2 kq t248 t251 x5_3 x6_2 x7_3 x8_4 x9_4 = some r) ∧ Aside0 (kq ≤ k3) ∧ Aside0 (Kd.S (Kd.slice 35 k35) 27 w' w.heap.size (fun k_ => some k_ ≠ ((.slice Ao19 t251.length co19) : Value).ownBlock) (.slice (some ad255) t248.length co17) t248) ∧ Aside0 (Kd.R k35 35 w' w.heap.size (fun _ => True) (.slice Ao19 t251.length co19) t251) ∧ Aside0 (Kd.C k35 w' A255_0 (rd_L4 t248 x6_2).length (rd_L4 t248 x6_2)) ∧ Aside0 (Below w.heap.size w w'))
             case atStart => exact ⟨(true), (0), (by first | rfl | (simp; done) | (simp [*]; done) | (simp; exact (by decide : ∀ a_ b_ : Bool, (a_ == b_) = (!a_ != b_)) _ _)), (by first | rfl | (simp; done) | (simp [*]; done) | (simp; exact (by decide : ∀ a_ b_ : Bool, (a_ == b_) = (!a_ != b_)) _ _)), H', ⟨Nat.le_refl _⟩, ⟨by (with_reducible repeat (first | apply Kd.S_alloc | apply Kd.S_drewN | apply Kd.S_drew)); exact HO_3.out⟩, ⟨by (with_reducible repeat (first | apply Kd.R_alloc | apply Kd.R_drewN | apply Kd.R_drew)); exact HO_4.out⟩, ⟨by repeat (first | (with_reducible exact HR255_0.out) | (with_reducible refine Kd.C_alloc ?_ _) | (with_reducible refine Kd.C_drewN ?_ _) | (with_reducible refine Kd.C_drew ?_) | exact HR255_0.out)⟩, ⟨by repeat (first | (with_reducible first | exact HB.out | apply bal | apply bdN | apply bdo) | exact HB.out)⟩⟩
             case round =>
              clear H'; (try clear c1); (try clear c2); (try clear p2); (try clear q2); (try clear hx2); (try clear c4); (try clear c5); (try clear c9); (try clear c10); (try clear c12); (try clear c14); (try clear c15); (try clear c21); (try clear c21b0); (try clear c22); (try clear c22b0); (try clear c23); (try clear c23b0); (try clear c24); (try clear c24b0); (try clear hx255_0); (try clear p2); (try clear p255); (try clear q255)
              obtain ⟨x8_4, x9_4, rfl, rfl, HA, HK4, HO_3, HO_4, HR255_0, HB⟩ := hrel
              cases gk with
              | zero => exact absurd HA.out (by simp [shardloglaw13_MergeWins.l2])
              | succ k4 =>
               have H := HA.out; clear HA
               simp only [shardloglaw13_MergeWins.l2] at H
               by_cases c25 : x9_4 < x6_2
               ·
                rw [if_pos c25] at H
                have c25b0 : decide (x9_4 < x6_2) = true := decide_eq_true c25
                clear c25
                have H' := aS H
                clear H
                go_wp2
                go_loopg [8, 10] k4 (fun kq v8 v10 w' => ∃ (x8_5 : Bool) (x10_5 : Int), v8 = .bool x8_5 ∧ v10 = .int .i64 x10_5 ∧ Aside0 (shardloglaw13_MergeWins.l3 kq t248 t251 x5_3 x6_2 x7_3 x8_5 x9_4 x10_5 = some r) ∧ Aside0 (kq ≤ k4) ∧ Aside0 (Kd.S (Kd.slice 35 k35) 27 w' w.heap.size (fun k_ => some k_ ≠ ((.slice Ao19 t251.length co19) : Value).ownBlock) (.slice (some ad255) t248.length co17) t248) ∧ Aside0 (Kd.R k35 35 w' w.heap.size (fun _ => True) (.slice Ao19 t251.length co19) t251) ∧ Aside0 (Kd.C k35 w' A255_0 (rd_L4 t248 x6_2).length (rd_L4 t248 x6_2)) ∧ Aside0 (Below w.heap.size w w'))
                case atStart => exact ⟨(x8_4), (0), (by first | rfl | (simp; done) | (simp [*]; done) | (simp; exact (by decide : ∀ a_ b_ : Bool, (a_ == b_) = (!a_ != b_)) _ _)), (by first | rfl | (simp; done) | (simp [*]; done) | (simp; exact (by decide : ∀ a_ b_ : Bool, (a_ == b_) = (!a_ != b_)) _ _)), H', ⟨Nat.le_refl _⟩, ⟨by (with_reducible repeat (first | apply Kd.S_alloc | apply Kd.S_drewN | apply Kd.S_drew)); exact HO_3.out⟩, ⟨by (with_reducible repeat (first | apply Kd.R_alloc | apply Kd.R_drewN | apply Kd.R_drew)); exact HO_4.out⟩, ⟨by repeat (first | (with_reducible exact HR255_0.out) | (with_reducible refine Kd.C_alloc ?_ _) | (with_reducible refine Kd.C_drewN ?_ _) | (with_reducible refine Kd.C_drew ?_) | exact HR255_0.out)⟩, ⟨by repeat (first | (with_reducible first | exact HB.out | apply bal | apply bdN | apply bdo) | exact HB.out)⟩⟩
                case round =>
                 clear H'; (try clear c1); (try clear c2); (try clear p2); (try clear q2); (try clear hx2); (try clear c4); (try clear c5); (try clear c9); (try clear c10); (try clear c12); (try clear c14); (try clear c15); (try clear c21); (try clear c21b0); (try clear c22); (try clear c22b0); (try clear c23); (try clear c23b0); (try clear c24); (try clear c24b0); (try clear c25); (try clear c25b0); (try clear p25); (try clear q25); (try clear hx25); (try clear hx255_0); (try clear p2); (try clear p255); (try clear q2); (try clear q255)
                 obtain ⟨x8_5, x10_5, rfl, rfl, HA, HK5, HO_3, HO_4, HR255_0, HB⟩ := hrel
                 cases gk with
                 | zero => exact absurd HA.out (by simp [shardloglaw13_MergeWins.l3])
                 | succ k5 =>
                  have H := HA.out; clear HA
                  simp only [shardloglaw13_MergeWins.l3] at H
                  by_cases c26 : 0 ≤ x9_4
                  ·
                   rw [if_pos c26] at H
                   have c26b0 : decide (0 ≤ x9_4) = true := decide_eq_true c26
                   clear c26
                   by_cases c27 : x9_4 < (t248.length : Int)
                   ·
                    rw [if_pos c27] at H
                    have c27b0 : decide (x9_4 < (t248.length : Int)) = true := decide_eq_true c27
                    clear c27
                    by_cases c28 : x10_5 < ((rd_L4 t248 x9_4).length : Int)
                    ·
                     rw [if_pos c28] at H
                     have c28b0 : decide (x10_5 < ((rd_L4 t248 x9_4).length : Int)) = true := decide_eq_true c28
                     clear c28
                     by_cases c29 : x8_5 = true
                     ·
                      subst c29
                      have H1 : (if 0 ≤ x10_5 then (if 0 ≤ x6_2 then (if x6_2 < (t248.length : Int) then (if 0 ≤ x7_3 then (if x7_3 < ((rd_L4 t248 x6_2).length : Int) then ((shardlogref08_Compare.f k5 ((rd_T35 (rd_L4 t248 x9_4) x10_5).f0) ((rd_T35 (rd_L4 t248 x9_4) x10_5).f1) ((rd_T35 (rd_L4 t248 x9_4) x10_5).f2) ((rd_T35 (rd_L4 t248 x9_4) x10_5).f3) ((rd_T35 (rd_L4 t248 x9_4) x10_5).f4) ((rd_T35 (rd_L4 t248 x6_2) x7_3).f0) ((rd_T35 (rd_L4 t248 x6_2) x7_3).f1) ((rd_T35 (rd_L4 t248 x6_2) x7_3).f2) ((rd_T35 (rd_L4 t248 x6_2) x7_3).f3) ((rd_T35 (rd_L4 t248 x6_2) x7_3).f4)).bind fun t261 => (shardloglaw13_MergeWins.l3 k5 t248 t251 x5_3 x6_2 x7_3 (t261 != 0) x9_4 (wrap64 (x10_5 + 1)))) else (none)) else (none)) else (none)) else (none)) else (none)) = some r := by rw [if_pos rfl] at H; exact H
                      clear H; have H := H1; clear H1
                      by_cases c30 : 0 ≤ x10_5
                      ·
                       rw [if_pos c30] at H
                       have c30b0 : decide (0 ≤ x10_5) = true := decide_eq_true c30
                       clear c30
                       by_cases c31 : 0 ≤ x6_2
                       ·
                        rw [if_pos c31] at H
                        have c31b0 : decide (0 ≤ x6_2) = true := decide_eq_true c31
                        clear c31
                        by_cases c32 : x6_2 < (t248.length : Int)
                        ·
                         rw [if_pos c32] at H
                         have c32b0 : decide (x6_2 < (t248.length : Int)) = true := decide_eq_true c32
                         clear c32
                         by_cases c33 : 0 ≤ x7_3
                         ·
                          rw [if_pos c33] at H
                          have c33b0 : decide (0 ≤ x7_3) = true := decide_eq_true c33
                          clear c33
                          by_cases c34 : x7_3 < ((rd_L4 t248 x6_2).length : Int)
                          ·
                           rw [if_pos c34] at H
                           have c34b0 : decide (x7_3 < ((rd_L4 t248 x6_2).length : Int)) = true := decide_eq_true c34
                           clear c34
                           replace H := obm H
                           obtain ⟨t261, A350, H⟩ := H
                           replace H : (shardloglaw13_MergeWins.l3 k5 t248 t251 x5_3 x6_2 x7_3 (t261 != 0) x9_4 (wrap64 (x10_5 + 1))) = some r := H
                           have A35 := aS A350
                           clear A350
                           have H' := aS H
                           clear H
                           have p256 : 0 ≤ (x9_4 : Int) := odt (by first | (with_reducible assumption) | assumption)
                           have q256 : x9_4 < (t248.length : Int) := odt (by first | (with_reducible assumption) | assumption)
                           obtain ⟨ad256, A256_0, c256_0, e256, hx256_0, hl256_0, hi256_0⟩ := at_L4 (Kd.S_reads' HO_3.out).2.2 x9_4 p256 q256
                           obtain rfl : ad255 = ad256 := (by injection e256)
                           obtain ⟨ce256, hce256, hMe256, hcc256⟩ := Kd.S_get HO_3.out [] x9_4 p256 (by first | exact q256 | exact odt (by first | (with_reducible assumption) | assumption) | (have e_ := (Kd.S_reads' HO_3.out).1; omega))
                           obtain ⟨ve256_0, rfl, ge256_0⟩ := hMe256
                           have hv256_0 := hcc256 0 _ rfl
                           rw [Nat.add_zero, show ((Kd.slice 35 k35)).sz = 1 from rfl, Nat.mul_one] at hv256_0
                           replace hv256_0 := Option.some.inj (hv256_0.symm.trans hx256_0)
                           rw [hv256_0] at ge256_0
                           have HL256_0 := aS (show Kd.R k35 35 _ _ _ _ (rd_L4 t248 x9_4) from ge256_0)
                           clear hv256_0 ge256_0; clear hcc256 hce256
                           have HR256_0 := aS hi256_0
                           have HC256_0 := aS hl256_0
                           clear hi256_0 hl256_0
                           replace p256 := eq_true p256
                           replace q256 := eq_true q256
                           try go_wp2
                           have n0_ := aS (Kd.S_drew HO_3.out)
                           have n1_ := aS (Kd.R_drew HO_4.out)
                           have n2_ := aS (Kd.R_drew HL256_0.out)
                           have n3_ := aS (Kd.C_drew HR255_0.out)
                           have n4_ := aS (Kd.C_drew HR256_0.out)
                           have n5_ := aS (bdo HB.out)
                           clear HO_3; clear HO_4; clear HL256_0; clear HR255_0; clear HR256_0; clear HB
                           have HO_3 := n0_
                           have HO_4 := n1_
                           have HL256_0 := n2_
                           have HR255_0 := n3_
                           have HR256_0 := n4_
                           have HB := n5_
                           clear n0_ n1_ n2_ n3_ n4_ n5_
                           have p257 : 0 ≤ (x9_4 : Int) := odt (by first | (with_reducible assumption) | assumption)
                           have q257 : x9_4 < (t248.length : Int) := odt (by first | (with_reducible assumption) | assumption)
                           obtain ⟨ad257, A257_0, c257_0, e257, hx257_0, hl257_0, hi257_0⟩ := at_L4 (Kd.S_reads' HO_3.out).2.2 x9_4 p257 q257
                           obtain rfl : ad255 = ad257 := (by injection e257)
                           obtain ⟨ce257, hce257, hMe257, hcc257⟩ := Kd.S_get HO_3.out [] x9_4 p257 (by first | exact q257 | exact odt (by first | (with_reducible assumption) | assumption) | (have e_ := (Kd.S_reads' HO_3.out).1; omega))
                           obtain ⟨ve257_0, rfl, ge257_0⟩ := hMe257
                           have hv257_0 := hcc257 0 _ rfl
                           rw [Nat.add_zero, show ((Kd.slice 35 k35)).sz = 1 from rfl, Nat.mul_one] at hv257_0
                           replace hv257_0 := Option.some.inj (hv257_0.symm.trans hx257_0)
                           rw [hv257_0] at ge257_0
                           have HL257_0 := aS (show Kd.R k35 35 _ _ _ _ (rd_L4 t248 x9_4) from ge257_0)
                           clear hv257_0 ge257_0; clear hcc257 hce257
                           have HR257_0 := aS hi257_0
                           have HC257_0 := aS hl257_0
                           clear hi257_0 hl257_0
                           replace p257 := eq_true p257
                           replace q257 := eq_true q257
                           have p258 : 0 ≤ (x10_5 : Int) := odt (by first | (with_reducible assumption) | assumption)
                           have q258 : x10_5 < ((rd_L4 t248 x9_4).length : Int) := odt (by first | (with_reducible assumption) | assumption)
                           obtain ⟨ad258, e258, hx258_0, hx258_1, hx258_2, hx258_3, hx258_4⟩ := at_T35 (by repeat (first | (with_reducible exact HR257_0.out) | (with_reducible refine Kd.C_alloc ?_ _) | (with_reducible refine Kd.C_drewN ?_ _) | (with_reducible refine Kd.C_drew ?_) | exact HR257_0.out)) x10_5 p258 q258
                           cases e258
                           replace p258 := eq_true p258
                           replace q258 := eq_true q258
                           have p259 : 0 ≤ (x6_2 : Int) := odt (by first | (with_reducible assumption) | assumption)
                           have q259 : x6_2 < (t248.length : Int) := odt (by first | (with_reducible assumption) | assumption)
                           obtain ⟨ad259, A259_0, c259_0, e259, hx259_0, hl259_0, hi259_0⟩ := at_L4 (Kd.S_reads' HO_3.out).2.2 x6_2 p259 q259
                           obtain rfl : ad255 = ad259 := (by injection e259)
                           obtain ⟨ce259, hce259, hMe259, hcc259⟩ := Kd.S_get HO_3.out [] x6_2 p259 (by first | exact q259 | exact odt (by first | (with_reducible assumption) | assumption) | (have e_ := (Kd.S_reads' HO_3.out).1; omega))
                           obtain ⟨ve259_0, rfl, ge259_0⟩ := hMe259
                           have hv259_0 := hcc259 0 _ rfl
                           rw [Nat.add_zero, show ((Kd.slice 35 k35)).sz = 1 from rfl, Nat.mul_one] at hv259_0
                           replace hv259_0 := Option.some.inj (hv259_0.symm.trans hx259_0)
                           rw [hv259_0] at ge259_0
                           have HL259_0 := aS (show Kd.R k35 35 _ _ _ _ (rd_L4 t248 x6_2) from ge259_0)
                           clear hv259_0 ge259_0; clear hcc259 hce259
                           have HR259_0 := aS hi259_0
                           have HC259_0 := aS hl259_0
                           clear hi259_0 hl259_0
                           replace p259 := eq_true p259
                           replace q259 := eq_true q259
                           have p260 : 0 ≤ (x7_3 : Int) := odt (by first | (with_reducible assumption) | assumption)
                           have q260 : x7_3 < ((rd_L4 t248 x6_2).length : Int) := odt (by first | (with_reducible assumption) | assumption)
                           obtain ⟨ad260, e260, hx260_0, hx260_1, hx260_2, hx260_3, hx260_4⟩ := at_T35 (by repeat (first | (with_reducible exact HR259_0.out) | (with_reducible refine Kd.C_alloc ?_ _) | (with_reducible refine Kd.C_drewN ?_ _) | (with_reducible refine Kd.C_drew ?_) | exact HR259_0.out)) x7_3 p260 q260
                           cases e260
                           replace p260 := eq_true p260
                           replace q260 := eq_true q260
                           refine start_ (n := 20) (S := fun w' => w'.cell? (ad255.add (x9_4).toNat) = some (.slice (some ad258) (rd_L4 t248 x9_4).length c257_0) ∧ w'.cell? (ad258.add ((x10_5).toNat * 5)) = some (.string ((rd_T35 (rd_L4 t248 x9_4) x10_5).f0)) ∧ w'.cell? ⟨(ad258.add ((x10_5).toNat * 5)).block, (ad258.add ((x10_5).toNat * 5)).off + 1, none⟩ = some (.string ((rd_T35 (rd_L4 t248 x9_4) x10_5).f1)) ∧ w'.cell? ⟨(ad258.add ((x10_5).toNat * 5)).block, (ad258.add ((x10_5).toNat * 5)).off + 2, none⟩ = some (.int .i64 ((rd_T35 (rd_L4 t248 x9_4) x10_5).f2)) ∧ w'.cell? ⟨(ad258.add ((x10_5).toNat * 5)).block, (ad258.add ((x10_5).toNat * 5)).off + 3, none⟩ = some (.string ((rd_T35 (rd_L4 t248 x9_4) x10_5).f3)) ∧ w'.cell? ⟨(ad258.add ((x10_5).toNat * 5)).block, (ad258.add ((x10_5).toNat * 5)).off + 4, none⟩ = some (.bool ((rd_T35 (rd_L4 t248 x9_4) x10_5).f4)) ∧ w'.cell? (ad255.add (x6_2).toNat) = some (.slice (some ad260) (rd_L4 t248 x6_2).length c259_0) ∧ w'.cell? (ad260.add ((x7_3).toNat * 5)) = some (.string ((rd_T35 (rd_L4 t248 x6_2) x7_3).f0)) ∧ w'.cell? ⟨(ad260.add ((x7_3).toNat * 5)).block, (ad260.add ((x7_3).toNat * 5)).off + 1, none⟩ = some (.string ((rd_T35 (rd_L4 t248 x6_2) x7_3).f1)) ∧ w'.cell? ⟨(ad260.add ((x7_3).toNat * 5)).block, (ad260.add ((x7_3).toNat * 5)).off + 2, none⟩ = some (.int .i64 ((rd_T35 (rd_L4 t248 x6_2) x7_3).f2)) ∧ w'.cell? ⟨(ad260.add ((x7_3).toNat * 5)).block, (ad260.add ((x7_3).toNat * 5)).off + 3, none⟩ = some (.string ((rd_T35 (rd_L4 t248 x6_2) x7_3).f3)) ∧ w'.cell? ⟨(ad260.add ((x7_3).toNat * 5)).block, (ad260.add ((x7_3).toNat * 5)).off + 4, none⟩ = some (.bool ((rd_T35 (rd_L4 t248 x6_2) x7_3).f4))) (ds := []) #[false, false, false, false, false, false, false, false, false, false, false, false, false, false, false, false, false, false, false, false] (by kernel_rfl) rfl rfl ⟨hx257_0, hx258_0, hx258_1, hx258_2, hx258_3, hx258_4, hx259_0, hx260_0, hx260_1, hx260_2, hx260_3, hx260_4⟩ (fun hHeld => ?_); refine with_tabW shardloglaw13_MergeWins.tab21 shardloglaw13_MergeWins.bits21 (fun HT_ HW_ => ?_)
                           generalize wr.drew = w36 at HO_3 HO_4 HL256_0 HR255_0 HR256_0 HB HL257_0 HL259_0 HR257_0 HR259_0 hx257_0 hx258_0 hx258_1 hx258_2 hx258_3 hx258_4 hx259_0 hx260_0 hx260_1 hx260_2 hx260_3 hx260_4 hHeld ⊢
                           refine pure_ (i := 0) (N := some 57) (v := ?_) (a' := ?_) #[true, false, false, false, false, false, false, false, false, false, false, false, false, false, false, false, false, false, false, false] rfl rfl (any_of HT_.out (by kernel_rfl)) (fun _ _ _ h => h) (Or.inl ⟨by rfl, ?_⟩) ?_ ?_
                           rotate_left
                           ·
                            intro w'
                            go_simp
                            with_reducible rfl
                           rotate_left
                           ·
                            simp only [Act.put, lsa, lsz, lss, i64_w, i32_w]
                            rfl
                           refine pure_ (i := 1) (N := some 58) (v := ?_) (a' := ?_) #[true, true, false, false, false, false, false, false, false, false, false, false, false, false, false, false, false, false, false, false] rfl rfl (any_of HT_.out (by kernel_rfl)) (fun _ _ _ h => h) (Or.inl ⟨by rfl, ?_⟩) ?_ ?_
                           rotate_left
                           ·
                            intro w'
                            go_simp
                            with_reducible rfl
                           rotate_left
                           ·
                            simp only [Act.put, lsa, lsz, lss, i64_w, i32_w]
                            rfl
                           refine pure_ (i := 2) (N := some 59) (v := ?_) (a' := ?_) #[true, true, true, false, false, false, false, false, false, false, false, false, false, false, false, false, false, false, false, false] rfl rfl (any_of HT_.out (by kernel_rfl)) (fun _ _ _ h => h) (Or.inl ⟨by rfl, ?_⟩) ?_ ?_
                           rotate_left
                           ·
                            intro w'
                            go_simp
                            with_reducible rfl
                           rotate_left
                           ·
                            simp only [Act.put, lsa, lsz, lss, i64_w, i32_w]
                            rfl
                           refine pure_ (i := 3) (N := some 60) (v := ?_) (a' := ?_) #[true, true, true, true, false, false, false, false, false, false, false, false, false, false, false, false, false, false, false, false] rfl rfl (any_of HT_.out (by kernel_rfl)) (fun _ _ _ h => h) (Or.inl ⟨by rfl, ?_⟩) ?_ ?_
                           rotate_left
                           ·
                            intro w'
                            go_simp
                            with_reducible rfl
                           rotate_left
                           ·
                            simp only [Act.put, lsa, lsz, lss, i64_w, i32_w]
                            rfl
                           refine pure_ (i := 4) (N := some 61) (v := ?_) (a' := ?_) #[true, true, true, true, true, false, false, false, false, false, false, false, false, false, false, false, false, false, false, false] rfl rfl (any_of HT_.out (by kernel_rfl)) (fun _ _ _ h => h) (Or.inl ⟨by rfl, ?_⟩) ?_ ?_
                           rotate_left
                           ·
                            intro w'
                            go_simp
                            with_reducible rfl
                           rotate_left
                           ·
                            simp only [Act.put, lsa, lsz, lss, i64_w, i32_w]
                            rfl
                           refine pure_ (i := 6) (N := some 63) (v := ?_) (a' := ?_) #[true, true, true, true, true, false, true, false, false, false, false, false, false, false, false, false, false, false, false, false] rfl rfl (any_of HT_.out (by kernel_rfl)) (fun _ _ _ h => h) (Or.inl ⟨by rfl, ?_⟩) ?_ ?_
                           rotate_left
                           ·
                            intro w'
                            go_simp
                            with_reducible rfl
                           rotate_left
                           ·
                            simp only [Act.put, lsa, lsz, lss, i64_w, i32_w]
                            rfl
                           refine pure_ (i := 9) (N := some 66) (v := ?_) (a' := ?_) #[true, true, true, true, true, false, true, false, false, true, false, false, false, false, false, false, false, false, false, false] rfl rfl (any_of HT_.out (by kernel_rfl)) (fun _ _ _ h => h) (Or.inl ⟨by rfl, ?_⟩) ?_ ?_
                           rotate_left
                           ·
                            intro w'
                            go_simp
                            with_reducible rfl
                           rotate_left
                           ·
                            simp only [Act.put, lsa, lsz, lss, i64_w, i32_w]
                            rfl
                           refine pure_ (i := 10) (N := some 67) (v := ?_) (a' := ?_) #[true, true, true, true, true, false, true, false, false, true, true, false, false, false, false, false, false, false, false, false] rfl rfl (any_of HT_.out (by kernel_rfl)) (fun _ _ _ h => h) (Or.inl ⟨by rfl, ?_⟩) ?_ ?_
                           rotate_left
                           ·
                            intro w'
                            go_simp
                            with_reducible rfl
                           rotate_left
                           ·
                            simp only [Act.put, lsa, lsz, lss, i64_w, i32_w]
                            rfl
                           refine pure_ (i := 11) (N := some 68) (v := ?_) (a' := ?_) #[true, true, true, true, true, false, true, false, false, true, true, true, false, false, false, false, false, false, false, false] rfl rfl (any_of HT_.out (by kernel_rfl)) (fun _ _ _ h => h) (Or.inl ⟨by rfl, ?_⟩) ?_ ?_
                           rotate_left
                           ·
                            intro w'
                            go_simp
                            with_reducible rfl
                           rotate_left
                           ·
                            simp only [Act.put, lsa, lsz, lss, i64_w, i32_w]
                            rfl
                           refine pure_ (i := 13) (N := some 70) (v := ?_) (a' := ?_) #[true, true, true, true, true, false, true, false, false, true, true, true, false, true, false, false, false, false, false, false] rfl rfl (any_of HT_.out (by kernel_rfl)) (fun _ _ _ h => h) (Or.inl ⟨by rfl, ?_⟩) ?_ ?_
                           rotate_left
                           ·
                            intro w'
                            go_simp
                            with_reducible rfl
                           rotate_left
                           ·
                            simp only [Act.put, lsa, lsz, lss, i64_w, i32_w]
                            rfl
                           refine take_ (i := 5) (N := some 62) (v := ?_) (a' := ?_) #[true, true, true, true, true, true, true, false, false, true, true, true, false, true, false, false, false, false, false, false] rfl rfl (take_ofW HT_.out HW_.out (by kernel_rfl)) (fun _ _ _ h => h) (Or.inl ⟨by rfl, ?_⟩) hHeld ?_ ?_
                           rotate_left
                           ·
                            rintro w' ⟨s0, s1, s2, s3, s4, s5, s6, s7, s8, s9, s10, s11⟩
                            go_simp
                            with_reducible rfl
                           rotate_left
                           ·
                            simp only [Act.put, lsa, lsz, lss, i64_w, i32_w]
                            rfl
                           refine pure_ (i := 7) (N := some 64) (v := ?_) (a' := ?_) #[true, true, true, true, true, true, true, true, false, true, true, true, false, true, false, false, false, false, false, false] rfl rfl (any_of HT_.out (by kernel_rfl)) (fun _ _ _ h => h) (Or.inl ⟨by rfl, ?_⟩) ?_ ?_
                           rotate_left
                           ·
                            intro w'
                            go_simp
                            with_reducible rfl
                           rotate_left
                           ·
                            simp only [Act.put, lsa, lsz, lss, i64_w, i32_w]
                            rfl
                           refine take_ (i := 8) (N := some 65) (v := ?_) (a' := ?_) #[true, true, true, true, true, true, true, true, true, true, true, true, false, true, false, false, false, false, false, false] rfl rfl (take_ofW HT_.out HW_.out (by kernel_rfl)) (fun _ _ _ h => h) (Or.inl ⟨by rfl, ?_⟩) hHeld ?_ ?_
                           rotate_left
                           ·
                            rintro w' ⟨s0, s1, s2, s3, s4, s5, s6, s7, s8, s9, s10, s11⟩
                            go_simp
                            with_reducible rfl
                           rotate_left
                           ·
                            simp only [Act.put, lsa, lsz, lss, i64_w, i32_w]
                            rfl
                           refine take_ (i := 12) (N := some 69) (v := ?_) (a' := ?_) #[true, true, true, true, true, true, true, true, true, true, true, true, true, true, false, false, false, false, false, false] rfl rfl (take_ofW HT_.out HW_.out (by kernel_rfl)) (fun _ _ _ h => h) (Or.inl ⟨by rfl, ?_⟩) hHeld ?_ ?_
                           rotate_left
                           ·
                            rintro w' ⟨s0, s1, s2, s3, s4, s5, s6, s7, s8, s9, s10, s11⟩
                            go_simp
                            with_reducible rfl
                           rotate_left
                           ·
                            simp only [Act.put, lsa, lsz, lss, i64_w, i32_w]
                            rfl
                           refine pure_ (i := 14) (N := some 71) (v := ?_) (a' := ?_) #[true, true, true, true, true, true, true, true, true, true, true, true, true, true, true, false, false, false, false, false] rfl rfl (any_of HT_.out (by kernel_rfl)) (fun _ _ _ h => h) (Or.inl ⟨by rfl, ?_⟩) ?_ ?_
                           rotate_left
                           ·
                            intro w'
                            go_simp
                            with_reducible rfl
                           rotate_left
                           ·
                            simp only [Act.put, lsa, lsz, lss, i64_w, i32_w]
                            rfl
                           refine take_ (i := 15) (N := some 72) (v := ?_) (a' := ?_) #[true, true, true, true, true, true, true, true, true, true, true, true, true, true, true, true, false, false, false, false] rfl rfl (take_ofW HT_.out HW_.out (by kernel_rfl)) (fun _ _ _ h => h) (Or.inl ⟨by rfl, ?_⟩) hHeld ?_ ?_
                           rotate_left
                           ·
                            rintro w' ⟨s0, s1, s2, s3, s4, s5, s6, s7, s8, s9, s10, s11⟩
                            go_simp
                            with_reducible rfl
                           rotate_left
                           ·
                            simp only [Act.put, lsa, lsz, lss, i64_w, i32_w]
                            rfl
                           refine one_ (i := 16) (N := some 73) #[true, true, true, true, true, true, true, true, true, true, true, true, true, true, true, true, true, false, false, false] rfl rfl (one_of HT_.out (by kernel_rfl)) (by decide) (fun K hK => ?_)
                           refine goes_ Try.func23 (by kernel_rfl) rfl #[.agg #[.string ((rd_T35 (rd_L4 t248 x9_4) x10_5).f0), .string ((rd_T35 (rd_L4 t248 x9_4) x10_5).f1), .int .i64 ((rd_T35 (rd_L4 t248 x9_4) x10_5).f2), .string ((rd_T35 (rd_L4 t248 x9_4) x10_5).f3), .bool ((rd_T35 (rd_L4 t248 x9_4) x10_5).f4)], .agg #[.string ((rd_T35 (rd_L4 t248 x6_2) x7_3).f0), .string ((rd_T35 (rd_L4 t248 x6_2) x7_3).f1), .int .i64 ((rd_T35 (rd_L4 t248 x6_2) x7_3).f2), .string ((rd_T35 (rd_L4 t248 x6_2) x7_3).f3), .bool ((rd_T35 (rd_L4 t248 x6_2) x7_3).f4)]] (by rfl) rfl rfl (by (try simp only [List.map_toArray, List.map_cons, List.map_nil]); first | done | rfl | (simp only [lld, llt]; rfl)) ?_
                           with_reducible refine (shardlogref08_Compare.calls k5 ((rd_T35 (rd_L4 t248 x9_4) x10_5).f0) ((rd_T35 (rd_L4 t248 x9_4) x10_5).f1) ((rd_T35 (rd_L4 t248 x9_4) x10_5).f2) ((rd_T35 (rd_L4 t248 x9_4) x10_5).f3) ((rd_T35 (rd_L4 t248 x9_4) x10_5).f4) ((rd_T35 (rd_L4 t248 x6_2) x7_3).f0) ((rd_T35 (rd_L4 t248 x6_2) x7_3).f1) ((rd_T35 (rd_L4 t248 x6_2) x7_3).f2) ((rd_T35 (rd_L4 t248 x6_2) x7_3).f3) ((rd_T35 (rd_L4 t248 x6_2) x7_3).f4) t261 _ A35.out).mono ?_
                           rintro e w37 ⟨rfl, hb⟩
                           have HS0_ := (hb.cell (wbl _ _ (hHeld.1))).trans (hHeld.1); have HS1_ := (hb.cell (wbl _ _ (hHeld.2.1))).trans (hHeld.2.1); have HS2_ := (hb.cell (wbl _ _ (hHeld.2.2.1))).trans (hHeld.2.2.1); have HS3_ := (hb.cell (wbl _ _ (hHeld.2.2.2.1))).trans (hHeld.2.2.2.1); have HS4_ := (hb.cell (wbl _ _ (hHeld.2.2.2.2.1))).trans (hHeld.2.2.2.2.1); have HS5_ := (hb.cell (wbl _ _ (hHeld.2.2.2.2.2.1))).trans (hHeld.2.2.2.2.2.1); have HS6_ := (hb.cell (wbl _ _ (hHeld.2.2.2.2.2.2.1))).trans (hHeld.2.2.2.2.2.2.1); have HS7_ := (hb.cell (wbl _ _ (hHeld.2.2.2.2.2.2.2.1))).trans (hHeld.2.2.2.2.2.2.2.1); have HS8_ := (hb.cell (wbl _ _ (hHeld.2.2.2.2.2.2.2.2.1))).trans (hHeld.2.2.2.2.2.2.2.2.1); have HS9_ := (hb.cell (wbl _ _ (hHeld.2.2.2.2.2.2.2.2.2.1))).trans (hHeld.2.2.2.2.2.2.2.2.2.1); have HS10_ := (hb.cell (wbl _ _ (hHeld.2.2.2.2.2.2.2.2.2.2.1))).trans (hHeld.2.2.2.2.2.2.2.2.2.2.1); have HS11_ := (hb.cell (wbl _ _ (hHeld.2.2.2.2.2.2.2.2.2.2.2))).trans (hHeld.2.2.2.2.2.2.2.2.2.2.2)
                           refine ⟨_, rfl, ?_⟩
                           have n0_ := aS (Kd.S_below (by (with_reducible repeat (first | apply Kd.S_alloc | apply Kd.S_drewN | apply Kd.S_drew)); exact HO_3.out) hb)
                           have n1_ := aS (Kd.R_below (by (with_reducible repeat (first | apply Kd.R_alloc | apply Kd.R_drewN | apply Kd.R_drew)); exact HO_4.out) hb)
                           have n2_ := aS (Kd.R_below (by (with_reducible repeat (first | apply Kd.R_alloc | apply Kd.R_drewN | apply Kd.R_drew)); exact HL256_0.out) hb)
                           have n3_ := aS (Kd.R_below (by (with_reducible repeat (first | apply Kd.R_alloc | apply Kd.R_drewN | apply Kd.R_drew)); exact HL257_0.out) hb)
                           have n4_ := aS (Kd.R_below (by (with_reducible repeat (first | apply Kd.R_alloc | apply Kd.R_drewN | apply Kd.R_drew)); exact HL259_0.out) hb)
                           have n5_ := aS (Kd.C_below (by repeat (first | (with_reducible exact HR255_0.out) | (with_reducible refine Kd.C_alloc ?_ _) | (with_reducible refine Kd.C_drewN ?_ _) | (with_reducible refine Kd.C_drew ?_) | exact HR255_0.out)) hb)
                           have n6_ := aS (Kd.C_below (by repeat (first | (with_reducible exact HR256_0.out) | (with_reducible refine Kd.C_alloc ?_ _) | (with_reducible refine Kd.C_drewN ?_ _) | (with_reducible refine Kd.C_drew ?_) | exact HR256_0.out)) hb)
                           have n7_ := aS (Kd.C_below (by repeat (first | (with_reducible exact HR257_0.out) | (with_reducible refine Kd.C_alloc ?_ _) | (with_reducible refine Kd.C_drewN ?_ _) | (with_reducible refine Kd.C_drew ?_) | exact HR257_0.out)) hb)
                           have n8_ := aS (Kd.C_below (by repeat (first | (with_reducible exact HR259_0.out) | (with_reducible refine Kd.C_alloc ?_ _) | (with_reducible refine Kd.C_drewN ?_ _) | (with_reducible refine Kd.C_drew ?_) | exact HR259_0.out)) hb)
                           have n9_ := aS (below_step (by repeat (first | (with_reducible first | exact HB.out | apply bal | apply bdN | apply bdo) | exact HB.out)) hb)
                           clear HO_3; clear HO_4; clear HL256_0; clear HL257_0; clear HL259_0; clear HR255_0; clear HR256_0; clear HR257_0; clear HR259_0; clear HB
                           have HO_3 := n0_
                           have HO_4 := n1_
                           have HL256_0 := n2_
                           have HL257_0 := n3_
                           have HL259_0 := n4_
                           have HR255_0 := n5_
                           have HR256_0 := n6_
                           have HR257_0 := n7_
                           have HR259_0 := n8_
                           have HB := n9_
                           clear n0_ n1_ n2_ n3_ n4_ n5_ n6_ n7_ n8_ n9_; (try clear hb); (try clear hb2); (try clear hk); (try clear hi)
                           refine hK.out _ _ ⟨HS0_, HS1_, HS2_, HS3_, HS4_, HS5_, HS6_, HS7_, HS8_, HS9_, HS10_, HS11_⟩ (fun hHeld => ?_)
                           clear hK K
                           refine norm_ (a' := ?_) ?_ ?_
                           rotate_left
                           ·
                            show Act.put _ (some 73) _ = _
                            simp only [Act.put, lsa, lsz, lss, i64_w, i32_w]
                            rfl
                           refine pure_ (i := 17) (N := some 74) (v := ?_) (a' := ?_) #[true, true, true, true, true, true, true, true, true, true, true, true, true, true, true, true, true, true, false, false] rfl rfl (any_of HT_.out (by kernel_rfl)) (fun _ _ _ h => h) (Or.inl ⟨by rfl, ?_⟩) ?_ ?_
                           rotate_left
                           ·
                            intro w'
                            go_simp
                            with_reducible rfl
                           rotate_left
                           ·
                            simp only [Act.put, lsa, lsz, lss, i64_w, i32_w]
                            rfl
                           refine pure_ (i := 18) (N := some 75) (v := ?_) (a' := ?_) #[true, true, true, true, true, true, true, true, true, true, true, true, true, true, true, true, true, true, true, false] rfl rfl (any_of HT_.out (by kernel_rfl)) (fun _ _ _ h => h) (Or.inl ⟨by rfl, ?_⟩) ?_ ?_
                           rotate_left
                           ·
                            intro w'
                            go_simp
                            with_reducible rfl
                           rotate_left
                           ·
                            simp only [Act.put, lsa, lsz, lss, i64_w, i32_w]
                            rfl
                           refine pure_ (i := 19) (N := some 8) (v := ?_) (a' := ?_) #[true, true, true, true, true, true, true, true, true, true, true, true, true, true, true, true, true, true, true, true] rfl rfl (any_of HT_.out (by kernel_rfl)) (fun _ _ _ h => h) (Or.inl ⟨by rfl, ?_⟩) ?_ ?_
                           rotate_left
                           ·
                            intro w'
                            go_simp
                            with_reducible rfl
                           rotate_left
                           ·
                            simp only [Act.put, lsa, lsz, lss, i64_w, i32_w]
                            rfl
                           refine done_ (done_of HT_.out (by kernel_rfl)) ?_
                           try go_wp2
                           go_roundg k5
                           case measure => have := HJ1.out; have := HK2.out; have := HK3.out; have := HK4.out; have := HK5.out; omega
                           case rel => exact ⟨((t261 != 0)), (wrap64 (x10_5 + 1)), (by first | rfl | (simp; done) | (simp [*]; done) | (simp; exact (by decide : ∀ a_ b_ : Bool, (a_ == b_) = (!a_ != b_)) _ _)), (by first | rfl | (simp; done) | (simp [*]; done) | (simp; exact (by decide : ∀ a_ b_ : Bool, (a_ == b_) = (!a_ != b_)) _ _)), H', ⟨by have := HJ1.out; have := HK2.out; have := HK3.out; have := HK4.out; have := HK5.out; omega⟩, ⟨by (with_reducible repeat (first | apply Kd.S_alloc | apply Kd.S_drewN | apply Kd.S_drew)); exact HO_3.out⟩, ⟨by (with_reducible repeat (first | apply Kd.R_alloc | apply Kd.R_drewN | apply Kd.R_drew)); exact HO_4.out⟩, ⟨by repeat (first | (with_reducible exact HR255_0.out) | (with_reducible refine Kd.C_alloc ?_ _) | (with_reducible refine Kd.C_drewN ?_ _) | (with_reducible refine Kd.C_drew ?_) | exact HR255_0.out)⟩, ⟨by repeat (first | (with_reducible first | exact HB.out | apply bal | apply bdN | apply bdo) | exact HB.out)⟩⟩
                          ·
                           rw [if_neg c34] at H
                           exact absurd H (by simp)
                         ·
                          rw [if_neg c33] at H
                          exact absurd H (by simp)
                        ·
                         rw [if_neg c32] at H
                         exact absurd H (by simp)
                       ·
                        rw [if_neg c31] at H
                        exact absurd H (by simp)
                      ·
                       rw [if_neg c30] at H
                       exact absurd H (by simp)
                     ·
                      replace c29 := Bool.eq_false_iff.mpr c29
                      subst c29
                      have H1 : (shardloglaw13_MergeWins.l3 k5 t248 t251 x5_3 x6_2 x7_3 false x9_4 (wrap64 (x10_5 + 1))) = some r := by rw [if_neg (show ¬ (false = true) by decide)] at H; exact H
                      clear H; have H := H1; clear H1
                      have H' := aS H
                      clear H
                      have p256 : 0 ≤ (x9_4 : Int) := odt (by first | (with_reducible assumption) | assumption)
                      have q256 : x9_4 < (t248.length : Int) := odt (by first | (with_reducible assumption) | assumption)
                      obtain ⟨ad256, A256_0, c256_0, e256, hx256_0, hl256_0, hi256_0⟩ := at_L4 (Kd.S_reads' HO_3.out).2.2 x9_4 p256 q256
                      obtain rfl : ad255 = ad256 := (by injection e256)
                      obtain ⟨ce256, hce256, hMe256, hcc256⟩ := Kd.S_get HO_3.out [] x9_4 p256 (by first | exact q256 | exact odt (by first | (with_reducible assumption) | assumption) | (have e_ := (Kd.S_reads' HO_3.out).1; omega))
                      obtain ⟨ve256_0, rfl, ge256_0⟩ := hMe256
                      have hv256_0 := hcc256 0 _ rfl
                      rw [Nat.add_zero, show ((Kd.slice 35 k35)).sz = 1 from rfl, Nat.mul_one] at hv256_0
                      replace hv256_0 := Option.some.inj (hv256_0.symm.trans hx256_0)
                      rw [hv256_0] at ge256_0
                      have HL256_0 := aS (show Kd.R k35 35 _ _ _ _ (rd_L4 t248 x9_4) from ge256_0)
                      clear hv256_0 ge256_0; clear hcc256 hce256
                      have HR256_0 := aS hi256_0
                      have HC256_0 := aS hl256_0
                      clear hi256_0 hl256_0
                      replace p256 := eq_true p256
                      replace q256 := eq_true q256
                      try go_wp2
                      have n0_ := aS (Kd.S_drew HO_3.out)
                      have n1_ := aS (Kd.R_drew HO_4.out)
                      have n2_ := aS (Kd.R_drew HL256_0.out)
                      have n3_ := aS (Kd.C_drew HR255_0.out)
                      have n4_ := aS (Kd.C_drew HR256_0.out)
                      have n5_ := aS (bdo HB.out)
                      clear HO_3; clear HO_4; clear HL256_0; clear HR255_0; clear HR256_0; clear HB
                      have HO_3 := n0_
                      have HO_4 := n1_
                      have HL256_0 := n2_
                      have HR255_0 := n3_
                      have HR256_0 := n4_
                      have HB := n5_
                      clear n0_ n1_ n2_ n3_ n4_ n5_
                      refine start_ (n := 20) (S := fun w' => True) (ds := []) #[false, false, false, false, false, false, false, false, false, false, false, false, false, false, false, false, false, false, false, false] (by kernel_rfl) rfl rfl trivial (fun hHeld => ?_); refine with_tabW shardloglaw13_MergeWins.tab21 shardloglaw13_MergeWins.bits21 (fun HT_ HW_ => ?_)
                      generalize wr.drew = w38 at HO_3 HO_4 HL256_0 HR255_0 HR256_0 HB hHeld ⊢
                      refine pure_ (i := 0) (N := some 57) (v := ?_) (a' := ?_) #[true, false, false, false, false, false, false, false, false, false, false, false, false, false, false, false, false, false, false, false] rfl rfl (any_of HT_.out (by kernel_rfl)) (fun _ _ _ h => h) (Or.inl ⟨by rfl, ?_⟩) ?_ ?_
                      rotate_left
                      ·
                       intro w'
                       go_simp
                       with_reducible rfl
                      rotate_left
                      ·
                       simp only [Act.put, lsa, lsz, lss, i64_w, i32_w]
                       rfl
                      refine pure_ (i := 1) (N := some 58) (v := ?_) (a' := ?_) #[true, true, false, false, false, false, false, false, false, false, false, false, false, false, false, false, false, false, false, false] rfl rfl (any_of HT_.out (by kernel_rfl)) (fun _ _ _ h => h) (Or.inl ⟨by rfl, ?_⟩) ?_ ?_
                      rotate_left
                      ·
                       intro w'
                       go_simp
                       with_reducible rfl
                      rotate_left
                      ·
                       simp only [Act.put, lsa, lsz, lss, i64_w, i32_w]
                       rfl
                      refine pure_ (i := 2) (N := some 59) (v := undef) (a' := ?_) #[true, true, true, false, false, false, false, false, false, false, false, false, false, false, false, false, false, false, false, false] rfl rfl (any_of HT_.out (by kernel_rfl)) (fun _ _ _ h => h) (Or.inr ⟨by rfl, rfl⟩) ?_ ?_
                      rotate_left
                      ·
                       simp only [Act.put, lsa, lsz, lss, i64_w, i32_w]
                       rfl
                      refine pure_ (i := 3) (N := some 60) (v := undef) (a' := ?_) #[true, true, true, true, false, false, false, false, false, false, false, false, false, false, false, false, false, false, false, false] rfl rfl (any_of HT_.out (by kernel_rfl)) (fun _ _ _ h => h) (Or.inr ⟨by rfl, rfl⟩) ?_ ?_
                      rotate_left
                      ·
                       simp only [Act.put, lsa, lsz, lss, i64_w, i32_w]
                       rfl
                      refine pure_ (i := 4) (N := some 61) (v := undef) (a' := ?_) #[true, true, true, true, true, false, false, false, false, false, false, false, false, false, false, false, false, false, false, false] rfl rfl (any_of HT_.out (by kernel_rfl)) (fun _ _ _ h => h) (Or.inr ⟨by rfl, rfl⟩) ?_ ?_
                      rotate_left
                      ·
                       simp only [Act.put, lsa, lsz, lss, i64_w, i32_w]
                       rfl
                      refine pure_ (i := 5) (N := some 62) (v := undef) (a' := ?_) #[true, true, true, true, true, true, false, false, false, false, false, false, false, false, false, false, false, false, false, false] rfl rfl (any_of HT_.out (by kernel_rfl)) (fun _ _ _ h => h) (Or.inr ⟨by rfl, rfl⟩) ?_ ?_
                      rotate_left
                      ·
                       simp only [Act.put, lsa, lsz, lss, i64_w, i32_w]
                       rfl
                      refine pure_ (i := 6) (N := some 63) (v := undef) (a' := ?_) #[true, true, true, true, true, true, true, false, false, false, false, false, false, false, false, false, false, false, false, false] rfl rfl (any_of HT_.out (by kernel_rfl)) (fun _ _ _ h => h) (Or.inr ⟨by rfl, rfl⟩) ?_ ?_
                      rotate_left
                      ·
                       simp only [Act.put, lsa, lsz, lss, i64_w, i32_w]
                       rfl
                      refine pure_ (i := 7) (N := some 64) (v := undef) (a' := ?_) #[true, true, true, true, true, true, true, true, false, false, false, false, false, false, false, false, false, false, false, false] rfl rfl (any_of HT_.out (by kernel_rfl)) (fun _ _ _ h => h) (Or.inr ⟨by rfl, rfl⟩) ?_ ?_
                      rotate_left
                      ·
                       simp only [Act.put, lsa, lsz, lss, i64_w, i32_w]
                       rfl
                      refine pure_ (i := 8) (N := some 65) (v := undef) (a' := ?_) #[true, true, true, true, true, true, true, true, true, false, false, false, false, false, false, false, false, false, false, false] rfl rfl (any_of HT_.out (by kernel_rfl)) (fun _ _ _ h => h) (Or.inr ⟨by rfl, rfl⟩) ?_ ?_
                      rotate_left
                      ·
                       simp only [Act.put, lsa, lsz, lss, i64_w, i32_w]
                       rfl
                      refine pure_ (i := 9) (N := some 66) (v := undef) (a' := ?_) #[true, true, true, true, true, true, true, true, true, true, false, false, false, false, false, false, false, false, false, false] rfl rfl (any_of HT_.out (by kernel_rfl)) (fun _ _ _ h => h) (Or.inr ⟨by rfl, rfl⟩) ?_ ?_
                      rotate_left
                      ·
                       simp only [Act.put, lsa, lsz, lss, i64_w, i32_w]
                       rfl
                      refine pure_ (i := 10) (N := some 67) (v := undef) (a' := ?_) #[true, true, true, true, true, true, true, true, true, true, true, false, false, false, false, false, false, false, false, false] rfl rfl (any_of HT_.out (by kernel_rfl)) (fun _ _ _ h => h) (Or.inr ⟨by rfl, rfl⟩) ?_ ?_
                      rotate_left
                      ·
                       simp only [Act.put, lsa, lsz, lss, i64_w, i32_w]
                       rfl
                      refine pure_ (i := 11) (N := some 68) (v := undef) (a' := ?_) #[true, true, true, true, true, true, true, true, true, true, true, true, false, false, false, false, false, false, false, false] rfl rfl (any_of HT_.out (by kernel_rfl)) (fun _ _ _ h => h) (Or.inr ⟨by rfl, rfl⟩) ?_ ?_
                      rotate_left
                      ·
                       simp only [Act.put, lsa, lsz, lss, i64_w, i32_w]
                       rfl
                      refine pure_ (i := 12) (N := some 69) (v := undef) (a' := ?_) #[true, true, true, true, true, true, true, true, true, true, true, true, true, false, false, false, false, false, false, false] rfl rfl (any_of HT_.out (by kernel_rfl)) (fun _ _ _ h => h) (Or.inr ⟨by rfl, rfl⟩) ?_ ?_
                      rotate_left
                      ·
                       simp only [Act.put, lsa, lsz, lss, i64_w, i32_w]
                       rfl
                      refine pure_ (i := 13) (N := some 70) (v := undef) (a' := ?_) #[true, true, true, true, true, true, true, true, true, true, true, true, true, true, false, false, false, false, false, false] rfl rfl (any_of HT_.out (by kernel_rfl)) (fun _ _ _ h => h) (Or.inr ⟨by rfl, rfl⟩) ?_ ?_
                      rotate_left
                      ·
                       simp only [Act.put, lsa, lsz, lss, i64_w, i32_w]
                       rfl
                      refine pure_ (i := 14) (N := some 71) (v := undef) (a' := ?_) #[true, true, true, true, true, true, true, true, true, true, true, true, true, true, true, false, false, false, false, false] rfl rfl (any_of HT_.out (by kernel_rfl)) (fun _ _ _ h => h) (Or.inr ⟨by rfl, rfl⟩) ?_ ?_
                      rotate_left
                      ·
                       simp only [Act.put, lsa, lsz, lss, i64_w, i32_w]
                       rfl
                      refine pure_ (i := 15) (N := some 72) (v := undef) (a' := ?_) #[true, true, true, true, true, true, true, true, true, true, true, true, true, true, true, true, false, false, false, false] rfl rfl (any_of HT_.out (by kernel_rfl)) (fun _ _ _ h => h) (Or.inr ⟨by rfl, rfl⟩) ?_ ?_
                      rotate_left
                      ·
                       simp only [Act.put, lsa, lsz, lss, i64_w, i32_w]
                       rfl
                      refine pure_ (i := 16) (N := some 73) (v := undef) (a' := ?_) #[true, true, true, true, true, true, true, true, true, true, true, true, true, true, true, true, true, false, false, false] rfl rfl (any_of HT_.out (by kernel_rfl)) (fun _ _ _ h => h) (Or.inr ⟨by rfl, rfl⟩) ?_ ?_
                      rotate_left
                      ·
                       simp only [Act.put, lsa, lsz, lss, i64_w, i32_w]
                       rfl
                      refine pure_ (i := 17) (N := some 74) (v := undef) (a' := ?_) #[true, true, true, true, true, true, true, true, true, true, true, true, true, true, true, true, true, true, false, false] rfl rfl (any_of HT_.out (by kernel_rfl)) (fun _ _ _ h => h) (Or.inr ⟨by rfl, rfl⟩) ?_ ?_
                      rotate_left
                      ·
                       simp only [Act.put, lsa, lsz, lss, i64_w, i32_w]
                       rfl
                      refine pure_ (i := 18) (N := some 75) (v := ?_) (a' := ?_) #[true, true, true, true, true, true, true, true, true, true, true, true, true, true, true, true, true, true, true, false] rfl rfl (any_of HT_.out (by kernel_rfl)) (fun _ _ _ h => h) (Or.inl ⟨by rfl, ?_⟩) ?_ ?_
                      rotate_left
                      ·
                       intro w'
                       go_simp
                       with_reducible rfl
                      rotate_left
                      ·
                       simp only [Act.put, lsa, lsz, lss, i64_w, i32_w]
                       rfl
                      refine pure_ (i := 19) (N := some 8) (v := ?_) (a' := ?_) #[true, true, true, true, true, true, true, true, true, true, true, true, true, true, true, true, true, true, true, true] rfl rfl (any_of HT_.out (by kernel_rfl)) (fun _ _ _ h => h) (Or.inl ⟨by rfl, ?_⟩) ?_ ?_
                      rotate_left
                      ·
                       intro w'
                       go_simp
                       with_reducible rfl
                      rotate_left
                      ·
                       simp only [Act.put, lsa, lsz, lss, i64_w, i32_w]
                       rfl
                      refine done_ (done_of HT_.out (by kernel_rfl)) ?_
                      try go_wp2
                      go_roundg k5
                      case measure => have := HJ1.out; have := HK2.out; have := HK3.out; have := HK4.out; have := HK5.out; omega
                      case rel => exact ⟨(false), (wrap64 (x10_5 + 1)), (by first | rfl | (simp; done) | (simp [*]; done) | (simp; exact (by decide : ∀ a_ b_ : Bool, (a_ == b_) = (!a_ != b_)) _ _)), (by first | rfl | (simp; done) | (simp [*]; done) | (simp; exact (by decide : ∀ a_ b_ : Bool, (a_ == b_) = (!a_ != b_)) _ _)), H', ⟨by have := HJ1.out; have := HK2.out; have := HK3.out; have := HK4.out; have := HK5.out; omega⟩, ⟨by (with_reducible repeat (first | apply Kd.S_alloc | apply Kd.S_drewN | apply Kd.S_drew)); exact HO_3.out⟩, ⟨by (with_reducible repeat (first | apply Kd.R_alloc | apply Kd.R_drewN | apply Kd.R_drew)); exact HO_4.out⟩, ⟨by repeat (first | (with_reducible exact HR255_0.out) | (with_reducible refine Kd.C_alloc ?_ _) | (with_reducible refine Kd.C_drewN ?_ _) | (with_reducible refine Kd.C_drew ?_) | exact HR255_0.out)⟩, ⟨by repeat (first | (with_reducible first | exact HB.out | apply bal | apply bdN | apply bdo) | exact HB.out)⟩⟩
                    ·
                     rw [if_neg c28] at H
                     have c28b0 : decide (x10_5 < ((rd_L4 t248 x9_4).length : Int)) = false := decide_eq_false c28
                     clear c28
                     have H' := aS H
                     clear H
                     have p256 : 0 ≤ (x9_4 : Int) := odt (by first | (with_reducible assumption) | assumption)
                     have q256 : x9_4 < (t248.length : Int) := odt (by first | (with_reducible assumption) | assumption)
                     obtain ⟨ad256, A256_0, c256_0, e256, hx256_0, hl256_0, hi256_0⟩ := at_L4 (Kd.S_reads' HO_3.out).2.2 x9_4 p256 q256
                     obtain rfl : ad255 = ad256 := (by injection e256)
                     obtain ⟨ce256, hce256, hMe256, hcc256⟩ := Kd.S_get HO_3.out [] x9_4 p256 (by first | exact q256 | exact odt (by first | (with_reducible assumption) | assumption) | (have e_ := (Kd.S_reads' HO_3.out).1; omega))
                     obtain ⟨ve256_0, rfl, ge256_0⟩ := hMe256
                     have hv256_0 := hcc256 0 _ rfl
                     rw [Nat.add_zero, show ((Kd.slice 35 k35)).sz = 1 from rfl, Nat.mul_one] at hv256_0
                     replace hv256_0 := Option.some.inj (hv256_0.symm.trans hx256_0)
                     rw [hv256_0] at ge256_0
                     have HL256_0 := aS (show Kd.R k35 35 _ _ _ _ (rd_L4 t248 x9_4) from ge256_0)
                     clear hv256_0 ge256_0; clear hcc256 hce256
                     have HR256_0 := aS hi256_0
                     have HC256_0 := aS hl256_0
                     clear hi256_0 hl256_0
                     replace p256 := eq_true p256
                     replace q256 := eq_true q256
                     go_wp2
                     go_roundg k5
                     case measure => have := HJ1.out; have := HK2.out; have := HK3.out; have := HK4.out; have := HK5.out; omega
                     case rel => exact ⟨(x8_5), (wrap64 (x9_4 + 1)), (by first | rfl | (simp; done) | (simp [*]; done) | (simp; exact (by decide : ∀ a_ b_ : Bool, (a_ == b_) = (!a_ != b_)) _ _)), (by first | rfl | (simp; done) | (simp [*]; done) | (simp; exact (by decide : ∀ a_ b_ : Bool, (a_ == b_) = (!a_ != b_)) _ _)), H', ⟨by have := HJ1.out; have := HK2.out; have := HK3.out; have := HK4.out; have := HK5.out; omega⟩, ⟨by (with_reducible repeat (first | apply Kd.S_alloc | apply Kd.S_drewN | apply Kd.S_drew)); exact HO_3.out⟩, ⟨by (with_reducible repeat (first | apply Kd.R_alloc | apply Kd.R_drewN | apply Kd.R_drew)); exact HO_4.out⟩, ⟨by repeat (first | (with_reducible exact HR255_0.out) | (with_reducible refine Kd.C_alloc ?_ _) | (with_reducible refine Kd.C_drewN ?_ _) | (with_reducible refine Kd.C_drew ?_) | exact HR255_0.out)⟩, ⟨by repeat (first | (with_reducible first | exact HB.out | apply bal | apply bdN | apply bdo) | exact HB.out)⟩⟩
                   ·
                    rw [if_neg c27] at H
                    exact absurd H (by simp)
                  ·
                   rw [if_neg c26] at H
                   exact absurd H (by simp)
               ·
                rw [if_neg c25] at H
                have c25b0 : decide (x9_4 < x6_2) = false := decide_eq_false c25
                clear c25
                have H' := aS H
                clear H
                go_wp2
                go_loopg [11, 12] k4 (fun kq v11 v12 w' => ∃ (x11_5 : Bool) (x12_5 : Int), v11 = .bool x11_5 ∧ v12 = .int .i64 x12_5 ∧ Aside0 (shardloglaw13_MergeWins.l4 kq t248 t251 x5_3 x6_2 x7_3 x8_4 x11_5 x12_5 = some r) ∧ Aside0 (kq ≤ k4) ∧ Aside0 (Kd.S (Kd.slice 35 k35) 27 w' w.heap.size (fun k_ => some k_ ≠ ((.slice Ao19 t251.length co19) : Value).ownBlock) (.slice (some ad255) t248.length co17) t248) ∧ Aside0 (Kd.R k35 35 w' w.heap.size (fun _ => True) (.slice Ao19 t251.length co19) t251) ∧ Aside0 (Kd.C k35 w' A255_0 (rd_L4 t248 x6_2).length (rd_L4 t248 x6_2)) ∧ Aside0 (Below w.heap.size w w'))
                case atStart => exact ⟨(false), (0), (by first | rfl | (simp; done) | (simp [*]; done) | (simp; exact (by decide : ∀ a_ b_ : Bool, (a_ == b_) = (!a_ != b_)) _ _)), (by first | rfl | (simp; done) | (simp [*]; done) | (simp; exact (by decide : ∀ a_ b_ : Bool, (a_ == b_) = (!a_ != b_)) _ _)), H', ⟨Nat.le_refl _⟩, ⟨by (with_reducible repeat (first | apply Kd.S_alloc | apply Kd.S_drewN | apply Kd.S_drew)); exact HO_3.out⟩, ⟨by (with_reducible repeat (first | apply Kd.R_alloc | apply Kd.R_drewN | apply Kd.R_drew)); exact HO_4.out⟩, ⟨by repeat (first | (with_reducible exact HR255_0.out) | (with_reducible refine Kd.C_alloc ?_ _) | (with_reducible refine Kd.C_drewN ?_ _) | (with_reducible refine Kd.C_drew ?_) | exact HR255_0.out)⟩, ⟨by repeat (first | (with_reducible first | exact HB.out | apply bal | apply bdN | apply bdo) | exact HB.out)⟩⟩
                case round =>
                 clear H'; (try clear c1); (try clear c2); (try clear p2); (try clear q2); (try clear hx2); (try clear c3); (try clear c4); (try clear c5); (try clear p6); (try clear c9); (try clear c10); (try clear c12); (try clear c14); (try clear c15); (try clear c21); (try clear c21b0); (try clear c22); (try clear c22b0); (try clear c23); (try clear c23b0); (try clear c24); (try clear c24b0); (try clear c25); (try clear c25b0); (try clear p25); (try clear q25); (try clear hx25); (try clear c26); (try clear c26b0); (try clear p26); (try clear q26); (try clear hx26); (try clear c27); (try clear c27b0); (try clear c28); (try clear c28b0); (try clear c29); (try clear c30); (try clear c30b0); (try clear c31); (try clear c31b0); (try clear c32); (try clear c32b0); (try clear c33); (try clear c33b0); (try clear c34); (try clear c34b0); (try clear hx255_0); (try clear hx256_0); (try clear hx257_0); (try clear hx258_0); (try clear hx258_1); (try clear hx258_2); (try clear hx258_3); (try clear hx258_4); (try clear hx259_0); (try clear hx260_0); (try clear hx260_1); (try clear hx260_2); (try clear hx260_3); (try clear hx260_4); (try clear p2); (try clear p25); (try clear p255); (try clear p256); (try clear p257); (try clear p258); (try clear p259); (try clear p260); (try clear q2); (try clear q25); (try clear q255); (try clear q256); (try clear q257); (try clear q258); (try clear q259); (try clear q260)
                 obtain ⟨x11_5, x12_5, rfl, rfl, HA, HK5, HO_3, HO_4, HR255_0, HB⟩ := hrel
                 cases gk with
                 | zero => exact absurd HA.out (by simp [shardloglaw13_MergeWins.l4])
                 | succ k5 =>
                  have H := HA.out; clear HA
                  simp only [shardloglaw13_MergeWins.l4] at H
                  by_cases c39 : x12_5 < (t251.length : Int)
                  ·
                   rw [if_pos c39] at H
                   have c39b0 : decide (x12_5 < (t251.length : Int)) = true := decide_eq_true c39
                   clear c39
                   by_cases c40 : x11_5 = true
                   ·
                    subst c40
                    have H1 : (shardloglaw13_MergeWins.l4 k5 t248 t251 x5_3 x6_2 x7_3 x8_4 true (wrap64 (x12_5 + 1))) = some r := by rw [if_pos rfl] at H; exact H
                    clear H; have H := H1; clear H1
                    have H' := aS H
                    clear H
                    try go_wp2
                    have n0_ := aS (Kd.S_drew HO_3.out)
                    have n1_ := aS (Kd.R_drew HO_4.out)
                    have n2_ := aS (Kd.C_drew HR255_0.out)
                    have n3_ := aS (bdo HB.out)
                    clear HO_3; clear HO_4; clear HR255_0; clear HB
                    have HO_3 := n0_
                    have HO_4 := n1_
                    have HR255_0 := n2_
                    have HB := n3_
                    clear n0_ n1_ n2_ n3_
                    refine start_ (n := 16) (S := fun w' => True) (ds := []) #[false, false, false, false, false, false, false, false, false, false, false, false, false, false, false, false] (by kernel_rfl) rfl rfl trivial (fun hHeld => ?_); refine with_tabW shardloglaw13_MergeWins.tab26 shardloglaw13_MergeWins.bits26 (fun HT_ HW_ => ?_)
                    generalize wr.drew = w41 at HO_3 HO_4 HR255_0 HB hHeld ⊢
                    refine pure_ (i := 0) (N := some 82) (v := ?_) (a' := ?_) #[true, false, false, false, false, false, false, false, false, false, false, false, false, false, false, false] rfl rfl (any_of HT_.out (by kernel_rfl)) (fun _ _ _ h => h) (Or.inl ⟨by rfl, ?_⟩) ?_ ?_
                    rotate_left
                    ·
                     intro w'
                     go_simp
                     with_reducible rfl
                    rotate_left
                    ·
                     simp only [Act.put, lsa, lsz, lss, i64_w, i32_w]
                     rfl
                    refine pure_ (i := 1) (N := some 83) (v := ?_) (a' := ?_) #[true, true, false, false, false, false, false, false, false, false, false, false, false, false, false, false] rfl rfl (any_of HT_.out (by kernel_rfl)) (fun _ _ _ h => h) (Or.inl ⟨by rfl, ?_⟩) ?_ ?_
                    rotate_left
                    ·
                     intro w'
                     go_simp
                     with_reducible rfl
                    rotate_left
                    ·
                     simp only [Act.put, lsa, lsz, lss, i64_w, i32_w]
                     rfl
                    refine pure_ (i := 2) (N := some 84) (v := undef) (a' := ?_) #[true, true, true, false, false, false, false, false, false, false, false, false, false, false, false, false] rfl rfl (any_of HT_.out (by kernel_rfl)) (fun _ _ _ h => h) (Or.inr ⟨by rfl, rfl⟩) ?_ ?_
                    rotate_left
                    ·
                     simp only [Act.put, lsa, lsz, lss, i64_w, i32_w]
                     rfl
                    refine pure_ (i := 3) (N := some 85) (v := undef) (a' := ?_) #[true, true, true, true, false, false, false, false, false, false, false, false, false, false, false, false] rfl rfl (any_of HT_.out (by kernel_rfl)) (fun _ _ _ h => h) (Or.inr ⟨by rfl, rfl⟩) ?_ ?_
                    rotate_left
                    ·
                     simp only [Act.put, lsa, lsz, lss, i64_w, i32_w]
                     rfl
                    refine pure_ (i := 4) (N := some 86) (v := undef) (a' := ?_) #[true, true, true, true, true, false, false, false, false, false, false, false, false, false, false, false] rfl rfl (any_of HT_.out (by kernel_rfl)) (fun _ _ _ h => h) (Or.inr ⟨by rfl, rfl⟩) ?_ ?_
                    rotate_left
                    ·
                     simp only [Act.put, lsa, lsz, lss, i64_w, i32_w]
                     rfl
                    refine pure_ (i := 5) (N := some 87) (v := undef) (a' := ?_) #[true, true, true, true, true, true, false, false, false, false, false, false, false, false, false, false] rfl rfl (any_of HT_.out (by kernel_rfl)) (fun _ _ _ h => h) (Or.inr ⟨by rfl, rfl⟩) ?_ ?_
                    rotate_left
                    ·
                     simp only [Act.put, lsa, lsz, lss, i64_w, i32_w]
                     rfl
                    refine pure_ (i := 6) (N := some 88) (v := undef) (a' := ?_) #[true, true, true, true, true, true, true, false, false, false, false, false, false, false, false, false] rfl rfl (any_of HT_.out (by kernel_rfl)) (fun _ _ _ h => h) (Or.inr ⟨by rfl, rfl⟩) ?_ ?_
                    rotate_left
                    ·
                     simp only [Act.put, lsa, lsz, lss, i64_w, i32_w]
                     rfl
                    refine pure_ (i := 7) (N := some 89) (v := undef) (a' := ?_) #[true, true, true, true, true, true, true, true, false, false, false, false, false, false, false, false] rfl rfl (any_of HT_.out (by kernel_rfl)) (fun _ _ _ h => h) (Or.inr ⟨by rfl, rfl⟩) ?_ ?_
                    rotate_left
                    ·
                     simp only [Act.put, lsa, lsz, lss, i64_w, i32_w]
                     rfl
                    refine pure_ (i := 8) (N := some 90) (v := undef) (a' := ?_) #[true, true, true, true, true, true, true, true, true, false, false, false, false, false, false, false] rfl rfl (any_of HT_.out (by kernel_rfl)) (fun _ _ _ h => h) (Or.inr ⟨by rfl, rfl⟩) ?_ ?_
                    rotate_left
                    ·
                     simp only [Act.put, lsa, lsz, lss, i64_w, i32_w]
                     rfl
                    refine pure_ (i := 9) (N := some 91) (v := undef) (a' := ?_) #[true, true, true, true, true, true, true, true, true, true, false, false, false, false, false, false] rfl rfl (any_of HT_.out (by kernel_rfl)) (fun _ _ _ h => h) (Or.inr ⟨by rfl, rfl⟩) ?_ ?_
                    rotate_left
                    ·
                     simp only [Act.put, lsa, lsz, lss, i64_w, i32_w]
                     rfl
                    refine pure_ (i := 10) (N := some 92) (v := undef) (a' := ?_) #[true, true, true, true, true, true, true, true, true, true, true, false, false, false, false, false] rfl rfl (any_of HT_.out (by kernel_rfl)) (fun _ _ _ h => h) (Or.inr ⟨by rfl, rfl⟩) ?_ ?_
                    rotate_left
                    ·
                     simp only [Act.put, lsa, lsz, lss, i64_w, i32_w]
                     rfl
                    refine pure_ (i := 11) (N := some 93) (v := undef) (a' := ?_) #[true, true, true, true, true, true, true, true, true, true, true, true, false, false, false, false] rfl rfl (any_of HT_.out (by kernel_rfl)) (fun _ _ _ h => h) (Or.inr ⟨by rfl, rfl⟩) ?_ ?_
                    rotate_left
                    ·
                     simp only [Act.put, lsa, lsz, lss, i64_w, i32_w]
                     rfl
                    refine pure_ (i := 12) (N := some 94) (v := undef) (a' := ?_) #[true, true, true, true, true, true, true, true, true, true, true, true, true, false, false, false] rfl rfl (any_of HT_.out (by kernel_rfl)) (fun _ _ _ h => h) (Or.inr ⟨by rfl, rfl⟩) ?_ ?_
                    rotate_left
                    ·
                     simp only [Act.put, lsa, lsz, lss, i64_w, i32_w]
                     rfl
                    refine pure_ (i := 13) (N := some 95) (v := undef) (a' := ?_) #[true, true, true, true, true, true, true, true, true, true, true, true, true, true, false, false] rfl rfl (any_of HT_.out (by kernel_rfl)) (fun _ _ _ h => h) (Or.inr ⟨by rfl, rfl⟩) ?_ ?_
                    rotate_left
                    ·
                     simp only [Act.put, lsa, lsz, lss, i64_w, i32_w]
                     rfl
                    refine pure_ (i := 14) (N := some 96) (v := ?_) (a' := ?_) #[true, true, true, true, true, true, true, true, true, true, true, true, true, true, true, false] rfl rfl (any_of HT_.out (by kernel_rfl)) (fun _ _ _ h => h) (Or.inl ⟨by rfl, ?_⟩) ?_ ?_
                    rotate_left
                    ·
                     intro w'
                     go_simp
                     with_reducible rfl
                    rotate_left
                    ·
                     simp only [Act.put, lsa, lsz, lss, i64_w, i32_w]
                     rfl
                    refine pure_ (i := 15) (N := some 11) (v := ?_) (a' := ?_) #[true, true, true, true, true, true, true, true, true, true, true, true, true, true, true, true] rfl rfl (any_of HT_.out (by kernel_rfl)) (fun _ _ _ h => h) (Or.inl ⟨by rfl, ?_⟩) ?_ ?_
                    rotate_left
                    ·
                     intro w'
                     go_simp
                     with_reducible rfl
                    rotate_left
                    ·
                     simp only [Act.put, lsa, lsz, lss, i64_w, i32_w]
                     rfl
                    refine done_ (done_of HT_.out (by kernel_rfl)) ?_
                    try go_wp2
                    go_roundg k5
                    case measure => have := HJ1.out; have := HK2.out; have := HK3.out; have := HK4.out; have := HK5.out; omega
                    case rel => exact ⟨(true), (wrap64 (x12_5 + 1)), (by first | rfl | (simp; done) | (simp [*]; done) | (simp; exact (by decide : ∀ a_ b_ : Bool, (a_ == b_) = (!a_ != b_)) _ _)), (by first | rfl | (simp; done) | (simp [*]; done) | (simp; exact (by decide : ∀ a_ b_ : Bool, (a_ == b_) = (!a_ != b_)) _ _)), H', ⟨by have := HJ1.out; have := HK2.out; have := HK3.out; have := HK4.out; have := HK5.out; omega⟩, ⟨by (with_reducible repeat (first | apply Kd.S_alloc | apply Kd.S_drewN | apply Kd.S_drew)); exact HO_3.out⟩, ⟨by (with_reducible repeat (first | apply Kd.R_alloc | apply Kd.R_drewN | apply Kd.R_drew)); exact HO_4.out⟩, ⟨by repeat (first | (with_reducible exact HR255_0.out) | (with_reducible refine Kd.C_alloc ?_ _) | (with_reducible refine Kd.C_drewN ?_ _) | (with_reducible refine Kd.C_drew ?_) | exact HR255_0.out)⟩, ⟨by repeat (first | (with_reducible first | exact HB.out | apply bal | apply bdN | apply bdo) | exact HB.out)⟩⟩
                   ·
                    replace c40 := Bool.eq_false_iff.mpr c40
                    subst c40
                    have H1 : (if 0 ≤ x12_5 then (if 0 ≤ x6_2 then (if x6_2 < (t248.length : Int) then (if 0 ≤ x7_3 then (if x7_3 < ((rd_L4 t248 x6_2).length : Int) then (shardloglaw13_MergeWins.l4 k5 t248 t251 x5_3 x6_2 x7_3 x8_4 ((((rd_T35 t251 x12_5).f0).toList) == (((rd_T35 (rd_L4 t248 x6_2) x7_3).f0).toList) && ((((rd_T35 t251 x12_5).f1).toList) == (((rd_T35 (rd_L4 t248 x6_2) x7_3).f1).toList) && (((rd_T35 t251 x12_5).f2) == ((rd_T35 (rd_L4 t248 x6_2) x7_3).f2) && ((((rd_T35 t251 x12_5).f3).toList) == (((rd_T35 (rd_L4 t248 x6_2) x7_3).f3).toList) && (((rd_T35 t251 x12_5).f4) == ((rd_T35 (rd_L4 t248 x6_2) x7_3).f4)))))) (wrap64 (x12_5 + 1))) else (none)) else (none)) else (none)) else (none)) else (none)) = some r := by rw [if_neg (show ¬ (false = true) by decide)] at H; exact H
                    clear H; have H := H1; clear H1
                    by_cases c42 : 0 ≤ x12_5
                    ·
                     rw [if_pos c42] at H
                     have c42b0 : decide (0 ≤ x12_5) = true := decide_eq_true c42
                     clear c42
                     by_cases c43 : 0 ≤ x6_2
                     ·
                      rw [if_pos c43] at H
                      have c43b0 : decide (0 ≤ x6_2) = true := decide_eq_true c43
                      clear c43
                      by_cases c44 : x6_2 < (t248.length : Int)
                      ·
                       rw [if_pos c44] at H
                       have c44b0 : decide (x6_2 < (t248.length : Int)) = true := decide_eq_true c44
                       clear c44
                       by_cases c45 : 0 ≤ x7_3
                       ·
                        rw [if_pos c45] at H
                        have c45b0 : decide (0 ≤ x7_3) = true := decide_eq_true c45
                        clear c45
                        by_cases c46 : x7_3 < ((rd_L4 t248 x6_2).length : Int)
                        ·
                         rw [if_pos c46] at H
                         have c46b0 : decide (x7_3 < ((rd_L4 t248 x6_2).length : Int)) = true := decide_eq_true c46
                         clear c46
                         have H' := aS H
                         clear H
                         try go_wp2
                         have n0_ := aS (Kd.S_drew HO_3.out)
                         have n1_ := aS (Kd.R_drew HO_4.out)
                         have n2_ := aS (Kd.C_drew HR255_0.out)
                         have n3_ := aS (bdo HB.out)
                         clear HO_3; clear HO_4; clear HR255_0; clear HB
                         have HO_3 := n0_
                         have HO_4 := n1_
                         have HR255_0 := n2_
                         have HB := n3_
                         clear n0_ n1_ n2_ n3_
                         have p262 : 0 ≤ (x12_5 : Int) := odt (by first | (with_reducible assumption) | assumption)
                         have q262 : x12_5 < (t251.length : Int) := odt (by first | (with_reducible assumption) | assumption)
                         obtain ⟨ad262, e262, hx262_0, hx262_1, hx262_2, hx262_3, hx262_4⟩ := at_T35 (Kd.R_reads' HO_4.out).2.2 x12_5 p262 q262
                         cases e262
                         replace p262 := eq_true p262
                         replace q262 := eq_true q262
                         have p263 : 0 ≤ (x6_2 : Int) := odt (by first | (with_reducible assumption) | assumption)
                         have q263 : x6_2 < (t248.length : Int) := odt (by first | (with_reducible assumption) | assumption)
                         obtain ⟨ad263, A263_0, c263_0, e263, hx263_0, hl263_0, hi263_0⟩ := at_L4 (Kd.S_reads' HO_3.out).2.2 x6_2 p263 q263
                         obtain rfl : ad255 = ad263 := (by injection e263)
                         obtain ⟨ce263, hce263, hMe263, hcc263⟩ := Kd.S_get HO_3.out [] x6_2 p263 (by first | exact q263 | exact odt (by first | (with_reducible assumption) | assumption) | (have e_ := (Kd.S_reads' HO_3.out).1; omega))
                         obtain ⟨ve263_0, rfl, ge263_0⟩ := hMe263
                         have hv263_0 := hcc263 0 _ rfl
                         rw [Nat.add_zero, show ((Kd.slice 35 k35)).sz = 1 from rfl, Nat.mul_one] at hv263_0
                         replace hv263_0 := Option.some.inj (hv263_0.symm.trans hx263_0)
                         rw [hv263_0] at ge263_0
                         have HL263_0 := aS (show Kd.R k35 35 _ _ _ _ (rd_L4 t248 x6_2) from ge263_0)
                         clear hv263_0 ge263_0; clear hcc263 hce263
                         have HR263_0 := aS hi263_0
                         have HC263_0 := aS hl263_0
                         clear hi263_0 hl263_0
                         replace p263 := eq_true p263
                         replace q263 := eq_true q263
                         have p264 : 0 ≤ (x7_3 : Int) := odt (by first | (with_reducible assumption) | assumption)
                         have q264 : x7_3 < ((rd_L4 t248 x6_2).length : Int) := odt (by first | (with_reducible assumption) | assumption)
                         obtain ⟨ad264, e264, hx264_0, hx264_1, hx264_2, hx264_3, hx264_4⟩ := at_T35 (by repeat (first | (with_reducible exact HR263_0.out) | (with_reducible refine Kd.C_alloc ?_ _) | (with_reducible refine Kd.C_drewN ?_ _) | (with_reducible refine Kd.C_drew ?_) | exact HR263_0.out)) x7_3 p264 q264
                         cases e264
                         replace p264 := eq_true p264
                         replace q264 := eq_true q264
                         refine start_ (n := 16) (S := fun w' => w'.cell? (ad262.add ((x12_5).toNat * 5)) = some (.string ((rd_T35 t251 x12_5).f0)) ∧ w'.cell? ⟨(ad262.add ((x12_5).toNat * 5)).block, (ad262.add ((x12_5).toNat * 5)).off + 1, none⟩ = some (.string ((rd_T35 t251 x12_5).f1)) ∧ w'.cell? ⟨(ad262.add ((x12_5).toNat * 5)).block, (ad262.add ((x12_5).toNat * 5)).off + 2, none⟩ = some (.int .i64 ((rd_T35 t251 x12_5).f2)) ∧ w'.cell? ⟨(ad262.add ((x12_5).toNat * 5)).block, (ad262.add ((x12_5).toNat * 5)).off + 3, none⟩ = some (.string ((rd_T35 t251 x12_5).f3)) ∧ w'.cell? ⟨(ad262.add ((x12_5).toNat * 5)).block, (ad262.add ((x12_5).toNat * 5)).off + 4, none⟩ = some (.bool ((rd_T35 t251 x12_5).f4)) ∧ w'.cell? (ad255.add (x6_2).toNat) = some (.slice (some ad264) (rd_L4 t248 x6_2).length c263_0) ∧ w'.cell? (ad264.add ((x7_3).toNat * 5)) = some (.string ((rd_T35 (rd_L4 t248 x6_2) x7_3).f0)) ∧ w'.cell? ⟨(ad264.add ((x7_3).toNat * 5)).block, (ad264.add ((x7_3).toNat * 5)).off + 1, none⟩ = some (.string ((rd_T35 (rd_L4 t248 x6_2) x7_3).f1)) ∧ w'.cell? ⟨(ad264.add ((x7_3).toNat * 5)).block, (ad264.add ((x7_3).toNat * 5)).off + 2, none⟩ = some (.int .i64 ((rd_T35 (rd_L4 t248 x6_2) x7_3).f2)) ∧ w'.cell? ⟨(ad264.add ((x7_3).toNat * 5)).block, (ad264.add ((x7_3).toNat * 5)).off + 3, none⟩ = some (.string ((rd_T35 (rd_L4 t248 x6_2) x7_3).f3)) ∧ w'.cell? ⟨(ad264.add ((x7_3).toNat * 5)).block, (ad264.add ((x7_3).toNat * 5)).off + 4, none⟩ = some (.bool ((rd_T35 (rd_L4 t248 x6_2) x7_3).f4))) (ds := []) #[false, false, false, false, false, false, false, false, false, false, false, false, false, false, false, false] (by kernel_rfl) rfl rfl ⟨hx262_0, hx262_1, hx262_2, hx262_3, hx262_4, hx263_0, hx264_0, hx264_1, hx264_2, hx264_3, hx264_4⟩ (fun hHeld => ?_); refine with_tabW shardloglaw13_MergeWins.tab26 shardloglaw13_MergeWins.bits26 (fun HT_ HW_ => ?_)
                         generalize wr.drew = w47 at HO_3 HO_4 HR255_0 HB HL263_0 HR263_0 hx262_0 hx262_1 hx262_2 hx262_3 hx262_4 hx263_0 hx264_0 hx264_1 hx264_2 hx264_3 hx264_4 hHeld ⊢
                         refine pure_ (i := 0) (N := some 82) (v := ?_) (a' := ?_) #[true, false, false, false, false, false, false, false, false, false, false, false, false, false, false, false] rfl rfl (any_of HT_.out (by kernel_rfl)) (fun _ _ _ h => h) (Or.inl ⟨by rfl, ?_⟩) ?_ ?_
                         rotate_left
                         ·
                          intro w'
                          go_simp
                          with_reducible rfl
                         rotate_left
                         ·
                          simp only [Act.put, lsa, lsz, lss, i64_w, i32_w]
                          rfl
                         refine pure_ (i := 1) (N := some 83) (v := ?_) (a' := ?_) #[true, true, false, false, false, false, false, false, false, false, false, false, false, false, false, false] rfl rfl (any_of HT_.out (by kernel_rfl)) (fun _ _ _ h => h) (Or.inl ⟨by rfl, ?_⟩) ?_ ?_
                         rotate_left
                         ·
                          intro w'
                          go_simp
                          with_reducible rfl
                         rotate_left
                         ·
                          simp only [Act.put, lsa, lsz, lss, i64_w, i32_w]
                          rfl
                         refine pure_ (i := 2) (N := some 84) (v := ?_) (a' := ?_) #[true, true, true, false, false, false, false, false, false, false, false, false, false, false, false, false] rfl rfl (any_of HT_.out (by kernel_rfl)) (fun _ _ _ h => h) (Or.inl ⟨by rfl, ?_⟩) ?_ ?_
                         rotate_left
                         ·
                          intro w'
                          go_simp
                          with_reducible rfl
                         rotate_left
                         ·
                          simp only [Act.put, lsa, lsz, lss, i64_w, i32_w]
                          rfl
                         refine pure_ (i := 3) (N := some 85) (v := ?_) (a' := ?_) #[true, true, true, true, false, false, false, false, false, false, false, false, false, false, false, false] rfl rfl (any_of HT_.out (by kernel_rfl)) (fun _ _ _ h => h) (Or.inl ⟨by rfl, ?_⟩) ?_ ?_
                         rotate_left
                         ·
                          intro w'
                          go_simp
                          with_reducible rfl
                         rotate_left
                         ·
                          simp only [Act.put, lsa, lsz, lss, i64_w, i32_w]
                          rfl
                         refine pure_ (i := 4) (N := some 86) (v := ?_) (a' := ?_) #[true, true, true, true, true, false, false, false, false, false, false, false, false, false, false, false] rfl rfl (any_of HT_.out (by kernel_rfl)) (fun _ _ _ h => h) (Or.inl ⟨by rfl, ?_⟩) ?_ ?_
                         rotate_left
                         ·
                          intro w'
                          go_simp
                          with_reducible rfl
                         rotate_left
                         ·
                          simp only [Act.put, lsa, lsz, lss, i64_w, i32_w]
                          rfl
                         refine pure_ (i := 6) (N := some 88) (v := ?_) (a' := ?_) #[true, true, true, true, true, false, true, false, false, false, false, false, false, false, false, false] rfl rfl (any_of HT_.out (by kernel_rfl)) (fun _ _ _ h => h) (Or.inl ⟨by rfl, ?_⟩) ?_ ?_
                         rotate_left
                         ·
                          intro w'
                          go_simp
                          with_reducible rfl
                         rotate_left
                         ·
                          simp only [Act.put, lsa, lsz, lss, i64_w, i32_w]
                          rfl
                         refine pure_ (i := 7) (N := some 89) (v := ?_) (a' := ?_) #[true, true, true, true, true, false, true, true, false, false, false, false, false, false, false, false] rfl rfl (any_of HT_.out (by kernel_rfl)) (fun _ _ _ h => h) (Or.inl ⟨by rfl, ?_⟩) ?_ ?_
                         rotate_left
                         ·
                          intro w'
                          go_simp
                          with_reducible rfl
                         rotate_left
                         ·
                          simp only [Act.put, lsa, lsz, lss, i64_w, i32_w]
                          rfl
                         refine pure_ (i := 8) (N := some 90) (v := ?_) (a' := ?_) #[true, true, true, true, true, false, true, true, true, false, false, false, false, false, false, false] rfl rfl (any_of HT_.out (by kernel_rfl)) (fun _ _ _ h => h) (Or.inl ⟨by rfl, ?_⟩) ?_ ?_
                         rotate_left
                         ·
                          intro w'
                          go_simp
                          with_reducible rfl
                         rotate_left
                         ·
                          simp only [Act.put, lsa, lsz, lss, i64_w, i32_w]
                          rfl
                         refine pure_ (i := 10) (N := some 92) (v := ?_) (a' := ?_) #[true, true, true, true, true, false, true, true, true, false, true, false, false, false, false, false] rfl rfl (any_of HT_.out (by kernel_rfl)) (fun _ _ _ h => h) (Or.inl ⟨by rfl, ?_⟩) ?_ ?_
                         rotate_left
                         ·
                          intro w'
                          go_simp
                          with_reducible rfl
                         rotate_left
                         ·
                          simp only [Act.put, lsa, lsz, lss, i64_w, i32_w]
                          rfl
                         refine take_ (i := 5) (N := some 87) (v := ?_) (a' := ?_) #[true, true, true, true, true, true, true, true, true, false, true, false, false, false, false, false] rfl rfl (take_ofW HT_.out HW_.out (by kernel_rfl)) (fun _ _ _ h => h) (Or.inl ⟨by rfl, ?_⟩) hHeld ?_ ?_
                         rotate_left
                         ·
                          rintro w' ⟨s0, s1, s2, s3, s4, s5, s6, s7, s8, s9, s10⟩
                          go_simp
                          with_reducible rfl
                         rotate_left
                         ·
                          simp only [Act.put, lsa, lsz, lss, i64_w, i32_w]
                          rfl
                         refine take_ (i := 9) (N := some 91) (v := ?_) (a' := ?_) #[true, true, true, true, true, true, true, true, true, true, true, false, false, false, false, false] rfl rfl (take_ofW HT_.out HW_.out (by kernel_rfl)) (fun _ _ _ h => h) (Or.inl ⟨by rfl, ?_⟩) hHeld ?_ ?_
                         rotate_left
                         ·
                          rintro w' ⟨s0, s1, s2, s3, s4, s5, s6, s7, s8, s9, s10⟩
                          go_simp
                          with_reducible rfl
                         rotate_left
                         ·
                          simp only [Act.put, lsa, lsz, lss, i64_w, i32_w]
                          rfl
                         refine pure_ (i := 11) (N := some 93) (v := ?_) (a' := ?_) #[true, true, true, true, true, true, true, true, true, true, true, true, false, false, false, false] rfl rfl (any_of HT_.out (by kernel_rfl)) (fun _ _ _ h => h) (Or.inl ⟨by rfl, ?_⟩) ?_ ?_
                         rotate_left
                         ·
                          intro w'
                          go_simp
                          with_reducible rfl
                         rotate_left
                         ·
                          simp only [Act.put, lsa, lsz, lss, i64_w, i32_w]
                          rfl
                         refine take_ (i := 12) (N := some 94) (v := ?_) (a' := ?_) #[true, true, true, true, true, true, true, true, true, true, true, true, true, false, false, false] rfl rfl (take_ofW HT_.out HW_.out (by kernel_rfl)) (fun _ _ _ h => h) (Or.inl ⟨by rfl, ?_⟩) hHeld ?_ ?_
                         rotate_left
                         ·
                          rintro w' ⟨s0, s1, s2, s3, s4, s5, s6, s7, s8, s9, s10⟩
                          go_simp
                          with_reducible rfl
                         rotate_left
                         ·
                          simp only [Act.put, lsa, lsz, lss, i64_w, i32_w]
                          rfl
                         refine pure_ (i := 13) (N := some 95) (v := ?_) (a' := ?_) #[true, true, true, true, true, true, true, true, true, true, true, true, true, true, false, false] rfl rfl (any_of HT_.out (by kernel_rfl)) (fun _ _ _ h => h) (Or.inl ⟨by rfl, ?_⟩) ?_ ?_
                         rotate_left
                         ·
                          intro w'
                          go_simp
                          with_reducible rfl
                         rotate_left
                         ·
                          simp only [Act.put, lsa, lsz, lss, i64_w, i32_w]
                          rfl
                         refine pure_ (i := 14) (N := some 96) (v := ?_) (a' := ?_) #[true, true, true, true, true, true, true, true, true, true, true, true, true, true, true, false] rfl rfl (any_of HT_.out (by kernel_rfl)) (fun _ _ _ h => h) (Or.inl ⟨by rfl, ?_⟩) ?_ ?_
                         rotate_left
                         ·
                          intro w'
                          go_simp
                          with_reducible rfl
                         rotate_left
                         ·
                          simp only [Act.put, lsa, lsz, lss, i64_w, i32_w]
                          rfl
                         refine pure_ (i := 15) (N := some 11) (v := ?_) (a' := ?_) #[true, true, true, true, true, true, true, true, true, true, true, true, true, true, true, true] rfl rfl (any_of HT_.out (by kernel_rfl)) (fun _ _ _ h => h) (Or.inl ⟨by rfl, ?_⟩) ?_ ?_
                         rotate_left
                         ·
                          intro w'
                          go_simp
                          with_reducible rfl
                         rotate_left
                         ·
                          simp only [Act.put, lsa, lsz, lss, i64_w, i32_w]
                          rfl
                         refine done_ (done_of HT_.out (by kernel_rfl)) ?_
                         try go_wp2
                         go_roundg k5
                         case measure => have := HJ1.out; have := HK2.out; have := HK3.out; have := HK4.out; have := HK5.out; omega
                         case rel => exact ⟨(((((rd_T35 t251 x12_5).f0).toList) == (((rd_T35 (rd_L4 t248 x6_2) x7_3).f0).toList) && ((((rd_T35 t251 x12_5).f1).toList) == (((rd_T35 (rd_L4 t248 x6_2) x7_3).f1).toList) && (((rd_T35 t251 x12_5).f2) == ((rd_T35 (rd_L4 t248 x6_2) x7_3).f2) && ((((rd_T35 t251 x12_5).f3).toList) == (((rd_T35 (rd_L4 t248 x6_2) x7_3).f3).toList) && (((rd_T35 t251 x12_5).f4) == ((rd_T35 (rd_L4 t248 x6_2) x7_3).f4))))))), (wrap64 (x12_5 + 1)), (by first | rfl | (simp; done) | (simp [*]; done) | (simp; exact (by decide : ∀ a_ b_ : Bool, (a_ == b_) = (!a_ != b_)) _ _)), (by first | rfl | (simp; done) | (simp [*]; done) | (simp; exact (by decide : ∀ a_ b_ : Bool, (a_ == b_) = (!a_ != b_)) _ _)), H', ⟨by have := HJ1.out; have := HK2.out; have := HK3.out; have := HK4.out; have := HK5.out; omega⟩, ⟨by (with_reducible repeat (first | apply Kd.S_alloc | apply Kd.S_drewN | apply Kd.S_drew)); exact HO_3.out⟩, ⟨by (with_reducible repeat (first | apply Kd.R_alloc | apply Kd.R_drewN | apply Kd.R_drew)); exact HO_4.out⟩, ⟨by repeat (first | (with_reducible exact HR255_0.out) | (with_reducible refine Kd.C_alloc ?_ _) | (with_reducible refine Kd.C_drewN ?_ _) | (with_reducible refine Kd.C_drew ?_) | exact HR255_0.out)⟩, ⟨by repeat (first | (with_reducible first | exact HB.out | apply bal | apply bdN | apply bdo) | exact HB.out)⟩⟩
                        ·
                         rw [if_neg c46] at H
                         exact absurd H (by simp)
                       ·
                        rw [if_neg c45] at H
                        exact absurd H (by simp)
                      ·
                       rw [if_neg c44] at H
                       exact absurd H (by simp)
                     ·
                      rw [if_neg c43] at H
                      exact absurd H (by simp)
                    ·
                     rw [if_neg c42] at H
                     exact absurd H (by simp)
                  ·
                   rw [if_neg c39] at H
                   have c39b0 : decide (x12_5 < (t251.length : Int)) = false := decide_eq_false c39
                   clear c39
                   by_cases c48 : x8_4 = true
                   ·
                    subst c48
                    have H1 : (if x11_5 = true then (shardloglaw13_MergeWins.l1 k5 t248 t251 (wrap64 (x5_3 + 1)) x6_2 (wrap64 (x7_3 + 1))) else (none)) = some r := by rw [if_pos rfl] at H; exact H
                    clear H; have H := H1; clear H1
                    by_cases c49 : x11_5 = true
                    ·
                     subst c49
                     have H1 : (shardloglaw13_MergeWins.l1 k5 t248 t251 (wrap64 (x5_3 + 1)) x6_2 (wrap64 (x7_3 + 1))) = some r := by rw [if_pos rfl] at H; exact H
                     clear H; have H := H1; clear H1
                     have H' := aS H
                     clear H
                     go_wp2
                     go_roundg k5
                     case measure => have := HJ1.out; have := HK2.out; have := HK3.out; have := HK4.out; have := HK5.out; omega
                     case rel => exact ⟨(wrap64 (x5_3 + 1)), (wrap64 (x7_3 + 1)), (by first | rfl | (simp; done) | (simp [*]; done) | (simp; exact (by decide : ∀ a_ b_ : Bool, (a_ == b_) = (!a_ != b_)) _ _)), (by first | rfl | (simp; done) | (simp [*]; done) | (simp; exact (by decide : ∀ a_ b_ : Bool, (a_ == b_) = (!a_ != b_)) _ _)), H', ⟨by have := HJ1.out; have := HK2.out; have := HK3.out; have := HK4.out; have := HK5.out; omega⟩, ⟨by (with_reducible repeat (first | apply Kd.S_alloc | apply Kd.S_drewN | apply Kd.S_drew)); exact HO_3.out⟩, ⟨by (with_reducible repeat (first | apply Kd.R_alloc | apply Kd.R_drewN | apply Kd.R_drew)); exact HO_4.out⟩, ⟨by repeat (first | (with_reducible first | exact HB.out | apply bal | apply bdN | apply bdo) | exact HB.out)⟩⟩
                    ·
                     replace c49 := Bool.eq_false_iff.mpr c49
                     subst c49
                     have H1 : (none) = some r := by rw [if_neg (show ¬ (false = true) by decide)] at H; exact H
                     clear H; have H := H1; clear H1
                     exact absurd H (by simp)
                   ·
                    replace c48 := Bool.eq_false_iff.mpr c48
                    subst c48
                    have H1 : (shardloglaw13_MergeWins.l1 k5 t248 t251 x5_3 x6_2 (wrap64 (x7_3 + 1))) = some r := by rw [if_neg (show ¬ (false = true) by decide)] at H; exact H
                    clear H; have H := H1; clear H1
                    have H' := aS H
                    clear H
                    go_wp2
                    go_roundg k5
                    case measure => have := HJ1.out; have := HK2.out; have := HK3.out; have := HK4.out; have := HK5.out; omega
                    case rel => exact ⟨(x5_3), (wrap64 (x7_3 + 1)), (by first | rfl | (simp; done) | (simp [*]; done) | (simp; exact (by decide : ∀ a_ b_ : Bool, (a_ == b_) = (!a_ != b_)) _ _)), (by first | rfl | (simp; done) | (simp [*]; done) | (simp; exact (by decide : ∀ a_ b_ : Bool, (a_ == b_) = (!a_ != b_)) _ _)), H', ⟨by have := HJ1.out; have := HK2.out; have := HK3.out; have := HK4.out; have := HK5.out; omega⟩, ⟨by (with_reducible repeat (first | apply Kd.S_alloc | apply Kd.S_drewN | apply Kd.S_drew)); exact HO_3.out⟩, ⟨by (with_reducible repeat (first | apply Kd.R_alloc | apply Kd.R_drewN | apply Kd.R_drew)); exact HO_4.out⟩, ⟨by repeat (first | (with_reducible first | exact HB.out | apply bal | apply bdN | apply bdo) | exact HB.out)⟩⟩
            ·
             rw [if_neg c24] at H
             have c24b0 : decide (x7_3 < ((rd_L4 t248 x6_2).length : Int)) = false := decide_eq_false c24
             clear c24
             have H' := aS H
             clear H
             have p255 : 0 ≤ (x6_2 : Int) := odt (by first | (with_reducible assumption) | assumption)
             have q255 : x6_2 < (t248.length : Int) := odt (by first | (with_reducible assumption) | assumption)
             obtain ⟨ad255, A255_0, c255_0, e255, hx255_0, hl255_0, hi255_0⟩ := at_L4 (Kd.S_reads' HO_3.out).2.2 x6_2 p255 q255
             cases e255
             obtain ⟨ce255, hce255, hMe255, hcc255⟩ := Kd.S_get HO_3.out [] x6_2 p255 (by first | exact q255 | exact odt (by first | (with_reducible assumption) | assumption) | (have e_ := (Kd.S_reads' HO_3.out).1; omega))
             obtain ⟨ve255_0, rfl, ge255_0⟩ := hMe255
             have hv255_0 := hcc255 0 _ rfl
             rw [Nat.add_zero, show ((Kd.slice 35 k35)).sz = 1 from rfl, Nat.mul_one] at hv255_0
             replace hv255_0 := Option.some.inj (hv255_0.symm.trans hx255_0)
             rw [hv255_0] at ge255_0
             have HL255_0 := aS (show Kd.R k35 35 _ _ _ _ (rd_L4 t248 x6_2) from ge255_0)
             clear hv255_0 ge255_0; clear hcc255 hce255
             have HR255_0 := aS hi255_0
             have HC255_0 := aS hl255_0
             clear hi255_0 hl255_0
             replace p255 := eq_true p255
             replace q255 := eq_true q255
             go_wp2
             go_roundg k3
             case measure => have := HJ1.out; have := HK2.out; have := HK3.out; omega
             case rel => exact ⟨(x5_3), (wrap64 (x6_2 + 1)), (by first | rfl | (simp; done) | (simp [*]; done) | (simp; exact (by decide : ∀ a_ b_ : Bool, (a_ == b_) = (!a_ != b_)) _ _)), (by first | rfl | (simp; done) | (simp [*]; done) | (simp; exact (by decide : ∀ a_ b_ : Bool, (a_ == b_) = (!a_ != b_)) _ _)), H', ⟨by have := HJ1.out; have := HK2.out; have := HK3.out; omega⟩, ⟨by (with_reducible repeat (first | apply Kd.S_alloc | apply Kd.S_drewN | apply Kd.S_drew)); exact HO_3.out⟩, ⟨by (with_reducible repeat (first | apply Kd.R_alloc | apply Kd.R_drewN | apply Kd.R_drew)); exact HO_4.out⟩, ⟨by repeat (first | (with_reducible first | exact HB.out | apply bal | apply bdN | apply bdo) | exact HB.out)⟩⟩
           ·
            rw [if_neg c23] at H
            exact absurd H (by simp)
          ·
           rw [if_neg c22] at H
           exact absurd H (by simp)
       ·
        rw [if_neg c21] at H
        have c21b0 : decide (x6_2 < (t248.length : Int)) = false := decide_eq_false c21
        clear c21
        obtain rfl := Option.some.inj H
        go_wp2
        go_ret
        exact ⟨by first | rfl | (simp [errW_none, errW_some] <;> rfl) | (simp [*, errW_none, errW_some] <;> rfl), by repeat (first | (with_reducible first | exact HB.out | apply bal | apply bdN | apply bdo) | exact HB.out)⟩
    ·
     replace c15 := Bool.eq_false_iff.mpr c15
     subst c15
     have H1 : (none) = some r := by rw [if_neg (show ¬ (false = true) by decide)] at H; exact H
     clear H; have H := H1; clear H1
     exact absurd H (by simp)

/-- THE ONE PURE STATEMENT of shardloglaw13_MergeWins. -/
def shardloglaw13_MergeWins.Pure : Prop := ∀ (l0 : List (List (S35))), (l0.length ≤ maxLen ∧ l0.length * 24 ≤ 140737488351232 ∧ ∀ y0_ ∈ l0, (y0_.length ≤ maxLen ∧ y0_.length * 64 ≤ 140737488351232 ∧ ∀ y1_ ∈ y0_, (y1_.f0.size ≤ 140737488351232 ∧ y1_.f1.size ≤ 140737488351232 ∧ (Lit.int .i64 y1_.f2).wf = true ∧ y1_.f3.size ≤ 140737488351232 ∧ True))) → ∃ k, shardloglaw13_MergeWins.f k l0 = some true
theorem shardloglaw13_MergeWins.walk (P : shardloglaw13_MergeWins.Pure) (A0 : Option Addr) (c0 : Nat) (l0 : List (List (S35))) (w : World) (wf0 : (l0.length ≤ maxLen ∧ l0.length * 24 ≤ 140737488351232 ∧ ∀ y0_ ∈ l0, (y0_.length ≤ maxLen ∧ y0_.length * 64 ≤ 140737488351232 ∧ ∀ y1_ ∈ y0_, (y1_.f0.size ≤ 140737488351232 ∧ y1_.f1.size ≤ 140737488351232 ∧ (Lit.int .i64 y1_.f2).wf = true ∧ y1_.f3.size ≤ 140737488351232 ∧ True)))) (hr0 : Kd.C (Kd.slice 35 k35) w A0 l0.length l0) (hc0 : l0.length ≤ c0) :
  Calls Try.prog 5 #[.slice A0 l0.length c0] w fun e w' => e = .returned (.bool true) ∧ Below w.heap.size w w' := by
 obtain ⟨k, h⟩ := P l0 wf0
 refine (shardloglaw13_MergeWins.calls k A0 c0 l0 true w hr0 hc0 h).mono ?_
 rintro e w' ⟨rfl, hd⟩
 exact ⟨rfl, hd⟩

end Go.Proofs.Ythphffimgmbhgaa.X
