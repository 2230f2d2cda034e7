-- written by a program of this session's, over the kit's print
import Derived.Test.YthphffimgmbhgaaXx0
import Derived.Test.YthphffimgmbhgaaXx3
import Derived.Test.YthphffimgmbhgaaXx4
import Derived.Test.YthphffimgmbhgaaXx6
import Derived.Test.YthphffimgmbhgaaXx9
import Derived.Test.YthphffimgmbhgaaXx10
namespace Go.Proofs.Ythphffimgmbhgaa.X
open Go.RowKit Go.Proofs.YthphffimgmbhgaaW.PrintWords Go.Proofs.YthphffimgmbhgaaW.PrintLast Go.Proofs.YthphffimgmbhgaaW.PrintMore
attribute [local go_sem] max2_int min2_int max_two min_two max_three min_three max_four min_four gtr_str   -- for this text's walks alone
set_option linter.unusedVariables false
set_option linter.unusedSimpArgs false

/-! ### shardloglaw13_MergeKeeps: function 8 -/
mutual
def shardloglaw13_MergeKeeps.j0 : Nat → List (List (S35)) → Bool → Option (Bool)
 | 0, _, _ => none
 | k + 1, x0, x16 => if x16 = true then ((shardloglaw13_awake.f k).bind fun t370 => (some t370)) else ((shardlogref13_Sorts.f k x0).bind fun t371 => ((merge_All.f k t371).bind fun t374 => (shardloglaw13_MergeKeeps.l0 k x0 t371 t374 0)))
def shardloglaw13_MergeKeeps.l0 : Nat → List (List (S35)) → List (List (S35)) → List (S35) → Int → Option (Bool)
 | 0, _, _, _, _ => none
 | k + 1, x0, x3, x4, x5 => if x5 < (x4.length : Int) then (if 0 ≤ x5 then (shardloglaw13_MergeKeeps.l0 k x0 x3 (x4.set (x5 : Int).toNat (⟨(⟨#[]⟩ : ByteArray), (⟨#[]⟩ : ByteArray), 0, (⟨#[]⟩ : ByteArray), false⟩ : S35)) (wrap64 (x5 + 1))) else (none)) else ((shardlogref13_Sorts.f k x0).bind fun t378 => (shardloglaw13_MergeKeeps.l1 k x3 t378 0))
def shardloglaw13_MergeKeeps.l1 : Nat → List (List (S35)) → List (List (S35)) → Int → Option (Bool)
 | 0, _, _, _ => none
 | k + 1, x3, x6, x7 => if x7 < (x3.length : Int) then (if 0 ≤ x7 then ((merge_Clean.f k (rd_L4 x3 x7) 3).bind fun t382 => (shardloglaw13_MergeKeeps.l2 k x3 x6 x7 t382 0)) else (none)) else (some true)
def shardloglaw13_MergeKeeps.l2 : Nat → List (List (S35)) → List (List (S35)) → Int → List (S35) → Int → Option (Bool)
 | 0, _, _, _, _, _ => none
 | k + 1, x3, x6, x7, x8, x9 => if x9 < (x8.length : Int) then (if 0 ≤ x9 then (shardloglaw13_MergeKeeps.l2 k x3 x6 x7 (x8.set (x9 : Int).toNat (⟨(⟨#[]⟩ : ByteArray), (⟨#[]⟩ : ByteArray), 0, (⟨#[]⟩ : ByteArray), false⟩ : S35)) (wrap64 (x9 + 1))) else (none)) else (if 0 ≤ x7 then (if x7 < (x3.length : Int) then (if x7 < (x6.length : Int) then ((shardlogref08_Same.f k (rd_L4 x3 x7) (rd_L4 x6 x7)).bind fun t388 => (if t388 = true then (shardloglaw13_MergeKeeps.l1 k x3 x6 (wrap64 (x7 + 1))) else (none))) else (none)) else (none)) else (none))
end
def shardloglaw13_MergeKeeps.f (k : Nat) (l0 : List (List (S35))) : Option (Bool) := (shardloglaw13_awake.f k).bind fun t368 => (if t368 = true then ((shardlogref13_Few.f k l0).bind fun t369 => (shardloglaw13_MergeKeeps.j0 k l0 (!t369))) else (shardloglaw13_MergeKeeps.j0 k l0 true))
theorem shardloglaw13_MergeKeeps.mono_l : ∀ k, (∀ y0 y1, LeO (shardloglaw13_MergeKeeps.j0 k y0 y1) (shardloglaw13_MergeKeeps.j0 (k + 1) y0 y1)) ∧ (∀ y0 y1 y2 y3, LeO (shardloglaw13_MergeKeeps.l0 k y0 y1 y2 y3) (shardloglaw13_MergeKeeps.l0 (k + 1) y0 y1 y2 y3)) ∧ (∀ y0 y1 y2, LeO (shardloglaw13_MergeKeeps.l1 k y0 y1 y2) (shardloglaw13_MergeKeeps.l1 (k + 1) y0 y1 y2)) ∧ (∀ y0 y1 y2 y3 y4, LeO (shardloglaw13_MergeKeeps.l2 k y0 y1 y2 y3 y4) (shardloglaw13_MergeKeeps.l2 (k + 1) y0 y1 y2 y3 y4))
 | 0 => ⟨fun _ _ r h => by simp [shardloglaw13_MergeKeeps.j0] at h, fun _ _ _ _ r h => by simp [shardloglaw13_MergeKeeps.l0] at h, fun _ _ _ r h => by simp [shardloglaw13_MergeKeeps.l1] at h, fun _ _ _ _ _ r h => by simp [shardloglaw13_MergeKeeps.l2] at h⟩
 | k + 1 => by
  obtain ⟨ih0, ih1, ih2, ih3⟩ := shardloglaw13_MergeKeeps.mono_l k
  refine ⟨?_, ?_, ?_, ?_⟩
  ·
   intro y0 y1
   unfold shardloglaw13_MergeKeeps.j0
   repeat' first
   | (with_reducible exact ih0 _ _)
   | (with_reducible exact ih1 _ _ _ _)
   | (with_reducible exact ih2 _ _ _)
   | (with_reducible exact ih3 _ _ _ _ _)
   | (with_reducible exact merge_All.mono _ _)
   | (with_reducible exact merge_Clean.mono _ _ _)
   | (with_reducible exact shardloglaw13_awake.mono _)
   | (with_reducible exact shardlogref08_Same.mono _ _ _)
   | (with_reducible exact shardlogref13_Few.mono _ _)
   | (with_reducible exact shardlogref13_Sorts.mono _ _)
   | (with_reducible exact LeO.refl _)
   | (with_reducible exact LeO.none _)
   | (with_reducible refine LeO.ite ?_ ?_)
   | (with_reducible refine LeO.bind ?_ (fun _ => ?_))
   | exact ih0 _ _
   | exact ih1 _ _ _ _
   | exact ih2 _ _ _
   | exact ih3 _ _ _ _ _
   | exact merge_All.mono _ _
   | exact merge_Clean.mono _ _ _
   | exact shardloglaw13_awake.mono _
   | exact shardlogref08_Same.mono _ _ _
   | exact shardlogref13_Few.mono _ _
   | exact shardlogref13_Sorts.mono _ _
   | exact LeO.none _
   | refine LeO.ite ?_ ?_
   | refine LeO.bind ?_ (fun _ => ?_)
  ·
   intro y0 y1 y2 y3
   unfold shardloglaw13_MergeKeeps.l0
   repeat' first
   | (with_reducible exact ih0 _ _)
   | (with_reducible exact ih1 _ _ _ _)
   | (with_reducible exact ih2 _ _ _)
   | (with_reducible exact ih3 _ _ _ _ _)
   | (with_reducible exact merge_All.mono _ _)
   | (with_reducible exact merge_Clean.mono _ _ _)
   | (with_reducible exact shardloglaw13_awake.mono _)
   | (with_reducible exact shardlogref08_Same.mono _ _ _)
   | (with_reducible exact shardlogref13_Few.mono _ _)
   | (with_reducible exact shardlogref13_Sorts.mono _ _)
   | (with_reducible exact LeO.refl _)
   | (with_reducible exact LeO.none _)
   | (with_reducible refine LeO.ite ?_ ?_)
   | (with_reducible refine LeO.bind ?_ (fun _ => ?_))
   | exact ih0 _ _
   | exact ih1 _ _ _ _
   | exact ih2 _ _ _
   | exact ih3 _ _ _ _ _
   | exact merge_All.mono _ _
   | exact merge_Clean.mono _ _ _
   | exact shardloglaw13_awake.mono _
   | exact shardlogref08_Same.mono _ _ _
   | exact shardlogref13_Few.mono _ _
   | exact shardlogref13_Sorts.mono _ _
   | exact LeO.none _
   | refine LeO.ite ?_ ?_
   | refine LeO.bind ?_ (fun _ => ?_)
  ·
   intro y0 y1 y2
   unfold shardloglaw13_MergeKeeps.l1
   repeat' first
   | (with_reducible exact ih0 _ _)
   | (with_reducible exact ih1 _ _ _ _)
   | (with_reducible exact ih2 _ _ _)
   | (with_reducible exact ih3 _ _ _ _ _)
   | (with_reducible exact merge_All.mono _ _)
   | (with_reducible exact merge_Clean.mono _ _ _)
   | (with_reducible exact shardloglaw13_awake.mono _)
   | (with_reducible exact shardlogref08_Same.mono _ _ _)
   | (with_reducible exact shardlogref13_Few.mono _ _)
   | (with_reducible exact shardlogref13_Sorts.mono _ _)
   | (with_reducible exact LeO.refl _)
   | (with_reducible exact LeO.none _)
   | (with_reducible refine LeO.ite ?_ ?_)
   | (with_reducible refine LeO.bind ?_ (fun _ => ?_))
   | exact ih0 _ _
   | exact ih1 _ _ _ _
   | exact ih2 _ _ _
   | exact ih3 _ _ _ _ _
   | exact merge_All.mono _ _
   | exact merge_Clean.mono _ _ _
   | exact shardloglaw13_awake.mono _
   | exact shardlogref08_Same.mono _ _ _
   | exact shardlogref13_Few.mono _ _
   | exact shardlogref13_Sorts.mono _ _
   | exact LeO.none _
   | refine LeO.ite ?_ ?_
   | refine LeO.bind ?_ (fun _ => ?_)
  ·
   intro y0 y1 y2 y3 y4
   unfold shardloglaw13_MergeKeeps.l2
   repeat' first
   | (with_reducible exact ih0 _ _)
   | (with_reducible exact ih1 _ _ _ _)
   | (with_reducible exact ih2 _ _ _)
   | (with_reducible exact ih3 _ _ _ _ _)
   | (with_reducible exact merge_All.mono _ _)
   | (with_reducible exact merge_Clean.mono _ _ _)
   | (with_reducible exact shardloglaw13_awake.mono _)
   | (with_reducible exact shardlogref08_Same.mono _ _ _)
   | (with_reducible exact shardlogref13_Few.mono _ _)
   | (with_reducible exact shardlogref13_Sorts.mono _ _)
   | (with_reducible exact LeO.refl _)
   | (with_reducible exact LeO.none _)
   | (with_reducible refine LeO.ite ?_ ?_)
   | (with_reducible refine LeO.bind ?_ (fun _ => ?_))
   | exact ih0 _ _
   | exact ih1 _ _ _ _
   | exact ih2 _ _ _
   | exact ih3 _ _ _ _ _
   | exact merge_All.mono _ _
   | exact merge_Clean.mono _ _ _
   | exact shardloglaw13_awake.mono _
   | exact shardlogref08_Same.mono _ _ _
   | exact shardlogref13_Few.mono _ _
   | exact shardlogref13_Sorts.mono _ _
   | exact LeO.none _
   | refine LeO.ite ?_ ?_
   | refine LeO.bind ?_ (fun _ => ?_)
theorem shardloglaw13_MergeKeeps.mono : ∀ a0 k, LeO (shardloglaw13_MergeKeeps.f k a0) (shardloglaw13_MergeKeeps.f (k + 1) a0) := by
 intro a0 k
 obtain ⟨ih0, ih1, ih2, ih3⟩ := shardloglaw13_MergeKeeps.mono_l k
 unfold shardloglaw13_MergeKeeps.f
 repeat' first
   | (with_reducible exact ih0 _ _)
   | (with_reducible exact ih1 _ _ _ _)
   | (with_reducible exact ih2 _ _ _)
   | (with_reducible exact ih3 _ _ _ _ _)
   | (with_reducible exact merge_All.mono _ _)
   | (with_reducible exact merge_Clean.mono _ _ _)
   | (with_reducible exact shardloglaw13_awake.mono _)
   | (with_reducible exact shardlogref08_Same.mono _ _ _)
   | (with_reducible exact shardlogref13_Few.mono _ _)
   | (with_reducible exact shardlogref13_Sorts.mono _ _)
   | (with_reducible exact LeO.refl _)
   | (with_reducible exact LeO.none _)
   | (with_reducible refine LeO.ite ?_ ?_)
   | (with_reducible refine LeO.bind ?_ (fun _ => ?_))
   | exact ih0 _ _
   | exact ih1 _ _ _ _
   | exact ih2 _ _ _
   | exact ih3 _ _ _ _ _
   | exact merge_All.mono _ _
   | exact merge_Clean.mono _ _ _
   | exact shardloglaw13_awake.mono _
   | exact shardlogref08_Same.mono _ _ _
   | exact shardlogref13_Few.mono _ _
   | exact shardlogref13_Sorts.mono _ _
   | exact LeO.none _
   | refine LeO.ite ?_ ?_
   | refine LeO.bind ?_ (fun _ => ?_)
set_option maxHeartbeats 8000000 in
set_option maxRecDepth 100000 in
theorem shardloglaw13_MergeKeeps.calls (k : Nat) (A0 : Option Addr) (c0 : Nat) (l0 : List (List (S35))) (r : Bool) (w : World) (hr0 : Kd.C (Kd.slice 35 k35) w A0 l0.length l0) (hc0 : l0.length ≤ c0) (h : shardloglaw13_MergeKeeps.f k l0 = some r) :
  Calls Try.prog 8 #[.slice A0 l0.length c0] w fun e w' => e = .returned (.bool r) ∧ Below w.heap.size w w' := by
 have hu35 := Try.underlying35
 have HR0 := aS hr0
 have HC0 := aS hc0
 clear hr0 hc0
 have HB := aS (Below.refl w.heap.size w)
 have H : ((shardloglaw13_awake.f k).bind fun t368 => (if t368 = true then ((shardlogref13_Few.f k l0).bind fun t369 => (shardloglaw13_MergeKeeps.j0 k l0 (!t369))) else (shardloglaw13_MergeKeeps.j0 k l0 true))) = some r := h
 clear h
 have HC2 := aS H
 clear H
 go_enter Try.func8, Try.ntmps8
 go_upto_region 1 with (fail)
 repeat (go_quiet (fail); go_upto_region 1 with (fail))
 go_cut [16] (fun v16 wc => ∃ (kq : Nat) (x16_1 : Bool), v16 = .bool x16_1 ∧ Aside0 (shardloglaw13_MergeKeeps.j0 kq l0 x16_1 = some r) ∧ Aside0 (kq ≤ k) ∧ Aside0 (Below w.heap.size w wc))
 case first =>
  have H := HC2.out; clear HC2
  replace H := obm H
  obtain ⟨t368, A30, H⟩ := H
  replace H : (if t368 = true then ((shardlogref13_Few.f k l0).bind fun t369 => (shardloglaw13_MergeKeeps.j0 k l0 (!t369))) else (shardloglaw13_MergeKeeps.j0 k l0 true)) = some r := H
  have A3 := aS A30
  clear A30
  by_cases c4 : t368 = true
  ·
   subst c4
   have H1 : ((shardlogref13_Few.f k l0).bind fun t369 => (shardloglaw13_MergeKeeps.j0 k l0 (!t369))) = some r := by rw [if_pos rfl] at H; exact H
   clear H; have H := H1; clear H1
   replace H := obm H
   obtain ⟨t369, A50, H⟩ := H
   replace H : (shardloglaw13_MergeKeeps.j0 k l0 (!t369)) = some r := H
   have A5 := aS A50
   clear A50
   have H' := aS H
   clear H
   go_wp2_with (first | (go_at_call 10; (with_reducible refine (shardloglaw13_awake.calls k  true _ A3.out).mono ?_); rintro e w6 ⟨rfl, hb⟩; have n0_ := aS (below_step (by repeat (first | (with_reducible first | exact HB.out | apply bal | apply bdN | apply bdo) | exact HB.out)) hb); clear HB; have HB := n0_; clear n0_; (try clear hb); (try clear hb2); (try clear hk); (try clear hi)) | (go_at_call 11; (with_reducible refine (shardlogref13_Few.calls k _ _ l0 t369 _ ?side1 ?side2 A5.out).mono ?_); (case side1 => repeat (first | exact (Kd.C_below HR0.out HB.out) | (with_reducible refine Kd.C_alloc ?_ _) | (with_reducible refine Kd.C_drewN ?_ _) | (with_reducible refine Kd.C_drew ?_))); (case side2 => exact HC0.out); rintro e w7 ⟨rfl, hb⟩; have n0_ := aS (below_step (by repeat (first | (with_reducible first | exact HB.out | apply bal | apply bdN | apply bdo) | exact HB.out)) hb); clear HB; have HB := n0_; clear n0_; (try clear hb); (try clear hb2); (try clear hk); (try clear hi)))
   repeat (go_quiet (first | (go_at_call 10; (with_reducible refine (shardloglaw13_awake.calls k  true _ A3.out).mono ?_); rintro e w6 ⟨rfl, hb⟩; have n0_ := aS (below_step (by repeat (first | (with_reducible first | exact HB.out | apply bal | apply bdN | apply bdo) | exact HB.out)) hb); clear HB; have HB := n0_; clear n0_; (try clear hb); (try clear hb2); (try clear hk); (try clear hi)) | (go_at_call 11; (with_reducible refine (shardlogref13_Few.calls k _ _ l0 t369 _ ?side1 ?side2 A5.out).mono ?_); (case side1 => repeat (first | exact (Kd.C_below HR0.out HB.out) | (with_reducible refine Kd.C_alloc ?_ _) | (with_reducible refine Kd.C_drewN ?_ _) | (with_reducible refine Kd.C_drew ?_))); (case side2 => exact HC0.out); rintro e w7 ⟨rfl, hb⟩; have n0_ := aS (below_step (by repeat (first | (with_reducible first | exact HB.out | apply bal | apply bdN | apply bdo) | exact HB.out)) hb); clear HB; have HB := n0_; clear n0_; (try clear hb); (try clear hb2); (try clear hk); (try clear hi))); try go_wp2_with (first | (go_at_call 10; (with_reducible refine (shardloglaw13_awake.calls k  true _ A3.out).mono ?_); rintro e w6 ⟨rfl, hb⟩; have n0_ := aS (below_step (by repeat (first | (with_reducible first | exact HB.out | apply bal | apply bdN | apply bdo) | exact HB.out)) hb); clear HB; have HB := n0_; clear n0_; (try clear hb); (try clear hb2); (try clear hk); (try clear hi)) | (go_at_call 11; (with_reducible refine (shardlogref13_Few.calls k _ _ l0 t369 _ ?side1 ?side2 A5.out).mono ?_); (case side1 => repeat (first | exact (Kd.C_below HR0.out HB.out) | (with_reducible refine Kd.C_alloc ?_ _) | (with_reducible refine Kd.C_drewN ?_ _) | (with_reducible refine Kd.C_drew ?_))); (case side2 => exact HC0.out); rintro e w7 ⟨rfl, hb⟩; have n0_ := aS (below_step (by repeat (first | (with_reducible first | exact HB.out | apply bal | apply bdN | apply bdo) | exact HB.out)) hb); clear HB; have HB := n0_; clear n0_; (try clear hb); (try clear hb2); (try clear hk); (try clear hi))))
   go_meet
   case rel => exact ⟨_, (!t369), (by first | rfl | (simp; done) | (simp [*]; done) | (simp; exact (by decide : ∀ a_ b_ : Bool, (a_ == b_) = (!a_ != b_)) _ _)), H', ⟨by first | omega | exact Nat.le_refl _⟩, ⟨by repeat (first | (with_reducible first | exact HB.out | apply bal | apply bdN | apply bdo) | exact HB.out)⟩⟩
  ·
   replace c4 := Bool.eq_false_iff.mpr c4
   subst c4
   have H1 : (shardloglaw13_MergeKeeps.j0 k l0 true) = some r := by rw [if_neg (show ¬ (false = true) by decide)] at H; exact H
   clear H; have H := H1; clear H1
   have H' := aS H
   clear H
   go_wp2_with (first | (go_at_call 10; (with_reducible refine (shardloglaw13_awake.calls k  false _ A3.out).mono ?_); rintro e w8 ⟨rfl, hb⟩; have n0_ := aS (below_step (by repeat (first | (with_reducible first | exact HB.out | apply bal | apply bdN | apply bdo) | exact HB.out)) hb); clear HB; have HB := n0_; clear n0_; (try clear hb); (try clear hb2); (try clear hk); (try clear hi)))
   repeat (go_quiet (first | (go_at_call 10; (with_reducible refine (shardloglaw13_awake.calls k  false _ A3.out).mono ?_); rintro e w8 ⟨rfl, hb⟩; have n0_ := aS (below_step (by repeat (first | (with_reducible first | exact HB.out | apply bal | apply bdN | apply bdo) | exact HB.out)) hb); clear HB; have HB := n0_; clear n0_; (try clear hb); (try clear hb2); (try clear hk); (try clear hi))); try go_wp2_with (first | (go_at_call 10; (with_reducible refine (shardloglaw13_awake.calls k  false _ A3.out).mono ?_); rintro e w8 ⟨rfl, hb⟩; have n0_ := aS (below_step (by repeat (first | (with_reducible first | exact HB.out | apply bal | apply bdN | apply bdo) | exact HB.out)) hb); clear HB; have HB := n0_; clear n0_; (try clear hb); (try clear hb2); (try clear hk); (try clear hi))))
   go_meet
   case rel => exact ⟨_, (true), (by first | rfl | (simp; done) | (simp [*]; done) | (simp; exact (by decide : ∀ a_ b_ : Bool, (a_ == b_) = (!a_ != b_)) _ _)), H', ⟨by first | omega | exact Nat.le_refl _⟩, ⟨by repeat (first | (with_reducible first | exact HB.out | apply bal | apply bdN | apply bdo) | exact HB.out)⟩⟩
 case rest =>
  clear HC2; (try clear p2); (try clear c4); (try clear c8)
  obtain ⟨kq, x16_1, rfl, HA, HJ1, HB⟩ := hcut
  cases kq with
  | zero => exact absurd HA.out (by simp [shardloglaw13_MergeKeeps.j0])
  | succ kj1 =>
   have H := HA.out; clear HA
   simp only [shardloglaw13_MergeKeeps.j0] at H
   by_cases c9 : x16_1 = true
   ·
    subst c9
    have H1 : ((shardloglaw13_awake.f kj1).bind fun t370 => (some t370)) = some r := by rw [if_pos rfl] at H; exact H
    clear H; have H := H1; clear H1
    replace H := obm H
    obtain ⟨t370, A100, H⟩ := H
    replace H : (some t370) = some r := H
    have A10 := aS A100
    clear A100
    obtain rfl := Option.some.inj H
    go_wp2_with (first | (go_at_call 10; (with_reducible refine (shardloglaw13_awake.calls kj1  t370 _ A10.out).mono ?_); rintro e w11 ⟨rfl, hb⟩; have n0_ := aS (below_step (by repeat (first | (with_reducible first | exact HB.out | apply bal | apply bdN | apply bdo) | exact HB.out)) hb); clear HB; have HB := n0_; clear n0_; (try clear hb); (try clear hb2); (try clear hk); (try clear hi)))
    repeat (go_quiet (first | (go_at_call 10; (with_reducible refine (shardloglaw13_awake.calls kj1  t370 _ A10.out).mono ?_); rintro e w11 ⟨rfl, hb⟩; have n0_ := aS (below_step (by repeat (first | (with_reducible first | exact HB.out | apply bal | apply bdN | apply bdo) | exact HB.out)) hb); clear HB; have HB := n0_; clear n0_; (try clear hb); (try clear hb2); (try clear hk); (try clear hi))); try go_wp2_with (first | (go_at_call 10; (with_reducible refine (shardloglaw13_awake.calls kj1  t370 _ A10.out).mono ?_); rintro e w11 ⟨rfl, hb⟩; have n0_ := aS (below_step (by repeat (first | (with_reducible first | exact HB.out | apply bal | apply bdN | apply bdo) | exact HB.out)) hb); clear HB; have HB := n0_; clear n0_; (try clear hb); (try clear hb2); (try clear hk); (try clear hi))))
    go_ret
    exact ⟨by first | rfl | (simp [errW_none, errW_some] <;> rfl) | (simp [*, errW_none, errW_some] <;> rfl), by repeat (first | (with_reducible first | exact HB.out | apply bal | apply bdN | apply bdo) | exact HB.out)⟩
   ·
    replace c9 := Bool.eq_false_iff.mpr c9
    subst c9
    have H1 : ((shardlogref13_Sorts.f kj1 l0).bind fun t371 => ((merge_All.f kj1 t371).bind fun t374 => (shardloglaw13_MergeKeeps.l0 kj1 l0 t371 t374 0))) = some r := by rw [if_neg (show ¬ (false = true) by decide)] at H; exact H
    clear H; have H := H1; clear H1
    replace H := obm H
    obtain ⟨t371, A120, H⟩ := H
    replace H : ((merge_All.f kj1 t371).bind fun t374 => (shardloglaw13_MergeKeeps.l0 kj1 l0 t371 t374 0)) = some r := H
    have A12 := aS A120
    clear A120
    replace H := obm H
    obtain ⟨t374, A130, H⟩ := H
    replace H : (shardloglaw13_MergeKeeps.l0 kj1 l0 t371 t374 0) = some r := H
    have A13 := aS A130
    clear A130
    have H' := aS H
    clear H
    go_wp2_with (first | (go_at_call 12; (with_reducible refine (shardlogref13_Sorts.calls kj1 _ _ l0 t371 _ ?side1 ?side2 A12.out).mono ?_); (case side1 => repeat (first | exact (Kd.C_below HR0.out HB.out) | (with_reducible refine Kd.C_alloc ?_ _) | (with_reducible refine Kd.C_drewN ?_ _) | (with_reducible refine Kd.C_drew ?_))); (case side2 => exact HC0.out); rintro e w14 ⟨v372, rfl, ho0, hb⟩; have n0_ := aS (Kd.S_lower ho0 (below_size (by repeat (first | (with_reducible first | exact HB.out | apply bal | apply bdN | apply bdo) | exact HB.out)))); have n1_ := aS (below_step (by repeat (first | (with_reducible first | exact HB.out | apply bal | apply bdN | apply bdo) | exact HB.out)) hb); clear HB; have HO373 := n0_; have HB := n1_; clear n0_ n1_; (try clear hb); (try clear hb2); (try clear hk); (try clear hi); (try clear ho0); obtain ⟨Ao15, co15, eo15⟩ := Kd.S_slice HO373.out; subst eo15) | (go_at_call 14; (with_reducible refine (merge_All.calls kj1 _ _ t371 t374 _ ?side1 ?side2 A13.out).mono ?_); (case side1 => repeat (first | exact (Kd.S_reads' HO373.out).2.2 | (with_reducible refine Kd.C_alloc ?_ _) | (with_reducible refine Kd.C_drewN ?_ _) | (with_reducible refine Kd.C_drew ?_))); (case side2 => exact (Kd.S_reads' HO373.out).2.1); rintro e w16 ⟨v375, rfl, ho0, hb⟩; have n0_ := aS (Kd.S_elder' (by (with_reducible repeat (first | apply Kd.S_alloc | apply Kd.S_drewN | apply Kd.S_drew)); exact HO373.out) (by first | exact Kd.R_base ho0 | exact Kd.S_base ho0 | exact Kd.R_base ho0 | exact Kd.V_base ho0) hb); have n1_ := aS (Kd.R_lower ho0 (below_size (by repeat (first | (with_reducible first | exact HB.out | apply bal | apply bdN | apply bdo) | exact HB.out)))); have n2_ := aS (below_step (by repeat (first | (with_reducible first | exact HB.out | apply bal | apply bdN | apply bdo) | exact HB.out)) hb); clear HO373; clear HB; have HO373 := n0_; have HO376 := n1_; have HB := n2_; clear n0_ n1_ n2_; (try clear hb); (try clear hb2); (try clear hk); (try clear hi); (try clear ho0)))
    repeat (go_quiet (first | (go_at_call 12; (with_reducible refine (shardlogref13_Sorts.calls kj1 _ _ l0 t371 _ ?side1 ?side2 A12.out).mono ?_); (case side1 => repeat (first | exact (Kd.C_below HR0.out HB.out) | (with_reducible refine Kd.C_alloc ?_ _) | (with_reducible refine Kd.C_drewN ?_ _) | (with_reducible refine Kd.C_drew ?_))); (case side2 => exact HC0.out); rintro e w14 ⟨v372, rfl, ho0, hb⟩; have n0_ := aS (Kd.S_lower ho0 (below_size (by repeat (first | (with_reducible first | exact HB.out | apply bal | apply bdN | apply bdo) | exact HB.out)))); have n1_ := aS (below_step (by repeat (first | (with_reducible first | exact HB.out | apply bal | apply bdN | apply bdo) | exact HB.out)) hb); clear HB; have HO373 := n0_; have HB := n1_; clear n0_ n1_; (try clear hb); (try clear hb2); (try clear hk); (try clear hi); (try clear ho0); obtain ⟨Ao15, co15, eo15⟩ := Kd.S_slice HO373.out; subst eo15) | (go_at_call 14; (with_reducible refine (merge_All.calls kj1 _ _ t371 t374 _ ?side1 ?side2 A13.out).mono ?_); (case side1 => repeat (first | exact (Kd.S_reads' HO373.out).2.2 | (with_reducible refine Kd.C_alloc ?_ _) | (with_reducible refine Kd.C_drewN ?_ _) | (with_reducible refine Kd.C_drew ?_))); (case side2 => exact (Kd.S_reads' HO373.out).2.1); rintro e w16 ⟨v375, rfl, ho0, hb⟩; have n0_ := aS (Kd.S_elder' (by (with_reducible repeat (first | apply Kd.S_alloc | apply Kd.S_drewN | apply Kd.S_drew)); exact HO373.out) (by first | exact Kd.R_base ho0 | exact Kd.S_base ho0 | exact Kd.R_base ho0 | exact Kd.V_base ho0) hb); have n1_ := aS (Kd.R_lower ho0 (below_size (by repeat (first | (with_reducible first | exact HB.out | apply bal | apply bdN | apply bdo) | exact HB.out)))); have n2_ := aS (below_step (by repeat (first | (with_reducible first | exact HB.out | apply bal | apply bdN | apply bdo) | exact HB.out)) hb); clear HO373; clear HB; have HO373 := n0_; have HO376 := n1_; have HB := n2_; clear n0_ n1_ n2_; (try clear hb); (try clear hb2); (try clear hk); (try clear hi); (try clear ho0))); try go_wp2_with (first | (go_at_call 12; (with_reducible refine (shardlogref13_Sorts.calls kj1 _ _ l0 t371 _ ?side1 ?side2 A12.out).mono ?_); (case side1 => repeat (first | exact (Kd.C_below HR0.out HB.out) | (with_reducible refine Kd.C_alloc ?_ _) | (with_reducible refine Kd.C_drewN ?_ _) | (with_reducible refine Kd.C_drew ?_))); (case side2 => exact HC0.out); rintro e w14 ⟨v372, rfl, ho0, hb⟩; have n0_ := aS (Kd.S_lower ho0 (below_size (by repeat (first | (with_reducible first | exact HB.out | apply bal | apply bdN | apply bdo) | exact HB.out)))); have n1_ := aS (below_step (by repeat (first | (with_reducible first | exact HB.out | apply bal | apply bdN | apply bdo) | exact HB.out)) hb); clear HB; have HO373 := n0_; have HB := n1_; clear n0_ n1_; (try clear hb); (try clear hb2); (try clear hk); (try clear hi); (try clear ho0); obtain ⟨Ao15, co15, eo15⟩ := Kd.S_slice HO373.out; subst eo15) | (go_at_call 14; (with_reducible refine (merge_All.calls kj1 _ _ t371 t374 _ ?side1 ?side2 A13.out).mono ?_); (case side1 => repeat (first | exact (Kd.S_reads' HO373.out).2.2 | (with_reducible refine Kd.C_alloc ?_ _) | (with_reducible refine Kd.C_drewN ?_ _) | (with_reducible refine Kd.C_drew ?_))); (case side2 => exact (Kd.S_reads' HO373.out).2.1); rintro e w16 ⟨v375, rfl, ho0, hb⟩; have n0_ := aS (Kd.S_elder' (by (with_reducible repeat (first | apply Kd.S_alloc | apply Kd.S_drewN | apply Kd.S_drew)); exact HO373.out) (by first | exact Kd.R_base ho0 | exact Kd.S_base ho0 | exact Kd.R_base ho0 | exact Kd.V_base ho0) hb); have n1_ := aS (Kd.R_lower ho0 (below_size (by repeat (first | (with_reducible first | exact HB.out | apply bal | apply bdN | apply bdo) | exact HB.out)))); have n2_ := aS (below_step (by repeat (first | (with_reducible first | exact HB.out | apply bal | apply bdN | apply bdo) | exact HB.out)) hb); clear HO373; clear HB; have HO373 := n0_; have HO376 := n1_; have HB := n2_; clear n0_ n1_ n2_; (try clear hb); (try clear hb2); (try clear hk); (try clear hi); (try clear ho0))))
    go_loopg [5] kj1 (fun kq v5 w' => ∃ (x4_2 : List (S35)) (x5_2 : Int), v5 = .int .i64 x5_2 ∧ Aside0 (shardloglaw13_MergeKeeps.l0 kq l0 t371 x4_2 x5_2 = some r) ∧ Aside0 (kq ≤ kj1) ∧ Aside0 (Kd.S (Kd.slice 35 k35) 27 w' w.heap.size (fun k_ => some k_ ≠ (v375 : Value).ownBlock) (.slice Ao15 t371.length co15) t371) ∧ Aside0 (Kd.R k35 35 w' w.heap.size (fun _ => True) v375 x4_2) ∧ Aside0 (Below w.heap.size w w'))
    case atStart => exact ⟨(t374), (0), (by first | rfl | (simp; done) | (simp [*]; done) | (simp; exact (by decide : ∀ a_ b_ : Bool, (a_ == b_) = (!a_ != b_)) _ _)), H', ⟨Nat.le_refl _⟩, ⟨by (with_reducible repeat (first | apply Kd.S_alloc | apply Kd.S_drewN | apply Kd.S_drew)); exact Kd.S_mono HO373.out (fun _ hk => hk.2)⟩, ⟨by (with_reducible repeat (first | apply Kd.R_alloc | apply Kd.R_drewN | apply Kd.R_drew)); exact HO376.out⟩, ⟨by repeat (first | (with_reducible first | exact HB.out | apply bal | apply bdN | apply bdo) | exact HB.out)⟩⟩
    case round =>
     clear H'; (try clear p2); (try clear c4); (try clear c8); (try clear c9); (try clear p2)
     obtain ⟨x4_2, x5_2, rfl, HA, HK2, HO_3, HO_4, HB⟩ := hrel
     cases gk with
     | zero => exact absurd HA.out (by simp [shardloglaw13_MergeKeeps.l0])
     | succ k2 =>
      have H := HA.out; clear HA
      simp only [shardloglaw13_MergeKeeps.l0] at H
      by_cases c17 : x5_2 < (x4_2.length : Int)
      ·
       rw [if_pos c17] at H
       have c17b0 : decide (x5_2 < (x4_2.length : Int)) = true := decide_eq_true c17
       clear c17
       by_cases c18 : 0 ≤ x5_2
       ·
        rw [if_pos c18] at H
        have c18b0 : decide (0 ≤ x5_2) = true := decide_eq_true c18
        clear c18
        obtain ⟨y377, hy377⟩ : ∃ y_ : List (S35), y_ = (x4_2.set (x5_2 : Int).toNat (⟨(⟨#[]⟩ : ByteArray), (⟨#[]⟩ : ByteArray), 0, (⟨#[]⟩ : ByteArray), false⟩ : S35)) := ⟨_, rfl⟩
        replace H : (shardloglaw13_MergeKeeps.l0 k2 l0 t371 y377 (wrap64 (x5_2 + 1))) = some r := by first | (rw [hy377]; with_reducible exact H) | (have H2_ := (Option.bind_some _ _).symm.trans H; rw [hy377]; with_reducible exact H2_) | (have H2_ := (Option.bind_some _ _).symm.trans H; with_reducible exact H2_) | with_reducible exact H | (rw [hy377]; exact H) | exact H
        have Ny377 := aS hy377
        clear hy377
        have H' := aS H
        clear H
        obtain ⟨Ao20, co20, eo20⟩ := Kd.R_slice HO_4.out
        subst eo20
        have p19 : 0 ≤ (x5_2 : Int) := odt (by first | (with_reducible assumption) | assumption)
        have q19 : (x5_2 : Int) < ((x4_2.length : Int) : Int) := odt (by first | (with_reducible assumption) | assumption)
        obtain ⟨go19, co19, eo19, gb19, gl19, cl19, HG19⟩ := Kd.R_form HO_4.out (by omega)
        (first | cases eo19 | (injection eo19 with ea_ en_ ec_; (first | subst ea_ | (injection ea_ with ea_; subst ea_)); subst ec_; clear en_))
        have GB19 := aS gb19
        have GG19 := aS HG19
        clear gb19 gl19 HG19
        obtain ⟨ce19, hcl19, hM19, hcc19, hfr19⟩ := Kd.R_elem HO_4.out z35 (x5_2 : Int) p19 q19
        obtain rfl := k35_openM hM19
        have hx19_0 : wr.cell? ⟨go19, (x5_2 : Int).toNat * 5, none⟩ = some (.string ((rd_T35 x4_2 x5_2).f0)) := hcc19 0 _ rfl
        have hx19_1 : wr.cell? ⟨go19, (x5_2 : Int).toNat * 5 + 1, none⟩ = some (.string ((rd_T35 x4_2 x5_2).f1)) := hcc19 1 _ rfl
        have hx19_2 : wr.cell? ⟨go19, (x5_2 : Int).toNat * 5 + 2, none⟩ = some (.int .i64 ((rd_T35 x4_2 x5_2).f2)) := hcc19 2 _ rfl
        have hx19_3 : wr.cell? ⟨go19, (x5_2 : Int).toNat * 5 + 3, none⟩ = some (.string ((rd_T35 x4_2 x5_2).f3)) := hcc19 3 _ rfl
        have hx19_4 : wr.cell? ⟨go19, (x5_2 : Int).toNat * 5 + 4, none⟩ = some (.bool ((rd_T35 x4_2 x5_2).f4)) := hcc19 4 _ rfl
        have hf19_0 : wr.frozen? ⟨go19, (x5_2 : Int).toNat * 5, none⟩ = false := hfr19 0
        have hf19_1 : wr.frozen? ⟨go19, (x5_2 : Int).toNat * 5 + 1, none⟩ = false := hfr19 1
        have hf19_2 : wr.frozen? ⟨go19, (x5_2 : Int).toNat * 5 + 2, none⟩ = false := hfr19 2
        have hf19_3 : wr.frozen? ⟨go19, (x5_2 : Int).toNat * 5 + 3, none⟩ = false := hfr19 3
        have hf19_4 : wr.frozen? ⟨go19, (x5_2 : Int).toNat * 5 + 4, none⟩ = false := hfr19 4
        clear hcl19 hcc19 hfr19 hM19
        replace p19 := eq_true p19
        replace q19 := eq_true q19
        have HX21 := aS (show Kd.R k35 35 wr w.heap.size (fun _ => True) (.slice (some ⟨go19, 0, none⟩) x4_2.length co20) x4_2 from (by (with_reducible repeat (first | apply Kd.R_alloc | apply Kd.R_drewN | apply Kd.R_drew)); exact HO_4.out))
        obtain ⟨ce21, hcl21, hM21, hcc21, hfr21⟩ := Kd.R_elem HX21.out z35 (x5_2 : Int) (odt (by first | (with_reducible assumption) | assumption)) (by have h_ : (x5_2 : Int) < ((x4_2.length : Int) : Int) := odt (by first | (with_reducible assumption) | assumption); first | exact h_ | (have e_ := (Kd.R_reads' HO_4.out).1; omega) | simpa using h_)
        obtain rfl := k35_openM hM21
        have HP21 := Kd.R_seg HX21.out (x5_2 : Int) (odt (by first | (with_reducible assumption) | assumption)) (by have h_ : (x5_2 : Int) < ((x4_2.length : Int) : Int) := odt (by first | (with_reducible assumption) | assumption); first | exact h_ | (have e_ := (Kd.R_reads' HO_4.out).1; omega) | simpa using h_) (seg := [.string (⟨#[]⟩ : ByteArray), .string (⟨#[]⟩ : ByteArray), .int .i64 0, .string (⟨#[]⟩ : ByteArray), .bool false]) (j := 0) hcl21 hcc21 (show 5 ≤ 5 from by decide) (x' := (⟨(⟨#[]⟩ : ByteArray), (⟨#[]⟩ : ByteArray), 0, (⟨#[]⟩ : ByteArray), false⟩ : S35)) (k35_mkM _ _ _ (⟨(⟨#[]⟩ : ByteArray), (⟨#[]⟩ : ByteArray), 0, (⟨#[]⟩ : ByteArray), false⟩ : S35) ) (fun _ hk => hk)
        have hx21_0 := hcc21 0 _ rfl
        (try simp only [show (k35).sz = 5 from rfl, Nat.mul_one, Nat.add_zero] at hx21_0)
        have hf21_0 := hfr21 0
        (try simp only [show (k35).sz = 5 from rfl, Nat.mul_one, Nat.add_zero] at hf21_0)
        have hx21_1 := hcc21 1 _ rfl
        (try simp only [show (k35).sz = 5 from rfl, Nat.mul_one, Nat.add_zero] at hx21_1)
        have hf21_1 := hfr21 1
        (try simp only [show (k35).sz = 5 from rfl, Nat.mul_one, Nat.add_zero] at hf21_1)
        have hx21_2 := hcc21 2 _ rfl
        (try simp only [show (k35).sz = 5 from rfl, Nat.mul_one, Nat.add_zero] at hx21_2)
        have hf21_2 := hfr21 2
        (try simp only [show (k35).sz = 5 from rfl, Nat.mul_one, Nat.add_zero] at hf21_2)
        have hx21_3 := hcc21 3 _ rfl
        (try simp only [show (k35).sz = 5 from rfl, Nat.mul_one, Nat.add_zero] at hx21_3)
        have hf21_3 := hfr21 3
        (try simp only [show (k35).sz = 5 from rfl, Nat.mul_one, Nat.add_zero] at hf21_3)
        have hx21_4 := hcc21 4 _ rfl
        (try simp only [show (k35).sz = 5 from rfl, Nat.mul_one, Nat.add_zero] at hx21_4)
        have hf21_4 := hfr21 4
        (try simp only [show (k35).sz = 5 from rfl, Nat.mul_one, Nat.add_zero] at hf21_4)
        clear hcl21 hcc21 hfr21 hM21
        go_wp2_with (first | ((with_reducible refine gate_store (t := 35) (p := 31) rfl ?_); (try (rw [drewN_self wr]; generalize hq_ : World.drewN wr _ = wr; have n0_ := aS (Kd.S_at hq_ HO_3.out); have n1_ := aS (Kd.R_at hq_ HO_4.out); have n2_ := aS (below_at hq_ HB.out); clear hq_ HO_3 HO_4 HB; have HO_3 := n0_; have HO_4 := n1_; have HB := n2_; clear n0_ n1_ n2_; (try (have HX21 := aS (show Kd.R k35 35 wr w.heap.size (fun _ => True) (.slice (some ⟨go19, 0, none⟩) x4_2.length co20) x4_2 from (by (with_reducible repeat (first | apply Kd.R_alloc | apply Kd.R_drewN | apply Kd.R_drew)); exact HO_4.out)))); (try (obtain ⟨ce21, hcl21, hM21, hcc21, hfr21⟩ := Kd.R_elem HX21.out z35 (x5_2 : Int) (odt (by first | (with_reducible assumption) | assumption)) (by have h_ : (x5_2 : Int) < ((x4_2.length : Int) : Int) := odt (by first | (with_reducible assumption) | assumption); first | exact h_ | (have e_ := (Kd.R_reads' HO_4.out).1; omega) | simpa using h_))); (try (obtain rfl := k35_openM hM21)); (try (have HP21 := Kd.R_seg HX21.out (x5_2 : Int) (odt (by first | (with_reducible assumption) | assumption)) (by have h_ : (x5_2 : Int) < ((x4_2.length : Int) : Int) := odt (by first | (with_reducible assumption) | assumption); first | exact h_ | (have e_ := (Kd.R_reads' HO_4.out).1; omega) | simpa using h_) (seg := [.string (⟨#[]⟩ : ByteArray), .string (⟨#[]⟩ : ByteArray), .int .i64 0, .string (⟨#[]⟩ : ByteArray), .bool false]) (j := 0) hcl21 hcc21 (show 5 ≤ 5 from by decide) (x' := (⟨(⟨#[]⟩ : ByteArray), (⟨#[]⟩ : ByteArray), 0, (⟨#[]⟩ : ByteArray), false⟩ : S35)) (k35_mkM _ _ _ (⟨(⟨#[]⟩ : ByteArray), (⟨#[]⟩ : ByteArray), 0, (⟨#[]⟩ : ByteArray), false⟩ : S35) ) (fun _ hk => hk))); (try (have hx21_0 := hcc21 0 _ rfl)); (try (try simp only [show (k35).sz = 5 from rfl, Nat.mul_one, Nat.add_zero] at hx21_0)); (try (have hf21_0 := hfr21 0)); (try (try simp only [show (k35).sz = 5 from rfl, Nat.mul_one, Nat.add_zero] at hf21_0)); (try (have hx21_1 := hcc21 1 _ rfl)); (try (try simp only [show (k35).sz = 5 from rfl, Nat.mul_one, Nat.add_zero] at hx21_1)); (try (have hf21_1 := hfr21 1)); (try (try simp only [show (k35).sz = 5 from rfl, Nat.mul_one, Nat.add_zero] at hf21_1)); (try (have hx21_2 := hcc21 2 _ rfl)); (try (try simp only [show (k35).sz = 5 from rfl, Nat.mul_one, Nat.add_zero] at hx21_2)); (try (have hf21_2 := hfr21 2)); (try (try simp only [show (k35).sz = 5 from rfl, Nat.mul_one, Nat.add_zero] at hf21_2)); (try (have hx21_3 := hcc21 3 _ rfl)); (try (try simp only [show (k35).sz = 5 from rfl, Nat.mul_one, Nat.add_zero] at hx21_3)); (try (have hf21_3 := hfr21 3)); (try (try simp only [show (k35).sz = 5 from rfl, Nat.mul_one, Nat.add_zero] at hf21_3)); (try (have hx21_4 := hcc21 4 _ rfl)); (try (try simp only [show (k35).sz = 5 from rfl, Nat.mul_one, Nat.add_zero] at hx21_4)); (try (have hf21_4 := hfr21 4)); (try (try simp only [show (k35).sz = 5 from rfl, Nat.mul_one, Nat.add_zero] at hf21_4)); (try (clear hcl21 hcc21 hfr21 hM21)))); refine store_event (t := 35) (p := 31) (v := ?vo_w22) (w1 := (((((wr.setCell ⟨go19, (x5_2 : Int).toNat * 5, none⟩ (.string (⟨#[]⟩ : ByteArray))).setCell ⟨go19, (x5_2 : Int).toNat * 5 + 1, none⟩ (.string (⟨#[]⟩ : ByteArray))).setCell ⟨go19, (x5_2 : Int).toNat * 5 + 2, none⟩ (.int .i64 0)).setCell ⟨go19, (x5_2 : Int).toNat * 5 + 3, none⟩ (.string (⟨#[]⟩ : ByteArray))).setCell ⟨go19, (x5_2 : Int).toNat * 5 + 4, none⟩ (.bool false))) ?hg ?ho ?hn ?hr ?_; (case ho => rfl); (case hg => rfl); (case hn => rfl); (case hr => first | (go_simp; done) | (go_simp; rfl)); intro w22 hw; have hg : wr.grownBy w22 (some go19) := (by rw [hw]; exact HP21.2); have hp_ : Kd.R k35 35 w22 w.heap.size (fun _ => True) (.slice (some ⟨go19, 0, none⟩) x4_2.length co20) y377 := (by rw [hw, Ny377.out]; exact HP21.1); clear HP21; have n0_ := aS (Kd.S_after (v := (.slice (some ⟨go19, 0, none⟩) x4_2.length co20)) (v1 := (.slice (some ⟨go19, 0, none⟩) x4_2.length co20)) (ok := (fun _ => True)) (by (with_reducible repeat (first | apply Kd.S_alloc | apply Kd.S_drewN | apply Kd.S_drew)); exact Kd.S_mono HO_3.out (fun _ hk => ⟨trivial, hk⟩)) hg (.inl rfl)); have n1_ := aS (hp_); have n2_ := aS ((by rw [hw]; exact below_set (below_set (below_set (below_set (below_set (HB.out) GB19.out) GB19.out) GB19.out) GB19.out) GB19.out : Below w.heap.size w w22)); clear HO_3; clear HO_4; clear HB; have HO_3 := n0_; have HO_4 := n1_; have HB := n2_; clear n0_ n1_ n2_; clear hg hw hp_))
        repeat (go_quiet (first | ((with_reducible refine gate_store (t := 35) (p := 31) rfl ?_); (try (rw [drewN_self wr]; generalize hq_ : World.drewN wr _ = wr; have n0_ := aS (Kd.S_at hq_ HO_3.out); have n1_ := aS (Kd.R_at hq_ HO_4.out); have n2_ := aS (below_at hq_ HB.out); clear hq_ HO_3 HO_4 HB; have HO_3 := n0_; have HO_4 := n1_; have HB := n2_; clear n0_ n1_ n2_; (try (have HX21 := aS (show Kd.R k35 35 wr w.heap.size (fun _ => True) (.slice (some ⟨go19, 0, none⟩) x4_2.length co20) x4_2 from (by (with_reducible repeat (first | apply Kd.R_alloc | apply Kd.R_drewN | apply Kd.R_drew)); exact HO_4.out)))); (try (obtain ⟨ce21, hcl21, hM21, hcc21, hfr21⟩ := Kd.R_elem HX21.out z35 (x5_2 : Int) (odt (by first | (with_reducible assumption) | assumption)) (by have h_ : (x5_2 : Int) < ((x4_2.length : Int) : Int) := odt (by first | (with_reducible assumption) | assumption); first | exact h_ | (have e_ := (Kd.R_reads' HO_4.out).1; omega) | simpa using h_))); (try (obtain rfl := k35_openM hM21)); (try (have HP21 := Kd.R_seg HX21.out (x5_2 : Int) (odt (by first | (with_reducible assumption) | assumption)) (by have h_ : (x5_2 : Int) < ((x4_2.length : Int) : Int) := odt (by first | (with_reducible assumption) | assumption); first | exact h_ | (have e_ := (Kd.R_reads' HO_4.out).1; omega) | simpa using h_) (seg := [.string (⟨#[]⟩ : ByteArray), .string (⟨#[]⟩ : ByteArray), .int .i64 0, .string (⟨#[]⟩ : ByteArray), .bool false]) (j := 0) hcl21 hcc21 (show 5 ≤ 5 from by decide) (x' := (⟨(⟨#[]⟩ : ByteArray), (⟨#[]⟩ : ByteArray), 0, (⟨#[]⟩ : ByteArray), false⟩ : S35)) (k35_mkM _ _ _ (⟨(⟨#[]⟩ : ByteArray), (⟨#[]⟩ : ByteArray), 0, (⟨#[]⟩ : ByteArray), false⟩ : S35) ) (fun _ hk => hk))); (try (have hx21_0 := hcc21 0 _ rfl)); (try (try simp only [show (k35).sz = 5 from rfl, Nat.mul_one, Nat.add_zero] at hx21_0)); (try (have hf21_0 := hfr21 0)); (try (try simp only [show (k35).sz = 5 from rfl, Nat.mul_one, Nat.add_zero] at hf21_0)); (try (have hx21_1 := hcc21 1 _ rfl)); (try (try simp only [show (k35).sz = 5 from rfl, Nat.mul_one, Nat.add_zero] at hx21_1)); (try (have hf21_1 := hfr21 1)); (try (try simp only [show (k35).sz = 5 from rfl, Nat.mul_one, Nat.add_zero] at hf21_1)); (try (have hx21_2 := hcc21 2 _ rfl)); (try (try simp only [show (k35).sz = 5 from rfl, Nat.mul_one, Nat.add_zero] at hx21_2)); (try (have hf21_2 := hfr21 2)); (try (try simp only [show (k35).sz = 5 from rfl, Nat.mul_one, Nat.add_zero] at hf21_2)); (try (have hx21_3 := hcc21 3 _ rfl)); (try (try simp only [show (k35).sz = 5 from rfl, Nat.mul_one, Nat.add_zero] at hx21_3)); (try (have hf21_3 := hfr21 3)); (try (try simp only [show (k35).sz = 5 from rfl, Nat.mul_one, Nat.add_zero] at hf21_3)); (try (have hx21_4 := hcc21 4 _ rfl)); (try (try simp only [show (k35).sz = 5 from rfl, Nat.mul_one, Nat.add_zero] at hx21_4)); (try (have hf21_4 := hfr21 4)); (try (try simp only [show (k35).sz = 5 from rfl, Nat.mul_one, Nat.add_zero] at hf21_4)); (try (clear hcl21 hcc21 hfr21 hM21)))); refine store_event (t := 35) (p := 31) (v := ?vo_w22) (w1 := (((((wr.setCell ⟨go19, (x5_2 : Int).toNat * 5, none⟩ (.string (⟨#[]⟩ : ByteArray))).setCell ⟨go19, (x5_2 : Int).toNat * 5 + 1, none⟩ (.string (⟨#[]⟩ : ByteArray))).setCell ⟨go19, (x5_2 : Int).toNat * 5 + 2, none⟩ (.int .i64 0)).setCell ⟨go19, (x5_2 : Int).toNat * 5 + 3, none⟩ (.string (⟨#[]⟩ : ByteArray))).setCell ⟨go19, (x5_2 : Int).toNat * 5 + 4, none⟩ (.bool false))) ?hg ?ho ?hn ?hr ?_; (case ho => rfl); (case hg => rfl); (case hn => rfl); (case hr => first | (go_simp; done) | (go_simp; rfl)); intro w22 hw; have hg : wr.grownBy w22 (some go19) := (by rw [hw]; exact HP21.2); have hp_ : Kd.R k35 35 w22 w.heap.size (fun _ => True) (.slice (some ⟨go19, 0, none⟩) x4_2.length co20) y377 := (by rw [hw, Ny377.out]; exact HP21.1); clear HP21; have n0_ := aS (Kd.S_after (v := (.slice (some ⟨go19, 0, none⟩) x4_2.length co20)) (v1 := (.slice (some ⟨go19, 0, none⟩) x4_2.length co20)) (ok := (fun _ => True)) (by (with_reducible repeat (first | apply Kd.S_alloc | apply Kd.S_drewN | apply Kd.S_drew)); exact Kd.S_mono HO_3.out (fun _ hk => ⟨trivial, hk⟩)) hg (.inl rfl)); have n1_ := aS (hp_); have n2_ := aS ((by rw [hw]; exact below_set (below_set (below_set (below_set (below_set (HB.out) GB19.out) GB19.out) GB19.out) GB19.out) GB19.out : Below w.heap.size w w22)); clear HO_3; clear HO_4; clear HB; have HO_3 := n0_; have HO_4 := n1_; have HB := n2_; clear n0_ n1_ n2_; clear hg hw hp_)); try go_wp2_with (first | ((with_reducible refine gate_store (t := 35) (p := 31) rfl ?_); (try (rw [drewN_self wr]; generalize hq_ : World.drewN wr _ = wr; have n0_ := aS (Kd.S_at hq_ HO_3.out); have n1_ := aS (Kd.R_at hq_ HO_4.out); have n2_ := aS (below_at hq_ HB.out); clear hq_ HO_3 HO_4 HB; have HO_3 := n0_; have HO_4 := n1_; have HB := n2_; clear n0_ n1_ n2_; (try (have HX21 := aS (show Kd.R k35 35 wr w.heap.size (fun _ => True) (.slice (some ⟨go19, 0, none⟩) x4_2.length co20) x4_2 from (by (with_reducible repeat (first | apply Kd.R_alloc | apply Kd.R_drewN | apply Kd.R_drew)); exact HO_4.out)))); (try (obtain ⟨ce21, hcl21, hM21, hcc21, hfr21⟩ := Kd.R_elem HX21.out z35 (x5_2 : Int) (odt (by first | (with_reducible assumption) | assumption)) (by have h_ : (x5_2 : Int) < ((x4_2.length : Int) : Int) := odt (by first | (with_reducible assumption) | assumption); first | exact h_ | (have e_ := (Kd.R_reads' HO_4.out).1; omega) | simpa using h_))); (try (obtain rfl := k35_openM hM21)); (try (have HP21 := Kd.R_seg HX21.out (x5_2 : Int) (odt (by first | (with_reducible assumption) | assumption)) (by have h_ : (x5_2 : Int) < ((x4_2.length : Int) : Int) := odt (by first | (with_reducible assumption) | assumption); first | exact h_ | (have e_ := (Kd.R_reads' HO_4.out).1; omega) | simpa using h_) (seg := [.string (⟨#[]⟩ : ByteArray), .string (⟨#[]⟩ : ByteArray), .int .i64 0, .string (⟨#[]⟩ : ByteArray), .bool false]) (j := 0) hcl21 hcc21 (show 5 ≤ 5 from by decide) (x' := (⟨(⟨#[]⟩ : ByteArray), (⟨#[]⟩ : ByteArray), 0, (⟨#[]⟩ : ByteArray), false⟩ : S35)) (k35_mkM _ _ _ (⟨(⟨#[]⟩ : ByteArray), (⟨#[]⟩ : ByteArray), 0, (⟨#[]⟩ : ByteArray), false⟩ : S35) ) (fun _ hk => hk))); (try (have hx21_0 := hcc21 0 _ rfl)); (try (try simp only [show (k35).sz = 5 from rfl, Nat.mul_one, Nat.add_zero] at hx21_0)); (try (have hf21_0 := hfr21 0)); (try (try simp only [show (k35).sz = 5 from rfl, Nat.mul_one, Nat.add_zero] at hf21_0)); (try (have hx21_1 := hcc21 1 _ rfl)); (try (try simp only [show (k35).sz = 5 from rfl, Nat.mul_one, Nat.add_zero] at hx21_1)); (try (have hf21_1 := hfr21 1)); (try (try simp only [show (k35).sz = 5 from rfl, Nat.mul_one, Nat.add_zero] at hf21_1)); (try (have hx21_2 := hcc21 2 _ rfl)); (try (try simp only [show (k35).sz = 5 from rfl, Nat.mul_one, Nat.add_zero] at hx21_2)); (try (have hf21_2 := hfr21 2)); (try (try simp only [show (k35).sz = 5 from rfl, Nat.mul_one, Nat.add_zero] at hf21_2)); (try (have hx21_3 := hcc21 3 _ rfl)); (try (try simp only [show (k35).sz = 5 from rfl, Nat.mul_one, Nat.add_zero] at hx21_3)); (try (have hf21_3 := hfr21 3)); (try (try simp only [show (k35).sz = 5 from rfl, Nat.mul_one, Nat.add_zero] at hf21_3)); (try (have hx21_4 := hcc21 4 _ rfl)); (try (try simp only [show (k35).sz = 5 from rfl, Nat.mul_one, Nat.add_zero] at hx21_4)); (try (have hf21_4 := hfr21 4)); (try (try simp only [show (k35).sz = 5 from rfl, Nat.mul_one, Nat.add_zero] at hf21_4)); (try (clear hcl21 hcc21 hfr21 hM21)))); refine store_event (t := 35) (p := 31) (v := ?vo_w22) (w1 := (((((wr.setCell ⟨go19, (x5_2 : Int).toNat * 5, none⟩ (.string (⟨#[]⟩ : ByteArray))).setCell ⟨go19, (x5_2 : Int).toNat * 5 + 1, none⟩ (.string (⟨#[]⟩ : ByteArray))).setCell ⟨go19, (x5_2 : Int).toNat * 5 + 2, none⟩ (.int .i64 0)).setCell ⟨go19, (x5_2 : Int).toNat * 5 + 3, none⟩ (.string (⟨#[]⟩ : ByteArray))).setCell ⟨go19, (x5_2 : Int).toNat * 5 + 4, none⟩ (.bool false))) ?hg ?ho ?hn ?hr ?_; (case ho => rfl); (case hg => rfl); (case hn => rfl); (case hr => first | (go_simp; done) | (go_simp; rfl)); intro w22 hw; have hg : wr.grownBy w22 (some go19) := (by rw [hw]; exact HP21.2); have hp_ : Kd.R k35 35 w22 w.heap.size (fun _ => True) (.slice (some ⟨go19, 0, none⟩) x4_2.length co20) y377 := (by rw [hw, Ny377.out]; exact HP21.1); clear HP21; have n0_ := aS (Kd.S_after (v := (.slice (some ⟨go19, 0, none⟩) x4_2.length co20)) (v1 := (.slice (some ⟨go19, 0, none⟩) x4_2.length co20)) (ok := (fun _ => True)) (by (with_reducible repeat (first | apply Kd.S_alloc | apply Kd.S_drewN | apply Kd.S_drew)); exact Kd.S_mono HO_3.out (fun _ hk => ⟨trivial, hk⟩)) hg (.inl rfl)); have n1_ := aS (hp_); have n2_ := aS ((by rw [hw]; exact below_set (below_set (below_set (below_set (below_set (HB.out) GB19.out) GB19.out) GB19.out) GB19.out) GB19.out : Below w.heap.size w w22)); clear HO_3; clear HO_4; clear HB; have HO_3 := n0_; have HO_4 := n1_; have HB := n2_; clear n0_ n1_ n2_; clear hg hw hp_)))
        go_roundg k2
        case measure => have := HJ1.out; have := HK2.out; omega
        case rel => exact ⟨(y377), (wrap64 (x5_2 + 1)), (by first | rfl | (simp; done) | (simp [*]; done) | (simp; exact (by decide : ∀ a_ b_ : Bool, (a_ == b_) = (!a_ != b_)) _ _)), H', ⟨by have := HJ1.out; have := HK2.out; omega⟩, ⟨by (with_reducible repeat (first | apply Kd.S_alloc | apply Kd.S_drewN | apply Kd.S_drew)); exact Kd.S_mono HO_3.out (fun _ hk => hk.2)⟩, ⟨by (with_reducible repeat (first | apply Kd.R_alloc | apply Kd.R_drewN | apply Kd.R_drew)); exact HO_4.out⟩, ⟨by repeat (first | (with_reducible first | exact HB.out | apply bal | apply bdN | apply bdo) | exact HB.out)⟩⟩
       ·
        rw [if_neg c18] at H
        exact absurd H (by simp)
      ·
       rw [if_neg c17] at H
       have c17b0 : decide (x5_2 < (x4_2.length : Int)) = false := decide_eq_false c17
       clear c17
       replace H := obm H
       obtain ⟨t378, A230, H⟩ := H
       replace H : (shardloglaw13_MergeKeeps.l1 k2 t371 t378 0) = some r := H
       have A23 := aS A230
       clear A230
       have H' := aS H
       clear H
       obtain ⟨Ao24, co24, eo24⟩ := Kd.R_slice HO_4.out
       subst eo24
       go_wp2_with (first | (go_at_call 12; (with_reducible refine (shardlogref13_Sorts.calls k2 _ _ l0 t378 _ ?side1 ?side2 A23.out).mono ?_); (case side1 => repeat (first | exact (Kd.C_below HR0.out HB.out) | (with_reducible refine Kd.C_alloc ?_ _) | (with_reducible refine Kd.C_drewN ?_ _) | (with_reducible refine Kd.C_drew ?_))); (case side2 => exact HC0.out); rintro e w25 ⟨v379, rfl, ho0, hb⟩; have n0_ := aS (Kd.S_elder' (by (with_reducible repeat (first | apply Kd.S_alloc | apply Kd.S_drewN | apply Kd.S_drew)); exact HO_3.out) (by first | exact Kd.S_base ho0 | exact Kd.S_base ho0 | exact Kd.R_base ho0 | exact Kd.V_base ho0) hb); have n1_ := aS (Kd.R_below (by (with_reducible repeat (first | apply Kd.R_alloc | apply Kd.R_drewN | apply Kd.R_drew)); exact HO_4.out) hb); have n2_ := aS (Kd.S_lower (Kd.S_new' (Kd.S_new' ho0 (Kd.S_lt (by (with_reducible repeat (first | apply Kd.S_alloc | apply Kd.S_drewN | apply Kd.S_drew)); exact HO_3.out))) (Kd.R_lt (by (with_reducible repeat (first | apply Kd.R_alloc | apply Kd.R_drewN | apply Kd.R_drew)); exact HO_4.out))) (below_size (by repeat (first | (with_reducible first | exact HB.out | apply bal | apply bdN | apply bdo) | exact HB.out)))); have n3_ := aS (below_step (by repeat (first | (with_reducible first | exact HB.out | apply bal | apply bdN | apply bdo) | exact HB.out)) hb); clear HO_3; clear HO_4; clear HB; have HO_3 := n0_; have HO_4 := n1_; have HO380 := n2_; have HB := n3_; clear n0_ n1_ n2_ n3_; (try clear hb); (try clear hb2); (try clear hk); (try clear hi); (try clear ho0)))
       repeat (go_quiet (first | (go_at_call 12; (with_reducible refine (shardlogref13_Sorts.calls k2 _ _ l0 t378 _ ?side1 ?side2 A23.out).mono ?_); (case side1 => repeat (first | exact (Kd.C_below HR0.out HB.out) | (with_reducible refine Kd.C_alloc ?_ _) | (with_reducible refine Kd.C_drewN ?_ _) | (with_reducible refine Kd.C_drew ?_))); (case side2 => exact HC0.out); rintro e w25 ⟨v379, rfl, ho0, hb⟩; have n0_ := aS (Kd.S_elder' (by (with_reducible repeat (first | apply Kd.S_alloc | apply Kd.S_drewN | apply Kd.S_drew)); exact HO_3.out) (by first | exact Kd.S_base ho0 | exact Kd.S_base ho0 | exact Kd.R_base ho0 | exact Kd.V_base ho0) hb); have n1_ := aS (Kd.R_below (by (with_reducible repeat (first | apply Kd.R_alloc | apply Kd.R_drewN | apply Kd.R_drew)); exact HO_4.out) hb); have n2_ := aS (Kd.S_lower (Kd.S_new' (Kd.S_new' ho0 (Kd.S_lt (by (with_reducible repeat (first | apply Kd.S_alloc | apply Kd.S_drewN | apply Kd.S_drew)); exact HO_3.out))) (Kd.R_lt (by (with_reducible repeat (first | apply Kd.R_alloc | apply Kd.R_drewN | apply Kd.R_drew)); exact HO_4.out))) (below_size (by repeat (first | (with_reducible first | exact HB.out | apply bal | apply bdN | apply bdo) | exact HB.out)))); have n3_ := aS (below_step (by repeat (first | (with_reducible first | exact HB.out | apply bal | apply bdN | apply bdo) | exact HB.out)) hb); clear HO_3; clear HO_4; clear HB; have HO_3 := n0_; have HO_4 := n1_; have HO380 := n2_; have HB := n3_; clear n0_ n1_ n2_ n3_; (try clear hb); (try clear hb2); (try clear hk); (try clear hi); (try clear ho0))); try go_wp2_with (first | (go_at_call 12; (with_reducible refine (shardlogref13_Sorts.calls k2 _ _ l0 t378 _ ?side1 ?side2 A23.out).mono ?_); (case side1 => repeat (first | exact (Kd.C_below HR0.out HB.out) | (with_reducible refine Kd.C_alloc ?_ _) | (with_reducible refine Kd.C_drewN ?_ _) | (with_reducible refine Kd.C_drew ?_))); (case side2 => exact HC0.out); rintro e w25 ⟨v379, rfl, ho0, hb⟩; have n0_ := aS (Kd.S_elder' (by (with_reducible repeat (first | apply Kd.S_alloc | apply Kd.S_drewN | apply Kd.S_drew)); exact HO_3.out) (by first | exact Kd.S_base ho0 | exact Kd.S_base ho0 | exact Kd.R_base ho0 | exact Kd.V_base ho0) hb); have n1_ := aS (Kd.R_below (by (with_reducible repeat (first | apply Kd.R_alloc | apply Kd.R_drewN | apply Kd.R_drew)); exact HO_4.out) hb); have n2_ := aS (Kd.S_lower (Kd.S_new' (Kd.S_new' ho0 (Kd.S_lt (by (with_reducible repeat (first | apply Kd.S_alloc | apply Kd.S_drewN | apply Kd.S_drew)); exact HO_3.out))) (Kd.R_lt (by (with_reducible repeat (first | apply Kd.R_alloc | apply Kd.R_drewN | apply Kd.R_drew)); exact HO_4.out))) (below_size (by repeat (first | (with_reducible first | exact HB.out | apply bal | apply bdN | apply bdo) | exact HB.out)))); have n3_ := aS (below_step (by repeat (first | (with_reducible first | exact HB.out | apply bal | apply bdN | apply bdo) | exact HB.out)) hb); clear HO_3; clear HO_4; clear HB; have HO_3 := n0_; have HO_4 := n1_; have HO380 := n2_; have HB := n3_; clear n0_ n1_ n2_ n3_; (try clear hb); (try clear hb2); (try clear hk); (try clear hi); (try clear ho0))))
       go_loopg [7] k2 (fun kq v7 w' => ∃ (x7_3 : Int), v7 = .int .i64 x7_3 ∧ Aside0 (shardloglaw13_MergeKeeps.l1 kq t371 t378 x7_3 = some r) ∧ Aside0 (kq ≤ k2) ∧ Aside0 (Kd.S (Kd.slice 35 k35) 27 w' w.heap.size (fun k_ => some k_ ≠ (v379 : Value).ownBlock) (.slice Ao15 t371.length co15) t371) ∧ Aside0 (Kd.S (Kd.slice 35 k35) 27 w' w.heap.size (fun k_ => some k_ ≠ ((.slice Ao15 t371.length co15) : Value).ownBlock) v379 t378) ∧ Aside0 (Below w.heap.size w w'))
       case atStart => exact ⟨(0), (by first | rfl | (simp; done) | (simp [*]; done) | (simp; exact (by decide : ∀ a_ b_ : Bool, (a_ == b_) = (!a_ != b_)) _ _)), H', ⟨Nat.le_refl _⟩, ⟨by (with_reducible repeat (first | apply Kd.S_alloc | apply Kd.S_drewN | apply Kd.S_drew)); exact Kd.S_mono HO_3.out (fun _ hk => hk.2)⟩, ⟨by (with_reducible repeat (first | apply Kd.S_alloc | apply Kd.S_drewN | apply Kd.S_drew)); exact Kd.S_mono HO380.out (fun _ hk => hk.1.2)⟩, ⟨by repeat (first | (with_reducible first | exact HB.out | apply bal | apply bdN | apply bdo) | exact HB.out)⟩⟩
       case round =>
        clear H'; (try clear c1); (try clear p1); (try clear q1); (try clear hx1); (try clear hf1); (try clear c2); (try clear p2); (try clear hx2); (try clear hf2); (try clear c4); (try clear p6); (try clear c8); (try clear c9); (try clear c17); (try clear c17b0); (try clear c18); (try clear c18b0); (try clear c19); (try clear p19); (try clear q19); (try clear hx19); (try clear hf19); (try clear c21); (try clear hx21); (try clear hf21); (try clear hx19_0); (try clear hx19_1); (try clear hx19_2); (try clear hx19_3); (try clear hx19_4); (try clear hx21_0); (try clear hx21_1); (try clear hx21_2); (try clear hx21_3); (try clear hx21_4); (try clear p19); (try clear p2); (try clear q19)
        obtain ⟨x7_3, rfl, HA, HK3, HO_3, HO_6, HB⟩ := hrel
        cases gk with
        | zero => exact absurd HA.out (by simp [shardloglaw13_MergeKeeps.l1])
        | succ k3 =>
         have H := HA.out; clear HA
         simp only [shardloglaw13_MergeKeeps.l1] at H
         by_cases c26 : x7_3 < (t371.length : Int)
         ·
          rw [if_pos c26] at H
          have c26b0 : decide (x7_3 < (t371.length : Int)) = true := decide_eq_true c26
          clear c26
          by_cases c27 : 0 ≤ x7_3
          ·
           rw [if_pos c27] at H
           have c27b0 : decide (0 ≤ x7_3) = true := decide_eq_true c27
           clear c27
           replace H := obm H
           obtain ⟨t382, A280, H⟩ := H
           replace H : (shardloglaw13_MergeKeeps.l2 k3 t371 t378 x7_3 t382 0) = some r := H
           have A28 := aS A280
           clear A280
           have H' := aS H
           clear H
           have p381 : 0 ≤ (x7_3 : Int) := odt (by first | (with_reducible assumption) | assumption)
           have q381 : x7_3 < (t371.length : Int) := odt (by first | (with_reducible assumption) | assumption)
           obtain ⟨ad381, A381_0, c381_0, e381, hx381_0, hl381_0, hi381_0⟩ := at_L4 (Kd.S_reads' HO_3.out).2.2 x7_3 p381 q381
           cases e381
           obtain ⟨ce381, hce381, hMe381, hcc381⟩ := Kd.S_get HO_3.out [] x7_3 p381 (by first | exact q381 | exact odt (by first | (with_reducible assumption) | assumption) | (have e_ := (Kd.S_reads' HO_3.out).1; omega))
           obtain ⟨ve381_0, rfl, ge381_0⟩ := hMe381
           have hv381_0 := hcc381 0 _ rfl
           rw [Nat.add_zero, show ((Kd.slice 35 k35)).sz = 1 from rfl, Nat.mul_one] at hv381_0
           replace hv381_0 := Option.some.inj (hv381_0.symm.trans hx381_0)
           rw [hv381_0] at ge381_0
           have HL381_0 := aS (show Kd.R k35 35 _ _ _ _ (rd_L4 t371 x7_3) from ge381_0)
           clear hv381_0 ge381_0; clear hcc381 hce381
           have HR381_0 := aS hi381_0
           have HC381_0 := aS hl381_0
           clear hi381_0 hl381_0
           replace p381 := eq_true p381
           replace q381 := eq_true q381
           go_wp2_with (first | (go_at_call 18; (with_reducible refine (merge_Clean.calls k3 _ _ (rd_L4 t371 x7_3) 3 t382 _ ?side1 ?side2 A28.out).mono ?_); (case side1 => repeat (first | exact (by repeat (first | (with_reducible exact HR381_0.out) | (with_reducible refine Kd.C_alloc ?_ _) | (with_reducible refine Kd.C_drewN ?_ _) | (with_reducible refine Kd.C_drew ?_) | exact HR381_0.out)) | (with_reducible refine Kd.C_alloc ?_ _) | (with_reducible refine Kd.C_drewN ?_ _) | (with_reducible refine Kd.C_drew ?_))); (case side2 => exact HC381_0.out); rintro e w29 ⟨v383, rfl, ho0, hb⟩; have n0_ := aS (Kd.S_elder' (by (with_reducible repeat (first | apply Kd.S_alloc | apply Kd.S_drewN | apply Kd.S_drew)); exact HO_3.out) (by first | exact Kd.R_base ho0 | exact Kd.S_base ho0 | exact Kd.R_base ho0 | exact Kd.V_base ho0) hb); have n1_ := aS (Kd.S_elder' (by (with_reducible repeat (first | apply Kd.S_alloc | apply Kd.S_drewN | apply Kd.S_drew)); exact HO_6.out) (by first | exact Kd.R_base ho0 | exact Kd.S_base ho0 | exact Kd.R_base ho0 | exact Kd.V_base ho0) hb); have n2_ := aS (Kd.R_elder' (by (with_reducible repeat (first | apply Kd.R_alloc | apply Kd.R_drewN | apply Kd.R_drew)); exact HL381_0.out) (by first | exact Kd.R_base ho0 | exact Kd.S_base ho0 | exact Kd.R_base ho0 | exact Kd.V_base ho0) hb); have n3_ := aS (Kd.R_lower (Kd.R_new' ho0 (Kd.R_lt (by (with_reducible repeat (first | apply Kd.R_alloc | apply Kd.R_drewN | apply Kd.R_drew)); exact HL381_0.out))) (below_size (by repeat (first | (with_reducible first | exact HB.out | apply bal | apply bdN | apply bdo) | exact HB.out)))); have n4_ := aS (Kd.C_below (by repeat (first | (with_reducible exact HR381_0.out) | (with_reducible refine Kd.C_alloc ?_ _) | (with_reducible refine Kd.C_drewN ?_ _) | (with_reducible refine Kd.C_drew ?_) | exact HR381_0.out)) hb); have n5_ := aS (below_step (by repeat (first | (with_reducible first | exact HB.out | apply bal | apply bdN | apply bdo) | exact HB.out)) hb); clear HO_3; clear HO_6; clear HL381_0; clear HR381_0; clear HB; have HO_3 := n0_; have HO_6 := n1_; have HL381_0 := n2_; have HO384 := n3_; have HR381_0 := n4_; have HB := n5_; clear n0_ n1_ n2_ n3_ n4_ n5_; (try clear hb); (try clear hb2); (try clear hk); (try clear hi); (try clear ho0)))
           repeat (go_quiet (first | (go_at_call 18; (with_reducible refine (merge_Clean.calls k3 _ _ (rd_L4 t371 x7_3) 3 t382 _ ?side1 ?side2 A28.out).mono ?_); (case side1 => repeat (first | exact (by repeat (first | (with_reducible exact HR381_0.out) | (with_reducible refine Kd.C_alloc ?_ _) | (with_reducible refine Kd.C_drewN ?_ _) | (with_reducible refine Kd.C_drew ?_) | exact HR381_0.out)) | (with_reducible refine Kd.C_alloc ?_ _) | (with_reducible refine Kd.C_drewN ?_ _) | (with_reducible refine Kd.C_drew ?_))); (case side2 => exact HC381_0.out); rintro e w29 ⟨v383, rfl, ho0, hb⟩; have n0_ := aS (Kd.S_elder' (by (with_reducible repeat (first | apply Kd.S_alloc | apply Kd.S_drewN | apply Kd.S_drew)); exact HO_3.out) (by first | exact Kd.R_base ho0 | exact Kd.S_base ho0 | exact Kd.R_base ho0 | exact Kd.V_base ho0) hb); have n1_ := aS (Kd.S_elder' (by (with_reducible repeat (first | apply Kd.S_alloc | apply Kd.S_drewN | apply Kd.S_drew)); exact HO_6.out) (by first | exact Kd.R_base ho0 | exact Kd.S_base ho0 | exact Kd.R_base ho0 | exact Kd.V_base ho0) hb); have n2_ := aS (Kd.R_elder' (by (with_reducible repeat (first | apply Kd.R_alloc | apply Kd.R_drewN | apply Kd.R_drew)); exact HL381_0.out) (by first | exact Kd.R_base ho0 | exact Kd.S_base ho0 | exact Kd.R_base ho0 | exact Kd.V_base ho0) hb); have n3_ := aS (Kd.R_lower (Kd.R_new' ho0 (Kd.R_lt (by (with_reducible repeat (first | apply Kd.R_alloc | apply Kd.R_drewN | apply Kd.R_drew)); exact HL381_0.out))) (below_size (by repeat (first | (with_reducible first | exact HB.out | apply bal | apply bdN | apply bdo) | exact HB.out)))); have n4_ := aS (Kd.C_below (by repeat (first | (with_reducible exact HR381_0.out) | (with_reducible refine Kd.C_alloc ?_ _) | (with_reducible refine Kd.C_drewN ?_ _) | (with_reducible refine Kd.C_drew ?_) | exact HR381_0.out)) hb); have n5_ := aS (below_step (by repeat (first | (with_reducible first | exact HB.out | apply bal | apply bdN | apply bdo) | exact HB.out)) hb); clear HO_3; clear HO_6; clear HL381_0; clear HR381_0; clear HB; have HO_3 := n0_; have HO_6 := n1_; have HL381_0 := n2_; have HO384 := n3_; have HR381_0 := n4_; have HB := n5_; clear n0_ n1_ n2_ n3_ n4_ n5_; (try clear hb); (try clear hb2); (try clear hk); (try clear hi); (try clear ho0))); try go_wp2_with (first | (go_at_call 18; (with_reducible refine (merge_Clean.calls k3 _ _ (rd_L4 t371 x7_3) 3 t382 _ ?side1 ?side2 A28.out).mono ?_); (case side1 => repeat (first | exact (by repeat (first | (with_reducible exact HR381_0.out) | (with_reducible refine Kd.C_alloc ?_ _) | (with_reducible refine Kd.C_drewN ?_ _) | (with_reducible refine Kd.C_drew ?_) | exact HR381_0.out)) | (with_reducible refine Kd.C_alloc ?_ _) | (with_reducible refine Kd.C_drewN ?_ _) | (with_reducible refine Kd.C_drew ?_))); (case side2 => exact HC381_0.out); rintro e w29 ⟨v383, rfl, ho0, hb⟩; have n0_ := aS (Kd.S_elder' (by (with_reducible repeat (first | apply Kd.S_alloc | apply Kd.S_drewN | apply Kd.S_drew)); exact HO_3.out) (by first | exact Kd.R_base ho0 | exact Kd.S_base ho0 | exact Kd.R_base ho0 | exact Kd.V_base ho0) hb); have n1_ := aS (Kd.S_elder' (by (with_reducible repeat (first | apply Kd.S_alloc | apply Kd.S_drewN | apply Kd.S_drew)); exact HO_6.out) (by first | exact Kd.R_base ho0 | exact Kd.S_base ho0 | exact Kd.R_base ho0 | exact Kd.V_base ho0) hb); have n2_ := aS (Kd.R_elder' (by (with_reducible repeat (first | apply Kd.R_alloc | apply Kd.R_drewN | apply Kd.R_drew)); exact HL381_0.out) (by first | exact Kd.R_base ho0 | exact Kd.S_base ho0 | exact Kd.R_base ho0 | exact Kd.V_base ho0) hb); have n3_ := aS (Kd.R_lower (Kd.R_new' ho0 (Kd.R_lt (by (with_reducible repeat (first | apply Kd.R_alloc | apply Kd.R_drewN | apply Kd.R_drew)); exact HL381_0.out))) (below_size (by repeat (first | (with_reducible first | exact HB.out | apply bal | apply bdN | apply bdo) | exact HB.out)))); have n4_ := aS (Kd.C_below (by repeat (first | (with_reducible exact HR381_0.out) | (with_reducible refine Kd.C_alloc ?_ _) | (with_reducible refine Kd.C_drewN ?_ _) | (with_reducible refine Kd.C_drew ?_) | exact HR381_0.out)) hb); have n5_ := aS (below_step (by repeat (first | (with_reducible first | exact HB.out | apply bal | apply bdN | apply bdo) | exact HB.out)) hb); clear HO_3; clear HO_6; clear HL381_0; clear HR381_0; clear HB; have HO_3 := n0_; have HO_6 := n1_; have HL381_0 := n2_; have HO384 := n3_; have HR381_0 := n4_; have HB := n5_; clear n0_ n1_ n2_ n3_ n4_ n5_; (try clear hb); (try clear hb2); (try clear hk); (try clear hi); (try clear ho0))))
           go_loopg [9] k3 (fun kq v9 w' => ∃ (x8_4 : List (S35)) (x9_4 : Int), v9 = .int .i64 x9_4 ∧ Aside0 (shardloglaw13_MergeKeeps.l2 kq t371 t378 x7_3 x8_4 x9_4 = some r) ∧ Aside0 (kq ≤ k3) ∧ Aside0 (Kd.S (Kd.slice 35 k35) 27 w' w.heap.size (fun k_ => some k_ ≠ (v379 : Value).ownBlock ∧ some k_ ≠ (v383 : Value).ownBlock) (.slice (some ad381) t371.length co15) t371) ∧ Aside0 (Kd.S (Kd.slice 35 k35) 27 w' w.heap.size (fun k_ => some k_ ≠ ((.slice (some ad381) t371.length co15) : Value).ownBlock ∧ some k_ ≠ (v383 : Value).ownBlock) v379 t378) ∧ Aside0 (Kd.R k35 35 w' w.heap.size (fun _ => True) v383 x8_4) ∧ Aside0 (Below w.heap.size w w'))
           case atStart => exact ⟨(t382), (0), (by first | rfl | (simp; done) | (simp [*]; done) | (simp; exact (by decide : ∀ a_ b_ : Bool, (a_ == b_) = (!a_ != b_)) _ _)), H', ⟨Nat.le_refl _⟩, ⟨by (with_reducible repeat (first | apply Kd.S_alloc | apply Kd.S_drewN | apply Kd.S_drew)); exact HO_3.out⟩, ⟨by (with_reducible repeat (first | apply Kd.S_alloc | apply Kd.S_drewN | apply Kd.S_drew)); exact HO_6.out⟩, ⟨by (with_reducible repeat (first | apply Kd.R_alloc | apply Kd.R_drewN | apply Kd.R_drew)); exact Kd.R_mono HO384.out (fun _ hk => trivial)⟩, ⟨by repeat (first | (with_reducible first | exact HB.out | apply bal | apply bdN | apply bdo) | exact HB.out)⟩⟩
           case round =>
            clear H'; (try clear c1); (try clear p1); (try clear q1); (try clear hx1); (try clear hf1); (try clear c2); (try clear p2); (try clear hx2); (try clear hf2); (try clear c3); (try clear p3); (try clear q3); (try clear hx3); (try clear c4); (try clear p6); (try clear c8); (try clear c9); (try clear c17); (try clear c17b0); (try clear c18); (try clear c18b0); (try clear c19); (try clear p19); (try clear q19); (try clear hx19); (try clear hf19); (try clear c21); (try clear hx21); (try clear hf21); (try clear c26); (try clear c26b0); (try clear c27); (try clear c27b0); (try clear hx19_0); (try clear hx19_1); (try clear hx19_2); (try clear hx19_3); (try clear hx19_4); (try clear hx21_0); (try clear hx21_1); (try clear hx21_2); (try clear hx21_3); (try clear hx21_4); (try clear hx381_0); (try clear p1); (try clear p19); (try clear p2); (try clear p381); (try clear p6); (try clear q1); (try clear q19); (try clear q381)
            obtain ⟨x8_4, x9_4, rfl, HA, HK4, HO_3, HO_6, HO_8, HB⟩ := hrel
            cases gk with
            | zero => exact absurd HA.out (by simp [shardloglaw13_MergeKeeps.l2])
            | succ k4 =>
             have H := HA.out; clear HA
             simp only [shardloglaw13_MergeKeeps.l2] at H
             by_cases c30 : x9_4 < (x8_4.length : Int)
             ·
              rw [if_pos c30] at H
              have c30b0 : decide (x9_4 < (x8_4.length : Int)) = true := decide_eq_true c30
              clear c30
              by_cases c31 : 0 ≤ x9_4
              ·
               rw [if_pos c31] at H
               have c31b0 : decide (0 ≤ x9_4) = true := decide_eq_true c31
               clear c31
               obtain ⟨y385, hy385⟩ : ∃ y_ : List (S35), y_ = (x8_4.set (x9_4 : Int).toNat (⟨(⟨#[]⟩ : ByteArray), (⟨#[]⟩ : ByteArray), 0, (⟨#[]⟩ : ByteArray), false⟩ : S35)) := ⟨_, rfl⟩
               replace H : (shardloglaw13_MergeKeeps.l2 k4 t371 t378 x7_3 y385 (wrap64 (x9_4 + 1))) = some r := by first | (rw [hy385]; with_reducible exact H) | (have H2_ := (Option.bind_some _ _).symm.trans H; rw [hy385]; with_reducible exact H2_) | (have H2_ := (Option.bind_some _ _).symm.trans H; with_reducible exact H2_) | with_reducible exact H | (rw [hy385]; exact H) | exact H
               have Ny385 := aS hy385
               clear hy385
               have H' := aS H
               clear H
               obtain ⟨Ao33, co33, eo33⟩ := Kd.R_slice HO_8.out
               subst eo33
               have p32 : 0 ≤ (x9_4 : Int) := odt (by first | (with_reducible assumption) | assumption)
               have q32 : (x9_4 : Int) < ((x8_4.length : Int) : Int) := odt (by first | (with_reducible assumption) | assumption)
               obtain ⟨go32, co32, eo32, gb32, gl32, cl32, HG32⟩ := Kd.R_form HO_8.out (by omega)
               (first | cases eo32 | (injection eo32 with ea_ en_ ec_; (first | subst ea_ | (injection ea_ with ea_; subst ea_)); subst ec_; clear en_))
               have GB32 := aS gb32
               have GG32 := aS HG32
               clear gb32 gl32 HG32
               obtain ⟨ce32, hcl32, hM32, hcc32, hfr32⟩ := Kd.R_elem HO_8.out z35 (x9_4 : Int) p32 q32
               obtain rfl := k35_openM hM32
               have hx32_0 : wr.cell? ⟨go32, (x9_4 : Int).toNat * 5, none⟩ = some (.string ((rd_T35 x8_4 x9_4).f0)) := hcc32 0 _ rfl
               have hx32_1 : wr.cell? ⟨go32, (x9_4 : Int).toNat * 5 + 1, none⟩ = some (.string ((rd_T35 x8_4 x9_4).f1)) := hcc32 1 _ rfl
               have hx32_2 : wr.cell? ⟨go32, (x9_4 : Int).toNat * 5 + 2, none⟩ = some (.int .i64 ((rd_T35 x8_4 x9_4).f2)) := hcc32 2 _ rfl
               have hx32_3 : wr.cell? ⟨go32, (x9_4 : Int).toNat * 5 + 3, none⟩ = some (.string ((rd_T35 x8_4 x9_4).f3)) := hcc32 3 _ rfl
               have hx32_4 : wr.cell? ⟨go32, (x9_4 : Int).toNat * 5 + 4, none⟩ = some (.bool ((rd_T35 x8_4 x9_4).f4)) := hcc32 4 _ rfl
               have hf32_0 : wr.frozen? ⟨go32, (x9_4 : Int).toNat * 5, none⟩ = false := hfr32 0
               have hf32_1 : wr.frozen? ⟨go32, (x9_4 : Int).toNat * 5 + 1, none⟩ = false := hfr32 1
               have hf32_2 : wr.frozen? ⟨go32, (x9_4 : Int).toNat * 5 + 2, none⟩ = false := hfr32 2
               have hf32_3 : wr.frozen? ⟨go32, (x9_4 : Int).toNat * 5 + 3, none⟩ = false := hfr32 3
               have hf32_4 : wr.frozen? ⟨go32, (x9_4 : Int).toNat * 5 + 4, none⟩ = false := hfr32 4
               clear hcl32 hcc32 hfr32 hM32
               replace p32 := eq_true p32
               replace q32 := eq_true q32
               have HX34 := aS (show Kd.R k35 35 wr w.heap.size (fun _ => True) (.slice (some ⟨go32, 0, none⟩) x8_4.length co33) x8_4 from (by (with_reducible repeat (first | apply Kd.R_alloc | apply Kd.R_drewN | apply Kd.R_drew)); exact HO_8.out))
               obtain ⟨ce34, hcl34, hM34, hcc34, hfr34⟩ := Kd.R_elem HX34.out z35 (x9_4 : Int) (odt (by first | (with_reducible assumption) | assumption)) (by have h_ : (x9_4 : Int) < ((x8_4.length : Int) : Int) := odt (by first | (with_reducible assumption) | assumption); first | exact h_ | (have e_ := (Kd.R_reads' HO_8.out).1; omega) | simpa using h_)
               obtain rfl := k35_openM hM34
               have HP34 := Kd.R_seg HX34.out (x9_4 : Int) (odt (by first | (with_reducible assumption) | assumption)) (by have h_ : (x9_4 : Int) < ((x8_4.length : Int) : Int) := odt (by first | (with_reducible assumption) | assumption); first | exact h_ | (have e_ := (Kd.R_reads' HO_8.out).1; omega) | simpa using h_) (seg := [.string (⟨#[]⟩ : ByteArray), .string (⟨#[]⟩ : ByteArray), .int .i64 0, .string (⟨#[]⟩ : ByteArray), .bool false]) (j := 0) hcl34 hcc34 (show 5 ≤ 5 from by decide) (x' := (⟨(⟨#[]⟩ : ByteArray), (⟨#[]⟩ : ByteArray), 0, (⟨#[]⟩ : ByteArray), false⟩ : S35)) (k35_mkM _ _ _ (⟨(⟨#[]⟩ : ByteArray), (⟨#[]⟩ : ByteArray), 0, (⟨#[]⟩ : ByteArray), false⟩ : S35) ) (fun _ hk => hk)
               have hx34_0 := hcc34 0 _ rfl
               (try simp only [show (k35).sz = 5 from rfl, Nat.mul_one, Nat.add_zero] at hx34_0)
               have hf34_0 := hfr34 0
               (try simp only [show (k35).sz = 5 from rfl, Nat.mul_one, Nat.add_zero] at hf34_0)
               have hx34_1 := hcc34 1 _ rfl
               (try simp only [show (k35).sz = 5 from rfl, Nat.mul_one, Nat.add_zero] at hx34_1)
               have hf34_1 := hfr34 1
               (try simp only [show (k35).sz = 5 from rfl, Nat.mul_one, Nat.add_zero] at hf34_1)
               have hx34_2 := hcc34 2 _ rfl
               (try simp only [show (k35).sz = 5 from rfl, Nat.mul_one, Nat.add_zero] at hx34_2)
               have hf34_2 := hfr34 2
               (try simp only [show (k35).sz = 5 from rfl, Nat.mul_one, Nat.add_zero] at hf34_2)
               have hx34_3 := hcc34 3 _ rfl
               (try simp only [show (k35).sz = 5 from rfl, Nat.mul_one, Nat.add_zero] at hx34_3)
               have hf34_3 := hfr34 3
               (try simp only [show (k35).sz = 5 from rfl, Nat.mul_one, Nat.add_zero] at hf34_3)
               have hx34_4 := hcc34 4 _ rfl
               (try simp only [show (k35).sz = 5 from rfl, Nat.mul_one, Nat.add_zero] at hx34_4)
               have hf34_4 := hfr34 4
               (try simp only [show (k35).sz = 5 from rfl, Nat.mul_one, Nat.add_zero] at hf34_4)
               clear hcl34 hcc34 hfr34 hM34
               go_wp2_with (first | ((with_reducible refine gate_store (t := 35) (p := 54) rfl ?_); (try (rw [drewN_self wr]; generalize hq_ : World.drewN wr _ = wr; have n0_ := aS (Kd.S_at hq_ HO_3.out); have n1_ := aS (Kd.S_at hq_ HO_6.out); have n2_ := aS (Kd.R_at hq_ HO_8.out); have n3_ := aS (below_at hq_ HB.out); clear hq_ HO_3 HO_6 HO_8 HB; have HO_3 := n0_; have HO_6 := n1_; have HO_8 := n2_; have HB := n3_; clear n0_ n1_ n2_ n3_; (try (have HX34 := aS (show Kd.R k35 35 wr w.heap.size (fun _ => True) (.slice (some ⟨go32, 0, none⟩) x8_4.length co33) x8_4 from (by (with_reducible repeat (first | apply Kd.R_alloc | apply Kd.R_drewN | apply Kd.R_drew)); exact HO_8.out)))); (try (obtain ⟨ce34, hcl34, hM34, hcc34, hfr34⟩ := Kd.R_elem HX34.out z35 (x9_4 : Int) (odt (by first | (with_reducible assumption) | assumption)) (by have h_ : (x9_4 : Int) < ((x8_4.length : Int) : Int) := odt (by first | (with_reducible assumption) | assumption); first | exact h_ | (have e_ := (Kd.R_reads' HO_8.out).1; omega) | simpa using h_))); (try (obtain rfl := k35_openM hM34)); (try (have HP34 := Kd.R_seg HX34.out (x9_4 : Int) (odt (by first | (with_reducible assumption) | assumption)) (by have h_ : (x9_4 : Int) < ((x8_4.length : Int) : Int) := odt (by first | (with_reducible assumption) | assumption); first | exact h_ | (have e_ := (Kd.R_reads' HO_8.out).1; omega) | simpa using h_) (seg := [.string (⟨#[]⟩ : ByteArray), .string (⟨#[]⟩ : ByteArray), .int .i64 0, .string (⟨#[]⟩ : ByteArray), .bool false]) (j := 0) hcl34 hcc34 (show 5 ≤ 5 from by decide) (x' := (⟨(⟨#[]⟩ : ByteArray), (⟨#[]⟩ : ByteArray), 0, (⟨#[]⟩ : ByteArray), false⟩ : S35)) (k35_mkM _ _ _ (⟨(⟨#[]⟩ : ByteArray), (⟨#[]⟩ : ByteArray), 0, (⟨#[]⟩ : ByteArray), false⟩ : S35) ) (fun _ hk => hk))); (try (have hx34_0 := hcc34 0 _ rfl)); (try (try simp only [show (k35).sz = 5 from rfl, Nat.mul_one, Nat.add_zero] at hx34_0)); (try (have hf34_0 := hfr34 0)); (try (try simp only [show (k35).sz = 5 from rfl, Nat.mul_one, Nat.add_zero] at hf34_0)); (try (have hx34_1 := hcc34 1 _ rfl)); (try (try simp only [show (k35).sz = 5 from rfl, Nat.mul_one, Nat.add_zero] at hx34_1)); (try (have hf34_1 := hfr34 1)); (try (try simp only [show (k35).sz = 5 from rfl, Nat.mul_one, Nat.add_zero] at hf34_1)); (try (have hx34_2 := hcc34 2 _ rfl)); (try (try simp only [show (k35).sz = 5 from rfl, Nat.mul_one, Nat.add_zero] at hx34_2)); (try (have hf34_2 := hfr34 2)); (try (try simp only [show (k35).sz = 5 from rfl, Nat.mul_one, Nat.add_zero] at hf34_2)); (try (have hx34_3 := hcc34 3 _ rfl)); (try (try simp only [show (k35).sz = 5 from rfl, Nat.mul_one, Nat.add_zero] at hx34_3)); (try (have hf34_3 := hfr34 3)); (try (try simp only [show (k35).sz = 5 from rfl, Nat.mul_one, Nat.add_zero] at hf34_3)); (try (have hx34_4 := hcc34 4 _ rfl)); (try (try simp only [show (k35).sz = 5 from rfl, Nat.mul_one, Nat.add_zero] at hx34_4)); (try (have hf34_4 := hfr34 4)); (try (try simp only [show (k35).sz = 5 from rfl, Nat.mul_one, Nat.add_zero] at hf34_4)); (try (clear hcl34 hcc34 hfr34 hM34)))); refine store_event (t := 35) (p := 54) (v := ?vo_w35) (w1 := (((((wr.setCell ⟨go32, (x9_4 : Int).toNat * 5, none⟩ (.string (⟨#[]⟩ : ByteArray))).setCell ⟨go32, (x9_4 : Int).toNat * 5 + 1, none⟩ (.string (⟨#[]⟩ : ByteArray))).setCell ⟨go32, (x9_4 : Int).toNat * 5 + 2, none⟩ (.int .i64 0)).setCell ⟨go32, (x9_4 : Int).toNat * 5 + 3, none⟩ (.string (⟨#[]⟩ : ByteArray))).setCell ⟨go32, (x9_4 : Int).toNat * 5 + 4, none⟩ (.bool false))) ?hg ?ho ?hn ?hr ?_; (case ho => rfl); (case hg => rfl); (case hn => rfl); (case hr => first | (go_simp; done) | (go_simp; rfl)); intro w35 hw; have hg : wr.grownBy w35 (some go32) := (by rw [hw]; exact HP34.2); have hp_ : Kd.R k35 35 w35 w.heap.size (fun _ => True) (.slice (some ⟨go32, 0, none⟩) x8_4.length co33) y385 := (by rw [hw, Ny385.out]; exact HP34.1); clear HP34; have n0_ := aS (Kd.S_after (v := (.slice (some ⟨go32, 0, none⟩) x8_4.length co33)) (v1 := (.slice (some ⟨go32, 0, none⟩) x8_4.length co33)) (ok := (fun k_ => some k_ ≠ (v379 : Value).ownBlock)) (by (with_reducible repeat (first | apply Kd.S_alloc | apply Kd.S_drewN | apply Kd.S_drew)); exact HO_3.out) hg (.inl rfl)); have n1_ := aS (Kd.S_after (v := (.slice (some ⟨go32, 0, none⟩) x8_4.length co33)) (v1 := (.slice (some ⟨go32, 0, none⟩) x8_4.length co33)) (ok := (fun k_ => some k_ ≠ (.slice (some ad381) t371.length co15 : Value).ownBlock)) (by (with_reducible repeat (first | apply Kd.S_alloc | apply Kd.S_drewN | apply Kd.S_drew)); exact HO_6.out) hg (.inl rfl)); have n2_ := aS (hp_); have n3_ := aS ((by rw [hw]; exact below_set (below_set (below_set (below_set (below_set (HB.out) GB32.out) GB32.out) GB32.out) GB32.out) GB32.out : Below w.heap.size w w35)); clear HO_3; clear HO_6; clear HO_8; clear HB; have HO_3 := n0_; have HO_6 := n1_; have HO_8 := n2_; have HB := n3_; clear n0_ n1_ n2_ n3_; clear hg hw hp_))
               repeat (go_quiet (first | ((with_reducible refine gate_store (t := 35) (p := 54) rfl ?_); (try (rw [drewN_self wr]; generalize hq_ : World.drewN wr _ = wr; have n0_ := aS (Kd.S_at hq_ HO_3.out); have n1_ := aS (Kd.S_at hq_ HO_6.out); have n2_ := aS (Kd.R_at hq_ HO_8.out); have n3_ := aS (below_at hq_ HB.out); clear hq_ HO_3 HO_6 HO_8 HB; have HO_3 := n0_; have HO_6 := n1_; have HO_8 := n2_; have HB := n3_; clear n0_ n1_ n2_ n3_; (try (have HX34 := aS (show Kd.R k35 35 wr w.heap.size (fun _ => True) (.slice (some ⟨go32, 0, none⟩) x8_4.length co33) x8_4 from (by (with_reducible repeat (first | apply Kd.R_alloc | apply Kd.R_drewN | apply Kd.R_drew)); exact HO_8.out)))); (try (obtain ⟨ce34, hcl34, hM34, hcc34, hfr34⟩ := Kd.R_elem HX34.out z35 (x9_4 : Int) (odt (by first | (with_reducible assumption) | assumption)) (by have h_ : (x9_4 : Int) < ((x8_4.length : Int) : Int) := odt (by first | (with_reducible assumption) | assumption); first | exact h_ | (have e_ := (Kd.R_reads' HO_8.out).1; omega) | simpa using h_))); (try (obtain rfl := k35_openM hM34)); (try (have HP34 := Kd.R_seg HX34.out (x9_4 : Int) (odt (by first | (with_reducible assumption) | assumption)) (by have h_ : (x9_4 : Int) < ((x8_4.length : Int) : Int) := odt (by first | (with_reducible assumption) | assumption); first | exact h_ | (have e_ := (Kd.R_reads' HO_8.out).1; omega) | simpa using h_) (seg := [.string (⟨#[]⟩ : ByteArray), .string (⟨#[]⟩ : ByteArray), .int .i64 0, .string (⟨#[]⟩ : ByteArray), .bool false]) (j := 0) hcl34 hcc34 (show 5 ≤ 5 from by decide) (x' := (⟨(⟨#[]⟩ : ByteArray), (⟨#[]⟩ : ByteArray), 0, (⟨#[]⟩ : ByteArray), false⟩ : S35)) (k35_mkM _ _ _ (⟨(⟨#[]⟩ : ByteArray), (⟨#[]⟩ : ByteArray), 0, (⟨#[]⟩ : ByteArray), false⟩ : S35) ) (fun _ hk => hk))); (try (have hx34_0 := hcc34 0 _ rfl)); (try (try simp only [show (k35).sz = 5 from rfl, Nat.mul_one, Nat.add_zero] at hx34_0)); (try (have hf34_0 := hfr34 0)); (try (try simp only [show (k35).sz = 5 from rfl, Nat.mul_one, Nat.add_zero] at hf34_0)); (try (have hx34_1 := hcc34 1 _ rfl)); (try (try simp only [show (k35).sz = 5 from rfl, Nat.mul_one, Nat.add_zero] at hx34_1)); (try (have hf34_1 := hfr34 1)); (try (try simp only [show (k35).sz = 5 from rfl, Nat.mul_one, Nat.add_zero] at hf34_1)); (try (have hx34_2 := hcc34 2 _ rfl)); (try (try simp only [show (k35).sz = 5 from rfl, Nat.mul_one, Nat.add_zero] at hx34_2)); (try (have hf34_2 := hfr34 2)); (try (try simp only [show (k35).sz = 5 from rfl, Nat.mul_one, Nat.add_zero] at hf34_2)); (try (have hx34_3 := hcc34 3 _ rfl)); (try (try simp only [show (k35).sz = 5 from rfl, Nat.mul_one, Nat.add_zero] at hx34_3)); (try (have hf34_3 := hfr34 3)); (try (try simp only [show (k35).sz = 5 from rfl, Nat.mul_one, Nat.add_zero] at hf34_3)); (try (have hx34_4 := hcc34 4 _ rfl)); (try (try simp only [show (k35).sz = 5 from rfl, Nat.mul_one, Nat.add_zero] at hx34_4)); (try (have hf34_4 := hfr34 4)); (try (try simp only [show (k35).sz = 5 from rfl, Nat.mul_one, Nat.add_zero] at hf34_4)); (try (clear hcl34 hcc34 hfr34 hM34)))); refine store_event (t := 35) (p := 54) (v := ?vo_w35) (w1 := (((((wr.setCell ⟨go32, (x9_4 : Int).toNat * 5, none⟩ (.string (⟨#[]⟩ : ByteArray))).setCell ⟨go32, (x9_4 : Int).toNat * 5 + 1, none⟩ (.string (⟨#[]⟩ : ByteArray))).setCell ⟨go32, (x9_4 : Int).toNat * 5 + 2, none⟩ (.int .i64 0)).setCell ⟨go32, (x9_4 : Int).toNat * 5 + 3, none⟩ (.string (⟨#[]⟩ : ByteArray))).setCell ⟨go32, (x9_4 : Int).toNat * 5 + 4, none⟩ (.bool false))) ?hg ?ho ?hn ?hr ?_; (case ho => rfl); (case hg => rfl); (case hn => rfl); (case hr => first | (go_simp; done) | (go_simp; rfl)); intro w35 hw; have hg : wr.grownBy w35 (some go32) := (by rw [hw]; exact HP34.2); have hp_ : Kd.R k35 35 w35 w.heap.size (fun _ => True) (.slice (some ⟨go32, 0, none⟩) x8_4.length co33) y385 := (by rw [hw, Ny385.out]; exact HP34.1); clear HP34; have n0_ := aS (Kd.S_after (v := (.slice (some ⟨go32, 0, none⟩) x8_4.length co33)) (v1 := (.slice (some ⟨go32, 0, none⟩) x8_4.length co33)) (ok := (fun k_ => some k_ ≠ (v379 : Value).ownBlock)) (by (with_reducible repeat (first | apply Kd.S_alloc | apply Kd.S_drewN | apply Kd.S_drew)); exact HO_3.out) hg (.inl rfl)); have n1_ := aS (Kd.S_after (v := (.slice (some ⟨go32, 0, none⟩) x8_4.length co33)) (v1 := (.slice (some ⟨go32, 0, none⟩) x8_4.length co33)) (ok := (fun k_ => some k_ ≠ (.slice (some ad381) t371.length co15 : Value).ownBlock)) (by (with_reducible repeat (first | apply Kd.S_alloc | apply Kd.S_drewN | apply Kd.S_drew)); exact HO_6.out) hg (.inl rfl)); have n2_ := aS (hp_); have n3_ := aS ((by rw [hw]; exact below_set (below_set (below_set (below_set (below_set (HB.out) GB32.out) GB32.out) GB32.out) GB32.out) GB32.out : Below w.heap.size w w35)); clear HO_3; clear HO_6; clear HO_8; clear HB; have HO_3 := n0_; have HO_6 := n1_; have HO_8 := n2_; have HB := n3_; clear n0_ n1_ n2_ n3_; clear hg hw hp_)); try go_wp2_with (first | ((with_reducible refine gate_store (t := 35) (p := 54) rfl ?_); (try (rw [drewN_self wr]; generalize hq_ : World.drewN wr _ = wr; have n0_ := aS (Kd.S_at hq_ HO_3.out); have n1_ := aS (Kd.S_at hq_ HO_6.out); have n2_ := aS (Kd.R_at hq_ HO_8.out); have n3_ := aS (below_at hq_ HB.out); clear hq_ HO_3 HO_6 HO_8 HB; have HO_3 := n0_; have HO_6 := n1_; have HO_8 := n2_; have HB := n3_; clear n0_ n1_ n2_ n3_; (try (have HX34 := aS (show Kd.R k35 35 wr w.heap.size (fun _ => True) (.slice (some ⟨go32, 0, none⟩) x8_4.length co33) x8_4 from (by (with_reducible repeat (first | apply Kd.R_alloc | apply Kd.R_drewN | apply Kd.R_drew)); exact HO_8.out)))); (try (obtain ⟨ce34, hcl34, hM34, hcc34, hfr34⟩ := Kd.R_elem HX34.out z35 (x9_4 : Int) (odt (by first | (with_reducible assumption) | assumption)) (by have h_ : (x9_4 : Int) < ((x8_4.length : Int) : Int) := odt (by first | (with_reducible assumption) | assumption); first | exact h_ | (have e_ := (Kd.R_reads' HO_8.out).1; omega) | simpa using h_))); (try (obtain rfl := k35_openM hM34)); (try (have HP34 := Kd.R_seg HX34.out (x9_4 : Int) (odt (by first | (with_reducible assumption) | assumption)) (by have h_ : (x9_4 : Int) < ((x8_4.length : Int) : Int) := odt (by first | (with_reducible assumption) | assumption); first | exact h_ | (have e_ := (Kd.R_reads' HO_8.out).1; omega) | simpa using h_) (seg := [.string (⟨#[]⟩ : ByteArray), .string (⟨#[]⟩ : ByteArray), .int .i64 0, .string (⟨#[]⟩ : ByteArray), .bool false]) (j := 0) hcl34 hcc34 (show 5 ≤ 5 from by decide) (x' := (⟨(⟨#[]⟩ : ByteArray), (⟨#[]⟩ : ByteArray), 0, (⟨#[]⟩ : ByteArray), false⟩ : S35)) (k35_mkM _ _ _ (⟨(⟨#[]⟩ : ByteArray), (⟨#[]⟩ : ByteArray), 0, (⟨#[]⟩ : ByteArray), false⟩ : S35) ) (fun _ hk => hk))); (try (have hx34_0 := hcc34 0 _ rfl)); (try (try simp only [show (k35).sz = 5 from rfl, Nat.mul_one, Nat.add_zero] at hx34_0)); (try (have hf34_0 := hfr34 0)); (try (try simp only [show (k35).sz = 5 from rfl, Nat.mul_one, Nat.add_zero] at hf34_0)); (try (have hx34_1 := hcc34 1 _ rfl)); (try (try simp only [show (k35).sz = 5 from rfl, Nat.mul_one, Nat.add_zero] at hx34_1)); (try (have hf34_1 := hfr34 1)); (try (try simp only [show (k35).sz = 5 from rfl, Nat.mul_one, Nat.add_zero] at hf34_1)); (try (have hx34_2 := hcc34 2 _ rfl)); (try (try simp only [show (k35).sz = 5 from rfl, Nat.mul_one, Nat.add_zero] at hx34_2)); (try (have hf34_2 := hfr34 2)); (try (try simp only [show (k35).sz = 5 from rfl, Nat.mul_one, Nat.add_zero] at hf34_2)); (try (have hx34_3 := hcc34 3 _ rfl)); (try (try simp only [show (k35).sz = 5 from rfl, Nat.mul_one, Nat.add_zero] at hx34_3)); (try (have hf34_3 := hfr34 3)); (try (try simp only [show (k35).sz = 5 from rfl, Nat.mul_one, Nat.add_zero] at hf34_3)); (try (have hx34_4 := hcc34 4 _ rfl)); (try (try simp only [show (k35).sz = 5 from rfl, Nat.mul_one, Nat.add_zero] at hx34_4)); (try (have hf34_4 := hfr34 4)); (try (try simp only [show (k35).sz = 5 from rfl, Nat.mul_one, Nat.add_zero] at hf34_4)); (try (clear hcl34 hcc34 hfr34 hM34)))); refine store_event (t := 35) (p := 54) (v := ?vo_w35) (w1 := (((((wr.setCell ⟨go32, (x9_4 : Int).toNat * 5, none⟩ (.string (⟨#[]⟩ : ByteArray))).setCell ⟨go32, (x9_4 : Int).toNat * 5 + 1, none⟩ (.string (⟨#[]⟩ : ByteArray))).setCell ⟨go32, (x9_4 : Int).toNat * 5 + 2, none⟩ (.int .i64 0)).setCell ⟨go32, (x9_4 : Int).toNat * 5 + 3, none⟩ (.string (⟨#[]⟩ : ByteArray))).setCell ⟨go32, (x9_4 : Int).toNat * 5 + 4, none⟩ (.bool false))) ?hg ?ho ?hn ?hr ?_; (case ho => rfl); (case hg => rfl); (case hn => rfl); (case hr => first | (go_simp; done) | (go_simp; rfl)); intro w35 hw; have hg : wr.grownBy w35 (some go32) := (by rw [hw]; exact HP34.2); have hp_ : Kd.R k35 35 w35 w.heap.size (fun _ => True) (.slice (some ⟨go32, 0, none⟩) x8_4.length co33) y385 := (by rw [hw, Ny385.out]; exact HP34.1); clear HP34; have n0_ := aS (Kd.S_after (v := (.slice (some ⟨go32, 0, none⟩) x8_4.length co33)) (v1 := (.slice (some ⟨go32, 0, none⟩) x8_4.length co33)) (ok := (fun k_ => some k_ ≠ (v379 : Value).ownBlock)) (by (with_reducible repeat (first | apply Kd.S_alloc | apply Kd.S_drewN | apply Kd.S_drew)); exact HO_3.out) hg (.inl rfl)); have n1_ := aS (Kd.S_after (v := (.slice (some ⟨go32, 0, none⟩) x8_4.length co33)) (v1 := (.slice (some ⟨go32, 0, none⟩) x8_4.length co33)) (ok := (fun k_ => some k_ ≠ (.slice (some ad381) t371.length co15 : Value).ownBlock)) (by (with_reducible repeat (first | apply Kd.S_alloc | apply Kd.S_drewN | apply Kd.S_drew)); exact HO_6.out) hg (.inl rfl)); have n2_ := aS (hp_); have n3_ := aS ((by rw [hw]; exact below_set (below_set (below_set (below_set (below_set (HB.out) GB32.out) GB32.out) GB32.out) GB32.out) GB32.out : Below w.heap.size w w35)); clear HO_3; clear HO_6; clear HO_8; clear HB; have HO_3 := n0_; have HO_6 := n1_; have HO_8 := n2_; have HB := n3_; clear n0_ n1_ n2_ n3_; clear hg hw hp_)))
               go_roundg k4
               case measure => have := HJ1.out; have := HK2.out; have := HK3.out; have := HK4.out; omega
               case rel => exact ⟨(y385), (wrap64 (x9_4 + 1)), (by first | rfl | (simp; done) | (simp [*]; done) | (simp; exact (by decide : ∀ a_ b_ : Bool, (a_ == b_) = (!a_ != b_)) _ _)), H', ⟨by have := HJ1.out; have := HK2.out; have := HK3.out; have := HK4.out; omega⟩, ⟨by (with_reducible repeat (first | apply Kd.S_alloc | apply Kd.S_drewN | apply Kd.S_drew)); exact HO_3.out⟩, ⟨by (with_reducible repeat (first | apply Kd.S_alloc | apply Kd.S_drewN | apply Kd.S_drew)); exact HO_6.out⟩, ⟨by (with_reducible repeat (first | apply Kd.R_alloc | apply Kd.R_drewN | apply Kd.R_drew)); exact HO_8.out⟩, ⟨by repeat (first | (with_reducible first | exact HB.out | apply bal | apply bdN | apply bdo) | exact HB.out)⟩⟩
              ·
               rw [if_neg c31] at H
               exact absurd H (by simp)
             ·
              rw [if_neg c30] at H
              have c30b0 : decide (x9_4 < (x8_4.length : Int)) = false := decide_eq_false c30
              clear c30
              by_cases c36 : 0 ≤ x7_3
              ·
               rw [if_pos c36] at H
               have c36b0 : decide (0 ≤ x7_3) = true := decide_eq_true c36
               clear c36
               by_cases c37 : x7_3 < (t371.length : Int)
               ·
                rw [if_pos c37] at H
                have c37b0 : decide (x7_3 < (t371.length : Int)) = true := decide_eq_true c37
                clear c37
                by_cases c38 : x7_3 < (t378.length : Int)
                ·
                 rw [if_pos c38] at H
                 have c38b0 : decide (x7_3 < (t378.length : Int)) = true := decide_eq_true c38
                 clear c38
                 replace H := obm H
                 obtain ⟨t388, A390, H⟩ := H
                 replace H : (if t388 = true then (shardloglaw13_MergeKeeps.l1 k4 t371 t378 (wrap64 (x7_3 + 1))) else (none)) = some r := H
                 have A39 := aS A390
                 clear A390
                 by_cases c40 : t388 = true
                 ·
                  subst c40
                  have H1 : (shardloglaw13_MergeKeeps.l1 k4 t371 t378 (wrap64 (x7_3 + 1))) = some r := by rw [if_pos rfl] at H; exact H
                  clear H; have H := H1; clear H1
                  have H' := aS H
                  clear H
                  obtain ⟨Ao41, co41, eo41⟩ := Kd.R_slice HO_8.out
                  subst eo41
                  have p386 : 0 ≤ (x7_3 : Int) := odt (by first | (with_reducible assumption) | assumption)
                  have q386 : x7_3 < (t371.length : Int) := odt (by first | (with_reducible assumption) | assumption)
                  obtain ⟨ad386, A386_0, c386_0, e386, hx386_0, hl386_0, hi386_0⟩ := at_L4 (Kd.S_reads' HO_3.out).2.2 x7_3 p386 q386
                  obtain rfl : ad381 = ad386 := (by injection e386)
                  obtain ⟨ce386, hce386, hMe386, hcc386⟩ := Kd.S_get HO_3.out [] x7_3 p386 (by first | exact q386 | exact odt (by first | (with_reducible assumption) | assumption) | (have e_ := (Kd.S_reads' HO_3.out).1; omega))
                  obtain ⟨ve386_0, rfl, ge386_0⟩ := hMe386
                  have hv386_0 := hcc386 0 _ rfl
                  rw [Nat.add_zero, show ((Kd.slice 35 k35)).sz = 1 from rfl, Nat.mul_one] at hv386_0
                  replace hv386_0 := Option.some.inj (hv386_0.symm.trans hx386_0)
                  rw [hv386_0] at ge386_0
                  have HL386_0 := aS (show Kd.R k35 35 _ _ _ _ (rd_L4 t371 x7_3) from ge386_0)
                  clear hv386_0 ge386_0; clear hcc386 hce386
                  have HR386_0 := aS hi386_0
                  have HC386_0 := aS hl386_0
                  clear hi386_0 hl386_0
                  replace p386 := eq_true p386
                  replace q386 := eq_true q386
                  obtain ⟨Ao42, co42, eo42⟩ := Kd.S_slice HO_6.out
                  subst eo42
                  have p387 : 0 ≤ (x7_3 : Int) := odt (by first | (with_reducible assumption) | assumption)
                  have q387 : x7_3 < (t378.length : Int) := odt (by first | (with_reducible assumption) | assumption)
                  obtain ⟨ad387, A387_0, c387_0, e387, hx387_0, hl387_0, hi387_0⟩ := at_L4 (Kd.S_reads' HO_6.out).2.2 x7_3 p387 q387
                  cases e387
                  obtain ⟨ce387, hce387, hMe387, hcc387⟩ := Kd.S_get HO_6.out [] x7_3 p387 (by first | exact q387 | exact odt (by first | (with_reducible assumption) | assumption) | (have e_ := (Kd.S_reads' HO_6.out).1; omega))
                  obtain ⟨ve387_0, rfl, ge387_0⟩ := hMe387
                  have hv387_0 := hcc387 0 _ rfl
                  rw [Nat.add_zero, show ((Kd.slice 35 k35)).sz = 1 from rfl, Nat.mul_one] at hv387_0
                  replace hv387_0 := Option.some.inj (hv387_0.symm.trans hx387_0)
                  rw [hv387_0] at ge387_0
                  have HL387_0 := aS (show Kd.R k35 35 _ _ _ _ (rd_L4 t378 x7_3) from ge387_0)
                  clear hv387_0 ge387_0; clear hcc387 hce387
                  have HR387_0 := aS hi387_0
                  have HC387_0 := aS hl387_0
                  clear hi387_0 hl387_0
                  replace p387 := eq_true p387
                  replace q387 := eq_true q387
                  go_wp2_with (first | (go_at_call 13; (with_reducible refine (shardlogref08_Same.calls k4 _ _ (rd_L4 t371 x7_3) _ _ (rd_L4 t378 x7_3) true _ ?side1 ?side2 ?side3 ?side4 A39.out).mono ?_); (case side1 => repeat (first | exact (by repeat (first | (with_reducible exact HR386_0.out) | (with_reducible refine Kd.C_alloc ?_ _) | (with_reducible refine Kd.C_drewN ?_ _) | (with_reducible refine Kd.C_drew ?_) | exact HR386_0.out)) | (with_reducible refine Kd.C_alloc ?_ _) | (with_reducible refine Kd.C_drewN ?_ _) | (with_reducible refine Kd.C_drew ?_))); (case side2 => exact HC386_0.out); (case side3 => repeat (first | exact (by repeat (first | (with_reducible exact HR387_0.out) | (with_reducible refine Kd.C_alloc ?_ _) | (with_reducible refine Kd.C_drewN ?_ _) | (with_reducible refine Kd.C_drew ?_) | exact HR387_0.out)) | (with_reducible refine Kd.C_alloc ?_ _) | (with_reducible refine Kd.C_drewN ?_ _) | (with_reducible refine Kd.C_drew ?_))); (case side4 => exact HC387_0.out); rintro e w' ⟨rfl, ⟨nd, rfl⟩⟩; (try first | exact ⟨rfl, _, World.drewN_drewN _ _ _⟩ | exact ⟨rfl, _, Eq.trans (World.drewN_drewN _ _ _) (congrArg (World.drewN _) (Nat.add_assoc _ _ _))⟩)))
                  repeat (go_quiet (first | (go_at_call 13; (with_reducible refine (shardlogref08_Same.calls k4 _ _ (rd_L4 t371 x7_3) _ _ (rd_L4 t378 x7_3) true _ ?side1 ?side2 ?side3 ?side4 A39.out).mono ?_); (case side1 => repeat (first | exact (by repeat (first | (with_reducible exact HR386_0.out) | (with_reducible refine Kd.C_alloc ?_ _) | (with_reducible refine Kd.C_drewN ?_ _) | (with_reducible refine Kd.C_drew ?_) | exact HR386_0.out)) | (with_reducible refine Kd.C_alloc ?_ _) | (with_reducible refine Kd.C_drewN ?_ _) | (with_reducible refine Kd.C_drew ?_))); (case side2 => exact HC386_0.out); (case side3 => repeat (first | exact (by repeat (first | (with_reducible exact HR387_0.out) | (with_reducible refine Kd.C_alloc ?_ _) | (with_reducible refine Kd.C_drewN ?_ _) | (with_reducible refine Kd.C_drew ?_) | exact HR387_0.out)) | (with_reducible refine Kd.C_alloc ?_ _) | (with_reducible refine Kd.C_drewN ?_ _) | (with_reducible refine Kd.C_drew ?_))); (case side4 => exact HC387_0.out); rintro e w' ⟨rfl, ⟨nd, rfl⟩⟩; (try first | exact ⟨rfl, _, World.drewN_drewN _ _ _⟩ | exact ⟨rfl, _, Eq.trans (World.drewN_drewN _ _ _) (congrArg (World.drewN _) (Nat.add_assoc _ _ _))⟩))); try go_wp2_with (first | (go_at_call 13; (with_reducible refine (shardlogref08_Same.calls k4 _ _ (rd_L4 t371 x7_3) _ _ (rd_L4 t378 x7_3) true _ ?side1 ?side2 ?side3 ?side4 A39.out).mono ?_); (case side1 => repeat (first | exact (by repeat (first | (with_reducible exact HR386_0.out) | (with_reducible refine Kd.C_alloc ?_ _) | (with_reducible refine Kd.C_drewN ?_ _) | (with_reducible refine Kd.C_drew ?_) | exact HR386_0.out)) | (with_reducible refine Kd.C_alloc ?_ _) | (with_reducible refine Kd.C_drewN ?_ _) | (with_reducible refine Kd.C_drew ?_))); (case side2 => exact HC386_0.out); (case side3 => repeat (first | exact (by repeat (first | (with_reducible exact HR387_0.out) | (with_reducible refine Kd.C_alloc ?_ _) | (with_reducible refine Kd.C_drewN ?_ _) | (with_reducible refine Kd.C_drew ?_) | exact HR387_0.out)) | (with_reducible refine Kd.C_alloc ?_ _) | (with_reducible refine Kd.C_drewN ?_ _) | (with_reducible refine Kd.C_drew ?_))); (case side4 => exact HC387_0.out); rintro e w' ⟨rfl, ⟨nd, rfl⟩⟩; (try first | exact ⟨rfl, _, World.drewN_drewN _ _ _⟩ | exact ⟨rfl, _, Eq.trans (World.drewN_drewN _ _ _) (congrArg (World.drewN _) (Nat.add_assoc _ _ _))⟩))))
                  go_roundg k4
                  case measure => have := HJ1.out; have := HK2.out; have := HK3.out; have := HK4.out; omega
                  case rel => exact ⟨(wrap64 (x7_3 + 1)), (by first | rfl | (simp; done) | (simp [*]; done) | (simp; exact (by decide : ∀ a_ b_ : Bool, (a_ == b_) = (!a_ != b_)) _ _)), H', ⟨by have := HJ1.out; have := HK2.out; have := HK3.out; have := HK4.out; omega⟩, ⟨by (with_reducible repeat (first | apply Kd.S_alloc | apply Kd.S_drewN | apply Kd.S_drew)); exact Kd.S_mono HO_3.out (fun _ hk => hk.1)⟩, ⟨by (with_reducible repeat (first | apply Kd.S_alloc | apply Kd.S_drewN | apply Kd.S_drew)); exact Kd.S_mono HO_6.out (fun _ hk => hk.1)⟩, ⟨by repeat (first | (with_reducible first | exact HB.out | apply bal | apply bdN | apply bdo) | exact HB.out)⟩⟩
                 ·
                  replace c40 := Bool.eq_false_iff.mpr c40
                  subst c40
                  have H1 : (none) = some r := by rw [if_neg (show ¬ (false = true) by decide)] at H; exact H
                  clear H; have H := H1; clear H1
                  exact absurd H (by simp)
                ·
                 rw [if_neg c38] at H
                 exact absurd H (by simp)
               ·
                rw [if_neg c37] at H
                exact absurd H (by simp)
              ·
               rw [if_neg c36] at H
               exact absurd H (by simp)
          ·
           rw [if_neg c27] at H
           exact absurd H (by simp)
         ·
          rw [if_neg c26] at H
          have c26b0 : decide (x7_3 < (t371.length : Int)) = false := decide_eq_false c26
          clear c26
          obtain rfl := Option.some.inj H
          go_wp2
          repeat (go_quiet (fail); try go_wp2)
          go_ret
          exact ⟨by first | rfl | (simp [errW_none, errW_some] <;> rfl) | (simp [*, errW_none, errW_some] <;> rfl), by repeat (first | (with_reducible first | exact HB.out | apply bal | apply bdN | apply bdo) | exact HB.out)⟩

/-- THE ONE PURE STATEMENT of shardloglaw13_MergeKeeps. -/
def shardloglaw13_MergeKeeps.Pure : Prop := ∀ (l0 : List (List (S35))), (l0.length ≤ maxLen ∧ l0.length * 24 ≤ 140737488351232 ∧ ∀ y0_ ∈ l0, (y0_.length ≤ maxLen ∧ y0_.length * 64 ≤ 140737488351232 ∧ ∀ y1_ ∈ y0_, (y1_.f0.size ≤ 140737488351232 ∧ y1_.f1.size ≤ 140737488351232 ∧ (Lit.int .i64 y1_.f2).wf = true ∧ y1_.f3.size ≤ 140737488351232 ∧ True))) → ∃ k, shardloglaw13_MergeKeeps.f k l0 = some true
theorem shardloglaw13_MergeKeeps.walk (P : shardloglaw13_MergeKeeps.Pure) (A0 : Option Addr) (c0 : Nat) (l0 : List (List (S35))) (w : World) (wf0 : (l0.length ≤ maxLen ∧ l0.length * 24 ≤ 140737488351232 ∧ ∀ y0_ ∈ l0, (y0_.length ≤ maxLen ∧ y0_.length * 64 ≤ 140737488351232 ∧ ∀ y1_ ∈ y0_, (y1_.f0.size ≤ 140737488351232 ∧ y1_.f1.size ≤ 140737488351232 ∧ (Lit.int .i64 y1_.f2).wf = true ∧ y1_.f3.size ≤ 140737488351232 ∧ True)))) (hr0 : Kd.C (Kd.slice 35 k35) w A0 l0.length l0) (hc0 : l0.length ≤ c0) :
  Calls Try.prog 8 #[.slice A0 l0.length c0] w fun e w' => e = .returned (.bool true) ∧ Below w.heap.size w w' := by
 obtain ⟨k, h⟩ := P l0 wf0
 refine (shardloglaw13_MergeKeeps.calls k A0 c0 l0 true w hr0 hc0 h).mono ?_
 rintro e w' ⟨rfl, hd⟩
 exact ⟨rfl, hd⟩

end Go.Proofs.Ythphffimgmbhgaa.X
