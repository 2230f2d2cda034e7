/- The pure statement of the law MergeSees. -/
import Derived.Test.YthphffimgmbhgaaBMergeClean
import Derived.Test.YthphffimgmbhgaaBRefSameC
import Derived.Test.YthphffimgmbhgaaBRefCellsOrd
import Derived.KernelRfl
import Derived.Test.YthphffimgmbhgaaXx9
namespace Go.Proofs.Ythphffimgmbhgaa.Pure
open Go.RowKit Go.Proofs.Ythphffimgmbhgaa.X Go.Proofs.Ythphffimgmbhgaa.Pl Go.Proofs.YthphffimgmbhgaaW.PrintWords Go.Proofs.YthphffimgmbhgaaW.PrintLast
theorem awake : Ev (fun k => shardloglaw13_awake.f k) true := Ev.of (fun k => shardloglaw13_awake.mono k) (k := 60) (by kernel_rfl)
theorem sees_true (l : List Cell) (u m : Int) : Ev (fun k => shardloglaw13_MergeSees.j0 k l u m true) true :=
 Ev.step (f := fun k => (shardloglaw13_awake.f k).bind fun t => some t) (fun k => by simp only [shardloglaw13_MergeSees.j0, if_true]) (Ev.bind awake (Ev.now _))
theorem sees_l0 {s : List Cell} (u m : Int) (hs : SrtC s) (hn : s.length ≤ 80) (hu0 : 0 ≤ u) (hu : u ≤ 1000000) (b : Nat) (hb : wrap64 (Int.tmod m 20) = (b : Int)) (hb2 : b ≤ 20) (d : Nat) : ∀ i : Nat, i ≤ b + 1 → b + 1 - i = d → Ev (fun k => shardloglaw13_MergeSees.l0 k u m s (cleanC s u) (i : Int)) true := by
 have hc := (cleanC_sub s u).length_le
 have hsc := srt_sub hs (cleanC_sub s u)
 induction d with
 | zero =>
  intro i hi hd
  refine Ev.step (fun k => by simp only [shardloglaw13_MergeSees.l0]; rw [hb, if_neg (by omega)]) ?_
  have hv := (visC_sub s 4294967295).length_le
  refine Ev.bind (merge_Visible_ev _ (by omega) hs.2) (Ev.bind (merge_Visible_ev _ (by omega) hsc.2) (Ev.bind (sameC_ev (vis_clean s (by omega)).symm (by omega)) (Ev.pos rfl ?_)))
  refine Ev.bind (merge_Clean_ev u (by omega) hsc.2) (Ev.bind (sameC_ev (cleanC_twice s u) (by rw [cleanC_twice]; omega)) (Ev.pos rfl (Ev.pos (by omega) (Ev.bind (ref_Sorted_ev (fun x hx => sized_of_right (hsc.1 x hx)) (by omega)) ?_))))
  exact (Ev.now _).to (sortedC_iff.2 hsc)
 | succ d ih =>
  intro i hi hd
  have hw : wrap64 (u + (i : Int)) = u + (i : Int) := by rw [w64 (by omega) (by omega)]
  have hw2 : wrap64 ((i : Int) + 1) = ((i + 1 : Nat) : Int) := by rw [w64 (by omega) (by omega)]; rfl
  refine Ev.step (fun k => by simp only [shardloglaw13_MergeSees.l0]; rw [hb, if_pos (by omega), hw, hw2]) ?_
  have hv := (visC_sub s (u + (i : Int))).length_le
  exact Ev.bind (merge_Visible_ev _ (by omega) hs.2) (Ev.bind (merge_Visible_ev _ (by omega) hsc.2) (Ev.bind (sameC_ev (vis_clean s (by omega)).symm (by omega)) (Ev.pos rfl (ih (i + 1) (by omega) (by omega)))))
theorem MergeSees : shardloglaw13_MergeSees.Pure := by
 intro l u m h1 h2 h3
 refine Ev.rounds ?_
 unfold shardloglaw13_MergeSees.f
 refine Ev.bind awake (Ev.pos rfl (Ev.bind ref_Few_ev ?_))
 by_cases h : fewC l = true
 ·
  refine Ev.pos h ?_
  by_cases hu0 : u < 0
  ·
   exact Ev.pos hu0 (sees_true _ _ _)
  ·
   refine Ev.neg hu0 ?_
   by_cases hu : u > 1000000
   ·
    rw [decide_eq_true hu]
    exact sees_true _ _ _
   ·
    rw [decide_eq_false hu]
    obtain ⟨hn, hr⟩ := fewC_iff.1 h
    have hs := sortC_srt hr
    have hl := sortC_length l
    have hm : 0 ≤ m ∧ m < 256 := by
     have e1 : IntKind.u8.min = 0 := rfl
     have e2 : IntKind.u8.max = 255 := rfl
     simp [Lit.wf] at h3
     omega
    have hb : wrap64 (Int.tmod m 20) = ((m.toNat % 20 : Nat) : Int) := by
     have e : Int.tmod m 20 = ((m.toNat % 20 : Nat) : Int) := by
      rw [Int.tmod_eq_emod_of_nonneg hm.1]
      omega
     rw [e, w64 (by omega) (by omega)]
    refine Ev.step (fun k => by simp only [shardloglaw13_MergeSees.j0, Bool.false_eq_true, if_false]; rfl) (Ev.bind (ref_Sort_ev (fun x hx => sized_of_right (hr x hx)) (by omega)) (Ev.bind (merge_Clean_ev u (by omega) hs.2) ?_))
    exact sees_l0 u m hs (by omega) (by omega) (by omega) _ hb (by omega) (m.toNat % 20 + 1) 0 (by omega) (by omega)
 ·
  exact Ev.neg h (sees_true _ _ _)
end Go.Proofs.Ythphffimgmbhgaa.Pure
