/- The pure statement of the law MergeCleans. -/
import Derived.Test.YthphffimgmbhgaaBMergeClean
import Derived.Test.YthphffimgmbhgaaBRefMergeClean
import Derived.Test.YthphffimgmbhgaaBRefSameC
import Derived.KernelRfl
import Derived.Test.YthphffimgmbhgaaXx8
namespace Go.Proofs.Ythphffimgmbhgaa.Pure
open Go.RowKit Go.Proofs.Ythphffimgmbhgaa.X Go.Proofs.Ythphffimgmbhgaa.Pl Go.Proofs.YthphffimgmbhgaaW.PrintWords Go.Proofs.YthphffimgmbhgaaW.PrintLast
theorem awake : Ev (fun k => shardloglaw13_awake.f k) true := Ev.of (fun k => shardloglaw13_awake.mono k) (k := 60) (by kernel_rfl)
theorem MergeCleans : shardloglaw13_MergeCleans.Pure := by
 intro l t h1 h2
 refine Ev.rounds ?_
 unfold shardloglaw13_MergeCleans.f
 refine Ev.bind awake (Ev.pos rfl (Ev.bind ref_Few_ev ?_))
 cases h : fewC l with
 | false => exact Ev.step (f := fun k => (shardloglaw13_awake.f k).bind fun t => some t) (fun k => by simp only [shardloglaw13_MergeCleans.j0, Bool.not_false, if_true]) (Ev.bind awake (Ev.now _))
 | true =>
  obtain ⟨hn, hr⟩ := fewC_iff.1 h
  have hs := sortC_srt hr
  have hl := sortC_length l
  refine Ev.step (fun k => by simp only [shardloglaw13_MergeCleans.j0, Bool.not_true, Bool.false_eq_true, if_false]; rfl) (Ev.bind (ref_Sort_ev (fun x hx => sized_of_right (hr x hx)) (by omega)) (Ev.bind (merge_Clean_ev t (by omega) hs.2) (Ev.bind (ref_Clean_ev t hs (by omega)) ?_)))
  have hc := (cleanC_sub (sortC l) t).length_le
  have hv := (visC_sub (sortC l) t).length_le
  refine Ev.bind (sameC_ev rfl (by omega)) (Ev.pos rfl (Ev.bind (merge_Visible_ev t (by omega) hs.2) (Ev.bind (ref_Visible_ev t hs (by omega)) ?_)))
  exact Ev.bind (sameC_ev rfl (by omega)) (Ev.now _)
end Go.Proofs.Ythphffimgmbhgaa.Pure
