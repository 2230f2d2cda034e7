/- The pure statement of the law MergeAll. -/
import Derived.Test.YthphffimgmbhgaaBRefMerge
import Derived.Test.YthphffimgmbhgaaBRefSameC
import Derived.KernelRfl
import Derived.Test.YthphffimgmbhgaaXx10
namespace Go.Proofs.Ythphffimgmbhgaa.Pure
open Go.RowKit Go.Proofs.Ythphffimgmbhgaa.X Go.Proofs.Ythphffimgmbhgaa.Pl Go.Proofs.YthphffimgmbhgaaW.PrintWords Go.Proofs.YthphffimgmbhgaaW.PrintLast
theorem awake : Ev (fun k => shardloglaw13_awake.f k) true := Ev.of (fun k => shardloglaw13_awake.mono k) (k := 60) (by kernel_rfl)
theorem MergeAll : shardloglaw13_MergeAll.Pure := by
 intro L h1
 obtain ⟨_, hn, hl⟩ := h1
 refine Ev.rounds ?_
 unfold shardloglaw13_MergeAll.f
 obtain ⟨r, he, hf⟩ := ref_FewL (L := L) (by omega) (fun l h => by have := (hl l h).2.1; omega)
 refine Ev.bind awake (Ev.pos rfl (Ev.bind he ?_))
 cases r with
 | false => exact Ev.step (f := fun k => (shardloglaw13_awake.f k).bind fun t => some t) (fun k => by simp only [shardloglaw13_MergeAll.j0, Bool.not_false, if_true]) (Ev.bind awake (Ev.now _))
 | true =>
  have hF := hf rfl
  have hz := fewL_sized hF
  have hlen := hF.len
  have htot := hF.tot
  have hsl := sortsC_len L
  have hst := sortsC_lens L
  have ho := sortsC_ord hF
  have hlt : ∀ l ∈ sortsC L, l.length ≤ 1000 := fun l h => by have := len_lensC h; omega
  have hz2 : ∀ l ∈ sortsC L, ∀ x ∈ l, SizedC x := by
   intro l h x hx
   obtain ⟨l', hl', rfl⟩ := List.mem_map.1 h
   exact hz l' hl' x (sortC_mem hx)
  refine Ev.step (fun k => by simp only [shardloglaw13_MergeAll.j0, Bool.not_true, Bool.false_eq_true, if_false]; rfl) (Ev.bind (ref_Sorts_ev hz (by omega) (fun l h => by have := len_lensC h; omega)) (Ev.bind (merge_All_is ho (by omega) (by omega)) (Ev.bind (ref_All_ev (by omega) hz2 hlt) ?_)))
  have := refAll_length (sortsC L)
  exact Ev.bind (sameC_ev rfl (by omega)) (Ev.now _)
end Go.Proofs.Ythphffimgmbhgaa.Pure
