/- The pure statement of the law TableKeeps. -/
import Derived.Test.YtinhpolmanccgaaBAll
import Derived.KernelRfl
import Derived.Test.YtinhpolmanccgaaXx15
namespace Go.Proofs.Ytinhpolmanccgaa.Pure
open Go.RowKit Go.Proofs.Ytinhpolmanccgaa.X Go.Proofs.Ytinhpolmanccgaa.Pl Go.Proofs.YtinhpolmanccgaaW.PrintWords Go.Proofs.YtinhpolmanccgaaW.PrintLast
theorem awake : Ev (fun k => shardloglaw12_awake.f k) true := Ev.of (fun k => shardloglaw12_awake.mono k) (k := 200) (by kernel_rfl)
theorem TableKeeps : shardloglaw12_TableKeeps.Pure := by
 intro l _
 refine Ev.rounds ?_
 unfold shardloglaw12_TableKeeps.f
 refine Ev.bind awake (Ev.pos rfl (Ev.bind ref_Few_ev ?_))
 cases h : fewC l with
 | false => exact Ev.neg Bool.false_ne_true (Ev.now _)
 | true =>
  refine Ev.pos rfl ?_
  obtain ⟨hn, hr⟩ := fewC_iff.1 h
  have hs := sortC_srt hr
  have hln := sortC_length l
  unfold shardloglaw12_TableKeeps.main
  obtain ⟨S, hS⟩ : ∃ S, sortC l = S := ⟨_, rfl⟩
  have hsort := ref_Sort_ev (l := l) (fun x hx => sized_of_right (hr x hx)) (by omega)
  rw [hS] at hs hln hsort
  refine Ev.bind hsort (Ev.bind (ref_Build_ev (size := 50) (by decide) hs (by omega)) (Ev.bind (open_goB hs (by omega) (size := 50) (by decide) (by decide)) ?_))
  show Ev (fun k => (api_Cell_43.f S).bind fun ca => (shardlogref08_Same.f k ca S).bind fun e => if e = true then some true else none) true
  rw [clone_C (by omega)]
  exact Ev.bind (Ev.now _) (Ev.bind (sameC_ev rfl (by omega)) (Ev.pos rfl (Ev.now _)))
end Go.Proofs.Ytinhpolmanccgaa.Pure
