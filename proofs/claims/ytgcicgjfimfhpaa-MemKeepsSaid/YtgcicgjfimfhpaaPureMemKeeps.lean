/- The pure statement of the law MemKeeps. -/
import Derived.Test.YtgcicgjfimfhpaaBAll
import Derived.KernelRfl
import Derived.Test.YtgcicgjfimfhpaaXx4
import Derived.Test.YtgcicgjfimfhpaaXx7
namespace Go.Proofs.Ytgcicgjfimfhpaa.Pure
open Go.RowKit Go.Proofs.Ytgcicgjfimfhpaa.X Go.Proofs.Ytgcicgjfimfhpaa.Pl Go.Proofs.YtgcicgjfimfhpaaW.PrintWords Go.Proofs.YtgcicgjfimfhpaaW.PrintLast
theorem awake : Ev (fun k => shardloglaw09_awake.f k) true := Ev.of (fun k => shardloglaw09_awake.mono k) (k := 60) (by kernel_rfl)
theorem MemKeeps : shardloglaw09_MemKeeps.Pure := by
 intro l hl
 refine Ev.rounds ?_
 unfold shardloglaw09_MemKeeps.f
 refine Ev.bind (filled_ev (l := l) (by omega)) (Ev.bind awake (Ev.pos rfl (Ev.bind ref_Few_ev ?_)))
 cases h : fewC l with
 | false => exact Ev.neg Bool.false_ne_true (Ev.now _)
 | true =>
  refine Ev.pos rfl ?_
  obtain ⟨hn, hr⟩ := fewC_iff.1 h
  have hln := sortC_length l
  have hpu : putsM l [] = sortC l := putsM_right hr []
  show Ev (fun k => shardloglaw09_MemKeeps.tail k (putsM l []) l) true
  rw [hpu]
  unfold shardloglaw09_MemKeeps.tail mem_Mem_Rows.f
  simp only [clone_C (l := sortC l) (by omega), Option.bind_some]
  rw [if_pos (by omega)]
  refine Ev.bind (Ev.now _) (Ev.bind (ref_Sort_ev (fun x hx => sized_of_right (hr x hx)) (by omega)) (Ev.bind (sameC_ev rfl (by omega)) (Ev.pos (by first | trivial | rfl) (Ev.now _))))
end Go.Proofs.Ytgcicgjfimfhpaa.Pure
