/- The pure statement of the law TableBuilds. -/
import Derived.Test.YtinhpolmanccgaaBAll
import Derived.KernelRfl
import Derived.Test.YtinhpolmanccgaaXx16
namespace Go.Proofs.Ytinhpolmanccgaa.Pure
open Go.RowKit Go.Proofs.Ytinhpolmanccgaa.X Go.Proofs.Ytinhpolmanccgaa.Pl Go.Proofs.YtinhpolmanccgaaW.PrintWords Go.Proofs.YtinhpolmanccgaaW.PrintLast
theorem awake : Ev (fun k => shardloglaw12_awake.f k) true := Ev.of (fun k => shardloglaw12_awake.mono k) (k := 200) (by kernel_rfl)
theorem j1_ev {l : List Cell} (size : Int) (hr : RightsC l) (hl : l.length ≤ 80) : Ev (fun k => shardloglaw12_TableBuilds.j1 k l size) true := by
 have hS := ref_Sorted_ev (l := l) (fun x hx => sized_of_right (hr x hx)) (by omega)
 refine Ev.step (fun k => by simp only [shardloglaw12_TableBuilds.j1]; rfl) ?_
 refine (Ev.bind (table_Build_ev (l := l) size (by omega)) (Ev.bind hS ?_))
 unfold buildT
 cases h : sortedC l with
 | false =>
  rw [if_neg (fun h => Bool.false_ne_true h.1)]
  refine Ev.neg Bool.false_ne_true (Ev.step (fun k => by simp only [shardloglaw12_TableBuilds.j2]; rfl) ?_)
  exact Ev.pos (by first | trivial | rfl) (Ev.pos (by first | trivial | rfl) (Ev.now _))
 | true =>
  refine Ev.pos (by first | trivial | rfl) ?_
  by_cases h1 : 1 ≤ size
  ·
   rw [if_pos ⟨rfl, h1⟩, decide_eq_false (by omega)]
   refine Ev.step (fun k => by simp only [shardloglaw12_TableBuilds.j2]; rfl) ?_
   refine Ev.neg Bool.false_ne_true (Ev.pos (by first | trivial | rfl) (Ev.bind (ref_Build_ev h1 (sortedC_iff.1 h) (by omega)) ?_))
   rw [Same_eq rfl]
   exact Ev.now _
  ·
   rw [if_neg (fun h => h1 h.2), decide_eq_true (by omega)]
   refine Ev.step (fun k => by simp only [shardloglaw12_TableBuilds.j2]; rfl) ?_
   exact Ev.pos (by first | trivial | rfl) (Ev.pos (by first | trivial | rfl) (Ev.now _))
theorem TableBuilds : shardloglaw12_TableBuilds.Pure := by
 intro l size srt _ _
 refine Ev.rounds ?_
 unfold shardloglaw12_TableBuilds.f
 refine Ev.bind awake (Ev.pos rfl (Ev.bind ref_Few_ev ?_))
 cases h : fewC l with
 | false =>
  refine Ev.step (fun k => by simp only [shardloglaw12_TableBuilds.j0]; rfl) ?_
  exact Ev.pos rfl (Ev.bind awake (Ev.now _))
 | true =>
  obtain ⟨hn, hr⟩ := fewC_iff.1 h
  refine Ev.step (fun k => by simp only [shardloglaw12_TableBuilds.j0]; rfl) ?_
  refine Ev.neg Bool.false_ne_true ?_
  cases srt with
  | false => exact Ev.neg Bool.false_ne_true (j1_ev size hr hn)
  | true =>
   have hln := sortC_length l
   exact Ev.pos rfl (Ev.bind (ref_Sort_ev (fun x hx => sized_of_right (hr x hx)) (by omega)) (j1_ev size (sortC_srt hr).1 (by omega)))
end Go.Proofs.Ytinhpolmanccgaa.Pure
