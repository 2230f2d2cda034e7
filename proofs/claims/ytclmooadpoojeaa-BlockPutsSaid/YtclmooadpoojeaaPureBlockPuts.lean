/- The pure statement of the law BlockPuts. -/
import Derived.Test.YtclmooadpoojeaaBAll
import Derived.KernelRfl
import Derived.Test.YtclmooadpoojeaaXx10
namespace Go.Proofs.Ytclmooadpoojeaa.Pure
open Go.RowKit Go.Proofs.Ytclmooadpoojeaa.X Go.Proofs.Ytclmooadpoojeaa.Pl Go.Proofs.YtclmooadpoojeaaW.PrintWords Go.Proofs.YtclmooadpoojeaaW.PrintLast
theorem awake : Ev (fun k => shardloglaw10_awake.f k) true := Ev.of (fun k => shardloglaw10_awake.mono k) (k := 80) (by kernel_rfl)
theorem puts_j1 {l : List Cell} (hr : RightsC l) (hl : l.length ≤ 80) : Ev (fun k => shardloglaw10_BlockPuts.j1 k l) true := by
 refine Ev.step (fun k => by simp only [shardloglaw10_BlockPuts.j1]; rfl) (Ev.bind (block_Put_ev (by omega)) (Ev.bind (ref_Sorted_ev (fun x hx => sized_of_right (hr x hx)) (by omega)) ?_))
 have jt : ¬ (sortedC l = true ∧ l.length ≠ 0) → Ev (fun k => shardloglaw10_BlockPuts.j2 k l (putB l).1 (putB l).2 true) true := fun h => by
  unfold putB
  rw [if_neg h]
  refine Ev.step (f := fun _ => some true) (fun k => ?_) (Ev.now _)
  simp only [shardloglaw10_BlockPuts.j2, if_true]
  rfl
 cases hs : sortedC l with
 | false => exact Ev.neg Bool.false_ne_true (jt (by rw [hs]; simp))
 | true =>
  refine Ev.pos rfl ?_
  by_cases h0 : l.length = 0
  ·
   rw [show ((l.length : Int) == 0) = true by simp [h0]]
   exact jt (by simp [h0])
  ·
   rw [show ((l.length : Int) == 0) = false from beq_eq_false_iff_ne.2 (by omega)]
   unfold putB
   rw [if_pos ⟨hs, h0⟩]
   refine Ev.step (fun k => by simp only [shardloglaw10_BlockPuts.j2, Bool.false_eq_true, if_false]; rfl) ?_
   refine Ev.pos trivial (Ev.bind (ref_BPut_ev hr (by omega)) (Ev.bind (Ev.eq (Same_eq rfl)) (Ev.now _)))
theorem BlockPuts : shardloglaw10_BlockPuts.Pure := by
 intro l s _
 refine Ev.rounds ?_
 unfold shardloglaw10_BlockPuts.f
 refine Ev.bind awake (Ev.pos rfl (Ev.bind ref_Few_ev ?_))
 cases h : fewC l with
 | false => exact Ev.step (f := fun k => (shardloglaw10_awake.f k).bind fun t => some t) (fun k => by simp only [shardloglaw10_BlockPuts.j0, Bool.not_false, if_true]) (Ev.bind awake (Ev.now _))
 | true =>
  obtain ⟨hn, hr⟩ := fewC_iff.1 h
  refine Ev.step (fun k => by simp only [shardloglaw10_BlockPuts.j0, Bool.not_true, Bool.false_eq_true, if_false]; rfl) ?_
  have hl := sortC_length l
  cases s with
  | true => exact Ev.pos rfl (Ev.bind (ref_Sort_ev (fun x hx => sized_of_right (hr x hx)) (by omega)) (puts_j1 (sortC_srt hr).1 (by omega)))
  | false => exact Ev.neg Bool.false_ne_true (puts_j1 hr hn)
end Go.Proofs.Ytclmooadpoojeaa.Pure
