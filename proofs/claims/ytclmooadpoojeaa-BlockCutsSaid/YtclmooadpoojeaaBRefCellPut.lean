/- The reference's bytes of a cell. -/
import Derived.Test.YtclmooadpoojeaaBCell
import Derived.Test.YtclmooadpoojeaaBRefText
import Derived.Test.YtclmooadpoojeaaXx9
namespace Go.Proofs.Ytclmooadpoojeaa.Pl
open Go.RowKit Go.Proofs.Ytclmooadpoojeaa.X Go.Proofs.YtclmooadpoojeaaW.PrintWords Go.Proofs.YtclmooadpoojeaaW.PrintLast Go.Proofs.YtclmooadpoojeaaW.PrintMore
theorem ref_CPut_ev {r c : ByteArray} (t : Int) {v : ByteArray} (g : Bool) (hr : r.size ≤ 1000000) (hc : c.size ≤ 1000000) (hv : v.size ≤ 1000000) : Ev (fun k => shardlogref08_Put.f k r c t v g) (cellB r c t v g) := by
 have h1 := text_length_le r
 have h2 := text_length_le c
 have h3 := text_length_le v
 have h4 := num_length_le t
 unfold shardlogref08_Put.f
 refine Ev.bind (Ev.eq (ref_Text_eq (by omega))) (Ev.bind (Ev.eq (ref_Text_eq (by omega))) (Ev.pos (by omega) ?_))
 refine Ev.step (fun k => by simp only [shardlogref08_Put.j0]; rfl) (Ev.bind (Ev.eq (ref_Num_eq _)) ?_)
 refine Ev.pos (by rw [List.length_append]; omega) ?_
 refine Ev.step (fun k => by simp only [shardlogref08_Put.j1]; rfl) ?_
 cases g with
 | true =>
  refine Ev.pos rfl ?_
  refine Ev.pos (by simp only [List.length_append]; omega) (Ev.bind (Ev.now _) (Ev.bind (Ev.eq (ref_Text_eq (by omega))) ?_))
  refine Ev.pos (by simp only [List.length_append, List.length_cons, List.length_nil]; omega) ((Ev.now _).to ?_)
  simp [cellB, flagC]
 | false =>
  refine Ev.neg Bool.false_ne_true ?_
  refine Ev.pos (by simp only [List.length_append]; omega) (Ev.bind (Ev.now _) (Ev.bind (Ev.eq (ref_Text_eq (by omega))) ?_))
  refine Ev.pos (by simp only [List.length_append, List.length_cons, List.length_nil]; omega) ((Ev.now _).to ?_)
  simp [cellB, flagC]
end Go.Proofs.Ytclmooadpoojeaa.Pl
