/- slices.Equal of bytes. -/
import Derived.Test.YtfbkljpfopiegaaQWire
import Derived.Test.YtfbkljpfopiegaaXx1
namespace Go.Proofs.Ytfbkljpfopiegaa.Pl
open Go.RowKit Go.Proofs.Ytfbkljpfopiegaa.X Go.Proofs.YtfbkljpfopiegaaW.PrintWords Go.Proofs.YtfbkljpfopiegaaW.PrintLast Go.Proofs.YtfbkljpfopiegaaW.PrintMore
theorem rd_nat (l : List Int) (i : Nat) (h : i < l.length) : rd l (i : Int) = l[i] := by
 simp [rd, List.getD_eq_getElem?_getD, List.getElem?_eq_getElem h]
theorem equal_l0 (l m : List Int) (hm : l.length = m.length) (hl : l.length ≤ 140737488355328) (d : Nat) : ∀ i : Nat, i ≤ l.length → l.length - i = d →
  Ev (fun k => slices_Equal_byte_byte.l0 k l m (l.length : Int) (i : Int)) (decide (l.drop i = m.drop i)) := by
 induction d with
 | zero =>
  intro i hi hd
  refine Ev.step (f := fun _ => some true) (fun k => ?_) ?_
  ·
   simp only [slices_Equal_byte_byte.l0]
   rw [if_neg (by omega)]
  ·
   rw [List.drop_eq_nil_of_le (by omega), List.drop_eq_nil_of_le (by omega)]
   exact Ev.now _
 | succ d ih =>
  intro i hi hd
  have h1 : i < l.length := by omega
  have h2 : i < m.length := by omega
  rw [List.drop_eq_getElem_cons h1, List.drop_eq_getElem_cons h2]
  by_cases he : l[i] = m[i]
  ·
   refine Ev.step (f := fun k => slices_Equal_byte_byte.l0 k l m (l.length : Int) ((i + 1 : Nat) : Int)) (fun k => ?_) ((ih (i + 1) (by omega) (by omega)).to (by simp only [he, List.cons.injEq, true_and]))
   simp only [slices_Equal_byte_byte.l0]
   rw [if_pos (by omega), if_pos (by omega), if_pos (by omega), if_pos (by omega), rd_nat _ _ h1, rd_nat _ _ h2, if_pos he, w64 (by omega) (by omega)]
   rfl
  ·
   refine Ev.step (f := fun _ => some false) (fun k => ?_) ((Ev.now false).to (by simp only [List.cons.injEq, he, false_and, decide_false]))
   simp only [slices_Equal_byte_byte.l0]
   rw [if_pos (by omega), if_pos (by omega), if_pos (by omega), if_pos (by omega), rd_nat _ _ h1, rd_nat _ _ h2, if_neg he]
theorem equal_ev {l m : List Int} (hl : l.length ≤ 140737488355328) : Ev (fun k => slices_Equal_byte_byte.f k l m) (decide (l = m)) := by
 unfold slices_Equal_byte_byte.f
 by_cases h : l.length = m.length
 ·
  refine Ev.pos (by omega) ?_
  have := equal_l0 l m h hl l.length 0 (by omega) (by omega)
  simpa using this
 ·
  refine Ev.neg (by omega) ((Ev.now false).to ?_)
  symm
  rw [decide_eq_false_iff_not]
  intro e
  exact h (by rw [e])
end Go.Proofs.Ytfbkljpfopiegaa.Pl
