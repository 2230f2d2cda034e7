/- Whether cells are sorted, one by one. -/
import Derived.Test.YthphffimgmbhgaaQCells
namespace Go.Proofs.Ythphffimgmbhgaa.Pl
open Go.RowKit Go.Proofs.Ythphffimgmbhgaa.X Go.Proofs.YthphffimgmbhgaaW.PrintWords Go.Proofs.YthphffimgmbhgaaW.PrintLast Go.Proofs.YthphffimgmbhgaaW.PrintMore
theorem chkC_zero {l : List Cell} (h : 0 < l.length) : chkC l 0 = rightC l[0] := by
 unfold chkC
 rw [rdC_at l 0 h]
 simp
theorem chkC_pos {l : List Cell} {i : Nat} (h : i < l.length) (h0 : 0 < i) : chkC l i = (rightC l[i] && (cc (l[i-1]'(by omega)) l[i] == -1)) := by
 unfold chkC
 rw [rdC_at l i h, show (i : Int) - 1 = ((i - 1 : Nat) : Int) by omega, rdC_at l (i - 1) (by omega), show (i == 0) = false by simp; omega, Bool.false_or]
end Go.Proofs.Ythphffimgmbhgaa.Pl
