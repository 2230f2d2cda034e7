/- Plain laws of lists of cells: the first one that is not ahead of a key; the newest of a row and column up to a time. -/
import Derived.Test.YthphffimgmbhgaaQCells
namespace Go.Proofs.Ythphffimgmbhgaa.Pl
open Go.RowKit Go.Proofs.Ythphffimgmbhgaa.X Go.Proofs.YthphffimgmbhgaaW.PrintWords Go.Proofs.YthphffimgmbhgaaW.PrintLast Go.Proofs.YthphffimgmbhgaaW.PrintMore
theorem cmpN_lt {a b : Int} : cmpN a b = -1 ↔ a < b := by
 unfold cmpN
 split
 ·
  simp [*]
 ·
  split <;> simp <;> omega
end Go.Proofs.Ythphffimgmbhgaa.Pl
