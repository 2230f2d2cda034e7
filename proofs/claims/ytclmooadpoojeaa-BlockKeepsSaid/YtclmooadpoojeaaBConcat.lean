/- slices.Concat of bytes. -/
import Derived.Test.YtclmooadpoojeaaQWire
import Derived.Test.YtclmooadpoojeaaWOwn
import Derived.Test.YtclmooadpoojeaaXx4
namespace Go.Proofs.Ytclmooadpoojeaa.Pl
open Go.RowKit Go.Proofs.Ytclmooadpoojeaa.X Go.Proofs.YtclmooadpoojeaaW.PrintWords Go.Proofs.YtclmooadpoojeaaW.PrintLast Go.Proofs.YtclmooadpoojeaaW.PrintMore
theorem concat_eq {l : List (List Int)} (h : lenSum l ≤ 140737488355328) : slices_Concat_byte_byte.f l = some l.flatten := by
 unfold slices_Concat_byte_byte.f
 rw [if_pos h]
end Go.Proofs.Ytclmooadpoojeaa.Pl
