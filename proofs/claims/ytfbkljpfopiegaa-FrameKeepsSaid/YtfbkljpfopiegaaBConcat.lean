/- slices.Concat of bytes. -/
import Derived.Test.YtfbkljpfopiegaaQWire
import Derived.Test.YtfbkljpfopiegaaWOwn
import Derived.Test.YtfbkljpfopiegaaXx1
namespace Go.Proofs.Ytfbkljpfopiegaa.Pl
open Go.RowKit Go.Proofs.Ytfbkljpfopiegaa.X Go.Proofs.YtfbkljpfopiegaaW.PrintWords Go.Proofs.YtfbkljpfopiegaaW.PrintLast Go.Proofs.YtfbkljpfopiegaaW.PrintMore
theorem concat_eq {l : List (List Int)} (h : lenSum l ≤ 140737488355328) : slices_Concat_byte_byte.f l = some l.flatten := by
 unfold slices_Concat_byte_byte.f
 rw [if_pos h]
end Go.Proofs.Ytfbkljpfopiegaa.Pl
