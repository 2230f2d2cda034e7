/- The reference's sameness. -/
import Derived.Test.YtfbkljpfopiegaaQWire
import Derived.Test.YtfbkljpfopiegaaXx4
namespace Go.Proofs.Ytfbkljpfopiegaa.Pl
open Go.RowKit Go.Proofs.Ytfbkljpfopiegaa.X Go.Proofs.YtfbkljpfopiegaaW.PrintWords Go.Proofs.YtfbkljpfopiegaaW.PrintLast Go.Proofs.YtfbkljpfopiegaaW.PrintMore
theorem Same_eq {a b : List Int} (h : a = b) : shardlogref01_Same.f a b = some true := by
 unfold shardlogref01_Same.f
 rw [same_eq h]
end Go.Proofs.Ytfbkljpfopiegaa.Pl
