/- slices.Concat of bytes. -/
import Derived.Test.YtpnbknhjnakehaaQWire
import Derived.Test.YtpnbknhjnakehaaWOwn
import Derived.Test.YtpnbknhjnakehaaXx4
namespace Go.Proofs.Ytpnbknhjnakehaa.Pl
open Go.RowKit Go.Proofs.Ytpnbknhjnakehaa.X Go.Proofs.YtpnbknhjnakehaaW.PrintWords Go.Proofs.YtpnbknhjnakehaaW.PrintLast Go.Proofs.YtpnbknhjnakehaaW.PrintMore
theorem concat_eq {l : List (List Int)} (h : lenSum l ≤ 140737488355328) : slices_Concat_byte_byte.f l = some l.flatten := by
  unfold slices_Concat_byte_byte.f
  rw [if_pos h]
end Go.Proofs.Ytpnbknhjnakehaa.Pl
