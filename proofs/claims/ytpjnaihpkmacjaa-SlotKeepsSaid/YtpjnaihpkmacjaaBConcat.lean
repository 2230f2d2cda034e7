/- slices.Concat of bytes. -/
import Derived.Test.YtpjnaihpkmacjaaQWire
import Derived.Test.YtpjnaihpkmacjaaWOwn
import Derived.Test.YtpjnaihpkmacjaaXx2
namespace Go.Proofs.Ytpjnaihpkmacjaa.Pl
open Go.RowKit Go.Proofs.Ytpjnaihpkmacjaa.X Go.Proofs.YtpjnaihpkmacjaaW.PrintWords Go.Proofs.YtpjnaihpkmacjaaW.PrintLast Go.Proofs.YtpjnaihpkmacjaaW.PrintMore
theorem concat_eq {l : List (List Int)} (h : lenSum l ≤ 140737488355328) : slices_Concat_byte_byte.f l = some l.flatten := by
  unfold slices_Concat_byte_byte.f
  rw [if_pos h]
end Go.Proofs.Ytpjnaihpkmacjaa.Pl
