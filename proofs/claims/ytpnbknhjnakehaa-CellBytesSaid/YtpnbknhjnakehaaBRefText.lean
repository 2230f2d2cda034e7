/- The reference's texts. -/
import Derived.Test.YtpnbknhjnakehaaBRefNum1
import Derived.Test.YtpnbknhjnakehaaXx11
namespace Go.Proofs.Ytpnbknhjnakehaa.Pl
open Go.RowKit Go.Proofs.Ytpnbknhjnakehaa.X Go.Proofs.YtpnbknhjnakehaaW.PrintWords Go.Proofs.YtpnbknhjnakehaaW.PrintLast Go.Proofs.YtpnbknhjnakehaaW.PrintMore
theorem ref_Text_eq {s : ByteArray} (h : s.size ≤ 140737488351232) : shardlogref01_Text.f s = some (text s) := by
  unfold shardlogref01_Text.f
  rw [ref_Num_eq]
  simp only [Option.bind_some]
  rw [if_pos (by omega), if_pos (by have := num_length_le s.size; rw [bytesOf_size]; omega)]
  rfl
end Go.Proofs.Ytpnbknhjnakehaa.Pl
