/- The reference's texts. -/
import Derived.Test.YtpneppnnhiijnaaBRefNum1
import Derived.Test.YtpneppnnhiijnaaXx9
namespace Go.Proofs.Ytpneppnnhiijnaa.Pl
open Go.RowKit Go.Proofs.Ytpneppnnhiijnaa.X Go.Proofs.YtpneppnnhiijnaaW.PrintWords Go.Proofs.YtpneppnnhiijnaaW.PrintLast Go.Proofs.YtpneppnnhiijnaaW.PrintMore
theorem ref_Text_eq {s : ByteArray} (h : s.size ≤ 140737488351232) : shardlogref01_Text.f s = some (text s) := by
  unfold shardlogref01_Text.f
  rw [ref_Num_eq]
  simp only [Option.bind_some]
  rw [if_pos (by omega), if_pos (by have := num_length_le s.size; rw [bytesOf_size]; omega)]
  rfl
end Go.Proofs.Ytpneppnnhiijnaa.Pl
