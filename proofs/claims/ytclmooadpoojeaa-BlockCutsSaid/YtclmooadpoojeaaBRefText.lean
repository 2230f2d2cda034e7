/- The reference's texts. -/
import Derived.Test.YtclmooadpoojeaaBRefNum1
import Derived.Test.YtclmooadpoojeaaXx9
namespace Go.Proofs.Ytclmooadpoojeaa.Pl
open Go.RowKit Go.Proofs.Ytclmooadpoojeaa.X Go.Proofs.YtclmooadpoojeaaW.PrintWords Go.Proofs.YtclmooadpoojeaaW.PrintLast Go.Proofs.YtclmooadpoojeaaW.PrintMore
theorem ref_Text_eq {s : ByteArray} (h : s.size ≤ 140737488351232) : shardlogref01_Text.f s = some (text s) := by
 unfold shardlogref01_Text.f
 rw [ref_Num_eq]
 simp only [Option.bind_some]
 rw [if_pos (by omega), if_pos (by have := num_length_le s.size; rw [bytesOf_size]; omega)]
 rfl
end Go.Proofs.Ytclmooadpoojeaa.Pl
