/- The printed functions of wire for texts answer what the plain ones do. -/
import Derived.Test.YtclmooadpoojeaaBWireCut
import Derived.Test.YtclmooadpoojeaaXx4
import Derived.Test.YtclmooadpoojeaaXx6
namespace Go.Proofs.Ytclmooadpoojeaa.Pl
open Go.RowKit Go.Proofs.Ytclmooadpoojeaa.X Go.Proofs.YtclmooadpoojeaaW.PrintWords Go.Proofs.YtclmooadpoojeaaW.PrintLast Go.Proofs.YtclmooadpoojeaaW.PrintMore

theorem wire_Text_eq {s : ByteArray} (h : s.size ≤ 140737488351232) : wire_Text.f s = some (text s) := by
 unfold wire_Text.f
 rw [wire_Num_eq]
 simp only [Option.bind_some]
 rw [if_pos (by have := num_length_le s.size; omega)]
 rfl
end Go.Proofs.Ytclmooadpoojeaa.Pl
