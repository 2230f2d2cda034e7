/- The printed functions of wire for numbers answer what the plain ones do. -/
import Derived.Test.YtclmooadpoojeaaQWire
import Derived.Test.YtclmooadpoojeaaXx4
import Derived.Test.YtclmooadpoojeaaXx5
namespace Go.Proofs.Ytclmooadpoojeaa.Pl
open Go.RowKit Go.Proofs.Ytclmooadpoojeaa.X Go.Proofs.YtclmooadpoojeaaW.PrintWords Go.Proofs.YtclmooadpoojeaaW.PrintLast Go.Proofs.YtclmooadpoojeaaW.PrintMore

theorem wire_Num_eq (n : Int) : wire_Num.f n = some (num n) := by
 unfold wire_Num.f num
 split
 ·
  rfl
 ·
  split
  ·
   rfl
  ·
   rfl
end Go.Proofs.Ytclmooadpoojeaa.Pl
