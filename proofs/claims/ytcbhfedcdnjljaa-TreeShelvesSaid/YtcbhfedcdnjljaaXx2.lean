import Derived.Test.YtcbhfedcdnjljaaXx0
set_option linter.unusedVariables false
set_option linter.unusedSimpArgs false
namespace Go.Proofs.Ytcbhfedcdnjljaa.X
open Go.RowKit Go.Proofs.YtcbhfedcdnjljaaW.PrintWords Go.Proofs.YtcbhfedcdnjljaaW.PrintLast Go.Proofs.YtcbhfedcdnjljaaW.PrintMore
attribute [local go_sem] max2_int min2_int max_two min_two max_three min_three max_four min_four gtr_str
theorem eqA143 (d:Nat) (w:World) (x0 y0:Bool) (x1 y1:Bool) (x2 y2:Bool) (x3 y3:Bool) (x4 y4:Bool) :
  (Op.equalIn (d+2) 143 (.agg #[.bool x0,.bool x1,.bool x2,.bool x3,.bool x4]) (.agg #[.bool y0,.bool y1,.bool y2,.bool y3,.bool y4])).run Try.prog w = .ok (x0 == y0 && (x1 == y1 && (x2 == y2 && (x3 == y3 && (x4 == y4))))) w:=by
 have hu:=Try.underlying143;have hu_:=Try.underlying4;rw [Op.equalIn]
 go_simp
 rw [show List.range' 0 5=[0,1,2,3,4] from rfl]
 simp only [List.forIn_cons,List.forIn_nil]
 go_simp
 (repeat' split)<;>simp_all
end Go.Proofs.Ytcbhfedcdnjljaa.X
