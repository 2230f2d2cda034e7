import Derived.Test.YtcbhfedcdnjljaaGreatXx0
set_option linter.unusedVariables false
set_option linter.unusedSimpArgs false
namespace Go.Proofs.YtcbhfedcdnjljaaGreat.X
open Go.RowKit Go.Proofs.YtcbhfedcdnjljaaGreatW.PrintWords Go.Proofs.YtcbhfedcdnjljaaGreatW.PrintLast Go.Proofs.YtcbhfedcdnjljaaGreatW.PrintMore
attribute [local go_sem] lG lH mH mG kp ku lA lC mE
theorem Fe (d:Nat) (w:World) (x0 y0:Bool) (x1 y1:Bool) (x2 y2:Bool) (x3 y3:Bool) (x4 y4:Bool) :
  (Op.equalIn (d+2) 149 (.agg #[.bool x0,.bool x1,.bool x2,.bool x3,.bool x4]) (.agg #[.bool y0,.bool y1,.bool y2,.bool y3,.bool y4])).run Tryz.prog w = .ok (x0 == y0 && (x1 == y1 && (x2 == y2 && (x3 == y3 && (x4 == y4))))) w:=by
 have hu:=Tryz.underlying149;have hu_:=Tryz.underlying4;rw [Op.equalIn]
 go_simp
 rw [show List.range' 0 5=[0,1,2,3,4] from rfl]
 simp only [List.forIn_cons,List.forIn_nil]
 go_simp
 (repeat' split)<;>simp_all
end Go.Proofs.YtcbhfedcdnjljaaGreat.X
