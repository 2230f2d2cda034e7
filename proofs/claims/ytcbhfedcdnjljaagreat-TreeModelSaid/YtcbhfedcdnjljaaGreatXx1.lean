import Derived.Test.YtcbhfedcdnjljaaGreatXx0
set_option linter.unusedVariables false
set_option linter.unusedSimpArgs false
namespace Go.Proofs.YtcbhfedcdnjljaaGreat.X
open Go.RowKit Go.Proofs.YtcbhfedcdnjljaaGreatW.PrintWords Go.Proofs.YtcbhfedcdnjljaaGreatW.PrintLast Go.Proofs.YtcbhfedcdnjljaaGreatW.PrintMore
attribute [local go_sem] lG lH mH mG kp ku lA lC mE
theorem D_ (d:Nat) (w:World) (x0 y0:ByteArray) (x1 y1:ByteArray) (x2 y2:Int) (x3 y3:ByteArray) (x4 y4:Bool) :
  (Op.equalIn (d+2) 34 (.agg #[.string x0,.string x1,.int .i64 x2,.string x3,.bool x4]) (.agg #[.string y0,.string y1,.int .i64 y2,.string y3,.bool y4])).run Tryz.prog w = .ok (x0.toList == y0.toList && (x1.toList == y1.toList && (x2 == y2 && (x3.toList == y3.toList && (x4 == y4))))) w:=by
 refine FP Tryz.underlying34 (by kernel_rfl) ?_;refine rm (by rfl) (by go_simp;rfl) (by go_simp;rfl) (by go_simp) ?_;refine rm (by rfl) (by go_simp;rfl) (by go_simp;rfl) (by go_simp) ?_;refine rm (by rfl) (by go_simp;rfl) (by go_simp;rfl) (by go_simp) ?_;refine rm (by rfl) (by go_simp;rfl) (by go_simp;rfl) (by go_simp) ?_;exact DV (by rfl) (by go_simp;rfl) (by go_simp;rfl) (by go_simp)
end Go.Proofs.YtcbhfedcdnjljaaGreat.X
