/- The reference's sameness. -/
import Derived.Test.YtpnbknhjnakehaaQWire
import Derived.Test.YtpnbknhjnakehaaXx11
namespace Go.Proofs.Ytpnbknhjnakehaa.Pl
open Go.RowKit Go.Proofs.Ytpnbknhjnakehaa.X Go.Proofs.YtpnbknhjnakehaaW.PrintWords Go.Proofs.YtpnbknhjnakehaaW.PrintLast Go.Proofs.YtpnbknhjnakehaaW.PrintMore
theorem Same_eq {a b : List Int} (h : a = b) : shardlogref01_Same.f a b = some true := by
  unfold shardlogref01_Same.f
  rw [same_eq h]
theorem Same_iff {a b : List Int} (ha : Bytes a) (hb : Bytes b) : shardlogref01_Same.f a b = some (decide (a = b)) := by
  unfold shardlogref01_Same.f
  rw [same_iff ha hb]
end Go.Proofs.Ytpnbknhjnakehaa.Pl
