/- The pure statement of the law CellRights. -/
import Derived.Test.YtpnbknhjnakehaaBCellOrder
import Derived.Test.YtpnbknhjnakehaaBRefCellOrder
import Derived.KernelRfl
import Derived.Test.YtpnbknhjnakehaaXx19
namespace Go.Proofs.Ytpnbknhjnakehaa.Pure
open Go.RowKit Go.Proofs.Ytpnbknhjnakehaa.X Go.Proofs.Ytpnbknhjnakehaa.Pl Go.Proofs.YtpnbknhjnakehaaW.PrintWords Go.Proofs.YtpnbknhjnakehaaW.PrintLast
theorem awake : Ev (fun k => shardloglaw08_awake.f k) true := Ev.of (fun k => shardloglaw08_awake.mono k) (k := 50) (by kernel_rfl)
theorem small_eq (r c : ByteArray) (t : Int) (v : ByteArray) (g : Bool) : shardloglaw08_small.f r c t v g = some (decide ((r.size : Int) ≤ 300 ∧ (c.size : Int) ≤ 300 ∧ (v.size : Int) ≤ 600)) := by
  unfold shardloglaw08_small.f
  by_cases h1 : (r.size : Int) ≤ 300
  · by_cases h2 : (c.size : Int) ≤ 300
    · rw [if_pos h1, if_pos h2]
      simp [h1, h2]
    · rw [if_pos h1, if_neg h2]
      simp [h2]
  · rw [if_neg h1]
    simp [h1]
theorem rights_true (a0 a1 : ByteArray) (a2 : Int) (a3 : ByteArray) (a4 : Bool) (b0 b1 : ByteArray) (b2 : Int) (b3 : ByteArray) (b4 : Bool) : Ev (fun k => shardloglaw08_CellRights.j0 k true a0 a1 a2 a3 a4 b0 b1 b2 b3 b4) true :=
  Ev.step (f := fun k => (shardloglaw08_awake.f k).bind fun t => some t) (fun k => by simp only [shardloglaw08_CellRights.j0, if_true]) (Ev.bind awake (Ev.now _))
theorem CellRights : shardloglaw08_CellRights.Pure := by
  intro a0 a1 a2 a3 a4 b0 b1 b2 b3 b4 h1 h2 h3 h4 h5 h6 h7 h8
  refine Ev.rounds ?_
  unfold shardloglaw08_CellRights.f
  refine Ev.bind awake (Ev.pos rfl (Ev.bind (Ev.eq (small_eq _ _ _ _ _)) ?_))
  by_cases s1 : decide ((a0.size : Int) ≤ 300 ∧ (a1.size : Int) ≤ 300 ∧ (a3.size : Int) ≤ 600) = true
  · refine Ev.pos s1 (Ev.bind (Ev.eq (small_eq _ _ _ _ _)) ?_)
    by_cases s2 : decide ((b0.size : Int) ≤ 300 ∧ (b1.size : Int) ≤ 300 ∧ (b3.size : Int) ≤ 600) = true
    · rw [s2]
      refine Ev.step (fun k => by simp only [shardloglaw08_CellRights.j0, Bool.not_true, Bool.false_eq_true, if_false]; rfl) ?_
      refine Ev.bind (Ev.eq (cell_Right_eq _ _ _ _ _)) (Ev.bind (Ev.eq (ref_CRight_eq _ _ _ _ _)) (Ev.pos (by simp) (Ev.bind (cell_Compare_ev _ _ _ _ _ _ _ _ _ _) (Ev.bind (ref_CCompare_ev (by omega) (by omega)) ((Ev.now _).to (by simp))))))
    · have s3 : decide ((b0.size : Int) ≤ 300 ∧ (b1.size : Int) ≤ 300 ∧ (b3.size : Int) ≤ 600) = false := by simpa using s2
      rw [s3]
      exact rights_true _ _ _ _ _ _ _ _ _ _
  · exact Ev.neg s1 (rights_true _ _ _ _ _ _ _ _ _ _)
end Go.Proofs.Ytpnbknhjnakehaa.Pure
