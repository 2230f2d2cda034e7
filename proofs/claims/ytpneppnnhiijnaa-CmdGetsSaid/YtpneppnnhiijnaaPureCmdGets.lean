/- The pure statement of the law CmdGets. -/
import Derived.Test.YtpneppnnhiijnaaBRefCmdGet
import Derived.KernelRfl
import Derived.Test.YtpneppnnhiijnaaXx13
namespace Go.Proofs.Ytpneppnnhiijnaa.Pure
open Go.RowKit Go.Proofs.Ytpneppnnhiijnaa.X Go.Proofs.Ytpneppnnhiijnaa.Pl Go.Proofs.YtpneppnnhiijnaaW.PrintWords Go.Proofs.YtpneppnnhiijnaaW.PrintLast
theorem awake : Ev (fun k => shardloglaw15_awake.f k) true := Ev.of (fun k => shardloglaw15_awake.mono k) (k := 60) (by kernel_rfl)
theorem flag_no {o : Option (Cmd × Bool)} (h : ∀ c, o ≠ some (c, true)) : ¬ (tupRef o).2.2.2.2.2.2.2.2.2.2 = true := by
  cases o with
  | none => exact Bool.false_ne_true
  | some t =>
    intro h2
    have h3 : t.2 = true := h2
    refine h t.1 ?_
    rw [← h3]
theorem CmdGets : shardloglaw15_CmdGets.Pure := by
  intro s h1
  refine Ev.rounds ?_
  unfold shardloglaw15_CmdGets.f
  refine Ev.bind awake (Ev.pos rfl ?_)
  by_cases h : (s.size : Int) > 2000
  · rw [decide_eq_true h]
    exact Ev.step (f := fun k => (shardloglaw15_awake.f k).bind fun t => some t) (fun k => by simp only [shardloglaw15_CmdGets.j0, if_true]) (Ev.bind awake (Ev.now _))
  · rw [decide_eq_false h]
    refine Ev.step (fun k => by simp only [shardloglaw15_CmdGets.j0, Bool.false_eq_true, if_false]; rfl) (Ev.bind (get_ev (s := s) (by omega)) (Ev.bind (ref_get_ev (s := s) (by omega)) ?_))
    rcases get_same s with ⟨h2, h3⟩ | ⟨h2, h3⟩
    · rw [h3, show getC s = tupCmd (cutC (bytesOf s)).1 0 by unfold getC; rw [if_pos h2]]
      refine Ev.pos rfl (Ev.pos rfl (Ev.eq ?_))
      simp [tupRef, tupCmd]
    · rw [show getC s = cmd_Get.bad by unfold getC; rw [h2, if_neg Bool.false_ne_true]]
      exact Ev.neg (flag_no h3) (Ev.pos rfl (Ev.eq (by kernel_rfl)))
end Go.Proofs.Ytpneppnnhiijnaa.Pure
