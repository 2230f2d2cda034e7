/- The pure statement of the law CmdPuts. -/
import Derived.Test.YtpneppnnhiijnaaBRefCmd
import Derived.KernelRfl
import Derived.Test.YtpneppnnhiijnaaXx13
namespace Go.Proofs.Ytpneppnnhiijnaa.Pure
open Go.RowKit Go.Proofs.Ytpneppnnhiijnaa.X Go.Proofs.Ytpneppnnhiijnaa.Pl Go.Proofs.YtpneppnnhiijnaaW.PrintWords Go.Proofs.YtpneppnnhiijnaaW.PrintLast
theorem awake : Ev (fun k => shardloglaw15_awake.f k) true := Ev.of (fun k => shardloglaw15_awake.mono k) (k := 60) (by kernel_rfl)
theorem small_some (c : Cmd) : ∃ s, shardloglaw15_small.f c.f0 c.f1 c.f2 c.f3 c.f4 c.f5 c.f6 c.f7 c.f8 c.f9 = some s := by
  unfold shardloglaw15_small.f
  split
  · split
    · split
      · split <;> exact ⟨_, rfl⟩
      · exact ⟨_, rfl⟩
    · exact ⟨_, rfl⟩
  · exact ⟨_, rfl⟩
theorem puts_false (c : Cmd) : Ev (fun k => shardloglaw15_CmdPuts.j0 k false c.f0 c.f1 c.f2 c.f3 c.f4 c.f5 c.f6 c.f7 c.f8 c.f9) true := by
  refine Ev.step (fun k => by simp only [shardloglaw15_CmdPuts.j0, Bool.false_eq_true, if_false]; rfl) ?_
  refine Ev.bind (put_ev c) (Ev.bind (right_ev c) (Ev.bind (ref_right_ev c) ?_))
  refine Ev.neg (by simp) (Ev.bind (ref_sound_ev c) ?_)
  unfold putC
  cases hs : soundC c with
  | false =>
    rw [if_neg Bool.false_ne_true]
    exact Ev.neg Bool.false_ne_true (Ev.pos rfl ((Ev.now _).to (by simp [ByteArray.toList_eq])))
  | true =>
    have hp := of_decide_eq_true hs
    unfold SoundP at hp
    rw [if_pos rfl]
    refine Ev.pos rfl (Ev.bind (ref_right_ev c) ?_)
    unfold rightCmd
    rw [hs, Bool.true_and]
    by_cases hl : (cmdB c).length ≤ 512
    · rw [if_pos hl, decide_eq_true hl]
      refine Ev.pos rfl (Ev.pos rfl (Ev.bind (ref_put_ev (sound_small hs)) (Ev.pos rfl ?_)))
      unfold cmd_Writes.f
      refine Ev.bind (Ev.now _) ?_
      by_cases h1 : c.f2 = 1
      · exact Ev.pos h1 ((Ev.now _).to (by rw [decide_eq_true (by omega)]; rfl))
      refine Ev.neg h1 ?_
      by_cases h2 : c.f2 = 2
      · exact Ev.pos h2 ((Ev.now _).to (by rw [decide_eq_true (by omega)]; rfl))
      refine Ev.neg h2 ((Ev.now _).to ?_)
      by_cases h3 : c.f2 = 3
      · rw [h3]; rfl
      · rw [decide_eq_false (by omega), show (c.f2 == 3) = false by simpa using h3]; rfl
    · rw [if_neg hl, decide_eq_false hl]
      exact Ev.neg Bool.false_ne_true (Ev.pos rfl ((Ev.now _).to (by simp [ByteArray.toList_eq])))
theorem CmdPuts : shardloglaw15_CmdPuts.Pure := by
  intro c0 c1 c2 c3 c4 c5 c6 c7 c8 c9 _ _ _ _ _ _ _ _ _
  refine Ev.rounds ?_
  unfold shardloglaw15_CmdPuts.f
  refine Ev.bind awake (Ev.pos rfl ?_)
  obtain ⟨s, hs⟩ := small_some ⟨c0, c1, c2, c3, c4, c5, c6, c7, c8, c9⟩
  refine Ev.bind (Ev.eq hs) ?_
  cases s with
  | false => exact Ev.step (f := fun k => (shardloglaw15_awake.f k).bind fun t => some t) (fun k => by simp only [shardloglaw15_CmdPuts.j0, Bool.not_false, if_true]) (Ev.bind awake (Ev.now _))
  | true => exact puts_false ⟨c0, c1, c2, c3, c4, c5, c6, c7, c8, c9⟩
end Go.Proofs.Ytpneppnnhiijnaa.Pure
