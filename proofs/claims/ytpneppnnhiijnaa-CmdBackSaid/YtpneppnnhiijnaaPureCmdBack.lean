/- The pure statement of the law CmdBack. -/
import Derived.Test.YtpneppnnhiijnaaBCmdGet
import Derived.KernelRfl
import Derived.Test.YtpneppnnhiijnaaXx14
namespace Go.Proofs.Ytpneppnnhiijnaa.Pure
open Go.RowKit Go.Proofs.Ytpneppnnhiijnaa.X Go.Proofs.Ytpneppnnhiijnaa.Pl Go.Proofs.YtpneppnnhiijnaaW.PrintWords Go.Proofs.YtpneppnnhiijnaaW.PrintLast
theorem awake : Ev (fun k => shardloglaw15_awake.f k) true := Ev.of (fun k => shardloglaw15_awake.mono k) (k := 60) (by kernel_rfl)
theorem small_some (c : Cmd) : ∃ s, shardloglaw15_small.f c.f0 c.f1 c.f2 c.f3 c.f4 c.f5 c.f6 c.f7 c.f8 c.f9 = some s := by
  unfold shardloglaw15_small.f
  split
  · split
    · split
      · split <;> exact ⟨_, rfl⟩
      · exact ⟨_, rfl⟩
    · exact ⟨_, rfl⟩
  · exact ⟨_, rfl⟩
theorem back_j1 {s : ByteArray} (hl : s.size ≤ 140737488351232) : Ev (fun k => shardloglaw15_CmdBack.j1 k s) true := by
  refine Ev.step (fun k => by simp only [shardloglaw15_CmdBack.j1]; rfl) (Ev.bind (get_ev (by omega)) ?_)
  unfold getC
  by_cases h : getOk s = true
  · rw [if_pos h]
    refine Ev.pos rfl (Ev.bind (put_ev (cutC (bytesOf s)).1) ?_)
    unfold getOk at h
    rw [Bool.and_eq_true, Bool.and_eq_true, decide_eq_true_iff] at h
    rw [putC_right h.2.1]
    refine Ev.pos rfl ((Ev.now _).to ?_)
    rw [beq_iff_eq, str_eq (bytes_cmdB _)]
    exact h.2.2
  · rw [if_neg h]
    exact Ev.neg (by decide) (Ev.now _)
theorem back_true (c d : Cmd) (s : ByteArray) : Ev (fun k => shardloglaw15_CmdBack.j0 k s true c.f0 c.f1 c.f2 c.f3 c.f4 c.f5 c.f6 c.f7 c.f8 c.f9 d.f0 d.f1 d.f2 d.f3 d.f4 d.f5 d.f6 d.f7 d.f8 d.f9) true :=
  Ev.step (f := fun k => (shardloglaw15_awake.f k).bind fun t => some t) (fun k => by simp only [shardloglaw15_CmdBack.j0, if_true]) (Ev.bind awake (Ev.now _))
theorem same_cmd (c d : Cmd) : (c.f0 == d.f0 && (c.f1 == d.f1 && (c.f2 == d.f2 && (c.f3.toList == d.f3.toList && (c.f4.toList == d.f4.toList && (c.f5.toList == d.f5.toList && (c.f6 == d.f6 && (c.f7.toList == d.f7.toList && (c.f8.toList == d.f8.toList && (c.f9 == d.f9)))))))))) = true ↔ c = d := by
  constructor
  · intro h
    simp only [Bool.and_eq_true, beq_iff_eq] at h
    obtain ⟨h0, h1, h2, h3, h4, h5, h6, h7, h8, h9⟩ := h
    cases c; cases d
    simp only at h0 h1 h2 h3 h4 h5 h6 h7 h8 h9
    rw [h0, h1, h2, toList_inj h3, toList_inj h4, toList_inj h5, h6, toList_inj h7, toList_inj h8, h9]
  · rintro rfl
    simp
theorem back_false (c d : Cmd) {s : ByteArray} (hl : s.size ≤ 140737488351232) : Ev (fun k => shardloglaw15_CmdBack.j0 k s false c.f0 c.f1 c.f2 c.f3 c.f4 c.f5 c.f6 c.f7 c.f8 c.f9 d.f0 d.f1 d.f2 d.f3 d.f4 d.f5 d.f6 d.f7 d.f8 d.f9) true := by
  refine Ev.step (fun k => by simp only [shardloglaw15_CmdBack.j0, Bool.false_eq_true, if_false]; rfl) ?_
  refine Ev.bind (put_ev c) (Ev.bind (put_ev d) ?_)
  by_cases h : (putC c).2 = 0
  · refine Ev.pos h ?_
    have hr := putC_ok h
    have hlen := (right_sound hr).2
    rw [putC_right hr]
    refine Ev.bind (get_ev (by rw [strOf_size]; omega)) ?_
    rw [getC_put hr]
    refine Ev.pos rfl (Ev.neg (by simp [tupCmd]) (Ev.neg (by rw [strOf_size]; omega) ?_))
    by_cases h2 : (putC d).2 = 0
    · refine Ev.pos h2 ?_
      have hr2 := putC_ok h2
      rw [putC_right hr2]
      refine Ev.neg ?_ (back_j1 hl)
      have e : ((strOfNums (cmdB c)).toList == (strOfNums (cmdB d)).toList) = (c.f0 == d.f0 && (c.f1 == d.f1 && (c.f2 == d.f2 && (c.f3.toList == d.f3.toList && (c.f4.toList == d.f4.toList && (c.f5.toList == d.f5.toList && (c.f6 == d.f6 && (c.f7.toList == d.f7.toList && (c.f8.toList == d.f8.toList && (c.f9 == d.f9)))))))))) := by
        rw [Bool.eq_iff_iff, same_cmd, same_iff (bytes_cmdB c) (bytes_cmdB d), decide_eq_true_iff]
        exact ⟨fun e => cmdB_inj hr hr2 e, fun e => by rw [e]⟩
      simp only
      rw [e, bne_self_eq_false]
      exact Bool.false_ne_true
    · exact Ev.neg h2 (back_j1 hl)
  · exact Ev.neg h (back_j1 hl)
theorem CmdBack : shardloglaw15_CmdBack.Pure := by
  intro c0 c1 c2 c3 c4 c5 c6 c7 c8 c9 d0 d1 d2 d3 d4 d5 d6 d7 d8 d9 s _ _ _ _ _ _ _ _ _ _ _ _ _ _ _ _ _ _ hl
  refine Ev.rounds ?_
  unfold shardloglaw15_CmdBack.f
  refine Ev.bind awake (Ev.pos rfl ?_)
  obtain ⟨x, hx⟩ := small_some ⟨c0, c1, c2, c3, c4, c5, c6, c7, c8, c9⟩
  refine Ev.bind (Ev.eq hx) ?_
  cases x with
  | false => exact Ev.neg Bool.false_ne_true (back_true ⟨c0, c1, c2, c3, c4, c5, c6, c7, c8, c9⟩ ⟨d0, d1, d2, d3, d4, d5, d6, d7, d8, d9⟩ s)
  | true =>
    refine Ev.pos rfl ?_
    obtain ⟨y, hy⟩ := small_some ⟨d0, d1, d2, d3, d4, d5, d6, d7, d8, d9⟩
    refine Ev.bind (Ev.eq hy) ?_
    cases y with
    | false => exact Ev.neg Bool.false_ne_true (back_true ⟨c0, c1, c2, c3, c4, c5, c6, c7, c8, c9⟩ ⟨d0, d1, d2, d3, d4, d5, d6, d7, d8, d9⟩ s)
    | true =>
      refine Ev.pos rfl ?_
      by_cases hz : (s.size : Int) > 2000
      · rw [decide_eq_true hz]
        exact back_true ⟨c0, c1, c2, c3, c4, c5, c6, c7, c8, c9⟩ ⟨d0, d1, d2, d3, d4, d5, d6, d7, d8, d9⟩ s
      · rw [decide_eq_false hz]
        exact back_false ⟨c0, c1, c2, c3, c4, c5, c6, c7, c8, c9⟩ ⟨d0, d1, d2, d3, d4, d5, d6, d7, d8, d9⟩ hl
end Go.Proofs.Ytpneppnnhiijnaa.Pure
