/- The pure statement of the law CmdLong. -/
import Derived.Test.YtpneppnnhiijnaaBRefCmd
import Derived.KernelRfl
import Derived.Test.YtpneppnnhiijnaaXx15
namespace Go.Proofs.Ytpneppnnhiijnaa.Pure
open Go.RowKit Go.Proofs.Ytpneppnnhiijnaa.X Go.Proofs.Ytpneppnnhiijnaa.Pl Go.Proofs.YtpneppnnhiijnaaW.PrintWords Go.Proofs.YtpneppnnhiijnaaW.PrintLast
theorem awake : Ev (fun k => shardloglaw15_awake.f k) true := Ev.of (fun k => shardloglaw15_awake.mono k) (k := 60) (by kernel_rfl)
theorem long_true (c : Cmd) : Ev (fun k => shardloglaw15_CmdLong.j0 k true c.f0 c.f1 c.f2 c.f3 c.f4 c.f5 c.f6 c.f7 c.f8 c.f9) true :=
  Ev.step (f := fun k => (shardloglaw15_awake.f k).bind fun t => some t) (fun k => by simp only [shardloglaw15_CmdLong.j0, if_true]) (Ev.bind awake (Ev.now _))
theorem text_length {s : ByteArray} (h : s.size ≤ 10000) : (text s).length = 4 + s.size := by
  unfold text
  rw [List.length_append, num_length (by omega) (by omega), bytesOf_size]
theorem cmdB_length {c : Cmd} (h : soundC c = true) : (cmdB c).length = 40 + (c.f3.size + c.f4.size + c.f5.size + c.f7.size + c.f8.size) := by
  have hs := sound_small h
  have hp := of_decide_eq_true h
  unfold SoundP at hp
  have hh : 0 ≤ hasC c ∧ hasC c ≤ 4294967295 := by unfold hasC; cases c.f9 <;> simp
  obtain ⟨z1, z2, z3, z4, z5⟩ := hs
  simp only [cmdB, numsC, textsC, List.map_cons, List.map_nil, List.flatten_cons, List.flatten_nil, List.length_append, List.length_nil, text_length z1, text_length z2, text_length z3, text_length z4, text_length z5]
  rw [num_length (by omega) (by omega), num_length (by omega) (by omega), num_length (by omega) (by omega), num_length (by omega) (by omega), num_length hh.1 hh.2]
  omega
theorem app_size (a b : ByteArray) : (a ++ b).size = a.size + b.size := ByteArray.size_append
theorem wsum {a b c d : Nat} (h1 : a ≤ 10000) (h2 : b ≤ 10000) (h3 : c ≤ 10000) (h4 : d ≤ 10000) : wrap64 ((wrap64 ((wrap64 ((wrap64 (40 + (a : Int))) + (b : Int))) + (c : Int))) + (d : Int)) = ((40 + (a + b + c + d) : Nat) : Int) := by
  rw [w64 (x := 40 + (a : Int)) (by omega) (by omega), w64 (x := 40 + (a : Int) + (b : Int)) (by omega) (by omega), w64 (x := 40 + (a : Int) + (b : Int) + (c : Int)) (by omega) (by omega), w64 (by omega) (by omega)]
  omega
theorem long_false {c : Cmd} (h : rightCmd c = true) (hk : c.f2 = 1 ∨ c.f2 = 3) : Ev (fun k => shardloglaw15_CmdLong.j0 k false c.f0 c.f1 c.f2 c.f3 c.f4 c.f5 c.f6 c.f7 c.f8 c.f9) true := by
  have hr : soundC c = true ∧ (cmdB c).length ≤ 512 := by
    unfold rightCmd at h
    rw [Bool.and_eq_true, decide_eq_true_iff] at h
    exact h
  obtain ⟨hs, hl⟩ := hr
  have hp := of_decide_eq_true hs
  unfold SoundP at hp
  have hlen := cmdB_length hs
  have h5 : c.f5.size = 0 := by omega
  have hput : putC c = (strOfNums (cmdB c), 0) := by
    unfold putC
    rw [if_pos hs, if_pos hl]
  let d : Cmd := ⟨c.f0, c.f1, c.f2, c.f3, c.f4, c.f5, c.f6, c.f7 ++ ⟨#[120]⟩, c.f8, c.f9⟩
  have hd7 : d.f7.size = c.f7.size + 1 := app_size c.f7 ⟨#[120]⟩
  have hds : soundC d = true ↔ c.f7.size + 1 ≤ 256 := by
    unfold soundC
    rw [decide_eq_true_iff]
    show SoundP c.f0 c.f1 c.f2 c.f6 c.f3.size c.f4.size c.f5.size d.f7.size c.f8.size c.f9 ↔ _
    rw [hd7]
    unfold SoundP
    rcases Bool.eq_false_or_eq_true c.f9 with hf | hf <;> simp only [hf, reduceCtorEq, false_and, and_false, or_false, false_or, true_and, true_or] at hp ⊢ <;> omega
  have hlen2 : (cmdB c).length = 40 + (c.f3.size + c.f4.size + c.f7.size + c.f8.size) := by omega
  refine Ev.step (fun k => by simp only [shardloglaw15_CmdLong.j0, Bool.false_eq_true, if_false]; rw [wsum (by omega) (by omega) (by omega) (by omega), ← hlen2]) ?_
  refine Ev.bind (put_ev c) ?_
  rw [hput]
  refine Ev.pos (by omega) (Ev.bind (put_ev d) (Ev.pos rfl ?_))
  have hne : (((strOfNums (cmdB c)).size : Int) != ((cmdB c).length : Int)) = false := by rw [strOf_size]; simp
  simp only
  rw [hne]
  refine Ev.step (fun k => by simp only [shardloglaw15_CmdLong.j1, Bool.false_eq_true, if_false]; rw [w64 (x := ((cmdB c).length : Int) + 1) (by omega) (by omega)]) ?_
  show Ev (fun k => if (d.f7.size : Int) > 256 then _ else _) true
  by_cases hb : (d.f7.size : Int) > 256
  · refine Ev.pos hb ((Ev.now _).to ?_)
    unfold putC
    rw [if_neg (fun e => by have := hds.1 e; omega)]
    rfl
  · have hds' := hds.2 (by omega)
    have hdl : (cmdB d).length = (cmdB c).length + 1 := by
      rw [cmdB_length hds', hlen]
      show 40 + (c.f3.size + c.f4.size + c.f5.size + d.f7.size + c.f8.size) = _
      omega
    by_cases h512 : (cmdB c).length < 512
    · have e : putC d = (strOfNums (cmdB d), 0) := by
        unfold putC
        rw [if_pos hds', if_pos (by omega)]
      rw [e]
      refine Ev.neg hb (Ev.pos (by omega) (Ev.pos rfl (Ev.pos ?_ (Ev.now _))))
      show ((strOfNums (cmdB d)).size : Int) = _
      rw [strOf_size]
      omega
    · have e : putC d = (⟨#[]⟩, 7) := by
        unfold putC
        rw [if_pos hds', if_neg (by omega)]
      rw [e]
      exact Ev.neg hb (Ev.neg (by omega) (Ev.pos (by omega) (Ev.now _)))
theorem CmdLong : shardloglaw15_CmdLong.Pure := by
  intro c0 c1 c2 c3 c4 c5 c6 c7 c8 c9 _ _ _ _ _ _ _ _ _
  refine Ev.rounds ?_
  unfold shardloglaw15_CmdLong.f
  refine Ev.bind awake (Ev.pos rfl (Ev.bind (ref_right_ev ⟨c0, c1, c2, c3, c4, c5, c6, c7, c8, c9⟩) ?_))
  cases h : rightCmd ⟨c0, c1, c2, c3, c4, c5, c6, c7, c8, c9⟩ with
  | false => exact Ev.neg Bool.false_ne_true (long_true ⟨c0, c1, c2, c3, c4, c5, c6, c7, c8, c9⟩)
  | true =>
    refine Ev.pos rfl ?_
    by_cases h1 : c2 = 1
    · exact Ev.pos h1 (long_false h (.inl h1))
    refine Ev.neg h1 ?_
    by_cases h3 : c2 = 3
    · rw [show (c2 != 3) = false by simpa using h3]
      exact long_false h (.inr h3)
    · rw [show (c2 != 3) = true by simpa using h3]
      exact long_true ⟨c0, c1, c2, c3, c4, c5, c6, c7, c8, c9⟩
end Go.Proofs.Ytpneppnnhiijnaa.Pure
