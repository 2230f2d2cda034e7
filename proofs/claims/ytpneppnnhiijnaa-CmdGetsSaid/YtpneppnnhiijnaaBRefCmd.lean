/- Commands: the reference answers the plain laws. -/
import Derived.Test.YtpneppnnhiijnaaBCmd
import Derived.Test.YtpneppnnhiijnaaBRefRight
import Derived.Test.YtpneppnnhiijnaaBRefText
import Derived.Test.YtpneppnnhiijnaaXx10
import Derived.Test.YtpneppnnhiijnaaXx11
import Derived.Test.YtpneppnnhiijnaaXx8
namespace Go.Proofs.Ytpneppnnhiijnaa.Pl
open Go.RowKit Go.Proofs.Ytpneppnnhiijnaa.X Go.Proofs.YtpneppnnhiijnaaW.PrintWords Go.Proofs.YtpneppnnhiijnaaW.PrintLast Go.Proofs.YtpneppnnhiijnaaW.PrintMore
theorem ref_sound_j0 (c : Cmd) (h1 : 1 ≤ c.f0 ∧ c.f0 ≤ 16 ∧ 1 ≤ c.f1 ∧ c.f1 ≤ 2147483647 ∧ 1 ≤ c.f2 ∧ c.f2 ≤ 5) (k : Nat) : shardlogref15_Sound.j0 (k + 1) false c.f0 c.f1 c.f2 c.f3 c.f4 c.f5 c.f6 c.f7 c.f8 c.f9 = some (soundC c) := by
  have hleaf : (decide (SoundP c.f0 c.f1 c.f2 c.f6 c.f3.size c.f4.size c.f5.size c.f7.size c.f8.size c.f9)) = soundC c := rfl
  have no : ¬ SoundP c.f0 c.f1 c.f2 c.f6 c.f3.size c.f4.size c.f5.size c.f7.size c.f8.size c.f9 → some false = some (soundC c) := fun h => by rw [← hleaf, decide_eq_false h]
  have yes : ∀ b : Bool, (b = true ↔ SoundP c.f0 c.f1 c.f2 c.f6 c.f3.size c.f4.size c.f5.size c.f7.size c.f8.size c.f9) → some b = some (soundC c) := fun b h => some_bool (by rw [h, ← hleaf, decide_eq_true_iff])
  clear hleaf
  simp only [shardlogref15_Sound.j0, nil_size, ref_CRight_eq, Option.bind_some, Bool.false_eq_true, if_false]
  rcases Bool.eq_false_or_eq_true c.f9 with h9 | h9
  all_goals
    unfold SoundP at no yes
    simp only [h9, reduceCtorEq, false_and, and_false, or_false, false_or, true_and, true_or, if_true, if_false] at no yes ⊢
    repeat' split
  all_goals
    first
    | exact no (by omega)
    | (refine yes _ ?_; rw [decide_eq_true_iff]; omega)
    | (refine yes _ ?_; rw [cellRight_iff]; constructor <;> intro h <;> (try refine ⟨?_, ?_, ?_, ?_, ?_, ?_, ?_, .inl rfl⟩) <;> omega)
theorem ref_sound_ev (c : Cmd) : Ev (fun k => shardlogref15_Sound.f k c.f0 c.f1 c.f2 c.f3 c.f4 c.f5 c.f6 c.f7 c.f8 c.f9) (soundC c) := by
  have jt : ¬ SoundP c.f0 c.f1 c.f2 c.f6 c.f3.size c.f4.size c.f5.size c.f7.size c.f8.size c.f9 → Ev (fun k => shardlogref15_Sound.j0 k true c.f0 c.f1 c.f2 c.f3 c.f4 c.f5 c.f6 c.f7 c.f8 c.f9) (soundC c) := fun h => by
    refine Ev.step (f := fun _ => some false) (fun k => by simp only [shardlogref15_Sound.j0, if_true]) ((Ev.now _).to ?_)
    unfold soundC
    rw [decide_eq_false h]
  unfold shardlogref15_Sound.f
  by_cases h1 : c.f0 < 1
  · exact Ev.pos h1 (jt (by unfold SoundP; omega))
  refine Ev.neg h1 ?_
  by_cases h2 : c.f0 > 16
  · exact Ev.pos h2 (jt (by unfold SoundP; omega))
  refine Ev.neg h2 ?_
  by_cases h3 : c.f1 < 1
  · exact Ev.pos h3 (jt (by unfold SoundP; omega))
  refine Ev.neg h3 ?_
  by_cases h4 : c.f1 > 2147483647
  · exact Ev.pos h4 (jt (by unfold SoundP; omega))
  refine Ev.neg h4 ?_
  by_cases h5 : c.f2 < 1
  · exact Ev.pos h5 (jt (by unfold SoundP; omega))
  refine Ev.neg h5 ?_
  by_cases h6 : c.f2 > 5
  · rw [decide_eq_true h6]
    exact jt (by unfold SoundP; omega)
  rw [decide_eq_false h6]
  exact Ev.step (f := fun _ => some (soundC c)) (fun k => ref_sound_j0 c (by omega) k) (Ev.now _)
theorem ref_put_l1 (l : List ByteArray) (hs : ∀ s ∈ l, s.size ≤ 10000) (hl : l.length = 5) (d : Nat) : ∀ (i : Nat) (acc : List Int), i ≤ 5 → 5 - i = d → acc.length ≤ 1000 + 10004 * i → Ev (fun k => shardlogref15_Put.l1 k l acc (i : Int)) (strOfNums (acc ++ ((l.drop i).map text).flatten)) := by
  induction d with
  | zero =>
    intro i acc hi hd ha
    rw [List.drop_eq_nil_of_le (by omega)]
    refine Ev.step (f := fun _ => some (strOfNums acc)) (fun k => ?_) ((Ev.now _).to (by simp))
    simp only [shardlogref15_Put.l1]
    rw [if_neg (by omega)]
  | succ d ih =>
    intro i acc hi hd ha
    have hlt : i < l.length := by omega
    have hz := hs _ (List.getElem_mem hlt)
    have ht := text_length_le l[i]
    rw [List.drop_eq_getElem_cons hlt, List.map_cons, List.flatten_cons]
    refine Ev.step (f := fun k => shardlogref15_Put.l1 k l (acc ++ text l[i]) ((i + 1 : Nat) : Int)) (fun k => ?_) ((ih (i + 1) (acc ++ text l[i]) (by omega) (by omega) (by rw [List.length_append]; omega)).to (by rw [List.append_assoc]))
    simp only [shardlogref15_Put.l1]
    rw [if_pos (by omega), if_pos (by omega), if_pos (by omega), show rdOf ByteArray.empty l (i : Int) = l[i] by simp [rdOf, List.getD_eq_getElem?_getD, List.getElem?_eq_getElem hlt], ref_Text_eq (by omega)]
    simp only [Option.bind_some]
    rw [if_pos (by omega), w64 (by omega) (by omega)]
    rfl
theorem ref_put_l0 (l : List ByteArray) (hs : ∀ s ∈ l, s.size ≤ 10000) (hl : l.length = 5) (n : List Int) (hn : n.length = 5) (d : Nat) : ∀ (i : Nat) (acc : List Int), i ≤ 5 → 5 - i = d → acc.length ≤ 4 * i → Ev (fun k => shardlogref15_Put.l0 k n l acc (i : Int)) (strOfNums (acc ++ ((n.drop i).map num).flatten ++ (l.map text).flatten)) := by
  induction d with
  | zero =>
    intro i acc hi hd ha
    rw [List.drop_eq_nil_of_le (by omega)]
    refine Ev.step (f := fun k => shardlogref15_Put.l1 k l acc 0) (fun k => ?_) ?_
    · simp only [shardlogref15_Put.l0]
      rw [if_neg (by omega)]
    · have := ref_put_l1 l hs hl 5 0 acc (by omega) rfl (by omega)
      rw [List.drop_zero] at this
      simpa using this
  | succ d ih =>
    intro i acc hi hd ha
    have hlt : i < n.length := by omega
    have ht := num_length_le n[i]
    rw [List.drop_eq_getElem_cons hlt, List.map_cons, List.flatten_cons]
    refine Ev.step (f := fun k => shardlogref15_Put.l0 k n l (acc ++ num n[i]) ((i + 1 : Nat) : Int)) (fun k => ?_) ((ih (i + 1) (acc ++ num n[i]) (by omega) (by omega) (by rw [List.length_append]; omega)).to (by simp only [List.append_assoc]))
    simp only [shardlogref15_Put.l0]
    rw [if_pos (by omega), if_pos (by omega), if_pos (by omega), show rd n (i : Int) = n[i] by simp [rd, List.getD_eq_getElem?_getD, List.getElem?_eq_getElem hlt], ref_Num_eq]
    simp only [Option.bind_some]
    rw [if_pos (by omega), w64 (by omega) (by omega)]
    rfl
theorem ref_put_ev {c : Cmd} (hc : SmallC c) : Ev (fun k => shardlogref15_Put.f k c.f0 c.f1 c.f2 c.f3 c.f4 c.f5 c.f6 c.f7 c.f8 c.f9) (strOfNums (cmdB c)) := by
  have j : ∀ h, h = hasC c → Ev (fun k => shardlogref15_Put.j0 k h c.f0 c.f1 c.f2 c.f3 c.f4 c.f5 c.f6 c.f7 c.f8 c.f9) (strOfNums (cmdB c)) := by
    rintro h rfl
    refine Ev.step (f := fun k => shardlogref15_Put.l0 k (numsC c) (textsC c) [] 0) (fun k => by simp only [shardlogref15_Put.j0]; rfl) ?_
    have := ref_put_l0 (textsC c) (small_mem hc) rfl (numsC c) rfl 5 0 [] (by omega) rfl (by simp)
    rw [List.drop_zero, List.nil_append] at this
    exact this
  unfold shardlogref15_Put.f
  unfold hasC at j
  cases h : c.f9 with
  | true =>
    rw [h] at j
    exact Ev.pos rfl (j 1 (by simp))
  | false =>
    rw [h] at j
    exact Ev.neg Bool.false_ne_true (j 0 (by simp))
theorem ref_right_ev (c : Cmd) : Ev (fun k => shardlogref15_Right.f k c.f0 c.f1 c.f2 c.f3 c.f4 c.f5 c.f6 c.f7 c.f8 c.f9) (rightCmd c) := by
  unfold shardlogref15_Right.f rightCmd
  refine Ev.bind (ref_sound_ev c) ?_
  cases h : soundC c with
  | false => exact Ev.neg Bool.false_ne_true (Ev.now _)
  | true =>
    refine Ev.pos rfl (Ev.bind (ref_put_ev (sound_small h)) ((Ev.now _).to ?_))
    rw [Bool.true_and, decide_eq_decide, strOf_size]
    omega
end Go.Proofs.Ytpneppnnhiijnaa.Pl
