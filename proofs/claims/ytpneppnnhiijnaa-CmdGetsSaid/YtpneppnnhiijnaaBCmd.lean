/- Commands: whether they are sound, and their bytes: the printed functions answer the plain ones. -/
import Derived.Test.YtpneppnnhiijnaaBWire
import Derived.Test.YtpneppnnhiijnaaBCellRight
import Derived.Test.YtpneppnnhiijnaaXx3
import Derived.Test.YtpneppnnhiijnaaXx5
import Derived.Test.YtpneppnnhiijnaaXx6
namespace Go.Proofs.Ytpneppnnhiijnaa.Pl
open Go.RowKit Go.Proofs.Ytpneppnnhiijnaa.X Go.Proofs.YtpneppnnhiijnaaW.PrintWords Go.Proofs.YtpneppnnhiijnaaW.PrintLast Go.Proofs.YtpneppnnhiijnaaW.PrintMore
abbrev Cmd := S23
/-- What a sound command is, of its numbers and its texts' lengths. -/
def SoundP (c0 c1 c2 a : Int) (r c t v e : Nat) (h : Bool) : Prop :=
  1 ≤ c0 ∧ c0 ≤ 16 ∧ 1 ≤ c1 ∧ c1 ≤ 2147483647 ∧ 1 ≤ c2 ∧ c2 ≤ 5 ∧ 0 ≤ a ∧ a ≤ 4294967295 ∧ r ≤ 64 ∧
    ((c2 = 5 ∧ c = 0 ∧ v = 0 ∧ e = 0 ∧ h = false ∧ t ≤ 64) ∨ (c2 ≠ 5 ∧ 1 ≤ r ∧ 1 ≤ c ∧ c ≤ 64 ∧ t = 0 ∧ v ≤ 256 ∧ e ≤ 256 ∧ (h = true ∨ e = 0) ∧ (c2 = 3 ∨ (h = false ∧ e = 0)) ∧ (c2 = 1 ∨ c2 = 3 ∨ v = 0)))
instance (c0 c1 c2 a : Int) (r c t v e : Nat) (h : Bool) : Decidable (SoundP c0 c1 c2 a r c t v e h) := by unfold SoundP; infer_instance
def soundC (c : Cmd) : Bool := decide (SoundP c.f0 c.f1 c.f2 c.f6 c.f3.size c.f4.size c.f5.size c.f7.size c.f8.size c.f9)
theorem isEmpty_size (s : ByteArray) : s.toList.isEmpty = decide (s.size = 0) := by
  rw [← toList_nil]
  cases s.toList <;> rfl
theorem nil_size (s : ByteArray) : s.toList = [] ↔ s.size = 0 := by
  have := toList_nil (v := s)
  rw [Bool.eq_iff_iff, beq_iff_eq, decide_eq_true_iff] at this
  exact this
/-- One kind's parts, held against the command. -/
theorem bare_kind (k : Int) (h1 : 1 ≤ k) (h5 : k ≤ 5) (c t v e : ByteArray) (h : Bool) : cmd_bare.b (cmd_bare.parts k) c t v e h = true ↔ ((k = 5 ∧ c.size = 0 ∧ v.size = 0 ∧ h = false ∧ e.size = 0) ∨ (k ≠ 5 ∧ t.size = 0 ∧ (k = 1 ∨ k = 3 ∨ v.size = 0) ∧ (k = 3 ∨ (h = false ∧ e.size = 0)) ∧ (h = true ∨ e.size = 0))) := by
  unfold cmd_bare.b
  simp only [isEmpty_size, Bool.and_eq_true, Bool.or_eq_true, decide_eq_true_iff, Bool.not_eq_true']
  obtain rfl | rfl | rfl | rfl | rfl : k = 1 ∨ k = 2 ∨ k = 3 ∨ k = 4 ∨ k = 5 := by omega
  all_goals
    cases h <;> simp [cmd_bare.parts]
  all_goals omega
theorem fits_eq (c : Cmd) : cmd_fits.f c.f0 c.f1 c.f2 c.f3 c.f4 c.f5 c.f6 c.f7 c.f8 c.f9 = some (decide (0 ≤ c.f6 ∧ c.f6 ≤ 4294967295 ∧ c.f3.size ≤ 64 ∧ ((c.f2 = 5 ∧ c.f5.size ≤ 64) ∨ (c.f2 ≠ 5 ∧ 1 ≤ c.f3.size ∧ 1 ≤ c.f4.size ∧ c.f4.size ≤ 64 ∧ c.f7.size ≤ 256 ∧ c.f8.size ≤ 256)))) := by
  unfold cmd_fits.f
  by_cases h5 : c.f2 = 5
  · rw [if_pos h5]
    split
    · split
      · split
        · congr 1; rw [decide_eq_decide]; omega
        · congr 1; symm; rw [decide_eq_false_iff_not]; omega
      · congr 1; symm; rw [decide_eq_false_iff_not]; omega
    · congr 1; symm; rw [decide_eq_false_iff_not]; omega
  · rw [if_neg h5, cell_Right_eq]
    simp only [Option.bind_some]
    cases h1 : cellRight c.f3 c.f4 c.f6 c.f7 false with
    | false =>
      rw [if_neg Bool.false_ne_true]
      congr 1; symm; rw [decide_eq_false_iff_not]
      intro h
      have : cellRight c.f3 c.f4 c.f6 c.f7 false = true := cellRight_iff.2 ⟨by omega, by omega, by omega, by omega, by omega, by omega, by omega, .inl rfl⟩
      rw [h1] at this
      cases this
    | true =>
      have g := cellRight_iff.1 h1
      rw [if_pos rfl, cell_Right_eq]
      simp only [Option.bind_some]
      refine some_bool ?_
      rw [cellRight_iff, decide_eq_true_iff]
      exact ⟨fun h => by omega, fun h => ⟨by omega, by omega, by omega, by omega, by omega, by omega, by omega, .inl rfl⟩⟩
theorem sound_ev (c : Cmd) : Ev (fun k => cmd_sound.f k c.f0 c.f1 c.f2 c.f3 c.f4 c.f5 c.f6 c.f7 c.f8 c.f9) (soundC c) := by
  have jt : ¬ SoundP c.f0 c.f1 c.f2 c.f6 c.f3.size c.f4.size c.f5.size c.f7.size c.f8.size c.f9 → Ev (fun k => cmd_sound.j0 k true c.f0 c.f1 c.f2 c.f3 c.f4 c.f5 c.f6 c.f7 c.f8 c.f9) (soundC c) := fun h => by
    refine Ev.step (f := fun _ => some false) (fun k => by simp only [cmd_sound.j0, if_true]) ((Ev.now _).to ?_)
    unfold soundC
    rw [decide_eq_false h]
  unfold cmd_sound.f
  by_cases h1 : c.f0 < 1
  · exact Ev.pos h1 (jt (by unfold SoundP; omega))
  refine Ev.neg h1 ?_
  by_cases h2 : c.f0 > 16
  · exact Ev.pos h2 (jt (by unfold SoundP; omega))
  refine Ev.neg h2 ?_
  by_cases h3 : c.f1 < 1
  · exact Ev.pos h3 (jt (by unfold SoundP; omega))
  refine Ev.neg h3 ?_
  by_cases h4 : c.f1 > 2147483647
  · exact Ev.pos h4 (jt (by unfold SoundP; omega))
  refine Ev.neg h4 ?_
  by_cases h5 : c.f2 < 1
  · exact Ev.pos h5 (jt (by unfold SoundP; omega))
  refine Ev.neg h5 ?_
  by_cases h6 : c.f2 > 5
  · rw [decide_eq_true h6]
    exact jt (by unfold SoundP; omega)
  rw [decide_eq_false h6]
  have hb : cmd_bare.f c.f0 c.f1 c.f2 c.f3 c.f4 c.f5 c.f6 c.f7 c.f8 c.f9 = some (cmd_bare.b (cmd_bare.parts c.f2) c.f4 c.f5 c.f7 c.f8 c.f9) := by
    unfold cmd_bare.f
    rw [if_pos (by omega)]
  have hk := bare_kind c.f2 (by omega) (by omega) c.f4 c.f5 c.f7 c.f8 c.f9
  refine Ev.step (fun k => by simp only [cmd_sound.j0, Bool.false_eq_true, if_false]; rw [hb, fits_eq]) ?_
  refine Ev.bind (Ev.now _) ?_
  cases hc : cmd_bare.b (cmd_bare.parts c.f2) c.f4 c.f5 c.f7 c.f8 c.f9 with
  | false =>
    rw [hc] at hk
    refine Ev.neg Bool.false_ne_true ((Ev.now _).to ?_)
    unfold soundC
    symm
    rw [decide_eq_false_iff_not]
    unfold SoundP
    intro hs
    refine absurd (hk.2 ?_) Bool.false_ne_true
    rcases Bool.eq_false_or_eq_true c.f9 with hf | hf <;> simp only [hf, reduceCtorEq, false_and, and_false, or_false, false_or, true_and, true_or, and_true] at hs ⊢ <;> omega
  | true =>
    rw [hc] at hk
    have hk1 := hk.1 rfl
    refine Ev.pos rfl (Ev.bind (Ev.now _) ((Ev.now _).to ?_))
    unfold soundC
    rw [decide_eq_decide]
    unfold SoundP
    rcases Bool.eq_false_or_eq_true c.f9 with hf | hf <;> simp only [hf, reduceCtorEq, false_and, and_false, or_false, false_or, true_and, true_or, and_true] at hk1 ⊢ <;> omega
/-- A command's bytes. -/
def hasC (c : Cmd) : Int := if c.f9 = true then 1 else 0
def numsC (c : Cmd) : List Int := [c.f0, c.f1, c.f2, c.f6, hasC c]
def textsC (c : Cmd) : List ByteArray := [c.f3, c.f4, c.f5, c.f7, c.f8]
def cmdB (c : Cmd) : List Int := ((numsC c).map num).flatten ++ ((textsC c).map text).flatten
theorem flat_text_bytes : ∀ l : List ByteArray, Bytes (l.map text).flatten
  | [] => Bytes.nil
  | s :: l => by rw [List.map_cons, List.flatten_cons]; exact (bytes_text s).append (flat_text_bytes l)
theorem flat_num_bytes : ∀ l : List Int, Bytes (l.map num).flatten
  | [] => Bytes.nil
  | n :: l => by rw [List.map_cons, List.flatten_cons]; exact (bytes_num n).append (flat_num_bytes l)
theorem bytes_cmdB (c : Cmd) : Bytes (cmdB c) := (flat_num_bytes _).append (flat_text_bytes _)
def SmallC (c : Cmd) : Prop := c.f3.size ≤ 10000 ∧ c.f4.size ≤ 10000 ∧ c.f5.size ≤ 10000 ∧ c.f7.size ≤ 10000 ∧ c.f8.size ≤ 10000
theorem sound_small {c : Cmd} (h : soundC c = true) : SmallC c := by
  have := of_decide_eq_true h
  unfold SoundP at this
  unfold SmallC
  omega
theorem flat_nums_le : ∀ l : List Int, (l.map num).flatten.length ≤ 4 * l.length
  | [] => by simp
  | n :: l => by
    have h1 := num_length_le n
    have h2 := flat_nums_le l
    simp only [List.map_cons, List.flatten_cons, List.length_append, List.length_cons]
    omega
theorem flat_texts_le : ∀ l : List ByteArray, (∀ s ∈ l, s.size ≤ 10000) → (l.map text).flatten.length ≤ 10004 * l.length
  | [], _ => by simp
  | s :: l, h => by
    have h1 := text_length_le s
    have h2 := flat_texts_le l (fun x hx => h x (List.mem_cons_of_mem _ hx))
    have h3 := h s List.mem_cons_self
    simp only [List.map_cons, List.flatten_cons, List.length_append, List.length_cons]
    omega
theorem small_mem {c : Cmd} (h : SmallC c) : ∀ s ∈ textsC c, s.size ≤ 10000 := by
  obtain ⟨h1, h2, h3, h4, h5⟩ := h
  intro s hs
  simp only [textsC, List.mem_cons, List.not_mem_nil, or_false] at hs
  rcases hs with rfl | rfl | rfl | rfl | rfl <;> assumption
theorem bytes_l1 (l : List ByteArray) (hs : ∀ s ∈ l, s.size ≤ 10000) (hl : l.length ≤ 100) (d : Nat) : ∀ (i : Nat) (acc : List Int), i ≤ l.length → l.length - i = d → acc.length ≤ 1000 + 10004 * i → Ev (fun k => cmd_bytes.l1 k acc l (l.length : Int) (i : Int)) (strOfNums (acc ++ ((l.drop i).map text).flatten)) := by
  induction d with
  | zero =>
    intro i acc hi hd ha
    rw [List.drop_eq_nil_of_le (by omega)]
    refine Ev.step (f := fun _ => some (strOfNums acc)) (fun k => ?_) ((Ev.now _).to (by simp))
    simp only [cmd_bytes.l1]
    rw [if_neg (by omega)]
  | succ d ih =>
    intro i acc hi hd ha
    have hlt : i < l.length := by omega
    have hz := hs _ (List.getElem_mem hlt)
    have ht := text_length_le l[i]
    rw [List.drop_eq_getElem_cons hlt, List.map_cons, List.flatten_cons]
    refine Ev.step (f := fun k => cmd_bytes.l1 k (acc ++ text l[i]) l (l.length : Int) ((i + 1 : Nat) : Int)) (fun k => ?_) ((ih (i + 1) (acc ++ text l[i]) (by omega) (by omega) (by rw [List.length_append]; omega)).to (by rw [List.append_assoc]))
    simp only [cmd_bytes.l1]
    rw [if_pos (by omega), if_pos (by omega), if_pos (by omega), show rdOf ByteArray.empty l (i : Int) = l[i] by simp [rdOf, List.getD_eq_getElem?_getD, List.getElem?_eq_getElem hlt], wire_Text_eq (by omega)]
    simp only [Option.bind_some]
    rw [if_pos (by omega), w64 (by omega) (by omega)]
    rfl
theorem bytes_l0 {c : Cmd} (hc : SmallC c) (l : List Int) (hl : l.length ≤ 100) (d : Nat) : ∀ (i : Nat) (acc : List Int), i ≤ l.length → l.length - i = d → acc.length ≤ 4 * i → Ev (fun k => cmd_bytes.l0 k acc l (l.length : Int) (i : Int) c.f0 c.f1 c.f2 c.f3 c.f4 c.f5 c.f6 c.f7 c.f8 c.f9) (strOfNums (acc ++ ((l.drop i).map num).flatten ++ ((textsC c).map text).flatten)) := by
  induction d with
  | zero =>
    intro i acc hi hd ha
    rw [List.drop_eq_nil_of_le (by omega)]
    refine Ev.step (f := fun k => cmd_bytes.l1 k acc (textsC c) ((textsC c).length : Int) 0) (fun k => ?_) ?_
    · simp only [cmd_bytes.l0]
      rw [if_neg (by omega)]
      rfl
    · have := bytes_l1 (textsC c) (small_mem hc) (by simp [textsC]) 5 0 acc (by omega) rfl (by omega)
      rw [List.drop_zero] at this
      simpa using this
  | succ d ih =>
    intro i acc hi hd ha
    have hlt : i < l.length := by omega
    have ht := num_length_le l[i]
    rw [List.drop_eq_getElem_cons hlt, List.map_cons, List.flatten_cons]
    refine Ev.step (f := fun k => cmd_bytes.l0 k (acc ++ num l[i]) l (l.length : Int) ((i + 1 : Nat) : Int) c.f0 c.f1 c.f2 c.f3 c.f4 c.f5 c.f6 c.f7 c.f8 c.f9) (fun k => ?_) ((ih (i + 1) (acc ++ num l[i]) (by omega) (by omega) (by rw [List.length_append]; omega)).to (by simp only [List.append_assoc]))
    simp only [cmd_bytes.l0]
    rw [if_pos (by omega), if_pos (by omega), if_pos (by omega), show rd l (i : Int) = l[i] by simp [rd, List.getD_eq_getElem?_getD, List.getElem?_eq_getElem hlt], wire_Num_eq]
    simp only [Option.bind_some]
    rw [if_pos (by omega), w64 (by omega) (by omega)]
    rfl
theorem bytes_ev {c : Cmd} (hc : SmallC c) : Ev (fun k => cmd_bytes.f k c.f0 c.f1 c.f2 c.f3 c.f4 c.f5 c.f6 c.f7 c.f8 c.f9) (strOfNums (cmdB c)) := by
  have j : ∀ h, h = hasC c → Ev (fun k => cmd_bytes.j0 k h c.f0 c.f1 c.f2 c.f3 c.f4 c.f5 c.f6 c.f7 c.f8 c.f9) (strOfNums (cmdB c)) := by
    rintro h rfl
    refine Ev.step (f := fun k => cmd_bytes.l0 k [] (numsC c) ((numsC c).length : Int) 0 c.f0 c.f1 c.f2 c.f3 c.f4 c.f5 c.f6 c.f7 c.f8 c.f9) (fun k => by simp only [cmd_bytes.j0, Option.bind_some]; rfl) ?_
    have := bytes_l0 hc (numsC c) (by simp [numsC]) 5 0 [] (by omega) rfl (by simp)
    rw [List.drop_zero, List.nil_append] at this
    exact this
  unfold cmd_bytes.f
  unfold hasC at j
  cases h : c.f9 with
  | true =>
    rw [h] at j
    exact Ev.pos rfl (j 1 (by simp))
  | false =>
    rw [h] at j
    exact Ev.neg Bool.false_ne_true (j 0 (by simp))
def rightCmd (c : Cmd) : Bool := soundC c && decide ((cmdB c).length ≤ 512)
theorem right_ev (c : Cmd) : Ev (fun k => cmd_Right.f k c.f0 c.f1 c.f2 c.f3 c.f4 c.f5 c.f6 c.f7 c.f8 c.f9) (rightCmd c) := by
  unfold cmd_Right.f rightCmd
  refine Ev.bind (sound_ev c) ?_
  cases h : soundC c with
  | false => exact Ev.neg Bool.false_ne_true (Ev.now _)
  | true =>
    refine Ev.pos rfl (Ev.bind (bytes_ev (sound_small h)) ((Ev.now _).to ?_))
    rw [Bool.true_and, decide_eq_decide, strOf_size]
    omega
def putC (c : Cmd) : ByteArray × Int := if soundC c = true then (if (cmdB c).length ≤ 512 then (strOfNums (cmdB c), 0) else (⟨#[]⟩, 7)) else (⟨#[]⟩, 1)
theorem put_ev (c : Cmd) : Ev (fun k => cmd_Put.f k c.f0 c.f1 c.f2 c.f3 c.f4 c.f5 c.f6 c.f7 c.f8 c.f9) (putC c) := by
  unfold cmd_Put.f putC
  refine Ev.bind (sound_ev c) ?_
  cases h : soundC c with
  | false => exact Ev.neg Bool.false_ne_true (Ev.now _)
  | true =>
    refine Ev.pos rfl (Ev.bind (right_ev c) ?_)
    rw [if_pos rfl]
    unfold rightCmd
    rw [h, Bool.true_and]
    by_cases hl : (cmdB c).length ≤ 512
    · rw [if_pos hl, decide_eq_true hl]
      exact Ev.pos rfl (Ev.bind (bytes_ev (sound_small h)) (Ev.now _))
    · rw [if_neg hl, decide_eq_false hl]
      exact Ev.neg Bool.false_ne_true (Ev.now _)
end Go.Proofs.Ytpneppnnhiijnaa.Pl
