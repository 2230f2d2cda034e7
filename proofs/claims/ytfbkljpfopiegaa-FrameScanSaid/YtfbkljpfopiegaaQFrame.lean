/- Plain laws of frames: no program in sight. -/
import Derived.Test.YtfbkljpfopiegaaQCrc
namespace Go.Proofs.Ytfbkljpfopiegaa.Pl
open Go.RowKit Go.Proofs.YtfbkljpfopiegaaW.PrintWords Go.Proofs.YtfbkljpfopiegaaW.PrintMore

def sumB (b : List Int) : List Int := num (crcSum b)
def frame (r : List Int) : List Int := num r.length ++ (sumB (num r.length) ++ (sumB r ++ r))
def frames (l : List (List Int)) : List Int := (l.map frame).flatten
theorem sumB_length (b : List Int) : (sumB b).length = 4 := by
  obtain ⟨h0, h1⟩ := crcSum_in b
  exact num_length h0 (by omega)
theorem bytes_frame {r : List Int} (h : Bytes r) : Bytes (frame r) := (bytes_num _).append ((bytes_num _).append ((bytes_num _).append h))
theorem frame_length {r : List Int} (h : r.length ≤ 65535) : (frame r).length = 12 + r.length := by
  unfold frame
  rw [List.length_append, List.length_append, List.length_append, sumB_length, sumB_length, num_length (by omega) (by omega)]
  omega
theorem frames_cons (r : List Int) (l : List (List Int)) : frames (r :: l) = frame r ++ frames l := by simp [frames]
theorem frames_append (a b : List (List Int)) : frames (a ++ b) = frames a ++ frames b := by simp [frames]
theorem frames_nil : frames [] = [] := rfl
theorem bytes_frames : ∀ {l : List (List Int)}, (∀ r ∈ l, Bytes r) → Bytes (frames l)
  | [], _ => Bytes.nil
  | r :: l, h => by rw [frames_cons]; exact (bytes_frame (h r (by simp))).append (bytes_frames (fun x hx => h x (by simp [hx])))
/-- Does a frame stand at the beginning? -/
def okF (d : List Int) : Prop := 12 ≤ d.length ∧ val4 d ≤ 65535 ∧ 12 + val4 d ≤ d.length ∧ val4 (d.drop 4) = crcSum (d.take 4) ∧ val4 (d.drop 8) = crcSum ((d.drop 12).take (val4 d).toNat)
instance (d : List Int) : Decidable (okF d) := by unfold okF; infer_instance
def cutF (d : List Int) : List Int × List Int × Bool := if okF d then ((d.drop 12).take (val4 d).toNat, (d.drop 12).drop (val4 d).toNat, true) else ([], [], false)
theorem drop_num {n : Int} (h0 : 0 ≤ n) (h1 : n ≤ 4294967295) (r : List Int) : (num n ++ r).drop 4 = r := by rw [← num_length h0 h1, List.drop_left]
theorem take_num {n : Int} (h0 : 0 ≤ n) (h1 : n ≤ 4294967295) (r : List Int) : (num n ++ r).take 4 = num n := by rw [← num_length h0 h1, List.take_left]
theorem frame_parts {r : List Int} (h : r.length ≤ 65535) (s : List Int) : val4 (frame r ++ s) = r.length ∧ (frame r ++ s).take 4 = num r.length ∧ val4 ((frame r ++ s).drop 4) = crcSum (num r.length) ∧ val4 ((frame r ++ s).drop 8) = crcSum r ∧ (frame r ++ s).drop 12 = r ++ s := by
  have e : frame r ++ s = num r.length ++ (sumB (num r.length) ++ (sumB r ++ (r ++ s))) := by simp [frame]
  obtain ⟨a0, a1⟩ := crcSum_in (num r.length)
  obtain ⟨b0, b1⟩ := crcSum_in r
  have d4 : (frame r ++ s).drop 4 = sumB (num r.length) ++ (sumB r ++ (r ++ s)) := by rw [e]; exact drop_num (by omega) (by omega) _
  have d8 : (frame r ++ s).drop 8 = sumB r ++ (r ++ s) := by rw [show 8 = 4 + 4 from rfl, ← List.drop_drop, d4]; exact drop_num a0 a1 _
  have d12 : (frame r ++ s).drop 12 = r ++ s := by rw [show 12 = 8 + 4 from rfl, ← List.drop_drop, d8]; exact drop_num b0 b1 _
  refine ⟨by rw [e]; exact val4_num (by omega) (by omega) _, by rw [e]; exact take_num (by omega) (by omega) _, by rw [d4]; exact val4_num a0 a1 _, by rw [d8]; exact val4_num b0 b1 _, d12⟩
theorem okF_frame {r : List Int} (h : r.length ≤ 65535) (s : List Int) : okF (frame r ++ s) := by
  obtain ⟨h1, h2, h3, h4, h5⟩ := frame_parts h s
  have hl := frame_length h
  have hn : ((r.length : Nat) : Int).toNat = r.length := by omega
  refine ⟨by rw [List.length_append]; omega, by rw [h1]; omega, by rw [h1, List.length_append]; omega, by rw [h2, h3], ?_⟩
  rw [h4, h5, h1, hn, List.take_left]
theorem cutF_frame {r : List Int} (h : r.length ≤ 65535) (s : List Int) : cutF (frame r ++ s) = (r, s, true) := by
  obtain ⟨h1, h2, h3, h4, h5⟩ := frame_parts h s
  have hn : ((r.length : Nat) : Int).toNat = r.length := by omega
  unfold cutF
  rw [if_pos (okF_frame h s), h1, h5, hn, List.take_left, List.drop_left]
theorem okF_back {d : List Int} (hb : Bytes d) (h : okF d) : d = frame (cutF d).1 ++ (cutF d).2.1 ∧ (cutF d).1.length ≤ 65535 ∧ (cutF d).2.2 = true ∧ (cutF d).1.length = (val4 d).toNat := by
  have h' := h
  obtain ⟨h1, h2, h3, h4, h5⟩ := h
  obtain ⟨g0, g1⟩ := val4_nonneg hb (by omega)
  unfold cutF
  rw [if_pos h']
  have hl : ((d.drop 12).take (val4 d).toNat).length = (val4 d).toNat := by rw [List.length_take, List.length_drop]; omega
  refine ⟨?_, by simp only [hl]; omega, rfl, hl⟩
  simp only [frame, hl]
  have hn : (((val4 d).toNat : Nat) : Int) = val4 d := by omega
  have e0 := num_val4 hb (by omega)
  have e4 := num_val4 (hb.drop 4) (by rw [List.length_drop]; omega)
  have e8 := num_val4 (hb.drop 8) (by rw [List.length_drop]; omega)
  rw [h4] at e4
  rw [h5] at e8
  rw [hn, e0]
  simp only [sumB, e4, e8]
  have t4 : (d.drop 4).take 4 ++ (d.drop 8) = d.drop 4 := by
    conv => rhs; rw [← List.take_append_drop 4 (d.drop 4)]
    rw [List.drop_drop]
  have t8 : (d.drop 8).take 4 ++ (d.drop 12) = d.drop 8 := by
    conv => rhs; rw [← List.take_append_drop 4 (d.drop 8)]
    rw [List.drop_drop]
  simp only [List.append_assoc, List.take_append_drop, t8, t4]
theorem cutF_no {d : List Int} (h : ¬ okF d) : cutF d = ([], [], false) := by
  unfold cutF
  rw [if_neg h]
/-- What a scan finds: whole frames, and a rest at which none stands. -/
theorem scan_form : ∀ (n : Nat) (b : List Int), b.length ≤ n → Bytes b → ∃ l s, b = frames l ++ s ∧ (∀ r ∈ l, r.length ≤ 65535 ∧ Bytes r) ∧ Bytes s ∧ ¬ okF s
  | 0, b, h, hb => ⟨[], b, by simp [frames], by simp, hb, fun h2 => by have := h2.1; omega⟩
  | n + 1, b, h, hb => by
    by_cases ho : okF b
    · obtain ⟨h1, h2, _⟩ := okF_back hb ho
      have hl := congrArg List.length h1
      rw [List.length_append, frame_length h2] at hl
      have hb1 := h1 ▸ hb
      have hbs : Bytes (cutF b).2.1 := hb1.of_append_right
      have hbr : Bytes (cutF b).1 := ((hb1.of_append_left.of_append_right).of_append_right).of_append_right
      obtain ⟨l, s, e, hr, hs, hn⟩ := scan_form n (cutF b).2.1 (by omega) hbs
      refine ⟨(cutF b).1 :: l, s, ?_, ?_, hs, hn⟩
      · rw [frames_cons, List.append_assoc, ← e]
        exact h1
      · intro r hr'
        rcases List.mem_cons.1 hr' with rfl | hr'
        · exact ⟨h2, hbr⟩
        · exact hr r hr'
    · exact ⟨[], b, by simp [frames], by simp, hb, ho⟩
theorem frames_length_ge (l : List (List Int)) (h : ∀ r ∈ l, r.length ≤ 65535) : 12 * l.length ≤ (frames l).length := by
  induction l with
  | nil => simp [frames]
  | cons r l ih =>
    have := ih (fun x hx => h x (by simp [hx]))
    rw [frames_cons, List.length_append, frame_length (h r (by simp)), List.length_cons]
    omega
def totalB (l : List (List Int)) : Nat := (l.map (·.length)).sum
theorem frames_length (l : List (List Int)) (h : ∀ r ∈ l, r.length ≤ 65535) : (frames l).length = 12 * l.length + totalB l := by
  induction l with
  | nil => simp [frames, totalB]
  | cons r l ih =>
    have := ih (fun x hx => h x (by simp [hx]))
    rw [frames_cons, List.length_append, frame_length (h r (by simp)), List.length_cons, this]
    simp only [totalB, List.map_cons, List.sum_cons]
    omega
theorem length_le_totalB {l : List (List Int)} {r : List Int} (h : r ∈ l) : r.length ≤ totalB l := by
  induction l with
  | nil => cases h
  | cons x l ih =>
    simp only [totalB, List.map_cons, List.sum_cons]
    rcases List.mem_cons.1 h with rfl | h
    · omega
    · have := ih h
      unfold totalB at this
      omega
theorem okF_nil : ¬ okF [] := fun h => by have := h.1; simp at this
/-- A frame whose end is missing is none. -/
theorem okF_short {r : List Int} (h : r.length ≤ 65535) {m : Nat} (hm : m < (frame r).length) : ¬ okF ((frame r).take m) := by
  intro ho
  obtain ⟨h1, _, h3, _, _⟩ := ho
  have hl := frame_length h
  have hp := (frame_parts h []).1
  rw [List.append_nil] at hp
  have hv : val4 ((frame r).take m) = val4 (frame r) := by
    have hr : ∀ i : Nat, i < 4 → rd ((frame r).take m) (i : Int) = rd (frame r) (i : Int) := by
      intro i hi
      unfold rd
      simp only [Int.toNat_natCast, List.getD_eq_getElem?_getD]
      rw [List.getElem?_take_of_lt (by rw [List.length_take] at h1; omega)]
    have r0 : rd ((frame r).take m) 0 = rd (frame r) 0 := hr 0 (by omega)
    have r1 : rd ((frame r).take m) 1 = rd (frame r) 1 := hr 1 (by omega)
    have r2 : rd ((frame r).take m) 2 = rd (frame r) 2 := hr 2 (by omega)
    have r3 : rd ((frame r).take m) 3 = rd (frame r) 3 := hr 3 (by omega)
    unfold val4
    rw [r0, r1, r2, r3]
  rw [hv, hp, List.length_take] at h3
  omega
theorem val4_turned {p : List Int} {x y : Int} {s : List Int} (h4 : (p ++ x :: s).length = 4) (hb : Bytes (p ++ x :: s)) (hc : Bytes (p ++ y :: s)) (hne : x ≠ y) (t u : List Int) : val4 (p ++ x :: s ++ t) ≠ val4 (p ++ y :: s ++ u) := by
  intro h
  have hb4 : (p ++ x :: s) = num (val4 (p ++ x :: s ++ t)) := by
    have hv : val4 (p ++ x :: s ++ t) = val4 (p ++ x :: s) := by
      obtain ⟨a, b, c, d, r, e⟩ := four_form (b := p ++ x :: s) (by omega)
      rw [e]; rfl
    rw [hv, num_val4 hb (by omega), List.take_of_length_le (by omega)]
  have hc4 : (p ++ y :: s) = num (val4 (p ++ y :: s ++ u)) := by
    have hl : (p ++ y :: s).length = 4 := by simpa using h4
    have hv : val4 (p ++ y :: s ++ u) = val4 (p ++ y :: s) := by
      obtain ⟨a, b, c, d, r, e⟩ := four_form (b := p ++ y :: s) (by omega)
      rw [e]; rfl
    rw [hv, num_val4 hc (by omega), List.take_of_length_le (by omega)]
  rw [h, ← hc4] at hb4
  have := List.append_cancel_left hb4
  exact hne (List.cons.inj this).1
/-- One byte is another. -/
def Turn (a b : List Int) : Prop := ∃ p x y s, a = p ++ x :: s ∧ b = p ++ y :: s ∧ x ≠ y
theorem Turn.set {a : List Int} {j : Nat} {y : Int} (hj : j < a.length) (hne : a[j]? ≠ some y) : Turn a (a.set j y) := by
  refine ⟨a.take j, a[j], y, a.drop (j + 1), ?_, ?_, fun e => hne (by rw [List.getElem?_eq_getElem hj, e])⟩
  · rw [← List.drop_eq_getElem_cons hj, List.take_append_drop]
  · rw [List.set_eq_take_append_cons_drop, if_pos hj]
theorem Turn.val4 {a b : List Int} (h : Turn a b) (h4 : a.length = 4) (ha : Bytes a) (hb : Bytes b) (t u : List Int) : Pl.val4 (a ++ t) ≠ Pl.val4 (b ++ u) := by
  obtain ⟨p, x, y, s, rfl, rfl, hne⟩ := h
  exact val4_turned h4 ha hb hne t u
theorem Turn.crc {a b : List Int} (h : Turn a b) (ha : Bytes a) (hb : Bytes b) : crcSum a ≠ crcSum b := by
  obtain ⟨p, x, y, s, rfl, rfl, hne⟩ := h
  have h1 := ha.of_append_right
  have h2 := hb.of_append_right
  exact crcSum_turned ha.of_append_left (fun z hz => h1 z (by simp [hz])) (h1 x (by simp)) (h2 y (by simp)) hne
theorem Turn.length {a b : List Int} (h : Turn a b) : b.length = a.length := by
  obtain ⟨p, x, y, s, rfl, rfl, _⟩ := h
  simp
theorem bytes_set {a : List Int} (h : Bytes a) {y : Int} (hy : 0 ≤ y ∧ y < 256) (j : Nat) : Bytes (a.set j y) := by
  intro x hx
  rcases List.mem_or_eq_of_mem_set hx with hx | rfl
  · exact h x hx
  · exact hy
theorem four_val {a : List Int} (h : a.length = 4) (t : List Int) : (a ++ t).take 4 = a ∧ (a ++ t).drop 4 = t := by
  rw [← h]
  exact ⟨List.take_left, List.drop_left⟩
theorem okF_turn {r : List Int} (h : r.length ≤ 65535) (hr : Bytes r) {j : Nat} {y : Int} (hj : j < (frame r).length) (hy : 0 ≤ y ∧ y < 256) (hne : (frame r)[j]? ≠ some y) (t : List Int) : ¬ okF ((frame r).set j y ++ t) := by
  have hl := frame_length h
  obtain ⟨a0, a1⟩ := crcSum_in (num r.length)
  obtain ⟨b0, b1⟩ := crcSum_in r
  have nl : (num r.length).length = 4 := num_length (by omega) (by omega)
  have s1 := sumB_length (num r.length)
  have s2 := sumB_length r
  have v0 : ∀ u, val4 (num r.length ++ u) = r.length := val4_num (by omega) (by omega)
  have v1 : ∀ u, val4 (sumB (num r.length) ++ u) = crcSum (num r.length) := val4_num a0 a1
  have v2 : ∀ u, val4 (sumB r ++ u) = crcSum r := val4_num b0 b1
  have hn : ((r.length : Nat) : Int).toNat = r.length := by omega
  intro ho
  obtain ⟨_, _, _, h4, h5⟩ := ho
  by_cases c0 : j < 4
  · have hT : Turn (num r.length) ((num r.length).set j y) := Turn.set (by omega) (by
      intro e
      apply hne
      rw [← e]
      unfold frame
      rw [List.getElem?_append_left (by omega)])
    have e : (frame r).set j y ++ t = (num r.length).set j y ++ (sumB (num r.length) ++ (sumB r ++ (r ++ t))) := by
      unfold frame
      rw [List.set_append_left _ _ (by omega)]
      simp
    rw [e, (four_val (by simp [nl]) _).1, (four_val (by simp [nl]) _).2, v1] at h4
    exact hT.crc (bytes_num _) (bytes_set (bytes_num _) hy j) h4
  by_cases c1 : j < 8
  · have hT : Turn (sumB (num r.length)) ((sumB (num r.length)).set (j - 4) y) := Turn.set (by omega) (by
      intro e
      apply hne
      rw [← e]
      unfold frame
      rw [List.getElem?_append_right (by omega), List.getElem?_append_left (by omega)]
      rw [nl])
    have e : (frame r).set j y ++ t = num r.length ++ ((sumB (num r.length)).set (j - 4) y ++ (sumB r ++ (r ++ t))) := by
      unfold frame
      rw [List.set_append_right _ _ (by omega), nl, List.set_append_left _ _ (by omega)]
      simp
    rw [e, (four_val nl _).1, (four_val nl _).2, ← v1 []] at h4
    exact hT.val4 s1 (bytes_num _) (bytes_set (bytes_num _) hy _) _ _ h4.symm
  by_cases c2 : j < 12
  · have hT : Turn (sumB r) ((sumB r).set (j - 8) y) := Turn.set (by omega) (by
      intro e
      apply hne
      rw [← e]
      unfold frame
      rw [List.getElem?_append_right (by omega), List.getElem?_append_right (by omega), List.getElem?_append_left (by omega)]
      rw [nl, s1, show j - 4 - 4 = j - 8 by omega])
    have e : (frame r).set j y ++ t = num r.length ++ (sumB (num r.length) ++ ((sumB r).set (j - 8) y ++ (r ++ t))) := by
      unfold frame
      rw [List.set_append_right _ _ (by omega), nl, List.set_append_right _ _ (by omega), s1, List.set_append_left _ _ (by omega), show j - 4 - 4 = j - 8 by omega]
      simp
    have d8 : ((frame r).set j y ++ t).drop 8 = (sumB r).set (j - 8) y ++ (r ++ t) := by
      rw [e, show 8 = 4 + 4 from rfl, ← List.drop_drop, (four_val nl _).2, (four_val s1 _).2]
    have d12 : ((frame r).set j y ++ t).drop 12 = r ++ t := by
      rw [show 12 = 8 + 4 from rfl, ← List.drop_drop, d8, (four_val (by simp [s2]) _).2]
    rw [d8, d12, e, v0, hn, List.take_left, ← v2 []] at h5
    exact hT.val4 s2 (bytes_num _) (bytes_set (bytes_num _) hy _) _ _ h5.symm
  · have hT : Turn r (r.set (j - 12) y) := Turn.set (by omega) (by
      intro e
      apply hne
      rw [← e]
      unfold frame
      rw [List.getElem?_append_right (by omega), List.getElem?_append_right (by omega), List.getElem?_append_right (by omega)]
      rw [nl, s1, s2, show j - 4 - 4 - 4 = j - 12 by omega])
    have e : (frame r).set j y ++ t = num r.length ++ (sumB (num r.length) ++ (sumB r ++ (r.set (j - 12) y ++ t))) := by
      unfold frame
      rw [List.set_append_right _ _ (by omega), nl, List.set_append_right _ _ (by omega), s1, List.set_append_right _ _ (by omega), s2, show j - 4 - 4 - 4 = j - 12 by omega]
      simp
    have d8 : ((frame r).set j y ++ t).drop 8 = sumB r ++ (r.set (j - 12) y ++ t) := by
      rw [e, show 8 = 4 + 4 from rfl, ← List.drop_drop, (four_val nl _).2, (four_val s1 _).2]
    have d12 : ((frame r).set j y ++ t).drop 12 = r.set (j - 12) y ++ t := by
      rw [show 12 = 8 + 4 from rfl, ← List.drop_drop, d8, (four_val s2 _).2]
    have hn2 : r.length = (r.set (j - 12) y).length := by simp
    rw [d8, d12, e, v0, hn, v2] at h5
    conv at h5 => rhs; rw [hn2, List.take_left]
    exact hT.crc hr (bytes_set hr hy _) h5
end Go.Proofs.Ytfbkljpfopiegaa.Pl
