/- Plain laws of frames: no program in sight. -/
import Derived.Test.YtfbkljpfopiegaaQCrc
namespace Go.Proofs.Ytfbkljpfopiegaa.Pl
open Go.RowKit Go.Proofs.YtfbkljpfopiegaaW.PrintWords Go.Proofs.YtfbkljpfopiegaaW.PrintMore

def sumB (b : List Int) : List Int := num (crcSum b)
def frame (r : List Int) : List Int := num r.length ++ (sumB (num r.length) ++ (sumB r ++ r))
def frames (l : List (List Int)) : List Int := (l.map frame).flatten
theorem sumB_length (b : List Int) : (sumB b).length = 4 := by
 obtain ⟨h0, h1⟩ := crcSum_in b
 exact num_length h0 (by omega)
theorem bytes_frame {r : List Int} (h : Bytes r) : Bytes (frame r) := (bytes_num _).append ((bytes_num _).append ((bytes_num _).append h))
theorem frame_length {r : List Int} (h : r.length ≤ 65535) : (frame r).length = 12 + r.length := by
 unfold frame
 rw [List.length_append, List.length_append, List.length_append, sumB_length, sumB_length, num_length (by omega) (by omega)]
 omega
theorem frames_cons (r : List Int) (l : List (List Int)) : frames (r :: l) = frame r ++ frames l := by simp [frames]
theorem frames_nil : frames [] = [] := rfl
theorem bytes_frames : ∀ {l : List (List Int)}, (∀ r ∈ l, Bytes r) → Bytes (frames l)
 | [], _ => Bytes.nil
 | r :: l, h => by rw [frames_cons]; exact (bytes_frame (h r (by simp))).append (bytes_frames (fun x hx => h x (by simp [hx])))
def okF (d : List Int) : Prop := 12 ≤ d.length ∧ val4 d ≤ 65535 ∧ 12 + val4 d ≤ d.length ∧ val4 (d.drop 4) = crcSum (d.take 4) ∧ val4 (d.drop 8) = crcSum ((d.drop 12).take (val4 d).toNat)
instance (d : List Int) : Decidable (okF d) := by unfold okF; infer_instance
def cutF (d : List Int) : List Int × List Int × Bool := if okF d then ((d.drop 12).take (val4 d).toNat, (d.drop 12).drop (val4 d).toNat, true) else ([], [], false)
theorem drop_num {n : Int} (h0 : 0 ≤ n) (h1 : n ≤ 4294967295) (r : List Int) : (num n ++ r).drop 4 = r := by rw [← num_length h0 h1, List.drop_left]
theorem take_num {n : Int} (h0 : 0 ≤ n) (h1 : n ≤ 4294967295) (r : List Int) : (num n ++ r).take 4 = num n := by rw [← num_length h0 h1, List.take_left]
theorem frame_parts {r : List Int} (h : r.length ≤ 65535) (s : List Int) : val4 (frame r ++ s) = r.length ∧ (frame r ++ s).take 4 = num r.length ∧ val4 ((frame r ++ s).drop 4) = crcSum (num r.length) ∧ val4 ((frame r ++ s).drop 8) = crcSum r ∧ (frame r ++ s).drop 12 = r ++ s := by
 have e : frame r ++ s = num r.length ++ (sumB (num r.length) ++ (sumB r ++ (r ++ s))) := by simp [frame]
 obtain ⟨a0, a1⟩ := crcSum_in (num r.length)
 obtain ⟨b0, b1⟩ := crcSum_in r
 have d4 : (frame r ++ s).drop 4 = sumB (num r.length) ++ (sumB r ++ (r ++ s)) := by rw [e]; exact drop_num (by omega) (by omega) _
 have d8 : (frame r ++ s).drop 8 = sumB r ++ (r ++ s) := by rw [show 8 = 4 + 4 from rfl, ← List.drop_drop, d4]; exact drop_num a0 a1 _
 have d12 : (frame r ++ s).drop 12 = r ++ s := by rw [show 12 = 8 + 4 from rfl, ← List.drop_drop, d8]; exact drop_num b0 b1 _
 refine ⟨by rw [e]; exact val4_num (by omega) (by omega) _, by rw [e]; exact take_num (by omega) (by omega) _, by rw [d4]; exact val4_num a0 a1 _, by rw [d8]; exact val4_num b0 b1 _, d12⟩
theorem okF_frame {r : List Int} (h : r.length ≤ 65535) (s : List Int) : okF (frame r ++ s) := by
 obtain ⟨h1, h2, h3, h4, h5⟩ := frame_parts h s
 have hl := frame_length h
 have hn : ((r.length : Nat) : Int).toNat = r.length := by omega
 refine ⟨by rw [List.length_append]; omega, by rw [h1]; omega, by rw [h1, List.length_append]; omega, by rw [h2, h3], ?_⟩
 rw [h4, h5, h1, hn, List.take_left]
theorem cutF_frame {r : List Int} (h : r.length ≤ 65535) (s : List Int) : cutF (frame r ++ s) = (r, s, true) := by
 obtain ⟨h1, h2, h3, h4, h5⟩ := frame_parts h s
 have hn : ((r.length : Nat) : Int).toNat = r.length := by omega
 unfold cutF
 rw [if_pos (okF_frame h s), h1, h5, hn, List.take_left, List.drop_left]
theorem cutF_no {d : List Int} (h : ¬ okF d) : cutF d = ([], [], false) := by
 unfold cutF
 rw [if_neg h]
theorem frames_length_ge (l : List (List Int)) (h : ∀ r ∈ l, r.length ≤ 65535) : 12 * l.length ≤ (frames l).length := by
 induction l with
 | nil => simp [frames]
 | cons r l ih =>
  have := ih (fun x hx => h x (by simp [hx]))
  rw [frames_cons, List.length_append, frame_length (h r (by simp)), List.length_cons]
  omega
def totalB (l : List (List Int)) : Nat := (l.map (·.length)).sum
theorem frames_length (l : List (List Int)) (h : ∀ r ∈ l, r.length ≤ 65535) : (frames l).length = 12 * l.length + totalB l := by
 induction l with
 | nil => simp [frames, totalB]
 | cons r l ih =>
  have := ih (fun x hx => h x (by simp [hx]))
  rw [frames_cons, List.length_append, frame_length (h r (by simp)), List.length_cons, this]
  simp only [totalB, List.map_cons, List.sum_cons]
  omega
theorem length_le_totalB {l : List (List Int)} {r : List Int} (h : r ∈ l) : r.length ≤ totalB l := by
 induction l with
 | nil => cases h
 | cons x l ih =>
  simp only [totalB, List.map_cons, List.sum_cons]
  rcases List.mem_cons.1 h with rfl | h
  ·
   omega
  ·
   have := ih h
   unfold totalB at this
   omega
theorem val4_turned {p : List Int} {x y : Int} {s : List Int} (h4 : (p ++ x :: s).length = 4) (hb : Bytes (p ++ x :: s)) (hc : Bytes (p ++ y :: s)) (hne : x ≠ y) (t u : List Int) : val4 (p ++ x :: s ++ t) ≠ val4 (p ++ y :: s ++ u) := by
 intro h
 have hb4 : (p ++ x :: s) = num (val4 (p ++ x :: s ++ t)) := by
  have hv : val4 (p ++ x :: s ++ t) = val4 (p ++ x :: s) := by
   obtain ⟨a, b, c, d, r, e⟩ := four_form (b := p ++ x :: s) (by omega)
   rw [e]; rfl
  rw [hv, num_val4 hb (by omega), List.take_of_length_le (by omega)]
 have hc4 : (p ++ y :: s) = num (val4 (p ++ y :: s ++ u)) := by
  have hl : (p ++ y :: s).length = 4 := by simpa using h4
  have hv : val4 (p ++ y :: s ++ u) = val4 (p ++ y :: s) := by
   obtain ⟨a, b, c, d, r, e⟩ := four_form (b := p ++ y :: s) (by omega)
   rw [e]; rfl
  rw [hv, num_val4 hc (by omega), List.take_of_length_le (by omega)]
 rw [h, ← hc4] at hb4
 have := List.append_cancel_left hb4
 exact hne (List.cons.inj this).1
def Turn (a b : List Int) : Prop := ∃ p x y s, a = p ++ x :: s ∧ b = p ++ y :: s ∧ x ≠ y
theorem Turn.set {a : List Int} {j : Nat} {y : Int} (hj : j < a.length) (hne : a[j]? ≠ some y) : Turn a (a.set j y) := by
 refine ⟨a.take j, a[j], y, a.drop (j + 1), ?_, ?_, fun e => hne (by rw [List.getElem?_eq_getElem hj, e])⟩
 ·
  rw [← List.drop_eq_getElem_cons hj, List.take_append_drop]
 ·
  rw [List.set_eq_take_append_cons_drop, if_pos hj]
theorem Turn.val4 {a b : List Int} (h : Turn a b) (h4 : a.length = 4) (ha : Bytes a) (hb : Bytes b) (t u : List Int) : Pl.val4 (a ++ t) ≠ Pl.val4 (b ++ u) := by
 obtain ⟨p, x, y, s, rfl, rfl, hne⟩ := h
 exact val4_turned h4 ha hb hne t u
theorem Turn.length {a b : List Int} (h : Turn a b) : b.length = a.length := by
 obtain ⟨p, x, y, s, rfl, rfl, _⟩ := h
 simp
end Go.Proofs.Ytfbkljpfopiegaa.Pl
