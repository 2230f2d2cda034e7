/- Frames: the printed functions answer the plain ones. -/
import Derived.Test.YtfbkljpfopiegaaBFramePut
import Derived.Test.YtfbkljpfopiegaaBFrameCut
import Derived.Test.YtfbkljpfopiegaaXx1
import Derived.Test.YtfbkljpfopiegaaXx3
namespace Go.Proofs.Ytfbkljpfopiegaa.Pl
open Go.RowKit Go.Proofs.Ytfbkljpfopiegaa.X Go.Proofs.YtfbkljpfopiegaaW.PrintWords Go.Proofs.YtfbkljpfopiegaaW.PrintLast Go.Proofs.YtfbkljpfopiegaaW.PrintMore
theorem rd_L1_at (l : List (List Int)) (i : Nat) (h : i < l.length) : rd_L1 l (i : Int) = l[i] := by
 simp [rd_L1, List.getD_eq_getElem?_getD, List.getElem?_eq_getElem h]
theorem frame_All_l0 (l : List (List Int)) (hb : ∀ r ∈ l, r.length ≤ 65535 ∧ Bytes r) (hl : l.length ≤ 1000000) (d : Nat) : ∀ (i : Nat) (acc : List Int), i ≤ l.length → l.length - i = d → acc.length ≤ 70000 * i →
  Ev (fun k => frame_All.l0 k acc l (l.length : Int) (i : Int)) (acc ++ frames (l.drop i)) := by
 induction d with
 | zero =>
  intro i acc hi hd ha
  rw [List.drop_eq_nil_of_le (by omega), frames_nil, List.append_nil]
  refine Ev.step (f := fun _ => some acc) (fun k => ?_) (Ev.now _)
  simp only [frame_All.l0]
  rw [if_neg (by omega)]
 | succ d ih =>
  intro i acc hi hd ha
  have h1 : i < l.length := by omega
  obtain ⟨hr1, hr2⟩ := hb _ (List.getElem_mem h1)
  have hf := frame_length hr1
  rw [List.drop_eq_getElem_cons h1, frames_cons, ← List.append_assoc]
  refine Ev.step (f := fun k => (frame_Put.f k l[i]).bind fun t => (if acc.length + t.length < 140737488355328 then (frame_All.l0 k (acc ++ t) l (l.length : Int) ((i + 1 : Nat) : Int)) else none)) (fun k => ?_) (Ev.bind (frame_Put_ev hr2 (by omega)) ?_)
  ·
   simp only [frame_All.l0]
   rw [if_pos (by omega), if_pos (by omega), if_pos (by omega), rd_L1_at _ _ h1, w64 (by omega) (by omega)]
   rfl
  ·
   simp only [if_neg (show ¬ (l[i]).length > 65535 by omega)]
   exact Ev.pos (by omega) (ih (i + 1) (acc ++ frame l[i]) (by omega) (by omega) (by rw [List.length_append]; omega))
theorem frame_All_ev {l : List (List Int)} (hb : ∀ r ∈ l, r.length ≤ 65535 ∧ Bytes r) (hl : l.length ≤ 1000000) : Ev (fun k => frame_All.f k l) (frames l) := by
 unfold frame_All.f
 have := frame_All_l0 l hb hl l.length 0 [] (by omega) (by omega) (by simp)
 simpa using this
theorem frame_Scan_l0 : ∀ (l acc : List (List Int)) (s : List Int) (n : Int), (∀ r ∈ l, r.length ≤ 65535 ∧ Bytes r) → Bytes s → ¬ okF s → (frames l ++ s).length ≤ 1000000000 → acc.length + l.length ≤ 1000000000 → 0 ≤ n → n ≤ 1000000000 →
  Ev (fun k => frame_Scan.l0 k (frames l ++ s) acc n) (acc ++ l, n - s.length)
 | [], acc, s, n, hr, hs, ho, hl, ha, hn, hm => by
  rw [frames_nil, List.nil_append, List.append_nil]
  rw [frames_nil, List.nil_append] at hl
  refine Ev.step (fun k => by simp only [frame_Scan.l0]; rfl) (Ev.bind (frame_Cut_ev hs (by omega)) ?_)
  rw [cutF_no ho]
  refine Ev.neg (by simp) ?_
  rw [w64 (by omega) (by omega)]
  exact Ev.now _
 | r :: l, acc, s, n, hr, hs, ho, hl, ha, hn, hm => by
  obtain ⟨hr1, hr2⟩ := hr r (by simp)
  have hf := frame_length hr1
  rw [frames_cons, List.append_assoc] at hl ⊢
  have hb : Bytes (frame r ++ (frames l ++ s)) := (bytes_frame hr2).append ((bytes_frames (fun x hx => (hr x (by simp [hx])).2)).append hs)
  refine Ev.step (fun k => by simp only [frame_Scan.l0]; rfl) (Ev.bind (frame_Cut_ev hb (by omega)) ?_)
  rw [cutF_frame hr1]
  simp only [List.length_cons] at ha
  have := frame_Scan_l0 l (acc ++ [r]) s n (fun x hx => hr x (by simp [hx])) hs ho (by rw [List.length_append] at hl; omega) (by rw [List.length_append]; simp only [List.length_cons, List.length_nil]; omega) hn hm
  rw [List.append_assoc] at this
  exact Ev.pos rfl (Ev.pos (by omega) this)
theorem frame_Scan_ev {l : List (List Int)} {s : List Int} (hr : ∀ r ∈ l, r.length ≤ 65535 ∧ Bytes r) (hs : Bytes s) (ho : ¬ okF s) (hl : (frames l ++ s).length ≤ 1000000000) : Ev (fun k => frame_Scan.f k (frames l ++ s)) (l, ((frames l).length : Int)) := by
 have h12 := frames_length_ge l (fun r hr' => (hr r hr').1)
 unfold frame_Scan.f
 have := frame_Scan_l0 l [] s ((frames l ++ s).length : Int) hr hs ho hl (by rw [List.length_append] at hl; simp only [List.length_nil]; omega) (by omega) (by omega)
 rw [List.nil_append] at this
 exact this.to (by rw [List.length_append, show ((((frames l).length + s.length : Nat) : Int)) - (s.length : Int) = ((frames l).length : Int) by omega])
end Go.Proofs.Ytfbkljpfopiegaa.Pl
