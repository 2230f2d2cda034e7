/- The printed functions of frame answer what the plain ones do. -/
import Derived.Test.YtfbkljpfopiegaaQFrame
import Derived.Test.YtfbkljpfopiegaaBWireCut
import Derived.Test.YtfbkljpfopiegaaBCheck
import Derived.Test.YtfbkljpfopiegaaBConcat
import Derived.Test.YtfbkljpfopiegaaBEqual
import Derived.Test.YtfbkljpfopiegaaXx2
import Derived.Test.YtfbkljpfopiegaaXx3
import Derived.Test.YtfbkljpfopiegaaXx6
import Derived.Test.YtfbkljpfopiegaaXx7
namespace Go.Proofs.Ytfbkljpfopiegaa.Pl
open Go.RowKit Go.Proofs.Ytfbkljpfopiegaa.X Go.Proofs.YtfbkljpfopiegaaW.PrintWords Go.Proofs.YtfbkljpfopiegaaW.PrintLast Go.Proofs.YtfbkljpfopiegaaW.PrintMore
theorem frame_sum_ev {l : List Int} (hb : Bytes l) (hl : l.length ≤ 140737488355328) : Ev (fun k => frame_sum.f k l) (sumB l) := by
  unfold frame_sum.f
  refine Ev.bind (check_Sum_ev hb hl) ?_
  obtain ⟨h0, h1⟩ := crcSum_in l
  rw [w64 (by omega) (by omega), wire_Num_eq]
  exact Ev.now _
theorem frame_Put_ev {l : List Int} (hb : Bytes l) (hl : l.length ≤ 140737488355328) : Ev (fun k => frame_Put.f k l) (if l.length > 65535 then [] else frame l) := by
  unfold frame_Put.f
  by_cases h : l.length > 65535
  · rw [if_pos h]
    exact Ev.pos (by omega) (Ev.now _)
  · rw [if_neg h]
    refine Ev.neg (by omega) (Ev.bind (Ev.eq (wire_Num_eq _)) (Ev.bind (frame_sum_ev (bytes_num _) (by have := num_length_le l.length; omega)) (Ev.bind (frame_sum_ev hb hl) (Ev.bind (Ev.eq (concat_eq ?_)) ((Ev.now _).to ?_)))))
    · have h1 := num_length_le l.length
      have h2 := sumB_length (num l.length)
      have h3 := sumB_length l
      simp only [lenSum, List.map_cons, List.map_nil, List.sum_cons, List.sum_nil]
      omega
    · simp [frame]
theorem rd_L1_at (l : List (List Int)) (i : Nat) (h : i < l.length) : rd_L1 l (i : Int) = l[i] := by
  simp [rd_L1, List.getD_eq_getElem?_getD, List.getElem?_eq_getElem h]
theorem frame_All_l0 (l : List (List Int)) (hb : ∀ r ∈ l, r.length ≤ 65535 ∧ Bytes r) (hl : l.length ≤ 1000000) (d : Nat) : ∀ (i : Nat) (acc : List Int), i ≤ l.length → l.length - i = d → acc.length ≤ 70000 * i →
    Ev (fun k => frame_All.l0 k acc l (l.length : Int) (i : Int)) (acc ++ frames (l.drop i)) := by
  induction d with
  | zero =>
    intro i acc hi hd ha
    rw [List.drop_eq_nil_of_le (by omega), frames_nil, List.append_nil]
    refine Ev.step (f := fun _ => some acc) (fun k => ?_) (Ev.now _)
    simp only [frame_All.l0]
    rw [if_neg (by omega)]
  | succ d ih =>
    intro i acc hi hd ha
    have h1 : i < l.length := by omega
    obtain ⟨hr1, hr2⟩ := hb _ (List.getElem_mem h1)
    have hf := frame_length hr1
    rw [List.drop_eq_getElem_cons h1, frames_cons, ← List.append_assoc]
    refine Ev.step (f := fun k => (frame_Put.f k l[i]).bind fun t => (if acc.length + t.length < 140737488355328 then (frame_All.l0 k (acc ++ t) l (l.length : Int) ((i + 1 : Nat) : Int)) else none)) (fun k => ?_) (Ev.bind (frame_Put_ev hr2 (by omega)) ?_)
    · simp only [frame_All.l0]
      rw [if_pos (by omega), if_pos (by omega), if_pos (by omega), rd_L1_at _ _ h1, w64 (by omega) (by omega)]
      rfl
    · simp only [if_neg (show ¬ (l[i]).length > 65535 by omega)]
      exact Ev.pos (by omega) (ih (i + 1) (acc ++ frame l[i]) (by omega) (by omega) (by rw [List.length_append]; omega))
theorem frame_All_ev {l : List (List Int)} (hb : ∀ r ∈ l, r.length ≤ 65535 ∧ Bytes r) (hl : l.length ≤ 1000000) : Ev (fun k => frame_All.f k l) (frames l) := by
  unfold frame_All.f
  have := frame_All_l0 l hb hl l.length 0 [] (by omega) (by omega) (by simp)
  simpa using this
theorem head_iff {b : List Int} (hb : Bytes b) (h12 : 12 ≤ b.length) (s : List Int) : b.take 12 = b.take 4 ++ (sumB (b.take 4) ++ sumB s) ↔ val4 (b.drop 4) = crcSum (b.take 4) ∧ val4 (b.drop 8) = crcSum s := by
  have e12 : b.take 12 = b.take 4 ++ ((b.drop 4).take 4 ++ (b.drop 8).take 4) := by
    rw [show 12 = 4 + (4 + 4) from rfl, List.take_add, List.take_add, List.drop_drop]
  have n4 := num_val4 (hb.drop 4) (by rw [List.length_drop]; omega)
  have n8 := num_val4 (hb.drop 8) (by rw [List.length_drop]; omega)
  obtain ⟨a0, a1⟩ := crcSum_in (b.take 4)
  obtain ⟨b0, b1⟩ := crcSum_in s
  obtain ⟨c0, c1⟩ := val4_nonneg (hb.drop 4) (by rw [List.length_drop]; omega)
  obtain ⟨d0, d1⟩ := val4_nonneg (hb.drop 8) (by rw [List.length_drop]; omega)
  rw [e12, List.append_cancel_left_eq, ← n4, ← n8]
  constructor
  · intro h
    have h1 := List.append_inj h (by rw [sumB_length, num_length c0 c1])
    have v1 := congrArg val4 (show num (val4 (b.drop 4)) ++ [] = num (crcSum (b.take 4)) ++ [] by have e := h1.1; unfold sumB at e; rw [e])
    have v2 := congrArg val4 (show num (val4 (b.drop 8)) ++ [] = num (crcSum s) ++ [] by have e := h1.2; unfold sumB at e; rw [e])
    rw [val4_num c0 c1, val4_num a0 a1] at v1
    rw [val4_num d0 d1, val4_num b0 b1] at v2
    exact ⟨v1, v2⟩
  · rintro ⟨h1, h2⟩
    rw [h1, h2]
    rfl
theorem frame_Cut_ev {b : List Int} (hb : Bytes b) (hl : b.length ≤ 140737488355328) : Ev (fun k => frame_Cut.f k b) (cutF b) := by
  have jt : ∀ n l, Ev (fun k => frame_Cut.j0 k n l true) ([], [], false) := fun n l => Ev.step (fun k => by simp only [frame_Cut.j0, if_true]) (Ev.now _)
  unfold frame_Cut.f
  by_cases h : b.length < 12
  · rw [cutF_no (fun ho => by have := ho.1; omega)]
    exact Ev.pos (by omega) (Ev.now _)
  refine Ev.neg (by omega) (Ev.bind (wire_CutNum_ev hb hl) (Ev.pos (by omega) (Ev.bind (Ev.eq (clone_eq (by rw [List.length_drop]; omega))) ?_)))
  obtain ⟨g0, g1⟩ := val4_nonneg hb (by omega)
  have hcn : cutNum b = (val4 b, b.drop 4, true) := by unfold cutNum; rw [if_neg (by omega)]
  rw [hcn]
  simp only
  have hd : ((b.drop 12).length : Int) = (b.length : Int) - 12 := by rw [List.length_drop]; omega
  by_cases h1 : val4 b > 65535
  · rw [cutF_no (fun ho => by have := ho.2.1; omega)]
    exact Ev.pos h1 (jt _ _)
  refine Ev.neg h1 ?_
  by_cases h2 : val4 b > ((b.drop 12).length : Int)
  · rw [cutF_no (fun ho => by have := ho.2.2.1; omega)]
    exact Ev.pos h2 (jt _ _)
  refine Ev.neg h2 (Ev.pos (by omega) (Ev.bind (Ev.now _) (Ev.bind (frame_sum_ev (hb.take 4) (by rw [List.length_take]; omega)) (Ev.pos g0 (Ev.pos (by omega) (Ev.bind (frame_sum_ev ((hb.drop 12).take _) (by rw [List.length_take, List.length_drop]; omega)) ?_))))))
  have s1 := sumB_length (b.take 4)
  have s2 := sumB_length ((b.drop 12).take (val4 b).toNat)
  refine Ev.bind (Ev.eq (concat_eq ?_)) (Ev.bind (equal_ev (by rw [List.length_take]; omega)) ?_)
  · simp only [lenSum, List.map_cons, List.map_nil, List.sum_cons, List.sum_nil, List.length_take]
    omega
  have hc : [b.take 4, sumB (b.take 4), sumB ((b.drop 12).take (val4 b).toNat)].flatten = b.take 4 ++ (sumB (b.take 4) ++ sumB ((b.drop 12).take (val4 b).toNat)) := by simp
  rw [hc]
  have hi := head_iff hb (by omega) ((b.drop 12).take (val4 b).toNat)
  by_cases ho : okF b
  · have h45 : val4 (b.drop 4) = crcSum (b.take 4) ∧ val4 (b.drop 8) = crcSum ((b.drop 12).take (val4 b).toNat) := ⟨ho.2.2.2.1, ho.2.2.2.2⟩
    rw [decide_eq_true (hi.2 h45)]
    unfold cutF
    rw [if_pos ho]
    refine Ev.step (fun k => by simp only [frame_Cut.j0, Bool.not_true, Bool.false_eq_true, if_false]; rfl) (Ev.pos g0 (Ev.pos (by omega) (Ev.now _)))
  · have h45 : ¬ (val4 (b.drop 4) = crcSum (b.take 4) ∧ val4 (b.drop 8) = crcSum ((b.drop 12).take (val4 b).toNat)) := fun hh => ho ⟨by omega, by omega, by omega, hh.1, hh.2⟩
    rw [decide_eq_false (fun e => h45 (hi.1 e)), cutF_no ho]
    exact jt _ _
theorem frame_Scan_l0 : ∀ (l acc : List (List Int)) (s : List Int) (n : Int), (∀ r ∈ l, r.length ≤ 65535 ∧ Bytes r) → Bytes s → ¬ okF s → (frames l ++ s).length ≤ 1000000000 → acc.length + l.length ≤ 1000000000 → 0 ≤ n → n ≤ 1000000000 →
    Ev (fun k => frame_Scan.l0 k (frames l ++ s) acc n) (acc ++ l, n - s.length)
  | [], acc, s, n, hr, hs, ho, hl, ha, hn, hm => by
    rw [frames_nil, List.nil_append, List.append_nil]
    rw [frames_nil, List.nil_append] at hl
    refine Ev.step (fun k => by simp only [frame_Scan.l0]; rfl) (Ev.bind (frame_Cut_ev hs (by omega)) ?_)
    rw [cutF_no ho]
    refine Ev.neg (by simp) ?_
    rw [w64 (by omega) (by omega)]
    exact Ev.now _
  | r :: l, acc, s, n, hr, hs, ho, hl, ha, hn, hm => by
    obtain ⟨hr1, hr2⟩ := hr r (by simp)
    have hf := frame_length hr1
    rw [frames_cons, List.append_assoc] at hl ⊢
    have hb : Bytes (frame r ++ (frames l ++ s)) := (bytes_frame hr2).append ((bytes_frames (fun x hx => (hr x (by simp [hx])).2)).append hs)
    refine Ev.step (fun k => by simp only [frame_Scan.l0]; rfl) (Ev.bind (frame_Cut_ev hb (by omega)) ?_)
    rw [cutF_frame hr1]
    simp only [List.length_cons] at ha
    have := frame_Scan_l0 l (acc ++ [r]) s n (fun x hx => hr x (by simp [hx])) hs ho (by rw [List.length_append] at hl; omega) (by rw [List.length_append]; simp only [List.length_cons, List.length_nil]; omega) hn hm
    rw [List.append_assoc] at this
    exact Ev.pos rfl (Ev.pos (by omega) this)
theorem frame_Scan_ev {l : List (List Int)} {s : List Int} (hr : ∀ r ∈ l, r.length ≤ 65535 ∧ Bytes r) (hs : Bytes s) (ho : ¬ okF s) (hl : (frames l ++ s).length ≤ 1000000000) : Ev (fun k => frame_Scan.f k (frames l ++ s)) (l, ((frames l).length : Int)) := by
  have h12 := frames_length_ge l (fun r hr' => (hr r hr').1)
  unfold frame_Scan.f
  have := frame_Scan_l0 l [] s ((frames l ++ s).length : Int) hr hs ho hl (by rw [List.length_append] at hl; simp only [List.length_nil]; omega) (by omega) (by omega)
  rw [List.nil_append] at this
  exact this.to (by rw [List.length_append, show ((((frames l).length + s.length : Nat) : Int)) - (s.length : Int) = ((frames l).length : Int) by omega])
end Go.Proofs.Ytfbkljpfopiegaa.Pl
