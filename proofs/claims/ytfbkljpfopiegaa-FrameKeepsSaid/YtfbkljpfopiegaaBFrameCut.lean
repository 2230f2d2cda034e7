/- Frames: cut: the printed function answers the plain one. -/
import Derived.Test.YtfbkljpfopiegaaBFramePut
import Derived.Test.YtfbkljpfopiegaaXx2
namespace Go.Proofs.Ytfbkljpfopiegaa.Pl
open Go.RowKit Go.Proofs.Ytfbkljpfopiegaa.X Go.Proofs.YtfbkljpfopiegaaW.PrintWords Go.Proofs.YtfbkljpfopiegaaW.PrintLast Go.Proofs.YtfbkljpfopiegaaW.PrintMore
theorem head_iff {b : List Int} (hb : Bytes b) (h12 : 12 ≤ b.length) (s : List Int) : b.take 12 = b.take 4 ++ (sumB (b.take 4) ++ sumB s) ↔ val4 (b.drop 4) = crcSum (b.take 4) ∧ val4 (b.drop 8) = crcSum s := by
 have e12 : b.take 12 = b.take 4 ++ ((b.drop 4).take 4 ++ (b.drop 8).take 4) := by
  rw [show 12 = 4 + (4 + 4) from rfl, List.take_add, List.take_add, List.drop_drop]
 have n4 := num_val4 (hb.drop 4) (by rw [List.length_drop]; omega)
 have n8 := num_val4 (hb.drop 8) (by rw [List.length_drop]; omega)
 obtain ⟨a0, a1⟩ := crcSum_in (b.take 4)
 obtain ⟨b0, b1⟩ := crcSum_in s
 obtain ⟨c0, c1⟩ := val4_nonneg (hb.drop 4) (by rw [List.length_drop]; omega)
 obtain ⟨d0, d1⟩ := val4_nonneg (hb.drop 8) (by rw [List.length_drop]; omega)
 rw [e12, List.append_cancel_left_eq, ← n4, ← n8]
 constructor
 ·
  intro h
  have h1 := List.append_inj h (by rw [sumB_length, num_length c0 c1])
  have v1 := congrArg val4 (show num (val4 (b.drop 4)) ++ [] = num (crcSum (b.take 4)) ++ [] by have e := h1.1; unfold sumB at e; rw [e])
  have v2 := congrArg val4 (show num (val4 (b.drop 8)) ++ [] = num (crcSum s) ++ [] by have e := h1.2; unfold sumB at e; rw [e])
  rw [val4_num c0 c1, val4_num a0 a1] at v1
  rw [val4_num d0 d1, val4_num b0 b1] at v2
  exact ⟨v1, v2⟩
 ·
  rintro ⟨h1, h2⟩
  rw [h1, h2]
  rfl
theorem frame_Cut_ev {b : List Int} (hb : Bytes b) (hl : b.length ≤ 140737488355328) : Ev (fun k => frame_Cut.f k b) (cutF b) := by
 have jt : ∀ n l, Ev (fun k => frame_Cut.j0 k n l true) ([], [], false) := fun n l => Ev.step (fun k => by simp only [frame_Cut.j0, if_true]) (Ev.now _)
 unfold frame_Cut.f
 by_cases h : b.length < 12
 ·
  rw [cutF_no (fun ho => by have := ho.1; omega)]
  exact Ev.pos (by omega) (Ev.now _)
 refine Ev.neg (by omega) (Ev.bind (wire_CutNum_ev hb hl) (Ev.pos (by omega) (Ev.bind (Ev.eq (clone_eq (by rw [List.length_drop]; omega))) ?_)))
 obtain ⟨g0, g1⟩ := val4_nonneg hb (by omega)
 have hcn : cutNum b = (val4 b, b.drop 4, true) := by unfold cutNum; rw [if_neg (by omega)]
 rw [hcn]
 simp only
 have hd : ((b.drop 12).length : Int) = (b.length : Int) - 12 := by rw [List.length_drop]; omega
 by_cases h1 : val4 b > 65535
 ·
  rw [cutF_no (fun ho => by have := ho.2.1; omega)]
  exact Ev.pos h1 (jt _ _)
 refine Ev.neg h1 ?_
 by_cases h2 : val4 b > ((b.drop 12).length : Int)
 ·
  rw [cutF_no (fun ho => by have := ho.2.2.1; omega)]
  exact Ev.pos h2 (jt _ _)
 refine Ev.neg h2 (Ev.pos (by omega) (Ev.bind (Ev.now _) (Ev.bind (frame_sum_ev (hb.take 4) (by rw [List.length_take]; omega)) (Ev.pos g0 (Ev.pos (by omega) (Ev.bind (frame_sum_ev ((hb.drop 12).take _) (by rw [List.length_take, List.length_drop]; omega)) ?_))))))
 have s1 := sumB_length (b.take 4)
 have s2 := sumB_length ((b.drop 12).take (val4 b).toNat)
 refine Ev.bind (Ev.eq (concat_eq ?_)) (Ev.bind (equal_ev (by rw [List.length_take]; omega)) ?_)
 ·
  simp only [lenSum, List.map_cons, List.map_nil, List.sum_cons, List.sum_nil, List.length_take]
  omega
 have hc : [b.take 4, sumB (b.take 4), sumB ((b.drop 12).take (val4 b).toNat)].flatten = b.take 4 ++ (sumB (b.take 4) ++ sumB ((b.drop 12).take (val4 b).toNat)) := by simp
 rw [hc]
 have hi := head_iff hb (by omega) ((b.drop 12).take (val4 b).toNat)
 by_cases ho : okF b
 ·
  have h45 : val4 (b.drop 4) = crcSum (b.take 4) ∧ val4 (b.drop 8) = crcSum ((b.drop 12).take (val4 b).toNat) := ⟨ho.2.2.2.1, ho.2.2.2.2⟩
  rw [decide_eq_true (hi.2 h45)]
  unfold cutF
  rw [if_pos ho]
  refine Ev.step (fun k => by simp only [frame_Cut.j0, Bool.not_true, Bool.false_eq_true, if_false]; rfl) (Ev.pos g0 (Ev.pos (by omega) (Ev.now _)))
 ·
  have h45 : ¬ (val4 (b.drop 4) = crcSum (b.take 4) ∧ val4 (b.drop 8) = crcSum ((b.drop 12).take (val4 b).toNat)) := fun hh => ho ⟨by omega, by omega, by omega, hh.1, hh.2⟩
  rw [decide_eq_false (fun e => h45 (hi.1 e)), cutF_no ho]
  exact jt _ _
end Go.Proofs.Ytfbkljpfopiegaa.Pl
