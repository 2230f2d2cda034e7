/- The pure statement of the law FrameScans. -/
import Derived.Test.YtfbkljpfopiegaaBFrame
import Derived.Test.YtfbkljpfopiegaaBRefFrame
import Derived.KernelRfl
import Derived.Test.YtfbkljpfopiegaaXx16
namespace Go.Proofs.Ytfbkljpfopiegaa.Pure
open Go.RowKit Go.Proofs.Ytfbkljpfopiegaa.X Go.Proofs.Ytfbkljpfopiegaa.Pl Go.Proofs.YtfbkljpfopiegaaW.PrintWords Go.Proofs.YtfbkljpfopiegaaW.PrintLast
theorem awake : Ev (fun k => shardloglaw06_awake.f k) true := Ev.of (fun k => shardloglaw06_awake.mono k) (k := 50) (by kernel_rfl)
theorem scans_true (l : List Int) : Ev (fun k => shardloglaw06_FrameScans.j0 k l true) true :=
  Ev.step (f := fun k => (shardloglaw06_awake.f k).bind fun t => some t) (fun k => by simp only [shardloglaw06_FrameScans.j0, if_true]) (Ev.bind awake (Ev.now _))
theorem FrameScans : shardloglaw06_FrameScans.Pure := by
  intro b h0
  obtain ⟨m1, m2, m3⟩ := h0
  have hb := Bytes.of_wf m3
  refine Ev.rounds ?_
  unfold shardloglaw06_FrameScans.f
  refine Ev.bind awake (Ev.pos rfl ?_)
  by_cases hs : (b.length : Int) > 5000
  · rw [decide_eq_true hs]
    exact scans_true _
  rw [decide_eq_false hs]
  obtain ⟨l, s, e, hr, hbs, ho⟩ := scan_form b.length b (Nat.le_refl _) hb
  have hll := frames_length_ge l (fun r hr' => (hr r hr').1)
  have hbl : (frames l ++ s).length ≤ 5000 := by rw [← e]; omega
  have hl1 : (frames l).length ≤ 5000 := by rw [List.length_append] at hbl; omega
  refine Ev.step (fun k => by simp only [shardloglaw06_FrameScans.j0, Bool.false_eq_true, if_false]; rfl) ?_
  have hscan := frame_Scan_ev hr hbs ho (by omega)
  have href := ref_FScan_ev hr hbs ho (by omega)
  rw [← e] at hscan href
  refine Ev.bind hscan (Ev.bind href (Ev.bind (frame_Cut_ev hb (by omega)) (Ev.bind (ref_Same_ev rfl (show l.length ≤ _ by omega)) (Ev.pos rfl (Ev.pos rfl ?_)))))
  match l, hr, e with
  | [], _, e =>
    rw [frames_nil, List.nil_append] at e
    rw [← e] at ho
    rw [cutF_no ho]
    refine Ev.step (fun k => by simp [shardloglaw06_FrameScans.j1]) (Ev.now _)
  | r :: l, hr, e =>
    obtain ⟨hr1, hr2⟩ := hr r (by simp)
    have hf := frame_length hr1
    rw [frames_cons, List.append_assoc] at e
    have hc : cutF b = (r, frames l ++ s, true) := by rw [e]; exact cutF_frame hr1 _
    have hd : b.drop (12 + r.length) = frames l ++ s := by rw [e, ← hf]; exact List.drop_left
    have hw : wrap64 (12 + (r.length : Int)) = ((12 + r.length : Nat) : Int) := by rw [w64 (by omega) (by omega)]; omega
    have hlb : 12 + r.length ≤ b.length := by rw [e, List.length_append, hf]; omega
    rw [hc]
    have hbool : (true != decide (((r :: l).length : Int) > 0)) = false := by
      have : ((r :: l).length : Int) > 0 := by simp only [List.length_cons]; omega
      rw [decide_eq_true this]; rfl
    simp only [hbool]
    refine Ev.step (fun k => by simp only [shardloglaw06_FrameScans.j1, Bool.false_eq_true, if_false, if_true, hw]; rfl) ?_
    refine Ev.pos (by simp only [List.length_cons]; omega) (Ev.bind (Ev.eq (Same_eq rfl)) (Ev.pos rfl (Ev.pos (by omega) (Ev.pos (by omega) ?_))))
    exact Ev.bind (Ev.eq (Same_eq hd.symm)) (Ev.now _)
end Go.Proofs.Ytfbkljpfopiegaa.Pure
