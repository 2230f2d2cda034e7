/- The pure statement of the law FrameScan. -/
import Derived.Test.YtfbkljpfopiegaaBFrame
import Derived.Test.YtfbkljpfopiegaaBRefFrame
import Derived.KernelRfl
import Derived.Test.YtfbkljpfopiegaaXx17
namespace Go.Proofs.Ytfbkljpfopiegaa.Pure
open Go.RowKit Go.Proofs.Ytfbkljpfopiegaa.X Go.Proofs.Ytfbkljpfopiegaa.Pl Go.Proofs.YtfbkljpfopiegaaW.PrintWords Go.Proofs.YtfbkljpfopiegaaW.PrintLast
theorem awake : Ev (fun k => shardloglaw06_awake.f k) true := Ev.of (fun k => shardloglaw06_awake.mono k) (k := 50) (by kernel_rfl)
theorem scan_true (l : List (List Int)) (a : Int) : Ev (fun k => shardloglaw06_FrameScan.j0 k l a true) true :=
  Ev.step (f := fun k => (shardloglaw06_awake.f k).bind fun t => some t) (fun k => by simp only [shardloglaw06_FrameScan.j0, if_true]) (Ev.bind awake (Ev.now _))
/-- A beginning of frames: whole ones, and a rest at which none stands. -/
theorem take_frames : ∀ (l : List (List Int)) (n : Nat), (∀ r ∈ l, r.length ≤ 65535 ∧ Bytes r) → n ≤ (frames l).length → ∃ m s, m ≤ l.length ∧ (frames l).take n = frames (l.take m) ++ s ∧ Bytes s ∧ ¬ okF s ∧ (∀ h : m < l.length, n < (frames (l.take m)).length + (12 + (l[m]).length))
  | [], n, _, h => ⟨0, [], by simp, by simp [frames], Bytes.nil, okF_nil, fun h => by simp at h⟩
  | r :: l, n, hr, h => by
    obtain ⟨hr1, hr2⟩ := hr r (by simp)
    have hf := frame_length hr1
    have hr' : ∀ z ∈ l, z.length ≤ 65535 ∧ Bytes z := fun z hz => hr z (by simp [hz])
    rw [frames_cons] at h ⊢
    by_cases hc : n < (frame r).length
    · refine ⟨0, (frame r).take n, by omega, ?_, (bytes_frame hr2).take n, okF_short hr1 hc, fun _ => ?_⟩
      · rw [List.take_append_of_le_length (by omega)]
        simp [frames]
      · simp only [List.take_zero, frames_nil, List.length_nil, List.getElem_cons_zero]
        omega
    · obtain ⟨m, s, h1, h2, h3, h4, h5⟩ := take_frames l (n - (frame r).length) hr' (by rw [List.length_append] at h; omega)
      refine ⟨m + 1, s, by simp only [List.length_cons]; omega, ?_, h3, h4, fun hlt => ?_⟩
      · rw [List.take_succ_cons, frames_cons, List.append_assoc, ← h2, List.take_append, List.take_of_length_le (by omega)]
      · have h6 := h5 (by simp only [List.length_cons] at hlt; omega)
        rw [List.take_succ_cons, frames_cons, List.length_append]
        simp only [List.getElem_cons_succ]
        omega
theorem FrameScan : shardloglaw06_FrameScan.Pure := by
  intro l cut h0 h1
  obtain ⟨m1, m2, m3⟩ := h0
  obtain ⟨u0, u1⟩ := wf_u16 h1
  refine Ev.rounds ?_
  unfold shardloglaw06_FrameScan.f
  refine Ev.bind awake (Ev.pos rfl ?_)
  obtain ⟨r, he, hr⟩ := few06 (fun s hs => by have := (m3 s hs).2.1; omega) (show l.length ≤ 140737488351232 by omega)
  refine Ev.bind he ?_
  cases r with
  | false => exact scan_true _ _
  | true =>
    obtain ⟨hr1, hr2⟩ := hr rfl
    have hb : ∀ r ∈ l, r.length ≤ 65535 ∧ Bytes r := fun r hr => ⟨by have := length_le_totalB hr; omega, Bytes.of_wf (m3 r hr).2.2⟩
    have hfl := frames_length l (fun r hr => (hb r hr).1)
    have hscan := frame_Scan_ev hb Bytes.nil okF_nil (by rw [List.append_nil]; omega)
    rw [List.append_nil] at hscan
    refine Ev.step (fun k => by simp only [shardloglaw06_FrameScan.j0, Bool.not_true, Bool.false_eq_true, if_false]; rfl) ?_
    refine Ev.bind (frame_All_ev hb (by omega)) (Ev.bind hscan (Ev.bind (ref_Same_ev rfl (show l.length ≤ _ by omega)) (Ev.pos rfl ?_)))
    simp only [bne_self_eq_false]
    obtain ⟨a, rfl⟩ := Int.eq_ofNat_of_zero_le u0
    have hw : wrap64 (((frames l).length : Int) + 1) = (((frames l).length + 1 : Nat) : Int) := by rw [w64 (by omega) (by omega)]; omega
    have hm : Int.tmod (wrap64 (a : Int)) (((frames l).length + 1 : Nat) : Int) = ((a % ((frames l).length + 1) : Nat) : Int) := by
      rw [w64 (by omega) (by omega), Int.tmod_eq_emod_of_nonneg (by omega)]; omega
    have hlt : a % ((frames l).length + 1) < (frames l).length + 1 := Nat.mod_lt _ (by omega)
    generalize hn : a % ((frames l).length + 1) = n at hm hlt
    refine Ev.step (fun k => by simp only [shardloglaw06_FrameScan.j1, Bool.false_eq_true, if_false, hw, hm, Int.toNat_natCast]; rfl) ?_
    refine Ev.neg (by omega) (Ev.pos (by omega) (Ev.pos (by omega) ?_))
    obtain ⟨m, s, g1, g2, g3, g4, g5⟩ := take_frames l n hb (by omega)
    have hbt : ∀ r ∈ l.take m, r.length ≤ 65535 ∧ Bytes r := fun r hr => hb r (List.mem_of_mem_take hr)
    have hlt2 : (l.take m).length = m := by rw [List.length_take]; omega
    have hle : (frames (l.take m) ++ s).length = n := by rw [← g2, List.length_take]; omega
    have hle2 : (frames (l.take m)).length ≤ n := by rw [← hle, List.length_append]; omega
    have hsc := frame_Scan_ev hbt g3 g4 (by omega)
    rw [← g2] at hsc
    have hused : (frames l).take (frames (l.take m)).length = frames (l.take m) := by
      conv => lhs; rw [← List.take_append_drop m l, frames_append]
      rw [List.take_append_drop]
      exact List.take_left
    refine Ev.bind hsc ?_
    simp only [hlt2, Int.toNat_natCast]
    refine Ev.neg (by omega) (Ev.neg (by omega) (Ev.pos (by omega) (Ev.pos (by omega) (Ev.bind (ref_Same_ev rfl (show (l.take m).length ≤ _ by omega)) (Ev.pos rfl (Ev.bind (frame_All_ev hbt (by omega)) (Ev.pos (by omega) (Ev.pos (by omega) (Ev.bind (Ev.eq (Same_eq hused.symm)) (Ev.pos rfl ?_))))))))))
    by_cases hml : m = l.length
    · exact Ev.pos (by omega) (Ev.now _)
    · have hml' : m < l.length := by omega
      have h6 := g5 hml'
      refine Ev.neg (by omega) (Ev.pos (by omega) ((Ev.now _).to ?_))
      rw [rd_L1_at _ _ hml', decide_eq_true_iff]
      have := (hb _ (List.getElem_mem hml')).1
      rw [w64 (x := ((frames (l.take m)).length : Int) + 12) (by omega) (by omega), w64 (by omega) (by omega)]
      omega
end Go.Proofs.Ytfbkljpfopiegaa.Pure
