/- The pure statement of the law FrameJoin. -/
import Derived.Test.YtfbkljpfopiegaaBFrame
import Derived.Test.YtfbkljpfopiegaaBRefFrame
import Derived.KernelRfl
import Derived.Test.YtfbkljpfopiegaaXx20
namespace Go.Proofs.Ytfbkljpfopiegaa.Pure
open Go.RowKit Go.Proofs.Ytfbkljpfopiegaa.X Go.Proofs.Ytfbkljpfopiegaa.Pl Go.Proofs.YtfbkljpfopiegaaW.PrintWords Go.Proofs.YtfbkljpfopiegaaW.PrintLast
theorem awake : Ev (fun k => shardloglaw06_awake.f k) true := Ev.of (fun k => shardloglaw06_awake.mono k) (k := 50) (by kernel_rfl)
theorem join_true (l m : List (List Int)) : Ev (fun k => shardloglaw06_FrameJoin.j0 k l m true) true :=
  Ev.step (f := fun k => (shardloglaw06_awake.f k).bind fun t => some t) (fun k => by simp only [shardloglaw06_FrameJoin.j0, if_true]) (Ev.bind awake (Ev.now _))
theorem join_l0 {l : List (List Int)} (hb : ∀ r ∈ l, r.length ≤ 65535 ∧ Bytes r) (hl : l.length ≤ 1000) : ∀ (rest done : List (List Int)), l = done ++ rest → (frames rest).length ≤ 100000 → Ev (fun k => shardloglaw06_FrameJoin.l0 k (frames rest) l (done.length : Int)) true
  | [], done, e, _ => by
    rw [List.append_nil] at e
    refine Ev.step (f := fun _ => some true) (fun k => ?_) (Ev.now _)
    simp only [shardloglaw06_FrameJoin.l0]
    rw [if_neg (by rw [e]; omega)]
    rfl
  | r :: rest, done, e, h => by
    have hlt : done.length < l.length := by rw [e, List.length_append, List.length_cons]; omega
    have hget : l[done.length] = r := by simp [e]
    obtain ⟨hr1, hr2⟩ := hb r (by rw [e]; simp)
    have hrd : rd_L1 l (done.length : Int) = r := by rw [rd_L1_at _ _ hlt, hget]
    have hw1 : wrap64 ((done.length : Int) + 1) = (((done ++ [r]).length : Nat) : Int) := by rw [w64 (by omega) (by omega), List.length_append]; simp
    have hbf : Bytes (frames (r :: rest)) := bytes_frames (fun x hx => (hb x (by rw [e]; exact List.mem_append_right _ hx)).2)
    have hn := join_l0 hb hl rest (done ++ [r]) (by rw [e]; simp) (by rw [frames_cons, List.length_append] at h; omega)
    have hcut := frame_Cut_ev hbf (by omega)
    rw [frames_cons, cutF_frame hr1] at hcut
    refine Ev.step (f := fun k => (frame_Cut.f k (frames (r :: rest))).bind fun bt457 => (if bt457.2.2 = true then (if 0 ≤ (done.length : Int) then ((shardlogref01_Same.f bt457.1 r).bind fun t465 => (if t465 = true then (shardloglaw06_FrameJoin.l0 k bt457.2.1 l (((done ++ [r]).length : Nat) : Int)) else (none))) else (none)) else (none))) (fun k => ?_) ?_
    · simp only [shardloglaw06_FrameJoin.l0]
      rw [if_pos (by omega), hrd, hw1]
    · rw [frames_cons]
      exact Ev.bind hcut (Ev.pos rfl (Ev.pos (by omega) (Ev.bind (Ev.eq (Same_eq rfl)) (Ev.pos rfl hn))))
theorem FrameJoin : shardloglaw06_FrameJoin.Pure := by
  intro l m h0 h1
  obtain ⟨m1, m2, m3⟩ := h0
  obtain ⟨q1, q2, q3⟩ := h1
  refine Ev.rounds ?_
  unfold shardloglaw06_FrameJoin.f
  refine Ev.bind awake (Ev.pos rfl ?_)
  obtain ⟨r, he, hr⟩ := few06 (fun s hs => by have := (m3 s hs).2.1; omega) (show l.length ≤ 140737488351232 by omega)
  obtain ⟨s, ge, gs⟩ := few06 (fun s hs => by have := (q3 s hs).2.1; omega) (show m.length ≤ 140737488351232 by omega)
  refine Ev.bind he ?_
  cases r with
  | false => exact Ev.neg (by simp) (join_true _ _)
  | true =>
    refine Ev.pos rfl (Ev.bind ge ?_)
    cases s with
    | false => exact join_true _ _
    | true =>
      obtain ⟨hr1, hr2⟩ := hr rfl
      obtain ⟨gs1, gs2⟩ := gs rfl
      have hb : ∀ r ∈ l, r.length ≤ 65535 ∧ Bytes r := fun r hr => ⟨by have := length_le_totalB hr; omega, Bytes.of_wf (m3 r hr).2.2⟩
      have gb : ∀ r ∈ m, r.length ≤ 65535 ∧ Bytes r := fun r hr => ⟨by have := length_le_totalB hr; omega, Bytes.of_wf (q3 r hr).2.2⟩
      have hlm : ∀ r ∈ l ++ m, r.length ≤ 65535 ∧ Bytes r := fun r hr => (List.mem_append.1 hr).elim (hb r) (gb r)
      have f1 := frames_length l (fun r hr => (hb r hr).1)
      have f2 := frames_length m (fun r hr => (gb r hr).1)
      have f3 : (frames (l ++ m)).length = (frames l).length + (frames m).length := by rw [frames_append, List.length_append]
      have hscan := frame_Scan_ev hlm Bytes.nil okF_nil (by rw [List.append_nil]; omega)
      rw [List.append_nil] at hscan
      refine Ev.step (fun k => by simp only [shardloglaw06_FrameJoin.j0, Bool.not_true, Bool.false_eq_true, if_false]; rfl) ?_
      refine Ev.bind (Ev.now _) (Ev.bind (frame_All_ev hb (by omega)) (Ev.pos (by simp only [List.length_nil]; omega) (Ev.bind (Ev.now _) (Ev.bind (frame_All_ev gb (by omega)) (Ev.pos (by simp only [List.nil_append]; omega) (Ev.bind (Ev.now _) (Ev.bind (Ev.now _) (Ev.pos (by simp only [List.length_nil]; omega) (Ev.bind (Ev.now _) (Ev.pos (by simp only [List.nil_append]; omega) (Ev.bind (Ev.now _) ?_)))))))))))
      simp only [List.nil_append]
      rw [← frames_append]
      refine Ev.bind hscan (Ev.bind (ref_Same_ev rfl (show (l ++ m).length ≤ _ by rw [List.length_append]; omega)) (Ev.pos rfl ?_))
      simp only [bne_self_eq_false]
      refine Ev.step (fun k => by simp only [shardloglaw06_FrameJoin.j1, Bool.false_eq_true, if_false]; rfl) ?_
      exact join_l0 hlm (by rw [List.length_append]; omega) (l ++ m) [] rfl (by omega)
end Go.Proofs.Ytfbkljpfopiegaa.Pure
