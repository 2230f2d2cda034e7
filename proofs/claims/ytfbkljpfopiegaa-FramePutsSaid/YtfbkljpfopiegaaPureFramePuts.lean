/- The pure statement of the law FramePuts. -/
import Derived.Test.YtfbkljpfopiegaaBFrame
import Derived.Test.YtfbkljpfopiegaaBRefFrame
import Derived.KernelRfl
import Derived.Test.YtfbkljpfopiegaaXx12
namespace Go.Proofs.Ytfbkljpfopiegaa.Pure
open Go.RowKit Go.Proofs.Ytfbkljpfopiegaa.X Go.Proofs.Ytfbkljpfopiegaa.Pl Go.Proofs.YtfbkljpfopiegaaW.PrintWords Go.Proofs.YtfbkljpfopiegaaW.PrintLast
theorem awake : Ev (fun k => shardloglaw06_awake.f k) true := Ev.of (fun k => shardloglaw06_awake.mono k) (k := 50) (by kernel_rfl)
theorem puts_true (l : List (List Int)) (a1 : Bool) : Ev (fun k => shardloglaw06_FramePuts.j0 k l a1 true) true :=
  Ev.step (f := fun k => (shardloglaw06_awake.f k).bind fun t => some t) (fun k => by simp only [shardloglaw06_FramePuts.j0, if_true]) (Ev.bind awake (Ev.now _))
theorem puts_j2 {l : List (List Int)} (hb : ∀ r ∈ l, r.length ≤ 65535 ∧ Bytes r) (hl : l.length ≤ 100) : Ev (fun k => shardloglaw06_FramePuts.j2 k l (frames l) false) true := by
  refine Ev.step (fun k => by simp only [shardloglaw06_FramePuts.j2, Bool.false_eq_true, if_false]; rfl) ?_
  exact Ev.bind (frame_All_ev hb (by omega)) (Ev.bind (Ev.eq (Same_eq rfl)) (Ev.now _))
theorem zeros_bytes (n : Nat) : Bytes (List.replicate n 0) := by
  intro x hx
  rw [List.eq_of_mem_replicate hx]
  decide
theorem puts_end {l : List (List Int)} (a1 : Bool) (hb : ∀ r ∈ l, r.length ≤ 65535 ∧ Bytes r) (hl : l.length ≤ 100) : Ev (fun k => if a1 = true then (if 65536 ≤ 281474976710656 then ((frame_Put.f k (List.replicate 65536 0)).bind fun t303 => (if (t303.length : Int) = 0 then (if 65535 ≤ 281474976710656 then ((frame_Put.f k (List.replicate 65535 0)).bind fun t309 => (shardloglaw06_FramePuts.j2 k l (frames l) ((t309.length : Int) != 65547))) else (none)) else (shardloglaw06_FramePuts.j2 k l (frames l) true))) else (none)) else (shardloglaw06_FramePuts.j2 k l (frames l) false)) true := by
  by_cases h : a1 = true
  · have l1 : (List.replicate 65536 (0 : Int)).length = 65536 := List.length_replicate
    have l2 : (List.replicate 65535 (0 : Int)).length = 65535 := List.length_replicate
    have p1 := frame_Put_ev (zeros_bytes 65536) (by rw [l1]; omega)
    have p2 := frame_Put_ev (zeros_bytes 65535) (by rw [l2]; omega)
    rw [if_pos (by rw [l1]; omega)] at p1
    rw [if_neg (by rw [l2]; omega)] at p2
    have l3 : ((frame (List.replicate 65535 0)).length : Int) = 65547 := by rw [frame_length (by rw [l2]; omega), l2]; rfl
    refine Ev.pos h (Ev.pos (by omega) (Ev.bind p1 (Ev.pos rfl (Ev.pos (by omega) (Ev.bind p2 ?_)))))
    rw [l3]
    exact puts_j2 hb hl
  · exact Ev.neg h (puts_j2 hb hl)
theorem puts_l0 {l : List (List Int)} (a1 : Bool) (hb : ∀ r ∈ l, r.length ≤ 5000 ∧ Bytes r) (hl : l.length ≤ 100) (d : Nat) : ∀ i : Nat, i ≤ l.length → l.length - i = d → Ev (fun k => shardloglaw06_FramePuts.l0 k l a1 (frames (l.take i)) (i : Int)) true := by
  have hb' : ∀ r ∈ l, r.length ≤ 65535 ∧ Bytes r := fun r hr => ⟨Nat.le_trans (hb r hr).1 (by omega), (hb r hr).2⟩
  induction d with
  | zero =>
    intro i hi hd
    rw [List.take_of_length_le (by omega)]
    refine Ev.step (fun k => ?_) (puts_end a1 hb' hl)
    simp only [shardloglaw06_FramePuts.l0]
    rw [if_neg (by omega)]
  | succ d ih =>
    intro i hi hd
    have h1 : i < l.length := by omega
    obtain ⟨hr1, hr2⟩ := hb _ (List.getElem_mem h1)
    have hf := frame_length (r := l[i]) (by omega)
    have hft := frames_length (l.take i) (fun r hr => (hb' r (List.mem_of_mem_take hr)).1)
    have hlt : (l.take i).length = i := by rw [List.length_take]; omega
    have htot : totalB (l.take i) ≤ 5000 * i := by
      have : ∀ (m : List (List Int)), (∀ r ∈ m, r.length ≤ 5000) → totalB m ≤ 5000 * m.length := by
        intro m
        induction m with
        | nil => intro _; simp [totalB]
        | cons x m ihm =>
          intro hm
          have h2 := ihm (fun r hr => hm r (by simp [hr]))
          have h3 := hm x (by simp)
          simp only [totalB, List.map_cons, List.sum_cons, List.length_cons] at h2 ⊢
          omega
      have h4 := this (l.take i) (fun r hr => (hb r (List.mem_of_mem_take hr)).1)
      rw [hlt] at h4
      exact h4
    have ht : frames (l.take (i + 1)) = frames (l.take i) ++ frame l[i] := by
      rw [List.take_succ_eq_append_getElem h1, frames_append]
      simp [frames]
    have hn := ih (i + 1) (by omega) (by omega)
    rw [ht] at hn
    refine Ev.step (f := fun k => (frame_Put.f k l[i]).bind fun t285 => ((shardlogref06_Put.f k l[i]).bind fun t289 => ((shardlogref01_Same.f t285 t289).bind fun t292 => (if t292 = true then ((shardlogref06_Put.f k l[i]).bind fun t294 => (if (frames (l.take i)).length + t294.length < 140737488355328 then (shardloglaw06_FramePuts.l0 k l a1 (frames (l.take i) ++ t294) ((i + 1 : Nat) : Int)) else (none))) else (none))))) (fun k => ?_) ?_
    · simp only [shardloglaw06_FramePuts.l0]
      rw [if_pos (by omega), if_pos (by omega), rd_L1_at _ _ h1, w64 (by omega) (by omega)]
      rfl
    · refine Ev.bind (frame_Put_ev hr2 (by omega)) ?_
      rw [if_neg (by omega)]
      refine Ev.bind (ref_FPut_ev hr2 (by omega)) (Ev.bind (Ev.eq (Same_eq rfl)) (Ev.pos rfl (Ev.bind (ref_FPut_ev hr2 (by omega)) ?_)))
      exact Ev.pos (by omega) hn
theorem FramePuts : shardloglaw06_FramePuts.Pure := by
  intro l a1 h0
  obtain ⟨m1, m2, m3⟩ := h0
  refine Ev.rounds ?_
  unfold shardloglaw06_FramePuts.f
  refine Ev.bind awake (Ev.pos rfl ?_)
  obtain ⟨r, he, hr⟩ := few06 (fun s hs => by have := (m3 s hs).2.1; omega) (show l.length ≤ 140737488351232 by omega)
  refine Ev.bind he ?_
  cases r with
  | false => exact puts_true _ _
  | true =>
    obtain ⟨hr1, hr2⟩ := hr rfl
    refine Ev.step (fun k => by simp only [shardloglaw06_FramePuts.j0, Bool.not_true, Bool.false_eq_true, if_false]; rfl) ?_
    have := puts_l0 a1 (l := l) (fun r hr => ⟨Nat.le_trans (length_le_totalB hr) hr2, Bytes.of_wf (m3 r hr).2.2⟩) hr1 l.length 0 (by omega) (by omega)
    exact this
end Go.Proofs.Ytfbkljpfopiegaa.Pure
