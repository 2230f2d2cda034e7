/- The pure statement of the law BlockCuts. -/
import Derived.Test.YtclmooadpoojeaaBBlockCut
import Derived.Test.YtclmooadpoojeaaBRefSameC
import Derived.KernelRfl
import Derived.Test.YtclmooadpoojeaaXx10
namespace Go.Proofs.Ytclmooadpoojeaa.Pure
open Go.RowKit Go.Proofs.Ytclmooadpoojeaa.X Go.Proofs.Ytclmooadpoojeaa.Pl Go.Proofs.YtclmooadpoojeaaW.PrintWords Go.Proofs.YtclmooadpoojeaaW.PrintLast
theorem awake : Ev (fun k => shardloglaw10_awake.f k) true := Ev.of (fun k => shardloglaw10_awake.mono k) (k := 80) (by kernel_rfl)
theorem cuts_l0 (x : List (List Cell)) (hb : ∀ l ∈ x, l.length ≤ 1000000000) (hx : x.length ≤ 1000000000) (d : Nat) : ∀ i : Nat, i ≤ x.length → x.length - i = d → Ev (fun k => shardloglaw10_BlockCuts.l0 k x x (i : Int)) true := by
 induction d with
 | zero =>
  intro i hi hd
  refine Ev.step (f := fun _ => some true) (fun k => ?_) (Ev.now _)
  simp only [shardloglaw10_BlockCuts.l0]
  rw [if_neg (by omega)]
 | succ d ih =>
  intro i hi hd
  have hlt : i < x.length := by omega
  have hr : rd_L7 x (i : Int) = x[i] := by
   simp [rd_L7, List.getD_eq_getElem?_getD, List.getElem?_eq_getElem hlt]
  refine Ev.step (fun k => by simp only [shardloglaw10_BlockCuts.l0]; rw [if_pos (by omega), if_pos (by omega), if_pos (by omega), hr]) (Ev.bind (sameC_ev rfl (hb _ (List.getElem_mem hlt))) (Ev.pos rfl ?_))
  rw [w64 (by omega) (by omega)]
  exact ih (i + 1) (by omega) (by omega)
theorem goB_mem_length (size : Nat) : ∀ (l now : List Cell) (n : Nat), ∀ b ∈ goB size l now n, b.length ≤ now.length + l.length
 | [], now, n, b, h => by
  unfold goB at h
  split at h
  ·
   cases h
  ·
   rw [List.mem_singleton] at h
   rw [h]; omega
 | c :: l, now, n, b, h => by
  unfold goB at h
  split at h
  ·
   rcases List.mem_cons.1 h with rfl | h
   ·
    simp only [List.length_append, List.length_cons, List.length_nil]; omega
   ·
    have := goB_mem_length size l [] 0 b h
    simp only [List.length_nil, List.length_cons] at this ⊢; omega
  ·
   have := goB_mem_length size l (now ++ [c]) _ b h
   simp only [List.length_append, List.length_cons, List.length_nil] at this ⊢; omega
theorem cuts_j1 {l : List Cell} (size : Int) (hr : RightsC l) (hl : l.length ≤ 80) : Ev (fun k => shardloglaw10_BlockCuts.j1 k l size) true := by
 refine Ev.step (fun k => by simp only [shardloglaw10_BlockCuts.j1]; rfl) (Ev.bind (block_Cut_ev size (by omega)) (Ev.bind (ref_Sorted_ev (fun x hx => sized_of_right (hr x hx)) (by omega)) ?_))
 have jt : ¬ (sortedC l = true ∧ 1 ≤ size) → Ev (fun k => shardloglaw10_BlockCuts.j2 k l size (cutB size l).1 (cutB size l).2 true) true := fun h => by
  unfold cutB
  rw [if_neg h]
  refine Ev.step (f := fun _ => some true) (fun k => ?_) (Ev.now _)
  simp only [shardloglaw10_BlockCuts.j2, if_true]
  rfl
 cases hs : sortedC l with
 | false =>
  exact Ev.neg Bool.false_ne_true (jt (by rw [hs]; simp))
 | true =>
  refine Ev.pos rfl ?_
  by_cases h1 : size < 1
  ·
   rw [decide_eq_true h1]
   exact jt (by omega)
  ·
   rw [decide_eq_false h1]
   unfold cutB
   rw [if_pos ⟨hs, by omega⟩]
   refine Ev.step (fun k => by simp only [shardloglaw10_BlockCuts.j2, Bool.false_eq_true, if_false]; rfl) (Ev.bind (ref_Cut_ev size (by omega) hr (by omega)) (Ev.pos trivial ?_))
   rw [bne_self_eq_false]
   have hlen := goB_length size.toNat l [] 0
   refine Ev.step (fun k => by simp only [shardloglaw10_BlockCuts.j3, Bool.false_eq_true, if_false]; rfl) ?_
   exact cuts_l0 _ (fun b hb => by have := goB_mem_length size.toNat l [] 0 b hb; simp only [List.length_nil] at this; omega) (by omega) _ 0 (by omega) rfl
theorem BlockCuts : shardloglaw10_BlockCuts.Pure := by
 intro l size s _ _
 refine Ev.rounds ?_
 unfold shardloglaw10_BlockCuts.f
 refine Ev.bind awake (Ev.pos rfl (Ev.bind ref_Few_ev ?_))
 cases h : fewC l with
 | false => exact Ev.step (f := fun k => (shardloglaw10_awake.f k).bind fun t => some t) (fun k => by simp only [shardloglaw10_BlockCuts.j0, Bool.not_false, if_true]) (Ev.bind awake (Ev.now _))
 | true =>
  obtain ⟨hn, hr⟩ := fewC_iff.1 h
  refine Ev.step (fun k => by simp only [shardloglaw10_BlockCuts.j0, Bool.not_true, Bool.false_eq_true, if_false]; rfl) ?_
  have hl := sortC_length l
  cases s with
  | true => exact Ev.pos rfl (Ev.bind (ref_Sort_ev (fun x hx => sized_of_right (hr x hx)) (by omega)) (cuts_j1 size (sortC_srt hr).1 (by omega)))
  | false => exact Ev.neg Bool.false_ne_true (cuts_j1 size hr hn)
end Go.Proofs.Ytclmooadpoojeaa.Pure
