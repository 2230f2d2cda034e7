/- The pure statement of the law BlockKeeps. -/
import Derived.Test.YtclmooadpoojeaaBBlockCut
import Derived.Test.YtclmooadpoojeaaBRefSameC
import Derived.KernelRfl
import Derived.Test.YtclmooadpoojeaaXx10
namespace Go.Proofs.Ytclmooadpoojeaa.Pure
open Go.RowKit Go.Proofs.Ytclmooadpoojeaa.X Go.Proofs.Ytclmooadpoojeaa.Pl Go.Proofs.YtclmooadpoojeaaW.PrintWords Go.Proofs.YtclmooadpoojeaaW.PrintLast
theorem awake : Ev (fun k => shardloglaw10_awake.f k) true := Ev.of (fun k => shardloglaw10_awake.mono k) (k := 80) (by kernel_rfl)
theorem rdB_at (x : List (List Cell)) (i : Nat) (h : i < x.length) : rd_L7 x (i : Int) = x[i] := by
 simp [rd_L7, List.getD_eq_getElem?_getD, List.getElem?_eq_getElem h]
theorem keeps_l1 {l : List Cell} {i : Nat} {N : Nat} (hN : i < N) (hN1 : N ≤ 1000000000) (next : ∀ y : List (List Cell), y.length = N → (∀ b ∈ y, b.length ≤ 1000000000) → Ev (fun k => shardloglaw10_BlockKeeps.l0 k l l y ((i + 1 : Nat) : Int)) true) (e : Nat) : ∀ (j : Nat) (y : List (List Cell)) (hy : y.length = N) (_ : ∀ b ∈ y, b.length ≤ 1000000000), j ≤ (y[i]'(by omega)).length → (y[i]'(by omega)).length - j = e → Ev (fun k => shardloglaw10_BlockKeeps.l1 k l l y (i : Int) (j : Int)) true := by
 induction e with
 | zero =>
  intro j y hy hby hj he
  have hyl : i < y.length := by omega
  have hrd := rdB_at y i hyl
  refine Ev.step (f := fun k => shardloglaw10_BlockKeeps.l0 k l l y ((i + 1 : Nat) : Int)) (fun k => ?_) (next y hy hby)
  simp only [shardloglaw10_BlockKeeps.l1]
  rw [if_pos (by omega), if_pos (by omega), hrd, if_neg (by omega), w64 (by omega) (by omega)]
  rfl
 | succ e ih2 =>
  intro j y hy hby hj he
  have hyl : i < y.length := by omega
  have hb1 := hby _ (List.getElem_mem hyl)
  have hrd := rdB_at y i hyl
  refine Ev.step (f := fun k => shardloglaw10_BlockKeeps.l1 k l l (y.set i (y[i].set j (⟨⟨#[]⟩, ⟨#[]⟩, 0, ⟨#[]⟩, false⟩ : Cell))) (i : Int) ((j + 1 : Nat) : Int)) (fun k => ?_) ?_
  ·
   simp only [shardloglaw10_BlockKeeps.l1]
   rw [if_pos (by omega), if_pos (by omega), hrd, if_pos (by omega), if_pos (by omega), w64 (by omega) (by omega), Int.toNat_natCast, Int.toNat_natCast]
   rfl
  ·
   have hlen : ((y.set i (y[i].set j (⟨⟨#[]⟩, ⟨#[]⟩, 0, ⟨#[]⟩, false⟩ : Cell)))[i]'(by rw [List.length_set]; exact hyl)).length = y[i].length := by
    rw [List.getElem_set_self, List.length_set]
   refine ih2 (j + 1) _ (by rw [List.length_set]; exact hy) (fun b hbm => ?_) (by rw [hlen]; omega) (by rw [hlen]; omega)
   rcases List.mem_or_eq_of_mem_set hbm with h | h
   ·
    exact hby _ h
   ·
    rw [h, List.length_set]; exact hb1
theorem keeps_l0 {l : List Cell} (hl : l.length ≤ 1000) (d : Nat) : ∀ (i : Nat) (x : List (List Cell)), i ≤ x.length → x.length - i = d → x.length ≤ 1000000000 → (∀ b ∈ x, b.length ≤ 1000000000) → Ev (fun k => shardloglaw10_BlockKeeps.l0 k l l x (i : Int)) true := by
 induction d with
 | zero =>
  intro i x hi hd hx hb
  refine Ev.step (fun k => by simp only [shardloglaw10_BlockKeeps.l0]; rw [if_neg (by omega)]) (Ev.bind (sameC_ev rfl (by omega)) (Ev.now _))
 | succ d ih =>
  intro i x hi hd hx hb
  refine Ev.step (f := fun k => shardloglaw10_BlockKeeps.l1 k l l x (i : Int) ((0 : Nat) : Int)) (fun k => by simp only [shardloglaw10_BlockKeeps.l0]; rw [if_pos (by omega)]; rfl) ?_
  exact keeps_l1 (N := x.length) (by omega) hx (fun y hy hby => ih (i + 1) y (by omega) (by omega) (by omega) hby) _ 0 x rfl hb (by omega) rfl
theorem goB_mem_length (size : Nat) : ∀ (l now : List Cell) (n : Nat), ∀ b ∈ goB size l now n, b.length ≤ now.length + l.length
 | [], now, n, b, h => by
  unfold goB at h
  split at h
  ·
   cases h
  ·
   rw [List.mem_singleton] at h
   rw [h]; omega
 | c :: l, now, n, b, h => by
  unfold goB at h
  split at h
  ·
   rcases List.mem_cons.1 h with rfl | h
   ·
    simp only [List.length_append, List.length_cons, List.length_nil]; omega
   ·
    have := goB_mem_length size l [] 0 b h
    simp only [List.length_nil, List.length_cons] at this ⊢; omega
  ·
   have := goB_mem_length size l (now ++ [c]) _ b h
   simp only [List.length_append, List.length_cons, List.length_nil] at this ⊢; omega
theorem BlockKeeps : shardloglaw10_BlockKeeps.Pure := by
 intro l _
 refine Ev.rounds ?_
 unfold shardloglaw10_BlockKeeps.f
 refine Ev.bind awake (Ev.pos rfl (Ev.bind ref_Few_ev ?_))
 cases h : fewC l with
 | false => exact Ev.step (f := fun k => (shardloglaw10_awake.f k).bind fun t => some t) (fun k => by simp only [shardloglaw10_BlockKeeps.j0, Bool.not_false, if_true]) (Ev.bind awake (Ev.now _))
 | true =>
  obtain ⟨hn, hr⟩ := fewC_iff.1 h
  have hl := sortC_length l
  have hs := sortC_srt hr
  refine Ev.step (fun k => by simp only [shardloglaw10_BlockKeeps.j0, Bool.not_true, Bool.false_eq_true, if_false]; rfl) ?_
  refine Ev.bind (ref_Sort_ev (fun x hx => sized_of_right (hr x hx)) (by omega)) (Ev.bind (Ev.now _) (Ev.pos (by simp only [List.length_nil]; omega) ?_))
  refine Ev.bind (block_Cut_ev 40 (by omega)) ?_
  rw [List.nil_append]
  unfold cutB
  rw [if_pos ⟨sortedC_iff.2 hs, by omega⟩]
  have hlen := goB_length (40 : Int).toNat (sortC l) [] 0
  exact keeps_l0 (by omega) _ 0 (goB (40 : Int).toNat (sortC l) [] 0) (by omega) rfl (by omega) (fun b hb => by have := goB_mem_length _ (sortC l) [] 0 b hb; simp only [List.length_nil] at this; omega)
end Go.Proofs.Ytclmooadpoojeaa.Pure
