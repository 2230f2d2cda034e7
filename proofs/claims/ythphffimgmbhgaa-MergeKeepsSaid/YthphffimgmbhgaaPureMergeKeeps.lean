/- The pure statement of the law MergeKeeps. -/
import Derived.Test.YthphffimgmbhgaaBRefMerge
import Derived.Test.YthphffimgmbhgaaBMergeClean
import Derived.Test.YthphffimgmbhgaaBRefSameC
import Derived.KernelRfl
import Derived.Test.YthphffimgmbhgaaXx12
namespace Go.Proofs.Ythphffimgmbhgaa.Pure
open Go.RowKit Go.Proofs.Ythphffimgmbhgaa.X Go.Proofs.Ythphffimgmbhgaa.Pl Go.Proofs.YthphffimgmbhgaaW.PrintWords Go.Proofs.YthphffimgmbhgaaW.PrintLast
theorem awake : Ev (fun k => shardloglaw13_awake.f k) true := Ev.of (fun k => shardloglaw13_awake.mono k) (k := 60) (by kernel_rfl)
theorem keeps_l12 (S : List (List Cell)) (ho : OrdsC S) (hn : S.length ≤ 1000) (hl : ∀ l ∈ S, l.length ≤ 1000) (d : Nat) : ∀ i : Nat, i ≤ S.length → S.length - i = d → Ev (fun k => shardloglaw13_MergeKeeps.l1 k S S (i : Int)) true := by
 induction d with
 | zero =>
  intro i hi hd
  refine Ev.step (f := fun _ => some true) (fun k => ?_) (Ev.now _)
  simp only [shardloglaw13_MergeKeeps.l1]
  rw [if_neg (by omega)]
 | succ d ih =>
  intro i hi hd
  have hlt : i < S.length := by omega
  have hr := rdL_at S i hlt
  unfold rdL at hr
  have hm := List.getElem_mem hlt
  have hll := hl _ hm
  have hoi := ho i
  rw [nthC_at _ _ hlt] at hoi
  have l2 : ∀ (e j : Nat) (c : List Cell), c.length ≤ 1000 → j ≤ c.length → c.length - j = e → Ev (fun k => shardloglaw13_MergeKeeps.l2 k S S (i : Int) c (j : Int)) true := by
   intro e
   induction e with
   | zero =>
    intro j c hc hj he
    refine Ev.step (fun k => by simp only [shardloglaw13_MergeKeeps.l2]; rw [if_neg (by omega), if_pos (by omega), if_pos (by omega), if_pos (by omega), hr, w64 (by omega) (by omega)]) (Ev.bind (sameC_ev rfl (by omega)) (Ev.pos rfl ?_))
    exact ih (i + 1) (by omega) (by omega)
   | succ e ih2 =>
    intro j c hc hj he
    refine Ev.step (fun k => by simp only [shardloglaw13_MergeKeeps.l2]; rw [if_pos (by omega), if_pos (by omega), w64 (by omega) (by omega)]) ?_
    exact ih2 (j + 1) (c.set (j : Int).toNat _) (by rw [List.length_set]; exact hc) (by rw [List.length_set]; omega) (by rw [List.length_set]; omega)
  refine Ev.step (fun k => by simp only [shardloglaw13_MergeKeeps.l1]; rw [if_pos (by omega), if_pos (by omega), hr]) (Ev.bind (merge_Clean_ev 3 (by omega) hoi) ?_)
  have := (cleanC_sub S[i] 3).length_le
  exact l2 _ 0 _ (by omega) (by omega) rfl
theorem keeps_l0 (L S : List (List Cell)) (h : Ev (fun k => shardlogref13_Sorts.f k L) S) (ho : OrdsC S) (hn : S.length ≤ 1000) (hl : ∀ l ∈ S, l.length ≤ 1000) : ∀ (e j : Nat) (m : List Cell), m.length ≤ 1000000 → j ≤ m.length → m.length - j = e → Ev (fun k => shardloglaw13_MergeKeeps.l0 k L S m (j : Int)) true := by
 intro e
 induction e with
 | zero =>
  intro j m hm hj he
  refine Ev.step (fun k => by simp only [shardloglaw13_MergeKeeps.l0]; rw [if_neg (by omega)]) (Ev.bind h ?_)
  exact keeps_l12 S ho hn hl S.length 0 (by omega) (by omega)
 | succ e ih =>
  intro j m hm hj he
  refine Ev.step (fun k => by simp only [shardloglaw13_MergeKeeps.l0]; rw [if_pos (by omega), if_pos (by omega), w64 (by omega) (by omega)]) ?_
  exact ih (j + 1) (m.set (j : Int).toNat _) (by rw [List.length_set]; exact hm) (by rw [List.length_set]; omega) (by rw [List.length_set]; omega)
theorem MergeKeeps : shardloglaw13_MergeKeeps.Pure := by
 intro L h1
 obtain ⟨_, hn, hl⟩ := h1
 refine Ev.rounds ?_
 unfold shardloglaw13_MergeKeeps.f
 obtain ⟨r, he, hf⟩ := ref_FewL (L := L) (by omega) (fun l h => by have := (hl l h).2.1; omega)
 refine Ev.bind awake (Ev.pos rfl (Ev.bind he ?_))
 cases r with
 | false => exact Ev.step (f := fun k => (shardloglaw13_awake.f k).bind fun t => some t) (fun k => by simp only [shardloglaw13_MergeKeeps.j0, Bool.not_false, if_true]) (Ev.bind awake (Ev.now _))
 | true =>
  have hF := hf rfl
  have hz := fewL_sized hF
  have hlen := hF.len
  have htot := hF.tot
  have hsl := sortsC_len L
  have hst := sortsC_lens L
  have ho := sortsC_ord hF
  have hlt : ∀ l ∈ sortsC L, l.length ≤ 1000 := fun l h => by have := len_lensC h; omega
  have hS := ref_Sorts_ev hz (by omega) (fun l h => by have := len_lensC h; omega)
  refine Ev.step (fun k => by simp only [shardloglaw13_MergeKeeps.j0, Bool.not_true, Bool.false_eq_true, if_false]; rfl) (Ev.bind hS (Ev.bind (merge_All_is ho (by omega) (by omega)) ?_))
  have := refAll_length (sortsC L)
  exact keeps_l0 L (sortsC L) hS ho (by omega) hlt _ 0 _ (by omega) (by omega) rfl
end Go.Proofs.Ythphffimgmbhgaa.Pure
