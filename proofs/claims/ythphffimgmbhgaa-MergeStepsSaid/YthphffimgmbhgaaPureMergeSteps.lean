/- The pure statement of the law MergeSteps. -/
import Derived.Test.YthphffimgmbhgaaQSteps
import Derived.Test.YthphffimgmbhgaaBRefSameC
import Derived.KernelRfl
import Derived.Test.YthphffimgmbhgaaXx8
namespace Go.Proofs.Ythphffimgmbhgaa.Pure
open Go.RowKit Go.Proofs.Ythphffimgmbhgaa.X Go.Proofs.Ythphffimgmbhgaa.Pl Go.Proofs.YthphffimgmbhgaaW.PrintWords Go.Proofs.YthphffimgmbhgaaW.PrintLast
theorem awake : Ev (fun k => shardloglaw13_awake.f k) true := Ev.of (fun k => shardloglaw13_awake.mono k) (k := 60) (by kernel_rfl)
theorem steps_true (L : List (List Cell)) (a : Int) : Ev (fun k => shardloglaw13_MergeSteps.j0 k L a true) true :=
 Ev.step (f := fun k => (shardloglaw13_awake.f k).bind fun t => some t) (fun k => by simp only [shardloglaw13_MergeSteps.j0, if_true]) (Ev.bind awake (Ev.now _))
theorem MergeSteps : shardloglaw13_MergeSteps.Pure := by
 intro L a h1 h2
 obtain ⟨_, hn, hl⟩ := h1
 refine Ev.rounds ?_
 unfold shardloglaw13_MergeSteps.f
 obtain ⟨r, he, hf⟩ := ref_FewL (L := L) (by omega) (fun l h => by have := (hl l h).2.1; omega)
 refine Ev.bind awake (Ev.pos rfl (Ev.bind he ?_))
 cases r with
 | false => exact Ev.neg Bool.false_ne_true (steps_true _ _)
 | true =>
  refine Ev.pos rfl ?_
  by_cases h0 : L.length = 0
  ·
   rw [show ((L.length : Int) == 0) = true by simpa using h0]
   exact steps_true _ _
  rw [show ((L.length : Int) == 0) = false by simpa using h0]
  have hF := hf rfl
  have hz := fewL_sized hF
  have hlen := hF.len
  have htot := hF.tot
  have hsl := sortsC_len L
  have hst := sortsC_lens L
  have ho := sortsC_ord hF
  obtain ⟨S, hS⟩ : ∃ S, sortsC L = S := ⟨_, rfl⟩
  have hev := ref_Sorts_ev hz (by omega) (fun l h => by have := len_lensC h; omega)
  rw [hS] at hsl hst ho hev
  have hm : 0 ≤ a ∧ a < 256 := by
   have e1 : IntKind.u8.min = 0 := rfl
   have e2 : IntKind.u8.max = 255 := rfl
   simp [Lit.wf] at h2
   omega
  obtain ⟨k, hk⟩ : ∃ k, a.toNat % S.length = k := ⟨_, rfl⟩
  have hkl : k < S.length := by rw [← hk]; exact Nat.mod_lt _ (by omega)
  have hb : Int.tmod (wrap64 a) (S.length : Int) = (k : Int) := by
   rw [show wrap64 a = a from by rw [w64 (by omega) (by omega)], Int.tmod_eq_emod_of_nonneg hm.1, ← hk, Int.natCast_emod, Int.toNat_of_nonneg hm.1]
  have hw : wrap64 ((k : Int) + 1) = ((k + 1 : Nat) : Int) := by rw [w64 (by omega) (by omega)]; rfl
  have hX : OrdsC (S.take k) := ords_iff.2 (fun l hl => ords_iff.1 ho l (List.mem_of_mem_take hl))
  have hY : OrdsC (S.drop k) := ords_iff.2 (fun l hl => ords_iff.1 ho l (List.mem_of_mem_drop hl))
  have hsplit : lensC (S.take k) + lensC (S.drop k) = lensC S := by rw [← lensC_append, List.take_append_drop]
  have hXY : refAll [refAll (S.take k), refAll (S.drop k)] = refAll S := by rw [← refAll_append hX hY, List.take_append_drop]
  have hx := refAll_length (S.take k)
  have hy := refAll_length (S.drop k)
  have hs := refAll_length S
  have hT : OrdsC [refAll (S.take k), refAll (S.drop k)] := ords_iff.2 (fun l hl => by
   rcases List.mem_cons.1 hl with rfl | hl
   ·
    exact refAll_ord hX
   ·
    rw [List.mem_singleton.1 hl]
    exact refAll_ord hY)
  have hone : (S.take (k + 1)).drop k = [S[k]] := by
   rw [List.take_succ_eq_append_getElem hkl, List.drop_append_of_le_length (by rw [List.length_take]; omega), List.drop_eq_nil_of_le (by rw [List.length_take]; omega), List.nil_append]
  have hok : OrdC S[k] := ords_iff.1 ho _ (List.getElem_mem hkl)
  have hrd := rdL_at S k hkl
  unfold rdL at hrd
  have hlk := len_lensC (List.getElem_mem hkl)
  have c1 : lensC [refAll (S.take k), refAll (S.drop k)] ≤ 100000 := by simp [lensC]; omega
  have c2 : lensC [S[k]] ≤ 100000 := by simp [lensC]; omega
  refine Ev.step (fun k => by simp only [shardloglaw13_MergeSteps.j0, Bool.false_eq_true, if_false]; rfl) (Ev.bind hev ?_)
  simp only [hb, hw, Int.toNat_natCast, hone, hrd]
  have p1 : ¬ (S.length : Int) = 0 := by omega
  have p2 : (0 : Int) ≤ (k : Int) := by omega
  have p3 : (k : Int) ≤ (S.length : Int) := by omega
  have p4 : (k : Int) ≤ ((k + 1 : Nat) : Int) := by omega
  have p5 : ((k + 1 : Nat) : Int) ≤ (S.length : Int) := by omega
  have p6 : (k : Int) < (S.length : Int) := by omega
  refine Ev.neg p1 (Ev.pos p2 (Ev.pos p3 (Ev.bind (merge_All_is hX (by rw [List.length_take]; omega) (by omega)) (Ev.bind (merge_All_is hY (by rw [List.length_drop]; omega) (by omega)) (Ev.bind (merge_All_is hT (by simp) c1) (Ev.bind (merge_All_is ho (by omega) (by omega)) ?_))))))
  refine Ev.bind (sameC_ev hXY (by rw [hXY]; omega)) (Ev.pos rfl (Ev.pos p4 (Ev.pos p5 ?_)))
  refine Ev.bind (merge_All_is (L := [S[k]]) (ords_iff.2 (fun l hl => by rw [List.mem_singleton.1 hl]; exact hok)) (by simp) c2) (Ev.pos p6 ?_)
  exact Ev.bind (sameC_ev (refAll_one hok) (by rw [refAll_one hok]; omega)) (Ev.now _)
end Go.Proofs.Ythphffimgmbhgaa.Pure
