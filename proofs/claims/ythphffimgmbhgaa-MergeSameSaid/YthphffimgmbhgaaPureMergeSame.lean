/- The pure statement of the law MergeSame. -/
import Derived.Test.YthphffimgmbhgaaQSame
import Derived.Test.YthphffimgmbhgaaBMergeClean
import Derived.Test.YthphffimgmbhgaaBRefSameC
import Derived.KernelRfl
import Derived.Test.YthphffimgmbhgaaXx8
namespace Go.Proofs.Ythphffimgmbhgaa.Pure
open Go.RowKit Go.Proofs.Ythphffimgmbhgaa.X Go.Proofs.Ythphffimgmbhgaa.Pl Go.Proofs.YthphffimgmbhgaaW.PrintWords Go.Proofs.YthphffimgmbhgaaW.PrintLast
theorem awake : Ev (fun k => shardloglaw13_awake.f k) true := Ev.of (fun k => shardloglaw13_awake.mono k) (k := 60) (by kernel_rfl)
theorem same_true (l : List Cell) (a t : Int) : Ev (fun k => shardloglaw13_MergeSame.j0 k l a t true) true := Ev.bind awake (Ev.now _)
theorem MergeSame : shardloglaw13_MergeSame.Pure := by
 intro l a t _ ha _
 obtain ⟨a0, a1⟩ := wf_u8 ha
 refine Ev.rounds ?_
 unfold shardloglaw13_MergeSame.f
 refine Ev.bind awake (Ev.pos rfl (Ev.bind ref_Few_ev ?_))
 cases h : fewC l with
 | false => exact Ev.neg Bool.false_ne_true (same_true _ _ _)
 | true =>
  refine Ev.pos rfl ?_
  by_cases ht : t > 4294967295
  ·
   rw [decide_eq_true ht]
   exact same_true _ _ _
  rw [decide_eq_false ht]
  obtain ⟨hn, hr⟩ := fewC_iff.1 h
  have hs := (sortC_srt hr).2
  have hl := sortC_length l
  refine Ev.neg Bool.false_ne_true (Ev.bind (ref_Sort_ev (fun x hx => sized_of_right (hr x hx)) (by omega)) ?_)
  obtain ⟨S, hS⟩ : ∃ S, sortC l = S := ⟨_, rfl⟩
  rw [hS] at hs hl ⊢
  have hw : wrap64 ((S.length : Int) + 1) = ((S.length + 1 : Nat) : Int) := by rw [w64 (by omega) (by omega)]; rfl
  rw [hw]
  refine Ev.neg (by omega) (Ev.bind (merge_Visible_ev t (by omega) hs) ?_)
  obtain ⟨k, hk⟩ : ∃ k, a.toNat % (S.length + 1) = k := ⟨_, rfl⟩
  have hkl : k ≤ S.length := by rw [← hk]; exact Nat.le_of_lt_succ (Nat.mod_lt _ (Nat.succ_pos _))
  have hb : Int.tmod (wrap64 a) ((S.length + 1 : Nat) : Int) = (k : Int) := by
   rw [show wrap64 a = a from by rw [w64 (by omega) (by omega)], Int.tmod_eq_emod_of_nonneg a0, ← hk, Int.natCast_emod, Int.toNat_of_nonneg a0]
  rw [hb]
  have hv := (visC_sub S t).length_le
  have hvo := ord_sub hs (visC_sub S t)
  have hd : OrdC (S.drop k) := ord_sub hs (List.drop_sublist k S)
  have htk : OrdC (S.take k) := ord_sub hs (List.take_sublist k S)
  have h2 := refAll_sub hs hs (fun c hc => hc)
  have h3 := refAll_three hs k
  have c2 : lensC [S, S] ≤ 100000 := by simp [lensC]; omega
  have c3 : lensC [S.drop k, S, S.take k] ≤ 100000 := by simp [lensC]; omega
  have o3 : OrdsC [S.drop k, S, S.take k] := ords_iff.2 (fun x hx => by
   rcases List.mem_cons.1 hx with rfl | hx
   ·
    exact hd
   rcases List.mem_cons.1 hx with rfl | hx
   ·
    exact hs
   ·
    rw [List.mem_singleton.1 hx]
    exact htk)
  have e2 := merge_All_is (ords_two hs hs) (by simp) c2
  have e3 := merge_All_is o3 (by simp) c3
  rw [h2] at e2
  rw [h3] at e3
  refine Ev.pos ⟨by omega, by omega⟩ ?_
  rw [Int.toNat_natCast]
  refine Ev.bind e2 (Ev.bind (sameC_ev rfl (by omega)) (Ev.pos rfl (Ev.bind e3 (Ev.bind (sameC_ev rfl (by omega)) (Ev.pos rfl ?_)))))
  refine Ev.bind (merge_Visible_ev t (by omega) hvo) (Ev.bind (sameC_ev (visC_twice S t) (by rw [visC_twice]; omega)) (Ev.pos rfl (Ev.bind (merge_Clean_ev t (by omega) hvo) ?_)))
  exact sameC_ev (cleanC_vis S t) (by rw [cleanC_vis]; omega)
end Go.Proofs.Ythphffimgmbhgaa.Pure
