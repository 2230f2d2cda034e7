/- The pure statement of the law MemOrders. -/
import Derived.Test.YtgcicgjfimfhpaaBAll
import Derived.KernelRfl
import Derived.Test.YtgcicgjfimfhpaaXx7
namespace Go.Proofs.Ytgcicgjfimfhpaa.Pure
open Go.RowKit Go.Proofs.Ytgcicgjfimfhpaa.X Go.Proofs.Ytgcicgjfimfhpaa.Pl Go.Proofs.YtgcicgjfimfhpaaW.PrintWords Go.Proofs.YtgcicgjfimfhpaaW.PrintLast
theorem awake : Ev (fun k => shardloglaw09_awake.f k) true := Ev.of (fun k => shardloglaw09_awake.mono k) (k := 60) (by kernel_rfl)
theorem MemOrders : shardloglaw09_MemOrders.Pure := by
 intro l a hl ha
 obtain ⟨a0, a1⟩ := wf_u8 ha
 refine Ev.rounds ?_
 unfold shardloglaw09_MemOrders.f
 refine Ev.bind awake (Ev.pos rfl (Ev.bind ref_Few_ev ?_))
 cases h : fewC l with
 | false => exact Ev.neg Bool.false_ne_true (Ev.now _)
 | true =>
  refine Ev.pos rfl ?_
  by_cases h0 : (l.length : Int) = 0
  ·
   exact Ev.pos h0 (Ev.now _)
  refine Ev.neg h0 ?_
  obtain ⟨hn, hr⟩ := fewC_iff.1 h
  have hs := sortC_srt hr
  have hln := sortC_length l
  have hne : 0 < (sortC l).length := by
   cases l with
   | nil => exact absurd rfl h0
   | cons c l =>
    have hm : c ∈ (c :: l) := List.mem_cons_self
    rcases Nat.eq_zero_or_pos (sortC (c :: l)).length with h3 | h3
    ·
     have h4 := List.eq_nil_of_length_eq_zero h3
     have h5 : ∀ (m o : List Cell), 0 < o.length → 0 < (m.foldl (fun o c => ins c o) o).length := by
      intro m
      induction m with
      | nil => exact fun o ho => ho
      | cons x m ih =>
       intro o ho
       exact ih _ (by have := ins_mem x o; exact List.length_pos_of_mem this)
     exact h5 l (ins c []) (by have := ins_mem c []; exact List.length_pos_of_mem this)
    ·
     exact h3
  unfold shardloglaw09_MemOrders.main
  obtain ⟨S, hS⟩ : ∃ S, sortC l = S := ⟨_, rfl⟩
  refine Ev.bind (ref_Sort_ev (fun x hx => sized_of_right (hr x hx)) (by omega)) ?_
  rw [hS] at hs hln hne ⊢
  refine Ev.neg (by omega) ?_
  obtain ⟨k, hk⟩ : ∃ k, a.toNat % S.length = k := ⟨_, rfl⟩
  have hkl : k < S.length := by rw [← hk]; exact Nat.mod_lt _ hne
  have hb : Int.tmod (wrap64 a) (S.length : Int) = (k : Int) := by
   rw [show wrap64 a = a from by rw [w64 (by omega) (by omega)], Int.tmod_eq_emod_of_nonneg a0, ← hk, Int.natCast_emod, Int.toNat_of_nonneg a0]
  rw [hb]
  refine Ev.pos ⟨by omega, by omega, by omega⟩ ?_
  rw [Int.toNat_natCast]
  unfold shardloglaw09_MemOrders.tail
  have hp1 : putsM S [] = S := by rw [putsM_right hs.1, foldl_ord hs.2]
  have hrt : RightsC (S.drop k ++ S.take k) := fun x hx => by
   rcases List.mem_append.1 hx with hx | hx
   ·
    exact hs.1 x (List.mem_of_mem_drop hx)
   ·
    exact hs.1 x (List.mem_of_mem_take hx)
  have hp2 : putsM (S.drop k ++ S.take k) [] = S := by rw [putsM_right hrt, foldl_turned hs.2]
  have f1 := filled_ev (l := S) (by omega)
  have f2 := filled_ev (l := S.drop k ++ S.take k) (by simp only [List.length_append, List.length_drop, List.length_take]; omega)
  rw [hp1] at f1
  rw [hp2] at f2
  refine Ev.bind f1 (Ev.bind f2 ?_)
  simp only [clone_C (l := S) (by omega), Option.bind_some]
  exact Ev.bind (sameC_ev rfl (by omega)) (Ev.bind (sameC_ev rfl (by omega)) (Ev.pos (by refine ⟨by first | trivial | rfl, by first | trivial | rfl, by first | trivial | rfl⟩) (Ev.now _)))
end Go.Proofs.Ytgcicgjfimfhpaa.Pure
