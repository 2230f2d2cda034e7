/- The pure statement of the law MemGets. -/
import Derived.Test.YtgcicgjfimfhpaaBAll
import Derived.KernelRfl
import Derived.Test.YtgcicgjfimfhpaaXx4
import Derived.Test.YtgcicgjfimfhpaaXx7
namespace Go.Proofs.Ytgcicgjfimfhpaa.Pure
open Go.RowKit Go.Proofs.Ytgcicgjfimfhpaa.X Go.Proofs.Ytgcicgjfimfhpaa.Pl Go.Proofs.YtgcicgjfimfhpaaW.PrintWords Go.Proofs.YtgcicgjfimfhpaaW.PrintLast
theorem awake : Ev (fun k => shardloglaw09_awake.f k) true := Ev.of (fun k => shardloglaw09_awake.mono k) (k := 60) (by kernel_rfl)
abbrev keep (a b : ByteArray) (c : Cell) : Bool := mem_Mem_Rows.keep a b c
theorem cmp_geq (x a : ByteArray) : (0 ≤ cmpT x a) ↔ Op.bytesLess x.toList a.toList = false := by
 unfold cmpT
 rw [cmpB_less]
 cases h : Op.bytesLess x.toList a.toList with
 | true => simp
 | false =>
  simp only [Bool.false_eq_true, if_false, iff_true]
  split <;> omega
theorem cmp_lss (x a : ByteArray) : (cmpT x a < 0) ↔ Op.bytesLess x.toList a.toList = true := by
 have := cmp_geq x a
 cases h : Op.bytesLess x.toList a.toList with
 | true => rw [h] at this; simp at this; simpa using this
 | false => rw [h] at this; simp at this; simpa using this
theorem fl_ev (a1 a4 : ByteArray) : ∀ (l acc : List Cell), RightsC l → acc.length + l.length ≤ 1000000 → Ev (fun k => shardloglaw09_MemGets.fl k a1 a4 l acc) (acc ++ l.filter (keep a1 a4))
 | [], acc, _, _ => by
  rw [List.filter_nil, List.append_nil]
  exact Ev.now _
 | c :: l, acc, h, hl => by
  simp only [List.length_cons] at hl
  have hr : RightsC l := fun x hx => h x (List.mem_cons_of_mem _ hx)
  have hz := (sized_of_right (h c List.mem_cons_self)).1
  have e1 : acc ++ (c :: l).filter (keep a1 a4) = (if keep a1 a4 c = true then acc ++ [c] else acc) ++ l.filter (keep a1 a4) := by
   rw [List.filter_cons]
   split <;> simp
  rw [e1]
  have ht := fl_ev a1 a4 l (acc ++ [c]) hr (by simp; omega)
  have hf := fl_ev a1 a4 l acc hr (by omega)
  unfold shardloglaw09_MemGets.fl
  refine Ev.bind (ref_CText_ev hz) ?_
  by_cases hp : 0 ≤ cmpT c.f0 a1
  ·
   refine Ev.pos hp ?_
   have hp' := (cmp_geq _ _).1 hp
   by_cases he : a4.toList = ([] : List UInt8)
   ·
    have hk : keep a1 a4 c = true := by
     unfold keep mem_Mem_Rows.keep
     rw [hp', he]; rfl
    rw [if_pos hk]
    exact Ev.pos he (Ev.pos (by omega) ht)
   ·
    refine Ev.neg he (Ev.bind (ref_CText_ev hz) ?_)
    by_cases h2 : cmpT c.f0 a4 < 0
    ·
     have hk : keep a1 a4 c = true := by
      unfold keep mem_Mem_Rows.keep
      rw [hp', (cmp_lss _ _).1 h2, Bool.or_true]; rfl
     rw [if_pos hk]
     exact Ev.pos h2 (Ev.pos (by omega) ht)
    ·
     have hk : ¬ keep a1 a4 c = true := by
      unfold keep mem_Mem_Rows.keep
      have h3 : ¬ Op.bytesLess c.f0.toList a4.toList = true := fun hh => h2 ((cmp_lss _ _).2 hh)
      simp [he, h3]
     rw [if_neg hk]
     exact Ev.neg h2 hf
  ·
   have hk : ¬ keep a1 a4 c = true := by
    unfold keep mem_Mem_Rows.keep
    have h3 : Op.bytesLess c.f0.toList a1.toList = true := (cmp_lss _ _).1 (by omega)
    simp [h3]
   rw [if_neg hk]
   exact Ev.neg hp hf
theorem MemGets : shardloglaw09_MemGets.Pure := by
 intro l a1 a2 a3 a4 hl _ _ _ _
 refine Ev.rounds ?_
 unfold shardloglaw09_MemGets.f
 refine Ev.bind awake (Ev.pos rfl (Ev.bind ref_Few_ev ?_))
 cases h : fewC l with
 | false => exact Ev.neg Bool.false_ne_true (Ev.now _)
 | true =>
  refine Ev.pos rfl ?_
  by_cases h1 : (a1.size : Int) ≤ 100
  rotate_left
  ·
   exact Ev.neg h1 (Ev.now _)
  by_cases h2 : (a2.size : Int) ≤ 100
  rotate_left
  ·
   exact Ev.pos h1 (Ev.neg h2 (Ev.now _))
  by_cases h4 : (a4.size : Int) ≤ 100
  rotate_left
  ·
   exact Ev.pos h1 (Ev.pos h2 (Ev.neg h4 (Ev.now _)))
  refine Ev.pos h1 (Ev.pos h2 (Ev.pos h4 ?_))
  obtain ⟨hn, hr⟩ := fewC_iff.1 h
  have hs := sortC_srt hr
  have hln := sortC_length l
  have hpu : putsM l [] = sortC l := putsM_right hr []
  unfold shardloglaw09_MemGets.main
  have hfi := filled_ev (l := l) (by omega)
  rw [hpu] at hfi
  refine Ev.bind hfi (Ev.bind (ref_Sort_ev (fun x hx => sized_of_right (hr x hx)) (by omega)) ?_)
  refine Ev.bind (cell_Newest_ev (l := sortC l) a1 a2 a3 hs.2 (by omega)) (Ev.bind (ref_Newest_ev a1 a2 a3 hs (by omega)) ?_)
  refine Ev.bind (fl_ev a1 a4 (sortC l) [] hs.1 (by simp only [List.length_nil]; omega)) ?_
  rw [List.nil_append]
  unfold mem_Mem_Rows.f
  rw [if_pos (by show (sortC l).length < _; omega)]
  refine Ev.bind (Ev.now _) (Ev.bind (sameC_ev (l := (sortC l).filter (keep a1 a4)) rfl ?_) (Ev.pos (by refine ⟨by first | trivial | rfl, by first | trivial | rfl⟩) (Ev.now _)))
  exact Nat.le_trans (List.length_filter_le _ _) (by omega)
end Go.Proofs.Ytgcicgjfimfhpaa.Pure
