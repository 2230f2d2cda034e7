/- Lists of cells: few, put in order, merged, by the reference. -/
import Derived.Test.YthphffimgmbhgaaBMergeAll
import Derived.Test.YthphffimgmbhgaaXx3
import Derived.Test.YthphffimgmbhgaaXx6
import Derived.Test.YthphffimgmbhgaaXx8
namespace Go.Proofs.Ythphffimgmbhgaa.Pl
open Go.RowKit Go.Proofs.Ythphffimgmbhgaa.X Go.Proofs.YthphffimgmbhgaaW.PrintWords Go.Proofs.YthphffimgmbhgaaW.PrintLast Go.Proofs.YthphffimgmbhgaaW.PrintMore
abbrev rdL (L : List (List Cell)) (i : Int) : List Cell := rd_L4 L i
theorem rdL_at (L : List (List Cell)) (i : Nat) (h : i < L.length) : rdL L (i : Int) = L[i] := by
 show L.getD (i : Int).toNat _ = _
 rw [Int.toNat_natCast, List.getD_eq_getElem?_getD, List.getElem?_eq_getElem h]
 rfl
theorem nthC_at (L : List (List Cell)) (i : Nat) (h : i < L.length) : nthC L i = L[i] := by
 unfold nthC
 rw [List.getD_eq_getElem?_getD, List.getElem?_eq_getElem h]
 rfl
structure FewL (L : List (List Cell)) : Prop where
 len : L.length ≤ 20
 few : ∀ l ∈ L, fewC l = true
 tot : lensC L ≤ 100
theorem lensC_cons (l : List Cell) (L : List (List Cell)) : lensC (l :: L) = l.length + lensC L := by simp [lensC]
theorem ref_FewL_l0 (L : List (List Cell)) (hn : L.length ≤ 140737488355328) (hl : ∀ l ∈ L, l.length ≤ 140737488355328) (d : Nat) : ∀ (i n : Nat), i ≤ L.length → L.length - i = d → n ≤ 100 → i ≤ 50 → ∃ r, Ev (fun k => shardlogref13_Few.l0 k L (n : Int) (i : Int)) r ∧ (r = true → L.length ≤ 20 ∧ (∀ l ∈ L.drop i, fewC l = true) ∧ n + lensC (L.drop i) ≤ 100) := by
 induction d with
 | zero =>
  intro i n hi hd h1 h2
  refine ⟨decide ((L.length : Int) ≤ 20), Ev.step (f := fun k => shardlogref13_Few.j1 k L (n : Int) (i : Int) false) (fun k => ?_) (Ev.step (f := fun _ => some (decide ((L.length : Int) ≤ 20))) (fun k => ?_) (Ev.now _)), fun h => ?_⟩
  ·
   simp only [shardlogref13_Few.l0]
   rw [if_neg (by omega)]
  ·
   simp only [shardlogref13_Few.j1, Bool.false_eq_true, if_false]
  ·
   rw [List.drop_eq_nil_of_le (by omega)]
   have := of_decide_eq_true h
   exact ⟨by omega, fun l hl => (by cases hl), by simp [lensC]; omega⟩
 | succ d ih =>
  intro i n hi hd h1 h2
  have hlt : i < L.length := by omega
  have hr := rdL_at L i hlt
  unfold rdL at hr
  by_cases h50 : i = 50
  ·
   refine ⟨decide ((L.length : Int) ≤ 20), Ev.step (f := fun k => shardlogref13_Few.j1 k L (n : Int) (i : Int) false) (fun k => ?_) (Ev.step (f := fun _ => some (decide ((L.length : Int) ≤ 20))) (fun k => ?_) (Ev.now _)), fun h => ?_⟩
   ·
    simp only [shardlogref13_Few.l0]
    rw [if_pos (by omega), decide_eq_false (by omega)]
   ·
    simp only [shardlogref13_Few.j1, Bool.false_eq_true, if_false]
   ·
    have := of_decide_eq_true h
    omega
  ·
   have hll := hl L[i] (List.getElem_mem hlt)
   have hw : wrap64 ((n : Int) + (L[i].length : Int)) = ((n + L[i].length : Nat) : Int) := by rw [w64 (by omega) (by omega)]; rfl
   have hw2 : wrap64 ((i : Int) + 1) = ((i + 1 : Nat) : Int) := by rw [w64 (by omega) (by omega)]; rfl
   have step1 : ∀ k, shardlogref13_Few.l0 (k + 1) L (n : Int) (i : Int) = shardlogref13_Few.j1 k L (n : Int) (i : Int) true := by
    intro k
    simp only [shardlogref13_Few.l0]
    rw [if_pos (by omega), decide_eq_true (by omega)]
   by_cases h100 : n + L[i].length > 100
   ·
    refine ⟨false, Ev.step step1 (Ev.step (f := fun _ => some false) (fun k => ?_) (Ev.now _)), fun h => by cases h⟩
    simp only [shardlogref13_Few.j1, if_true]
    rw [if_pos (by omega), if_pos (by omega), hr, hw, if_pos (by omega)]
   ·
    have step2 : ∀ k, shardlogref13_Few.j1 (k + 1) L (n : Int) (i : Int) true = (shardlogref08_Few.f k L[i]).bind fun t => if t = true then shardlogref13_Few.l0 k L ((n + L[i].length : Nat) : Int) ((i + 1 : Nat) : Int) else some false := by
     intro k
     simp only [shardlogref13_Few.j1, if_true]
     rw [if_pos (by omega), if_pos (by omega), hr, hw, hw2, if_neg (by omega)]
    cases hf : fewC L[i] with
    | false =>
     refine ⟨false, Ev.step step1 (Ev.step step2 (Ev.bind (ref_Few_ev.to hf) (Ev.neg Bool.false_ne_true (Ev.now _)))), fun h => by cases h⟩
    | true =>
     obtain ⟨r, he, hr2⟩ := ih (i + 1) (n + L[i].length) (by omega) (by omega) (by omega) (by omega)
     refine ⟨r, Ev.step step1 (Ev.step step2 (Ev.bind (ref_Few_ev.to hf) (Ev.pos rfl he))), fun h => ?_⟩
     obtain ⟨a1, a2, a3⟩ := hr2 h
     rw [List.drop_eq_getElem_cons hlt]
     refine ⟨a1, fun l hl => ?_, by rw [lensC_cons]; omega⟩
     rcases List.mem_cons.1 hl with rfl | hl
     ·
      exact hf
     ·
      exact a2 l hl
theorem ref_FewL {L : List (List Cell)} (hn : L.length ≤ 140737488355328) (hl : ∀ l ∈ L, l.length ≤ 140737488355328) : ∃ r, Ev (fun k => shardlogref13_Few.f k L) r ∧ (r = true → FewL L) := by
 obtain ⟨r, he, hr⟩ := ref_FewL_l0 L hn hl L.length 0 0 (by omega) (by omega) (by omega) (by omega)
 refine ⟨r, he, fun h => ?_⟩
 obtain ⟨a1, a2, a3⟩ := hr h
 rw [List.drop_zero] at a2 a3
 exact ⟨a1, a2, by omega⟩
theorem ref_Sorts_l0 (L : List (List Cell)) (hs : ∀ l ∈ L, ∀ x ∈ l, SizedC x) (hn : L.length ≤ 1000000) (hl : ∀ l ∈ L, l.length ≤ 500000000) (d : Nat) : ∀ (i : Nat) (o : List (List Cell)), i ≤ L.length → L.length - i = d → o.length ≤ i → Ev (fun k => shardlogref13_Sorts.l0 k L o (i : Int)) (o ++ (L.drop i).map sortC) := by
 induction d with
 | zero =>
  intro i o hi hd ho
  rw [List.drop_eq_nil_of_le (by omega)]
  refine Ev.step (f := fun _ => some o) (fun k => ?_) ((Ev.now _).to (by simp))
  simp only [shardlogref13_Sorts.l0]
  rw [if_neg (by omega)]
 | succ d ih =>
  intro i o hi hd ho
  have hlt : i < L.length := by omega
  have hr := rdL_at L i hlt
  unfold rdL at hr
  have hm := List.getElem_mem hlt
  have hw : wrap64 ((i : Int) + 1) = ((i + 1 : Nat) : Int) := by rw [w64 (by omega) (by omega)]; rfl
  rw [List.drop_eq_getElem_cons hlt, List.map_cons]
  refine Ev.step (fun k => by simp only [shardlogref13_Sorts.l0]; rw [if_pos (by omega), if_pos (by omega), hr, hw]) (Ev.bind (ref_Sort_ev (hs _ hm) (hl _ hm)) ?_)
  have hol : o.length < 5864062014805 := by omega
  refine Ev.pos hol ?_
  exact (ih (i + 1) (o ++ [sortC L[i]]) (by omega) (by omega) (by rw [List.length_append, List.length_singleton]; omega)).to (by simp)
def sortsC (L : List (List Cell)) : List (List Cell) := L.map sortC
theorem ref_Sorts_ev {L : List (List Cell)} (hs : ∀ l ∈ L, ∀ x ∈ l, SizedC x) (hn : L.length ≤ 1000000) (hl : ∀ l ∈ L, l.length ≤ 500000000) : Ev (fun k => shardlogref13_Sorts.f k L) (sortsC L) := by
 have := ref_Sorts_l0 L hs hn hl L.length 0 [] (by omega) (by omega) (by simp)
 rw [List.drop_zero, List.nil_append] at this
 exact this
def refAll (L : List (List Cell)) : List Cell := L.foldr (fun l o => l.foldl (fun o c => ins c o) o) []
theorem ord_foldl : ∀ (l : List Cell) {o : List Cell}, OrdC o → OrdC (l.foldl (fun o c => ins c o) o)
 | [], _, h => h
 | c :: l, _, h => ord_foldl l (ord_ins h)
theorem mem_ins_iff {a c : Cell} {o : List Cell} (h : OrdC o) : c ∈ ins a o ↔ c = a ∨ (c ∈ o ∧ cc a c ≠ 0) := by
 constructor
 ·
  intro hc
  by_cases e : c = a
  ·
   exact .inl e
  ·
   rcases mem_ins hc with e' | ho
   ·
    exact absurd e' e
   ·
    exact .inr ⟨ho, fun h0 => e (ord_inj (ord_ins (c := a) h) (ins_mem a o) hc h0).symm⟩
 ·
  rintro (rfl | ⟨ho, h0⟩)
  ·
   exact ins_mem c o
  ·
   exact mem_ins_of (fun h => h0 (cc_sym h)) ho
theorem mem_foldl_iff : ∀ {l o : List Cell} {c : Cell}, OrdC l → OrdC o → (c ∈ l.foldl (fun o c => ins c o) o ↔ c ∈ l ∨ (c ∈ o ∧ ∀ d ∈ l, cc d c ≠ 0))
 | [], _, _, _, _ => by simp
 | a :: l, o, c, h, ho => by
  obtain ⟨h1, h2⟩ := List.pairwise_cons.1 h
  rw [List.foldl_cons, mem_foldl_iff h2 (ord_ins ho), mem_ins_iff ho]
  constructor
  ·
   rintro (hc | ⟨rfl | ⟨hc, h0⟩, h3⟩)
   ·
    exact .inl (List.mem_cons_of_mem _ hc)
   ·
    exact .inl List.mem_cons_self
   ·
    refine .inr ⟨hc, fun d hd => ?_⟩
    rcases List.mem_cons.1 hd with rfl | hd
    ·
     exact h0
    ·
     exact h3 d hd
  ·
   rintro (hc | ⟨hc, h3⟩)
   ·
    rcases List.mem_cons.1 hc with rfl | hc
    ·
     refine .inr ⟨.inl rfl, fun d hd => ?_⟩
     have := h1 d hd
     have := cc_neg c d
     omega
    ·
     exact .inl hc
   ·
    exact .inr ⟨.inr ⟨hc, h3 a List.mem_cons_self⟩, fun d hd => h3 d (List.mem_cons_of_mem _ hd)⟩
theorem refAll_merged : ∀ {L : List (List Cell)}, OrdsC L → MergedC L (refAll L)
 | [], _ => ⟨List.Pairwise.nil, fun c hc => (by cases hc), fun i hi => (by cases hi)⟩
 | l :: L, h => by
  have hl : OrdC l := h 0
  obtain ⟨i1, i2, i3⟩ := refAll_merged (L := L) (fun i => h (i + 1))
  have hm : ∀ c, c ∈ refAll (l :: L) ↔ c ∈ l ∨ (c ∈ refAll L ∧ ∀ d ∈ l, cc d c ≠ 0) := fun c => mem_foldl_iff hl i1
  refine ⟨ord_foldl l i1, fun c hc => ?_, fun i hi c hc => ?_⟩
  ·
   rcases (hm c).1 hc with hc | ⟨hc, h0⟩
   ·
    exact ⟨0, by simp, hc, fun j hj => by omega⟩
   ·
    obtain ⟨i, e1, e2, e3⟩ := i2 c hc
    refine ⟨i + 1, by rw [List.length_cons]; omega, e2, fun j hj d hd => ?_⟩
    cases j with
    | zero => exact h0 d hd
    | succ j => exact e3 j (by omega) d hd
  ·
   cases i with
   | zero => exact ⟨c, (hm c).2 (.inl hc), cc_self c⟩
   | succ i =>
    obtain ⟨d, hd, h0⟩ := i3 i (by simpa using hi) c hc
    by_cases hex : ∃ e ∈ l, cc e d = 0
    ·
     obtain ⟨e, he, h1⟩ := hex
     exact ⟨e, (hm e).2 (.inl he), by rw [cc_left h1]; exact h0⟩
    ·
     exact ⟨d, (hm d).2 (.inr ⟨hd, fun e he h1 => hex ⟨e, he, h1⟩⟩), h0⟩
theorem fewL_sized {L : List (List Cell)} (h : FewL L) : ∀ l ∈ L, ∀ x ∈ l, SizedC x := fun l hl x hx => sized_of_right ((fewC_iff.1 (h.few l hl)).2 x hx)
theorem sortsC_ord {L : List (List Cell)} (h : FewL L) : OrdsC (sortsC L) := by
 intro i
 by_cases hi : i < (sortsC L).length
 ·
  rw [nthC_at _ _ hi]
  obtain ⟨l, hl, e⟩ := List.mem_map.1 (List.getElem_mem hi)
  rw [← e]
  exact (sortC_srt (fewC_iff.1 (h.few l hl)).2).2
 ·
  unfold nthC
  rw [List.getD_eq_getElem?_getD, List.getElem?_eq_none (by omega)]
  exact List.Pairwise.nil
theorem sortsC_len (L : List (List Cell)) : (sortsC L).length = L.length := List.length_map _
theorem sortsC_lens : ∀ (L : List (List Cell)), lensC (sortsC L) ≤ lensC L
 | [] => Nat.le_refl _
 | l :: L => by
  have := sortsC_lens L
  have := sortC_length l
  rw [show sortsC (l :: L) = sortC l :: sortsC L from rfl, lensC_cons, lensC_cons]
  omega
theorem len_lensC : ∀ {L : List (List Cell)} {l : List Cell}, l ∈ L → l.length ≤ lensC L
 | m :: L, l, h => by
  rw [lensC_cons]
  rcases List.mem_cons.1 h with rfl | h
  ·
   omega
  ·
   have := len_lensC h
   omega
theorem merge_All_is {L : List (List Cell)} (hL : OrdsC L) (hn : L.length ≤ 1000) (ht : lensC L ≤ 100000) : Ev (fun k => merge_All.f k L) (refAll L) := by
 obtain ⟨r, he, hr⟩ := merge_All_ev hL hn ht
 rw [merged_uniq hL (refAll_merged hL) hr]
 exact he
theorem refAll_length : ∀ (L : List (List Cell)), (refAll L).length ≤ lensC L
 | [] => Nat.zero_le _
 | l :: L => by
  have := refAll_length L
  have := foldl_length l (refAll L)
  rw [lensC_cons]
  show (l.foldl (fun o c => ins c o) (refAll L)).length ≤ _
  omega
end Go.Proofs.Ythphffimgmbhgaa.Pl
