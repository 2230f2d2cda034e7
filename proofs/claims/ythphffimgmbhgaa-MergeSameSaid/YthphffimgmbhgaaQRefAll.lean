/- Lists merged, by definition. -/
import Derived.Test.YthphffimgmbhgaaBMergeAll
namespace Go.Proofs.Ythphffimgmbhgaa.Pl
open Go.RowKit Go.Proofs.Ythphffimgmbhgaa.X Go.Proofs.YthphffimgmbhgaaW.PrintWords Go.Proofs.YthphffimgmbhgaaW.PrintLast Go.Proofs.YthphffimgmbhgaaW.PrintMore
theorem nthC_at (L : List (List Cell)) (i : Nat) (h : i < L.length) : nthC L i = L[i] := by
 unfold nthC
 rw [List.getD_eq_getElem?_getD, List.getElem?_eq_getElem h]
 rfl
def refAll (L : List (List Cell)) : List Cell := L.foldr (fun l o => l.foldl (fun o c => ins c o) o) []
theorem ord_foldl : ∀ (l : List Cell) {o : List Cell}, OrdC o → OrdC (l.foldl (fun o c => ins c o) o)
 | [], _, h => h
 | c :: l, _, h => ord_foldl l (ord_ins h)
theorem mem_ins_iff {a c : Cell} {o : List Cell} (h : OrdC o) : c ∈ ins a o ↔ c = a ∨ (c ∈ o ∧ cc a c ≠ 0) := by
 constructor
 ·
  intro hc
  by_cases e : c = a
  ·
   exact .inl e
  ·
   rcases mem_ins hc with e' | ho
   ·
    exact absurd e' e
   ·
    exact .inr ⟨ho, fun h0 => e (ord_inj (ord_ins (c := a) h) (ins_mem a o) hc h0).symm⟩
 ·
  rintro (rfl | ⟨ho, h0⟩)
  ·
   exact ins_mem c o
  ·
   exact mem_ins_of (fun h => h0 (cc_sym h)) ho
theorem mem_foldl_iff : ∀ {l o : List Cell} {c : Cell}, OrdC l → OrdC o → (c ∈ l.foldl (fun o c => ins c o) o ↔ c ∈ l ∨ (c ∈ o ∧ ∀ d ∈ l, cc d c ≠ 0))
 | [], _, _, _, _ => by simp
 | a :: l, o, c, h, ho => by
  obtain ⟨h1, h2⟩ := List.pairwise_cons.1 h
  rw [List.foldl_cons, mem_foldl_iff h2 (ord_ins ho), mem_ins_iff ho]
  constructor
  ·
   rintro (hc | ⟨rfl | ⟨hc, h0⟩, h3⟩)
   ·
    exact .inl (List.mem_cons_of_mem _ hc)
   ·
    exact .inl List.mem_cons_self
   ·
    refine .inr ⟨hc, fun d hd => ?_⟩
    rcases List.mem_cons.1 hd with rfl | hd
    ·
     exact h0
    ·
     exact h3 d hd
  ·
   rintro (hc | ⟨hc, h3⟩)
   ·
    rcases List.mem_cons.1 hc with rfl | hc
    ·
     refine .inr ⟨.inl rfl, fun d hd => ?_⟩
     have := h1 d hd
     have := cc_neg c d
     omega
    ·
     exact .inl hc
   ·
    exact .inr ⟨.inr ⟨hc, h3 a List.mem_cons_self⟩, fun d hd => h3 d (List.mem_cons_of_mem _ hd)⟩
theorem refAll_merged : ∀ {L : List (List Cell)}, OrdsC L → MergedC L (refAll L)
 | [], _ => ⟨List.Pairwise.nil, fun c hc => (by cases hc), fun i hi => (by cases hi)⟩
 | l :: L, h => by
  have hl : OrdC l := h 0
  obtain ⟨i1, i2, i3⟩ := refAll_merged (L := L) (fun i => h (i + 1))
  have hm : ∀ c, c ∈ refAll (l :: L) ↔ c ∈ l ∨ (c ∈ refAll L ∧ ∀ d ∈ l, cc d c ≠ 0) := fun c => mem_foldl_iff hl i1
  refine ⟨ord_foldl l i1, fun c hc => ?_, fun i hi c hc => ?_⟩
  ·
   rcases (hm c).1 hc with hc | ⟨hc, h0⟩
   ·
    exact ⟨0, by simp, hc, fun j hj => by omega⟩
   ·
    obtain ⟨i, e1, e2, e3⟩ := i2 c hc
    refine ⟨i + 1, by rw [List.length_cons]; omega, e2, fun j hj d hd => ?_⟩
    cases j with
    | zero => exact h0 d hd
    | succ j => exact e3 j (by omega) d hd
  ·
   cases i with
   | zero => exact ⟨c, (hm c).2 (.inl hc), cc_self c⟩
   | succ i =>
    obtain ⟨d, hd, h0⟩ := i3 i (by simpa using hi) c hc
    by_cases hex : ∃ e ∈ l, cc e d = 0
    ·
     obtain ⟨e, he, h1⟩ := hex
     exact ⟨e, (hm e).2 (.inl he), by rw [cc_left h1]; exact h0⟩
    ·
     exact ⟨d, (hm d).2 (.inr ⟨hd, fun e he h1 => hex ⟨e, he, h1⟩⟩), h0⟩
theorem merge_All_is {L : List (List Cell)} (hL : OrdsC L) (hn : L.length ≤ 1000) (ht : lensC L ≤ 100000) : Ev (fun k => merge_All.f k L) (refAll L) := by
 obtain ⟨r, he, hr⟩ := merge_All_ev hL hn ht
 rw [merged_uniq hL (refAll_merged hL) hr]
 exact he
end Go.Proofs.Ythphffimgmbhgaa.Pl
