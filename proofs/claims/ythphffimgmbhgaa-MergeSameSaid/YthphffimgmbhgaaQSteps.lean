/- Lists merged in two steps are as in one. -/
import Derived.Test.YthphffimgmbhgaaQRefAll
namespace Go.Proofs.Ythphffimgmbhgaa.Pl
open Go.RowKit Go.Proofs.Ythphffimgmbhgaa.X Go.Proofs.YthphffimgmbhgaaW.PrintWords Go.Proofs.YthphffimgmbhgaaW.PrintLast Go.Proofs.YthphffimgmbhgaaW.PrintMore
theorem refAll_one {l : List Cell} (h : OrdC l) : refAll [l] = l := by
 refine ord_ext (ord_foldl l List.Pairwise.nil) h (fun c => ?_)
 rw [show refAll [l] = l.foldl (fun o c => ins c o) [] from rfl, mem_foldl_iff h List.Pairwise.nil]
 exact ⟨fun hc => hc.elim id (fun hc => by cases hc.1), .inl⟩
theorem ords_tail {l : List Cell} {L : List (List Cell)} (h : OrdsC (l :: L)) : OrdsC L := fun i => h (i + 1)
theorem refAll_ord {L : List (List Cell)} (h : OrdsC L) : OrdC (refAll L) := (refAll_merged h).ord
theorem refAll_two {a b : List Cell} (ha : OrdC a) (hb : OrdC b) (c : Cell) : c ∈ refAll [a, b] ↔ c ∈ a ∨ (c ∈ b ∧ ∀ d ∈ a, cc d c ≠ 0) := by
 have e : refAll [a, b] = a.foldl (fun o c => ins c o) b := by
  show a.foldl (fun o c => ins c o) (refAll [b]) = _
  rw [refAll_one hb]
 rw [e, mem_foldl_iff ha hb]
theorem refAll_append : ∀ {X Y : List (List Cell)}, OrdsC X → OrdsC Y → refAll (X ++ Y) = refAll [refAll X, refAll Y]
 | [], Y, _, hY => by
  have hy := refAll_ord hY
  show refAll Y = _
  refine ord_ext hy (ord_foldl _ (ord_foldl _ List.Pairwise.nil)) (fun c => ?_)
  rw [refAll_two (a := refAll []) List.Pairwise.nil hy]
  exact ⟨fun h => .inr ⟨h, fun d hd => by cases hd⟩, fun h => h.elim (fun h => by cases h) (fun h => h.1)⟩
 | l :: X, Y, hX, hY => by
  have hl : OrdC l := hX 0
  have hX' := ords_tail hX
  have hx := refAll_ord hX'
  have hy := refAll_ord hY
  have ih := refAll_append hX' hY
  have hxl : OrdC (refAll (l :: X)) := refAll_ord hX
  have h2 : OrdC (refAll [refAll X, refAll Y]) := ord_foldl _ (ord_foldl _ List.Pairwise.nil)
  have e : refAll (l :: X ++ Y) = l.foldl (fun o c => ins c o) (refAll [refAll X, refAll Y]) := by
   show l.foldl (fun o c => ins c o) (refAll (X ++ Y)) = _
   rw [ih]
  rw [e]
  refine ord_ext (ord_foldl l h2) (ord_foldl _ (ord_foldl _ List.Pairwise.nil)) (fun c => ?_)
  have hm : ∀ c, c ∈ refAll (l :: X) ↔ c ∈ l ∨ (c ∈ refAll X ∧ ∀ d ∈ l, cc d c ≠ 0) := fun c => mem_foldl_iff hl hx
  rw [mem_foldl_iff hl h2, refAll_two hx hy, refAll_two hxl hy, hm]
  constructor
  ·
   rintro (h | ⟨h | ⟨h1, h3⟩, h4⟩)
   ·
    exact .inl (.inl h)
   ·
    exact .inl (.inr ⟨h, h4⟩)
   ·
    refine .inr ⟨h1, fun d hd => ?_⟩
    rcases (hm d).1 hd with hd | hd
    ·
     exact h4 d hd
    ·
     exact h3 d hd.1
  ·
   rintro ((h | ⟨h1, h2⟩) | ⟨h1, h2⟩)
   ·
    exact .inl h
   ·
    exact .inr ⟨.inl h1, h2⟩
   ·
    refine .inr ⟨.inr ⟨h1, fun d hd h0 => ?_⟩, fun d hd => h2 d ((hm d).2 (.inl hd))⟩
    by_cases hex : ∃ e ∈ l, cc e d = 0
    ·
     obtain ⟨e, he, h3⟩ := hex
     exact h2 e ((hm e).2 (.inl he)) (by rw [cc_left h3]; exact h0)
    ·
     exact h2 d ((hm d).2 (.inr ⟨hd, fun e he h3 => hex ⟨e, he, h3⟩⟩)) h0
theorem ords_iff {L : List (List Cell)} : OrdsC L ↔ ∀ l ∈ L, OrdC l := by
 constructor
 ·
  intro h l hl
  obtain ⟨i, hi, rfl⟩ := List.getElem_of_mem hl
  have := h i
  rw [nthC_at L i hi] at this
  exact this
 ·
  intro h i
  by_cases hi : i < L.length
  ·
   rw [nthC_at L i hi]
   exact h _ (List.getElem_mem hi)
  ·
   unfold nthC
   rw [List.getD_eq_getElem?_getD, List.getElem?_eq_none (by omega)]
   exact List.Pairwise.nil
end Go.Proofs.Ythphffimgmbhgaa.Pl
