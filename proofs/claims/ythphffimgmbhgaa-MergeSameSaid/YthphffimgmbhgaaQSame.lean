/- A list merged with itself and its parts; seen and cleaned twice. -/
import Derived.Test.YthphffimgmbhgaaQSteps
import Derived.Test.YthphffimgmbhgaaQMerge
namespace Go.Proofs.Ythphffimgmbhgaa.Pl
open Go.RowKit Go.Proofs.Ythphffimgmbhgaa.X Go.Proofs.YthphffimgmbhgaaW.PrintWords Go.Proofs.YthphffimgmbhgaaW.PrintLast Go.Proofs.YthphffimgmbhgaaW.PrintMore
theorem ords_two {a b : List Cell} (ha : OrdC a) (hb : OrdC b) : OrdsC [a, b] := ords_iff.2 (fun l hl => by
 rcases List.mem_cons.1 hl with rfl | hl
 ·
  exact ha
 ·
  rw [List.mem_singleton.1 hl]
  exact hb)
theorem refAll_sub {s p : List Cell} (hs : OrdC s) (hp : OrdC p) (h : ∀ c ∈ p, c ∈ s) : refAll [s, p] = s :=
 ord_ext (refAll_ord (ords_two hs hp)) hs (fun c => by
  rw [refAll_two hs hp]
  exact ⟨fun hc => hc.elim id (fun hc => h c hc.1), .inl⟩)
theorem refAll_pre {s p : List Cell} (hs : OrdC s) (hp : OrdC p) (h : ∀ c ∈ p, c ∈ s) : refAll [p, s] = s :=
 ord_ext (refAll_ord (ords_two hp hs)) hs (fun c => by
  rw [refAll_two hp hs]
  refine ⟨fun hc => hc.elim (h c) (fun hc => hc.1), fun hc => ?_⟩
  by_cases hm : c ∈ p
  ·
   exact .inl hm
  ·
   exact .inr ⟨hc, fun d hd h0 => hm (by rw [← ord_inj hs (h d hd) hc h0]; exact hd)⟩)
theorem refAll_three {s : List Cell} (hs : OrdC s) (k : Nat) : refAll [s.drop k, s, s.take k] = s := by
 have hd : OrdC (s.drop k) := ord_sub hs (List.drop_sublist k s)
 have ht : OrdC (s.take k) := ord_sub hs (List.take_sublist k s)
 have hX : OrdsC [s.drop k] := ords_iff.2 (fun l hl => by rw [List.mem_singleton.1 hl]; exact hd)
 rw [show [s.drop k, s, s.take k] = [s.drop k] ++ [s, s.take k] from rfl, refAll_append hX (ords_two hs ht), refAll_one hd, refAll_sub hs ht (fun c hc => List.mem_of_mem_take hc), refAll_pre hs hd (fun c hc => List.mem_of_mem_drop hc)]
theorem mem_visC {l : List Cell} {t : Int} {x : Cell} : x ∈ visC l t ↔ x ∈ l ∧ NewC l t x ∧ x.f4 = false := by
 unfold visC visF
 rw [List.mem_filter]
 simp
 exact fun _ h _ => h.1
theorem visC_twice (l : List Cell) (t : Int) : visC (visC l t) t = visC l t := by
 have e : ∀ m : List Cell, (∀ x ∈ m, NewC m t x ∧ x.f4 = false) → visC m t = m := fun m hm => by
  unfold visC
  rw [List.filter_eq_self]
  intro x hx
  obtain ⟨h1, h2⟩ := hm x hx
  unfold visF
  simp [h1, h2, h1.1]
 refine e _ (fun x hx => ?_)
 obtain ⟨_, h2, h3⟩ := mem_visC.1 hx
 exact ⟨newC_sub (fun y hy => (mem_visC.1 hy).1) h2, h3⟩
theorem cleanC_vis (l : List Cell) (t : Int) : cleanC (visC l t) t = visC l t := by
 have e : ∀ m : List Cell, (∀ x ∈ m, NewC m t x ∧ x.f4 = false) → cleanC m t = m := fun m hm => by
  unfold cleanC
  rw [List.filter_eq_self]
  intro x hx
  obtain ⟨h1, h2⟩ := hm x hx
  unfold cleanF
  simp [h1, h2]
 refine e _ (fun x hx => ?_)
 obtain ⟨_, h2, h3⟩ := mem_visC.1 hx
 exact ⟨newC_sub (fun y hy => (mem_visC.1 hy).1) h2, h3⟩
end Go.Proofs.Ythphffimgmbhgaa.Pl
