/- Plain laws of lists of cells: the newest of a row and column up to a time; cleaned; visible. -/
import Derived.Test.YthphffimgmbhgaaQCellsNew
namespace Go.Proofs.Ythphffimgmbhgaa.Pl
open Go.RowKit Go.Proofs.Ythphffimgmbhgaa.X Go.Proofs.YthphffimgmbhgaaW.PrintWords Go.Proofs.YthphffimgmbhgaaW.PrintLast Go.Proofs.YthphffimgmbhgaaW.PrintMore
def NewC (l : List Cell) (t : Int) (x : Cell) : Prop := x.f2 ≤ t ∧ ∀ y ∈ l, y.f0 = x.f0 → y.f1 = x.f1 → y.f2 ≤ t → y.f2 ≤ x.f2
instance (l : List Cell) (t : Int) (x : Cell) : Decidable (NewC l t x) := by unfold NewC; infer_instance
def sameK (p c : Cell) : Bool := decide (p.f0 = c.f0 ∧ p.f1 = c.f1)
def nwC (t : Int) : Option Cell → Cell → Bool
 | none, _ => true
 | some p, c => !(sameK p c) || decide (p.f2 > t)
theorem cc_key {a b : Cell} (h : cc a b = -1) (h0 : a.f0 = b.f0) (h1 : a.f1 = b.f1) : b.f2 < a.f2 := by
 rw [cc_same h0 h1, cmpN_lt] at h
 exact h
theorem cc_mid {x p c : Cell} (h1 : cc x p = -1) (h2 : cc p c = -1) (e0 : x.f0 = c.f0) (e1 : x.f1 = c.f1) : p.f0 = c.f0 ∧ p.f1 = c.f1 := by
 refine Classical.byContradiction fun hn => ?_
 have h := cc_other (x := p) (y := x) (z := c) e0 e1 (fun h => hn ⟨h.1.trans e0, h.2.trans e1⟩)
 have := cc_neg x p
 omega
theorem newC_split {a b : List Cell} {c : Cell} (t : Int) (h : OrdC (a ++ c :: b)) (ht : c.f2 ≤ t) : nwC t a.getLast? c = decide (NewC (a ++ c :: b) t c) := by
 obtain ⟨ha, hcb, hx⟩ := List.pairwise_append.1 h
 obtain ⟨hcb, _⟩ := List.pairwise_cons.1 hcb
 have hback : ∀ y ∈ b, y.f0 = c.f0 → y.f1 = c.f1 → y.f2 ≤ c.f2 := fun y hy e0 e1 => Int.le_of_lt (cc_key (hcb y hy) e0.symm e1.symm)
 rcases List.eq_nil_or_concat a with rfl | ⟨a', p, rfl⟩
 ·
  rw [eq_comm, show nwC t ([] : List Cell).getLast? c = true from rfl, decide_eq_true_iff]
  refine ⟨ht, fun y hy e0 e1 _ => ?_⟩
  rcases List.mem_cons.1 hy with rfl | hy
  ·
   exact Int.le_refl _
  ·
   exact hback y hy e0 e1
 ·
  simp only [List.concat_eq_append] at *
  have hl : (a' ++ [p]).getLast? = some p := by simp
  rw [hl]
  have hpc : cc p c = -1 := hx p (by simp) c (by simp)
  obtain ⟨_, _, hap⟩ := List.pairwise_append.1 ha
  cases hn : nwC t (some p) c with
  | true =>
   rw [eq_comm, decide_eq_true_iff]
   refine ⟨ht, fun y hy e0 e1 hyt => ?_⟩
   rcases List.mem_append.1 hy with hy | hy
   ·
    exfalso
    unfold nwC sameK at hn
    have hp : p.f0 = c.f0 ∧ p.f1 = c.f1 ∧ p.f2 ≤ t := by
     rcases List.mem_append.1 hy with hy | hy
     ·
      have h1 := hap y hy p (by simp)
      have h2 := cc_mid h1 hpc e0 e1
      have := cc_key h1 (e0.trans h2.1.symm) (e1.trans h2.2.symm)
      exact ⟨h2.1, h2.2, by omega⟩
     ·
      obtain rfl := List.mem_singleton.1 hy
      exact ⟨e0, e1, hyt⟩
    simp only [Bool.or_eq_true, Bool.not_eq_true', decide_eq_false_iff_not, decide_eq_true_iff] at hn
    rcases hn with hn | hn
    ·
     exact hn ⟨hp.1, hp.2.1⟩
    ·
     omega
   ·
    rcases List.mem_cons.1 hy with rfl | hy
    ·
     exact Int.le_refl _
    ·
     exact hback y hy e0 e1
  | false =>
   rw [eq_comm, decide_eq_false_iff_not]
   unfold nwC sameK at hn
   simp only [Bool.or_eq_false_iff, Bool.not_eq_false', decide_eq_true_iff, decide_eq_false_iff_not] at hn
   obtain ⟨⟨e0, e1⟩, h2⟩ := hn
   intro hN
   have h3 := hN.2 p (by simp) e0 e1 (by omega)
   have h4 := cc_key hpc e0 e1
   omega
def filtC (F : Bool → Cell → Bool) (t : Int) : Option Cell → List Cell → List Cell
 | _, [] => []
 | p, c :: l => if F (nwC t p c) c = true then c :: filtC F t (some c) l else filtC F t (some c) l
theorem filtC_eq (F : Bool → Cell → Bool) (t : Int) (hF : ∀ c : Cell, ¬ c.f2 ≤ t → F true c = F false c) : ∀ (b a : List Cell), OrdC (a ++ b) → filtC F t a.getLast? b = b.filter (fun c => F (decide (NewC (a ++ b) t c)) c)
 | [], _, _ => rfl
 | c :: b, a, h => by
  have ih := filtC_eq F t hF b (a ++ [c]) (by simpa using h)
  rw [show (a ++ [c]).getLast? = some c by simp, show a ++ [c] ++ b = a ++ c :: b by simp] at ih
  have he : F (nwC t a.getLast? c) c = F (decide (NewC (a ++ c :: b) t c)) c := by
   by_cases hc : c.f2 ≤ t
   ·
    rw [newC_split t h hc]
   ·
    have h1 := hF c hc
    cases nwC t a.getLast? c <;> cases decide (NewC (a ++ c :: b) t c) <;> simp_all
  unfold filtC
  rw [List.filter_cons, he, ih]
def cleanF (t : Int) (n : Bool) (c : Cell) : Bool := decide (c.f2 > t) || (n && !c.f4)
def visF (t : Int) (n : Bool) (c : Cell) : Bool := decide (c.f2 ≤ t) && (n && !c.f4)
def cleanC (l : List Cell) (t : Int) : List Cell := l.filter (fun c => cleanF t (decide (NewC l t c)) c)
def visC (l : List Cell) (t : Int) : List Cell := l.filter (fun c => visF t (decide (NewC l t c)) c)
theorem filt_clean {l : List Cell} (t : Int) (h : OrdC l) : filtC (cleanF t) t none l = cleanC l t :=
 filtC_eq (cleanF t) t (fun c hc => by simp [cleanF]; omega) l [] h
theorem filt_vis {l : List Cell} (t : Int) (h : OrdC l) : filtC (visF t) t none l = visC l t :=
 filtC_eq (visF t) t (fun c hc => by simp [visF, hc]) l [] h
theorem find_new {l : List Cell} {x : Cell} (t : Int) (h : OrdC l) (hx : x ∈ l) : findC x.f0 x.f1 t l = some x ↔ NewC l t x := by
 have hord : ∀ y ∈ l, y.f0 = x.f0 → y.f1 = x.f1 → y.f2 = x.f2 → y = x := by
  intro y hy e0 e1 e2
  refine Classical.byContradiction fun hne => ?_
  have h0 : cc y x = 0 := cc_zero.2 ⟨e0, e1, e2⟩
  obtain ⟨i, hi, rfl⟩ := List.getElem_of_mem hy
  obtain ⟨j, hj, rfl⟩ := List.getElem_of_mem hx
  rcases Nat.lt_trichotomy i j with hlt | rfl | hlt
  ·
   have := List.pairwise_iff_getElem.1 h i j hi hj hlt
   omega
  ·
   exact hne rfl
  ·
   have := List.pairwise_iff_getElem.1 h j i hj hi hlt
   have := cc_neg l[j] l[i]
   omega
 constructor
 ·
  intro hf
  obtain ⟨hp, a, b, rfl, hno⟩ := List.find?_eq_some_iff_append.1 hf
  obtain ⟨_, _, hxt⟩ := ofC_iff.1 hp
  refine ⟨hxt, fun y hy e0 e1 hyt => ?_⟩
  obtain ⟨_, hcb, _⟩ := List.pairwise_append.1 h
  obtain ⟨hcb, _⟩ := List.pairwise_cons.1 hcb
  rcases List.mem_append.1 hy with hy | hy
  ·
   have := hno y hy
   rw [ofC_iff.2 ⟨e0, e1, hyt⟩] at this
   cases this
  ·
   rcases List.mem_cons.1 hy with rfl | hy
   ·
    exact Int.le_refl _
   ·
    exact Int.le_of_lt (cc_key (hcb y hy) e0.symm e1.symm)
 ·
  intro hN
  cases hf : findC x.f0 x.f1 t l with
  | none =>
   have := List.find?_eq_none.1 hf x hx
   exact absurd (ofC_iff.2 ⟨rfl, rfl, hN.1⟩) this
  | some y =>
   have hy := List.mem_of_find?_eq_some hf
   obtain ⟨hp, a, b, hl, hno⟩ := List.find?_eq_some_iff_append.1 hf
   obtain ⟨e0, e1, hyt⟩ := ofC_iff.1 hp
   have h1 := hN.2 y hy e0 e1 hyt
   have hcb : x.f2 ≤ y.f2 := by
    rw [hl] at h hx
    obtain ⟨_, hcb, _⟩ := List.pairwise_append.1 h
    obtain ⟨hcb, _⟩ := List.pairwise_cons.1 hcb
    rcases List.mem_append.1 hx with hx | hx
    ·
     have := hno x hx
     rw [ofC_iff.2 ⟨rfl, rfl, hN.1⟩] at this
     cases this
    ·
     rcases List.mem_cons.1 hx with rfl | hx
     ·
      exact Int.le_refl _
     ·
      exact Int.le_of_lt (cc_key (hcb x hx) e0 e1)
   rw [hord y hy e0 e1 (by omega)]
theorem newC_sub {l m : List Cell} {t : Int} {x : Cell} (h : ∀ y ∈ m, y ∈ l) (hN : NewC l t x) : NewC m t x := ⟨hN.1, fun y hy => hN.2 y (h y hy)⟩
theorem mem_cleanC {l : List Cell} {t : Int} {x : Cell} : x ∈ cleanC l t ↔ x ∈ l ∧ (x.f2 > t ∨ (NewC l t x ∧ x.f4 = false)) := by
 unfold cleanC cleanF
 rw [List.mem_filter]
 simp
theorem ord_sub {l m : List Cell} (h : OrdC l) (hs : m.Sublist l) : OrdC m := List.Pairwise.sublist hs h
theorem cleanC_sub (l : List Cell) (t : Int) : (cleanC l t).Sublist l := List.filter_sublist
theorem visC_sub (l : List Cell) (t : Int) : (visC l t).Sublist l := List.filter_sublist
theorem srt_sub {l m : List Cell} (h : SrtC l) (hs : m.Sublist l) : SrtC m := ⟨fun c hc => h.1 c (hs.subset hc), ord_sub h.2 hs⟩
theorem cleanC_twice (l : List Cell) (t : Int) : cleanC (cleanC l t) t = cleanC l t := by
 unfold cleanC
 rw [List.filter_eq_self]
 intro x hx
 have hx2 : x ∈ cleanC l t := hx
 obtain ⟨hxl, hx2⟩ := mem_cleanC.1 hx2
 unfold cleanF
 rw [Bool.or_eq_true, Bool.and_eq_true, decide_eq_true_iff, decide_eq_true_iff, Bool.not_eq_true']
 rcases hx2 with h | h
 ·
  exact .inl h
 ·
  exact .inr ⟨newC_sub (fun y hy => (mem_cleanC.1 hy).1) h.1, h.2⟩
theorem vis_clean (l : List Cell) {u t : Int} (hu : u ≤ t) : visC (cleanC l u) t = visC l t := by
 have e : visC (cleanC l u) t = l.filter (fun c => visF t (decide (NewC (cleanC l u) t c)) c && cleanF u (decide (NewC l u c)) c) := List.filter_filter
 rw [e]
 unfold visC
 refine List.filter_congr fun x hx => ?_
 rw [Bool.eq_iff_iff]
 simp only [visF, cleanF, Bool.and_eq_true, Bool.or_eq_true, decide_eq_true_iff, Bool.not_eq_true']
 constructor
 ·
  rintro ⟨⟨h1, h2, h3⟩, h4⟩
  refine ⟨h1, ⟨h1, fun y hy e0 e1 hyt => ?_⟩, h3⟩
  by_cases hc : y ∈ cleanC l u
  ·
   exact h2.2 y hc e0 e1 hyt
  ·
   refine Classical.byContradiction fun hlt => ?_
   have hyu : ¬ y.f2 > u := fun h => hc (mem_cleanC.2 ⟨hy, .inl h⟩)
   rcases h4 with h4 | h4
   ·
    omega
   ·
    exact hlt (h4.1.2 y hy e0 e1 (by omega))
 ·
  rintro ⟨h1, h2, h3⟩
  refine ⟨⟨h1, newC_sub (fun y hy => (mem_cleanC.1 hy).1) h2, h3⟩, ?_⟩
  by_cases hx2 : x.f2 > u
  ·
   exact .inl hx2
  ·
   exact .inr ⟨⟨by omega, fun y hy e0 e1 hyt => h2.2 y hy e0 e1 (by omega)⟩, h3⟩
def isC (o : Option Cell) (x : Cell) : Bool := match o with
 | none => false
 | some y => (y.f0.toList == x.f0.toList && (y.f1.toList == x.f1.toList && (y.f2 == x.f2 && (y.f3.toList == x.f3.toList && (y.f4 == x.f4)))))
theorem isC_iff {o : Option Cell} {x : Cell} : isC o x = true ↔ o = some x := by
 cases o with
 | none => exact ⟨fun h => (by cases h), fun h => (by cases h)⟩
 | some y =>
  show (_ && _) = true ↔ _
  simp only [Bool.and_eq_true, beq_iff_eq, Option.some.injEq]
  constructor
  ·
   rintro ⟨h0, h1, h2, h3, h4⟩
   cases y; cases x
   simp only at h0 h1 h2 h3 h4
   rw [toList_inj h0, toList_inj h1, h2, toList_inj h3, h4]
  ·
   rintro rfl
   exact ⟨rfl, rfl, rfl, rfl, rfl⟩
end Go.Proofs.Ythphffimgmbhgaa.Pl
