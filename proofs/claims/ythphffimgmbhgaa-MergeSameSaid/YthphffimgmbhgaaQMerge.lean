/- Plain laws of lists of cells: the newest of a row and column up to a time; cleaned; visible. -/
import Derived.Test.YthphffimgmbhgaaQCellsNew
namespace Go.Proofs.Ythphffimgmbhgaa.Pl
open Go.RowKit Go.Proofs.Ythphffimgmbhgaa.X Go.Proofs.YthphffimgmbhgaaW.PrintWords Go.Proofs.YthphffimgmbhgaaW.PrintLast Go.Proofs.YthphffimgmbhgaaW.PrintMore
def NewC (l : List Cell) (t : Int) (x : Cell) : Prop := x.f2 ≤ t ∧ ∀ y ∈ l, y.f0 = x.f0 → y.f1 = x.f1 → y.f2 ≤ t → y.f2 ≤ x.f2
instance (l : List Cell) (t : Int) (x : Cell) : Decidable (NewC l t x) := by unfold NewC; infer_instance
def sameK (p c : Cell) : Bool := decide (p.f0 = c.f0 ∧ p.f1 = c.f1)
def nwC (t : Int) : Option Cell → Cell → Bool
 | none, _ => true
 | some p, c => !(sameK p c) || decide (p.f2 > t)
theorem cc_key {a b : Cell} (h : cc a b = -1) (h0 : a.f0 = b.f0) (h1 : a.f1 = b.f1) : b.f2 < a.f2 := by
 rw [cc_same h0 h1, cmpN_lt] at h
 exact h
theorem cc_mid {x p c : Cell} (h1 : cc x p = -1) (h2 : cc p c = -1) (e0 : x.f0 = c.f0) (e1 : x.f1 = c.f1) : p.f0 = c.f0 ∧ p.f1 = c.f1 := by
 refine Classical.byContradiction fun hn => ?_
 have h := cc_other (x := p) (y := x) (z := c) e0 e1 (fun h => hn ⟨h.1.trans e0, h.2.trans e1⟩)
 have := cc_neg x p
 omega
theorem newC_split {a b : List Cell} {c : Cell} (t : Int) (h : OrdC (a ++ c :: b)) (ht : c.f2 ≤ t) : nwC t a.getLast? c = decide (NewC (a ++ c :: b) t c) := by
 obtain ⟨ha, hcb, hx⟩ := List.pairwise_append.1 h
 obtain ⟨hcb, _⟩ := List.pairwise_cons.1 hcb
 have hback : ∀ y ∈ b, y.f0 = c.f0 → y.f1 = c.f1 → y.f2 ≤ c.f2 := fun y hy e0 e1 => Int.le_of_lt (cc_key (hcb y hy) e0.symm e1.symm)
 rcases List.eq_nil_or_concat a with rfl | ⟨a', p, rfl⟩
 ·
  rw [eq_comm, show nwC t ([] : List Cell).getLast? c = true from rfl, decide_eq_true_iff]
  refine ⟨ht, fun y hy e0 e1 _ => ?_⟩
  rcases List.mem_cons.1 hy with rfl | hy
  ·
   exact Int.le_refl _
  ·
   exact hback y hy e0 e1
 ·
  simp only [List.concat_eq_append] at *
  have hl : (a' ++ [p]).getLast? = some p := by simp
  rw [hl]
  have hpc : cc p c = -1 := hx p (by simp) c (by simp)
  obtain ⟨_, _, hap⟩ := List.pairwise_append.1 ha
  cases hn : nwC t (some p) c with
  | true =>
   rw [eq_comm, decide_eq_true_iff]
   refine ⟨ht, fun y hy e0 e1 hyt => ?_⟩
   rcases List.mem_append.1 hy with hy | hy
   ·
    exfalso
    unfold nwC sameK at hn
    have hp : p.f0 = c.f0 ∧ p.f1 = c.f1 ∧ p.f2 ≤ t := by
     rcases List.mem_append.1 hy with hy | hy
     ·
      have h1 := hap y hy p (by simp)
      have h2 := cc_mid h1 hpc e0 e1
      have := cc_key h1 (e0.trans h2.1.symm) (e1.trans h2.2.symm)
      exact ⟨h2.1, h2.2, by omega⟩
     ·
      obtain rfl := List.mem_singleton.1 hy
      exact ⟨e0, e1, hyt⟩
    simp only [Bool.or_eq_true, Bool.not_eq_true', decide_eq_false_iff_not, decide_eq_true_iff] at hn
    rcases hn with hn | hn
    ·
     exact hn ⟨hp.1, hp.2.1⟩
    ·
     omega
   ·
    rcases List.mem_cons.1 hy with rfl | hy
    ·
     exact Int.le_refl _
    ·
     exact hback y hy e0 e1
  | false =>
   rw [eq_comm, decide_eq_false_iff_not]
   unfold nwC sameK at hn
   simp only [Bool.or_eq_false_iff, Bool.not_eq_false', decide_eq_true_iff, decide_eq_false_iff_not] at hn
   obtain ⟨⟨e0, e1⟩, h2⟩ := hn
   intro hN
   have h3 := hN.2 p (by simp) e0 e1 (by omega)
   have h4 := cc_key hpc e0 e1
   omega
def filtC (F : Bool → Cell → Bool) (t : Int) : Option Cell → List Cell → List Cell
 | _, [] => []
 | p, c :: l => if F (nwC t p c) c = true then c :: filtC F t (some c) l else filtC F t (some c) l
theorem filtC_eq (F : Bool → Cell → Bool) (t : Int) (hF : ∀ c : Cell, ¬ c.f2 ≤ t → F true c = F false c) : ∀ (b a : List Cell), OrdC (a ++ b) → filtC F t a.getLast? b = b.filter (fun c => F (decide (NewC (a ++ b) t c)) c)
 | [], _, _ => rfl
 | c :: b, a, h => by
  have ih := filtC_eq F t hF b (a ++ [c]) (by simpa using h)
  rw [show (a ++ [c]).getLast? = some c by simp, show a ++ [c] ++ b = a ++ c :: b by simp] at ih
  have he : F (nwC t a.getLast? c) c = F (decide (NewC (a ++ c :: b) t c)) c := by
   by_cases hc : c.f2 ≤ t
   ·
    rw [newC_split t h hc]
   ·
    have h1 := hF c hc
    cases nwC t a.getLast? c <;> cases decide (NewC (a ++ c :: b) t c) <;> simp_all
  unfold filtC
  rw [List.filter_cons, he, ih]
def cleanF (t : Int) (n : Bool) (c : Cell) : Bool := decide (c.f2 > t) || (n && !c.f4)
def visF (t : Int) (n : Bool) (c : Cell) : Bool := decide (c.f2 ≤ t) && (n && !c.f4)
def cleanC (l : List Cell) (t : Int) : List Cell := l.filter (fun c => cleanF t (decide (NewC l t c)) c)
def visC (l : List Cell) (t : Int) : List Cell := l.filter (fun c => visF t (decide (NewC l t c)) c)
theorem filt_clean {l : List Cell} (t : Int) (h : OrdC l) : filtC (cleanF t) t none l = cleanC l t :=
 filtC_eq (cleanF t) t (fun c hc => by simp [cleanF]; omega) l [] h
theorem filt_vis {l : List Cell} (t : Int) (h : OrdC l) : filtC (visF t) t none l = visC l t :=
 filtC_eq (visF t) t (fun c hc => by simp [visF, hc]) l [] h
theorem newC_sub {l m : List Cell} {t : Int} {x : Cell} (h : ∀ y ∈ m, y ∈ l) (hN : NewC l t x) : NewC m t x := ⟨hN.1, fun y hy => hN.2 y (h y hy)⟩
theorem ord_sub {l m : List Cell} (h : OrdC l) (hs : m.Sublist l) : OrdC m := List.Pairwise.sublist hs h
theorem visC_sub (l : List Cell) (t : Int) : (visC l t).Sublist l := List.filter_sublist
end Go.Proofs.Ythphffimgmbhgaa.Pl
