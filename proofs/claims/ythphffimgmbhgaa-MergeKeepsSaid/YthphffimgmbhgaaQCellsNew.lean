/- Plain laws of lists of cells: the first one that is not ahead of a key; the newest of a row and column up to a time. -/
import Derived.Test.YthphffimgmbhgaaQCells
namespace Go.Proofs.Ythphffimgmbhgaa.Pl
open Go.RowKit Go.Proofs.Ythphffimgmbhgaa.X Go.Proofs.YthphffimgmbhgaaW.PrintWords Go.Proofs.YthphffimgmbhgaaW.PrintLast Go.Proofs.YthphffimgmbhgaaW.PrintMore
def ofC (r c : ByteArray) (t : Int) (x : Cell) : Bool := decide (x.f0 = r ∧ x.f1 = c ∧ x.f2 ≤ t)
theorem ofC_iff {r c : ByteArray} {t : Int} {x : Cell} : ofC r c t x = true ↔ x.f0 = r ∧ x.f1 = c ∧ x.f2 ≤ t := decide_eq_true_iff
def findC (r c : ByteArray) (t : Int) (l : List Cell) : Option Cell := l.find? (ofC r c t)
theorem cc_same {x y : Cell} (h1 : x.f0 = y.f0) (h2 : x.f1 = y.f1) : cc x y = cmpN y.f2 x.f2 := by
 unfold cc cmpC
 rw [if_pos (cmpT_zero.2 h1), if_pos (cmpT_zero.2 h2)]
theorem cmpN_lt {a b : Int} : cmpN a b = -1 ↔ a < b := by
 unfold cmpN
 split
 ·
  simp [*]
 ·
  split <;> simp <;> omega
theorem cc_other {x y z : Cell} (h1 : y.f0 = z.f0) (h2 : y.f1 = z.f1) (h : ¬ (x.f0 = y.f0 ∧ x.f1 = y.f1)) : cc x y = cc x z := by
 unfold cc cmpC
 rw [← h1, ← h2]
 by_cases e1 : cmpT x.f0 y.f0 = 0
 ·
  rw [if_pos e1]
  by_cases e2 : cmpT x.f1 y.f1 = 0
  ·
   exact absurd ⟨cmpT_zero.1 e1, cmpT_zero.1 e2⟩ h
  ·
   rw [if_neg e2, if_pos e1, if_neg e2]
 ·
  rw [if_neg e1, if_neg e1]
def bestC (r c : ByteArray) (t : Int) : List Cell → Cell → Cell
 | [], b => b
 | x :: l, b => bestC r c t l (if ofC r c t x = true ∧ x.f2 > b.f2 then x else b)
theorem bestC_stay (r c : ByteArray) (t : Int) : ∀ (l : List Cell) (b : Cell), (∀ x ∈ l, ofC r c t x = true → x.f2 ≤ b.f2) → bestC r c t l b = b
 | [], _, _ => rfl
 | x :: l, b, h => by
  unfold bestC
  rw [if_neg (fun hx => by have := h x List.mem_cons_self hx.1; omega)]
  exact bestC_stay r c t l b (fun y hy => h y (List.mem_cons_of_mem _ hy))
theorem bestC_find (r c : ByteArray) (t : Int) (z : Cell) (hz : z.f2 = -1) : ∀ {l : List Cell}, SrtC l → bestC r c t l z = (findC r c t l).getD z
 | [], _ => rfl
 | x :: l, ⟨hr, h⟩ => by
  obtain ⟨h1, h2⟩ := List.pairwise_cons.1 h
  unfold bestC findC
  by_cases hx : ofC r c t x = true
  ·
   have h0 := (rightC_iff.1 (hr x List.mem_cons_self)).2.2.2.2.1
   rw [if_pos ⟨hx, by omega⟩, List.find?_cons_of_pos hx]
   refine bestC_stay r c t l x fun y hy ho => ?_
   obtain ⟨e1, e2, _⟩ := ofC_iff.1 hx
   obtain ⟨f1, f2, _⟩ := ofC_iff.1 ho
   have := h1 y hy
   rw [cc_same (e1.trans f1.symm) (e2.trans f2.symm), cmpN_lt] at this
   omega
  ·
   rw [if_neg (fun h => hx h.1), List.find?_cons_of_neg hx]
   exact bestC_find r c t z hz ⟨fun y hy => hr y (List.mem_cons_of_mem _ hy), h2⟩
def tupC : Option Cell → ByteArray × ByteArray × Int × ByteArray × Bool × Bool
 | none => (⟨#[]⟩, ⟨#[]⟩, 0, ⟨#[]⟩, false, false)
 | some c => (c.f0, c.f1, c.f2, c.f3, c.f4, true)
end Go.Proofs.Ythphffimgmbhgaa.Pl
