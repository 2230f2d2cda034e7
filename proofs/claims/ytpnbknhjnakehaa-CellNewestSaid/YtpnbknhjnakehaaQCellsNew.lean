/- Plain laws of lists of cells: the first one that is not ahead of a key; the newest of a row and column up to a time. -/
import Derived.Test.YtpnbknhjnakehaaQCells
namespace Go.Proofs.Ytpnbknhjnakehaa.Pl
open Go.RowKit Go.Proofs.Ytpnbknhjnakehaa.X Go.Proofs.YtpnbknhjnakehaaW.PrintWords Go.Proofs.YtpnbknhjnakehaaW.PrintLast Go.Proofs.YtpnbknhjnakehaaW.PrintMore
/-- How many cells at the beginning go ahead of one. -/
def posC (t : Cell) : List Cell → Nat
  | [] => 0
  | x :: l => if cc x t = -1 then posC t l + 1 else 0
theorem posC_le (t : Cell) : ∀ l : List Cell, posC t l ≤ l.length
  | [] => Nat.le_refl _
  | x :: l => by
    have := posC_le t l
    unfold posC
    split <;> simp only [List.length_cons] <;> omega
theorem posC_uniq (t : Cell) : ∀ (l : List Cell) (i : Nat), i ≤ l.length → (∀ j (_ : j < i) (hl : j < l.length), cc l[j] t = -1) → (∀ h : i < l.length, ¬ cc l[i] t = -1) → posC t l = i
  | [], i, hi, _, _ => by simp at hi; simp [posC, hi]
  | x :: l, 0, _, _, h2 => by
    have := h2 (by simp)
    simp only [List.getElem_cons_zero] at this
    unfold posC
    rw [if_neg this]
  | x :: l, i + 1, hi, h1, h2 => by
    have hx := h1 0 (by omega) (by simp)
    simp only [List.getElem_cons_zero] at hx
    unfold posC
    rw [if_pos hx, posC_uniq t l i (by simpa using hi) (fun j hj hl => by have := h1 (j + 1) (by omega) (by simpa using hl); simpa using this) (fun hl => by have := h2 (by simpa using hl); simpa using this)]
def ofC (r c : ByteArray) (t : Int) (x : Cell) : Bool := decide (x.f0 = r ∧ x.f1 = c ∧ x.f2 ≤ t)
theorem ofC_iff {r c : ByteArray} {t : Int} {x : Cell} : ofC r c t x = true ↔ x.f0 = r ∧ x.f1 = c ∧ x.f2 ≤ t := decide_eq_true_iff
/-- The newest of a row and column up to a time, of sorted cells. -/
def findC (r c : ByteArray) (t : Int) (l : List Cell) : Option Cell := l.find? (ofC r c t)
def keyC (r c : ByteArray) (t : Int) : Cell := ⟨r, c, t, ⟨#[]⟩, false⟩
theorem cc_same {x y : Cell} (h1 : x.f0 = y.f0) (h2 : x.f1 = y.f1) : cc x y = cmpN y.f2 x.f2 := by
  unfold cc cmpC
  rw [if_pos (cmpT_zero.2 h1), if_pos (cmpT_zero.2 h2)]
theorem cmpN_lt {a b : Int} : cmpN a b = -1 ↔ a < b := by
  unfold cmpN
  split
  · simp [*]
  · split <;> simp <;> omega
theorem cc_other {x y z : Cell} (h1 : y.f0 = z.f0) (h2 : y.f1 = z.f1) (h : ¬ (x.f0 = y.f0 ∧ x.f1 = y.f1)) : cc x y = cc x z := by
  unfold cc cmpC
  rw [← h1, ← h2]
  by_cases e1 : cmpT x.f0 y.f0 = 0
  · rw [if_pos e1]
    by_cases e2 : cmpT x.f1 y.f1 = 0
    · exact absurd ⟨cmpT_zero.1 e1, cmpT_zero.1 e2⟩ h
    · rw [if_neg e2, if_pos e1, if_neg e2]
  · rw [if_neg e1, if_neg e1]
theorem find_pos (r c : ByteArray) (t : Int) : ∀ {l : List Cell}, OrdC l → findC r c t l = if h : posC (keyC r c t) l < l.length then (if l[posC (keyC r c t) l].f0 = r ∧ l[posC (keyC r c t) l].f1 = c then some l[posC (keyC r c t) l] else none) else none
  | [], _ => by simp [findC]
  | x :: l, h => by
    obtain ⟨h1, h2⟩ := List.pairwise_cons.1 h
    by_cases hx : cc x (keyC r c t) = -1
    · have hn : ofC r c t x = false := by
        cases ho : ofC r c t x with
        | false => rfl
        | true =>
          obtain ⟨e1, e2, e3⟩ := ofC_iff.1 ho
          rw [cc_same (y := keyC r c t) e1 e2, cmpN_lt] at hx
          have : (keyC r c t).f2 = t := rfl
          omega
      unfold findC
      rw [List.find?_cons_of_neg (by simp [hn])]
      have ih := find_pos r c t h2
      unfold findC at ih
      rw [ih]
      simp only [posC, if_pos hx, List.length_cons, Nat.add_lt_add_iff_right, List.getElem_cons_succ]
    · simp only [posC, if_neg hx, List.length_cons, Nat.zero_lt_succ, dif_pos, List.getElem_cons_zero]
      by_cases hk : x.f0 = r ∧ x.f1 = c
      · rw [if_pos hk]
        rw [cc_same (y := keyC r c t) hk.1 hk.2, cmpN_lt] at hx
        have : (keyC r c t).f2 = t := rfl
        exact List.find?_cons_of_pos (ofC_iff.2 ⟨hk.1, hk.2, by omega⟩)
      · rw [if_neg hk]
        refine List.find?_eq_none.2 fun y hy => ?_
        rcases List.mem_cons.1 hy with rfl | hy
        · intro ho
          obtain ⟨e1, e2, _⟩ := ofC_iff.1 ho
          exact hk ⟨e1, e2⟩
        · intro ho
          obtain ⟨e1, e2, _⟩ := ofC_iff.1 ho
          have hxy := h1 y hy
          rw [cc_other (y := y) (z := keyC r c t) e1 e2 (by rw [e1, e2]; exact hk)] at hxy
          exact hx hxy
/-- The reference's way: the best so far. -/
def bestC (r c : ByteArray) (t : Int) : List Cell → Cell → Cell
  | [], b => b
  | x :: l, b => bestC r c t l (if ofC r c t x = true ∧ x.f2 > b.f2 then x else b)
theorem bestC_stay (r c : ByteArray) (t : Int) : ∀ (l : List Cell) (b : Cell), (∀ x ∈ l, ofC r c t x = true → x.f2 ≤ b.f2) → bestC r c t l b = b
  | [], _, _ => rfl
  | x :: l, b, h => by
    unfold bestC
    rw [if_neg (fun hx => by have := h x List.mem_cons_self hx.1; omega)]
    exact bestC_stay r c t l b (fun y hy => h y (List.mem_cons_of_mem _ hy))
theorem bestC_find (r c : ByteArray) (t : Int) (z : Cell) (hz : z.f2 = -1) : ∀ {l : List Cell}, SrtC l → bestC r c t l z = (findC r c t l).getD z
  | [], _ => rfl
  | x :: l, ⟨hr, h⟩ => by
    obtain ⟨h1, h2⟩ := List.pairwise_cons.1 h
    unfold bestC findC
    by_cases hx : ofC r c t x = true
    · have h0 := (rightC_iff.1 (hr x List.mem_cons_self)).2.2.2.2.1
      rw [if_pos ⟨hx, by omega⟩, List.find?_cons_of_pos hx]
      refine bestC_stay r c t l x fun y hy ho => ?_
      obtain ⟨e1, e2, _⟩ := ofC_iff.1 hx
      obtain ⟨f1, f2, _⟩ := ofC_iff.1 ho
      have := h1 y hy
      rw [cc_same (e1.trans f1.symm) (e2.trans f2.symm), cmpN_lt] at this
      omega
    · rw [if_neg (fun h => hx h.1), List.find?_cons_of_neg hx]
      exact bestC_find r c t z hz ⟨fun y hy => hr y (List.mem_cons_of_mem _ hy), h2⟩
/-- What is told of a cell, or of none. -/
def tupC : Option Cell → ByteArray × ByteArray × Int × ByteArray × Bool × Bool
  | none => (⟨#[]⟩, ⟨#[]⟩, 0, ⟨#[]⟩, false, false)
  | some c => (c.f0, c.f1, c.f2, c.f3, c.f4, true)
end Go.Proofs.Ytpnbknhjnakehaa.Pl
