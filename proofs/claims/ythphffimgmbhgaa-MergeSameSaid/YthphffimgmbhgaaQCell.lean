/- Plain laws of the order of cells: no program in sight. -/
import Derived.Test.YthphffimgmbhgaaQWire
namespace Go.Proofs.Ythphffimgmbhgaa.Pl
open Go.RowKit Go.Proofs.YthphffimgmbhgaaW.PrintWords Go.Proofs.YthphffimgmbhgaaW.PrintMore
def cmpB : List UInt8 → List UInt8 → Int
 | [], [] => 0
 | [], _ :: _ => -1
 | _ :: _, [] => 1
 | x :: a, y :: b => if x < y then -1 else if y < x then 1 else cmpB a b
theorem u8_asymm {x y : UInt8} (h : x < y) : ¬ y < x := fun h2 => absurd (UInt8.lt_trans h h2) (UInt8.lt_irrefl x)
theorem u8_eq {x y : UInt8} (h : ¬ x < y) (h2 : ¬ y < x) : x = y := UInt8.le_antisymm (UInt8.not_lt.1 h2) (UInt8.not_lt.1 h)
theorem cmpB_less : ∀ a b : List UInt8, cmpB a b = if Op.bytesLess a b = true then -1 else if Op.bytesLess b a = true then 1 else 0
 | [], [] => rfl
 | [], _ :: _ => rfl
 | _ :: _, [] => rfl
 | x :: a, y :: b => by
  have ih := cmpB_less a b
  by_cases h1 : x < y
  ·
   simp [cmpB, Op.bytesLess, h1]
  ·
   by_cases h2 : y < x
   ·
    have h3 : ¬ x = y := fun h => by rw [h] at h2; exact UInt8.lt_irrefl y h2
    simp [cmpB, Op.bytesLess, h1, h2, h3]
   ·
    have h3 := u8_eq h1 h2
    subst h3
    simp only [cmpB, Op.bytesLess, h1, decide_false, Bool.false_or, beq_self_eq_true, Bool.true_and]
    exact ih
theorem cmpB_in : ∀ a b : List UInt8, cmpB a b = -1 ∨ cmpB a b = 0 ∨ cmpB a b = 1
 | [], [] => .inr (.inl rfl)
 | [], _ :: _ => .inl rfl
 | _ :: _, [] => .inr (.inr rfl)
 | x :: a, y :: b => by
  unfold cmpB
  split
  ·
   exact .inl rfl
  ·
   split
   ·
    exact .inr (.inr rfl)
   ·
    exact cmpB_in a b
theorem cmpB_zero : ∀ {a b : List UInt8}, cmpB a b = 0 ↔ a = b
 | [], [] => by simp [cmpB]
 | [], _ :: _ => by simp [cmpB]
 | _ :: _, [] => by simp [cmpB]
 | x :: a, y :: b => by
  have ih := cmpB_zero (a := a) (b := b)
  unfold cmpB
  by_cases h1 : x < y
  ·
   rw [if_pos h1]
   have h3 : ¬ x = y := fun h => by rw [h] at h1; exact UInt8.lt_irrefl y h1
   simp [h3]
  ·
   rw [if_neg h1]
   by_cases h2 : y < x
   ·
    rw [if_pos h2]
    have h3 : ¬ x = y := fun h => by rw [h] at h2; exact UInt8.lt_irrefl y h2
    simp [h3]
   ·
    rw [if_neg h2, u8_eq h1 h2, ih]
    simp
theorem cmpB_neg : ∀ a b : List UInt8, cmpB b a = - cmpB a b
 | [], [] => rfl
 | [], _ :: _ => rfl
 | _ :: _, [] => rfl
 | x :: a, y :: b => by
  have ih := cmpB_neg a b
  unfold cmpB
  by_cases h1 : x < y
  ·
   simp [h1, u8_asymm h1]
  ·
   by_cases h2 : y < x
   ·
    simp [h1, h2]
   ·
    simp only [h1, h2, if_false]
    exact ih
theorem cmpB_trans : ∀ {a b c : List UInt8}, cmpB a b = -1 → cmpB b c = -1 → cmpB a c = -1
 | [], [], _, h, _ => by simp [cmpB] at h
 | _ :: _, [], _, h, _ => by simp [cmpB] at h
 | [], _ :: _, [], _, h => by simp [cmpB] at h
 | [], _ :: _, _ :: _, _, _ => rfl
 | _ :: _, _ :: _, [], _, h => by simp [cmpB] at h
 | x :: a, y :: b, z :: c, h, h' => by
  unfold cmpB at h h' ⊢
  by_cases h1 : x < y
  ·
   by_cases h2 : y < z
   ·
    rw [if_pos (UInt8.lt_trans h1 h2)]
   ·
    rw [if_neg h2] at h'
    by_cases h3 : z < y
    ·
     rw [if_pos h3] at h'; simp at h'
    ·
     rw [← u8_eq h2 h3, if_pos h1]
  ·
   rw [if_neg h1] at h
   by_cases h2 : y < x
   ·
    rw [if_pos h2] at h; simp at h
   ·
    rw [if_neg h2] at h
    have e := u8_eq h1 h2
    subst e
    by_cases h3 : x < z
    ·
     rw [if_pos h3]
    ·
     rw [if_neg h3] at h' ⊢
     by_cases h4 : z < x
     ·
      rw [if_pos h4] at h'; simp at h'
     ·
      rw [if_neg h4] at h' ⊢
      exact cmpB_trans h h'
def cmpT (a b : ByteArray) : Int := cmpB a.toList b.toList
def cmpN (a b : Int) : Int := if a < b then -1 else if b < a then 1 else 0
theorem cmpT_zero {a b : ByteArray} : cmpT a b = 0 ↔ a = b := ⟨fun h => toList_inj (cmpB_zero.1 h), fun h => cmpB_zero.2 (by rw [h])⟩
theorem cmpT_in (a b : ByteArray) : cmpT a b = -1 ∨ cmpT a b = 0 ∨ cmpT a b = 1 := cmpB_in _ _
theorem cmpN_in (a b : Int) : cmpN a b = -1 ∨ cmpN a b = 0 ∨ cmpN a b = 1 := by
 unfold cmpN
 split
 ·
  exact .inl rfl
 ·
  split
  ·
   exact .inr (.inr rfl)
  ·
   exact .inr (.inl rfl)
theorem cmpN_zero {a b : Int} : cmpN a b = 0 ↔ a = b := by
 unfold cmpN
 split
 ·
  omega
 ·
  split <;> omega
theorem cmpN_neg (a b : Int) : cmpN b a = - cmpN a b := by unfold cmpN; split <;> split <;> first | omega | (split <;> omega)
def cmpC (r c : ByteArray) (t : Int) (r' c' : ByteArray) (t' : Int) : Int := if cmpT r r' = 0 then (if cmpT c c' = 0 then cmpN t' t else cmpT c c') else cmpT r r'
theorem cmpC_in (r c t r' c' t') : cmpC r c t r' c' t' = -1 ∨ cmpC r c t r' c' t' = 0 ∨ cmpC r c t r' c' t' = 1 := by
 unfold cmpC
 split
 ·
  split
  ·
   exact cmpN_in _ _
  ·
   exact cmpT_in _ _
 ·
  exact cmpT_in _ _
theorem cmpC_neg (r c t r' c' t') : cmpC r' c' t' r c t = - cmpC r c t r' c' t' := by
 have h1 : cmpT r' r = - cmpT r r' := cmpB_neg _ _
 have h2 : cmpT c' c = - cmpT c c' := cmpB_neg _ _
 have h3 := cmpN_neg t' t
 unfold cmpC
 rw [h1, h2, h3]
 by_cases e1 : cmpT r r' = 0
 ·
  rw [if_pos e1, if_pos (by omega)]
  by_cases e2 : cmpT c c' = 0
  ·
   rw [if_pos e2, if_pos (by omega)]
  ·
   rw [if_neg e2, if_neg (by omega)]
 ·
  rw [if_neg e1, if_neg (by omega)]
theorem cmpC_zero {r c t r' c' t'} : cmpC r c t r' c' t' = 0 ↔ r = r' ∧ c = c' ∧ t = t' := by
 unfold cmpC
 by_cases e1 : cmpT r r' = 0
 ·
  rw [if_pos e1]
  by_cases e2 : cmpT c c' = 0
  ·
   rw [if_pos e2, cmpN_zero]
   exact ⟨fun h => ⟨cmpT_zero.1 e1, cmpT_zero.1 e2, h.symm⟩, fun h => h.2.2.symm⟩
  ·
   rw [if_neg e2]
   exact ⟨fun h => absurd h e2, fun h => absurd (cmpT_zero.2 h.2.1) e2⟩
 ·
  rw [if_neg e1]
  exact ⟨fun h => absurd h e1, fun h => absurd (cmpT_zero.2 h.1) e1⟩
theorem cmpC_trans {r c t r' c' t' r'' c'' t''} (h : cmpC r c t r' c' t' = -1) (h' : cmpC r' c' t' r'' c'' t'' = -1) : cmpC r c t r'' c'' t'' = -1 := by
 unfold cmpC at h h' ⊢
 by_cases e1 : cmpT r r' = 0
 ·
  rw [if_pos e1] at h
  have := cmpT_zero.1 e1
  subst this
  by_cases e2 : cmpT r r'' = 0
  ·
   rw [if_pos e2] at h' ⊢
   by_cases e3 : cmpT c c' = 0
   ·
    rw [if_pos e3] at h
    have := cmpT_zero.1 e3
    subst this
    by_cases e4 : cmpT c c'' = 0
    ·
     rw [if_pos e4] at h' ⊢
     unfold cmpN at h h' ⊢
     split at h <;> split at h' <;> first | (simp at h; done) | (rw [if_pos (by omega)]) | (split at h <;> simp at h; done) | (split at h' <;> simp at h')
    ·
     rw [if_neg e4] at h' ⊢
     exact h'
   ·
    rw [if_neg e3] at h
    by_cases e4 : cmpT c' c'' = 0
    ·
     have := cmpT_zero.1 e4
     subst this
     rw [if_neg e3]
     exact h
    ·
     rw [if_neg e4] at h'
     have h5 : cmpT c c'' = -1 := cmpB_trans h h'
     rw [if_neg (by omega)]
     exact h5
  ·
   rw [if_neg e2] at h' ⊢
   exact h'
 ·
  rw [if_neg e1] at h
  by_cases e2 : cmpT r' r'' = 0
  ·
   have := cmpT_zero.1 e2
   subst this
   rw [if_neg e1]
   exact h
  ·
   rw [if_neg e2] at h'
   have h5 : cmpT r r'' = -1 := cmpB_trans h h'
   rw [if_neg (by omega)]
   exact h5
end Go.Proofs.Ythphffimgmbhgaa.Pl
