/- Plain laws of lists of cells: the first one that is not ahead of a key; the newest of a row and column up to a time. -/
import Derived.Test.YthphffimgmbhgaaQCells
namespace Go.Proofs.Ythphffimgmbhgaa.Pl
open Go.RowKit Go.Proofs.Ythphffimgmbhgaa.X Go.Proofs.YthphffimgmbhgaaW.PrintWords Go.Proofs.YthphffimgmbhgaaW.PrintLast Go.Proofs.YthphffimgmbhgaaW.PrintMore
theorem cc_same {x y : Cell} (h1 : x.f0 = y.f0) (h2 : x.f1 = y.f1) : cc x y = cmpN y.f2 x.f2 := by
 unfold cc cmpC
 rw [if_pos (cmpT_zero.2 h1), if_pos (cmpT_zero.2 h2)]
theorem cmpN_lt {a b : Int} : cmpN a b = -1 ↔ a < b := by
 unfold cmpN
 split
 ·
  simp [*]
 ·
  split <;> simp <;> omega
theorem cc_other {x y z : Cell} (h1 : y.f0 = z.f0) (h2 : y.f1 = z.f1) (h : ¬ (x.f0 = y.f0 ∧ x.f1 = y.f1)) : cc x y = cc x z := by
 unfold cc cmpC
 rw [← h1, ← h2]
 by_cases e1 : cmpT x.f0 y.f0 = 0
 ·
  rw [if_pos e1]
  by_cases e2 : cmpT x.f1 y.f1 = 0
  ·
   exact absurd ⟨cmpT_zero.1 e1, cmpT_zero.1 e2⟩ h
  ·
   rw [if_neg e2, if_pos e1, if_neg e2]
 ·
  rw [if_neg e1, if_neg e1]
end Go.Proofs.Ythphffimgmbhgaa.Pl
