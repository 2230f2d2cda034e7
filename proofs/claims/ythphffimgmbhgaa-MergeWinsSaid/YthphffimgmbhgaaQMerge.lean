/- Plain laws of lists of cells: the newest of a row and column up to a time; cleaned; visible. -/
import Derived.Test.YthphffimgmbhgaaQCellsNew
namespace Go.Proofs.Ythphffimgmbhgaa.Pl
open Go.RowKit Go.Proofs.Ythphffimgmbhgaa.X Go.Proofs.YthphffimgmbhgaaW.PrintWords Go.Proofs.YthphffimgmbhgaaW.PrintLast Go.Proofs.YthphffimgmbhgaaW.PrintMore
def NewC (l : List Cell) (t : Int) (x : Cell) : Prop := x.f2 ≤ t ∧ ∀ y ∈ l, y.f0 = x.f0 → y.f1 = x.f1 → y.f2 ≤ t → y.f2 ≤ x.f2
instance (l : List Cell) (t : Int) (x : Cell) : Decidable (NewC l t x) := by unfold NewC; infer_instance
def isC (o : Option Cell) (x : Cell) : Bool := match o with
 | none => false
 | some y => (y.f0.toList == x.f0.toList && (y.f1.toList == x.f1.toList && (y.f2 == x.f2 && (y.f3.toList == x.f3.toList && (y.f4 == x.f4)))))
theorem isC_iff {o : Option Cell} {x : Cell} : isC o x = true ↔ o = some x := by
 cases o with
 | none => exact ⟨fun h => (by cases h), fun h => (by cases h)⟩
 | some y =>
  show (_ && _) = true ↔ _
  simp only [Bool.and_eq_true, beq_iff_eq, Option.some.injEq]
  constructor
  ·
   rintro ⟨h0, h1, h2, h3, h4⟩
   cases y; cases x
   simp only at h0 h1 h2 h3 h4
   rw [toList_inj h0, toList_inj h1, h2, toList_inj h3, h4]
  ·
   rintro rfl
   exact ⟨rfl, rfl, rfl, rfl, rfl⟩
end Go.Proofs.Ythphffimgmbhgaa.Pl
