/- A cell as it may be: no program in sight. -/
import Derived.Test.YthphffimgmbhgaaQCell
namespace Go.Proofs.Ythphffimgmbhgaa.Pl
open Go.RowKit Go.Proofs.YthphffimgmbhgaaW.PrintWords Go.Proofs.YthphffimgmbhgaaW.PrintMore
def cellRight (r c : ByteArray) (t : Int) (v : ByteArray) (g : Bool) : Bool := decide (1 ≤ r.size ∧ r.size ≤ 64 ∧ 1 ≤ c.size ∧ c.size ≤ 64 ∧ 0 ≤ t ∧ t ≤ 4294967295 ∧ v.size ≤ 256 ∧ (g = false ∨ v.size = 0))
theorem cellRight_iff {r c : ByteArray} {t : Int} {v : ByteArray} {g : Bool} : cellRight r c t v g = true ↔ 1 ≤ r.size ∧ r.size ≤ 64 ∧ 1 ≤ c.size ∧ c.size ≤ 64 ∧ 0 ≤ t ∧ t ≤ 4294967295 ∧ v.size ≤ 256 ∧ (g = false ∨ v.size = 0) := by unfold cellRight; exact decide_eq_true_iff
theorem toList_nil {v : ByteArray} : (v.toList == ([] : List UInt8)) = decide (v.size = 0) := by
 rw [Bool.eq_iff_iff, beq_iff_eq, decide_eq_true_iff, size_zero_iff]
 constructor
 ·
  intro h
  exact toList_inj (h.trans (by simp [ByteArray.toList_eq]))
 ·
  rintro rfl
  simp [ByteArray.toList_eq]
theorem some_bool {c d : Bool} (h : c = true ↔ d = true) : some c = some d := by rw [Option.some.injEq, Bool.eq_iff_iff, h]
end Go.Proofs.Ythphffimgmbhgaa.Pl
