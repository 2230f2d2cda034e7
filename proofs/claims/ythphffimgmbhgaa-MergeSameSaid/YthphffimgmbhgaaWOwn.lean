/- Words of this session's own, of no program: what a conversion of a string to bytes makes, and the contract of slices.Clone, for whatever kind of element. -/
import Derived.Test.YthphffimgmbhgaaWMore
import Derived.Test.YthphffimgmbhgaaWLast
import Derived.Lib.ConvBytes
import Derived.Lib.SlBytesConst
import Derived.WalkSpells
namespace Go.Proofs.YthphffimgmbhgaaW.PrintWords
open Go.RowKit
theorem lsa.{u} : type_of% @List.setIfInBounds_toArray.{u} := @List.setIfInBounds_toArray
theorem lsz.{u} : type_of% @List.set_cons_zero.{u} := @List.set_cons_zero
theorem lss.{u} : type_of% @List.set_cons_succ.{u} := @List.set_cons_succ
theorem aS : type_of% @Aside0.mk := @Aside0.mk
theorem bal : type_of% @below_alloc := @below_alloc
theorem bdN : type_of% @pw_below_drewN := @pw_below_drewN
theorem bdo : type_of% @below_drew1 := @below_drew1
theorem wbl : type_of% @World.block_lt_of_cell? := @World.block_lt_of_cell?
theorem odt : type_of% @of_decide_eq_true := @of_decide_eq_true
theorem llt.{u} : type_of% @List.length_take.{u} := @List.length_take
theorem lld.{u} : type_of% @List.length_drop.{u} := @List.length_drop
theorem obm.{u, v} {α : Type u} {β : Type v} {x : Option α} {f : α → Option β} {b : β} (h : x.bind f = some b) : ∃ a, x = some a ∧ f a = some b := Option.bind_eq_some_iff.mp h
theorem less_total : ∀ a b : List UInt8, (!(Op.bytesLess a b || a == b)) = Op.bytesLess b a
 | [], [] => rfl
 | [], _ :: _ => rfl
 | _ :: _, [] => rfl
 | x :: a, y :: b => by
  have ih := less_total a b
  simp only [Op.bytesLess, ← ih]
  by_cases h1 : x < y
  ·
   have h2 : ¬ y < x := fun h => absurd (UInt8.lt_trans h1 h) (UInt8.lt_irrefl x)
   have h3 : ¬ y = x := fun h => by rw [h] at h1; exact UInt8.lt_irrefl x h1
   simp [h1, h2, h3]
  ·
   by_cases h2 : y < x
   ·
    have h3 : ¬ x = y := fun h => by rw [h] at h2; exact UInt8.lt_irrefl y h2
    simp [h1, h2, h3]
   ·
    have h3 : x = y := UInt8.le_antisymm (UInt8.not_lt.1 h2) (UInt8.not_lt.1 h1)
    subst h3
    simp [h1]
theorem gtr_str (t : TypeId) (a b : ByteArray) : binOp .gtr t (.string a) (.string b) = pure (.bool (Op.bytesLess b.toList a.toList)) := by
 rw [← less_total]
 simp [binOp, Op.stringOp]
theorem below_setRow {B : Nat} {a w : World} (h : Below B a w) {g : Nat} (hg : B ≤ g) (cs : Array Value) : Below B a (w.setRow g cs) :=
 h.trans ⟨rfl, rfl, rfl, by simp, fun k hk => setRow_other w g k cs (by omega)⟩
namespace Kd
open Go.Proofs.YthphffimgmbhgaaW.PrintLast in
section
variable {P : Program} {ops : Array Oper} {rest : List Oper} {o : Oper} {a : Act} {Q : Exit → Act → World → Prop} {Kc : Act → World → Prop}
end
end Kd
end Go.Proofs.YthphffimgmbhgaaW.PrintWords
