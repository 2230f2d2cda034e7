/- Cells are the same as themselves, by the reference. -/
import Derived.Test.YthphffimgmbhgaaQCells
import Derived.Test.YthphffimgmbhgaaXx6
namespace Go.Proofs.Ythphffimgmbhgaa.Pl
open Go.RowKit Go.Proofs.Ythphffimgmbhgaa.X Go.Proofs.YthphffimgmbhgaaW.PrintWords Go.Proofs.YthphffimgmbhgaaW.PrintLast Go.Proofs.YthphffimgmbhgaaW.PrintMore
theorem sameC_l0 (l : List Cell) (hl : l.length ≤ 1000000000) (d : Nat) : ∀ i : Nat, i ≤ l.length → l.length - i = d → Ev (fun k => shardlogref08_Same.l0 k l l (i : Int)) true := by
 induction d with
 | zero =>
  intro i hi hd
  refine Ev.step (f := fun _ => some true) (fun k => ?_) (Ev.now _)
  simp only [shardlogref08_Same.l0]
  rw [if_neg (by omega)]
 | succ d ih =>
  intro i hi hd
  refine Ev.step (f := fun k => shardlogref08_Same.l0 k l l ((i + 1 : Nat) : Int)) (fun k => ?_) (ih (i + 1) (by omega) (by omega))
  simp only [shardlogref08_Same.l0]
  rw [if_pos (by omega), if_pos (by omega), if_pos (by omega), if_neg (by simp), w64 (by omega) (by omega)]
  rfl
theorem sameC_ev {l m : List Cell} (e : l = m) (hl : l.length ≤ 1000000000) : Ev (fun k => shardlogref08_Same.f k l m) true := by
 subst e
 unfold shardlogref08_Same.f
 exact Ev.pos rfl (sameC_l0 l hl l.length 0 (by omega) (by omega))
end Go.Proofs.Ythphffimgmbhgaa.Pl
