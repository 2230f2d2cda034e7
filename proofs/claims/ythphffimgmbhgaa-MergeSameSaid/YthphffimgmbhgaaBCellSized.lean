/- One cell against another: the printed functions answer the plain ones. -/
import Derived.Test.YthphffimgmbhgaaQCells
import Derived.Test.YthphffimgmbhgaaBRefCellOrder
namespace Go.Proofs.Ythphffimgmbhgaa.Pl
open Go.RowKit Go.Proofs.Ythphffimgmbhgaa.X Go.Proofs.YthphffimgmbhgaaW.PrintWords Go.Proofs.YthphffimgmbhgaaW.PrintLast Go.Proofs.YthphffimgmbhgaaW.PrintMore
def SizedC (a : Cell) : Prop := a.f0.size ≤ 140737488355328 ∧ a.f1.size ≤ 140737488355328
theorem sized_of_right {a : Cell} (h : rightC a = true) : SizedC a := by
 obtain ⟨_, h1, _, h2, _⟩ := rightC_iff.1 h
 exact ⟨by omega, by omega⟩
theorem ref_CC_ev {a : Cell} (h : SizedC a) (b : Cell) : Ev (fun k => shardlogref08_Compare.f k a.f0 a.f1 a.f2 a.f3 a.f4 b.f0 b.f1 b.f2 b.f3 b.f4) (cc a b) := ref_CCompare_ev h.1 h.2
theorem cell_CC_ev (a b : Cell) : Ev (fun k => cell_Compare.f k a.f0 a.f1 a.f2 a.f3 a.f4 b.f0 b.f1 b.f2 b.f3 b.f4) (cc a b) := cell_Compare_ev _ _ _ _ _ _ _ _ _ _
end Go.Proofs.Ythphffimgmbhgaa.Pl
