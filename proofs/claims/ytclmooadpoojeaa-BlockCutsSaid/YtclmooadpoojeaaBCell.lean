/- A cell's bytes: the printed functions answer the plain ones. -/
import Derived.Test.YtclmooadpoojeaaBCellOrder
import Derived.Test.YtclmooadpoojeaaBWire
import Derived.Test.YtclmooadpoojeaaBConcat
import Derived.Test.YtclmooadpoojeaaXx4
import Derived.Test.YtclmooadpoojeaaXx6
import Derived.Test.YtclmooadpoojeaaXx7
namespace Go.Proofs.Ytclmooadpoojeaa.Pl
open Go.RowKit Go.Proofs.Ytclmooadpoojeaa.X Go.Proofs.YtclmooadpoojeaaW.PrintWords Go.Proofs.YtclmooadpoojeaaW.PrintLast Go.Proofs.YtclmooadpoojeaaW.PrintMore
def flagC (g : Bool) : Int := if g = true then 1 else 0
def cellB (r c : ByteArray) (t : Int) (v : ByteArray) (g : Bool) : List Int := text r ++ (text c ++ (num t ++ ([flagC g] ++ text v)))
theorem cellB_length (r c : ByteArray) (t : Int) (v : ByteArray) (g : Bool) : (cellB r c t v g).length ≤ 17 + r.size + c.size + v.size := by
 have h1 := text_length_le r
 have h2 := text_length_le c
 have h3 := text_length_le v
 have h4 := num_length_le t
 unfold cellB
 simp only [List.length_append, List.length_cons, List.length_nil]
 omega
theorem cell_Put_eq {r c : ByteArray} (t : Int) {v : ByteArray} (g : Bool) (hr : r.size ≤ 1000000) (hc : c.size ≤ 1000000) (hv : v.size ≤ 1000000) : cell_Put.f r c t v g = some (cellB r c t v g) := by
 unfold cell_Put.f
 have hf : cell_flag.f g = some (flagC g) := by unfold cell_flag.f flagC; cases g <;> rfl
 simp only [wire_Text_eq (s := r) (by omega), wire_Text_eq (s := c) (by omega), wire_Text_eq (s := v) (by omega), wire_Num_eq, hf, Option.bind_some]
 have hl := cellB_length r c t v g
 unfold cellB at hl
 simp only [List.length_append, List.length_cons, List.length_nil] at hl
 rw [concat_eq (by simp only [lenSum, List.map_cons, List.map_nil, List.sum_cons, List.sum_nil, List.length_cons, List.length_nil]; omega)]
 simp [cellB]
end Go.Proofs.Ytclmooadpoojeaa.Pl
