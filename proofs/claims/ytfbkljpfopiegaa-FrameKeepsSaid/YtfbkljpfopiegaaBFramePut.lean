/- Frames: put: the printed functions answer the plain ones. -/
import Derived.Test.YtfbkljpfopiegaaQFrame
import Derived.Test.YtfbkljpfopiegaaBWireCut
import Derived.Test.YtfbkljpfopiegaaBCheck
import Derived.Test.YtfbkljpfopiegaaBConcat
import Derived.Test.YtfbkljpfopiegaaBEqual
import Derived.Test.YtfbkljpfopiegaaXx1
namespace Go.Proofs.Ytfbkljpfopiegaa.Pl
open Go.RowKit Go.Proofs.Ytfbkljpfopiegaa.X Go.Proofs.YtfbkljpfopiegaaW.PrintWords Go.Proofs.YtfbkljpfopiegaaW.PrintLast Go.Proofs.YtfbkljpfopiegaaW.PrintMore
theorem frame_sum_ev {l : List Int} (hb : Bytes l) (hl : l.length ≤ 140737488355328) : Ev (fun k => frame_sum.f k l) (sumB l) := by
 unfold frame_sum.f
 refine Ev.bind (check_Sum_ev hb hl) ?_
 obtain ⟨h0, h1⟩ := crcSum_in l
 rw [w64 (by omega) (by omega), wire_Num_eq]
 exact Ev.now _
theorem frame_Put_ev {l : List Int} (hb : Bytes l) (hl : l.length ≤ 140737488355328) : Ev (fun k => frame_Put.f k l) (if l.length > 65535 then [] else frame l) := by
 unfold frame_Put.f
 by_cases h : l.length > 65535
 ·
  rw [if_pos h]
  exact Ev.pos (by omega) (Ev.now _)
 ·
  rw [if_neg h]
  refine Ev.neg (by omega) (Ev.bind (Ev.eq (wire_Num_eq _)) (Ev.bind (frame_sum_ev (bytes_num _) (by have := num_length_le l.length; omega)) (Ev.bind (frame_sum_ev hb hl) (Ev.bind (Ev.eq (concat_eq ?_)) ((Ev.now _).to ?_)))))
  ·
   have h1 := num_length_le l.length
   have h2 := sumB_length (num l.length)
   have h3 := sumB_length l
   simp only [lenSum, List.map_cons, List.map_nil, List.sum_cons, List.sum_nil]
   omega
  ·
   simp [frame]
end Go.Proofs.Ytfbkljpfopiegaa.Pl
