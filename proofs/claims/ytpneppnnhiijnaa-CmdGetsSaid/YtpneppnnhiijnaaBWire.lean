/- The printed functions of wire for texts answer what the plain ones do. -/
import Derived.Test.YtpneppnnhiijnaaBWireCut
import Derived.Test.YtpneppnnhiijnaaXx4
import Derived.Test.YtpneppnnhiijnaaXx6
namespace Go.Proofs.Ytpneppnnhiijnaa.Pl
open Go.RowKit Go.Proofs.Ytpneppnnhiijnaa.X Go.Proofs.YtpneppnnhiijnaaW.PrintWords Go.Proofs.YtpneppnnhiijnaaW.PrintLast Go.Proofs.YtpneppnnhiijnaaW.PrintMore

theorem wire_Text_eq {s : ByteArray} (h : s.size ≤ 140737488351232) : wire_Text.f s = some (text s) := by
  unfold wire_Text.f
  rw [wire_Num_eq]
  simp only [Option.bind_some]
  rw [if_pos (by have := num_length_le s.size; omega)]
  rfl
theorem wire_CutText_ev {b : List Int} (hb : Bytes b) (hl : b.length ≤ 140737488355328) : Ev (fun k => wire_CutText.f k b) (cutText b) := by
  unfold wire_CutText.f
  refine Ev.bind (wire_CutNum_ev hb hl) ?_
  unfold cutNum cutText
  by_cases h4 : b.length < 4
  · simp only [if_pos h4]
    exact Ev.now _
  · simp only [if_neg h4, if_true]
    obtain ⟨g0, g1⟩ := val4_nonneg hb (by omega)
    by_cases hv : val4 b > ((b.length - 4 : Nat) : Int)
    · rw [if_pos hv]
      exact Ev.pos (by rw [List.length_drop]; exact hv) (Ev.now _)
    · rw [if_neg hv]
      exact Ev.neg (by rw [List.length_drop]; exact hv) (Ev.pos g0 (Ev.pos (by rw [List.length_drop]; omega) (Ev.now _)))
theorem cutText_rest_le {b : List Int} : (cutText b).2.1.length ≤ b.length := by
  unfold cutText
  split
  · simp
  · split
    · simp
    · simp only [List.length_drop]; omega
end Go.Proofs.Ytpneppnnhiijnaa.Pl
