/- Whether a cell is right: the printed function answers the plain one. -/
import Derived.Test.YtpneppnnhiijnaaQCellRight
import Derived.Test.YtpneppnnhiijnaaXx2
namespace Go.Proofs.Ytpneppnnhiijnaa.Pl
open Go.RowKit Go.Proofs.Ytpneppnnhiijnaa.X Go.Proofs.YtpneppnnhiijnaaW.PrintWords Go.Proofs.YtpneppnnhiijnaaW.PrintLast Go.Proofs.YtpneppnnhiijnaaW.PrintMore
theorem cell_name_eq (s : ByteArray) : cell_name.f s = some (decide (1 ≤ s.size ∧ s.size ≤ 64)) := by
  unfold cell_name.f
  by_cases h : s.size ≥ 1
  · rw [if_pos (by omega)]
    congr 1
    rw [decide_eq_decide]
    omega
  · rw [if_neg (by omega)]
    congr 1
    symm
    rw [decide_eq_false_iff_not]
    omega
theorem cell_Right_eq (r c : ByteArray) (t : Int) (v : ByteArray) (g : Bool) : cell_Right.f r c t v g = some (cellRight r c t v g) := by
  unfold cell_Right.f
  simp only [cell_name_eq, Option.bind_some, decide_eq_true_eq, toList_nil]
  split
  · split
    · split
      · split
        · split
          · split
            · exact some_bool (by rename_i h; rw [cellRight_iff, decide_eq_true_iff]; exact ⟨fun hz => ⟨by omega, by omega, by omega, by omega, by omega, by omega, by omega, .inr hz⟩, fun hh => hh.2.2.2.2.2.2.2.elim (fun e => by rw [h] at e; cases e) id⟩)
            · exact some_bool (by rename_i h; rw [cellRight_iff]; exact ⟨fun _ => ⟨by omega, by omega, by omega, by omega, by omega, by omega, by omega, .inl (by simpa using h)⟩, fun _ => rfl⟩)
          · exact some_bool (by rw [cellRight_iff]; simp only [Bool.false_eq_true, false_iff]; omega)
        · exact some_bool (by rw [cellRight_iff]; simp only [Bool.false_eq_true, false_iff]; omega)
      · exact some_bool (by rw [cellRight_iff]; simp only [Bool.false_eq_true, false_iff]; omega)
    · exact some_bool (by rw [cellRight_iff]; simp only [Bool.false_eq_true, false_iff]; omega)
  · exact some_bool (by rw [cellRight_iff]; simp only [Bool.false_eq_true, false_iff]; omega)
end Go.Proofs.Ytpneppnnhiijnaa.Pl
