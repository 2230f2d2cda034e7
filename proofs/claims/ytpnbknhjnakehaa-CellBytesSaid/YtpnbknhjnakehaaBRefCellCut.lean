/- What a cell's cut leaves. -/
import Derived.Test.YtpnbknhjnakehaaBRefCell
namespace Go.Proofs.Ytpnbknhjnakehaa.Pl
open Go.RowKit Go.Proofs.Ytpnbknhjnakehaa.X Go.Proofs.YtpnbknhjnakehaaW.PrintWords Go.Proofs.YtpnbknhjnakehaaW.PrintLast Go.Proofs.YtpnbknhjnakehaaW.PrintMore
theorem cutCell_rest {b : List Int} {i : Nat} (h : (cutCell (b.drop i)).2.2.2.2.2.2 = true) : ∃ n : Nat, 0 < n ∧ i + n ≤ b.length ∧ (cutCell (b.drop i)).2.2.2.2.2.1 = b.drop (i + n) := by
  by_cases e : ∃ j m : Nat, (cutText (b.drop i)).2.2 = true ∧ j = i + 4 + (cutText (b.drop i)).1.size ∧ (cutText (b.drop j)).2.2 = true ∧ m = j + 4 + (cutText (b.drop j)).1.size ∧ m + 4 < b.length ∧ ¬ rd b ((m + 4 : Nat) : Int) > 1
  · obtain ⟨j, m, h1, hj, h2, hm, h3, h4⟩ := e
    rw [cutCell_steps h1 hj h2 hm h3 h4] at h ⊢
    split at h
    · rename_i hc
      rw [if_pos hc]
      rw [Bool.and_eq_true] at hc
      have g := cutText_at hc.1
      refine ⟨m + 5 + 4 + (cutText (b.drop (m + 5))).1.size - i, by omega, by omega, ?_⟩
      show (cutText (b.drop (m + 5))).2.1 = _
      rw [g.1]
      congr 1
      omega
    · cases h
  · rw [cutCell_no e] at h
    cases h
theorem cutCell_not {b : List Int} (h : (cutCell b).2.2.2.2.2.2 = false) : cutCell b = (⟨#[]⟩, ⟨#[]⟩, 0, ⟨#[]⟩, false, [], false) := by
  unfold cutCell at h ⊢
  dsimp only at h ⊢
  split at h
  · cases h
  · rename_i hc
    rw [if_neg hc]
/-- What is cut off is right. -/
theorem cutCell_right {b : List Int} (h : (cutCell b).2.2.2.2.2.2 = true) : cellRight (cutCell b).1 (cutCell b).2.1 (cutCell b).2.2.1 (cutCell b).2.2.2.1 (cutCell b).2.2.2.2.1 = true := by
  unfold cutCell at h ⊢
  dsimp only at h ⊢
  split at h
  · rename_i hc
    rw [if_pos hc]
    simp only [Bool.and_eq_true] at hc
    exact hc.2.2.2.2.2
  · cases h
end Go.Proofs.Ytpnbknhjnakehaa.Pl
