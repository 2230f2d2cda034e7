/- The printed order of cells answers the plain one. -/
import Derived.Test.YtpnbknhjnakehaaQCell
import Derived.Test.YtpnbknhjnakehaaXx3
import Derived.Test.YtpnbknhjnakehaaXx4
namespace Go.Proofs.Ytpnbknhjnakehaa.Pl
open Go.RowKit Go.Proofs.Ytpnbknhjnakehaa.X Go.Proofs.YtpnbknhjnakehaaW.PrintWords Go.Proofs.YtpnbknhjnakehaaW.PrintLast Go.Proofs.YtpnbknhjnakehaaW.PrintMore
/-- A cell as it may be. -/
def cellRight (r c : ByteArray) (t : Int) (v : ByteArray) (g : Bool) : Bool := decide (1 ≤ r.size ∧ r.size ≤ 64 ∧ 1 ≤ c.size ∧ c.size ≤ 64 ∧ 0 ≤ t ∧ t ≤ 4294967295 ∧ v.size ≤ 256 ∧ (g = false ∨ v.size = 0))
theorem cellRight_iff {r c : ByteArray} {t : Int} {v : ByteArray} {g : Bool} : cellRight r c t v g = true ↔ 1 ≤ r.size ∧ r.size ≤ 64 ∧ 1 ≤ c.size ∧ c.size ≤ 64 ∧ 0 ≤ t ∧ t ≤ 4294967295 ∧ v.size ≤ 256 ∧ (g = false ∨ v.size = 0) := by unfold cellRight; exact decide_eq_true_iff
theorem toList_nil {v : ByteArray} : (v.toList == ([] : List UInt8)) = decide (v.size = 0) := by
  rw [Bool.eq_iff_iff, beq_iff_eq, decide_eq_true_iff, size_zero_iff]
  constructor
  · intro h
    exact toList_inj (h.trans (by simp [ByteArray.toList_eq]))
  · rintro rfl
    simp [ByteArray.toList_eq]
theorem cell_name_eq (s : ByteArray) : cell_name.f s = some (decide (1 ≤ s.size ∧ s.size ≤ 64)) := by
  unfold cell_name.f
  by_cases h : s.size ≥ 1
  · rw [if_pos (by omega)]
    congr 1
    rw [decide_eq_decide]
    omega
  · rw [if_neg (by omega)]
    congr 1
    symm
    rw [decide_eq_false_iff_not]
    omega
theorem some_bool {c d : Bool} (h : c = true ↔ d = true) : some c = some d := by rw [Option.some.injEq, Bool.eq_iff_iff, h]
theorem cell_Right_eq (r c : ByteArray) (t : Int) (v : ByteArray) (g : Bool) : cell_Right.f r c t v g = some (cellRight r c t v g) := by
  unfold cell_Right.f
  simp only [cell_name_eq, Option.bind_some, decide_eq_true_eq, toList_nil]
  split
  · split
    · split
      · split
        · split
          · split
            · exact some_bool (by rename_i h; rw [cellRight_iff, decide_eq_true_iff]; exact ⟨fun hz => ⟨by omega, by omega, by omega, by omega, by omega, by omega, by omega, .inr hz⟩, fun hh => hh.2.2.2.2.2.2.2.elim (fun e => by rw [h] at e; cases e) id⟩)
            · exact some_bool (by rename_i h; rw [cellRight_iff]; exact ⟨fun _ => ⟨by omega, by omega, by omega, by omega, by omega, by omega, by omega, .inl (by simpa using h)⟩, fun _ => rfl⟩)
          · exact some_bool (by rw [cellRight_iff]; simp only [Bool.false_eq_true, false_iff]; omega)
        · exact some_bool (by rw [cellRight_iff]; simp only [Bool.false_eq_true, false_iff]; omega)
      · exact some_bool (by rw [cellRight_iff]; simp only [Bool.false_eq_true, false_iff]; omega)
    · exact some_bool (by rw [cellRight_iff]; simp only [Bool.false_eq_true, false_iff]; omega)
  · exact some_bool (by rw [cellRight_iff]; simp only [Bool.false_eq_true, false_iff]; omega)
theorem cmpString_eq (a b : ByteArray) : cmp_Compare_string.f a b = some (cmpT a b) := by
  unfold cmp_Compare_string.f cmp_isNaN_string.f cmpT
  rw [cmpB_less]
  simp only [Option.bind_some, bne_self_eq_false, Bool.false_eq_true, if_false]
  split
  · rfl
  · split <;> rfl
theorem cmpInt_eq (a b : Int) : cmp_Compare_int.f a b = some (cmpN a b) := by
  unfold cmp_Compare_int.f cmp_isNaN_int.f cmpN
  simp only [Option.bind_some, bne_self_eq_false, Bool.false_eq_true, if_false]
  split
  · rfl
  · split <;> rfl
theorem cmpOr_ev (a b c : Int) : Ev (fun k => cmp_Or_int.f k [a, b, c]) (if a = 0 then (if b = 0 then c else b) else a) := by
  unfold cmp_Or_int.f
  have hl : (([a, b, c] : List Int).length : Int) = 3 := rfl
  rw [hl]
  by_cases ha : a = 0
  · rw [if_pos ha]
    refine Ev.step (f := fun k => cmp_Or_int.l0 k 0 [a, b, c] 3 1) (fun k => ?_) ?_
    · simp only [cmp_Or_int.l0, hl]
      rw [if_pos (by omega), if_pos (by omega), if_pos (by omega), show rd [a, b, c] 0 = a from rfl, if_pos ha, w64 (by omega) (by omega)]
      rfl
    by_cases hb : b = 0
    · rw [if_pos hb]
      refine Ev.step (f := fun k => cmp_Or_int.l0 k 0 [a, b, c] 3 2) (fun k => ?_) ?_
      · simp only [cmp_Or_int.l0, hl]
        rw [if_pos (by omega), if_pos (by omega), if_pos (by omega), show rd [a, b, c] 1 = b from rfl, if_pos hb, w64 (by omega) (by omega)]
        rfl
      by_cases hc : c = 0
      · refine Ev.step (f := fun k => cmp_Or_int.l0 k 0 [a, b, c] 3 3) (fun k => ?_) ?_
        · simp only [cmp_Or_int.l0, hl]
          rw [if_pos (by omega), if_pos (by omega), if_pos (by omega), show rd [a, b, c] 2 = c from rfl, if_pos hc, w64 (by omega) (by omega)]
          rfl
        refine Ev.step (f := fun _ => some 0) (fun k => ?_) ((Ev.now 0).to hc.symm)
        simp only [cmp_Or_int.l0]
        rw [if_neg (by omega)]
      · refine Ev.step (f := fun _ => some c) (fun k => ?_) (Ev.now _)
        simp only [cmp_Or_int.l0, hl]
        rw [if_pos (by omega), if_pos (by omega), if_pos (by omega), show rd [a, b, c] 2 = c from rfl, if_neg hc]
    · rw [if_neg hb]
      refine Ev.step (f := fun _ => some b) (fun k => ?_) (Ev.now _)
      simp only [cmp_Or_int.l0, hl]
      rw [if_pos (by omega), if_pos (by omega), if_pos (by omega), show rd [a, b, c] 1 = b from rfl, if_neg hb]
  · rw [if_neg ha]
    refine Ev.step (f := fun _ => some a) (fun k => ?_) (Ev.now _)
    simp only [cmp_Or_int.l0, hl]
    rw [if_pos (by omega), if_pos (by omega), if_pos (by omega), show rd [a, b, c] 0 = a from rfl, if_neg ha]
theorem cell_Compare_ev (r c : ByteArray) (t : Int) (v : ByteArray) (g : Bool) (r' c' : ByteArray) (t' : Int) (v' : ByteArray) (g' : Bool) : Ev (fun k => cell_Compare.f k r c t v g r' c' t' v' g') (cmpC r c t r' c' t') := by
  unfold cell_Compare.f
  simp only [cmpString_eq, cmpInt_eq, Option.bind_some]
  exact Ev.bind (cmpOr_ev _ _ _) (Ev.now _)
end Go.Proofs.Ytpnbknhjnakehaa.Pl
