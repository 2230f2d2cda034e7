/- The reference's numbers at a place. -/
import Derived.Test.YtpneppnnhiijnaaQWire
import Derived.Test.YtpneppnnhiijnaaXx11
namespace Go.Proofs.Ytpneppnnhiijnaa.Pl
open Go.RowKit Go.Proofs.Ytpneppnnhiijnaa.X Go.Proofs.YtpneppnnhiijnaaW.PrintWords Go.Proofs.YtpneppnnhiijnaaW.PrintLast Go.Proofs.YtpneppnnhiijnaaW.PrintMore
/-- The number at a place; -1: it isn't there. -/
def numAt (b : List Int) (i : Nat) : Int := if b.length < i + 4 then -1 else val4 (b.drop i)
theorem rd_drop (b : List Int) (i j : Nat) : rd (b.drop i) (j : Int) = rd b ((i : Int) + (j : Int)) := by
  unfold rd
  rw [show ((i : Int) + (j : Int)).toNat = i + j by omega, Int.toNat_natCast]
  simp [List.getD_eq_getElem?_getD, List.getElem?_drop]
theorem rd_byte {b : List Int} (hb : Bytes b) (i : Int) : 0 ≤ rd b i ∧ rd b i < 256 := by
  unfold rd
  rw [List.getD_eq_getElem?_getD]
  by_cases h : i.toNat < b.length
  · rw [List.getElem?_eq_getElem h]
    exact hb _ (List.getElem_mem h)
  · rw [List.getElem?_eq_none (by omega)]
    exact ⟨by decide, by decide⟩
theorem val4_at (b : List Int) (i : Nat) : val4 (b.drop i) = 16777216 * rd b i + 65536 * rd b ((i : Int) + 1) + 256 * rd b ((i : Int) + 2) + rd b ((i : Int) + 3) := by
  unfold val4
  have h0 : rd (b.drop i) 0 = rd b i := by simpa using rd_drop b i 0
  have h1 := rd_drop b i 1
  have h2 := rd_drop b i 2
  have h3 := rd_drop b i 3
  rw [show ((1 : Nat) : Int) = 1 from rfl] at h1
  rw [show ((2 : Nat) : Int) = 2 from rfl] at h2
  rw [show ((3 : Nat) : Int) = 3 from rfl] at h3
  rw [h0, h1, h2, h3]
theorem At_eq {b : List Int} (hb : Bytes b) (_hl : b.length ≤ 140737488355328) {i : Nat} (hi : i ≤ 140737488355328) : shardlogref01_At.f b (i : Int) = some (numAt b i) := by
  have w4 : wrap64 ((i : Int) + 4) = (i : Int) + 4 := w64 (by omega) (by omega)
  have w1 : wrap64 ((i : Int) + 1) = (i : Int) + 1 := w64 (by omega) (by omega)
  have w2 : wrap64 ((i : Int) + 2) = (i : Int) + 2 := w64 (by omega) (by omega)
  have w3 : wrap64 ((i : Int) + 3) = (i : Int) + 3 := w64 (by omega) (by omega)
  unfold shardlogref01_At.f numAt
  rw [w4, w1, w2, w3]
  by_cases h : b.length < i + 4
  · rw [if_pos (by omega), if_pos h]
  · rw [if_neg (by omega), if_neg h, if_pos (by omega), if_pos (by omega), if_pos (by omega), if_pos (by omega), if_pos (by omega), if_pos (by omega), if_pos (by omega), if_pos (by omega), val4_at]
    obtain ⟨a0, b0⟩ := rd_byte hb (i : Int)
    obtain ⟨a1, b1⟩ := rd_byte hb ((i : Int) + 1)
    obtain ⟨a2, b2⟩ := rd_byte hb ((i : Int) + 2)
    obtain ⟨a3, b3⟩ := rd_byte hb ((i : Int) + 3)
    rw [w64 (x := rd b (i : Int)) (by omega) (by omega), w64 (x := rd b ((i : Int) + 1)) (by omega) (by omega), w64 (x := rd b ((i : Int) + 2)) (by omega) (by omega), w64 (x := rd b ((i : Int) + 3)) (by omega) (by omega)]
    rw [w64 (x := 16777216 * rd b (i : Int)) (by omega) (by omega), w64 (x := 65536 * rd b ((i : Int) + 1)) (by omega) (by omega), w64 (x := 256 * rd b ((i : Int) + 2)) (by omega) (by omega)]
    rw [w64 (x := 16777216 * rd b (i : Int) + 65536 * rd b ((i : Int) + 1)) (by omega) (by omega), w64 (x := 16777216 * rd b (i : Int) + 65536 * rd b ((i : Int) + 1) + 256 * rd b ((i : Int) + 2)) (by omega) (by omega), w64 (by omega) (by omega)]
end Go.Proofs.Ytpneppnnhiijnaa.Pl
