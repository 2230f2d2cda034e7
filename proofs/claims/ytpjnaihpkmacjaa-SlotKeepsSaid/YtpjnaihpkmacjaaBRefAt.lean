/- The reference's numbers and texts at a place. -/
import Derived.Test.YtpjnaihpkmacjaaQWire
import Derived.Test.YtpjnaihpkmacjaaXx14
namespace Go.Proofs.Ytpjnaihpkmacjaa.Pl
open Go.RowKit Go.Proofs.Ytpjnaihpkmacjaa.X Go.Proofs.YtpjnaihpkmacjaaW.PrintWords Go.Proofs.YtpjnaihpkmacjaaW.PrintLast Go.Proofs.YtpjnaihpkmacjaaW.PrintMore
/-- The number at a place; -1: it isn't there. -/
def numAt (b : List Int) (i : Nat) : Int := if b.length < i + 4 then -1 else val4 (b.drop i)
theorem rd_drop (b : List Int) (i j : Nat) : rd (b.drop i) (j : Int) = rd b ((i : Int) + (j : Int)) := by
  unfold rd
  rw [show ((i : Int) + (j : Int)).toNat = i + j by omega, Int.toNat_natCast]
  simp [List.getD_eq_getElem?_getD, List.getElem?_drop]
theorem rd_byte {b : List Int} (hb : Bytes b) (i : Int) : 0 ≤ rd b i ∧ rd b i < 256 := by
  unfold rd
  rw [List.getD_eq_getElem?_getD]
  by_cases h : i.toNat < b.length
  · rw [List.getElem?_eq_getElem h]
    exact hb _ (List.getElem_mem h)
  · rw [List.getElem?_eq_none (by omega)]
    exact ⟨by decide, by decide⟩
theorem val4_at (b : List Int) (i : Nat) : val4 (b.drop i) = 16777216 * rd b i + 65536 * rd b ((i : Int) + 1) + 256 * rd b ((i : Int) + 2) + rd b ((i : Int) + 3) := by
  unfold val4
  have h0 : rd (b.drop i) 0 = rd b i := by simpa using rd_drop b i 0
  have h1 := rd_drop b i 1
  have h2 := rd_drop b i 2
  have h3 := rd_drop b i 3
  rw [show ((1 : Nat) : Int) = 1 from rfl] at h1
  rw [show ((2 : Nat) : Int) = 2 from rfl] at h2
  rw [show ((3 : Nat) : Int) = 3 from rfl] at h3
  rw [h0, h1, h2, h3]
theorem At_eq {b : List Int} (hb : Bytes b) (_hl : b.length ≤ 140737488355328) {i : Nat} (hi : i ≤ 140737488355328) : shardlogref01_At.f b (i : Int) = some (numAt b i) := by
  have w4 : wrap64 ((i : Int) + 4) = (i : Int) + 4 := w64 (by omega) (by omega)
  have w1 : wrap64 ((i : Int) + 1) = (i : Int) + 1 := w64 (by omega) (by omega)
  have w2 : wrap64 ((i : Int) + 2) = (i : Int) + 2 := w64 (by omega) (by omega)
  have w3 : wrap64 ((i : Int) + 3) = (i : Int) + 3 := w64 (by omega) (by omega)
  unfold shardlogref01_At.f numAt
  rw [w4, w1, w2, w3]
  by_cases h : b.length < i + 4
  · rw [if_pos (by omega), if_pos h]
  · rw [if_neg (by omega), if_neg h, if_pos (by omega), if_pos (by omega), if_pos (by omega), if_pos (by omega), if_pos (by omega), if_pos (by omega), if_pos (by omega), if_pos (by omega), val4_at]
    obtain ⟨a0, b0⟩ := rd_byte hb (i : Int)
    obtain ⟨a1, b1⟩ := rd_byte hb ((i : Int) + 1)
    obtain ⟨a2, b2⟩ := rd_byte hb ((i : Int) + 2)
    obtain ⟨a3, b3⟩ := rd_byte hb ((i : Int) + 3)
    rw [w64 (x := rd b (i : Int)) (by omega) (by omega), w64 (x := rd b ((i : Int) + 1)) (by omega) (by omega), w64 (x := rd b ((i : Int) + 2)) (by omega) (by omega), w64 (x := rd b ((i : Int) + 3)) (by omega) (by omega)]
    rw [w64 (x := 16777216 * rd b (i : Int)) (by omega) (by omega), w64 (x := 65536 * rd b ((i : Int) + 1)) (by omega) (by omega), w64 (x := 256 * rd b ((i : Int) + 2)) (by omega) (by omega)]
    rw [w64 (x := 16777216 * rd b (i : Int) + 65536 * rd b ((i : Int) + 1)) (by omega) (by omega), w64 (x := 16777216 * rd b (i : Int) + 65536 * rd b ((i : Int) + 1) + 256 * rd b ((i : Int) + 2)) (by omega) (by omega), w64 (by omega) (by omega)]
/-- The text at a place, and how many bytes it has; 0: it isn't there. -/
def textAt (b : List Int) (i : Nat) : ByteArray × Int := if (cutText (b.drop i)).2.2 = true then ((cutText (b.drop i)).1, 4 + ((cutText (b.drop i)).1.size : Int)) else (⟨#[]⟩, 0)
theorem TextAt_eq {b : List Int} (hb : Bytes b) (hl : b.length ≤ 140737488355328) {i : Nat} (hi : i ≤ 140737488355328) : shardlogref01_TextAt.f b (i : Int) = some (textAt b i) := by
  have w4 : wrap64 ((i : Int) + 4) = (i : Int) + 4 := w64 (by omega) (by omega)
  unfold shardlogref01_TextAt.f
  rw [At_eq hb hl hi, w4]
  simp only [Option.bind_some]
  unfold textAt numAt
  by_cases h : b.length < i + 4
  · rw [if_pos h, if_pos (by decide)]
    have hc : cutText (b.drop i) = (⟨#[]⟩, [], false) := by
      unfold cutText
      rw [if_pos (by rw [List.length_drop]; omega)]
    rw [hc]
    rfl
  · rw [if_neg h]
    obtain ⟨g0, g1⟩ := val4_nonneg (hb.drop i) (by rw [List.length_drop]; omega)
    rw [if_neg (by omega)]
    have hlen : ((b.drop i).length - 4 : Nat) = b.length - i - 4 := by rw [List.length_drop]
    have wv : wrap64 ((i : Int) + 4 + val4 (b.drop i)) = (i : Int) + 4 + val4 (b.drop i) := w64 (by omega) (by omega)
    rw [wv]
    by_cases hv : val4 (b.drop i) > ((b.length - i - 4 : Nat) : Int)
    · have hc : cutText (b.drop i) = (⟨#[]⟩, [], false) := by
        unfold cutText
        rw [if_neg (by rw [List.length_drop]; omega), hlen, if_pos hv]
      rw [hc, if_pos (by omega)]
      rfl
    · have hc : cutText (b.drop i) = (strOfNums (((b.drop i).drop 4).take (val4 (b.drop i)).toNat), ((b.drop i).drop 4).drop (val4 (b.drop i)).toNat, true) := by
        unfold cutText
        rw [if_neg (by rw [List.length_drop]; omega), hlen, if_neg hv]
      rw [hc, if_neg (by omega), if_pos (by omega), if_pos (by omega), if_pos (by omega), if_pos rfl, w64 (by omega) (by omega)]
      simp only [Option.some.injEq, Prod.mk.injEq]
      have h1 : (i : Int) + 4 = ((i + 4 : Nat) : Int) := by omega
      have h2 : ((i : Int) + 4 + val4 (b.drop i)).toNat = i + 4 + (val4 (b.drop i)).toNat := by omega
      have h3 : ((i : Int) + 4).toNat = i + 4 := by omega
      constructor
      · rw [h2, h3, List.drop_take, List.drop_drop, Nat.add_sub_cancel_left]
      · rw [strOf_size, List.length_take, List.length_drop, List.length_drop]
        omega
end Go.Proofs.Ytpjnaihpkmacjaa.Pl
