/- The reference's texts at a place. -/
import Derived.Test.YtpneppnnhiijnaaBRefNumAt
import Derived.Test.YtpneppnnhiijnaaXx11
namespace Go.Proofs.Ytpneppnnhiijnaa.Pl
open Go.RowKit Go.Proofs.Ytpneppnnhiijnaa.X Go.Proofs.YtpneppnnhiijnaaW.PrintWords Go.Proofs.YtpneppnnhiijnaaW.PrintLast Go.Proofs.YtpneppnnhiijnaaW.PrintMore
/-- The text at a place, and how many bytes it has; 0: it isn't there. -/
def textAt (b : List Int) (i : Nat) : ByteArray × Int := if (cutText (b.drop i)).2.2 = true then ((cutText (b.drop i)).1, 4 + ((cutText (b.drop i)).1.size : Int)) else (⟨#[]⟩, 0)
theorem TextAt_eq {b : List Int} (hb : Bytes b) (hl : b.length ≤ 140737488355328) {i : Nat} (hi : i ≤ 140737488355328) : shardlogref01_TextAt.f b (i : Int) = some (textAt b i) := by
  have w4 : wrap64 ((i : Int) + 4) = (i : Int) + 4 := w64 (by omega) (by omega)
  unfold shardlogref01_TextAt.f
  rw [At_eq hb hl hi, w4]
  simp only [Option.bind_some]
  unfold textAt numAt
  by_cases h : b.length < i + 4
  · rw [if_pos h, if_pos (by decide)]
    have hc : cutText (b.drop i) = (⟨#[]⟩, [], false) := by
      unfold cutText
      rw [if_pos (by rw [List.length_drop]; omega)]
    rw [hc]
    rfl
  · rw [if_neg h]
    obtain ⟨g0, g1⟩ := val4_nonneg (hb.drop i) (by rw [List.length_drop]; omega)
    rw [if_neg (by omega)]
    have hlen : ((b.drop i).length - 4 : Nat) = b.length - i - 4 := by rw [List.length_drop]
    have wv : wrap64 ((i : Int) + 4 + val4 (b.drop i)) = (i : Int) + 4 + val4 (b.drop i) := w64 (by omega) (by omega)
    rw [wv]
    by_cases hv : val4 (b.drop i) > ((b.length - i - 4 : Nat) : Int)
    · have hc : cutText (b.drop i) = (⟨#[]⟩, [], false) := by
        unfold cutText
        rw [if_neg (by rw [List.length_drop]; omega), hlen, if_pos hv]
      rw [hc, if_pos (by omega)]
      rfl
    · have hc : cutText (b.drop i) = (strOfNums (((b.drop i).drop 4).take (val4 (b.drop i)).toNat), ((b.drop i).drop 4).drop (val4 (b.drop i)).toNat, true) := by
        unfold cutText
        rw [if_neg (by rw [List.length_drop]; omega), hlen, if_neg hv]
      rw [hc, if_neg (by omega), if_pos (by omega), if_pos (by omega), if_pos (by omega), if_pos rfl, w64 (by omega) (by omega)]
      simp only [Option.some.injEq, Prod.mk.injEq]
      have h1 : (i : Int) + 4 = ((i + 4 : Nat) : Int) := by omega
      have h2 : ((i : Int) + 4 + val4 (b.drop i)).toNat = i + 4 + (val4 (b.drop i)).toNat := by omega
      have h3 : ((i : Int) + 4).toNat = i + 4 := by omega
      constructor
      · rw [h2, h3, List.drop_take, List.drop_drop, Nat.add_sub_cancel_left]
      · rw [strOf_size, List.length_take, List.length_drop, List.length_drop]
        omega
end Go.Proofs.Ytpneppnnhiijnaa.Pl
