/- The reference's numbers. -/
import Derived.Test.YtpneppnnhiijnaaQWire
import Derived.Test.YtpneppnnhiijnaaXx9
namespace Go.Proofs.Ytpneppnnhiijnaa.Pl
open Go.RowKit Go.Proofs.Ytpneppnnhiijnaa.X Go.Proofs.YtpneppnnhiijnaaW.PrintWords Go.Proofs.YtpneppnnhiijnaaW.PrintLast Go.Proofs.YtpneppnnhiijnaaW.PrintMore
theorem ref_Num_eq (n : Int) : shardlogref01_Num.f n = some (num n) := by
  unfold shardlogref01_Num.f num
  by_cases h0 : n < 0
  · rw [if_pos h0, if_pos h0]
  · rw [if_neg h0, if_neg h0]
    by_cases h1 : n > 4294967295
    · rw [if_pos h1, if_pos h1]
    · rw [if_neg h1, if_neg h1]
      have d : ∀ m : Int, 0 ≤ m → Int.tdiv n m = n / m := fun m hm => Int.tdiv_eq_ediv_of_nonneg (by omega)
      rw [d _ (by omega), d _ (by omega), d _ (by omega), w64 (by omega) (by omega), w64 (by omega) (by omega), w64 (by omega) (by omega)]
      rw [Int.tmod_eq_emod_of_nonneg (by omega), Int.tmod_eq_emod_of_nonneg (by omega), Int.tmod_eq_emod_of_nonneg (by omega)]
      have e : ∀ x : Int, x % 256 % 256 = x % 256 := fun x => by omega
      rw [e, e, e]
end Go.Proofs.Ytpneppnnhiijnaa.Pl
