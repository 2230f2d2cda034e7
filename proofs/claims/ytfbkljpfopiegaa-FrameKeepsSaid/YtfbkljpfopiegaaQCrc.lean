/- Plain laws of the checksum: no program in sight. -/
import Derived.Test.YtfbkljpfopiegaaQWire
namespace Go.Proofs.Ytfbkljpfopiegaa.Pl
open Go.RowKit Go.Proofs.YtfbkljpfopiegaaW.PrintWords Go.Proofs.YtfbkljpfopiegaaW.PrintMore

def bitN (x : Nat) : Nat := if x % 2 = 1 then (x / 2) ^^^ 2197175160 else x / 2
def goN : Nat → Nat → Nat
 | 0, w => w
 | m + 1, w => goN m (bitN w)
def stepN (w c : Nat) : Nat := goN 8 (w ^^^ c)
def crcN (w : Nat) (l : List Int) : Nat := l.foldl (fun w c => stepN w c.toNat) w
@[irreducible] def crcSum (l : List Int) : Int := ((4294967295 - crcN 4294967295 l : Nat) : Int)
theorem crcSum_def (l : List Int) : crcSum l = ((4294967295 - crcN 4294967295 l : Nat) : Int) := by unfold crcSum; rfl
theorem bitN_lt {x : Nat} (h : x < 4294967296) : bitN x < 4294967296 := by
 unfold bitN
 split
 ·
  exact Nat.xor_lt_two_pow (n := 32) (by omega) (by omega)
 ·
  omega
theorem goN_lt : ∀ (m x : Nat), x < 4294967296 → goN m x < 4294967296
 | 0, _, h => h
 | m + 1, _, h => goN_lt m _ (bitN_lt h)
theorem stepN_lt {w c : Nat} (hw : w < 4294967296) (hc : c < 4294967296) : stepN w c < 4294967296 := goN_lt 8 _ (Nat.xor_lt_two_pow (n := 32) hw hc)
theorem crcSum_in (l : List Int) : 0 ≤ crcSum l ∧ crcSum l ≤ 4294967295 := by
 unfold crcSum
 omega
theorem bits_xor_nat (k : IntKind) (j : Nat) (hj : j ≤ k.bits) (hk : ∀ n : Int, 0 ≤ n → n < 2 ^ j → k.wrap n = n) (a b : Nat) (ha : a < 2 ^ j) (hb : b < 2 ^ j) : Go.bits .xor k (a : Int) (b : Int) = ((a ^^^ b : Nat) : Int) := by
 have hp : 2 ^ j ≤ 2 ^ k.bits := Nat.pow_le_pow_right (by decide) hj
 have ha' : a % 2 ^ k.bits = a := Nat.mod_eq_of_lt (Nat.lt_of_lt_of_le ha hp)
 have hb' : b % 2 ^ k.bits = b := Nat.mod_eq_of_lt (Nat.lt_of_lt_of_le hb hp)
 have cast : ∀ n : Nat, n < 2 ^ j → ((n : Nat) : Int) < 2 ^ j := fun n h => by exact_mod_cast h
 simp only [Go.bits, BitVec.ofInt_natCast, BitVec.toNat_xor, BitVec.toNat_ofNat, ha', hb']
 exact hk _ (Int.natCast_nonneg _) (cast _ (Nat.xor_lt_two_pow ha hb))
theorem bits_xor32 {a b : Nat} (ha : a < 4294967296) (hb : b < 4294967296) : Go.bits .xor .u32 (a : Int) (b : Int) = ((a ^^^ b : Nat) : Int) := by
 have hk : ∀ n : Int, 0 ≤ n → n < 2 ^ 32 → IntKind.u32.wrap n = n := by
  intro n h4 h5
  rw [IntKind.wrap_u32]
  omega
 exact bits_xor_nat .u32 32 (by decide) hk a b ha hb
theorem bits_one32 {a : Nat} (ha : a < 4294967296) : Go.bits .and .u32 (a : Int) 1 = ((a % 2 : Nat) : Int) := by
 have hk : ∀ n : Int, 0 ≤ n → n < 2 ^ 32 → IntKind.u32.wrap n = n := by
  intro n h4 h5
  rw [IntKind.wrap_u32]
  omega
 have := (bits_nat .u32 32 (by decide) hk a 1 ha (by decide)).1
 rw [Nat.and_one_is_mod] at this
 exact this
theorem bits_all32 {a : Nat} (ha : a < 4294967296) : Go.bits .xor .u32 (a : Int) 4294967295 = ((4294967295 - a : Nat) : Int) := by
 have h := bits_xor32 ha (show 4294967295 < 4294967296 by decide)
 have h2 : a ^^^ 4294967295 = 4294967295 - a := by
  apply Nat.eq_of_testBit_eq
  intro i
  have h3 := Nat.testBit_two_pow_sub_succ (n := 32) (x := a) (by simpa using ha) i
  rw [show (2 : Nat) ^ 32 - (a + 1) = 4294967295 - a by omega] at h3
  rw [h3, Nat.testBit_xor, show (4294967295 : Nat) = 2 ^ 32 - 1 from rfl, Nat.testBit_two_pow_sub_one]
  by_cases hi : i < 32
  ·
   simp [hi]
  ·
   have : a.testBit i = false := Nat.testBit_lt_two_pow (Nat.lt_of_lt_of_le (by simpa using ha : a < 2 ^ 32) (Nat.pow_le_pow_right (by decide) (by omega)))
   simp [hi, this]
 rw [h2] at h
 exact h
end Go.Proofs.Ytfbkljpfopiegaa.Pl
