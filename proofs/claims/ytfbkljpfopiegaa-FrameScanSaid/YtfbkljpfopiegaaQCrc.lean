/- Plain laws of the checksum: no program in sight. -/
import Derived.Test.YtfbkljpfopiegaaQWire
namespace Go.Proofs.Ytfbkljpfopiegaa.Pl
open Go.RowKit Go.Proofs.YtfbkljpfopiegaaW.PrintWords Go.Proofs.YtfbkljpfopiegaaW.PrintMore

def bitN (x : Nat) : Nat := if x % 2 = 1 then (x / 2) ^^^ 2197175160 else x / 2
def goN : Nat → Nat → Nat
  | 0, w => w
  | m + 1, w => goN m (bitN w)
def stepN (w c : Nat) : Nat := goN 8 (w ^^^ c)
def crcN (w : Nat) (l : List Int) : Nat := l.foldl (fun w c => stepN w c.toNat) w
@[irreducible] def crcSum (l : List Int) : Int := ((4294967295 - crcN 4294967295 l : Nat) : Int)
theorem crcSum_def (l : List Int) : crcSum l = ((4294967295 - crcN 4294967295 l : Nat) : Int) := by unfold crcSum; rfl
theorem bitN_lt {x : Nat} (h : x < 4294967296) : bitN x < 4294967296 := by
  unfold bitN
  split
  · exact Nat.xor_lt_two_pow (n := 32) (by omega) (by omega)
  · omega
theorem goN_lt : ∀ (m x : Nat), x < 4294967296 → goN m x < 4294967296
  | 0, _, h => h
  | m + 1, _, h => goN_lt m _ (bitN_lt h)
theorem stepN_lt {w c : Nat} (hw : w < 4294967296) (hc : c < 4294967296) : stepN w c < 4294967296 := goN_lt 8 _ (Nat.xor_lt_two_pow (n := 32) hw hc)
theorem crcN_lt : ∀ {l : List Int} {w : Nat}, Bytes l → w < 4294967296 → crcN w l < 4294967296
  | [], _, _, h => h
  | c :: l, w, hb, h => by
    have hc := hb c (by simp)
    exact crcN_lt (l := l) (fun x hx => hb x (by simp [hx])) (stepN_lt h (by omega))
theorem crcSum_in (l : List Int) : 0 ≤ crcSum l ∧ crcSum l ≤ 4294967295 := by
  unfold crcSum
  omega
theorem bitN_top {x : Nat} (h : x < 4294967296) : (bitN x).testBit 31 = decide (x % 2 = 1) := by
  have hx : (x / 2).testBit 31 = false := Nat.testBit_lt_two_pow (by omega)
  unfold bitN
  split
  · rename_i h1
    rw [Nat.testBit_xor, hx, h1]
    decide
  · rename_i h1
    rw [hx]
    simp [h1]
theorem bitN_inj {x y : Nat} (hx : x < 4294967296) (hy : y < 4294967296) (h : bitN x = bitN y) : x = y := by
  have ht := congrArg (fun z => Nat.testBit z 31) h
  simp only [bitN_top hx, bitN_top hy, decide_eq_decide] at ht
  unfold bitN at h
  by_cases h1 : x % 2 = 1
  · rw [if_pos h1, if_pos (ht.1 h1)] at h
    have h2 : x / 2 = y / 2 := by
      have := congrArg (fun z => z ^^^ 2197175160) h
      simpa [Nat.xor_assoc] using this
    have := ht.1 h1
    omega
  · have h3 : ¬ y % 2 = 1 := fun h4 => h1 (ht.2 h4)
    rw [if_neg h1, if_neg h3] at h
    omega
theorem goN_inj : ∀ (m : Nat) {x y : Nat}, x < 4294967296 → y < 4294967296 → goN m x = goN m y → x = y
  | 0, _, _, _, _, h => h
  | m + 1, _, _, hx, hy, h => bitN_inj hx hy (goN_inj m (bitN_lt hx) (bitN_lt hy) h)
theorem xor_cancel_left {a b c : Nat} (h : a ^^^ b = a ^^^ c) : b = c := by
  have := congrArg (fun z => a ^^^ z) h
  simpa [← Nat.xor_assoc] using this
theorem xor_cancel_right {a b c : Nat} (h : b ^^^ a = c ^^^ a) : b = c := by
  have := congrArg (fun z => z ^^^ a) h
  simpa [Nat.xor_assoc] using this
theorem stepN_left {w v c : Nat} (hw : w < 4294967296) (hv : v < 4294967296) (hc : c < 4294967296) (h : stepN w c = stepN v c) : w = v :=
  xor_cancel_right (goN_inj 8 (Nat.xor_lt_two_pow (n := 32) hw hc) (Nat.xor_lt_two_pow (n := 32) hv hc) h)
theorem stepN_right {w c d : Nat} (hw : w < 4294967296) (hc : c < 4294967296) (hd : d < 4294967296) (h : stepN w c = stepN w d) : c = d :=
  xor_cancel_left (goN_inj 8 (Nat.xor_lt_two_pow (n := 32) hw hc) (Nat.xor_lt_two_pow (n := 32) hw hd) h)
theorem crcN_inj : ∀ {l : List Int} {w v : Nat}, Bytes l → w < 4294967296 → v < 4294967296 → crcN w l = crcN v l → w = v
  | [], _, _, _, _, _, h => h
  | c :: l, w, v, hb, hw, hv, h => by
    have hc := hb c (by simp)
    have hc' : c.toNat < 4294967296 := by omega
    exact stepN_left hw hv hc' (crcN_inj (l := l) (fun x hx => hb x (by simp [hx])) (stepN_lt hw hc') (stepN_lt hv hc') h)
theorem crcN_append (w : Nat) (a b : List Int) : crcN w (a ++ b) = crcN (crcN w a) b := by simp [crcN, List.foldl_append]
/-- One byte is another: the checksum is another. -/
theorem crcSum_turned {p r : List Int} {x y : Int} (hp : Bytes p) (hr : Bytes r) (hx : 0 ≤ x ∧ x < 256) (hy : 0 ≤ y ∧ y < 256) (hne : x ≠ y) : crcSum (p ++ x :: r) ≠ crcSum (p ++ y :: r) := by
  intro h
  have hx' : Bytes (p ++ x :: r) := hp.append (Bytes.cons hx.1 hx.2 hr)
  have hy' : Bytes (p ++ y :: r) := hp.append (Bytes.cons hy.1 hy.2 hr)
  have l1 := crcN_lt hx' (w := 4294967295) (by omega)
  have l2 := crcN_lt hy' (w := 4294967295) (by omega)
  unfold crcSum at h
  have h2 : crcN 4294967295 (p ++ x :: r) = crcN 4294967295 (p ++ y :: r) := by omega
  rw [crcN_append, crcN_append] at h2
  have lp := crcN_lt hp (w := 4294967295) (by omega)
  have h3 := crcN_inj (l := r) hr (stepN_lt lp (by omega)) (stepN_lt lp (by omega)) h2
  have h4 := stepN_right lp (by omega) (by omega) h3
  omega
theorem bits_xor_nat (k : IntKind) (j : Nat) (hj : j ≤ k.bits) (hk : ∀ n : Int, 0 ≤ n → n < 2 ^ j → k.wrap n = n) (a b : Nat) (ha : a < 2 ^ j) (hb : b < 2 ^ j) : Go.bits .xor k (a : Int) (b : Int) = ((a ^^^ b : Nat) : Int) := by
  have hp : 2 ^ j ≤ 2 ^ k.bits := Nat.pow_le_pow_right (by decide) hj
  have ha' : a % 2 ^ k.bits = a := Nat.mod_eq_of_lt (Nat.lt_of_lt_of_le ha hp)
  have hb' : b % 2 ^ k.bits = b := Nat.mod_eq_of_lt (Nat.lt_of_lt_of_le hb hp)
  have cast : ∀ n : Nat, n < 2 ^ j → ((n : Nat) : Int) < 2 ^ j := fun n h => by exact_mod_cast h
  simp only [Go.bits, BitVec.ofInt_natCast, BitVec.toNat_xor, BitVec.toNat_ofNat, ha', hb']
  exact hk _ (Int.natCast_nonneg _) (cast _ (Nat.xor_lt_two_pow ha hb))
theorem bits_xor32 {a b : Nat} (ha : a < 4294967296) (hb : b < 4294967296) : Go.bits .xor .u32 (a : Int) (b : Int) = ((a ^^^ b : Nat) : Int) := by
  have hk : ∀ n : Int, 0 ≤ n → n < 2 ^ 32 → IntKind.u32.wrap n = n := by
    intro n h4 h5
    rw [IntKind.wrap_u32]
    omega
  exact bits_xor_nat .u32 32 (by decide) hk a b ha hb
theorem bits_one32 {a : Nat} (ha : a < 4294967296) : Go.bits .and .u32 (a : Int) 1 = ((a % 2 : Nat) : Int) := by
  have hk : ∀ n : Int, 0 ≤ n → n < 2 ^ 32 → IntKind.u32.wrap n = n := by
    intro n h4 h5
    rw [IntKind.wrap_u32]
    omega
  have := (bits_nat .u32 32 (by decide) hk a 1 ha (by decide)).1
  rw [Nat.and_one_is_mod] at this
  exact this
theorem bits_all32 {a : Nat} (ha : a < 4294967296) : Go.bits .xor .u32 (a : Int) 4294967295 = ((4294967295 - a : Nat) : Int) := by
  have h := bits_xor32 ha (show 4294967295 < 4294967296 by decide)
  have h2 : a ^^^ 4294967295 = 4294967295 - a := by
    apply Nat.eq_of_testBit_eq
    intro i
    have h3 := Nat.testBit_two_pow_sub_succ (n := 32) (x := a) (by simpa using ha) i
    rw [show (2 : Nat) ^ 32 - (a + 1) = 4294967295 - a by omega] at h3
    rw [h3, Nat.testBit_xor, show (4294967295 : Nat) = 2 ^ 32 - 1 from rfl, Nat.testBit_two_pow_sub_one]
    by_cases hi : i < 32
    · simp [hi]
    · have : a.testBit i = false := Nat.testBit_lt_two_pow (Nat.lt_of_lt_of_le (by simpa using ha : a < 2 ^ 32) (Nat.pow_le_pow_right (by decide) (by omega)))
      simp [hi, this]
  rw [h2] at h
  exact h
end Go.Proofs.Ytfbkljpfopiegaa.Pl
