/- The printed checksums answer the plain one. -/
import Derived.Test.YtfbkljpfopiegaaQCrc
import Derived.Test.YtfbkljpfopiegaaXx1
namespace Go.Proofs.Ytfbkljpfopiegaa.Pl
open Go.RowKit Go.Proofs.Ytfbkljpfopiegaa.X Go.Proofs.YtfbkljpfopiegaaW.PrintWords Go.Proofs.YtfbkljpfopiegaaW.PrintLast Go.Proofs.YtfbkljpfopiegaaW.PrintMore
theorem rd_at (l : List Int) (i : Nat) (h : i < l.length) : rd l (i : Int) = l[i] := by
 simp [rd, List.getD_eq_getElem?_getD, List.getElem?_eq_getElem h]
theorem bit_eq {x : Nat} (h : x < 4294967296) : check_word_eight.bit (x : Int) = (bitN x : Int) := by
 unfold check_word_eight.bit bitN
 rw [bits_one32 h]
 have hd : (x : Int) / 2 = ((x / 2 : Nat) : Int) := by omega
 rw [hd]
 by_cases h1 : x % 2 = 1
 ·
  rw [if_pos (by omega), if_pos h1]
  exact bits_xor32 (a := x / 2) (b := 2197175160) (by omega) (by omega)
 ·
  rw [if_neg (by omega), if_neg h1]
theorem go_eq : ∀ (m : Nat) {x : Nat}, x < 4294967296 → check_word_eight.go m (x : Int) = (goN m x : Int)
 | 0, _, _ => rfl
 | m + 1, x, h => by
  rw [check_word_eight.go, bit_eq h, go_eq m (bitN_lt h)]
  rfl
theorem eight_eq {w : Nat} {c : Int} (hw : w < 4294967296) (hc : 0 ≤ c ∧ c < 256) : check_word_eight.f (w : Int) c = some (stepN w c.toNat : Int) := by
 have hc1 : c % 4294967296 = ((c.toNat : Nat) : Int) := by omega
 have hc2 : c.toNat < 4294967296 := by omega
 unfold check_word_eight.f
 rw [hc1, bits_xor32 hw hc2, go_eq 8 (Nat.xor_lt_two_pow (n := 32) hw hc2)]
 rfl
theorem more_l0 {l : List Int} (hb : Bytes l) (hl : l.length ≤ 140737488355328) (d : Nat) : ∀ (i w : Nat), i ≤ l.length → l.length - i = d → w < 4294967296 →
  Ev (fun k => check_More.l0 k (w : Int) l (l.length : Int) (i : Int)) ((4294967295 - crcN w (l.drop i) : Nat) : Int) := by
 induction d with
 | zero =>
  intro i w hi hd hw
  rw [List.drop_eq_nil_of_le (by omega)]
  refine Ev.step (f := fun _ => some ((4294967295 - w : Nat) : Int)) (fun k => ?_) (Ev.now _)
  simp only [check_More.l0]
  rw [if_neg (by omega), bits_all32 hw]
 | succ d ih =>
  intro i w hi hd hw
  have h1 : i < l.length := by omega
  have hc := hb _ (List.getElem_mem h1)
  rw [List.drop_eq_getElem_cons h1]
  refine Ev.step (f := fun k => check_More.l0 k ((stepN w (l[i]).toNat : Nat) : Int) l (l.length : Int) ((i + 1 : Nat) : Int)) (fun k => ?_) (ih (i + 1) (stepN w (l[i]).toNat) (by omega) (by omega) (stepN_lt hw (by omega)))
  simp only [check_More.l0]
  rw [if_pos (by omega), if_pos (by omega), if_pos (by omega), rd_at _ _ h1, eight_eq hw hc, w64 (by omega) (by omega)]
  rfl
theorem check_Sum_ev {l : List Int} (hb : Bytes l) (hl : l.length ≤ 140737488355328) : Ev (fun k => check_Sum.f k l) (crcSum l) := by
 unfold check_Sum.f check_More.f
 have h := more_l0 hb hl l.length 0 4294967295 (by omega) (by omega) (by omega)
 rw [List.drop_zero, ← crcSum_def] at h
 have e : Go.bits .xor .u32 0 4294967295 = ((4294967295 : Nat) : Int) := bits_xor32 (a := 0) (b := 4294967295) (by omega) (by omega)
 rw [e]
 exact Ev.bind h (Ev.now _)
end Go.Proofs.Ytfbkljpfopiegaa.Pl
