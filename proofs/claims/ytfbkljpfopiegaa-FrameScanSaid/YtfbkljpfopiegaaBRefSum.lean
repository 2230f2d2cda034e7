/- The reference's checksum answers the plain one. -/
import Derived.Test.YtfbkljpfopiegaaQCrc
import Derived.Test.YtfbkljpfopiegaaXx10
namespace Go.Proofs.Ytfbkljpfopiegaa.Pl
open Go.RowKit Go.Proofs.Ytfbkljpfopiegaa.X Go.Proofs.YtfbkljpfopiegaaW.PrintWords Go.Proofs.YtfbkljpfopiegaaW.PrintLast Go.Proofs.YtfbkljpfopiegaaW.PrintMore
theorem rd_at2 (l : List Int) (i : Nat) (h : i < l.length) : rd l (i : Int) = l[i] := by
  simp [rd, List.getD_eq_getElem?_getD, List.getElem?_eq_getElem h]
theorem ref_Sum_l1 (l : List Int) (i : Nat) {r : Int} (m : Nat) : ∀ (j w : Nat), j + m = 8 → w < 4294967296 →
    Ev (fun k => shardlogref02_Sum.l0 k l ((goN m w : Nat) : Int) (wrap64 ((i : Int) + 1))) r → Ev (fun k => shardlogref02_Sum.l1 k l (w : Int) (i : Int) (j : Int)) r := by
  induction m with
  | zero =>
    intro j w hj hw h
    refine Ev.step (fun k => ?_) h
    simp only [shardlogref02_Sum.l1]
    rw [if_neg (by omega)]
    rfl
  | succ m ih =>
    intro j w hj hw h
    refine Ev.step (f := fun k => shardlogref02_Sum.l1 k l ((bitN w : Nat) : Int) (i : Int) ((j + 1 : Nat) : Int)) (fun k => ?_) (ih (j + 1) (bitN w) (by omega) (bitN_lt hw) h)
    have ht : Int.tmod (w : Int) 2 = ((w % 2 : Nat) : Int) := by rw [Int.tmod_eq_emod_of_nonneg (by omega)]; omega
    have hd : Int.tdiv (w : Int) 2 % 4294967296 = ((w / 2 : Nat) : Int) := by rw [Int.tdiv_eq_ediv_of_nonneg (by omega)]; omega
    simp only [shardlogref02_Sum.l1]
    rw [if_pos (by omega), ht, hd, w64 (by omega) (by omega)]
    unfold bitN
    by_cases h1 : w % 2 = 1
    · rw [if_pos (by omega), if_pos h1, show Go.bits .xor .u32 ((w / 2 : Nat) : Int) 2197175160 = ((w / 2 ^^^ 2197175160 : Nat) : Int) from bits_xor32 (a := w / 2) (b := 2197175160) (by omega) (by omega)]
      rfl
    · rw [if_neg (by omega), if_neg h1]
      rfl
theorem ref_Sum_l0 {l : List Int} (hb : Bytes l) (hl : l.length ≤ 140737488355328) (d : Nat) : ∀ (i w : Nat), i ≤ l.length → l.length - i = d → w < 4294967296 →
    Ev (fun k => shardlogref02_Sum.l0 k l (w : Int) (i : Int)) ((4294967295 - crcN w (l.drop i) : Nat) : Int) := by
  induction d with
  | zero =>
    intro i w hi hd hw
    rw [List.drop_eq_nil_of_le (by omega)]
    refine Ev.step (f := fun _ => some ((4294967295 - w : Nat) : Int)) (fun k => ?_) (Ev.now _)
    simp only [shardlogref02_Sum.l0]
    rw [if_neg (by omega)]
    congr 1
    omega
  | succ d ih =>
    intro i w hi hd hw
    have h1 : i < l.length := by omega
    have hc := hb _ (List.getElem_mem h1)
    have hc1 : l[i] % 4294967296 = (((l[i]).toNat : Nat) : Int) := by omega
    have hc2 : (l[i]).toNat < 4294967296 := by omega
    have hx : w ^^^ (l[i]).toNat < 4294967296 := Nat.xor_lt_two_pow (n := 32) hw hc2
    rw [List.drop_eq_getElem_cons h1]
    have hn := ih (i + 1) (stepN w (l[i]).toNat) (by omega) (by omega) (stepN_lt hw (by omega))
    refine Ev.step (f := fun k => shardlogref02_Sum.l1 k l ((w ^^^ (l[i]).toNat : Nat) : Int) (i : Int) ((0 : Nat) : Int)) (fun k => ?_) (ref_Sum_l1 l i 8 0 _ (by omega) hx ?_)
    · simp only [shardlogref02_Sum.l0]
      rw [if_pos (by omega), if_pos (by omega), rd_at2 _ _ h1, hc1, bits_xor32 hw hc2]
      rfl
    · rw [w64 (by omega) (by omega)]
      exact hn
theorem ref_Sum_ev {l : List Int} (hb : Bytes l) (hl : l.length ≤ 140737488355328) : Ev (fun k => shardlogref02_Sum.f k l) (crcSum l) := by
  unfold shardlogref02_Sum.f
  have h := ref_Sum_l0 hb hl l.length 0 4294967295 (by omega) (by omega) (by omega)
  rw [List.drop_zero, ← crcSum_def] at h
  exact h
end Go.Proofs.Ytfbkljpfopiegaa.Pl
