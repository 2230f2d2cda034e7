/- Plain laws of numbers, texts and lists as bytes: no program in sight. -/
import Derived.Test.YtfbkljpfopiegaaWMore
import Derived.Laws.BitsLemmas
import Derived.Lib.Strings
namespace Go.Proofs.Ytfbkljpfopiegaa.Pl
open Go.RowKit Go.Proofs.YtfbkljpfopiegaaW.PrintWords Go.Proofs.YtfbkljpfopiegaaW.PrintMore

def Bytes (l : List Int) : Prop := ∀ x ∈ l, 0 ≤ x ∧ x < 256
theorem wf_u8 {y : Int} (h : (Lit.int .u8 y).wf = true) : 0 ≤ y ∧ y < 256 := by
 simp [Lit.wf, IntKind.min, IntKind.max, IntKind.signed, IntKind.bits] at h
 omega
theorem Bytes.of_wf {l : List Int} (h : ∀ y ∈ l, (Lit.int .u8 y).wf = true) : Bytes l := fun x hx => wf_u8 (h x hx)
theorem Bytes.nil : Bytes [] := fun _ h => by cases h
theorem Bytes.append {a b : List Int} (ha : Bytes a) (hb : Bytes b) : Bytes (a ++ b) := fun x hx => (List.mem_append.1 hx).elim (ha x) (hb x)
theorem Bytes.take {a : List Int} (ha : Bytes a) (n : Nat) : Bytes (a.take n) := fun x hx => ha x (List.mem_of_mem_take hx)
theorem Bytes.drop {a : List Int} (ha : Bytes a) (n : Nat) : Bytes (a.drop n) := fun x hx => ha x (List.mem_of_mem_drop hx)
theorem Bytes.cons {x : Int} {l : List Int} (h0 : 0 ≤ x) (h1 : x < 256) (h : Bytes l) : Bytes (x :: l) := fun y hy => (List.mem_cons.1 hy).elim (fun e => e ▸ ⟨h0, h1⟩) (h y)
theorem same_eq {a b : List Int} (h : a = b) : ((strOfNums a).toList == (strOfNums b).toList) = true := by rw [h]; simp
theorem w64 {x : Int} (h0 : -9223372036854775808 ≤ x) (h1 : x < 9223372036854775808) : wrap64 x = x := by unfold wrap64; omega

theorem _root_.Go.Proofs.YtfbkljpfopiegaaW.PrintWords.Ev.pos {α : Type} {c : Prop} [Decidable c] {f g : Nat → Option α} {r : α} (hc : c) (h : Ev f r) : Ev (fun k => if c then f k else g k) r := by
 simpa only [if_pos hc] using h
theorem _root_.Go.Proofs.YtfbkljpfopiegaaW.PrintWords.Ev.neg {α : Type} {c : Prop} [Decidable c] {f g : Nat → Option α} {r : α} (hc : ¬ c) (h : Ev g r) : Ev (fun k => if c then f k else g k) r := by
 simpa only [if_neg hc] using h
theorem _root_.Go.Proofs.YtfbkljpfopiegaaW.PrintWords.Ev.eq {α : Type} {x : Option α} {r : α} (h : x = some r) : Ev (fun _ => x) r := by rw [h]; exact Ev.now r
theorem _root_.Go.Proofs.YtfbkljpfopiegaaW.PrintWords.Ev.to {α : Type} {g : Nat → Option α} {r r' : α} (h : Ev g r) (e : r = r') : Ev g r' := e ▸ h

theorem four_form {α : Type} {b : List α} (h : 4 ≤ b.length) : ∃ x0 x1 x2 x3 r, b = x0 :: x1 :: x2 :: x3 :: r := by
 match b, h with
 | x0 :: x1 :: x2 :: x3 :: r, _ => exact ⟨x0, x1, x2, x3, r, rfl⟩
def num (n : Int) : List Int := if n < 0 then [] else if n > 4294967295 then [] else [n / 16777216 % 256, n / 65536 % 256, n / 256 % 256, n % 256]
def text (s : ByteArray) : List Int := num s.size ++ bytesOf s
def texts (l : List ByteArray) : List Int := num l.length ++ (l.map text).flatten
def val4 (b : List Int) : Int := 16777216 * rd b 0 + 65536 * rd b 1 + 256 * rd b 2 + rd b 3
def cutNum (b : List Int) : Int × List Int × Bool := if b.length < 4 then (0, [], false) else (val4 b, b.drop 4, true)
theorem num_in {n : Int} (h0 : 0 ≤ n) (h1 : n ≤ 4294967295) : num n = [n / 16777216 % 256, n / 65536 % 256, n / 256 % 256, n % 256] := by
 unfold num
 rw [if_neg (by omega), if_neg (by omega)]
theorem num_length {n : Int} (h0 : 0 ≤ n) (h1 : n ≤ 4294967295) : (num n).length = 4 := by rw [num_in h0 h1]; rfl
theorem num_length_le (n : Int) : (num n).length ≤ 4 := by
 unfold num
 split
 ·
  simp
 ·
  split <;> simp
theorem bytes_num (n : Int) : Bytes (num n) := by
 unfold num
 split
 ·
  exact Bytes.nil
 ·
  split
  ·
   exact Bytes.nil
  ·
   refine Bytes.cons ?_ ?_ (Bytes.cons ?_ ?_ (Bytes.cons ?_ ?_ (Bytes.cons ?_ ?_ Bytes.nil))) <;> omega
theorem val4_num {n : Int} (h0 : 0 ≤ n) (h1 : n ≤ 4294967295) (r : List Int) : val4 (num n ++ r) = n := by
 rw [num_in h0 h1]
 simp [val4, rd]
 omega
theorem val4_nonneg {b : List Int} (h : Bytes b) (hl : 4 ≤ b.length) : 0 ≤ val4 b ∧ val4 b ≤ 4294967295 := by
 match b, hl with
 | x0 :: x1 :: x2 :: x3 :: r, _ =>
  have h0 := h x0 (by simp)
  have h1 := h x1 (by simp)
  have h2 := h x2 (by simp)
  have h3 := h x3 (by simp)
  simp [val4, rd]
  omega
theorem num_val4 {b : List Int} (h : Bytes b) (hl : 4 ≤ b.length) : num (val4 b) = b.take 4 := by
 obtain ⟨g0, g1⟩ := val4_nonneg h hl
 rw [num_in g0 g1]
 match b, hl with
 | x0 :: x1 :: x2 :: x3 :: r, _ =>
  have h0 := h x0 (by simp)
  have h1 := h x1 (by simp)
  have h2 := h x2 (by simp)
  have h3 := h x3 (by simp)
  simp [val4, rd]
  omega
end Go.Proofs.Ytfbkljpfopiegaa.Pl
