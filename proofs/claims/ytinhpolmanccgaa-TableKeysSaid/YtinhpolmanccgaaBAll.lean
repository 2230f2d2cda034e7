/- The plain laws, and what the printed functions answer, in one text. -/
import Derived.Test.YtinhpolmanccgaaWMore
import Derived.Laws.BitsLemmas
import Derived.Lib.Strings
import Derived.Test.YtinhpolmanccgaaXx3
import Derived.Test.YtinhpolmanccgaaXx11
import Derived.Test.YtinhpolmanccgaaXx4
import Derived.Test.YtinhpolmanccgaaXx6
import Derived.Test.YtinhpolmanccgaaXx7
import Derived.Test.YtinhpolmanccgaaWOwn
import Derived.Test.YtinhpolmanccgaaXx8
import Derived.Test.YtinhpolmanccgaaXx5
import Derived.KernelRfl
import Derived.Test.YtinhpolmanccgaaXx9
import Derived.Test.YtinhpolmanccgaaXx13
import Derived.Test.YtinhpolmanccgaaXx14
import Derived.Test.YtinhpolmanccgaaXx15
import Derived.Test.YtinhpolmanccgaaXx12
/- Plain laws of numbers, texts and lists as bytes: no program in sight. -/
namespace Go.Proofs.Ytinhpolmanccgaa.Pl
open Go.RowKit Go.Proofs.YtinhpolmanccgaaW.PrintWords Go.Proofs.YtinhpolmanccgaaW.PrintMore

def Bytes (l : List Int) : Prop := ∀ x ∈ l, 0 ≤ x ∧ x < 256
theorem Bytes.nil : Bytes [] := fun _ h => by cases h
theorem Bytes.append {a b : List Int} (ha : Bytes a) (hb : Bytes b) : Bytes (a ++ b) := fun x hx => (List.mem_append.1 hx).elim (ha x) (hb x)
theorem Bytes.take {a : List Int} (ha : Bytes a) (n : Nat) : Bytes (a.take n) := fun x hx => ha x (List.mem_of_mem_take hx)
theorem Bytes.drop {a : List Int} (ha : Bytes a) (n : Nat) : Bytes (a.drop n) := fun x hx => ha x (List.mem_of_mem_drop hx)
theorem Bytes.cons {x : Int} {l : List Int} (h0 : 0 ≤ x) (h1 : x < 256) (h : Bytes l) : Bytes (x :: l) := fun y hy => (List.mem_cons.1 hy).elim (fun e => e ▸ ⟨h0, h1⟩) (h y)
theorem bytes_bytesOf (s : ByteArray) : Bytes (bytesOf s) := by
 intro x hx
 obtain ⟨b, _, rfl⟩ := List.mem_map.1 hx
 have := b.toNat_lt
 omega
theorem strOf_bytesOf (s : ByteArray) : strOfNums (bytesOf s) = s := by
 have h : ((bytesOf s).map fun n => UInt8.ofNat n.toNat) = s.data.toList := by
  rw [bytesOf, List.map_map]
  conv => rhs; rw [← List.map_id s.data.toList]
  refine List.map_congr_left fun b _ => ?_
  simp
 unfold strOfNums
 rw [h]
theorem toList_inj {a b : ByteArray} (h : a.toList = b.toList) : a = b := by
 rw [ByteArray.toList_eq, ByteArray.toList_eq] at h
 obtain ⟨⟨a⟩⟩ := a
 obtain ⟨⟨b⟩⟩ := b
 simp at h
 rw [h]
theorem strOf_size (l : List Int) : (strOfNums l).size = l.length := by simp [strOfNums, ByteArray.size]
theorem bytesOf_size (s : ByteArray) : (bytesOf s).length = s.size := bytesOf_length s
theorem size_zero_iff (s : ByteArray) : s.size = 0 ↔ s = ⟨#[]⟩ := by
 constructor
 ·
  intro h
  obtain ⟨a⟩ := s
  have : a.size = 0 := h
  rw [Array.eq_empty_of_size_eq_zero this]
 ·
  rintro rfl; rfl
theorem w64 {x : Int} (h0 : -9223372036854775808 ≤ x) (h1 : x < 9223372036854775808) : wrap64 x = x := by unfold wrap64; omega

theorem _root_.Go.Proofs.YtinhpolmanccgaaW.PrintWords.Ev.pos {α : Type} {c : Prop} [Decidable c] {f g : Nat → Option α} {r : α} (hc : c) (h : Ev f r) : Ev (fun k => if c then f k else g k) r := by
 simpa only [if_pos hc] using h
theorem _root_.Go.Proofs.YtinhpolmanccgaaW.PrintWords.Ev.neg {α : Type} {c : Prop} [Decidable c] {f g : Nat → Option α} {r : α} (hc : ¬ c) (h : Ev g r) : Ev (fun k => if c then f k else g k) r := by
 simpa only [if_neg hc] using h
theorem _root_.Go.Proofs.YtinhpolmanccgaaW.PrintWords.Ev.eq {α : Type} {x : Option α} {r : α} (h : x = some r) : Ev (fun _ => x) r := by rw [h]; exact Ev.now r
theorem _root_.Go.Proofs.YtinhpolmanccgaaW.PrintWords.Ev.to {α : Type} {g : Nat → Option α} {r r' : α} (h : Ev g r) (e : r = r') : Ev g r' := e ▸ h

theorem four_form {α : Type} {b : List α} (h : 4 ≤ b.length) : ∃ x0 x1 x2 x3 r, b = x0 :: x1 :: x2 :: x3 :: r := by
 match b, h with
 | x0 :: x1 :: x2 :: x3 :: r, _ => exact ⟨x0, x1, x2, x3, r, rfl⟩
def num (n : Int) : List Int := if n < 0 then [] else if n > 4294967295 then [] else [n / 16777216 % 256, n / 65536 % 256, n / 256 % 256, n % 256]
def text (s : ByteArray) : List Int := num s.size ++ bytesOf s
def texts (l : List ByteArray) : List Int := num l.length ++ (l.map text).flatten
def val4 (b : List Int) : Int := 16777216 * rd b 0 + 65536 * rd b 1 + 256 * rd b 2 + rd b 3
def cutNum (b : List Int) : Int × List Int × Bool := if b.length < 4 then (0, [], false) else (val4 b, b.drop 4, true)
def cutText (b : List Int) : ByteArray × List Int × Bool :=
 if b.length < 4 then (⟨#[]⟩, [], false) else if val4 b > ((b.length - 4 : Nat) : Int) then (⟨#[]⟩, [], false) else (strOfNums ((b.drop 4).take (val4 b).toNat), (b.drop 4).drop (val4 b).toNat, true)
theorem num_in {n : Int} (h0 : 0 ≤ n) (h1 : n ≤ 4294967295) : num n = [n / 16777216 % 256, n / 65536 % 256, n / 256 % 256, n % 256] := by
 unfold num
 rw [if_neg (by omega), if_neg (by omega)]
theorem num_length {n : Int} (h0 : 0 ≤ n) (h1 : n ≤ 4294967295) : (num n).length = 4 := by rw [num_in h0 h1]; rfl
theorem num_length_le (n : Int) : (num n).length ≤ 4 := by
 unfold num
 split
 ·
  simp
 ·
  split <;> simp
theorem bytes_num (n : Int) : Bytes (num n) := by
 unfold num
 split
 ·
  exact Bytes.nil
 ·
  split
  ·
   exact Bytes.nil
  ·
   refine Bytes.cons ?_ ?_ (Bytes.cons ?_ ?_ (Bytes.cons ?_ ?_ (Bytes.cons ?_ ?_ Bytes.nil))) <;> omega
theorem val4_num {n : Int} (h0 : 0 ≤ n) (h1 : n ≤ 4294967295) (r : List Int) : val4 (num n ++ r) = n := by
 rw [num_in h0 h1]
 simp [val4, rd]
 omega
theorem val4_nonneg {b : List Int} (h : Bytes b) (hl : 4 ≤ b.length) : 0 ≤ val4 b ∧ val4 b ≤ 4294967295 := by
 match b, hl with
 | x0 :: x1 :: x2 :: x3 :: r, _ =>
  have h0 := h x0 (by simp)
  have h1 := h x1 (by simp)
  have h2 := h x2 (by simp)
  have h3 := h x3 (by simp)
  simp [val4, rd]
  omega
theorem num_val4 {b : List Int} (h : Bytes b) (hl : 4 ≤ b.length) : num (val4 b) = b.take 4 := by
 obtain ⟨g0, g1⟩ := val4_nonneg h hl
 rw [num_in g0 g1]
 match b, hl with
 | x0 :: x1 :: x2 :: x3 :: r, _ =>
  have h0 := h x0 (by simp)
  have h1 := h x1 (by simp)
  have h2 := h x2 (by simp)
  have h3 := h x3 (by simp)
  simp [val4, rd]
  omega
theorem text_length {s : ByteArray} (h : s.size ≤ 4294967295) : (text s).length = 4 + s.size := by
 unfold text
 rw [List.length_append, num_length (by omega) (by omega), bytesOf_length]
theorem text_length_le (s : ByteArray) : (text s).length ≤ 4 + s.size := by
 unfold text
 rw [List.length_append, bytesOf_length]
 have := num_length_le s.size
 omega
theorem bytes_text (s : ByteArray) : Bytes (text s) := (bytes_num _).append (bytes_bytesOf s)
theorem cutNum_num {n : Int} (h0 : 0 ≤ n) (h1 : n ≤ 4294967295) (r : List Int) : cutNum (num n ++ r) = (n, r, true) := by
 unfold cutNum
 rw [if_neg (by rw [List.length_append, num_length h0 h1]; omega), val4_num h0 h1]
 congr 2
 rw [← num_length h0 h1, List.drop_left]
theorem cutText_text {s : ByteArray} (h : s.size ≤ 4294967295) (r : List Int) : cutText (text s ++ r) = (s, r, true) := by
 have hl := text_length h
 have hv : val4 (text s ++ r) = s.size := by rw [text, List.append_assoc, val4_num (by omega) (by omega)]
 have hd : (text s ++ r).drop 4 = bytesOf s ++ r := by
  rw [text, List.append_assoc, ← num_length (n := (s.size : Int)) (by omega) (by omega), List.drop_left]
 unfold cutText
 rw [if_neg (by rw [List.length_append]; omega), hv, hd, if_neg (by rw [List.length_append]; omega)]
 have h2 : ((s.size : Int)).toNat = (bytesOf s).length := by rw [bytesOf_length]; rfl
 rw [h2, List.take_left, List.drop_left, strOf_bytesOf]
theorem cutText_rest_bytes {b : List Int} (hb : Bytes b) : Bytes (cutText b).2.1 := by
 unfold cutText
 split
 ·
  exact Bytes.nil
 ·
  split
  ·
   exact Bytes.nil
  ·
   exact (hb.drop 4).drop _
end Go.Proofs.Ytinhpolmanccgaa.Pl
/- Plain laws of the order of cells: no program in sight. -/
namespace Go.Proofs.Ytinhpolmanccgaa.Pl
open Go.RowKit Go.Proofs.YtinhpolmanccgaaW.PrintWords Go.Proofs.YtinhpolmanccgaaW.PrintMore
def cmpB : List UInt8 → List UInt8 → Int
 | [], [] => 0
 | [], _ :: _ => -1
 | _ :: _, [] => 1
 | x :: a, y :: b => if x < y then -1 else if y < x then 1 else cmpB a b
theorem u8_asymm {x y : UInt8} (h : x < y) : ¬ y < x := fun h2 => absurd (UInt8.lt_trans h h2) (UInt8.lt_irrefl x)
theorem u8_eq {x y : UInt8} (h : ¬ x < y) (h2 : ¬ y < x) : x = y := UInt8.le_antisymm (UInt8.not_lt.1 h2) (UInt8.not_lt.1 h)
theorem cmpB_less : ∀ a b : List UInt8, cmpB a b = if Op.bytesLess a b = true then -1 else if Op.bytesLess b a = true then 1 else 0
 | [], [] => rfl
 | [], _ :: _ => rfl
 | _ :: _, [] => rfl
 | x :: a, y :: b => by
  have ih := cmpB_less a b
  by_cases h1 : x < y
  ·
   simp [cmpB, Op.bytesLess, h1]
  ·
   by_cases h2 : y < x
   ·
    have h3 : ¬ x = y := fun h => by rw [h] at h2; exact UInt8.lt_irrefl y h2
    simp [cmpB, Op.bytesLess, h1, h2, h3]
   ·
    have h3 := u8_eq h1 h2
    subst h3
    simp only [cmpB, Op.bytesLess, h1, decide_false, Bool.false_or, beq_self_eq_true, Bool.true_and]
    exact ih
theorem cmpB_in : ∀ a b : List UInt8, cmpB a b = -1 ∨ cmpB a b = 0 ∨ cmpB a b = 1
 | [], [] => .inr (.inl rfl)
 | [], _ :: _ => .inl rfl
 | _ :: _, [] => .inr (.inr rfl)
 | x :: a, y :: b => by
  unfold cmpB
  split
  ·
   exact .inl rfl
  ·
   split
   ·
    exact .inr (.inr rfl)
   ·
    exact cmpB_in a b
theorem cmpB_zero : ∀ {a b : List UInt8}, cmpB a b = 0 ↔ a = b
 | [], [] => by simp [cmpB]
 | [], _ :: _ => by simp [cmpB]
 | _ :: _, [] => by simp [cmpB]
 | x :: a, y :: b => by
  have ih := cmpB_zero (a := a) (b := b)
  unfold cmpB
  by_cases h1 : x < y
  ·
   rw [if_pos h1]
   have h3 : ¬ x = y := fun h => by rw [h] at h1; exact UInt8.lt_irrefl y h1
   simp [h3]
  ·
   rw [if_neg h1]
   by_cases h2 : y < x
   ·
    rw [if_pos h2]
    have h3 : ¬ x = y := fun h => by rw [h] at h2; exact UInt8.lt_irrefl y h2
    simp [h3]
   ·
    rw [if_neg h2, u8_eq h1 h2, ih]
    simp
theorem cmpB_neg : ∀ a b : List UInt8, cmpB b a = - cmpB a b
 | [], [] => rfl
 | [], _ :: _ => rfl
 | _ :: _, [] => rfl
 | x :: a, y :: b => by
  have ih := cmpB_neg a b
  unfold cmpB
  by_cases h1 : x < y
  ·
   simp [h1, u8_asymm h1]
  ·
   by_cases h2 : y < x
   ·
    simp [h1, h2]
   ·
    simp only [h1, h2, if_false]
    exact ih
theorem cmpB_trans : ∀ {a b c : List UInt8}, cmpB a b = -1 → cmpB b c = -1 → cmpB a c = -1
 | [], [], _, h, _ => by simp [cmpB] at h
 | _ :: _, [], _, h, _ => by simp [cmpB] at h
 | [], _ :: _, [], _, h => by simp [cmpB] at h
 | [], _ :: _, _ :: _, _, _ => rfl
 | _ :: _, _ :: _, [], _, h => by simp [cmpB] at h
 | x :: a, y :: b, z :: c, h, h' => by
  unfold cmpB at h h' ⊢
  by_cases h1 : x < y
  ·
   by_cases h2 : y < z
   ·
    rw [if_pos (UInt8.lt_trans h1 h2)]
   ·
    rw [if_neg h2] at h'
    by_cases h3 : z < y
    ·
     rw [if_pos h3] at h'; simp at h'
    ·
     rw [← u8_eq h2 h3, if_pos h1]
  ·
   rw [if_neg h1] at h
   by_cases h2 : y < x
   ·
    rw [if_pos h2] at h; simp at h
   ·
    rw [if_neg h2] at h
    have e := u8_eq h1 h2
    subst e
    by_cases h3 : x < z
    ·
     rw [if_pos h3]
    ·
     rw [if_neg h3] at h' ⊢
     by_cases h4 : z < x
     ·
      rw [if_pos h4] at h'; simp at h'
     ·
      rw [if_neg h4] at h' ⊢
      exact cmpB_trans h h'
def cmpT (a b : ByteArray) : Int := cmpB a.toList b.toList
def cmpN (a b : Int) : Int := if a < b then -1 else if b < a then 1 else 0
theorem cmpT_zero {a b : ByteArray} : cmpT a b = 0 ↔ a = b := ⟨fun h => toList_inj (cmpB_zero.1 h), fun h => cmpB_zero.2 (by rw [h])⟩
theorem cmpT_in (a b : ByteArray) : cmpT a b = -1 ∨ cmpT a b = 0 ∨ cmpT a b = 1 := cmpB_in _ _
theorem cmpN_in (a b : Int) : cmpN a b = -1 ∨ cmpN a b = 0 ∨ cmpN a b = 1 := by
 unfold cmpN
 split
 ·
  exact .inl rfl
 ·
  split
  ·
   exact .inr (.inr rfl)
  ·
   exact .inr (.inl rfl)
theorem cmpN_zero {a b : Int} : cmpN a b = 0 ↔ a = b := by
 unfold cmpN
 split
 ·
  omega
 ·
  split <;> omega
theorem cmpN_neg (a b : Int) : cmpN b a = - cmpN a b := by unfold cmpN; split <;> split <;> first | omega | (split <;> omega)
def cmpC (r c : ByteArray) (t : Int) (r' c' : ByteArray) (t' : Int) : Int := if cmpT r r' = 0 then (if cmpT c c' = 0 then cmpN t' t else cmpT c c') else cmpT r r'
theorem cmpC_in (r c t r' c' t') : cmpC r c t r' c' t' = -1 ∨ cmpC r c t r' c' t' = 0 ∨ cmpC r c t r' c' t' = 1 := by
 unfold cmpC
 split
 ·
  split
  ·
   exact cmpN_in _ _
  ·
   exact cmpT_in _ _
 ·
  exact cmpT_in _ _
theorem cmpC_neg (r c t r' c' t') : cmpC r' c' t' r c t = - cmpC r c t r' c' t' := by
 have h1 : cmpT r' r = - cmpT r r' := cmpB_neg _ _
 have h2 : cmpT c' c = - cmpT c c' := cmpB_neg _ _
 have h3 := cmpN_neg t' t
 unfold cmpC
 rw [h1, h2, h3]
 by_cases e1 : cmpT r r' = 0
 ·
  rw [if_pos e1, if_pos (by omega)]
  by_cases e2 : cmpT c c' = 0
  ·
   rw [if_pos e2, if_pos (by omega)]
  ·
   rw [if_neg e2, if_neg (by omega)]
 ·
  rw [if_neg e1, if_neg (by omega)]
theorem cmpC_zero {r c t r' c' t'} : cmpC r c t r' c' t' = 0 ↔ r = r' ∧ c = c' ∧ t = t' := by
 unfold cmpC
 by_cases e1 : cmpT r r' = 0
 ·
  rw [if_pos e1]
  by_cases e2 : cmpT c c' = 0
  ·
   rw [if_pos e2, cmpN_zero]
   exact ⟨fun h => ⟨cmpT_zero.1 e1, cmpT_zero.1 e2, h.symm⟩, fun h => h.2.2.symm⟩
  ·
   rw [if_neg e2]
   exact ⟨fun h => absurd h e2, fun h => absurd (cmpT_zero.2 h.2.1) e2⟩
 ·
  rw [if_neg e1]
  exact ⟨fun h => absurd h e1, fun h => absurd (cmpT_zero.2 h.1) e1⟩
theorem cmpC_trans {r c t r' c' t' r'' c'' t''} (h : cmpC r c t r' c' t' = -1) (h' : cmpC r' c' t' r'' c'' t'' = -1) : cmpC r c t r'' c'' t'' = -1 := by
 unfold cmpC at h h' ⊢
 by_cases e1 : cmpT r r' = 0
 ·
  rw [if_pos e1] at h
  have := cmpT_zero.1 e1
  subst this
  by_cases e2 : cmpT r r'' = 0
  ·
   rw [if_pos e2] at h' ⊢
   by_cases e3 : cmpT c c' = 0
   ·
    rw [if_pos e3] at h
    have := cmpT_zero.1 e3
    subst this
    by_cases e4 : cmpT c c'' = 0
    ·
     rw [if_pos e4] at h' ⊢
     unfold cmpN at h h' ⊢
     split at h <;> split at h' <;> first | (simp at h; done) | (rw [if_pos (by omega)]) | (split at h <;> simp at h; done) | (split at h' <;> simp at h')
    ·
     rw [if_neg e4] at h' ⊢
     exact h'
   ·
    rw [if_neg e3] at h
    by_cases e4 : cmpT c' c'' = 0
    ·
     have := cmpT_zero.1 e4
     subst this
     rw [if_neg e3]
     exact h
    ·
     rw [if_neg e4] at h'
     have h5 : cmpT c c'' = -1 := cmpB_trans h h'
     rw [if_neg (by omega)]
     exact h5
  ·
   rw [if_neg e2] at h' ⊢
   exact h'
 ·
  rw [if_neg e1] at h
  by_cases e2 : cmpT r' r'' = 0
  ·
   have := cmpT_zero.1 e2
   subst this
   rw [if_neg e1]
   exact h
  ·
   rw [if_neg e2] at h'
   have h5 : cmpT r r'' = -1 := cmpB_trans h h'
   rw [if_neg (by omega)]
   exact h5
end Go.Proofs.Ytinhpolmanccgaa.Pl
/- A cell as it may be: no program in sight. -/
namespace Go.Proofs.Ytinhpolmanccgaa.Pl
open Go.RowKit Go.Proofs.YtinhpolmanccgaaW.PrintWords Go.Proofs.YtinhpolmanccgaaW.PrintMore
def cellRight (r c : ByteArray) (t : Int) (v : ByteArray) (g : Bool) : Bool := decide (1 ≤ r.size ∧ r.size ≤ 64 ∧ 1 ≤ c.size ∧ c.size ≤ 64 ∧ 0 ≤ t ∧ t ≤ 4294967295 ∧ v.size ≤ 256 ∧ (g = false ∨ v.size = 0))
theorem cellRight_iff {r c : ByteArray} {t : Int} {v : ByteArray} {g : Bool} : cellRight r c t v g = true ↔ 1 ≤ r.size ∧ r.size ≤ 64 ∧ 1 ≤ c.size ∧ c.size ≤ 64 ∧ 0 ≤ t ∧ t ≤ 4294967295 ∧ v.size ≤ 256 ∧ (g = false ∨ v.size = 0) := by unfold cellRight; exact decide_eq_true_iff
theorem toList_nil {v : ByteArray} : (v.toList == ([] : List UInt8)) = decide (v.size = 0) := by
 rw [Bool.eq_iff_iff, beq_iff_eq, decide_eq_true_iff, size_zero_iff]
 constructor
 ·
  intro h
  exact toList_inj (h.trans (by simp [ByteArray.toList_eq]))
 ·
  rintro rfl
  simp [ByteArray.toList_eq]
theorem some_bool {c d : Bool} (h : c = true ↔ d = true) : some c = some d := by rw [Option.some.injEq, Bool.eq_iff_iff, h]
end Go.Proofs.Ytinhpolmanccgaa.Pl
/- Whether a cell is right: the printed function answers the plain one. -/
namespace Go.Proofs.Ytinhpolmanccgaa.Pl
open Go.RowKit Go.Proofs.Ytinhpolmanccgaa.X Go.Proofs.YtinhpolmanccgaaW.PrintWords Go.Proofs.YtinhpolmanccgaaW.PrintLast Go.Proofs.YtinhpolmanccgaaW.PrintMore
theorem cell_name_eq (s : ByteArray) : cell_name.f s = some (decide (1 ≤ s.size ∧ s.size ≤ 64)) := by
 unfold cell_name.f
 by_cases h : s.size ≥ 1
 ·
  rw [if_pos (by omega)]
  congr 1
  rw [decide_eq_decide]
  omega
 ·
  rw [if_neg (by omega)]
  congr 1
  symm
  rw [decide_eq_false_iff_not]
  omega
theorem cell_Right_eq (r c : ByteArray) (t : Int) (v : ByteArray) (g : Bool) : cell_Right.f r c t v g = some (cellRight r c t v g) := by
 unfold cell_Right.f
 simp only [cell_name_eq, Option.bind_some, decide_eq_true_eq, toList_nil]
 split
 ·
  split
  ·
   split
   ·
    split
    ·
     split
     ·
      split
      ·
       exact some_bool (by rename_i h; rw [cellRight_iff, decide_eq_true_iff]; exact ⟨fun hz => ⟨by omega, by omega, by omega, by omega, by omega, by omega, by omega, .inr hz⟩, fun hh => hh.2.2.2.2.2.2.2.elim (fun e => by rw [h] at e; cases e) id⟩)
      ·
       exact some_bool (by rename_i h; rw [cellRight_iff]; exact ⟨fun _ => ⟨by omega, by omega, by omega, by omega, by omega, by omega, by omega, .inl (by simpa using h)⟩, fun _ => rfl⟩)
     ·
      exact some_bool (by rw [cellRight_iff]; simp only [Bool.false_eq_true, false_iff]; omega)
    ·
     exact some_bool (by rw [cellRight_iff]; simp only [Bool.false_eq_true, false_iff]; omega)
   ·
    exact some_bool (by rw [cellRight_iff]; simp only [Bool.false_eq_true, false_iff]; omega)
  ·
   exact some_bool (by rw [cellRight_iff]; simp only [Bool.false_eq_true, false_iff]; omega)
 ·
  exact some_bool (by rw [cellRight_iff]; simp only [Bool.false_eq_true, false_iff]; omega)
end Go.Proofs.Ytinhpolmanccgaa.Pl
/- The printed order of cells answers the plain one. -/
namespace Go.Proofs.Ytinhpolmanccgaa.Pl
open Go.RowKit Go.Proofs.Ytinhpolmanccgaa.X Go.Proofs.YtinhpolmanccgaaW.PrintWords Go.Proofs.YtinhpolmanccgaaW.PrintLast Go.Proofs.YtinhpolmanccgaaW.PrintMore
theorem cmpString_eq (a b : ByteArray) : cmp_Compare_string.f a b = some (cmpT a b) := by
 unfold cmp_Compare_string.f cmp_isNaN_string.f cmpT
 rw [cmpB_less]
 simp only [Option.bind_some, bne_self_eq_false, Bool.false_eq_true, if_false]
 split
 ·
  rfl
 ·
  split <;> rfl
theorem cmpInt_eq (a b : Int) : cmp_Compare_int.f a b = some (cmpN a b) := by
 unfold cmp_Compare_int.f cmp_isNaN_int.f cmpN
 simp only [Option.bind_some, bne_self_eq_false, Bool.false_eq_true, if_false]
 split
 ·
  rfl
 ·
  split <;> rfl
theorem cmpOr_ev (a b c : Int) : Ev (fun k => cmp_Or_int.f k [a, b, c]) (if a = 0 then (if b = 0 then c else b) else a) := by
 unfold cmp_Or_int.f
 have hl : (([a, b, c] : List Int).length : Int) = 3 := rfl
 rw [hl]
 by_cases ha : a = 0
 ·
  rw [if_pos ha]
  refine Ev.step (f := fun k => cmp_Or_int.l0 k 0 [a, b, c] 3 1) (fun k => ?_) ?_
  ·
   simp only [cmp_Or_int.l0, hl]
   rw [if_pos (by omega), if_pos (by omega), if_pos (by omega), show rd [a, b, c] 0 = a from rfl, if_pos ha, w64 (by omega) (by omega)]
   rfl
  by_cases hb : b = 0
  ·
   rw [if_pos hb]
   refine Ev.step (f := fun k => cmp_Or_int.l0 k 0 [a, b, c] 3 2) (fun k => ?_) ?_
   ·
    simp only [cmp_Or_int.l0, hl]
    rw [if_pos (by omega), if_pos (by omega), if_pos (by omega), show rd [a, b, c] 1 = b from rfl, if_pos hb, w64 (by omega) (by omega)]
    rfl
   by_cases hc : c = 0
   ·
    refine Ev.step (f := fun k => cmp_Or_int.l0 k 0 [a, b, c] 3 3) (fun k => ?_) ?_
    ·
     simp only [cmp_Or_int.l0, hl]
     rw [if_pos (by omega), if_pos (by omega), if_pos (by omega), show rd [a, b, c] 2 = c from rfl, if_pos hc, w64 (by omega) (by omega)]
     rfl
    refine Ev.step (f := fun _ => some 0) (fun k => ?_) ((Ev.now 0).to hc.symm)
    simp only [cmp_Or_int.l0]
    rw [if_neg (by omega)]
   ·
    refine Ev.step (f := fun _ => some c) (fun k => ?_) (Ev.now _)
    simp only [cmp_Or_int.l0, hl]
    rw [if_pos (by omega), if_pos (by omega), if_pos (by omega), show rd [a, b, c] 2 = c from rfl, if_neg hc]
  ·
   rw [if_neg hb]
   refine Ev.step (f := fun _ => some b) (fun k => ?_) (Ev.now _)
   simp only [cmp_Or_int.l0, hl]
   rw [if_pos (by omega), if_pos (by omega), if_pos (by omega), show rd [a, b, c] 1 = b from rfl, if_neg hb]
 ·
  rw [if_neg ha]
  refine Ev.step (f := fun _ => some a) (fun k => ?_) (Ev.now _)
  simp only [cmp_Or_int.l0, hl]
  rw [if_pos (by omega), if_pos (by omega), if_pos (by omega), show rd [a, b, c] 0 = a from rfl, if_neg ha]
theorem cell_Compare_ev (r c : ByteArray) (t : Int) (v : ByteArray) (g : Bool) (r' c' : ByteArray) (t' : Int) (v' : ByteArray) (g' : Bool) : Ev (fun k => cell_Compare.f k r c t v g r' c' t' v' g') (cmpC r c t r' c' t') := by
 unfold cell_Compare.f
 simp only [cmpString_eq, cmpInt_eq, Option.bind_some]
 exact Ev.bind (cmpOr_ev _ _ _) (Ev.now _)
end Go.Proofs.Ytinhpolmanccgaa.Pl
/- Plain laws of lists of cells: put in order, sorted. -/
namespace Go.Proofs.Ytinhpolmanccgaa.Pl
open Go.RowKit Go.Proofs.Ytinhpolmanccgaa.X Go.Proofs.YtinhpolmanccgaaW.PrintWords Go.Proofs.YtinhpolmanccgaaW.PrintLast Go.Proofs.YtinhpolmanccgaaW.PrintMore
abbrev Cell := S42
abbrev rdC (xs : List Cell) (i : Int) : Cell := rd_T42 xs i
theorem rdC_at (l : List Cell) (i : Nat) (h : i < l.length) : rdC l (i : Int) = l[i] := by
 show l.getD (i : Int).toNat _ = _
 rw [Int.toNat_natCast, List.getD_eq_getElem?_getD, List.getElem?_eq_getElem h]
 rfl
def cc (a b : Cell) : Int := cmpC a.f0 a.f1 a.f2 b.f0 b.f1 b.f2
def rightC (a : Cell) : Bool := cellRight a.f0 a.f1 a.f2 a.f3 a.f4
theorem cc_in (a b : Cell) : cc a b = -1 ∨ cc a b = 0 ∨ cc a b = 1 := cmpC_in _ _ _ _ _ _
theorem cc_neg (a b : Cell) : cc b a = - cc a b := cmpC_neg _ _ _ _ _ _
theorem cc_zero {a b : Cell} : cc a b = 0 ↔ a.f0 = b.f0 ∧ a.f1 = b.f1 ∧ a.f2 = b.f2 := cmpC_zero
theorem cc_trans {a b c : Cell} (h : cc a b = -1) (h' : cc b c = -1) : cc a c = -1 := cmpC_trans h h'
theorem cc_left {a b : Cell} (h : cc a b = 0) (c : Cell) : cc a c = cc b c := by
 obtain ⟨h1, h2, h3⟩ := cc_zero.1 h
 unfold cc
 rw [h1, h2, h3]
theorem cc_gt {a b : Cell} (h1 : ¬ cc a b = -1) (h2 : ¬ cc a b = 0) : cc b a = -1 := by
 have := cc_in a b
 have := cc_neg a b
 omega
def ins (c : Cell) : List Cell → List Cell
 | [] => [c]
 | x :: l => if cc x c = -1 then x :: ins c l else if cc x c = 0 then c :: l else c :: x :: l
def sortC (l : List Cell) : List Cell := l.foldl (fun o c => ins c o) []
def OrdC (l : List Cell) : Prop := l.Pairwise (fun a b => cc a b = -1)
def RightsC (l : List Cell) : Prop := ∀ c ∈ l, rightC c = true
def SrtC (l : List Cell) : Prop := RightsC l ∧ OrdC l
theorem mem_ins {c x : Cell} : ∀ {l : List Cell}, x ∈ ins c l → x = c ∨ x ∈ l
 | [], h => by simp only [ins, List.mem_singleton] at h; exact .inl h
 | y :: l, h => by
  unfold ins at h
  split at h
  ·
   rcases List.mem_cons.1 h with rfl | h
   ·
    exact .inr (List.mem_cons_self)
   ·
    exact (mem_ins h).imp id (List.mem_cons_of_mem _)
  ·
   split at h
   ·
    rcases List.mem_cons.1 h with rfl | h
    ·
     exact .inl rfl
    ·
     exact .inr (List.mem_cons_of_mem _ h)
   ·
    rcases List.mem_cons.1 h with rfl | h
    ·
     exact .inl rfl
    ·
     exact .inr h
theorem ord_ins {c : Cell} : ∀ {l : List Cell}, OrdC l → OrdC (ins c l)
 | [], _ => by simp [ins, OrdC]
 | y :: l, h => by
  obtain ⟨h1, h2⟩ := List.pairwise_cons.1 h
  unfold ins
  split
  ·
   rename_i hy
   refine List.pairwise_cons.2 ⟨fun z hz => ?_, ord_ins h2⟩
   rcases mem_ins hz with rfl | hz
   ·
    exact hy
   ·
    exact h1 z hz
  ·
   split
   ·
    rename_i h0
    refine List.pairwise_cons.2 ⟨fun z hz => ?_, h2⟩
    rw [← cc_left h0]
    exact h1 z hz
   ·
    rename_i hn h0
    have hg := cc_gt hn h0
    refine List.pairwise_cons.2 ⟨fun z hz => ?_, h⟩
    rcases List.mem_cons.1 hz with rfl | hz
    ·
     exact hg
    ·
     exact cc_trans hg (h1 z hz)
theorem rights_ins {c : Cell} {l : List Cell} (hc : rightC c = true) (h : RightsC l) : RightsC (ins c l) := fun x hx => (mem_ins hx).elim (fun e => e ▸ hc) (h x)
theorem srt_ins {c : Cell} {l : List Cell} (hc : rightC c = true) (h : SrtC l) : SrtC (ins c l) := ⟨rights_ins hc h.1, ord_ins h.2⟩
theorem ins_length (c : Cell) : ∀ l : List Cell, (ins c l).length ≤ l.length + 1
 | [] => by simp [ins]
 | y :: l => by
  have := ins_length c l
  unfold ins
  split
  ·
   simp only [List.length_cons]; omega
  ·
   split <;> simp only [List.length_cons] <;> omega
theorem foldl_srt : ∀ (l o : List Cell), RightsC l → SrtC o → SrtC (l.foldl (fun o c => ins c o) o)
 | [], _, _, h => h
 | c :: l, o, hl, h => foldl_srt l (ins c o) (fun x hx => hl x (List.mem_cons_of_mem _ hx)) (srt_ins (hl c List.mem_cons_self) h)
theorem foldl_length : ∀ (l o : List Cell), (l.foldl (fun o c => ins c o) o).length ≤ o.length + l.length
 | [], o => by simp
 | c :: l, o => by
  have h1 := foldl_length l (ins c o)
  have h2 := ins_length c o
  simp only [List.foldl_cons, List.length_cons]
  omega
theorem srt_nil : SrtC [] := ⟨fun _ hx => (by cases hx), List.Pairwise.nil⟩
theorem sortC_srt {l : List Cell} (h : RightsC l) : SrtC (sortC l) := foldl_srt l [] h srt_nil
theorem sortC_length (l : List Cell) : (sortC l).length ≤ l.length := by
 have := foldl_length l []
 simpa [sortC] using this
theorem ins_split (c : Cell) : ∀ (l : List Cell) (i : Nat), i ≤ l.length → (∀ j (_ : j < i) (hl : j < l.length), cc l[j] c = -1) → (∀ h : i < l.length, ¬ cc l[i] c = -1) →
  ins c l = l.take i ++ c :: (l.drop (if h : i < l.length then (if cc l[i] c = 0 then i + 1 else i) else i))
 | [], i, hi, _, _ => by
  have : i = 0 := by simpa using hi
  subst this
  simp [ins]
 | x :: l, 0, _, _, h2 => by
  have h3 := h2 (by simp)
  simp only [List.getElem_cons_zero] at h3
  unfold ins
  rw [if_neg h3]
  by_cases h0 : cc x c = 0
  ·
   simp [h0]
  ·
   simp [h0]
 | x :: l, i + 1, hi, h1, h2 => by
  have hx := h1 0 (by omega) (by simp)
  simp only [List.getElem_cons_zero] at hx
  unfold ins
  rw [if_pos hx, ins_split c l i (by simpa using hi) (fun j hj hl => by have := h1 (j + 1) (by omega) (by simpa using hl); simpa using this) (fun hl => by have := h2 (by simpa using hl); simpa using this)]
  by_cases hl : i < l.length
  ·
   by_cases h0 : cc l[i] c = 0
   ·
    simp [hl, h0]
   ·
    simp [hl, h0]
  ·
   simp [hl]
theorem rightC_iff {a : Cell} : rightC a = true ↔ 1 ≤ a.f0.size ∧ a.f0.size ≤ 64 ∧ 1 ≤ a.f1.size ∧ a.f1.size ≤ 64 ∧ 0 ≤ a.f2 ∧ a.f2 ≤ 4294967295 ∧ a.f3.size ≤ 256 ∧ (a.f4 = false ∨ a.f3.size = 0) := cellRight_iff
def chkC (l : List Cell) (i : Nat) : Bool := rightC (rdC l i) && (i == 0 || cc (rdC l ((i : Int) - 1)) (rdC l i) == -1)
def sortedFrom (l : List Cell) (i : Nat) : Nat → Bool
 | 0 => true
 | d + 1 => chkC l i && sortedFrom l (i + 1) d
def sortedC (l : List Cell) : Bool := sortedFrom l 0 l.length
theorem sortedFrom_iff (l : List Cell) : ∀ d i, sortedFrom l i d = true ↔ ∀ j, i ≤ j → j < i + d → chkC l j = true
 | 0, i => ⟨fun _ j h1 h2 => by omega, fun _ => rfl⟩
 | d + 1, i => by
  unfold sortedFrom
  rw [Bool.and_eq_true, sortedFrom_iff l d (i + 1)]
  constructor
  ·
   rintro ⟨h1, h2⟩ j h3 h4
   by_cases hj : j = i
   ·
    rw [hj]; exact h1
   ·
    exact h2 j (by omega) (by omega)
  ·
   intro h
   exact ⟨h i (by omega) (by omega), fun j h3 h4 => h j (by omega) (by omega)⟩
theorem ord_of_chain : ∀ (l : List Cell), (∀ i (h : i + 1 < l.length), cc l[i] l[i+1] = -1) → OrdC l
 | [], _ => List.Pairwise.nil
 | [x], _ => by simp [OrdC]
 | x :: y :: l, h => by
  have h1 : cc x y = -1 := by have := h 0 (by simp); simpa using this
  have h2 : OrdC (y :: l) := ord_of_chain (y :: l) (fun i hi => by have := h (i + 1) (by simpa using hi); simpa using this)
  refine List.pairwise_cons.2 ⟨fun z hz => ?_, h2⟩
  rcases List.mem_cons.1 hz with rfl | hz
  ·
   exact h1
  ·
   exact cc_trans h1 ((List.pairwise_cons.1 h2).1 z hz)
theorem sortedC_iff {l : List Cell} : sortedC l = true ↔ SrtC l := by
 unfold sortedC
 rw [sortedFrom_iff]
 constructor
 ·
  intro h
  refine ⟨fun x hx => ?_, ord_of_chain l fun i hi => ?_⟩
  ·
   obtain ⟨i, hi, rfl⟩ := List.getElem_of_mem hx
   have := h i (by omega) (by omega)
   unfold chkC at this
   rw [Bool.and_eq_true, rdC_at _ _ hi] at this
   exact this.1
  ·
   have := h (i + 1) (by omega) (by omega)
   unfold chkC at this
   rw [Bool.and_eq_true, rdC_at _ _ hi, show ((i + 1 : Nat) : Int) - 1 = (i : Int) by omega, rdC_at _ _ (by omega)] at this
   simpa using this.2
 ·
  rintro ⟨h1, h2⟩ j _ hj
  have hj' : j < l.length := by omega
  unfold chkC
  rw [rdC_at _ _ hj', h1 _ (List.getElem_mem hj'), Bool.true_and]
  by_cases h0 : j = 0
  ·
   simp [h0]
  ·
   rw [show (j : Int) - 1 = ((j - 1 : Nat) : Int) by omega, rdC_at _ _ (by omega), List.pairwise_iff_getElem.1 h2 (j - 1) j (by omega) hj' (by omega)]
   simp
end Go.Proofs.Ytinhpolmanccgaa.Pl
/- Whether a cell is right, by the reference. -/
namespace Go.Proofs.Ytinhpolmanccgaa.Pl
open Go.RowKit Go.Proofs.Ytinhpolmanccgaa.X Go.Proofs.YtinhpolmanccgaaW.PrintWords Go.Proofs.YtinhpolmanccgaaW.PrintLast Go.Proofs.YtinhpolmanccgaaW.PrintMore
theorem ref_CRight_eq (r c : ByteArray) (t : Int) (v : ByteArray) (g : Bool) : shardlogref08_Right.f r c t v g = some (cellRight r c t v g) := by
 unfold shardlogref08_Right.f
 simp only [toList_nil]
 split
 ·
  exact some_bool (by rw [cellRight_iff]; simp only [Bool.false_eq_true, false_iff]; omega)
 split
 ·
  exact some_bool (by rw [cellRight_iff]; simp only [Bool.false_eq_true, false_iff]; omega)
 split
 ·
  exact some_bool (by rw [cellRight_iff]; simp only [Bool.false_eq_true, false_iff]; omega)
 split
 ·
  exact some_bool (by rw [cellRight_iff]; simp only [Bool.false_eq_true, false_iff]; omega)
 split
 ·
  exact some_bool (by rw [cellRight_iff]; simp only [Bool.false_eq_true, false_iff]; omega)
 split
 ·
  exact some_bool (by rw [cellRight_iff]; simp only [Bool.false_eq_true, false_iff]; omega)
 split
 ·
  split
  ·
   exact some_bool (by rename_i h; rw [cellRight_iff, decide_eq_true_iff]; exact ⟨fun hz => ⟨by omega, by omega, by omega, by omega, by omega, by omega, by omega, .inr hz⟩, fun hh => hh.2.2.2.2.2.2.2.elim (fun e => by rw [h] at e; cases e) id⟩)
  ·
   exact some_bool (by rename_i h; rw [cellRight_iff]; exact ⟨fun _ => ⟨by omega, by omega, by omega, by omega, by omega, by omega, by omega, .inl (by simpa using h)⟩, fun _ => rfl⟩)
 ·
  exact some_bool (by rw [cellRight_iff]; simp only [Bool.false_eq_true, false_iff]; omega)
end Go.Proofs.Ytinhpolmanccgaa.Pl
/- The reference's order of cells answers the plain one. -/
namespace Go.Proofs.Ytinhpolmanccgaa.Pl
open Go.RowKit Go.Proofs.Ytinhpolmanccgaa.X Go.Proofs.YtinhpolmanccgaaW.PrintWords Go.Proofs.YtinhpolmanccgaaW.PrintLast Go.Proofs.YtinhpolmanccgaaW.PrintMore
theorem len_size (s : ByteArray) : s.toList.length = s.size := by
 rw [ByteArray.toList_eq, Array.length_toList]
 rfl
theorem bt_at (s : ByteArray) (i : Nat) (h : i < s.toList.length) : bt s (i : Int) = ((s.toList[i]).toNat : Int) := by
 have hs : i < s.size := by rw [len_size] at h; exact h
 unfold bt
 rw [dif_pos (by simpa using hs)]
 simp only [Int.toNat_natCast, ByteArray.toList_eq]
 rfl
theorem ref_CText_l0 (a b : ByteArray) (ha : a.size ≤ 140737488355328) (d : Nat) : ∀ i : Nat, i ≤ a.size → i ≤ b.size → a.size - i = d → Ev (fun k => shardlogref08_Text.l0 k a b (i : Int)) (cmpB (a.toList.drop i) (b.toList.drop i)) := by
 have la := len_size a
 have lb := len_size b
 induction d with
 | zero =>
  intro i h1 h2 hd
  rw [List.drop_eq_nil_of_le (show a.toList.length ≤ i by omega)]
  refine Ev.step (f := fun k => shardlogref08_Text.j1 k a b (i : Int) false) (fun k => ?_) ?_
  ·
   simp only [shardlogref08_Text.l0]
   rw [if_neg (by omega)]
  by_cases hl : b.size = i
  ·
   rw [List.drop_eq_nil_of_le (show b.toList.length ≤ i by omega)]
   refine Ev.step (f := fun _ => some 0) (fun k => ?_) (Ev.now _)
   simp only [shardlogref08_Text.j1, Bool.false_eq_true, if_false]
   rw [if_neg (by omega), if_neg (by omega)]
  ·
   rw [List.drop_eq_getElem_cons (by omega)]
   refine Ev.step (f := fun _ => some (-1)) (fun k => ?_) (Ev.now _)
   simp only [shardlogref08_Text.j1, Bool.false_eq_true, if_false]
   rw [if_pos (by omega)]
 | succ d ih =>
  intro i h1 h2 hd
  have hia : i < a.toList.length := by omega
  rw [List.drop_eq_getElem_cons hia]
  by_cases hl : b.size = i
  ·
   rw [List.drop_eq_nil_of_le (show b.toList.length ≤ i by omega)]
   refine Ev.step (f := fun k => shardlogref08_Text.j1 k a b (i : Int) false) (fun k => ?_) ?_
   ·
    simp only [shardlogref08_Text.l0]
    rw [if_pos (by omega), decide_eq_false (by omega)]
   refine Ev.step (f := fun _ => some 1) (fun k => ?_) (Ev.now _)
   simp only [shardlogref08_Text.j1, Bool.false_eq_true, if_false]
   rw [if_neg (by omega), if_pos (by omega)]
  ·
   have hib : i < b.toList.length := by omega
   rw [List.drop_eq_getElem_cons hib]
   refine Ev.step (f := fun k => shardlogref08_Text.j1 k a b (i : Int) true) (fun k => ?_) ?_
   ·
    simp only [shardlogref08_Text.l0]
    rw [if_pos (by omega), decide_eq_true (by omega)]
   have ba := bt_at a i hia
   have bb := bt_at b i hib
   unfold cmpB
   by_cases c1 : a.toList[i] < b.toList[i]
   ·
    rw [if_pos c1]
    have := UInt8.lt_iff_toNat_lt.1 c1
    refine Ev.step (f := fun _ => some (-1)) (fun k => ?_) (Ev.now _)
    simp only [shardlogref08_Text.j1, if_true]
    rw [if_pos (by omega), if_pos (by omega), if_pos (by omega), if_pos (by omega)]
   ·
    rw [if_neg c1]
    have n1 : ¬ (a.toList[i]).toNat < (b.toList[i]).toNat := fun h => c1 (UInt8.lt_iff_toNat_lt.2 h)
    by_cases c2 : b.toList[i] < a.toList[i]
    ·
     rw [if_pos c2]
     have := UInt8.lt_iff_toNat_lt.1 c2
     refine Ev.step (f := fun _ => some 1) (fun k => ?_) (Ev.now _)
     simp only [shardlogref08_Text.j1, if_true]
     rw [if_pos (by omega), if_pos (by omega), if_pos (by omega), if_neg (by omega), if_pos (by omega)]
    ·
     rw [if_neg c2]
     have n2 : ¬ (b.toList[i]).toNat < (a.toList[i]).toNat := fun h => c2 (UInt8.lt_iff_toNat_lt.2 h)
     refine Ev.step (f := fun k => shardlogref08_Text.l0 k a b ((i + 1 : Nat) : Int)) (fun k => ?_) (ih (i + 1) (by omega) (by omega) (by omega))
     simp only [shardlogref08_Text.j1, if_true]
     rw [if_pos (by omega), if_pos (by omega), if_pos (by omega), if_neg (by omega), if_neg (by omega), w64 (by omega) (by omega)]
     rfl
theorem ref_CText_ev {a b : ByteArray} (ha : a.size ≤ 140737488355328) : Ev (fun k => shardlogref08_Text.f k a b) (cmpT a b) := by
 unfold shardlogref08_Text.f
 have := ref_CText_l0 a b ha a.size 0 (by omega) (by omega) (by omega)
 exact this
theorem ref_CCompare_ev {r c : ByteArray} {t : Int} {v : ByteArray} {g : Bool} {r' c' : ByteArray} {t' : Int} {v' : ByteArray} {g' : Bool} (h1 : r.size ≤ 140737488355328) (h2 : c.size ≤ 140737488355328) : Ev (fun k => shardlogref08_Compare.f k r c t v g r' c' t' v' g') (cmpC r c t r' c' t') := by
 unfold shardlogref08_Compare.f cmpC
 by_cases e1 : r.toList = r'.toList
 ·
  have z1 : cmpT r r' = 0 := cmpB_zero.2 e1
  rw [if_pos z1]
  refine Ev.pos e1 ?_
  by_cases e2 : c.toList = c'.toList
  ·
   have z2 : cmpT c c' = 0 := cmpB_zero.2 e2
   rw [if_pos z2]
   refine Ev.pos e2 ?_
   unfold cmpN
   by_cases k1 : t' < t
   ·
    simp only [gt_iff_lt, k1, if_true]
    exact Ev.now _
   ·
    by_cases k2 : t < t'
    ·
     simp only [gt_iff_lt, k1, k2, if_true, if_false]
     exact Ev.now _
    ·
     simp only [gt_iff_lt, k1, k2, if_false]
     exact Ev.now _
  ·
   have z2 : ¬ cmpT c c' = 0 := fun h => e2 (cmpB_zero.1 h)
   rw [if_neg z2]
   exact Ev.neg e2 (Ev.bind (ref_CText_ev h2) (Ev.now _))
 ·
  have z1 : ¬ cmpT r r' = 0 := fun h => e1 (cmpB_zero.1 h)
  rw [if_neg z1]
  exact Ev.neg e1 (Ev.bind (ref_CText_ev h1) (Ev.now _))
end Go.Proofs.Ytinhpolmanccgaa.Pl
/- One cell against another: the printed functions answer the plain ones. -/
namespace Go.Proofs.Ytinhpolmanccgaa.Pl
open Go.RowKit Go.Proofs.Ytinhpolmanccgaa.X Go.Proofs.YtinhpolmanccgaaW.PrintWords Go.Proofs.YtinhpolmanccgaaW.PrintLast Go.Proofs.YtinhpolmanccgaaW.PrintMore
def SizedC (a : Cell) : Prop := a.f0.size ≤ 140737488355328 ∧ a.f1.size ≤ 140737488355328
theorem sized_of_right {a : Cell} (h : rightC a = true) : SizedC a := by
 obtain ⟨_, h1, _, h2, _⟩ := rightC_iff.1 h
 exact ⟨by omega, by omega⟩
theorem ref_CC_ev {a : Cell} (h : SizedC a) (b : Cell) : Ev (fun k => shardlogref08_Compare.f k a.f0 a.f1 a.f2 a.f3 a.f4 b.f0 b.f1 b.f2 b.f3 b.f4) (cc a b) := ref_CCompare_ev h.1 h.2
theorem cell_CC_ev (a b : Cell) : Ev (fun k => cell_Compare.f k a.f0 a.f1 a.f2 a.f3 a.f4 b.f0 b.f1 b.f2 b.f3 b.f4) (cc a b) := cell_Compare_ev _ _ _ _ _ _ _ _ _ _
end Go.Proofs.Ytinhpolmanccgaa.Pl
/- Whether cells are sorted, one by one. -/
namespace Go.Proofs.Ytinhpolmanccgaa.Pl
open Go.RowKit Go.Proofs.Ytinhpolmanccgaa.X Go.Proofs.YtinhpolmanccgaaW.PrintWords Go.Proofs.YtinhpolmanccgaaW.PrintLast Go.Proofs.YtinhpolmanccgaaW.PrintMore
theorem chkC_zero {l : List Cell} (h : 0 < l.length) : chkC l 0 = rightC l[0] := by
 unfold chkC
 rw [rdC_at l 0 h]
 simp
theorem chkC_pos {l : List Cell} {i : Nat} (h : i < l.length) (h0 : 0 < i) : chkC l i = (rightC l[i] && (cc (l[i-1]'(by omega)) l[i] == -1)) := by
 unfold chkC
 rw [rdC_at l i h, show (i : Int) - 1 = ((i - 1 : Nat) : Int) by omega, rdC_at l (i - 1) (by omega), show (i == 0) = false by simp; omega, Bool.false_or]
end Go.Proofs.Ytinhpolmanccgaa.Pl
/- Whether cells are sorted: the printed functions answer the plain one. -/
namespace Go.Proofs.Ytinhpolmanccgaa.Pl
open Go.RowKit Go.Proofs.Ytinhpolmanccgaa.X Go.Proofs.YtinhpolmanccgaaW.PrintWords Go.Proofs.YtinhpolmanccgaaW.PrintLast Go.Proofs.YtinhpolmanccgaaW.PrintMore
theorem cell_Sorted_l0 (l : List Cell) (hn : l.length ≤ 140737488355328) (d : Nat) : ∀ i : Nat, i ≤ l.length → l.length - i = d → Ev (fun k => cell_Sorted.l0 k l l (l.length : Int) (i : Int)) (sortedFrom l i d) := by
 induction d with
 | zero =>
  intro i hi hd
  refine Ev.step (f := fun _ => some true) (fun k => ?_) (Ev.now _)
  simp only [cell_Sorted.l0]
  rw [if_neg (by omega)]
 | succ d ih =>
  intro i hi hd
  have hlt : i < l.length := by omega
  have hr := rdC_at l i hlt
  unfold rdC at hr
  have jt : Ev (fun k => cell_Sorted.j1 k l l (l.length : Int) (i : Int) true) false := Ev.step (f := fun _ => some false) (fun k => by simp only [cell_Sorted.j1, if_true]) (Ev.now _)
  have jf : Ev (fun k => cell_Sorted.j1 k l l (l.length : Int) (i : Int) false) (sortedFrom l (i + 1) d) := Ev.step (f := fun k => cell_Sorted.l0 k l l (l.length : Int) ((i + 1 : Nat) : Int)) (fun k => by simp only [cell_Sorted.j1, Bool.false_eq_true, if_false]; rw [w64 (by omega) (by omega)]; rfl) (ih (i + 1) (by omega) (by omega))
  unfold sortedFrom
  refine Ev.step (fun k => by simp only [cell_Sorted.l0]; rw [if_pos (by omega), if_pos (by omega), if_pos (by omega), hr]) (Ev.bind (Ev.eq (cell_Right_eq _ _ _ _ _)) ?_)
  by_cases hc : rightC l[i] = true
  ·
   refine Ev.pos hc ?_
   by_cases h0 : 0 < i
   ·
    have hr1 := rdC_at l (i - 1) (by omega)
    unfold rdC at hr1
    have hi1 : wrap64 ((i : Int) - 1) = ((i - 1 : Nat) : Int) := by rw [w64 (by omega) (by omega)]; omega
    refine Ev.pos (by omega) ?_
    rw [hi1, hr1, chkC_pos hlt h0, hc, Bool.true_and]
    refine Ev.pos (by omega) (Ev.pos (by omega) (Ev.bind (cell_CC_ev _ _) ?_))
    have hin := cc_in (l[i-1]'(by omega)) l[i]
    by_cases h1 : cc (l[i-1]'(by omega)) l[i] = -1
    ·
     rw [h1]
     exact jf
    ·
     rw [show (cc (l[i-1]'(by omega)) l[i] == -1) = false by simpa using h1, Bool.false_and, decide_eq_true (by omega)]
     exact jt
   ·
    have : i = 0 := by omega
    subst this
    rw [chkC_zero hlt, hc, Bool.true_and]
    exact Ev.neg (by omega) jf
  ·
   have hc' : rightC l[i] = false := by simpa using hc
   refine Ev.neg hc (jt.to ?_)
   by_cases h0 : 0 < i
   ·
    rw [chkC_pos hlt h0, hc']
    rfl
   ·
    have : i = 0 := by omega
    subst this
    rw [chkC_zero hlt, hc']
    rfl
theorem cell_Sorted_ev {l : List Cell} (hn : l.length ≤ 140737488355328) : Ev (fun k => cell_Sorted.f k l) (sortedC l) := by
 unfold cell_Sorted.f sortedC
 exact cell_Sorted_l0 l hn l.length 0 (by omega) (by omega)
end Go.Proofs.Ytinhpolmanccgaa.Pl
/- The printed number of wire answers the plain one. -/
namespace Go.Proofs.Ytinhpolmanccgaa.Pl
open Go.RowKit Go.Proofs.Ytinhpolmanccgaa.X Go.Proofs.YtinhpolmanccgaaW.PrintWords Go.Proofs.YtinhpolmanccgaaW.PrintLast Go.Proofs.YtinhpolmanccgaaW.PrintMore
theorem wire_Num_eq (n : Int) : wire_Num.f n = some (num n) := by
 unfold wire_Num.f num
 split
 ·
  rfl
 ·
  split
  ·
   rfl
  ·
   rfl
end Go.Proofs.Ytinhpolmanccgaa.Pl
/- The printed functions of wire for numbers answer what the plain ones do. -/
namespace Go.Proofs.Ytinhpolmanccgaa.Pl
open Go.RowKit Go.Proofs.Ytinhpolmanccgaa.X Go.Proofs.YtinhpolmanccgaaW.PrintWords Go.Proofs.YtinhpolmanccgaaW.PrintLast Go.Proofs.YtinhpolmanccgaaW.PrintMore

theorem clone_eq {l : List Int} (h : l.length ≤ 140737488355328) : slices_Clone_byte_byte.f l = some l := by
 unfold slices_Clone_byte_byte.f
 rw [if_pos (by omega)]
theorem or8 {x c : Int} (h0 : 0 ≤ x) (h1 : x < 16777216) (h2 : 0 ≤ c) (h3 : c < 256) : Go.bits .or .i64 (wrap64 (x * 256)) (wrap64 c) = x * 256 + c := by
 rw [w64 (by omega) (by omega), w64 (by omega) (by omega)]
 have hw : ∀ n : Int, 0 ≤ n → n < 2 ^ 32 → IntKind.i64.wrap n = n := by
  intro n h4 h5
  rw [IntKind.wrap_i64]
  omega
 exact bits_join .i64 32 (by decide) hw 8 (x * 256) c (by omega) (by omega) (by omega) h2 (by omega) (by omega)
theorem wire_CutNum_ev {b : List Int} (hb : Bytes b) (hl : b.length ≤ 140737488355328) : Ev (fun k => wire_CutNum.f k b) (cutNum b) := by
 unfold wire_CutNum.f cutNum
 by_cases h4 : b.length < 4
 ·
  rw [if_pos h4]
  exact Ev.pos (by omega) (Ev.now _)
 ·
  rw [if_neg h4]
  refine Ev.neg (by omega) (Ev.pos (by omega) (Ev.bind (Ev.now _) ?_))
  obtain ⟨x0, x1, x2, x3, r, rfl⟩ := four_form (b := b) (by omega)
  ·
   clear h4
   obtain ⟨a0, b0⟩ := hb x0 (by simp)
   obtain ⟨a1, b1⟩ := hb x1 (by simp)
   obtain ⟨a2, b2⟩ := hb x2 (by simp)
   obtain ⟨a3, b3⟩ := hb x3 (by simp)
   simp only [List.take_succ_cons, List.take_zero]
   have hlen : (([x0, x1, x2, x3] : List Int).length : Int) = 4 := rfl
   rw [hlen]
   refine Ev.step (f := fun k => wire_CutNum.l0 k (x0 :: x1 :: x2 :: x3 :: r) x0 [x0, x1, x2, x3] 4 1) (fun k => ?_) ?_
   ·
    simp only [wire_CutNum.l0]
    rw [if_pos (by omega), if_pos (by omega), if_pos (by rw [hlen]; omega)]
    rw [show rd [x0, x1, x2, x3] 0 = x0 from rfl, or8 (by omega) (by omega) a0 b0, w64 (by omega) (by omega)]
    simp
   refine Ev.step (f := fun k => wire_CutNum.l0 k (x0 :: x1 :: x2 :: x3 :: r) (x0 * 256 + x1) [x0, x1, x2, x3] 4 2) (fun k => ?_) ?_
   ·
    simp only [wire_CutNum.l0]
    rw [if_pos (by omega), if_pos (by omega), if_pos (by rw [hlen]; omega)]
    rw [show rd [x0, x1, x2, x3] 1 = x1 from rfl, or8 (by omega) (by omega) a1 b1, w64 (by omega) (by omega)]
    rfl
   refine Ev.step (f := fun k => wire_CutNum.l0 k (x0 :: x1 :: x2 :: x3 :: r) ((x0 * 256 + x1) * 256 + x2) [x0, x1, x2, x3] 4 3) (fun k => ?_) ?_
   ·
    simp only [wire_CutNum.l0]
    rw [if_pos (by omega), if_pos (by omega), if_pos (by rw [hlen]; omega)]
    rw [show rd [x0, x1, x2, x3] 2 = x2 from rfl, or8 (by omega) (by omega) a2 b2, w64 (by omega) (by omega)]
    rfl
   refine Ev.step (f := fun k => wire_CutNum.l0 k (x0 :: x1 :: x2 :: x3 :: r) (((x0 * 256 + x1) * 256 + x2) * 256 + x3) [x0, x1, x2, x3] 4 4) (fun k => ?_) ?_
   ·
    simp only [wire_CutNum.l0]
    rw [if_pos (by omega), if_pos (by omega), if_pos (by rw [hlen]; omega)]
    rw [show rd [x0, x1, x2, x3] 3 = x3 from rfl, or8 (by omega) (by omega) a3 b3, w64 (by omega) (by omega)]
    rfl
   refine Ev.step (f := fun _ => some (val4 (x0 :: x1 :: x2 :: x3 :: r), r, true)) (fun k => ?_) (Ev.now _)
   simp only [wire_CutNum.l0]
   rw [if_neg (by omega), if_pos (by simp only [List.length_cons]; omega)]
   rw [show (x0 :: x1 :: x2 :: x3 :: r).drop 4 = r from rfl, clone_eq (by simp only [List.length_cons] at hl; omega)]
   simp only [Option.bind_some, Option.some.injEq, Prod.mk.injEq, and_true]
   simp [val4, rd]
   omega
end Go.Proofs.Ytinhpolmanccgaa.Pl
/- The printed text of wire answers the plain one. -/
namespace Go.Proofs.Ytinhpolmanccgaa.Pl
open Go.RowKit Go.Proofs.Ytinhpolmanccgaa.X Go.Proofs.YtinhpolmanccgaaW.PrintWords Go.Proofs.YtinhpolmanccgaaW.PrintLast Go.Proofs.YtinhpolmanccgaaW.PrintMore
theorem wire_Text_eq {s : ByteArray} (h : s.size ≤ 140737488351232) : wire_Text.f s = some (text s) := by
 unfold wire_Text.f
 rw [wire_Num_eq]
 simp only [Option.bind_some]
 rw [if_pos (by have := num_length_le s.size; omega)]
 rfl
end Go.Proofs.Ytinhpolmanccgaa.Pl
/- The printed functions of wire for texts answer what the plain ones do. -/
namespace Go.Proofs.Ytinhpolmanccgaa.Pl
open Go.RowKit Go.Proofs.Ytinhpolmanccgaa.X Go.Proofs.YtinhpolmanccgaaW.PrintWords Go.Proofs.YtinhpolmanccgaaW.PrintLast Go.Proofs.YtinhpolmanccgaaW.PrintMore

theorem wire_CutText_ev {b : List Int} (hb : Bytes b) (hl : b.length ≤ 140737488355328) : Ev (fun k => wire_CutText.f k b) (cutText b) := by
 unfold wire_CutText.f
 refine Ev.bind (wire_CutNum_ev hb hl) ?_
 unfold cutNum cutText
 by_cases h4 : b.length < 4
 ·
  simp only [if_pos h4]
  exact Ev.now _
 ·
  simp only [if_neg h4, if_true]
  obtain ⟨g0, g1⟩ := val4_nonneg hb (by omega)
  by_cases hv : val4 b > ((b.length - 4 : Nat) : Int)
  ·
   rw [if_pos hv]
   exact Ev.pos (by rw [List.length_drop]; exact hv) (Ev.now _)
  ·
   rw [if_neg hv]
   exact Ev.neg (by rw [List.length_drop]; exact hv) (Ev.pos g0 (Ev.pos (by rw [List.length_drop]; omega) (Ev.now _)))
theorem cutText_rest_le {b : List Int} : (cutText b).2.1.length ≤ b.length := by
 unfold cutText
 split
 ·
  simp
 ·
  split
  ·
   simp
  ·
   simp only [List.length_drop]; omega
end Go.Proofs.Ytinhpolmanccgaa.Pl
/- slices.Concat of bytes. -/
namespace Go.Proofs.Ytinhpolmanccgaa.Pl
open Go.RowKit Go.Proofs.Ytinhpolmanccgaa.X Go.Proofs.YtinhpolmanccgaaW.PrintWords Go.Proofs.YtinhpolmanccgaaW.PrintLast Go.Proofs.YtinhpolmanccgaaW.PrintMore
theorem concat_eq {l : List (List Int)} (h : lenSum l ≤ 140737488355328) : slices_Concat_byte_byte.f l = some l.flatten := by
 unfold slices_Concat_byte_byte.f
 rw [if_pos h]
end Go.Proofs.Ytinhpolmanccgaa.Pl
/- A cell's bytes: the printed function answers the plain one. -/
namespace Go.Proofs.Ytinhpolmanccgaa.Pl
open Go.RowKit Go.Proofs.Ytinhpolmanccgaa.X Go.Proofs.YtinhpolmanccgaaW.PrintWords Go.Proofs.YtinhpolmanccgaaW.PrintLast Go.Proofs.YtinhpolmanccgaaW.PrintMore
def flagC (g : Bool) : Int := if g = true then 1 else 0
theorem flagC_in (g : Bool) : 0 ≤ flagC g ∧ flagC g ≤ 1 := by cases g <;> decide
def cellB (r c : ByteArray) (t : Int) (v : ByteArray) (g : Bool) : List Int := text r ++ (text c ++ (num t ++ ([flagC g] ++ text v)))
theorem bytes_cellB (r c : ByteArray) (t : Int) (v : ByteArray) (g : Bool) : Bytes (cellB r c t v g) := by
 obtain ⟨h0, h1⟩ := flagC_in g
 exact (bytes_text _).append ((bytes_text _).append ((bytes_num _).append ((Bytes.cons h0 (by omega) Bytes.nil).append (bytes_text _))))
theorem cellB_length (r c : ByteArray) (t : Int) (v : ByteArray) (g : Bool) : (cellB r c t v g).length ≤ 17 + r.size + c.size + v.size := by
 have h1 := text_length_le r
 have h2 := text_length_le c
 have h3 := text_length_le v
 have h4 := num_length_le t
 unfold cellB
 simp only [List.length_append, List.length_cons, List.length_nil]
 omega
theorem cell_Put_eq {r c : ByteArray} (t : Int) {v : ByteArray} (g : Bool) (hr : r.size ≤ 1000000) (hc : c.size ≤ 1000000) (hv : v.size ≤ 1000000) : cell_Put.f r c t v g = some (cellB r c t v g) := by
 unfold cell_Put.f
 have hf : cell_flag.f g = some (flagC g) := by unfold cell_flag.f flagC; cases g <;> rfl
 simp only [wire_Text_eq (s := r) (by omega), wire_Text_eq (s := c) (by omega), wire_Text_eq (s := v) (by omega), wire_Num_eq, hf, Option.bind_some]
 have hl := cellB_length r c t v g
 unfold cellB at hl
 simp only [List.length_append, List.length_cons, List.length_nil] at hl
 rw [concat_eq (by simp only [lenSum, List.map_cons, List.map_nil, List.sum_cons, List.sum_nil, List.length_cons, List.length_nil]; omega)]
 simp [cellB]
end Go.Proofs.Ytinhpolmanccgaa.Pl
/- A cell's bytes: the printed functions answer the plain ones. -/
namespace Go.Proofs.Ytinhpolmanccgaa.Pl
open Go.RowKit Go.Proofs.Ytinhpolmanccgaa.X Go.Proofs.YtinhpolmanccgaaW.PrintWords Go.Proofs.YtinhpolmanccgaaW.PrintLast Go.Proofs.YtinhpolmanccgaaW.PrintMore
def cutFlag (b : List Int) : Bool × List Int × Bool := if b.length = 0 then (false, [], false) else if rd b 0 > 1 then (false, [], false) else (rd b 0 == 1, b.drop 1, true)
theorem cutFlag_eq (b : List Int) : cell_cutFlag.f b = some (cutFlag b) := by
 unfold cell_cutFlag.f cutFlag
 by_cases h : b.length = 0
 ·
  rw [if_pos (by omega), if_pos h]
 ·
  rw [if_neg (by omega), if_neg h, if_pos (by omega)]
  by_cases h1 : rd b 0 > 1
  ·
   rw [if_pos h1, if_pos h1]
  ·
   rw [if_neg h1, if_neg h1, if_pos (by omega)]
   rfl
theorem cutFlag_flag (g : Bool) (r : List Int) : cutFlag ([flagC g] ++ r) = (g, r, true) := by
 unfold cutFlag
 cases g <;> simp [flagC, rd]
abbrev Cut7 := ByteArray × ByteArray × Int × ByteArray × Bool × List Int × Bool
def cutCell (b : List Int) : Cut7 :=
 let r := cutText b
 let c := cutText r.2.1
 let t := cutNum c.2.1
 let g := cutFlag t.2.1
 let v := cutText g.2.1
 if (r.2.2 && (c.2.2 && (t.2.2 && (g.2.2 && (v.2.2 && cellRight r.1 c.1 t.1 v.1 g.1))))) = true then (r.1, c.1, t.1, v.1, g.1, v.2.1, true) else (⟨#[]⟩, ⟨#[]⟩, 0, ⟨#[]⟩, false, [], false)
theorem cutFlag_bytes {b : List Int} (hb : Bytes b) : Bytes (cutFlag b).2.1 ∧ (cutFlag b).2.1.length ≤ b.length := by
 unfold cutFlag
 split
 ·
  exact ⟨Bytes.nil, by simp⟩
 ·
  split
  ·
   exact ⟨Bytes.nil, by simp⟩
  ·
   exact ⟨hb.drop 1, by simp only [List.length_drop]; omega⟩
theorem cutNum_bytes' {b : List Int} (hb : Bytes b) : Bytes (cutNum b).2.1 ∧ (cutNum b).2.1.length ≤ b.length := by
 unfold cutNum
 split
 ·
  exact ⟨Bytes.nil, by simp⟩
 ·
  exact ⟨hb.drop 4, by simp only [List.length_drop]; omega⟩
theorem cell_Cut_ev {b : List Int} (hb : Bytes b) (hl : b.length ≤ 140737488355328) : Ev (fun k => cell_Cut.f k b) (cutCell b) := by
 have b1 := cutText_rest_bytes hb
 have l1 := Nat.le_trans (cutText_rest_le (b := b)) hl
 have b2 := cutText_rest_bytes b1
 have l2 := Nat.le_trans (cutText_rest_le (b := (cutText b).2.1)) l1
 obtain ⟨b3, m3⟩ := cutNum_bytes' b2
 have l3 := Nat.le_trans m3 l2
 obtain ⟨b4, m4⟩ := cutFlag_bytes b3
 have l4 := Nat.le_trans m4 l3
 have jt : ∀ (x : List Int) (r c : ByteArray) (t : Int) (v : ByteArray) (g : Bool), Ev (fun k => cell_Cut.j0 k x true r c t v g) (⟨#[]⟩, ⟨#[]⟩, 0, ⟨#[]⟩, false, [], false) := fun x r c t v g => Ev.step (fun k => by simp only [cell_Cut.j0, if_true]) (Ev.now _)
 have jf : ∀ (x : List Int) (r c : ByteArray) (t : Int) (v : ByteArray) (g : Bool), Ev (fun k => cell_Cut.j0 k x false r c t v g) (r, c, t, v, g, x, true) := fun x r c t v g => Ev.step (fun k => by simp only [cell_Cut.j0, Bool.false_eq_true, if_false]) (Ev.now _)
 unfold cell_Cut.f cutCell
 refine Ev.bind (wire_CutText_ev hb hl) (Ev.bind (wire_CutText_ev b1 l1) (Ev.bind (wire_CutNum_ev b2 l2) (Ev.bind (Ev.eq (cutFlag_eq _)) (Ev.bind (wire_CutText_ev b4 l4) ?_))))
 simp only
 generalize cutText b = r
 generalize cutText r.2.1 = c
 generalize cutNum c.2.1 = t
 generalize cutFlag t.2.1 = g
 generalize cutText g.2.1 = v
 by_cases h : (!r.2.2 || (!c.2.2 || (!t.2.2 || (!g.2.2 || (!v.2.2))))) = true
 ·
  refine Ev.pos h ?_
  have : (r.2.2 && (c.2.2 && (t.2.2 && (g.2.2 && (v.2.2 && cellRight r.1 c.1 t.1 v.1 g.1))))) = false := by
   revert h
   cases r.2.2 <;> cases c.2.2 <;> cases t.2.2 <;> cases g.2.2 <;> cases v.2.2 <;> simp
  rw [this]
  exact jt _ _ _ _ _ _
 ·
  refine Ev.neg h (Ev.bind (Ev.eq (cell_Right_eq _ _ _ _ _)) ?_)
  have : (r.2.2 && (c.2.2 && (t.2.2 && (g.2.2 && (v.2.2 && cellRight r.1 c.1 t.1 v.1 g.1))))) = cellRight r.1 c.1 t.1 v.1 g.1 := by
   revert h
   cases r.2.2 <;> cases c.2.2 <;> cases t.2.2 <;> cases g.2.2 <;> cases v.2.2 <;> simp
  rw [this]
  cases hr : cellRight r.1 c.1 t.1 v.1 g.1 with
  | true => exact jf _ _ _ _ _ _
  | false => exact jt _ _ _ _ _ _
theorem cutCell_cellB {r c : ByteArray} {t : Int} {v : ByteArray} {g : Bool} (h : cellRight r c t v g = true) (x : List Int) : cutCell (cellB r c t v g ++ x) = (r, c, t, v, g, x, true) := by
 obtain ⟨h1, h2, h3, h4, h5, h6, h7, _⟩ := cellRight_iff.1 h
 have e1 : cutText (cellB r c t v g ++ x) = (r, text c ++ (num t ++ ([flagC g] ++ (text v ++ x))), true) := by
  rw [show cellB r c t v g ++ x = text r ++ (text c ++ (num t ++ ([flagC g] ++ (text v ++ x)))) by simp [cellB]]
  exact cutText_text (by omega) _
 have e2 : cutText (text c ++ (num t ++ ([flagC g] ++ (text v ++ x)))) = (c, num t ++ ([flagC g] ++ (text v ++ x)), true) := cutText_text (by omega) _
 have e3 : cutNum (num t ++ ([flagC g] ++ (text v ++ x))) = (t, [flagC g] ++ (text v ++ x), true) := cutNum_num h5 (by omega) _
 have e4 : cutText (text v ++ x) = (v, x, true) := cutText_text (by omega) _
 unfold cutCell
 simp only [e1, e2, e3, cutFlag_flag, e4, h, Bool.and_self, if_true]
end Go.Proofs.Ytinhpolmanccgaa.Pl
/- Plain laws of the checksum: no program in sight. -/
namespace Go.Proofs.Ytinhpolmanccgaa.Pl
open Go.RowKit Go.Proofs.YtinhpolmanccgaaW.PrintWords Go.Proofs.YtinhpolmanccgaaW.PrintMore

def bitN (x : Nat) : Nat := if x % 2 = 1 then (x / 2) ^^^ 2197175160 else x / 2
def goN : Nat → Nat → Nat
 | 0, w => w
 | m + 1, w => goN m (bitN w)
def stepN (w c : Nat) : Nat := goN 8 (w ^^^ c)
def crcN (w : Nat) (l : List Int) : Nat := l.foldl (fun w c => stepN w c.toNat) w
@[irreducible] def crcSum (l : List Int) : Int := ((4294967295 - crcN 4294967295 l : Nat) : Int)
theorem crcSum_def (l : List Int) : crcSum l = ((4294967295 - crcN 4294967295 l : Nat) : Int) := by unfold crcSum; rfl
theorem bitN_lt {x : Nat} (h : x < 4294967296) : bitN x < 4294967296 := by
 unfold bitN
 split
 ·
  exact Nat.xor_lt_two_pow (n := 32) (by omega) (by omega)
 ·
  omega
theorem goN_lt : ∀ (m x : Nat), x < 4294967296 → goN m x < 4294967296
 | 0, _, h => h
 | m + 1, _, h => goN_lt m _ (bitN_lt h)
theorem stepN_lt {w c : Nat} (hw : w < 4294967296) (hc : c < 4294967296) : stepN w c < 4294967296 := goN_lt 8 _ (Nat.xor_lt_two_pow (n := 32) hw hc)
theorem crcSum_in (l : List Int) : 0 ≤ crcSum l ∧ crcSum l ≤ 4294967295 := by
 unfold crcSum
 omega
theorem bits_xor_nat (k : IntKind) (j : Nat) (hj : j ≤ k.bits) (hk : ∀ n : Int, 0 ≤ n → n < 2 ^ j → k.wrap n = n) (a b : Nat) (ha : a < 2 ^ j) (hb : b < 2 ^ j) : Go.bits .xor k (a : Int) (b : Int) = ((a ^^^ b : Nat) : Int) := by
 have hp : 2 ^ j ≤ 2 ^ k.bits := Nat.pow_le_pow_right (by decide) hj
 have ha' : a % 2 ^ k.bits = a := Nat.mod_eq_of_lt (Nat.lt_of_lt_of_le ha hp)
 have hb' : b % 2 ^ k.bits = b := Nat.mod_eq_of_lt (Nat.lt_of_lt_of_le hb hp)
 have cast : ∀ n : Nat, n < 2 ^ j → ((n : Nat) : Int) < 2 ^ j := fun n h => by exact_mod_cast h
 simp only [Go.bits, BitVec.ofInt_natCast, BitVec.toNat_xor, BitVec.toNat_ofNat, ha', hb']
 exact hk _ (Int.natCast_nonneg _) (cast _ (Nat.xor_lt_two_pow ha hb))
theorem bits_xor32 {a b : Nat} (ha : a < 4294967296) (hb : b < 4294967296) : Go.bits .xor .u32 (a : Int) (b : Int) = ((a ^^^ b : Nat) : Int) := by
 have hk : ∀ n : Int, 0 ≤ n → n < 2 ^ 32 → IntKind.u32.wrap n = n := by
  intro n h4 h5
  rw [IntKind.wrap_u32]
  omega
 exact bits_xor_nat .u32 32 (by decide) hk a b ha hb
theorem bits_one32 {a : Nat} (ha : a < 4294967296) : Go.bits .and .u32 (a : Int) 1 = ((a % 2 : Nat) : Int) := by
 have hk : ∀ n : Int, 0 ≤ n → n < 2 ^ 32 → IntKind.u32.wrap n = n := by
  intro n h4 h5
  rw [IntKind.wrap_u32]
  omega
 have := (bits_nat .u32 32 (by decide) hk a 1 ha (by decide)).1
 rw [Nat.and_one_is_mod] at this
 exact this
theorem bits_all32 {a : Nat} (ha : a < 4294967296) : Go.bits .xor .u32 (a : Int) 4294967295 = ((4294967295 - a : Nat) : Int) := by
 have h := bits_xor32 ha (show 4294967295 < 4294967296 by decide)
 have h2 : a ^^^ 4294967295 = 4294967295 - a := by
  apply Nat.eq_of_testBit_eq
  intro i
  have h3 := Nat.testBit_two_pow_sub_succ (n := 32) (x := a) (by simpa using ha) i
  rw [show (2 : Nat) ^ 32 - (a + 1) = 4294967295 - a by omega] at h3
  rw [h3, Nat.testBit_xor, show (4294967295 : Nat) = 2 ^ 32 - 1 from rfl, Nat.testBit_two_pow_sub_one]
  by_cases hi : i < 32
  ·
   simp [hi]
  ·
   have : a.testBit i = false := Nat.testBit_lt_two_pow (Nat.lt_of_lt_of_le (by simpa using ha : a < 2 ^ 32) (Nat.pow_le_pow_right (by decide) (by omega)))
   simp [hi, this]
 rw [h2] at h
 exact h
end Go.Proofs.Ytinhpolmanccgaa.Pl
/- Plain laws of frames: no program in sight. -/
namespace Go.Proofs.Ytinhpolmanccgaa.Pl
open Go.RowKit Go.Proofs.YtinhpolmanccgaaW.PrintWords Go.Proofs.YtinhpolmanccgaaW.PrintMore

def sumB (b : List Int) : List Int := num (crcSum b)
def frame (r : List Int) : List Int := num r.length ++ (sumB (num r.length) ++ (sumB r ++ r))
def frames (l : List (List Int)) : List Int := (l.map frame).flatten
theorem sumB_length (b : List Int) : (sumB b).length = 4 := by
 obtain ⟨h0, h1⟩ := crcSum_in b
 exact num_length h0 (by omega)
theorem bytes_frame {r : List Int} (h : Bytes r) : Bytes (frame r) := (bytes_num _).append ((bytes_num _).append ((bytes_num _).append h))
theorem frame_length {r : List Int} (h : r.length ≤ 65535) : (frame r).length = 12 + r.length := by
 unfold frame
 rw [List.length_append, List.length_append, List.length_append, sumB_length, sumB_length, num_length (by omega) (by omega)]
 omega
def okF (d : List Int) : Prop := 12 ≤ d.length ∧ val4 d ≤ 65535 ∧ 12 + val4 d ≤ d.length ∧ val4 (d.drop 4) = crcSum (d.take 4) ∧ val4 (d.drop 8) = crcSum ((d.drop 12).take (val4 d).toNat)
instance (d : List Int) : Decidable (okF d) := by unfold okF; infer_instance
def cutF (d : List Int) : List Int × List Int × Bool := if okF d then ((d.drop 12).take (val4 d).toNat, (d.drop 12).drop (val4 d).toNat, true) else ([], [], false)
theorem drop_num {n : Int} (h0 : 0 ≤ n) (h1 : n ≤ 4294967295) (r : List Int) : (num n ++ r).drop 4 = r := by rw [← num_length h0 h1, List.drop_left]
theorem take_num {n : Int} (h0 : 0 ≤ n) (h1 : n ≤ 4294967295) (r : List Int) : (num n ++ r).take 4 = num n := by rw [← num_length h0 h1, List.take_left]
theorem frame_parts {r : List Int} (h : r.length ≤ 65535) (s : List Int) : val4 (frame r ++ s) = r.length ∧ (frame r ++ s).take 4 = num r.length ∧ val4 ((frame r ++ s).drop 4) = crcSum (num r.length) ∧ val4 ((frame r ++ s).drop 8) = crcSum r ∧ (frame r ++ s).drop 12 = r ++ s := by
 have e : frame r ++ s = num r.length ++ (sumB (num r.length) ++ (sumB r ++ (r ++ s))) := by simp [frame]
 obtain ⟨a0, a1⟩ := crcSum_in (num r.length)
 obtain ⟨b0, b1⟩ := crcSum_in r
 have d4 : (frame r ++ s).drop 4 = sumB (num r.length) ++ (sumB r ++ (r ++ s)) := by rw [e]; exact drop_num (by omega) (by omega) _
 have d8 : (frame r ++ s).drop 8 = sumB r ++ (r ++ s) := by rw [show 8 = 4 + 4 from rfl, ← List.drop_drop, d4]; exact drop_num a0 a1 _
 have d12 : (frame r ++ s).drop 12 = r ++ s := by rw [show 12 = 8 + 4 from rfl, ← List.drop_drop, d8]; exact drop_num b0 b1 _
 refine ⟨by rw [e]; exact val4_num (by omega) (by omega) _, by rw [e]; exact take_num (by omega) (by omega) _, by rw [d4]; exact val4_num a0 a1 _, by rw [d8]; exact val4_num b0 b1 _, d12⟩
theorem okF_frame {r : List Int} (h : r.length ≤ 65535) (s : List Int) : okF (frame r ++ s) := by
 obtain ⟨h1, h2, h3, h4, h5⟩ := frame_parts h s
 have hl := frame_length h
 have hn : ((r.length : Nat) : Int).toNat = r.length := by omega
 refine ⟨by rw [List.length_append]; omega, by rw [h1]; omega, by rw [h1, List.length_append]; omega, by rw [h2, h3], ?_⟩
 rw [h4, h5, h1, hn, List.take_left]
theorem cutF_frame {r : List Int} (h : r.length ≤ 65535) (s : List Int) : cutF (frame r ++ s) = (r, s, true) := by
 obtain ⟨h1, h2, h3, h4, h5⟩ := frame_parts h s
 have hn : ((r.length : Nat) : Int).toNat = r.length := by omega
 unfold cutF
 rw [if_pos (okF_frame h s), h1, h5, hn, List.take_left, List.drop_left]
theorem cutF_no {d : List Int} (h : ¬ okF d) : cutF d = ([], [], false) := by
 unfold cutF
 rw [if_neg h]
theorem val4_turned {p : List Int} {x y : Int} {s : List Int} (h4 : (p ++ x :: s).length = 4) (hb : Bytes (p ++ x :: s)) (hc : Bytes (p ++ y :: s)) (hne : x ≠ y) (t u : List Int) : val4 (p ++ x :: s ++ t) ≠ val4 (p ++ y :: s ++ u) := by
 intro h
 have hb4 : (p ++ x :: s) = num (val4 (p ++ x :: s ++ t)) := by
  have hv : val4 (p ++ x :: s ++ t) = val4 (p ++ x :: s) := by
   obtain ⟨a, b, c, d, r, e⟩ := four_form (b := p ++ x :: s) (by omega)
   rw [e]; rfl
  rw [hv, num_val4 hb (by omega), List.take_of_length_le (by omega)]
 have hc4 : (p ++ y :: s) = num (val4 (p ++ y :: s ++ u)) := by
  have hl : (p ++ y :: s).length = 4 := by simpa using h4
  have hv : val4 (p ++ y :: s ++ u) = val4 (p ++ y :: s) := by
   obtain ⟨a, b, c, d, r, e⟩ := four_form (b := p ++ y :: s) (by omega)
   rw [e]; rfl
  rw [hv, num_val4 hc (by omega), List.take_of_length_le (by omega)]
 rw [h, ← hc4] at hb4
 have := List.append_cancel_left hb4
 exact hne (List.cons.inj this).1
def Turn (a b : List Int) : Prop := ∃ p x y s, a = p ++ x :: s ∧ b = p ++ y :: s ∧ x ≠ y
theorem Turn.set {a : List Int} {j : Nat} {y : Int} (hj : j < a.length) (hne : a[j]? ≠ some y) : Turn a (a.set j y) := by
 refine ⟨a.take j, a[j], y, a.drop (j + 1), ?_, ?_, fun e => hne (by rw [List.getElem?_eq_getElem hj, e])⟩
 ·
  rw [← List.drop_eq_getElem_cons hj, List.take_append_drop]
 ·
  rw [List.set_eq_take_append_cons_drop, if_pos hj]
theorem Turn.val4 {a b : List Int} (h : Turn a b) (h4 : a.length = 4) (ha : Bytes a) (hb : Bytes b) (t u : List Int) : Pl.val4 (a ++ t) ≠ Pl.val4 (b ++ u) := by
 obtain ⟨p, x, y, s, rfl, rfl, hne⟩ := h
 exact val4_turned h4 ha hb hne t u
theorem Turn.length {a b : List Int} (h : Turn a b) : b.length = a.length := by
 obtain ⟨p, x, y, s, rfl, rfl, _⟩ := h
 simp
end Go.Proofs.Ytinhpolmanccgaa.Pl
/- The printed checksums answer the plain one. -/
namespace Go.Proofs.Ytinhpolmanccgaa.Pl
open Go.RowKit Go.Proofs.Ytinhpolmanccgaa.X Go.Proofs.YtinhpolmanccgaaW.PrintWords Go.Proofs.YtinhpolmanccgaaW.PrintLast Go.Proofs.YtinhpolmanccgaaW.PrintMore
theorem rd_at (l : List Int) (i : Nat) (h : i < l.length) : rd l (i : Int) = l[i] := by
 simp [rd, List.getD_eq_getElem?_getD, List.getElem?_eq_getElem h]
theorem bit_eq {x : Nat} (h : x < 4294967296) : check_word_eight.bit (x : Int) = (bitN x : Int) := by
 unfold check_word_eight.bit bitN
 rw [bits_one32 h]
 have hd : (x : Int) / 2 = ((x / 2 : Nat) : Int) := by omega
 rw [hd]
 by_cases h1 : x % 2 = 1
 ·
  rw [if_pos (by omega), if_pos h1]
  exact bits_xor32 (a := x / 2) (b := 2197175160) (by omega) (by omega)
 ·
  rw [if_neg (by omega), if_neg h1]
theorem go_eq : ∀ (m : Nat) {x : Nat}, x < 4294967296 → check_word_eight.go m (x : Int) = (goN m x : Int)
 | 0, _, _ => rfl
 | m + 1, x, h => by
  rw [check_word_eight.go, bit_eq h, go_eq m (bitN_lt h)]
  rfl
theorem eight_eq {w : Nat} {c : Int} (hw : w < 4294967296) (hc : 0 ≤ c ∧ c < 256) : check_word_eight.f (w : Int) c = some (stepN w c.toNat : Int) := by
 have hc1 : c % 4294967296 = ((c.toNat : Nat) : Int) := by omega
 have hc2 : c.toNat < 4294967296 := by omega
 unfold check_word_eight.f
 rw [hc1, bits_xor32 hw hc2, go_eq 8 (Nat.xor_lt_two_pow (n := 32) hw hc2)]
 rfl
theorem more_l0 {l : List Int} (hb : Bytes l) (hl : l.length ≤ 140737488355328) (d : Nat) : ∀ (i w : Nat), i ≤ l.length → l.length - i = d → w < 4294967296 →
  Ev (fun k => check_More.l0 k (w : Int) l (l.length : Int) (i : Int)) ((4294967295 - crcN w (l.drop i) : Nat) : Int) := by
 induction d with
 | zero =>
  intro i w hi hd hw
  rw [List.drop_eq_nil_of_le (by omega)]
  refine Ev.step (f := fun _ => some ((4294967295 - w : Nat) : Int)) (fun k => ?_) (Ev.now _)
  simp only [check_More.l0]
  rw [if_neg (by omega), bits_all32 hw]
 | succ d ih =>
  intro i w hi hd hw
  have h1 : i < l.length := by omega
  have hc := hb _ (List.getElem_mem h1)
  rw [List.drop_eq_getElem_cons h1]
  refine Ev.step (f := fun k => check_More.l0 k ((stepN w (l[i]).toNat : Nat) : Int) l (l.length : Int) ((i + 1 : Nat) : Int)) (fun k => ?_) (ih (i + 1) (stepN w (l[i]).toNat) (by omega) (by omega) (stepN_lt hw (by omega)))
  simp only [check_More.l0]
  rw [if_pos (by omega), if_pos (by omega), if_pos (by omega), rd_at _ _ h1, eight_eq hw hc, w64 (by omega) (by omega)]
  rfl
theorem check_Sum_ev {l : List Int} (hb : Bytes l) (hl : l.length ≤ 140737488355328) : Ev (fun k => check_Sum.f k l) (crcSum l) := by
 unfold check_Sum.f check_More.f
 have h := more_l0 hb hl l.length 0 4294967295 (by omega) (by omega) (by omega)
 rw [List.drop_zero, ← crcSum_def] at h
 have e : Go.bits .xor .u32 0 4294967295 = ((4294967295 : Nat) : Int) := bits_xor32 (a := 0) (b := 4294967295) (by omega) (by omega)
 rw [e]
 exact Ev.bind h (Ev.now _)
end Go.Proofs.Ytinhpolmanccgaa.Pl
/- slices.Equal of bytes. -/
namespace Go.Proofs.Ytinhpolmanccgaa.Pl
open Go.RowKit Go.Proofs.Ytinhpolmanccgaa.X Go.Proofs.YtinhpolmanccgaaW.PrintWords Go.Proofs.YtinhpolmanccgaaW.PrintLast Go.Proofs.YtinhpolmanccgaaW.PrintMore
theorem rd_nat (l : List Int) (i : Nat) (h : i < l.length) : rd l (i : Int) = l[i] := by
 simp [rd, List.getD_eq_getElem?_getD, List.getElem?_eq_getElem h]
theorem equal_l0 (l m : List Int) (hm : l.length = m.length) (hl : l.length ≤ 140737488355328) (d : Nat) : ∀ i : Nat, i ≤ l.length → l.length - i = d →
  Ev (fun k => slices_Equal_byte_byte.l0 k l m (l.length : Int) (i : Int)) (decide (l.drop i = m.drop i)) := by
 induction d with
 | zero =>
  intro i hi hd
  refine Ev.step (f := fun _ => some true) (fun k => ?_) ?_
  ·
   simp only [slices_Equal_byte_byte.l0]
   rw [if_neg (by omega)]
  ·
   rw [List.drop_eq_nil_of_le (by omega), List.drop_eq_nil_of_le (by omega)]
   exact Ev.now _
 | succ d ih =>
  intro i hi hd
  have h1 : i < l.length := by omega
  have h2 : i < m.length := by omega
  rw [List.drop_eq_getElem_cons h1, List.drop_eq_getElem_cons h2]
  by_cases he : l[i] = m[i]
  ·
   refine Ev.step (f := fun k => slices_Equal_byte_byte.l0 k l m (l.length : Int) ((i + 1 : Nat) : Int)) (fun k => ?_) ((ih (i + 1) (by omega) (by omega)).to (by simp only [he, List.cons.injEq, true_and]))
   simp only [slices_Equal_byte_byte.l0]
   rw [if_pos (by omega), if_pos (by omega), if_pos (by omega), if_pos (by omega), rd_nat _ _ h1, rd_nat _ _ h2, if_pos he, w64 (by omega) (by omega)]
   rfl
  ·
   refine Ev.step (f := fun _ => some false) (fun k => ?_) ((Ev.now false).to (by simp only [List.cons.injEq, he, false_and, decide_false]))
   simp only [slices_Equal_byte_byte.l0]
   rw [if_pos (by omega), if_pos (by omega), if_pos (by omega), if_pos (by omega), rd_nat _ _ h1, rd_nat _ _ h2, if_neg he]
theorem equal_ev {l m : List Int} (hl : l.length ≤ 140737488355328) : Ev (fun k => slices_Equal_byte_byte.f k l m) (decide (l = m)) := by
 unfold slices_Equal_byte_byte.f
 by_cases h : l.length = m.length
 ·
  refine Ev.pos (by omega) ?_
  have := equal_l0 l m h hl l.length 0 (by omega) (by omega)
  simpa using this
 ·
  refine Ev.neg (by omega) ((Ev.now false).to ?_)
  symm
  rw [decide_eq_false_iff_not]
  intro e
  exact h (by rw [e])
end Go.Proofs.Ytinhpolmanccgaa.Pl
/- Frames: put: the printed functions answer the plain ones. -/
namespace Go.Proofs.Ytinhpolmanccgaa.Pl
open Go.RowKit Go.Proofs.Ytinhpolmanccgaa.X Go.Proofs.YtinhpolmanccgaaW.PrintWords Go.Proofs.YtinhpolmanccgaaW.PrintLast Go.Proofs.YtinhpolmanccgaaW.PrintMore
theorem frame_sum_ev {l : List Int} (hb : Bytes l) (hl : l.length ≤ 140737488355328) : Ev (fun k => frame_sum.f k l) (sumB l) := by
 unfold frame_sum.f
 refine Ev.bind (check_Sum_ev hb hl) ?_
 obtain ⟨h0, h1⟩ := crcSum_in l
 rw [w64 (by omega) (by omega), wire_Num_eq]
 exact Ev.now _
theorem frame_Put_ev {l : List Int} (hb : Bytes l) (hl : l.length ≤ 140737488355328) : Ev (fun k => frame_Put.f k l) (if l.length > 65535 then [] else frame l) := by
 unfold frame_Put.f
 by_cases h : l.length > 65535
 ·
  rw [if_pos h]
  exact Ev.pos (by omega) (Ev.now _)
 ·
  rw [if_neg h]
  refine Ev.neg (by omega) (Ev.bind (Ev.eq (wire_Num_eq _)) (Ev.bind (frame_sum_ev (bytes_num _) (by have := num_length_le l.length; omega)) (Ev.bind (frame_sum_ev hb hl) (Ev.bind (Ev.eq (concat_eq ?_)) ((Ev.now _).to ?_)))))
  ·
   have h1 := num_length_le l.length
   have h2 := sumB_length (num l.length)
   have h3 := sumB_length l
   simp only [lenSum, List.map_cons, List.map_nil, List.sum_cons, List.sum_nil]
   omega
  ·
   simp [frame]
end Go.Proofs.Ytinhpolmanccgaa.Pl
/- A block's bytes: the printed functions answer the plain one. -/
namespace Go.Proofs.Ytinhpolmanccgaa.Pl
open Go.RowKit Go.Proofs.Ytinhpolmanccgaa.X Go.Proofs.YtinhpolmanccgaaW.PrintWords Go.Proofs.YtinhpolmanccgaaW.PrintLast Go.Proofs.YtinhpolmanccgaaW.PrintMore
def oneB (c : Cell) : List Int := cellB c.f0 c.f1 c.f2 c.f3 c.f4
def bodyB (l : List Cell) : List Int := num l.length ++ (l.map oneB).flatten
theorem oneB_le {c : Cell} (h : rightC c = true) : (oneB c).length ≤ 401 := by
 obtain ⟨_, h1, _, h2, _, _, h3, _⟩ := rightC_iff.1 h
 have := cellB_length c.f0 c.f1 c.f2 c.f3 c.f4
 unfold oneB
 omega
theorem flat_oneB_le : ∀ l : List Cell, RightsC l → (l.map oneB).flatten.length ≤ 401 * l.length
 | [], _ => by simp
 | c :: l, h => by
  have h1 := oneB_le (h c List.mem_cons_self)
  have h2 := flat_oneB_le l (fun x hx => h x (List.mem_cons_of_mem _ hx))
  simp only [List.map_cons, List.flatten_cons, List.length_append, List.length_cons]
  omega
theorem bytes_flat_one : ∀ l : List Cell, Bytes (l.map oneB).flatten
 | [] => Bytes.nil
 | c :: l => by rw [List.map_cons, List.flatten_cons]; exact (bytes_cellB _ _ _ _ _).append (bytes_flat_one l)
theorem bytes_bodyB (l : List Cell) : Bytes (bodyB l) := (bytes_num _).append (bytes_flat_one l)
theorem bodyB_le {l : List Cell} (h : RightsC l) : (bodyB l).length ≤ 4 + 401 * l.length := by
 have h1 := flat_oneB_le l h
 have h2 := num_length_le l.length
 unfold bodyB
 rw [List.length_append]
 omega
theorem frame_ne {r : List Int} (h : r.length ≤ 65535) : ¬ (((frame r).length : Nat) : Int) = 0 := by
 rw [frame_length h]
 omega
theorem put_l0 (l : List Cell) (hr : RightsC l) (hl : l.length ≤ 150) (d : Nat) : ∀ (i : Nat) (acc : List Int), i ≤ l.length → l.length - i = d → acc.length ≤ 4 + 401 * i → Bytes acc → Ev (fun k => block_Put.l0 k acc l (l.length : Int) (i : Int)) (frame (acc ++ ((l.drop i).map oneB).flatten), 0) := by
 induction d with
 | zero =>
  intro i acc hi hd ha hb
  rw [List.drop_eq_nil_of_le (by omega)]
  have h := frame_Put_ev hb (by omega)
  rw [if_neg (by omega)] at h
  refine Ev.step (fun k => by simp only [block_Put.l0]; rw [if_neg (by omega)]) ?_
  refine Ev.bind h ?_
  refine Ev.neg (frame_ne (by omega)) ?_
  exact (Ev.now _).to (by simp)
 | succ d ih =>
  intro i acc hi hd ha hb
  have hlt : i < l.length := by omega
  have hri := hr _ (List.getElem_mem hlt)
  have hz := oneB_le hri
  have hrd := rdC_at l i hlt
  unfold rdC at hrd
  obtain ⟨_, z1, _, z2, _, _, z3, _⟩ := rightC_iff.1 hri
  have hp : cell_Put.f l[i].f0 l[i].f1 l[i].f2 l[i].f3 l[i].f4 = some (oneB l[i]) := cell_Put_eq _ _ (by omega) (by omega) (by omega)
  rw [List.drop_eq_getElem_cons hlt, List.map_cons, List.flatten_cons, ← List.append_assoc]
  refine Ev.step (f := fun k => block_Put.l0 k (acc ++ oneB l[i]) l (l.length : Int) ((i + 1 : Nat) : Int)) (fun k => ?_) (ih (i + 1) (acc ++ oneB l[i]) (by omega) (by omega) (by rw [List.length_append]; omega) (hb.append (bytes_cellB _ _ _ _ _)))
  simp only [block_Put.l0]
  rw [if_pos (by omega), if_pos (by omega), if_pos (by omega), hrd, hp, Option.bind_some, if_pos (by omega), w64 (by omega) (by omega)]
  rfl
def putB (l : List Cell) : List Int × Int := if sortedC l = true ∧ l.length ≠ 0 then (frame (bodyB l), 0) else ([], 1)
theorem block_Put_ev {l : List Cell} (hl : l.length ≤ 150) : Ev (fun k => block_Put.f k l) (putB l) := by
 have jt : ¬ (sortedC l = true ∧ l.length ≠ 0) → Ev (fun k => block_Put.j0 k l true) (putB l) := fun h => by
  unfold putB
  rw [if_neg h]
  exact Ev.step (f := fun _ => some ([], 1)) (fun k => by simp only [block_Put.j0, if_true]) (Ev.now _)
 unfold block_Put.f
 refine Ev.bind (cell_Sorted_ev (by omega)) ?_
 cases hs : sortedC l with
 | false => exact Ev.neg Bool.false_ne_true (jt (by rw [hs]; simp))
 | true =>
  refine Ev.pos rfl ?_
  by_cases h0 : l.length = 0
  ·
   rw [show ((l.length : Int) == 0) = true by simp [h0]]
   exact jt (by simp [h0])
  ·
   rw [show ((l.length : Int) == 0) = false from beq_eq_false_iff_ne.2 (by omega)]
   unfold putB
   rw [if_pos ⟨hs, h0⟩]
   refine Ev.step (fun k => by simp only [block_Put.j0, Bool.false_eq_true, if_false]; rw [wire_Num_eq]) (Ev.bind (Ev.now _) ?_)
   have := put_l0 l (sortedC_iff.1 hs).1 hl l.length 0 (num l.length) (by omega) (by omega) (by have := num_length_le l.length; omega) (bytes_num _)
   rw [List.drop_zero] at this
   exact this
end Go.Proofs.Ytinhpolmanccgaa.Pl
/- Plain laws of filters: a key's bits; bytes of bits. -/
namespace Go.Proofs.Ytinhpolmanccgaa.Pl
open Go.RowKit Go.Proofs.YtinhpolmanccgaaW.PrintWords Go.Proofs.YtinhpolmanccgaaW.PrintLast Go.Proofs.YtinhpolmanccgaaW.PrintMore
def bitsK (key : ByteArray) (n : Int) : List Int :=
 [crcSum (bytesOf key) % n, (crcSum (bytesOf key) + crcSum ([1] ++ bytesOf key)) % 4294967296 % n, (crcSum (bytesOf key) + 2 * crcSum ([1] ++ bytesOf key)) % 4294967296 % n]
theorem bitsK_in {key : ByteArray} {n : Int} (h : 0 < n) : ∀ i ∈ bitsK key n, 0 ≤ i ∧ i < n := by
 intro i hi
 simp only [bitsK, List.mem_cons, List.not_mem_nil, or_false] at hi
 rcases hi with rfl | rfl | rfl <;> exact ⟨Int.emod_nonneg _ (by omega), Int.emod_lt_of_pos _ h⟩
def bv (b0 b1 b2 b3 b4 b5 b6 b7 : Bool) : Int := b0.toInt + 2 * (b1.toInt + 2 * (b2.toInt + 2 * (b3.toInt + 2 * (b4.toInt + 2 * (b5.toInt + 2 * (b6.toInt + 2 * b7.toInt))))))
theorem toInt_in (b : Bool) : 0 ≤ b.toInt ∧ b.toInt ≤ 1 := by cases b <;> decide
theorem bv_in (b0 b1 b2 b3 b4 b5 b6 b7 : Bool) : 0 ≤ bv b0 b1 b2 b3 b4 b5 b6 b7 ∧ bv b0 b1 b2 b3 b4 b5 b6 b7 < 256 := by
 have := toInt_in b0; have := toInt_in b1; have := toInt_in b2; have := toInt_in b3; have := toInt_in b4; have := toInt_in b5; have := toInt_in b6; have := toInt_in b7
 unfold bv
 omega
theorem or0 : ∀ b0 b1 b2 b3 b4 b5 b6 b7 : Bool, Go.bits .or .u8 (bv b0 b1 b2 b3 b4 b5 b6 b7) (shl .u8 1 0) = bv true b1 b2 b3 b4 b5 b6 b7 := by decide +kernel
theorem or1 : ∀ b0 b1 b2 b3 b4 b5 b6 b7 : Bool, Go.bits .or .u8 (bv b0 b1 b2 b3 b4 b5 b6 b7) (shl .u8 1 1) = bv b0 true b2 b3 b4 b5 b6 b7 := by decide +kernel
theorem or2 : ∀ b0 b1 b2 b3 b4 b5 b6 b7 : Bool, Go.bits .or .u8 (bv b0 b1 b2 b3 b4 b5 b6 b7) (shl .u8 1 2) = bv b0 b1 true b3 b4 b5 b6 b7 := by decide +kernel
theorem or3 : ∀ b0 b1 b2 b3 b4 b5 b6 b7 : Bool, Go.bits .or .u8 (bv b0 b1 b2 b3 b4 b5 b6 b7) (shl .u8 1 3) = bv b0 b1 b2 true b4 b5 b6 b7 := by decide +kernel
theorem or4 : ∀ b0 b1 b2 b3 b4 b5 b6 b7 : Bool, Go.bits .or .u8 (bv b0 b1 b2 b3 b4 b5 b6 b7) (shl .u8 1 4) = bv b0 b1 b2 b3 true b5 b6 b7 := by decide +kernel
theorem or5 : ∀ b0 b1 b2 b3 b4 b5 b6 b7 : Bool, Go.bits .or .u8 (bv b0 b1 b2 b3 b4 b5 b6 b7) (shl .u8 1 5) = bv b0 b1 b2 b3 b4 true b6 b7 := by decide +kernel
theorem or6 : ∀ b0 b1 b2 b3 b4 b5 b6 b7 : Bool, Go.bits .or .u8 (bv b0 b1 b2 b3 b4 b5 b6 b7) (shl .u8 1 6) = bv b0 b1 b2 b3 b4 b5 true b7 := by decide +kernel
theorem or7 : ∀ b0 b1 b2 b3 b4 b5 b6 b7 : Bool, Go.bits .or .u8 (bv b0 b1 b2 b3 b4 b5 b6 b7) (shl .u8 1 7) = bv b0 b1 b2 b3 b4 b5 b6 true := by decide +kernel
theorem test_dec : ∀ x : Fin 256, ∀ k : Fin 8, decide (Go.bits .and .u8 (shr .u8 (x.val : Int) (k.val : Int)) 1 = 0) = decide (((x.val : Int) / 2 ^ k.val) % 2 = 0) := by decide +kernel
def byteOf (s : List Bool) (j : Nat) : Int := bv (s.getD (8 * j) false) (s.getD (8 * j + 1) false) (s.getD (8 * j + 2) false) (s.getD (8 * j + 3) false) (s.getD (8 * j + 4) false) (s.getD (8 * j + 5) false) (s.getD (8 * j + 6) false) (s.getD (8 * j + 7) false)
def bytesF (s : List Bool) (m : Nat) : List Int := (List.range m).map (byteOf s)
theorem bytesF_length (s : List Bool) (m : Nat) : (bytesF s m).length = m := by simp [bytesF]
theorem bytesF_at (s : List Bool) {m j : Nat} (h : j < m) : (bytesF s m)[j]'(by rw [bytesF_length]; exact h) = byteOf s j := by simp [bytesF]
theorem bytes_bytesF (s : List Bool) (m : Nat) : Bytes (bytesF s m) := by
 intro x hx
 simp only [bytesF, List.mem_map, List.mem_range] at hx
 obtain ⟨j, _, rfl⟩ := hx
 exact bv_in _ _ _ _ _ _ _ _
theorem getD_set (s : List Bool) (i q : Nat) (h : i < s.length) : (s.set i true).getD q false = if i = q then true else s.getD q false := by
 rw [List.getD_eq_getElem?_getD, List.getD_eq_getElem?_getD, List.getElem?_set]
 split
 ·
  simp
 ·
  rfl
theorem byteOf_set (s : List Bool) (i j : Nat) (h : i < s.length) : byteOf (s.set i true) j = if j = i / 8 then Go.bits .or .u8 (byteOf s j) (shl .u8 1 ((i % 8 : Nat) : Int)) else byteOf s j := by
 by_cases hj : j = i / 8
 ·
  rw [if_pos hj]
  subst hj
  unfold byteOf
  simp only [getD_set s i _ h]
  have h8 : i % 8 < 8 := Nat.mod_lt _ (by omega)
  have he : i = 8 * (i / 8) + i % 8 := by omega
  obtain ⟨r, hr⟩ : ∃ r, r = i % 8 := ⟨_, rfl⟩
  rw [← hr] at h8 he ⊢
  generalize i / 8 = q at he ⊢
  subst he
  clear hr
  have e0 : (8 * q + r = 8 * q) = (r = 0) := propext ⟨fun h => by omega, fun h => by omega⟩
  have e1 : (8 * q + r = 8 * q + 1) = (r = 1) := propext ⟨fun h => by omega, fun h => by omega⟩
  have e2 : (8 * q + r = 8 * q + 2) = (r = 2) := propext ⟨fun h => by omega, fun h => by omega⟩
  have e3 : (8 * q + r = 8 * q + 3) = (r = 3) := propext ⟨fun h => by omega, fun h => by omega⟩
  have e4 : (8 * q + r = 8 * q + 4) = (r = 4) := propext ⟨fun h => by omega, fun h => by omega⟩
  have e5 : (8 * q + r = 8 * q + 5) = (r = 5) := propext ⟨fun h => by omega, fun h => by omega⟩
  have e6 : (8 * q + r = 8 * q + 6) = (r = 6) := propext ⟨fun h => by omega, fun h => by omega⟩
  have e7 : (8 * q + r = 8 * q + 7) = (r = 7) := propext ⟨fun h => by omega, fun h => by omega⟩
  simp only [e0, e1, e2, e3, e4, e5, e6, e7]
  clear e0 e1 e2 e3 e4 e5 e6 e7
  obtain rfl | rfl | rfl | rfl | rfl | rfl | rfl | rfl : r = 0 ∨ r = 1 ∨ r = 2 ∨ r = 3 ∨ r = 4 ∨ r = 5 ∨ r = 6 ∨ r = 7 := by omega
  ·
   exact (or0 _ _ _ _ _ _ _ _).symm
  ·
   exact (or1 _ _ _ _ _ _ _ _).symm
  ·
   exact (or2 _ _ _ _ _ _ _ _).symm
  ·
   exact (or3 _ _ _ _ _ _ _ _).symm
  ·
   exact (or4 _ _ _ _ _ _ _ _).symm
  ·
   exact (or5 _ _ _ _ _ _ _ _).symm
  ·
   exact (or6 _ _ _ _ _ _ _ _).symm
  ·
   exact (or7 _ _ _ _ _ _ _ _).symm
 ·
  rw [if_neg hj]
  unfold byteOf
  simp only [getD_set s i _ h]
  rw [if_neg (by omega), if_neg (by omega), if_neg (by omega), if_neg (by omega), if_neg (by omega), if_neg (by omega), if_neg (by omega), if_neg (by omega)]
def orBit (f : List Int) (i : Int) : List Int := f.set (i / 8).toNat (Go.bits .or .u8 (rd f (i / 8)) (shl .u8 1 (i % 8)))
def setBit (s : List Bool) (i : Int) : List Bool := s.set i.toNat true
theorem orBit_bytes (s : List Bool) (m : Nat) (hs : s.length = 8 * m) (i : Int) (h0 : 0 ≤ i) (h1 : i < 8 * m) : orBit (bytesF s m) i = bytesF (setBit s i) m := by
 obtain ⟨n, rfl⟩ : ∃ n : Nat, i = (n : Int) := ⟨i.toNat, by omega⟩
 have hq : ((n : Int) / 8) = ((n / 8 : Nat) : Int) := by omega
 have hr : ((n : Int) % 8) = ((n % 8 : Nat) : Int) := by omega
 unfold orBit setBit
 rw [hq, hr, Int.toNat_natCast, Int.toNat_natCast]
 have hlt : n / 8 < m := by omega
 have hrd : rd (bytesF s m) ((n / 8 : Nat) : Int) = byteOf s (n / 8) := by
  unfold rd
  rw [Int.toNat_natCast, List.getD_eq_getElem?_getD, List.getElem?_eq_getElem (by rw [bytesF_length]; exact hlt), bytesF_at s hlt]
  rfl
 rw [hrd]
 apply List.ext_getElem
 ·
  rw [List.length_set, bytesF_length, bytesF_length]
 ·
  intro j hj1 hj2
  rw [bytesF_length] at hj2
  rw [List.getElem_set, bytesF_at s hj2, show (bytesF (s.set n true) m)[j] = byteOf (s.set n true) j from bytesF_at _ hj2, byteOf_set s n j (by omega)]
  by_cases he : n / 8 = j
  ·
   rw [if_pos he, if_pos he.symm, ← he]
  ·
   rw [if_neg he, if_neg (fun h => he h.symm)]
def setK (n : Int) (s : List Bool) (keys : List ByteArray) : List Bool := keys.foldl (fun s k => (bitsK k n).foldl setBit s) s
theorem foldl_set_length : ∀ (l : List Int) (s : List Bool), (l.foldl setBit s).length = s.length
 | [], _ => rfl
 | i :: l, s => by
  rw [List.foldl_cons, foldl_set_length l]
  unfold setBit
  rw [List.length_set]
def sizeK (keys : List ByteArray) : Nat := max 1 keys.length
def makeF (keys : List ByteArray) : List Int := bytesF (setK (8 * (sizeK keys : Int)) (List.replicate (8 * sizeK keys) false) keys) (sizeK keys)
theorem makeF_length (keys : List ByteArray) : (makeF keys).length = sizeK keys := bytesF_length _ _
theorem bytes_makeF (keys : List ByteArray) : Bytes (makeF keys) := bytes_bytesF _ _
def hasB (f : List Int) (is : List Int) : Bool := is.all fun i => decide (¬ (rd f (i / 8) / 2 ^ (i % 8).toNat) % 2 = 0)
def hasF (f : List Int) (key : ByteArray) : Bool := if f.length = 0 then true else hasB f (bitsK key (8 * (f.length : Int)))
end Go.Proofs.Ytinhpolmanccgaa.Pl
/- Tables' bytes, in plain lists. -/
namespace Go.Proofs.Ytinhpolmanccgaa.Pl
open Go.RowKit Go.Proofs.Ytinhpolmanccgaa.X Go.Proofs.YtinhpolmanccgaaW.PrintWords Go.Proofs.YtinhpolmanccgaaW.PrintLast Go.Proofs.YtinhpolmanccgaaW.PrintMore
def keyT (r c : ByteArray) : ByteArray := strOfNums (text r) ++ strOfNums (text c)
theorem keyT_size (r c : ByteArray) : (keyT r c).size ≤ 8 + r.size + c.size := by
 unfold keyT
 rw [ByteArray.size_append, strOf_size, strOf_size]
 have := text_length_le r
 have := text_length_le c
 omega
def keysT (l : List Cell) : List ByteArray := l.map fun c => keyT c.f0 c.f1
def filterB (l : List Cell) : List Int := makeF (keysT l)
theorem filterB_length (l : List Cell) : (filterB l).length = max 1 l.length := by
 unfold filterB
 rw [makeF_length]
 simp [sizeK, keysT]
theorem bytes_filterB (l : List Cell) : Bytes (filterB l) := bytes_makeF _
def keyB : List Cell → List Int
 | [] => []
 | c :: _ => cellB c.f0 c.f1 c.f2 ⟨#[]⟩ false
def allB (bs : List (List Cell)) : List Int := (bs.map fun l => frame (bodyB l)).flatten
def footL : Nat → List (List Cell) → List Int
 | _, [] => []
 | off, l :: bs => keyB l ++ (num off ++ footL (off + (frame (bodyB l)).length) bs)
def footC (bs : List (List Cell)) (fl : List Int) : List Int := num bs.length ++ (footL 0 bs ++ text (strOfNums fl))
def tableB (bs : List (List Cell)) (fl : List Int) : List Int := allB bs ++ (frame (footC bs fl) ++ num (frame (footC bs fl)).length)
def BlkOk (b : List Cell) : Prop := SrtC b ∧ b ≠ [] ∧ b.length ≤ 150
theorem keyB_le {b : List Cell} (h : BlkOk b) : (keyB b).length ≤ 145 := by
 cases b with
 | nil => simp [keyB]
 | cons c b =>
  obtain ⟨_, h1, _, h2, _⟩ := rightC_iff.1 (h.1.1 c List.mem_cons_self)
  have := cellB_length c.f0 c.f1 c.f2 ⟨#[]⟩ false
  have h0 : (⟨#[]⟩ : ByteArray).size = 0 := rfl
  show (cellB c.f0 c.f1 c.f2 ⟨#[]⟩ false).length ≤ 145
  omega
theorem bytes_keyB (b : List Cell) : Bytes (keyB b) := by
 cases b with
 | nil => exact Bytes.nil
 | cons c b => exact bytes_cellB _ _ _ _ _
theorem footL_le : ∀ (bs : List (List Cell)) (off : Nat), (∀ b ∈ bs, BlkOk b) → (footL off bs).length ≤ 149 * bs.length
 | [], _, _ => by simp [footL]
 | b :: bs, off, h => by
  have h1 := keyB_le (h b List.mem_cons_self)
  have h2 := num_length_le off
  have h3 := footL_le bs (off + (frame (bodyB b)).length) (fun x hx => h x (List.mem_cons_of_mem _ hx))
  unfold footL
  simp only [List.length_append, List.length_cons]
  omega
theorem bytes_footL : ∀ (bs : List (List Cell)) (off : Nat), Bytes (footL off bs)
 | [], _ => Bytes.nil
 | b :: bs, off => by
  unfold footL
  exact (bytes_keyB b).append ((bytes_num _).append (bytes_footL bs _))
theorem bytes_footC (bs : List (List Cell)) (fl : List Int) : Bytes (footC bs fl) := (bytes_num _).append ((bytes_footL _ _).append (bytes_text _))
theorem footC_le {bs : List (List Cell)} {fl : List Int} (h : ∀ b ∈ bs, BlkOk b) (hb : bs.length ≤ 200) (hf : fl.length ≤ 1000) : (footC bs fl).length ≤ 40000 := by
 have h1 := footL_le bs 0 h
 have h2 := num_length_le bs.length
 have h3 := text_length_le (strOfNums fl)
 rw [strOf_size] at h3
 unfold footC
 simp only [List.length_append]
 omega
theorem body_le {b : List Cell} (h : BlkOk b) : (bodyB b).length ≤ 60154 := by
 have := bodyB_le h.1.1
 have := h.2.2
 omega
theorem frame_le {b : List Cell} (h : BlkOk b) : (frame (bodyB b)).length ≤ 60166 := by
 have := body_le h
 rw [frame_length (by omega)]
 omega
theorem allB_cons (b : List Cell) (bs : List (List Cell)) : allB (b :: bs) = frame (bodyB b) ++ allB bs := by simp [allB]
theorem bytes_allB : ∀ (bs : List (List Cell)), Bytes (allB bs)
 | [] => Bytes.nil
 | b :: bs => by
  rw [allB_cons]
  exact (bytes_frame (bytes_bodyB b)).append (bytes_allB bs)
theorem allB_le : ∀ (bs : List (List Cell)), (∀ b ∈ bs, BlkOk b) → (allB bs).length ≤ 60166 * bs.length
 | [], _ => by simp [allB]
 | b :: bs, h => by
  have h1 := frame_le (h b List.mem_cons_self)
  have h2 := allB_le bs (fun x hx => h x (List.mem_cons_of_mem _ hx))
  rw [allB_cons]
  simp only [List.length_append, List.length_cons]
  omega
theorem bytes_tableB (bs : List (List Cell)) (fl : List Int) : Bytes (tableB bs fl) := (bytes_allB bs).append ((bytes_frame (bytes_footC bs fl)).append (bytes_num _))
end Go.Proofs.Ytinhpolmanccgaa.Pl
/- A clone of cells is as they are. -/
namespace Go.Proofs.Ytinhpolmanccgaa.Pl
open Go.RowKit Go.Proofs.Ytinhpolmanccgaa.X Go.Proofs.YtinhpolmanccgaaW.PrintWords Go.Proofs.YtinhpolmanccgaaW.PrintLast Go.Proofs.YtinhpolmanccgaaW.PrintMore
end Go.Proofs.Ytinhpolmanccgaa.Pl
/- Cells, cut into blocks: the printed functions answer the plain one. -/
namespace Go.Proofs.Ytinhpolmanccgaa.Pl
open Go.RowKit Go.Proofs.Ytinhpolmanccgaa.X Go.Proofs.YtinhpolmanccgaaW.PrintWords Go.Proofs.YtinhpolmanccgaaW.PrintLast Go.Proofs.YtinhpolmanccgaaW.PrintMore
def lenC (c : Cell) : Nat := (cellB c.f0 c.f1 c.f2 c.f3 c.f4).length
theorem lenC_le {c : Cell} (h : rightC c = true) : lenC c ≤ 401 := by
 obtain ⟨_, h1, _, h2, _, _, h3, _⟩ := rightC_iff.1 h
 have := cellB_length c.f0 c.f1 c.f2 c.f3 c.f4
 unfold lenC
 omega
theorem put_C {c : Cell} (h : rightC c = true) : cell_Put.f c.f0 c.f1 c.f2 c.f3 c.f4 = some (cellB c.f0 c.f1 c.f2 c.f3 c.f4) := by
 obtain ⟨_, h1, _, h2, _, _, h3, _⟩ := rightC_iff.1 h
 exact cell_Put_eq _ _ (by omega) (by omega) (by omega)
def goB (size : Nat) : List Cell → List Cell → Nat → List (List Cell)
 | [], now, _ => if now = [] then [] else [now]
 | c :: l, now, n => if n + lenC c ≥ size then (now ++ [c]) :: goB size l [] 0 else goB size l (now ++ [c]) (n + lenC c)
theorem goB_length (size : Nat) : ∀ (l now : List Cell) (n : Nat), (goB size l now n).length ≤ l.length + 1
 | [], now, n => by unfold goB; split <;> simp
 | c :: l, now, n => by
  unfold goB
  split
  ·
   have := goB_length size l [] 0
   simp only [List.length_cons]; omega
  ·
   have := goB_length size l (now ++ [c]) (n + lenC c)
   simp only [List.length_cons]; omega
end Go.Proofs.Ytinhpolmanccgaa.Pl
/- Plain laws of blocks: they are the cells, one behind the other; each has as many bytes as were told, and not without its last cell. -/
namespace Go.Proofs.Ytinhpolmanccgaa.Pl
open Go.RowKit Go.Proofs.Ytinhpolmanccgaa.X Go.Proofs.YtinhpolmanccgaaW.PrintWords Go.Proofs.YtinhpolmanccgaaW.PrintLast Go.Proofs.YtinhpolmanccgaaW.PrintMore
theorem goB_flat (size : Nat) : ∀ (l now : List Cell) (n : Nat), (goB size l now n).flatten = now ++ l
 | [], now, n => by
  unfold goB
  split
  ·
   rename_i h; simp [h]
  ·
   simp
 | c :: l, now, n => by
  unfold goB
  split
  ·
   rw [List.flatten_cons, goB_flat size l [] 0]; simp
  ·
   rw [goB_flat size l (now ++ [c])]; simp
def sumC (b : List Cell) : Nat := (b.map lenC).sum
theorem sumC_append (a b : List Cell) : sumC (a ++ b) = sumC a + sumC b := by simp [sumC]
theorem sumC_one (c : Cell) : sumC [c] = lenC c := by simp [sumC]
def OkB (size : Nat) (b : List Cell) : Prop := b ≠ [] ∧ ∀ k, k < b.length → sumC (b.take k) < size
theorem goB_ok (size : Nat) (hs : 0 < size) : ∀ (l now : List Cell) (n : Nat), n = sumC now → (∀ k, k ≤ now.length → sumC (now.take k) < size) → ∀ b ∈ goB size l now n, OkB size b
 | [], now, n, _, hk, b, hb => by
  unfold goB at hb
  split at hb
  ·
   cases hb
  ·
   rename_i h
   rw [List.mem_singleton] at hb
   subst hb
   exact ⟨h, fun k hlt => hk k (by omega)⟩
 | c :: l, now, n, hn, hk, b, hb => by
  have hpre : ∀ k, k < (now ++ [c]).length → sumC ((now ++ [c]).take k) < size := fun k hlt => by
   rw [List.length_append, List.length_singleton] at hlt
   rw [List.take_append_of_le_length (by omega)]
   exact hk k (by omega)
  unfold goB at hb
  split at hb
  ·
   rcases List.mem_cons.1 hb with rfl | hb
   ·
    exact ⟨by simp, hpre⟩
   ·
    exact goB_ok size hs l [] 0 rfl (fun k hk0 => by simpa [sumC] using hs) b hb
  ·
   rename_i h
   refine goB_ok size hs l (now ++ [c]) (n + lenC c) (by rw [sumC_append, sumC_one, hn]) (fun k hk1 => ?_) b hb
   by_cases he : k = (now ++ [c]).length
   ·
    rw [he, List.take_length, sumC_append, sumC_one, ← hn]; omega
   ·
    exact hpre k (by omega)
theorem goB_full (size : Nat) : ∀ (l now : List Cell) (n : Nat), n = sumC now → ∀ (i : Nat) (h : i + 1 < (goB size l now n).length), size ≤ sumC ((goB size l now n)[i]'(by omega))
 | [], now, n, _, i, h => by
  exfalso
  unfold goB at h
  split at h <;> simp at h
 | c :: l, now, n, hn, i, h => by
  by_cases hc : n + lenC c ≥ size
  ·
   have e : goB size (c :: l) now n = (now ++ [c]) :: goB size l [] 0 := by
    conv => lhs; unfold goB
    rw [if_pos hc]
   cases i with
   | zero =>
    simp only [e, List.getElem_cons_zero]
    rw [sumC_append, sumC_one, ← hn]
    exact hc
   | succ i =>
    simp only [e, List.getElem_cons_succ]
    exact goB_full size l [] 0 rfl i (by rw [e] at h; simpa using h)
  ·
   have e : goB size (c :: l) now n = goB size l (now ++ [c]) (n + lenC c) := by
    conv => lhs; unfold goB
    rw [if_neg hc]
   simp only [e]
   exact goB_full size l (now ++ [c]) (n + lenC c) (by rw [sumC_append, sumC_one, hn]) i (by rw [e] at h; exact h)
theorem srt_parts {x : List (List Cell)} (h : SrtC x.flatten) : ∀ b ∈ x, SrtC b := fun b hb =>
 ⟨fun c hc => h.1 c (List.mem_flatten.2 ⟨b, hb, hc⟩), (List.pairwise_flatten.1 h.2).1 b hb⟩
end Go.Proofs.Ytinhpolmanccgaa.Pl
/- Filters: the program's functions answer the plain ones. -/
namespace Go.Proofs.Ytinhpolmanccgaa.Pl
open Go.RowKit Go.Proofs.Ytinhpolmanccgaa.X Go.Proofs.YtinhpolmanccgaaW.PrintWords Go.Proofs.YtinhpolmanccgaaW.PrintLast Go.Proofs.YtinhpolmanccgaaW.PrintMore
theorem u32w {x : Int} : IntKind.u32.wrap x = x % 4294967296 := by
 unfold IntKind.wrap
 simp only [IntKind.signed, IntKind.bits, Bool.false_and, Bool.false_eq_true, if_false]
 rfl
theorem bytesOf_len (s : ByteArray) : (bytesOf s).length = s.size := by
 have h := strOf_size (bytesOf s)
 rw [strOf_bytesOf] at h
 exact h.symm
theorem bloom_Bits_ev {key : ByteArray} {n : Int} (hk : key.size ≤ 100000) (h0 : 0 < n) (h1 : n ≤ 4294967295) : Ev (fun k => bloom_Bits.f k key n) (bitsK key n) := by
 unfold bloom_Bits.f
 have hl := bytesOf_len key
 have hb : Bytes ([1] ++ bytesOf key) := Bytes.append (Bytes.cons (by decide) (by decide) Bytes.nil) (bytes_bytesOf _)
 refine Ev.pos (by omega) (Ev.bind (check_Sum_ev (bytes_bytesOf key) (by omega)) (Ev.bind (check_Sum_ev hb (by simp only [List.length_append, List.length_cons, List.length_nil]; omega)) ?_))
 have hw : IntKind.u32.wrap n = n := by rw [u32w]; omega
 rw [hw]
 refine Ev.neg (by omega) ?_
 obtain ⟨a0, a1⟩ := crcSum_in (bytesOf key)
 obtain ⟨b0, b1⟩ := crcSum_in ([1] ++ bytesOf key)
 unfold bitsK
 generalize crcSum (bytesOf key) = a at a0 a1 ⊢
 generalize crcSum ([1] ++ bytesOf key) = b at b0 b1 ⊢
 have e : bloom_Bits.outs a b n 3 = [a % n, (a + b) % 4294967296 % n, (a + 2 * b) % 4294967296 % n] := by
  have hq : ∀ x : Int, 0 ≤ x → x < 4294967296 → wrap64 (Int.tmod x n) = x % n := fun x hx0 hx1 => by
   rw [Int.tmod_eq_emod_of_nonneg hx0]
   have h2 := Int.emod_nonneg x (show n ≠ 0 by omega)
   have h3 := Int.emod_lt_of_pos x h0
   exact w64 (by omega) (by omega)
  have e0 : bloom_Bits.acc a b 0 = a := rfl
  have e1 : bloom_Bits.acc a b 1 = (a + b) % 4294967296 := by show IntKind.u32.wrap (a + b) = _; rw [u32w]
  have e2 : bloom_Bits.acc a b 2 = (a + 2 * b) % 4294967296 := by
   show IntKind.u32.wrap (bloom_Bits.acc a b 1 + b) = _
   rw [e1, u32w]
   omega
  show (([] ++ [wrap64 (Int.tmod (bloom_Bits.acc a b 0) n)]) ++ [wrap64 (Int.tmod (bloom_Bits.acc a b 1) n)]) ++ [wrap64 (Int.tmod (bloom_Bits.acc a b 2) n)] = _
  rw [e0, e1, e2, hq a a0 (by omega), hq _ (Int.emod_nonneg _ (by omega)) (Int.emod_lt_of_pos _ (by omega)), hq _ (Int.emod_nonneg _ (by omega)) (Int.emod_lt_of_pos _ (by omega))]
  rfl
 rw [e]
 exact Ev.now _
theorem orBit_length (f : List Int) (i : Int) : (orBit f i).length = f.length := by unfold orBit; rw [List.length_set]
theorem bit_at {x : Int} {n : Nat} (x0 : 0 ≤ x) (x1 : x < 8 * (n : Int)) (hn : n ≤ 100000) : wrap64 (Int.tdiv x 8) = x / 8 ∧ Int.tmod x 8 = x % 8 ∧ 0 ≤ x / 8 ∧ x / 8 < (n : Int) ∧ 0 ≤ x % 8 ∧ (x / 8).toNat < n ∧ (x % 8).toNat < 8 := by
 have h1 : 0 ≤ x / 8 ∧ x / 8 < (n : Int) ∧ 0 ≤ x % 8 ∧ (x / 8).toNat < n ∧ (x % 8).toNat < 8 ∧ x / 8 < 1000000 := by omega
 refine ⟨?_, Int.tmod_eq_emod_of_nonneg x0, h1.1, h1.2.1, h1.2.2.1, h1.2.2.2.1, h1.2.2.2.2.1⟩
 rw [Int.tdiv_eq_ediv_of_nonneg x0]
 obtain ⟨h2, -, -, -, -, h3⟩ := h1
 generalize x / 8 = y at h2 h3 ⊢
 exact w64 (by omega) (by omega)
theorem make_l1 (keys : List ByteArray) (len q : Int) (bs : List Int) (r : List Int) (d : Nat) : ∀ (i : Nat) (f : List Int), i ≤ bs.length → bs.length ≤ 1000 → f.length ≤ 100000 → (∀ x ∈ bs, 0 ≤ x ∧ x < 8 * (f.length : Int)) → bs.length - i = d →
  Ev (fun k => bloom_Make.l0 k ((bs.drop i).foldl orBit f) keys len (wrap64 (q + 1))) r → Ev (fun k => bloom_Make.l1 k f keys len q bs (bs.length : Int) (i : Int)) r := by
 induction d with
 | zero =>
  intro i f hi hb hf hx hd hk
  rw [List.drop_eq_nil_of_le (by omega), List.foldl_nil] at hk
  exact Ev.step (fun k => by simp only [bloom_Make.l1]; rw [if_neg (by omega)]) hk
 | succ d ih =>
  intro i f hi hb hf hx hd hk
  have hlt : i < bs.length := by omega
  have q1 : (i : Int) < (bs.length : Int) := by omega
  have q2 : (0 : Int) ≤ (i : Int) := by omega
  have hr : rd bs (i : Int) = bs[i] := by unfold rd; rw [Int.toNat_natCast, List.getD_eq_getElem?_getD, List.getElem?_eq_getElem hlt]; rfl
  obtain ⟨x0, x1⟩ := hx _ (List.getElem_mem hlt)
  obtain ⟨e1, e2, p1, p2, p3, p4, p5⟩ := bit_at x0 x1 hf
  have e3 : wrap64 ((i : Int) + 1) = ((i + 1 : Nat) : Int) := by rw [w64 (by omega) (by omega)]; rfl
  have hstep : ∀ k, bloom_Make.l1 (k + 1) f keys len q bs (bs.length : Int) (i : Int) = bloom_Make.l1 k (orBit f bs[i]) keys len q bs (bs.length : Int) ((i + 1 : Nat) : Int) := fun k => by
   simp only [bloom_Make.l1]
   rw [if_pos q1, if_pos q2, if_pos q1, hr, e1, e2, if_pos p1, if_pos p2, if_pos p3, e3]
   unfold orBit
   with_reducible rfl
  have hl := orBit_length f bs[i]
  rw [List.drop_eq_getElem_cons hlt, List.foldl_cons] at hk
  have hx' : ∀ x ∈ bs, 0 ≤ x ∧ x < 8 * ((orBit f bs[i]).length : Int) := by rw [hl]; exact hx
  have hf' : (orBit f bs[i]).length ≤ 100000 := by rw [hl]; exact hf
  clear hx hf hr e1 e2 p1 p2 p3 p4 p5 x0 x1 hl
  generalize orBit f bs[i] = f2 at hstep hk hx' hf'
  exact Ev.step hstep (ih (i + 1) f2 hlt hb hf' hx' (by omega) hk)
theorem make_l0 (keys : List ByteArray) (m : Nat) (hm : m ≤ 100000) (hm0 : 0 < m) (hk : ∀ x ∈ keys, x.size ≤ 100000) (hl : keys.length ≤ 100000) (d : Nat) : ∀ (i : Nat) (s : List Bool), i ≤ keys.length → s.length = 8 * m → keys.length - i = d →
  Ev (fun k => bloom_Make.l0 k (bytesF s m) keys (keys.length : Int) (i : Int)) (bytesF (setK (8 * (m : Int)) s (keys.drop i)) m) := by
 induction d with
 | zero =>
  intro i s hi hs hd
  rw [List.drop_eq_nil_of_le (by omega)]
  exact Ev.step (f := fun _ => some (bytesF s m)) (fun k => by simp only [bloom_Make.l0]; rw [if_neg (by omega)]) (Ev.now _)
 | succ d ih =>
  intro i s hi hs hd
  have hlt : i < keys.length := by omega
  have hr : rdOf ByteArray.empty keys (i : Int) = keys[i] := by unfold rdOf; rw [Int.toNat_natCast, List.getD_eq_getElem?_getD, List.getElem?_eq_getElem hlt]; rfl
  have hbl := bytesF_length s m
  have e1 : wrap64 (8 * ((bytesF s m).length : Int)) = 8 * (m : Int) := by rw [hbl, w64 (by omega) (by omega)]
  have e3 : wrap64 ((i : Int) + 1) = ((i + 1 : Nat) : Int) := by rw [w64 (by omega) (by omega)]; rfl
  refine Ev.step (fun k => by simp only [bloom_Make.l0]; rw [if_pos (by omega), if_pos (by omega), if_pos (by omega), hr, e1]) (Ev.bind (bloom_Bits_ev (hk _ (List.getElem_mem hlt)) (by omega) (by omega)) ?_)
  refine make_l1 keys _ _ _ _ _ 0 (bytesF s m) (Nat.zero_le _) (by simp [bitsK]) (by rw [hbl]; exact hm) (by rw [hbl]; exact bitsK_in (by omega)) rfl ?_
  rw [List.drop_zero, e3]
  have hfold : ∀ (l : List Int) (s : List Bool), s.length = 8 * m → (∀ x ∈ l, 0 ≤ x ∧ x < 8 * (m : Int)) → l.foldl orBit (bytesF s m) = bytesF (l.foldl setBit s) m := by
   intro l
   induction l with
   | nil => intro s _ _; rfl
   | cons x l ihl =>
    intro s hs hx
    obtain ⟨x0, x1⟩ := hx x List.mem_cons_self
    rw [List.foldl_cons, List.foldl_cons, orBit_bytes s m hs x x0 x1]
    exact ihl _ (by unfold setBit; rw [List.length_set]; exact hs) (fun y hy => hx y (List.mem_cons_of_mem _ hy))
  rw [hfold _ s hs (bitsK_in (by omega)), List.drop_eq_getElem_cons hlt]
  exact ih (i + 1) _ (by omega) (by rw [foldl_set_length]; exact hs) (by omega)
theorem bytesF_zero (m : Nat) : List.replicate m (0 : Int) = bytesF (List.replicate (8 * m) false) m := by
 apply List.ext_getElem
 ·
  rw [List.length_replicate, bytesF_length]
 ·
  intro j h1 h2
  rw [List.length_replicate] at h1
  rw [List.getElem_replicate, bytesF_at _ h1]
  have hf : ∀ q : Nat, (List.replicate (8 * m) false).getD q false = false := fun q => by
   rw [List.getD_eq_getElem?_getD, List.getElem?_replicate]
   split <;> rfl
  unfold byteOf
  simp only [hf]
  decide
theorem bloom_Make_ev {keys : List ByteArray} (hk : ∀ x ∈ keys, x.size ≤ 100000) (hl : keys.length ≤ 100000) : Ev (fun k => bloom_Make.f k keys) (makeF keys) := by
 unfold bloom_Make.f
 have hz : mx 1 (wrap64 (Int.tdiv (wrap64 ((keys.length : Int) * 8)) 8)) = (sizeK keys : Int) := by
  rw [w64 (x := (keys.length : Int) * 8) (by omega) (by omega), Int.tdiv_eq_ediv_of_nonneg (by omega), w64 (by omega) (by omega)]
  unfold mx sizeK
  split <;> omega
 rw [hz]
 have hs1 : sizeK keys ≤ 100000 := by unfold sizeK; omega
 have hs0 : 0 < sizeK keys := by unfold sizeK; omega
 refine Ev.pos (by omega) (Ev.pos (by omega) ?_)
 rw [Int.toNat_natCast, bytesF_zero]
 exact make_l0 keys (sizeK keys) hs1 hs0 hk hl keys.length 0 _ (Nat.zero_le _) (by rw [List.length_replicate]) rfl
theorem has_l0 (f : List Int) (hf : f.length ≤ 100000) (hb : Bytes f) (bs : List Int) (hx : ∀ x ∈ bs, 0 ≤ x ∧ x < 8 * (f.length : Int)) (hl : bs.length ≤ 1000) (d : Nat) : ∀ i : Nat, i ≤ bs.length → bs.length - i = d →
  Ev (fun k => bloom_Has.l0 k f bs (bs.length : Int) (i : Int)) (hasB f (bs.drop i)) := by
 induction d with
 | zero =>
  intro i hi hd
  rw [List.drop_eq_nil_of_le (by omega)]
  exact Ev.step (f := fun _ => some true) (fun k => by simp only [bloom_Has.l0]; rw [if_neg (by omega)]) (Ev.now _)
 | succ d ih =>
  intro i hi hd
  have hlt : i < bs.length := by omega
  have q1 : (i : Int) < (bs.length : Int) := by omega
  have q2 : (0 : Int) ≤ (i : Int) := by omega
  have hr : rd bs (i : Int) = bs[i] := by unfold rd; rw [Int.toNat_natCast, List.getD_eq_getElem?_getD, List.getElem?_eq_getElem hlt]; rfl
  obtain ⟨x0, x1⟩ := hx _ (List.getElem_mem hlt)
  obtain ⟨e1, e2, p1, p2, p3, p4, p5⟩ := bit_at x0 x1 hf
  have e3 : wrap64 ((i : Int) + 1) = ((i + 1 : Nat) : Int) := by rw [w64 (by omega) (by omega)]; rfl
  refine Ev.step (fun k => by simp only [bloom_Has.l0]; rw [if_pos q1, if_pos q2, if_pos q1, hr, e1, e2, if_pos p1, if_pos p2, if_pos p3, e3]) ?_
  have hq : rd f (bs[i] / 8) = f[(bs[i] / 8).toNat]'p4 := by
   unfold rd
   rw [List.getD_eq_getElem?_getD, List.getElem?_eq_getElem p4]
   rfl
  obtain ⟨v0, v1⟩ := hb _ (List.getElem_mem p4)
  rw [← hq] at v0 v1
  have v2 : (rd f (bs[i] / 8)).toNat < 256 := by generalize rd f (bs[i] / 8) = v at v0 v1 ⊢; omega
  have ht := test_dec ⟨(rd f (bs[i] / 8)).toNat, v2⟩ ⟨(bs[i] % 8).toNat, p5⟩
  simp only [Int.toNat_of_nonneg v0, Int.toNat_of_nonneg (Int.emod_nonneg bs[i] (show (8 : Int) ≠ 0 by decide))] at ht
  have ht2 := decide_eq_decide.1 ht
  rw [List.drop_eq_getElem_cons hlt]
  unfold hasB
  rw [List.all_cons]
  by_cases hc : (rd f (bs[i] / 8) / 2 ^ (bs[i] % 8).toNat) % 2 = 0
  ·
   rw [decide_eq_false (fun h => h hc), Bool.false_and]
   exact Ev.pos (ht2.2 hc) (Ev.now _)
  ·
   have hc' := fun h => hc (ht2.1 h)
   rw [decide_eq_true hc, Bool.true_and]
   clear hc ht ht2 v0 v1 v2 hq e1 e2 p1 p2 p3 p4 p5 x0 x1 hr
   exact Ev.neg hc' (ih (i + 1) (by omega) (by omega))
theorem bloom_Has_ev {f : List Int} {key : ByteArray} (hf : f.length ≤ 100000) (hb : Bytes f) (hk : key.size ≤ 100000) : Ev (fun k => bloom_Has.f k f key) (hasF f key) := by
 unfold bloom_Has.f hasF
 by_cases h0 : f.length = 0
 ·
  rw [if_pos h0]
  exact Ev.pos (by omega) (Ev.now _)
 ·
  rw [if_neg h0]
  have e1 : wrap64 (8 * (f.length : Int)) = 8 * (f.length : Int) := w64 (by omega) (by omega)
  rw [e1]
  refine Ev.neg (by omega) (Ev.bind (bloom_Bits_ev hk (by omega) (by omega)) ?_)
  have := has_l0 f hf hb (bitsK key (8 * (f.length : Int))) (bitsK_in (by omega)) (by simp [bitsK]) _ 0 (Nat.zero_le _) rfl
  rwa [List.drop_zero] at this
end Go.Proofs.Ytinhpolmanccgaa.Pl
/- Tables built: the program's functions answer the plain ones. -/
namespace Go.Proofs.Ytinhpolmanccgaa.Pl
open Go.RowKit Go.Proofs.Ytinhpolmanccgaa.X Go.Proofs.YtinhpolmanccgaaW.PrintWords Go.Proofs.YtinhpolmanccgaaW.PrintLast Go.Proofs.YtinhpolmanccgaaW.PrintMore
theorem table_text_eq {r c : ByteArray} (hr : r.size ≤ 1000000) (hc : c.size ≤ 1000000) : table_text.f r c = some (keyT r c) := by
 unfold table_text.f
 rw [wire_Text_eq (by omega), wire_Text_eq (by omega)]
 simp only [Option.bind_some]
 have h1 := text_length_le r
 have h2 := text_length_le c
 rw [if_pos (by rw [strOf_size, strOf_size]; omega)]
 rfl
theorem keysT_small {l : List Cell} (hr : RightsC l) : ∀ x ∈ keysT l, x.size ≤ 100000 := by
 intro x hx
 obtain ⟨c, hc, rfl⟩ := List.mem_map.1 hx
 obtain ⟨_, h1, _, h2, _⟩ := rightC_iff.1 (hr c hc)
 have := keyT_size c.f0 c.f1
 omega
theorem filter_l0 (l : List Cell) (hr : RightsC l) (hl : l.length ≤ 10000) (d : Nat) : ∀ i : Nat, i ≤ l.length → l.length - i = d → Ev (fun k => table_filter.l0 k (keysT (l.take i)) l (l.length : Int) (i : Int)) (filterB l) := by
 induction d with
 | zero =>
  intro i hi hd
  rw [List.take_of_length_le (by omega)]
  refine Ev.step (fun k => by simp only [table_filter.l0]; rw [if_neg (by omega)]) ?_
  exact Ev.bind (bloom_Make_ev (keysT_small hr) (by unfold keysT; rw [List.length_map]; omega)) (Ev.now _)
 | succ d ih =>
  intro i hi hd
  have hlt : i < l.length := by omega
  have q1 : (i : Int) < (l.length : Int) := by omega
  have q2 : (0 : Int) ≤ (i : Int) := by omega
  have hrd := rdC_at l i hlt
  unfold rdC at hrd
  obtain ⟨_, z1, _, z2, _⟩ := rightC_iff.1 (hr _ (List.getElem_mem hlt))
  have hlen : (keysT (l.take i)).length < 8796093022208 := by unfold keysT; rw [List.length_map, List.length_take]; omega
  have hih := ih (i + 1) (by omega) (by omega)
  have hsz1 : l[i].f0.size ≤ 1000000 := by omega
  have hsz2 : l[i].f1.size ≤ 1000000 := by omega
  have e3 : wrap64 ((i : Int) + 1) = ((i + 1 : Nat) : Int) := by rw [w64 (by omega) (by omega)]; rfl
  have e4 : keysT (l.take i) ++ [keyT l[i].f0 l[i].f1] = keysT (l.take (i + 1)) := by
   unfold keysT
   rw [List.take_succ_eq_append_getElem hlt, List.map_append]
   rfl
  refine Ev.step (f := fun k => table_filter.l0 k (keysT (l.take (i + 1))) l (l.length : Int) ((i + 1 : Nat) : Int)) (fun k => ?_) hih
  simp only [table_filter.l0]
  rw [if_pos q1, if_pos q2, if_pos q1, hrd, table_text_eq hsz1 hsz2, Option.bind_some, if_pos hlen, e3, e4]
theorem table_filter_ev {l : List Cell} (hr : RightsC l) (hl : l.length ≤ 10000) : Ev (fun k => table_filter.f k l) (filterB l) := by
 unfold table_filter.f
 exact filter_l0 l hr hl l.length 0 (Nat.zero_le _) rfl
theorem rdL_at (bs : List (List Cell)) (i : Nat) (h : i < bs.length) : rd_L7 bs (i : Int) = bs[i] := by
 show bs.getD (i : Int).toNat _ = _
 rw [Int.toNat_natCast, List.getD_eq_getElem?_getD, List.getElem?_eq_getElem h]
 rfl
theorem put_blk {b : List Cell} (h : BlkOk b) : Ev (fun k => block_Put.f k b) (frame (bodyB b), 0) := by
 have := block_Put_ev (l := b) h.2.2
 unfold putB at this
 rwa [if_pos ⟨sortedC_iff.2 h.1, fun he => h.2.1 (List.eq_nil_of_length_eq_zero he)⟩] at this
theorem built_l0 (bs : List (List Cell)) (fl : List Int) (hok : ∀ b ∈ bs, BlkOk b) (hb : bs.length ≤ 200) (hf : fl.length ≤ 1000) (d : Nat) : ∀ (i : Nat) (all foot : List Int), i ≤ bs.length → bs.length - i = d → all.length ≤ 60166 * i → foot.length ≤ 4 + 149 * i → Bytes foot →
  Ev (fun k => table_built.l0 k fl all foot bs (bs.length : Int) (i : Int)) (all ++ allB (bs.drop i), frame (foot ++ (footL all.length (bs.drop i) ++ text (strOfNums fl))), 0) := by
 induction d with
 | zero =>
  intro i all foot hi hd ha hfo hby
  rw [List.drop_eq_nil_of_le (by omega)]
  have h3 := text_length_le (strOfNums fl)
  rw [strOf_size] at h3
  have h4 : (foot ++ text (strOfNums fl)).length ≤ 65535 := by rw [List.length_append]; omega
  have hp := frame_Put_ev (hby.append (bytes_text (strOfNums fl))) (by omega)
  rw [if_neg (by omega)] at hp
  refine Ev.step (fun k => by simp only [table_built.l0]; rw [if_neg (by omega), wire_Text_eq (by rw [strOf_size]; omega), Option.bind_some, if_pos (by omega)]) (Ev.bind hp (Ev.neg (frame_ne h4) ?_))
  exact (Ev.now _).to (by simp [allB, footL])
 | succ d ih =>
  intro i all foot hi hd ha hfo hby
  have hlt : i < bs.length := by omega
  have q1 : (i : Int) < (bs.length : Int) := by omega
  have q2 : (0 : Int) ≤ (i : Int) := by omega
  have hB := hok _ (List.getElem_mem hlt)
  have hrd := rdL_at bs i hlt
  have e3 : wrap64 ((i : Int) + 1) = ((i + 1 : Nat) : Int) := by rw [w64 (by omega) (by omega)]; rfl
  have hfr := frame_le hB
  have hkb := keyB_le hB
  have hnl := num_length_le all.length
  rw [List.drop_eq_getElem_cons hlt, allB_cons]
  obtain ⟨b, hbe⟩ : ∃ b, bs[i] = b := ⟨_, rfl⟩
  rw [hbe] at hB hrd hfr hkb ⊢
  cases b with
  | nil => exact absurd rfl hB.2.1
  | cons c b =>
   obtain ⟨_, z1, _, z2, _⟩ := rightC_iff.1 (hB.1.1 c List.mem_cons_self)
   have hcp : cell_Put.f c.f0 c.f1 c.f2 ⟨#[]⟩ false = some (keyB (c :: b)) := cell_Put_eq c.f2 false (by omega) (by omega) (by decide)
   have hcc : slices_Concat_byte_byte.f [foot, keyB (c :: b), num all.length] = some (foot ++ keyB (c :: b) ++ num all.length) := by
    rw [concat_eq (by simp only [lenSum, List.map_cons, List.map_nil, List.sum_cons, List.sum_nil]; omega)]
    simp
   have hput := put_blk hB
   have e5 : footL all.length ((c :: b) :: bs.drop (i + 1)) = keyB (c :: b) ++ (num all.length ++ footL (all.length + (frame (bodyB (c :: b))).length) (bs.drop (i + 1))) := rfl
   rw [e5]
   have hbF : 0 < ((c :: b).length : Int) := by simp only [List.length_cons]; omega
   have hk0 : rd_T42 (c :: b) 0 = c := rfl
   generalize frame (bodyB (c :: b)) = F at hput hfr ⊢
   have hkb2 := bytes_keyB (c :: b)
   generalize keyB (c :: b) = K at hkb hcp hcc hkb2 ⊢
   have hkey : table_key.f c.f0 c.f1 c.f2 c.f3 c.f4 = some (c.f0, c.f1, c.f2, ⟨#[]⟩, false) := rfl
   have hal : all.length + F.length < 140737488355328 := by omega
   have hstep : Ev (fun k => table_built.l0 k fl (all ++ F) (foot ++ K ++ num all.length) bs (bs.length : Int) ((i + 1 : Nat) : Int)) (all ++ (F ++ allB (bs.drop (i + 1))), frame (foot ++ (K ++ (num all.length ++ footL (all.length + F.length) (bs.drop (i + 1))) ++ text (strOfNums fl))), 0) := by
    refine (ih (i + 1) (all ++ F) (foot ++ K ++ num all.length) (by omega) (by omega) (by rw [List.length_append]; omega) (by simp only [List.length_append]; omega) ((hby.append hkb2).append (bytes_num _))).to ?_
    rw [List.length_append]
    simp only [List.append_assoc]
   refine Ev.step (f := fun k => (block_Put.f k (c :: b)).bind fun bt => if bt.2 = 0 then (if all.length + bt.1.length < 140737488355328 then table_built.l0 k fl (all ++ bt.1) (foot ++ K ++ num all.length) bs (bs.length : Int) ((i + 1 : Nat) : Int) else none) else some ([], [], bt.2)) (fun k => ?_) (Ev.bind hput (Ev.pos rfl (Ev.pos hal hstep)))
   simp only [table_built.l0]
   rw [if_pos q1, if_pos q2, if_pos q1, hrd, e3]
   simp only [if_pos hbF, hk0, hkey, hcp, hcc, wire_Num_eq, Option.bind_some]
theorem built_ev {bs : List (List Cell)} {fl : List Int} (hok : ∀ b ∈ bs, BlkOk b) (hb : bs.length ≤ 200) (hf : fl.length ≤ 1000) : Ev (fun k => table_built.f k bs fl) (allB bs, frame (footC bs fl), 0) := by
 unfold table_built.f
 have hn := num_length_le bs.length
 refine Ev.bind (Ev.eq (wire_Num_eq _)) ?_
 have := built_l0 bs fl hok hb hf bs.length 0 [] (num bs.length) (Nat.zero_le _) rfl (by simp) (by omega) (bytes_num _)
 rw [List.drop_zero, List.nil_append] at this
 exact this
theorem bytes_ev {bs : List (List Cell)} {fl : List Int} (hok : ∀ b ∈ bs, BlkOk b) (hb : bs.length ≤ 200) (hf : fl.length ≤ 1000) : Ev (fun k => table_bytes.f k bs fl) (tableB bs fl, 0) := by
 unfold table_bytes.f
 have h1 := allB_le bs hok
 have h2 := footC_le hok hb hf
 have h3 := frame_length (r := footC bs fl) (by omega)
 have h4 := num_length_le (frame (footC bs fl)).length
 refine Ev.bind (built_ev hok hb hf) (Ev.pos rfl (Ev.bind (Ev.eq (wire_Num_eq _)) (Ev.bind (Ev.eq (concat_eq ?_)) ?_)))
 ·
  show lenSum [allB bs, frame (footC bs fl), num (frame (footC bs fl)).length] ≤ _
  simp only [lenSum, List.map_cons, List.map_nil, List.sum_cons, List.sum_nil]
  omega
 ·
  exact (Ev.now _).to (by simp [tableB])
theorem mem_flatten_le {b : List Cell} : ∀ {x : List (List Cell)}, b ∈ x → b.length ≤ x.flatten.length
 | [], h => by cases h
 | a :: x, h => by
  rw [List.flatten_cons, List.length_append]
  rcases List.mem_cons.1 h with rfl | h
  ·
   omega
  ·
   have := mem_flatten_le h
   omega
theorem goB_blk {l : List Cell} (h : SrtC l) (hl : l.length ≤ 150) {size : Nat} (hs : 0 < size) : ∀ b ∈ goB size l [] 0, BlkOk b := by
 intro b hb
 have hfl := goB_flat size l [] 0
 rw [List.nil_append] at hfl
 have hp := srt_parts (x := goB size l [] 0) (by rw [hfl]; exact h) b hb
 refine ⟨hp, (goB_ok size hs l [] 0 rfl (fun k hk => by
  have : k = 0 := by simpa using hk
  subst this
  simpa [sumC] using hs) b hb).1, ?_⟩
 have hlen : b.length ≤ (goB size l [] 0).flatten.length := by
  exact mem_flatten_le hb
 rw [hfl] at hlen
 omega
end Go.Proofs.Ytinhpolmanccgaa.Pl
/- The reference's checksum answers the plain one. -/
namespace Go.Proofs.Ytinhpolmanccgaa.Pl
open Go.RowKit Go.Proofs.Ytinhpolmanccgaa.X Go.Proofs.YtinhpolmanccgaaW.PrintWords Go.Proofs.YtinhpolmanccgaaW.PrintLast Go.Proofs.YtinhpolmanccgaaW.PrintMore
theorem rd_at2 (l : List Int) (i : Nat) (h : i < l.length) : rd l (i : Int) = l[i] := by
 simp [rd, List.getD_eq_getElem?_getD, List.getElem?_eq_getElem h]
theorem ref_Sum_l1 (l : List Int) (i : Nat) {r : Int} (m : Nat) : ∀ (j w : Nat), j + m = 8 → w < 4294967296 →
  Ev (fun k => shardlogref02_Sum.l0 k l ((goN m w : Nat) : Int) (wrap64 ((i : Int) + 1))) r → Ev (fun k => shardlogref02_Sum.l1 k l (w : Int) (i : Int) (j : Int)) r := by
 induction m with
 | zero =>
  intro j w hj hw h
  refine Ev.step (fun k => ?_) h
  simp only [shardlogref02_Sum.l1]
  rw [if_neg (by omega)]
  rfl
 | succ m ih =>
  intro j w hj hw h
  refine Ev.step (f := fun k => shardlogref02_Sum.l1 k l ((bitN w : Nat) : Int) (i : Int) ((j + 1 : Nat) : Int)) (fun k => ?_) (ih (j + 1) (bitN w) (by omega) (bitN_lt hw) h)
  have ht : Int.tmod (w : Int) 2 = ((w % 2 : Nat) : Int) := by rw [Int.tmod_eq_emod_of_nonneg (by omega)]; omega
  have hd : Int.tdiv (w : Int) 2 % 4294967296 = ((w / 2 : Nat) : Int) := by rw [Int.tdiv_eq_ediv_of_nonneg (by omega)]; omega
  simp only [shardlogref02_Sum.l1]
  rw [if_pos (by omega), ht, hd, w64 (by omega) (by omega)]
  unfold bitN
  by_cases h1 : w % 2 = 1
  ·
   rw [if_pos (by omega), if_pos h1, show Go.bits .xor .u32 ((w / 2 : Nat) : Int) 2197175160 = ((w / 2 ^^^ 2197175160 : Nat) : Int) from bits_xor32 (a := w / 2) (b := 2197175160) (by omega) (by omega)]
   rfl
  ·
   rw [if_neg (by omega), if_neg h1]
   rfl
theorem ref_Sum_l0 {l : List Int} (hb : Bytes l) (hl : l.length ≤ 140737488355328) (d : Nat) : ∀ (i w : Nat), i ≤ l.length → l.length - i = d → w < 4294967296 →
  Ev (fun k => shardlogref02_Sum.l0 k l (w : Int) (i : Int)) ((4294967295 - crcN w (l.drop i) : Nat) : Int) := by
 induction d with
 | zero =>
  intro i w hi hd hw
  rw [List.drop_eq_nil_of_le (by omega)]
  refine Ev.step (f := fun _ => some ((4294967295 - w : Nat) : Int)) (fun k => ?_) (Ev.now _)
  simp only [shardlogref02_Sum.l0]
  rw [if_neg (by omega)]
  congr 1
  omega
 | succ d ih =>
  intro i w hi hd hw
  have h1 : i < l.length := by omega
  have hc := hb _ (List.getElem_mem h1)
  have hc1 : l[i] % 4294967296 = (((l[i]).toNat : Nat) : Int) := by omega
  have hc2 : (l[i]).toNat < 4294967296 := by omega
  have hx : w ^^^ (l[i]).toNat < 4294967296 := Nat.xor_lt_two_pow (n := 32) hw hc2
  rw [List.drop_eq_getElem_cons h1]
  have hn := ih (i + 1) (stepN w (l[i]).toNat) (by omega) (by omega) (stepN_lt hw (by omega))
  refine Ev.step (f := fun k => shardlogref02_Sum.l1 k l ((w ^^^ (l[i]).toNat : Nat) : Int) (i : Int) ((0 : Nat) : Int)) (fun k => ?_) (ref_Sum_l1 l i 8 0 _ (by omega) hx ?_)
  ·
   simp only [shardlogref02_Sum.l0]
   rw [if_pos (by omega), if_pos (by omega), rd_at2 _ _ h1, hc1, bits_xor32 hw hc2]
   rfl
  ·
   rw [w64 (by omega) (by omega)]
   exact hn
theorem ref_Sum_ev {l : List Int} (hb : Bytes l) (hl : l.length ≤ 140737488355328) : Ev (fun k => shardlogref02_Sum.f k l) (crcSum l) := by
 unfold shardlogref02_Sum.f
 have h := ref_Sum_l0 hb hl l.length 0 4294967295 (by omega) (by omega) (by omega)
 rw [List.drop_zero, ← crcSum_def] at h
 exact h
end Go.Proofs.Ytinhpolmanccgaa.Pl
/- Filters, by the reference. -/
namespace Go.Proofs.Ytinhpolmanccgaa.Pl
open Go.RowKit Go.Proofs.Ytinhpolmanccgaa.X Go.Proofs.YtinhpolmanccgaaW.PrintWords Go.Proofs.YtinhpolmanccgaaW.PrintLast Go.Proofs.YtinhpolmanccgaaW.PrintMore
theorem bytesOf_len2 (s : ByteArray) : (bytesOf s).length = s.size := by
 have h := strOf_size (bytesOf s)
 rw [strOf_bytesOf] at h
 exact h.symm
theorem ref_Bits_ev {key : ByteArray} {n : Int} (hk : key.size ≤ 100000) (h0 : 0 < n) : Ev (fun k => shardlogref11_Bits.f k key n) (bitsK key n) := by
 unfold shardlogref11_Bits.f
 have hl := bytesOf_len2 key
 have hb : Bytes ([1] ++ bytesOf key) := Bytes.append (Bytes.cons (by decide) (by decide) Bytes.nil) (bytes_bytesOf _)
 refine Ev.pos (by omega) (Ev.bind (ref_Sum_ev (bytes_bytesOf key) (by omega)) ?_)
 simp only [Option.bind_some]
 refine Ev.pos (by simp only [List.length_cons, List.length_nil]; omega) (Ev.bind (ref_Sum_ev hb (by simp only [List.length_append, List.length_cons, List.length_nil]; omega)) (Ev.neg (by omega) ?_))
 obtain ⟨a0, a1⟩ := crcSum_in (bytesOf key)
 obtain ⟨b0, b1⟩ := crcSum_in ([1] ++ bytesOf key)
 unfold bitsK
 generalize crcSum (bytesOf key) = a at a0 a1 ⊢
 generalize crcSum ([1] ++ bytesOf key) = b at b0 b1 ⊢
 have e : [Int.tmod (wrap64 a) n, Int.tmod (Int.tmod (wrap64 (wrap64 a + wrap64 b)) 4294967296) n, Int.tmod (Int.tmod (wrap64 (wrap64 a + wrap64 (2 * wrap64 b))) 4294967296) n] = [a % n, (a + b) % 4294967296 % n, (a + 2 * b) % 4294967296 % n] := by
  rw [w64 (x := a) (by omega) (by omega), w64 (x := b) (by omega) (by omega), w64 (x := a + b) (by omega) (by omega), w64 (x := 2 * b) (by omega) (by omega), w64 (x := a + 2 * b) (by omega) (by omega)]
  rw [Int.tmod_eq_emod_of_nonneg a0, Int.tmod_eq_emod_of_nonneg (show 0 ≤ a + b by omega), Int.tmod_eq_emod_of_nonneg (show 0 ≤ a + 2 * b by omega), Int.tmod_eq_emod_of_nonneg (Int.emod_nonneg _ (by decide)), Int.tmod_eq_emod_of_nonneg (Int.emod_nonneg _ (by decide))]
 rw [e]
 exact Ev.now _
theorem ref_make_l1 (keys : List ByteArray) (x3 q : Int) (bs : List Int) (r : List Int) (d : Nat) : ∀ (i : Nat) (s : List Bool), i ≤ bs.length → bs.length ≤ 1000 → (∀ x ∈ bs, 0 ≤ x ∧ x < (s.length : Int)) → bs.length - i = d →
  Ev (fun k => shardlogref11_Make.l0 k keys x3 ((bs.drop i).foldl setBit s) (wrap64 (q + 1))) r → Ev (fun k => shardlogref11_Make.l1 k keys x3 s q bs (i : Int)) r := by
 induction d with
 | zero =>
  intro i s hi hb hx hd hk
  rw [List.drop_eq_nil_of_le (by omega), List.foldl_nil] at hk
  exact Ev.step (fun k => by simp only [shardlogref11_Make.l1]; rw [if_neg (by omega)]) hk
 | succ d ih =>
  intro i s hi hb hx hd hk
  have hlt : i < bs.length := by omega
  have q1 : (i : Int) < (bs.length : Int) := by omega
  have q2 : (0 : Int) ≤ (i : Int) := by omega
  have hr : rd bs (i : Int) = bs[i] := by unfold rd; rw [Int.toNat_natCast, List.getD_eq_getElem?_getD, List.getElem?_eq_getElem hlt]; rfl
  obtain ⟨x0, x1⟩ := hx _ (List.getElem_mem hlt)
  have e3 : wrap64 ((i : Int) + 1) = ((i + 1 : Nat) : Int) := by rw [w64 (by omega) (by omega)]; rfl
  have hstep : ∀ k, shardlogref11_Make.l1 (k + 1) keys x3 s q bs (i : Int) = shardlogref11_Make.l1 k keys x3 (setBit s bs[i]) q bs ((i + 1 : Nat) : Int) := fun k => by
   simp only [shardlogref11_Make.l1]
   rw [if_pos q1, if_pos q2, hr, if_pos x0, if_pos x1, e3]
   unfold setBit
   with_reducible rfl
  have hl : (setBit s bs[i]).length = s.length := by unfold setBit; rw [List.length_set]
  rw [List.drop_eq_getElem_cons hlt, List.foldl_cons] at hk
  have hx' : ∀ x ∈ bs, 0 ≤ x ∧ x < ((setBit s bs[i]).length : Int) := by rw [hl]; exact hx
  clear hx hr x0 x1 hl
  generalize setBit s bs[i] = s2 at hstep hk hx'
  exact Ev.step hstep (ih (i + 1) s2 hlt hb hx' (by omega) hk)
def accB (s : List Bool) (j : Nat) : Nat → Int → Int
 | 0, x => x
 | n + 1, x => accB s j n (2 * x + (s.getD (8 * j + n) false).toInt)
theorem accB_byte (s : List Bool) (j : Nat) : accB s j 8 0 = byteOf s j := by
 unfold byteOf bv
 simp only [accB, Nat.add_zero]
 omega
theorem ref_make_l3 (m : Nat) (hm : m ≤ 100000) (s : List Bool) (hs : s.length = 8 * m) (out : List Int) (j : Nat) (hj : j < m) (hout : out.length ≤ 1000000) (r : List Int) : ∀ (n : Nat) (x : Int), n ≤ 8 → 0 ≤ x → x < 2 ^ (8 - n) →
  Ev (fun k => shardlogref11_Make.l2 k (m : Int) s (out ++ [accB s j n x % 256]) (wrap64 ((j : Int) + 1))) r → Ev (fun k => shardlogref11_Make.l3 k (m : Int) s out (j : Int) x ((n : Int) - 1)) r
 | 0, x, _, _, _, hk => by
  refine Ev.step (fun k => by simp only [shardlogref11_Make.l3]; rw [if_neg (by omega), if_pos (by omega)]) ?_
  exact hk
 | n + 1, x, hn, h0, h1, hk => by
  have hx1 : x < 256 := Int.lt_of_lt_of_le h1 (by
   obtain h | h | h | h | h | h | h | h : n = 0 ∨ n = 1 ∨ n = 2 ∨ n = 3 ∨ n = 4 ∨ n = 5 ∨ n = 6 ∨ n = 7 := by omega
   all_goals (subst h; decide))
  have e1 : wrap64 (8 * (j : Int)) = 8 * (j : Int) := w64 (by omega) (by omega)
  have e0 : ((n + 1 : Nat) : Int) - 1 = (n : Int) := by omega
  have e2 : wrap64 (wrap64 (8 * (j : Int)) + (n : Int)) = ((8 * j + n : Nat) : Int) := by rw [e1, w64 (by omega) (by omega)]; omega
  have e3 : wrap64 (2 * x) = 2 * x := w64 (by omega) (by omega)
  have e4 : wrap64 (2 * x + 1) = 2 * x + 1 := w64 (by omega) (by omega)
  have e5 : wrap64 ((n : Int) - 1) = (n : Int) - 1 := w64 (by omega) (by omega)
  have hr : rdOf false s ((8 * j + n : Nat) : Int) = s.getD (8 * j + n) false := by unfold rdOf; rw [Int.toNat_natCast]
  have hp : (2 : Int) ^ (8 - n) = 2 * 2 ^ (8 - (n + 1)) := by
   rw [show 8 - n = (8 - (n + 1)) + 1 by omega, Int.pow_succ]
   omega
  have p1 : (0 : Int) ≤ ((8 * j + n : Nat) : Int) := by omega
  have p2 : ((8 * j + n : Nat) : Int) < (s.length : Int) := by omega
  have p3 : (n : Int) ≥ 0 := by omega
  rw [e0]
  cases hb : s.getD (8 * j + n) false with
  | true =>
   refine Ev.step (fun k => by simp only [shardlogref11_Make.l3]; rw [if_pos p3, e2, if_pos p1, if_pos p2, hr, hb, if_pos rfl, e3, e4, e5]) ?_
   refine ref_make_l3 m hm s hs out j hj hout r n (2 * x + 1) (by omega) (by omega) (by omega) ?_
   have hq : accB s j (n + 1) x = accB s j n (2 * x + 1) := by simp only [accB, hb]; rfl
   rw [hq] at hk
   exact hk
  | false =>
   refine Ev.step (fun k => by simp only [shardlogref11_Make.l3]; rw [if_pos p3, e2, if_pos p1, if_pos p2, hr, hb, if_neg Bool.false_ne_true, e3, e5]) ?_
   refine ref_make_l3 m hm s hs out j hj hout r n (2 * x) (by omega) (by omega) (by omega) ?_
   have hq : accB s j (n + 1) x = accB s j n (2 * x) := by simp only [accB, hb]; rw [show (false).toInt = 0 from rfl, Int.add_zero]
   rw [hq] at hk
   exact hk
theorem ref_make_l2 (m : Nat) (hm : m ≤ 100000) (s : List Bool) (hs : s.length = 8 * m) (d : Nat) : ∀ j : Nat, j ≤ m → m - j = d → Ev (fun k => shardlogref11_Make.l2 k (m : Int) s ((List.range j).map (byteOf s)) (j : Int)) (bytesF s m) := by
 induction d with
 | zero =>
  intro j hj hd
  have : j = m := by omega
  subst this
  exact Ev.step (f := fun _ => some (bytesF s j)) (fun k => by simp only [shardlogref11_Make.l2]; rw [if_neg (by omega)]; rfl) (Ev.now _)
 | succ d ih =>
  intro j hj hd
  have p1 : (j : Int) < (m : Int) := by omega
  refine Ev.step (fun k => by simp only [shardlogref11_Make.l2]; rw [if_pos p1]) ?_
  refine ref_make_l3 m hm s hs _ j (by omega) (by simp; omega) _ 8 0 (by omega) (by omega) (by decide) ?_
  have e3 : wrap64 ((j : Int) + 1) = ((j + 1 : Nat) : Int) := by rw [w64 (by omega) (by omega)]; rfl
  obtain ⟨b0, b1⟩ := bv_in (s.getD (8 * j) false) (s.getD (8 * j + 1) false) (s.getD (8 * j + 2) false) (s.getD (8 * j + 3) false) (s.getD (8 * j + 4) false) (s.getD (8 * j + 5) false) (s.getD (8 * j + 6) false) (s.getD (8 * j + 7) false)
  have hb : byteOf s j % 256 = byteOf s j := Int.emod_eq_of_lt b0 b1
  rw [accB_byte, hb, e3]
  have := ih (j + 1) (by omega) (by omega)
  rw [List.range_succ, List.map_append] at this
  exact this
theorem ref_make_l0 (keys : List ByteArray) (m : Nat) (hm : m ≤ 100000) (hm0 : 0 < m) (hk : ∀ x ∈ keys, x.size ≤ 100000) (hl : keys.length ≤ 100000) (d : Nat) : ∀ (i : Nat) (s : List Bool), i ≤ keys.length → s.length = 8 * m → keys.length - i = d →
  Ev (fun k => shardlogref11_Make.l0 k keys (m : Int) s (i : Int)) (bytesF (setK (8 * (m : Int)) s (keys.drop i)) m) := by
 induction d with
 | zero =>
  intro i s hi hs hd
  rw [List.drop_eq_nil_of_le (by omega)]
  refine Ev.step (fun k => by simp only [shardlogref11_Make.l0]; rw [if_neg (by omega)]) ?_
  exact ref_make_l2 m hm s hs m 0 (by omega) (by omega)
 | succ d ih =>
  intro i s hi hs hd
  have hlt : i < keys.length := by omega
  have q1 : (i : Int) < (keys.length : Int) := by omega
  have q2 : (0 : Int) ≤ (i : Int) := by omega
  have hr : rdOf ByteArray.empty keys (i : Int) = keys[i] := by unfold rdOf; rw [Int.toNat_natCast, List.getD_eq_getElem?_getD, List.getElem?_eq_getElem hlt]; rfl
  have e1 : wrap64 (8 * (m : Int)) = 8 * (m : Int) := w64 (by omega) (by omega)
  have e3 : wrap64 ((i : Int) + 1) = ((i + 1 : Nat) : Int) := by rw [w64 (by omega) (by omega)]; rfl
  refine Ev.step (fun k => by simp only [shardlogref11_Make.l0]; rw [if_pos q1, if_pos q2, hr, e1]) (Ev.bind (ref_Bits_ev (hk _ (List.getElem_mem hlt)) (by omega)) ?_)
  refine ref_make_l1 keys _ _ _ _ _ 0 s (Nat.zero_le _) (by simp [bitsK]) (by rw [hs]; exact fun x hx => by have := bitsK_in (show 0 < 8 * (m : Int) by omega) x hx; omega) rfl ?_
  rw [List.drop_zero, e3, List.drop_eq_getElem_cons hlt]
  exact ih (i + 1) _ (by omega) (by rw [foldl_set_length]; exact hs) (by omega)
theorem ref_make_j0 {keys : List ByteArray} {m : Nat} (hz : sizeK keys = m) (hk : ∀ x ∈ keys, x.size ≤ 100000) (hl : keys.length ≤ 100000) : Ev (fun k => shardlogref11_Make.j0 k keys (m : Int)) (makeF keys) := by
 have hs1 : sizeK keys ≤ 100000 := by unfold sizeK; omega
 have hs0 : 0 < sizeK keys := by unfold sizeK; omega
 have e1 : wrap64 (8 * (m : Int)) = ((8 * m : Nat) : Int) := by rw [w64 (by omega) (by omega)]; omega
 refine Ev.step (fun k => by simp only [shardlogref11_Make.j0]; rw [e1, if_pos (by omega), if_pos (by omega), Int.toNat_natCast]) ?_
 have := ref_make_l0 keys m (by omega) (by omega) hk hl keys.length 0 (List.replicate (8 * m) false) (Nat.zero_le _) (by rw [List.length_replicate]) rfl
 unfold makeF
 rw [hz]
 exact this
theorem ref_Make_ev {keys : List ByteArray} (hk : ∀ x ∈ keys, x.size ≤ 100000) (hl : keys.length ≤ 100000) : Ev (fun k => shardlogref11_Make.f k keys) (makeF keys) := by
 unfold shardlogref11_Make.f
 by_cases h : (keys.length : Int) = 0
 ·
  exact Ev.pos h (ref_make_j0 (m := 1) (by unfold sizeK; omega) hk hl)
 ·
  exact Ev.neg h (ref_make_j0 (by unfold sizeK; omega) hk hl)
end Go.Proofs.Ytinhpolmanccgaa.Pl
/- The reference's numbers. -/
namespace Go.Proofs.Ytinhpolmanccgaa.Pl
open Go.RowKit Go.Proofs.Ytinhpolmanccgaa.X Go.Proofs.YtinhpolmanccgaaW.PrintWords Go.Proofs.YtinhpolmanccgaaW.PrintLast Go.Proofs.YtinhpolmanccgaaW.PrintMore
theorem ref_Num_eq (n : Int) : shardlogref01_Num.f n = some (num n) := by
 unfold shardlogref01_Num.f num
 by_cases h0 : n < 0
 ·
  rw [if_pos h0, if_pos h0]
 ·
  rw [if_neg h0, if_neg h0]
  by_cases h1 : n > 4294967295
  ·
   rw [if_pos h1, if_pos h1]
  ·
   rw [if_neg h1, if_neg h1]
   have d : ∀ m : Int, 0 ≤ m → Int.tdiv n m = n / m := fun m hm => Int.tdiv_eq_ediv_of_nonneg (by omega)
   rw [d _ (by omega), d _ (by omega), d _ (by omega), w64 (by omega) (by omega), w64 (by omega) (by omega), w64 (by omega) (by omega)]
   rw [Int.tmod_eq_emod_of_nonneg (by omega), Int.tmod_eq_emod_of_nonneg (by omega), Int.tmod_eq_emod_of_nonneg (by omega)]
   have e : ∀ x : Int, x % 256 % 256 = x % 256 := fun x => by omega
   rw [e, e, e]
end Go.Proofs.Ytinhpolmanccgaa.Pl
/- The reference's texts. -/
namespace Go.Proofs.Ytinhpolmanccgaa.Pl
open Go.RowKit Go.Proofs.Ytinhpolmanccgaa.X Go.Proofs.YtinhpolmanccgaaW.PrintWords Go.Proofs.YtinhpolmanccgaaW.PrintLast Go.Proofs.YtinhpolmanccgaaW.PrintMore
theorem ref_Text_eq {s : ByteArray} (h : s.size ≤ 140737488351232) : shardlogref01_Text.f s = some (text s) := by
 unfold shardlogref01_Text.f
 rw [ref_Num_eq]
 simp only [Option.bind_some]
 rw [if_pos (by omega), if_pos (by have := num_length_le s.size; rw [bytesOf_size]; omega)]
 rfl
end Go.Proofs.Ytinhpolmanccgaa.Pl
/- The reference's bytes of a cell. -/
namespace Go.Proofs.Ytinhpolmanccgaa.Pl
open Go.RowKit Go.Proofs.Ytinhpolmanccgaa.X Go.Proofs.YtinhpolmanccgaaW.PrintWords Go.Proofs.YtinhpolmanccgaaW.PrintLast Go.Proofs.YtinhpolmanccgaaW.PrintMore
theorem ref_CPut_ev {r c : ByteArray} (t : Int) {v : ByteArray} (g : Bool) (hr : r.size ≤ 1000000) (hc : c.size ≤ 1000000) (hv : v.size ≤ 1000000) : Ev (fun k => shardlogref08_Put.f k r c t v g) (cellB r c t v g) := by
 have h1 := text_length_le r
 have h2 := text_length_le c
 have h3 := text_length_le v
 have h4 := num_length_le t
 unfold shardlogref08_Put.f
 refine Ev.bind (Ev.eq (ref_Text_eq (by omega))) (Ev.bind (Ev.eq (ref_Text_eq (by omega))) (Ev.pos (by omega) ?_))
 refine Ev.step (fun k => by simp only [shardlogref08_Put.j0]; rfl) (Ev.bind (Ev.eq (ref_Num_eq _)) ?_)
 refine Ev.pos (by rw [List.length_append]; omega) ?_
 refine Ev.step (fun k => by simp only [shardlogref08_Put.j1]; rfl) ?_
 cases g with
 | true =>
  refine Ev.pos rfl ?_
  refine Ev.pos (by simp only [List.length_append]; omega) (Ev.bind (Ev.now _) (Ev.bind (Ev.eq (ref_Text_eq (by omega))) ?_))
  refine Ev.pos (by simp only [List.length_append, List.length_cons, List.length_nil]; omega) ((Ev.now _).to ?_)
  simp [cellB, flagC]
 | false =>
  refine Ev.neg Bool.false_ne_true ?_
  refine Ev.pos (by simp only [List.length_append]; omega) (Ev.bind (Ev.now _) (Ev.bind (Ev.eq (ref_Text_eq (by omega))) ?_))
  refine Ev.pos (by simp only [List.length_append, List.length_cons, List.length_nil]; omega) ((Ev.now _).to ?_)
  simp [cellB, flagC]
end Go.Proofs.Ytinhpolmanccgaa.Pl
/- The reference's bytes of a right cell. -/
namespace Go.Proofs.Ytinhpolmanccgaa.Pl
open Go.RowKit Go.Proofs.Ytinhpolmanccgaa.X Go.Proofs.YtinhpolmanccgaaW.PrintWords Go.Proofs.YtinhpolmanccgaaW.PrintLast Go.Proofs.YtinhpolmanccgaaW.PrintMore
theorem ref_put_C {c : Cell} (h : rightC c = true) : Ev (fun k => shardlogref08_Put.f k c.f0 c.f1 c.f2 c.f3 c.f4) (cellB c.f0 c.f1 c.f2 c.f3 c.f4) := by
 obtain ⟨_, h1, _, h2, _, _, h3, _⟩ := rightC_iff.1 h
 exact ref_CPut_ev _ _ (by omega) (by omega) (by omega)
end Go.Proofs.Ytinhpolmanccgaa.Pl
/- Cells, cut into blocks by the reference. -/
namespace Go.Proofs.Ytinhpolmanccgaa.Pl
open Go.RowKit Go.Proofs.Ytinhpolmanccgaa.X Go.Proofs.YtinhpolmanccgaaW.PrintWords Go.Proofs.YtinhpolmanccgaaW.PrintLast Go.Proofs.YtinhpolmanccgaaW.PrintMore
theorem ref_cut_l0 (size : Nat) (l : List Cell) (hr : RightsC l) (hl : l.length ≤ 900) (d : Nat) : ∀ (i n : Nat) (out : List (List Cell)) (now : List Cell), i ≤ l.length → l.length - i = d → n ≤ 401 * i → out.length ≤ i → now.length ≤ i → (i = l.length → now = []) → Ev (fun k => shardlogref10_Cut.l0 k l (size : Int) out now (n : Int) (i : Int)) (out ++ goB size (l.drop i) now n) := by
 induction d with
 | zero =>
  intro i n out now hi hd hn ho hw he
  rw [List.drop_eq_nil_of_le (by omega), he (by omega)]
  refine Ev.step (f := fun _ => some out) (fun k => ?_) ((Ev.now _).to (by simp [goB]))
  simp only [shardlogref10_Cut.l0]
  rw [if_neg (by omega)]
 | succ d ih =>
  intro i n out now hi hd hn ho hw he
  have hlt : i < l.length := by omega
  have hri := hr _ (List.getElem_mem hlt)
  have hz := lenC_le hri
  have hrd := rdC_at l i hlt
  unfold rdC at hrd
  rw [List.drop_eq_getElem_cons hlt]
  unfold goB
  have e1 : wrap64 ((n : Int) + ((cellB l[i].f0 l[i].f1 l[i].f2 l[i].f3 l[i].f4).length : Int)) = ((n + lenC l[i] : Nat) : Int) := by
   show wrap64 ((n : Int) + ((lenC l[i] : Nat) : Int)) = _
   rw [w64 (by omega) (by omega)]; rfl
  have e2 : wrap64 ((i : Int) + 1) = ((i + 1 : Nat) : Int) := by rw [w64 (by omega) (by omega)]; rfl
  refine Ev.step (fun k => by simp only [shardlogref10_Cut.l0]; rw [if_pos (by omega), if_pos (by omega), if_pos (by omega), hrd, Option.bind_some, e2]) (Ev.bind (ref_put_C hri) ?_)
  rw [e1]
  have jt : ∀ m : Nat, Ev (fun k => shardlogref10_Cut.l0 k l (size : Int) (out ++ [now ++ [l[i]]]) [] 0 ((i + 1 : Nat) : Int)) (out ++ ((now ++ [l[i]]) :: goB size (l.drop (i + 1)) [] 0)) → Ev (fun k => shardlogref10_Cut.j1 k l (size : Int) out (now ++ [l[i]]) (m : Int) (i : Int) true) (out ++ ((now ++ [l[i]]) :: goB size (l.drop (i + 1)) [] 0)) := fun m h => by
   refine Ev.step (fun k => by simp only [shardlogref10_Cut.j1, if_true]; rw [if_pos (by omega), e2]) h
  have hnext := ih (i + 1) 0 (out ++ [now ++ [l[i]]]) [] (by omega) (by omega) (by omega) (by rw [List.length_append, List.length_singleton]; omega) (by simp) (fun _ => rfl)
  rw [List.append_assoc] at hnext
  by_cases hs : n + lenC l[i] ≥ size
  ·
   rw [if_pos hs]
   exact Ev.pos (by omega) (jt _ hnext)
  ·
   rw [if_neg hs]
   refine Ev.neg (by omega) ?_
   by_cases hend : i + 1 = l.length
   ·
    rw [show (((i + 1 : Nat) : Int) == (l.length : Int)) = true by simp [hend]]
    refine (jt _ hnext).to ?_
    rw [List.drop_eq_nil_of_le (by omega)]
    simp [goB]
   ·
    rw [show (((i + 1 : Nat) : Int) == (l.length : Int)) = false by simp; omega]
    refine Ev.step (fun k => by simp only [shardlogref10_Cut.j1, Bool.false_eq_true, if_false]; rw [e2]) (ih (i + 1) (n + lenC l[i]) out (now ++ [l[i]]) (by omega) (by omega) (by omega) (by omega) (by rw [List.length_append, List.length_singleton]; omega) (fun h => absurd h hend))
theorem ref_Cut_ev {l : List Cell} (size : Int) (h1 : 1 ≤ size) (hr : RightsC l) (hl : l.length ≤ 900) : Ev (fun k => shardlogref10_Cut.f k l size) (goB size.toNat l [] 0) := by
 obtain ⟨n, rfl⟩ := Int.eq_ofNat_of_zero_le (show 0 ≤ size by omega)
 unfold shardlogref10_Cut.f
 rw [Int.toNat_natCast]
 by_cases h0 : l.length = 0
 ·
  have : l = [] := List.eq_nil_of_length_eq_zero h0
  subst this
  refine Ev.step (f := fun _ => some []) (fun k => ?_) ((Ev.now _).to (by simp [goB]))
  simp only [shardlogref10_Cut.l0]
  rw [if_neg (by simp)]
 ·
  have := ref_cut_l0 n l hr hl l.length 0 0 [] [] (by omega) (by omega) (by omega) (by simp) (by simp) (fun h => by omega)
  rw [List.nil_append] at this
  exact this
end Go.Proofs.Ytinhpolmanccgaa.Pl
/- The reference's frames, put. -/
namespace Go.Proofs.Ytinhpolmanccgaa.Pl
open Go.RowKit Go.Proofs.Ytinhpolmanccgaa.X Go.Proofs.YtinhpolmanccgaaW.PrintWords Go.Proofs.YtinhpolmanccgaaW.PrintLast Go.Proofs.YtinhpolmanccgaaW.PrintMore
theorem ref_FPut_ev {l : List Int} (hb : Bytes l) (hl : l.length ≤ 1000000) : Ev (fun k => shardlogref06_Put.f k l) (frame l) := by
 unfold shardlogref06_Put.f
 have n0 := num_length_le l.length
 obtain ⟨a0, a1⟩ := crcSum_in (num l.length)
 obtain ⟨b0, b1⟩ := crcSum_in l
 have n1 := num_length_le (crcSum (num l.length))
 have n2 := num_length_le (crcSum l)
 refine Ev.bind (Ev.eq (ref_Num_eq _)) (Ev.bind (Ev.now _) (Ev.pos (by simp only [List.length_nil]; omega) (Ev.bind (Ev.now _) (Ev.bind (ref_Sum_ev (bytes_num _) (by omega)) (Ev.bind (Ev.eq (ref_Num_eq _)) ?_)))))
 rw [w64 (by omega) (by omega)]
 refine Ev.pos (by simp only [List.nil_append]; omega) (Ev.bind (Ev.now _) (Ev.bind (ref_Sum_ev hb (by omega)) (Ev.bind (Ev.eq (ref_Num_eq _)) ?_)))
 rw [w64 (by omega) (by omega)]
 refine Ev.pos (by simp only [List.nil_append, List.length_append]; omega) (Ev.bind (Ev.now _) (Ev.pos (by simp only [List.nil_append, List.length_append]; omega) ((Ev.now _).to ?_)))
 simp [frame, sumB]
end Go.Proofs.Ytinhpolmanccgaa.Pl
/- A block's bytes, by the reference. -/
namespace Go.Proofs.Ytinhpolmanccgaa.Pl
open Go.RowKit Go.Proofs.Ytinhpolmanccgaa.X Go.Proofs.YtinhpolmanccgaaW.PrintWords Go.Proofs.YtinhpolmanccgaaW.PrintLast Go.Proofs.YtinhpolmanccgaaW.PrintMore
theorem ref_bput_l0 (l : List Cell) (hr : RightsC l) (hl : l.length ≤ 150) (d : Nat) : ∀ (i : Nat) (acc : List Int), i ≤ l.length → l.length - i = d → acc.length ≤ 4 + 401 * i → Bytes acc → Ev (fun k => shardlogref10_Put.l0 k l acc (i : Int)) (frame (acc ++ ((l.drop i).map oneB).flatten)) := by
 induction d with
 | zero =>
  intro i acc hi hd ha hb
  rw [List.drop_eq_nil_of_le (by omega)]
  refine Ev.step (fun k => by simp only [shardlogref10_Put.l0]; rw [if_neg (by omega)]) ?_
  refine Ev.bind (ref_FPut_ev hb (by omega)) ?_
  exact (Ev.now _).to (by simp)
 | succ d ih =>
  intro i acc hi hd ha hb
  have hlt : i < l.length := by omega
  have hri := hr _ (List.getElem_mem hlt)
  have hz := oneB_le hri
  have hrd := rdC_at l i hlt
  unfold rdC at hrd
  obtain ⟨_, z1, _, z2, _, _, z3, _⟩ := rightC_iff.1 hri
  have hp : Ev (fun k => shardlogref08_Put.f k l[i].f0 l[i].f1 l[i].f2 l[i].f3 l[i].f4) (oneB l[i]) := ref_CPut_ev _ _ (by omega) (by omega) (by omega)
  rw [List.drop_eq_getElem_cons hlt, List.map_cons, List.flatten_cons, ← List.append_assoc]
  refine Ev.step (fun k => by simp only [shardlogref10_Put.l0]; rw [if_pos (by omega), if_pos (by omega), hrd]) ?_
  refine Ev.bind hp ?_
  refine Ev.pos (by omega) ?_
  rw [w64 (by omega) (by omega)]
  exact ih (i + 1) (acc ++ oneB l[i]) (by omega) (by omega) (by rw [List.length_append]; omega) (hb.append (bytes_cellB _ _ _ _ _))
theorem ref_BPut_ev {l : List Cell} (hr : RightsC l) (hl : l.length ≤ 150) : Ev (fun k => shardlogref10_Put.f k l) (frame (bodyB l)) := by
 unfold shardlogref10_Put.f
 refine Ev.bind (Ev.eq (ref_Num_eq _)) ?_
 have := ref_bput_l0 l hr hl l.length 0 (num l.length) (by omega) (by omega) (by have := num_length_le l.length; omega) (bytes_num _)
 rw [List.drop_zero] at this
 exact this
end Go.Proofs.Ytinhpolmanccgaa.Pl
/- Tables built, by the reference. -/
namespace Go.Proofs.Ytinhpolmanccgaa.Pl
open Go.RowKit Go.Proofs.Ytinhpolmanccgaa.X Go.Proofs.YtinhpolmanccgaaW.PrintWords Go.Proofs.YtinhpolmanccgaaW.PrintLast Go.Proofs.YtinhpolmanccgaaW.PrintMore
theorem ref_Key_eq {r c : ByteArray} (hr : r.size ≤ 1000000) (hc : c.size ≤ 1000000) : shardlogref12_Key.f r c = some (keyT r c) := by
 unfold shardlogref12_Key.f
 rw [ref_Text_eq (by omega), ref_Text_eq (by omega)]
 simp only [Option.bind_some]
 have h1 := text_length_le r
 have h2 := text_length_le c
 rw [if_pos (by rw [strOf_size, strOf_size]; omega)]
 rfl
theorem ref_Build_l1 (l : List Cell) (hr : RightsC l) (hl : l.length ≤ 900) (all foot : List Int) (ha : all.length ≤ 100000000) (hf : foot.length ≤ 40000) (hb : Bytes foot) (d : Nat) : ∀ i : Nat, i ≤ l.length → l.length - i = d →
  Ev (fun k => shardlogref12_Build.l1 k l all foot (keysT (l.take i)) (i : Int)) (all ++ (frame (foot ++ text (strOfNums (filterB l))) ++ num (frame (foot ++ text (strOfNums (filterB l)))).length)) := by
 induction d with
 | zero =>
  intro i hi hd
  rw [List.take_of_length_le (by omega)]
  have hfl := filterB_length l
  have h3 := text_length_le (strOfNums (filterB l))
  rw [strOf_size] at h3
  have hm : Ev (fun k => shardlogref11_Make.f k (keysT l)) (filterB l) := ref_Make_ev (keysT_small hr) (by unfold keysT; rw [List.length_map]; omega)
  generalize filterB l = fl at hm hfl h3 ⊢
  have h4 : (foot ++ text (strOfNums (fl))).length ≤ 65535 := by rw [List.length_append]; omega
  have h5 := frame_length h4
  have h6 := num_length_le (frame (foot ++ text (strOfNums (fl)))).length
  have hp := ref_FPut_ev (hb.append (bytes_text (strOfNums (fl)))) (by omega)
  have ht := ref_Text_eq (s := strOfNums (fl)) (by rw [strOf_size]; omega)
  have c1 : foot.length + (text (strOfNums (fl))).length < 140737488355328 := by omega
  refine Ev.step (f := fun k => (shardlogref11_Make.f k (keysT l)).bind fun t734 => (shardlogref01_Text.f (strOfNums t734)).bind fun t737 => if foot.length + t737.length < 140737488355328 then (shardlogref06_Put.f k (foot ++ t737)).bind fun t743 => (if all.length + t743.length < 140737488355328 then ((some (all ++ t743 : List Int)).bind fun y746 => ((shardlogref01_Num.f (t743.length : Int)).bind fun t749 => (if y746.length + t749.length < 140737488355328 then (some (y746 ++ t749)) else (none)))) else (none)) else none) (fun k => by simp only [shardlogref12_Build.l1]; rw [if_neg (by omega)]) ?_
  refine Ev.bind hm (Ev.bind (Ev.eq ht) (Ev.pos c1 (Ev.bind hp ?_)))
  generalize frame (foot ++ text (strOfNums (fl))) = F at h5 h6 ⊢
  have c2 : all.length + F.length < 140737488355328 := by omega
  have c3 : (all ++ F).length + (num F.length).length < 140737488355328 := by rw [List.length_append]; omega
  refine Ev.pos c2 ?_
  simp only [Option.bind_some, ref_Num_eq, if_pos c3]
  exact (Ev.now _).to (by simp)
 | succ d ih =>
  intro i hi hd
  have hlt : i < l.length := by omega
  have q1 : (i : Int) < (l.length : Int) := by omega
  have q2 : (0 : Int) ≤ (i : Int) := by omega
  have hrd := rdC_at l i hlt
  unfold rdC at hrd
  obtain ⟨_, z1, _, z2, _⟩ := rightC_iff.1 (hr _ (List.getElem_mem hlt))
  have hlen : (keysT (l.take i)).length < 8796093022208 := by unfold keysT; rw [List.length_map, List.length_take]; omega
  have hih := ih (i + 1) (by omega) (by omega)
  have hsz1 : l[i].f0.size ≤ 1000000 := by omega
  have hsz2 : l[i].f1.size ≤ 1000000 := by omega
  have e3 : wrap64 ((i : Int) + 1) = ((i + 1 : Nat) : Int) := by rw [w64 (by omega) (by omega)]; rfl
  have e4 : keysT (l.take i) ++ [keyT l[i].f0 l[i].f1] = keysT (l.take (i + 1)) := by
   unfold keysT
   rw [List.take_succ_eq_append_getElem hlt, List.map_append]
   rfl
  refine Ev.step (f := fun k => shardlogref12_Build.l1 k l all foot (keysT (l.take (i + 1))) ((i + 1 : Nat) : Int)) (fun k => ?_) hih
  simp only [shardlogref12_Build.l1]
  rw [if_pos q1, if_pos q2, hrd, ref_Key_eq hsz1 hsz2, Option.bind_some, if_pos hlen, e3, e4]
theorem ref_Build_l0 (l : List Cell) (hr : RightsC l) (hl : l.length ≤ 900) (bs : List (List Cell)) (hok : ∀ b ∈ bs, BlkOk b) (hb : bs.length ≤ 200) (d : Nat) : ∀ (i : Nat) (all foot : List Int), i ≤ bs.length → bs.length - i = d → all.length ≤ 60166 * i → foot.length ≤ 4 + 149 * i → Bytes foot →
  Ev (fun k => shardlogref12_Build.l0 k l bs all foot (i : Int)) ((all ++ allB (bs.drop i)) ++ (frame ((foot ++ footL all.length (bs.drop i)) ++ text (strOfNums (filterB l))) ++ num (frame ((foot ++ footL all.length (bs.drop i)) ++ text (strOfNums (filterB l)))).length)) := by
 induction d with
 | zero =>
  intro i all foot hi hd ha hfo hby
  rw [List.drop_eq_nil_of_le (by omega)]
  have e1 : all ++ allB [] = all := by simp [allB]
  have e2 : foot ++ footL all.length [] = foot := by simp [footL]
  rw [e1, e2]
  exact Ev.step (fun k => by simp only [shardlogref12_Build.l0]; rw [if_neg (by omega)]; rfl) (ref_Build_l1 l hr hl all foot (by omega) (by omega) hby l.length 0 (Nat.zero_le _) rfl)
 | succ d ih =>
  intro i all foot hi hd ha hfo hby
  have hlt : i < bs.length := by omega
  have q1 : (i : Int) < (bs.length : Int) := by omega
  have q2 : (0 : Int) ≤ (i : Int) := by omega
  have hB := hok _ (List.getElem_mem hlt)
  have hrd := rdL_at bs i hlt
  have e3 : wrap64 ((i : Int) + 1) = ((i + 1 : Nat) : Int) := by rw [w64 (by omega) (by omega)]; rfl
  have hfr := frame_le hB
  have hkb := keyB_le hB
  have hnl := num_length_le all.length
  rw [List.drop_eq_getElem_cons hlt, allB_cons]
  obtain ⟨b, hbe⟩ : ∃ b, bs[i] = b := ⟨_, rfl⟩
  rw [hbe] at hB hrd hfr hkb ⊢
  cases b with
  | nil => exact absurd rfl hB.2.1
  | cons c b =>
   obtain ⟨_, z1, _, z2, _⟩ := rightC_iff.1 (hB.1.1 c List.mem_cons_self)
   have hcp : Ev (fun k => shardlogref08_Put.f k c.f0 c.f1 c.f2 ⟨#[]⟩ false) (keyB (c :: b)) := ref_CPut_ev c.f2 false (by omega) (by omega) (by decide)
   have hput := ref_BPut_ev hB.1.1 hB.2.2
   have e5 : footL all.length ((c :: b) :: bs.drop (i + 1)) = keyB (c :: b) ++ (num all.length ++ footL (all.length + (frame (bodyB (c :: b))).length) (bs.drop (i + 1))) := rfl
   rw [e5]
   have hbF : 0 < ((c :: b).length : Int) := by simp only [List.length_cons]; omega
   have hk0 : rd_T42 (c :: b) 0 = c := rfl
   generalize frame (bodyB (c :: b)) = F at hput hfr ⊢
   have hkb2 := bytes_keyB (c :: b)
   generalize keyB (c :: b) = K at hkb hcp hkb2 ⊢
   have hal : all.length + F.length < 140737488355328 := by omega
   have hal2 : foot.length + K.length < 140737488355328 := by omega
   have hal3 : (foot ++ K).length + (num all.length).length < 140737488355328 := by rw [List.length_append]; omega
   have hstep := ih (i + 1) (all ++ F) (foot ++ K ++ num all.length) (by omega) (by omega) (by rw [List.length_append]; omega) (by simp only [List.length_append]; omega) ((hby.append hkb2).append (bytes_num _))
   rw [List.length_append] at hstep
   simp only [List.append_assoc] at hstep ⊢
   refine Ev.step (f := fun k => (shardlogref08_Put.f k c.f0 c.f1 c.f2 ⟨#[]⟩ false).bind fun t709 => if foot.length + t709.length < 140737488355328 then (if (foot ++ t709).length + (num all.length).length < 140737488355328 then ((shardlogref10_Put.f k (c :: b)).bind fun t722 => if all.length + t722.length < 140737488355328 then shardlogref12_Build.l0 k l bs (all ++ t722) (foot ++ t709 ++ num all.length) ((i + 1 : Nat) : Int) else none) else none) else none) (fun k => ?_) (Ev.bind hcp (Ev.pos hal2 (Ev.pos hal3 (Ev.bind hput (Ev.pos hal (hstep.congr (fun k => by simp only [List.append_assoc])))))))
   simp only [shardlogref12_Build.l0]
   rw [if_pos q1, if_pos q2, hrd, e3]
   simp only [if_pos hbF, hk0, ref_Num_eq, Option.bind_some]
theorem ref_Build_ev {l : List Cell} {size : Int} (h1 : 1 ≤ size) (hs : SrtC l) (hl : l.length ≤ 150) : Ev (fun k => shardlogref12_Build.f k l size) (tableB (goB size.toNat l [] 0) (filterB l)) := by
 unfold shardlogref12_Build.f
 have hg := goB_length size.toNat l [] 0
 have hn := num_length_le (goB size.toNat l [] 0).length
 refine Ev.bind (ref_Cut_ev size h1 hs.1 (by omega)) (Ev.bind (Ev.eq (ref_Num_eq _)) ?_)
 have := ref_Build_l0 l hs.1 (by omega) (goB size.toNat l [] 0) (goB_blk hs hl (by omega)) (by omega) _ 0 [] (num (goB size.toNat l [] 0).length) (Nat.zero_le _) rfl (by simp) (by omega) (bytes_num _)
 rw [List.drop_zero, List.nil_append] at this
 refine this.to ?_
 unfold tableB footC
 simp only [List.append_assoc, List.length_nil]
end Go.Proofs.Ytinhpolmanccgaa.Pl
/- Bloom filters asked, by the reference. -/
namespace Go.Proofs.Ytinhpolmanccgaa.Pl
open Go.RowKit Go.Proofs.Ytinhpolmanccgaa.X Go.Proofs.YtinhpolmanccgaaW.PrintWords Go.Proofs.YtinhpolmanccgaaW.PrintLast Go.Proofs.YtinhpolmanccgaaW.PrintMore
theorem ref_has_l1 (f : List Int) (bs : List Int) (i : Nat) (hi : i < bs.length) (r : Bool) (hx : 0 ≤ bs[i]) : ∀ (d j : Nat) (x : Int), j + d = (bs[i] % 8).toNat → 0 ≤ x → x < 256 →
  (if (x / 2 ^ d) % 2 = 0 then r = false else Ev (fun k => shardlogref11_Has.l0 k f bs (wrap64 ((i : Int) + 1))) r) → Ev (fun k => shardlogref11_Has.l1 k f bs (i : Int) x (j : Int)) r := by
 have q1 : (i : Int) < (bs.length : Int) := by omega
 have q2 : (0 : Int) ≤ (i : Int) := by omega
 have hr : rd bs (i : Int) = bs[i] := by unfold rd; rw [Int.toNat_natCast, List.getD_eq_getElem?_getD, List.getElem?_eq_getElem hi]; rfl
 have e2 : Int.tmod bs[i] 8 = ((bs[i] % 8).toNat : Int) := by rw [Int.tmod_eq_emod_of_nonneg hx, Int.toNat_of_nonneg (Int.emod_nonneg _ (by decide))]
 have h8 : (bs[i] % 8).toNat < 8 := by have := Int.emod_lt_of_pos bs[i] (show (0 : Int) < 8 by decide); omega
 generalize (bs[i] % 8).toNat = m at e2 h8
 intro d
 induction d with
 | zero =>
  intro j x hj h0 h1 hk
  have hn : ¬ (j : Int) < (m : Int) := by omega
  have et : Int.tmod x 2 = x % 2 := Int.tmod_eq_emod_of_nonneg h0
  rw [Int.pow_zero, Int.ediv_one] at hk
  refine Ev.step (fun k => by simp only [shardlogref11_Has.l1]; rw [if_pos q2, if_pos q1, hr, e2, if_neg hn, et]) ?_
  by_cases hc : x % 2 = 0
  ·
   rw [if_pos hc] at hk
   subst hk
   exact Ev.pos hc (Ev.now _)
  ·
   rw [if_neg hc] at hk
   exact Ev.neg hc hk
 | succ d ih =>
  intro j x hj h0 h1 hk
  have hp : (j : Int) < (m : Int) := by omega
  have et : wrap64 (Int.tdiv x 2) = x / 2 := by rw [Int.tdiv_eq_ediv_of_nonneg h0]; exact w64 (by omega) (by omega)
  have e3 : wrap64 ((j : Int) + 1) = ((j + 1 : Nat) : Int) := by rw [w64 (by omega) (by omega)]; rfl
  refine Ev.step (fun k => by simp only [shardlogref11_Has.l1]; rw [if_pos q2, if_pos q1, hr, e2, if_pos hp, et, e3]) ?_
  refine ih (j + 1) (x / 2) (by omega) (by omega) (by omega) ?_
  have hd : x / 2 / 2 ^ d = x / 2 ^ (d + 1) := by rw [Int.ediv_ediv_of_nonneg (by decide), Int.pow_succ, Int.mul_comm]
  rw [hd]
  exact hk
theorem ref_has_l0 (f : List Int) (hf : f.length ≤ 100000) (hb : Bytes f) (bs : List Int) (hx : ∀ x ∈ bs, 0 ≤ x ∧ x < 8 * (f.length : Int)) (hl : bs.length ≤ 1000) (d : Nat) : ∀ i : Nat, i ≤ bs.length → bs.length - i = d →
  Ev (fun k => shardlogref11_Has.l0 k f bs (i : Int)) (hasB f (bs.drop i)) := by
 induction d with
 | zero =>
  intro i hi hd
  rw [List.drop_eq_nil_of_le (by omega)]
  exact Ev.step (f := fun _ => some true) (fun k => by simp only [shardlogref11_Has.l0]; rw [if_neg (by omega)]) (Ev.now _)
 | succ d ih =>
  intro i hi hd
  have hlt : i < bs.length := by omega
  have q1 : (i : Int) < (bs.length : Int) := by omega
  have q2 : (0 : Int) ≤ (i : Int) := by omega
  have hr : rd bs (i : Int) = bs[i] := by unfold rd; rw [Int.toNat_natCast, List.getD_eq_getElem?_getD, List.getElem?_eq_getElem hlt]; rfl
  obtain ⟨x0, x1⟩ := hx _ (List.getElem_mem hlt)
  have e3 : wrap64 ((i : Int) + 1) = ((i + 1 : Nat) : Int) := by rw [w64 (by omega) (by omega)]; rfl
  have hh : wrap64 (Int.tdiv bs[i] 8) = bs[i] / 8 ∧ 0 ≤ bs[i] / 8 ∧ bs[i] / 8 < (f.length : Int) ∧ (bs[i] / 8).toNat < f.length := by
   generalize bs[i] = x at x0 x1 ⊢
   have h1 : 0 ≤ x / 8 ∧ x / 8 < (f.length : Int) ∧ (x / 8).toNat < f.length ∧ x / 8 < 1000000 := by omega
   refine ⟨?_, h1.1, h1.2.1, h1.2.2.1⟩
   rw [Int.tdiv_eq_ediv_of_nonneg x0]
   obtain ⟨h2, -, -, h3⟩ := h1
   generalize x / 8 = y at h2 h3 ⊢
   exact w64 (by omega) (by omega)
  obtain ⟨e1, p1, p2, p4⟩ := hh
  have hq : rd f (bs[i] / 8) = f[(bs[i] / 8).toNat]'p4 := by
   unfold rd
   rw [List.getD_eq_getElem?_getD, List.getElem?_eq_getElem p4]
   rfl
  obtain ⟨v0, v1⟩ := hb _ (List.getElem_mem p4)
  rw [← hq] at v0 v1
  have hw : wrap64 (rd f (bs[i] / 8)) = rd f (bs[i] / 8) := by
   generalize rd f (bs[i] / 8) = v at v0 v1 ⊢
   exact w64 (by omega) (by omega)
  refine Ev.step (fun k => by simp only [shardlogref11_Has.l0]; rw [if_pos q1, if_pos q2, hr, e1, if_pos p1, if_pos p2, hw]) ?_
  have ih' := ih (i + 1) (by omega) (by omega)
  rw [List.drop_eq_getElem_cons hlt]
  refine ref_has_l1 f bs i hlt _ x0 (bs[i] % 8).toNat 0 _ (by rw [Nat.zero_add]) v0 v1 ?_
  unfold hasB
  rw [List.all_cons, e3]
  by_cases hc : (rd f (bs[i] / 8) / 2 ^ (bs[i] % 8).toNat) % 2 = 0
  ·
   rw [if_pos hc, decide_eq_false (fun h => h hc), Bool.false_and]
  ·
   rw [if_neg hc, decide_eq_true hc, Bool.true_and]
   exact ih'
theorem ref_Has_ev {f : List Int} {key : ByteArray} (hf : f.length ≤ 100000) (hb : Bytes f) (hk : key.size ≤ 100000) : Ev (fun k => shardlogref11_Has.f k f key) (hasF f key) := by
 unfold shardlogref11_Has.f hasF
 by_cases h0 : f.length = 0
 ·
  rw [if_pos h0]
  exact Ev.pos (by omega) (Ev.now _)
 ·
  rw [if_neg h0]
  have e1 : wrap64 (8 * (f.length : Int)) = 8 * (f.length : Int) := w64 (by omega) (by omega)
  rw [e1]
  refine Ev.neg (by omega) (Ev.bind (ref_Bits_ev hk (by omega)) ?_)
  have := ref_has_l0 f hf hb (bitsK key (8 * (f.length : Int))) (bitsK_in (by omega)) (by simp [bitsK]) _ 0 (Nat.zero_le _) rfl
  rwa [List.drop_zero] at this
end Go.Proofs.Ytinhpolmanccgaa.Pl
/- Whether some size cuts cells into these blocks. -/
namespace Go.Proofs.Ytinhpolmanccgaa.Pl
open Go.RowKit Go.Proofs.Ytinhpolmanccgaa.X Go.Proofs.YtinhpolmanccgaaW.PrintWords Go.Proofs.YtinhpolmanccgaaW.PrintLast Go.Proofs.YtinhpolmanccgaaW.PrintMore
def inB (last : Bool) : List Cell → Int → Bool → Int → Int → Int × Int
 | [], _, _, lo, hi => (lo, hi)
 | c :: r, n, first, lo, hi => inB last r (n + lenC c) false (if first = true then lo else mx lo (n + 1)) (if r = [] ∧ last = false then mn hi (n + lenC c) else hi)
def cutP : List (List Cell) → Int → Int → Int × Int
 | [], lo, hi => (lo, hi)
 | b :: bs, lo, hi => cutP bs (inB (decide (bs = [])) b 0 true lo hi).1 (inB (decide (bs = [])) b 0 true lo hi).2
def cutQ (bs : List (List Cell)) : Bool := decide ((cutP bs 1 4294967296).1 ≤ (cutP bs 1 4294967296).2)
def FitB (last : Bool) (b : List Cell) (s : Int) : Prop := (∀ j, j < b.length → (sumC (b.take j) : Int) < s) ∧ (last = false → s ≤ (sumC b : Int))
theorem mx_le {a b s : Int} : mx a b ≤ s ↔ a ≤ s ∧ b ≤ s := by unfold mx; split <;> omega
theorem le_mn {a b s : Int} : s ≤ mn a b ↔ s ≤ a ∧ s ≤ b := by unfold mn; split <;> omega
theorem inB_iff (last : Bool) (s : Int) : ∀ (b : List Cell) (n : Int) (first : Bool) (lo hi : Int), ((inB last b n first lo hi).1 ≤ s ∧ s ≤ (inB last b n first lo hi).2) ↔ (lo ≤ s ∧ s ≤ hi ∧ (∀ j, j < b.length → (first = true → 0 < j) → n + (sumC (b.take j) : Int) < s) ∧ (b ≠ [] → last = false → s ≤ n + (sumC b : Int)))
 | [], n, first, lo, hi => by simp [inB]
 | c :: r, n, first, lo, hi => by
  have hc : sumC (c :: r) = lenC c + sumC r := by simp [sumC]
  rw [inB, inB_iff last s r]
  have hhi : s ≤ (if r = [] ∧ last = false then mn hi (n + lenC c) else hi) ↔ s ≤ hi ∧ (r = [] → last = false → s ≤ n + lenC c) := by
   split
   ·
    rename_i h
    rw [le_mn]
    exact ⟨fun h2 => ⟨h2.1, fun _ _ => h2.2⟩, fun h2 => ⟨h2.1, h2.2 h.1 h.2⟩⟩
   ·
    rename_i h
    exact ⟨fun h2 => ⟨h2, fun h3 h4 => absurd ⟨h3, h4⟩ h⟩, fun h2 => h2.1⟩
  have hlo : (if first = true then lo else mx lo (n + 1)) ≤ s ↔ lo ≤ s ∧ (first = true ∨ n < s) := by
   split
   ·
    rename_i h
    exact ⟨fun h2 => ⟨h2, .inl h⟩, fun h2 => h2.1⟩
   ·
    rename_i h
    rw [mx_le]
    exact ⟨fun h2 => ⟨h2.1, .inr (by omega)⟩, fun h2 => ⟨h2.1, by rcases h2.2 with h3 | h3; exact absurd h3 h; omega⟩⟩
  rw [hhi, hlo]
  constructor
  ·
   rintro ⟨⟨l1, l2⟩, ⟨u1, u2⟩, h3, h4⟩
   refine ⟨l1, u1, ?_, ?_⟩
   ·
    intro j hj hf
    cases j with
    | zero =>
     rw [List.take_zero, show sumC [] = 0 from rfl]
     rcases l2 with l2 | l2
     ·
      exact absurd (hf l2) (by omega)
     ·
      simpa using l2
    | succ j =>
     have h5 := h3 j (by simpa using hj) (fun h => by cases h)
     rw [List.take_succ_cons, show sumC (c :: r.take j) = lenC c + sumC (r.take j) by simp [sumC]]
     omega
   ·
    intro _ hl
    rw [hc]
    by_cases hr : r = []
    ·
     have := u2 hr hl
     subst hr
     simp [sumC]
     omega
    ·
     have := h4 hr hl
     omega
  ·
   rintro ⟨l1, u1, h3, h4⟩
   refine ⟨⟨l1, ?_⟩, ⟨u1, ?_⟩, ?_, ?_⟩
   ·
    cases first with
    | true => exact .inl rfl
    | false =>
     have := h3 0 (by simp) (fun h => by cases h)
     rw [List.take_zero, show sumC [] = 0 from rfl] at this
     exact .inr (by simpa using this)
   ·
    intro hr hl
    have := h4 (by simp) hl
    rw [hc] at this
    subst hr
    simp [sumC] at this
    omega
   ·
    intro j hj _
    have h5 := h3 (j + 1) (by simpa using hj) (fun _ => by omega)
    rw [List.take_succ_cons, show sumC (c :: r.take j) = lenC c + sumC (r.take j) by simp [sumC]] at h5
    omega
   ·
    intro hr hl
    have := h4 (by simp) hl
    rw [hc] at this
    omega
def FitA : List (List Cell) → Int → Prop
 | [], _ => True
 | b :: bs, s => FitB (decide (bs = [])) b s ∧ FitA bs s
theorem cutP_iff (s : Int) (hs : 0 < s) : ∀ (bs : List (List Cell)) (lo hi : Int), (∀ b ∈ bs, b ≠ []) → (((cutP bs lo hi).1 ≤ s ∧ s ≤ (cutP bs lo hi).2) ↔ (lo ≤ s ∧ s ≤ hi ∧ FitA bs s))
 | [], lo, hi, _ => by simp [cutP, FitA]
 | b :: bs, lo, hi, h => by
  have hb := h b List.mem_cons_self
  rw [cutP, cutP_iff s hs bs _ _ (fun x hx => h x (List.mem_cons_of_mem _ hx))]
  have := inB_iff (decide (bs = [])) s b 0 true lo hi
  show _ ↔ (lo ≤ s ∧ s ≤ hi ∧ FitB (decide (bs = [])) b s ∧ FitA bs s)
  unfold FitB
  constructor
  ·
   rintro ⟨h1, h2, h3⟩
   obtain ⟨a1, a2, a3, a4⟩ := this.1 ⟨h1, h2⟩
   refine ⟨a1, a2, ⟨fun j hj => ?_, fun hl => by have := a4 hb hl; omega⟩, h3⟩
   by_cases hj0 : 0 < j
   ·
    have := a3 j hj (fun _ => hj0)
    omega
   ·
    have : j = 0 := by omega
    subst this
    rw [List.take_zero]
    simpa [sumC] using hs
  ·
   rintro ⟨h1, h2, ⟨h3, h4⟩, h5⟩
   obtain ⟨a1, a2⟩ := this.2 ⟨h1, h2, fun j hj _ => by have := h3 j hj; omega, fun _ hl => by have := h4 hl; omega⟩
   exact ⟨a1, a2, h5⟩
theorem cutP_lo : ∀ (bs : List (List Cell)) (lo hi : Int), lo ≤ (cutP bs lo hi).1
 | [], lo, _ => Int.le_refl _
 | b :: bs, lo, hi => by
  rw [cutP]
  have hin : ∀ (b : List Cell) (last : Bool) (n : Int) (first : Bool) (lo hi : Int), lo ≤ (inB last b n first lo hi).1 := by
   intro b last
   induction b with
   | nil => intro n first lo hi; exact Int.le_refl _
   | cons c r ih =>
    intro n first lo hi
    rw [inB]
    refine Int.le_trans ?_ (ih _ _ _ _)
    split
    ·
     exact Int.le_refl _
    ·
     unfold mx; split <;> omega
  exact Int.le_trans (hin b _ 0 true lo hi) (cutP_lo bs _ _)
theorem cutQ_iff {bs : List (List Cell)} (h : ∀ b ∈ bs, b ≠ []) : cutQ bs = true ↔ ∃ s : Int, 1 ≤ s ∧ s ≤ 4294967296 ∧ FitA bs s := by
 unfold cutQ
 rw [decide_eq_true_iff]
 constructor
 ·
  intro hle
  have hlo := cutP_lo bs 1 4294967296
  obtain ⟨a1, a2, a3⟩ := (cutP_iff (cutP bs 1 4294967296).1 (by omega) bs 1 4294967296 h).1 ⟨Int.le_refl _, hle⟩
  exact ⟨_, a1, a2, a3⟩
 ·
  rintro ⟨s, h1, h2, h3⟩
  obtain ⟨a1, a2⟩ := (cutP_iff s (by omega) bs 1 4294967296 h).2 ⟨h1, h2, h3⟩
  exact Int.le_trans a1 a2
theorem fit_of {size : Nat} : ∀ (bs : List (List Cell)), (∀ b ∈ bs, OkB size b) → (∀ (i : Nat) (h : i + 1 < bs.length), size ≤ sumC (bs[i]'(by omega))) → FitA bs size
 | [], _, _ => trivial
 | b :: bs, h1, h2 => by
  refine ⟨⟨fun j hj => by have := (h1 b List.mem_cons_self).2 j hj; omega, fun hl => ?_⟩, fit_of bs (fun x hx => h1 x (List.mem_cons_of_mem _ hx)) (fun i hi => ?_)⟩
  ·
   cases bs with
   | nil => simp at hl
   | cons b2 bs =>
    have := h2 0 (by simp)
    simp only [List.getElem_cons_zero] at this
    omega
  ·
   have := h2 (i + 1) (by simpa using hi)
   simpa using this
theorem goB_fit {size : Nat} (hs : 0 < size) (l : List Cell) : FitA (goB size l [] 0) size :=
 fit_of _ (goB_ok size hs l [] 0 rfl (fun k hk => by
  have : k = 0 := by simpa using hk
  subst this
  simpa [sumC] using hs)) (fun i h => goB_full size l [] 0 rfl i h)
end Go.Proofs.Ytinhpolmanccgaa.Pl
/- table.cutable answers the plain one. -/
namespace Go.Proofs.Ytinhpolmanccgaa.Pl
open Go.RowKit Go.Proofs.Ytinhpolmanccgaa.X Go.Proofs.YtinhpolmanccgaaW.PrintWords Go.Proofs.YtinhpolmanccgaaW.PrintLast Go.Proofs.YtinhpolmanccgaaW.PrintMore
theorem w64n {n : Nat} (h : n ≤ 1000000000) : wrap64 (n : Int) = (n : Int) := w64 (by omega) (by omega)
theorem w64s {n m : Nat} (h : n + m ≤ 1000000000) : wrap64 ((n : Int) + (m : Int)) = ((n + m : Nat) : Int) := by
 rw [← Int.natCast_add]
 exact w64n h
theorem cutable_l1 (bs : List (List Cell)) (i : Nat) (hi : i < bs.length) (hbl : bs.length ≤ 1000) (l : List Cell) (hr : RightsC l) (hl : l.length ≤ 150) (hl0 : 0 < l.length) (r : Bool) (d : Nat) : ∀ (j n : Nat) (lo hi' : Int), j ≤ l.length → l.length - j = d → n ≤ 401 * j →
  Ev (fun k => table_cutable.l0 k bs (inB (decide (i + 1 = bs.length)) (l.drop j) n (decide (j = 0)) lo hi').1 (inB (decide (i + 1 = bs.length)) (l.drop j) n (decide (j = 0)) lo hi').2 bs (bs.length : Int) (wrap64 ((i : Int) + 1))) r →
  Ev (fun k => table_cutable.l1 k bs lo hi' (i : Int) l (n : Int) bs (bs.length : Int) (i : Int) l (l.length : Int) (j : Int)) r := by
 induction d with
 | zero =>
  intro j n lo hi' hj hd hn hk
  rw [List.drop_eq_nil_of_le (by omega), inB] at hk
  have hnj : ¬ (j : Int) < (l.length : Int) := by omega
  exact Ev.step (fun k => by simp only [table_cutable.l1]; rw [if_neg hnj]) hk
 | succ d ih =>
  intro j n lo hi' hj hd hn hk
  have hlt : j < l.length := by omega
  have q1 : (j : Int) < (l.length : Int) := by omega
  have q2 : (0 : Int) ≤ (j : Int) := by omega
  have hc := hr _ (List.getElem_mem hlt)
  have hcl := lenC_le hc
  have hput := put_C hc
  have hrd := rdC_at l j hlt
  unfold rdC at hrd
  have hlast : ((j : Int) = (l.length : Int) - 1) ↔ l.drop (j + 1) = [] := by
   rw [List.drop_eq_nil_iff]
   omega
  have hib : ((i : Int) < (bs.length : Int) - 1) ↔ ¬ i + 1 = bs.length := by omega
  have hj0 : ((j : Int) > 0) ↔ ¬ j = 0 := by omega
  have p1 : (l.length : Int) - 1 = ((l.length - 1 : Nat) : Int) := by omega
  have p2 : (bs.length : Int) - 1 = ((bs.length - 1 : Nat) : Int) := by omega
  have b1 : l.length - 1 ≤ 1000000000 := by omega
  have b2 : bs.length - 1 ≤ 1000000000 := by omega
  have b3 : j + 1 ≤ 1000000000 := by omega
  have b4 : n + 1 ≤ 1000000000 := by omega
  have b5 : n + lenC l[j] ≤ 1000000000 := by omega
  have e6 : ((n + lenC l[j] : Nat) : Int) = (n : Int) + (lenC l[j] : Int) := by omega
  have hnn : n + lenC l[j] ≤ 401 * (j + 1) := by omega
  have ihh := fun lo hi' => ih (j + 1) (n + lenC l[j]) lo hi' (by omega) (by omega) hnn
  have hz : decide (j + 1 = 0) = false := decide_eq_false (by omega)
  have e1 : wrap64 ((l.length : Int) - 1) = (l.length : Int) - 1 := by rw [p1]; exact w64n b1
  have e2 : wrap64 ((bs.length : Int) - 1) = (bs.length : Int) - 1 := by rw [p2]; exact w64n b2
  have e3 : wrap64 ((j : Int) + 1) = ((j + 1 : Nat) : Int) := w64s (m := 1) b3
  have e4 : wrap64 ((n : Int) + 1) = (n : Int) + 1 := w64s (m := 1) b4
  have e5 : wrap64 ((n : Int) + ((cellB l[j].f0 l[j].f1 l[j].f2 l[j].f3 l[j].f4).length : Int)) = ((n + lenC l[j] : Nat) : Int) := w64s b5
  rw [List.drop_eq_getElem_cons hlt, inB] at hk
  rw [hz] at ihh
  clear hn hnn hd hj hcl ih
  -- the new bounds
  have hj2 : ∀ (c : Bool) (k : Nat), (c = true ↔ (l.drop (j + 1) = [] ∧ decide (i + 1 = bs.length) = false)) →
    table_cutable.j2 (k + 1) bs lo hi' (i : Int) l (n : Int) (j : Int) bs (bs.length : Int) (i : Int) l (l.length : Int) (j : Int) c l[j].f0 l[j].f1 l[j].f2 l[j].f3 l[j].f4 =
    table_cutable.l1 k bs (if decide (j = 0) = true then lo else mx lo ((n : Int) + 1)) (if l.drop (j + 1) = [] ∧ decide (i + 1 = bs.length) = false then mn hi' ((n : Int) + (lenC l[j] : Int)) else hi') (i : Int) l ((n + lenC l[j] : Nat) : Int) bs (bs.length : Int) (i : Int) l (l.length : Int) ((j + 1 : Nat) : Int) := by
   intro c k hcc
   simp only [table_cutable.j2, hput, Option.bind_some]
   by_cases hj' : j = 0
   ·
    have hn0 : ¬ ((j : Int) > 0) := fun h => (hj0.1 h) hj'
    rw [if_neg hn0, if_neg hn0, if_pos (decide_eq_true hj')]
    cases c with
    | true => rw [if_pos rfl, if_pos (hcc.1 rfl)]; rw [e5, e3, e6]
    | false => rw [if_neg Bool.false_ne_true, if_neg (fun h => Bool.false_ne_true (hcc.2 h))]; rw [e5, e3]
   ·
    have hn0 : ((j : Int) > 0) := hj0.2 hj'
    rw [if_pos hn0, if_pos hn0, if_neg (fun h => hj' (of_decide_eq_true h))]
    cases c with
    | true => rw [if_pos rfl, if_pos (hcc.1 rfl)]; rw [e5, e4, e3, e6]
    | false => rw [if_neg Bool.false_ne_true, if_neg (fun h => Bool.false_ne_true (hcc.2 h))]; rw [e5, e4, e3]
  have hk2 := ihh _ _ hk
  by_cases hlst : (j : Int) = (l.length : Int) - 1
  ·
   refine Ev.step (fun k => by simp only [table_cutable.l1]; rw [if_pos q1, if_pos q2, if_pos q1, e1, if_pos hlst, e2, hrd]) (Ev.step (fun k => hj2 _ k ?_) hk2)
   rw [decide_eq_true_iff, hib, decide_eq_false_iff_not]
   exact ⟨fun h => ⟨hlast.1 hlst, h⟩, fun h => h.2⟩
  ·
   refine Ev.step (fun k => by simp only [table_cutable.l1]; rw [if_pos q1, if_pos q2, if_pos q1, e1, if_neg hlst, hrd]) (Ev.step (fun k => hj2 _ k ?_) hk2)
   exact ⟨fun h => absurd h Bool.false_ne_true, fun h => absurd (hlast.2 h.1) hlst⟩
theorem cutable_l0 (bs : List (List Cell)) (hbl : bs.length ≤ 1000) (hok : ∀ b ∈ bs, BlkOk b) (d : Nat) : ∀ (i : Nat) (lo hi : Int), i ≤ bs.length → bs.length - i = d → Ev (fun k => table_cutable.l0 k bs lo hi bs (bs.length : Int) (i : Int)) (decide ((cutP (bs.drop i) lo hi).1 ≤ (cutP (bs.drop i) lo hi).2)) := by
 induction d with
 | zero =>
  intro i lo hi h1 h2
  rw [List.drop_eq_nil_of_le (by omega)]
  exact Ev.step (f := fun _ => some (decide (lo ≤ hi))) (fun k => by simp only [table_cutable.l0]; rw [if_neg (by omega)]) (Ev.now _)
 | succ d ih =>
  intro i lo hi h1 h2
  have hlt : i < bs.length := by omega
  have q1 : (i : Int) < (bs.length : Int) := by omega
  have q2 : (0 : Int) ≤ (i : Int) := by omega
  have hB := hok _ (List.getElem_mem hlt)
  have hrd := rdL_at bs i hlt
  have hb0 : 0 < bs[i].length := List.length_pos_iff.2 hB.2.1
  have ihh := fun lo hi => ih (i + 1) lo hi (by omega) (by omega)
  have b3 : i + 1 ≤ 1000000000 := by omega
  have hdl : decide (bs.drop (i + 1) = []) = decide (i + 1 = bs.length) := by
   congr 1
   rw [List.drop_eq_nil_iff]
   exact propext ⟨fun h => by omega, fun h => by omega⟩
  have e3 : wrap64 ((i : Int) + 1) = ((i + 1 : Nat) : Int) := w64s (m := 1) b3
  rw [List.drop_eq_getElem_cons hlt, cutP, hdl]
  refine Ev.step (fun k => by simp only [table_cutable.l0]; rw [if_pos q1, if_pos q2, if_pos q1, hrd]) ?_
  refine cutable_l1 bs i hlt hbl bs[i] hB.1.1 hB.2.2 hb0 _ bs[i].length 0 0 lo hi (Nat.zero_le _) rfl (Nat.zero_le _) ?_
  rw [e3, List.drop_zero]
  exact ihh _ _
theorem cutable_ev {bs : List (List Cell)} (hbl : bs.length ≤ 1000) (hok : ∀ b ∈ bs, BlkOk b) : Ev (fun k => table_cutable.f k bs) (cutQ bs) := by
 unfold table_cutable.f cutQ
 exact cutable_l0 bs hbl hok bs.length 0 1 4294967296 (Nat.zero_le _) rfl
end Go.Proofs.Ytinhpolmanccgaa.Pl
/- Frames: cut: the printed function answers the plain one. -/
namespace Go.Proofs.Ytinhpolmanccgaa.Pl
open Go.RowKit Go.Proofs.Ytinhpolmanccgaa.X Go.Proofs.YtinhpolmanccgaaW.PrintWords Go.Proofs.YtinhpolmanccgaaW.PrintLast Go.Proofs.YtinhpolmanccgaaW.PrintMore
theorem head_iff {b : List Int} (hb : Bytes b) (h12 : 12 ≤ b.length) (s : List Int) : b.take 12 = b.take 4 ++ (sumB (b.take 4) ++ sumB s) ↔ val4 (b.drop 4) = crcSum (b.take 4) ∧ val4 (b.drop 8) = crcSum s := by
 have e12 : b.take 12 = b.take 4 ++ ((b.drop 4).take 4 ++ (b.drop 8).take 4) := by
  rw [show 12 = 4 + (4 + 4) from rfl, List.take_add, List.take_add, List.drop_drop]
 have n4 := num_val4 (hb.drop 4) (by rw [List.length_drop]; omega)
 have n8 := num_val4 (hb.drop 8) (by rw [List.length_drop]; omega)
 obtain ⟨a0, a1⟩ := crcSum_in (b.take 4)
 obtain ⟨b0, b1⟩ := crcSum_in s
 obtain ⟨c0, c1⟩ := val4_nonneg (hb.drop 4) (by rw [List.length_drop]; omega)
 obtain ⟨d0, d1⟩ := val4_nonneg (hb.drop 8) (by rw [List.length_drop]; omega)
 rw [e12, List.append_cancel_left_eq, ← n4, ← n8]
 constructor
 ·
  intro h
  have h1 := List.append_inj h (by rw [sumB_length, num_length c0 c1])
  have v1 := congrArg val4 (show num (val4 (b.drop 4)) ++ [] = num (crcSum (b.take 4)) ++ [] by have e := h1.1; unfold sumB at e; rw [e])
  have v2 := congrArg val4 (show num (val4 (b.drop 8)) ++ [] = num (crcSum s) ++ [] by have e := h1.2; unfold sumB at e; rw [e])
  rw [val4_num c0 c1, val4_num a0 a1] at v1
  rw [val4_num d0 d1, val4_num b0 b1] at v2
  exact ⟨v1, v2⟩
 ·
  rintro ⟨h1, h2⟩
  rw [h1, h2]
  rfl
theorem frame_Cut_ev {b : List Int} (hb : Bytes b) (hl : b.length ≤ 140737488355328) : Ev (fun k => frame_Cut.f k b) (cutF b) := by
 have jt : ∀ n l, Ev (fun k => frame_Cut.j0 k n l true) ([], [], false) := fun n l => Ev.step (fun k => by simp only [frame_Cut.j0, if_true]) (Ev.now _)
 unfold frame_Cut.f
 by_cases h : b.length < 12
 ·
  rw [cutF_no (fun ho => by have := ho.1; omega)]
  exact Ev.pos (by omega) (Ev.now _)
 refine Ev.neg (by omega) (Ev.bind (wire_CutNum_ev hb hl) (Ev.pos (by omega) (Ev.bind (Ev.eq (clone_eq (by rw [List.length_drop]; omega))) ?_)))
 obtain ⟨g0, g1⟩ := val4_nonneg hb (by omega)
 have hcn : cutNum b = (val4 b, b.drop 4, true) := by unfold cutNum; rw [if_neg (by omega)]
 rw [hcn]
 simp only
 have hd : ((b.drop 12).length : Int) = (b.length : Int) - 12 := by rw [List.length_drop]; omega
 by_cases h1 : val4 b > 65535
 ·
  rw [cutF_no (fun ho => by have := ho.2.1; omega)]
  exact Ev.pos h1 (jt _ _)
 refine Ev.neg h1 ?_
 by_cases h2 : val4 b > ((b.drop 12).length : Int)
 ·
  rw [cutF_no (fun ho => by have := ho.2.2.1; omega)]
  exact Ev.pos h2 (jt _ _)
 refine Ev.neg h2 (Ev.pos (by omega) (Ev.bind (Ev.now _) (Ev.bind (frame_sum_ev (hb.take 4) (by rw [List.length_take]; omega)) (Ev.pos g0 (Ev.pos (by omega) (Ev.bind (frame_sum_ev ((hb.drop 12).take _) (by rw [List.length_take, List.length_drop]; omega)) ?_))))))
 have s1 := sumB_length (b.take 4)
 have s2 := sumB_length ((b.drop 12).take (val4 b).toNat)
 refine Ev.bind (Ev.eq (concat_eq ?_)) (Ev.bind (equal_ev (by rw [List.length_take]; omega)) ?_)
 ·
  simp only [lenSum, List.map_cons, List.map_nil, List.sum_cons, List.sum_nil, List.length_take]
  omega
 have hc : [b.take 4, sumB (b.take 4), sumB ((b.drop 12).take (val4 b).toNat)].flatten = b.take 4 ++ (sumB (b.take 4) ++ sumB ((b.drop 12).take (val4 b).toNat)) := by simp
 rw [hc]
 have hi := head_iff hb (by omega) ((b.drop 12).take (val4 b).toNat)
 by_cases ho : okF b
 ·
  have h45 : val4 (b.drop 4) = crcSum (b.take 4) ∧ val4 (b.drop 8) = crcSum ((b.drop 12).take (val4 b).toNat) := ⟨ho.2.2.2.1, ho.2.2.2.2⟩
  rw [decide_eq_true (hi.2 h45)]
  unfold cutF
  rw [if_pos ho]
  refine Ev.step (fun k => by simp only [frame_Cut.j0, Bool.not_true, Bool.false_eq_true, if_false]; rfl) (Ev.pos g0 (Ev.pos (by omega) (Ev.now _)))
 ·
  have h45 : ¬ (val4 (b.drop 4) = crcSum (b.take 4) ∧ val4 (b.drop 8) = crcSum ((b.drop 12).take (val4 b).toNat)) := fun hh => ho ⟨by omega, by omega, by omega, hh.1, hh.2⟩
  rw [decide_eq_false (fun e => h45 (hi.1 e)), cutF_no ho]
  exact jt _ _
end Go.Proofs.Ytinhpolmanccgaa.Pl
/- A block, read: the printed function answers the plain one. -/
namespace Go.Proofs.Ytinhpolmanccgaa.Pl
open Go.RowKit Go.Proofs.Ytinhpolmanccgaa.X Go.Proofs.YtinhpolmanccgaaW.PrintWords Go.Proofs.YtinhpolmanccgaaW.PrintLast Go.Proofs.YtinhpolmanccgaaW.PrintMore
def mkCell (x : Cut7) : Cell := ⟨x.1, x.2.1, x.2.2.1, x.2.2.2.1, x.2.2.2.2.1⟩
def loopC : Nat → List Int → List Cell → List Cell × Bool
 | 0, b, out => (out, decide (b.length = 0))
 | n + 1, b, out => if (cutCell b).2.2.2.2.2.2 = true then loopC n (cutCell b).2.2.2.2.2.1 (out ++ [mkCell (cutCell b)]) else (out ++ [mkCell (cutCell b)], false)
theorem cutCell_rest_ok {b : List Int} (hb : Bytes b) : Bytes (cutCell b).2.2.2.2.2.1 ∧ (cutCell b).2.2.2.2.2.1.length ≤ b.length := by
 have b1 := cutText_rest_bytes hb
 have l1 := cutText_rest_le (b := b)
 have b2 := cutText_rest_bytes b1
 have l2 := cutText_rest_le (b := (cutText b).2.1)
 obtain ⟨b3, l3⟩ := cutNum_bytes' b2
 obtain ⟨b4, l4⟩ := cutFlag_bytes b3
 have b5 := cutText_rest_bytes b4
 have l5 := cutText_rest_le (b := (cutFlag (cutNum (cutText (cutText b).2.1).2.1).2.1).2.1)
 unfold cutCell
 dsimp only
 split
 ·
  exact ⟨b5, Nat.le_trans l5 (Nat.le_trans l4 (Nat.le_trans l3 (Nat.le_trans l2 l1)))⟩
 ·
  exact ⟨Bytes.nil, by simp⟩
theorem cells_l0 (n : Nat) : ∀ (b : List Int) (out : List Cell), Bytes b → b.length ≤ 140737488355328 → n ≤ 4294967295 → out.length + n ≤ 4294967295 → Ev (fun k => block_cells.l0 k b (n : Int) true out) (loopC n b out) := by
 induction n with
 | zero =>
  intro b out hb hl hn ho
  refine Ev.step (f := fun _ => some (out, ((b.length : Int) == 0))) (fun k => ?_) ((Ev.now _).to ?_)
  ·
   simp only [block_cells.l0, if_true]
   rw [if_neg (by omega)]
  ·
   unfold loopC
   congr 1
   rw [Bool.eq_iff_iff, beq_iff_eq, decide_eq_true_iff]
   omega
 | succ n ih =>
  intro b out hb hl hn ho
  have hr := cutCell_rest_ok hb
  refine Ev.step (fun k => by simp only [block_cells.l0, if_true]; rw [if_pos (by omega)]) ?_
  refine Ev.bind (cell_Cut_ev hb hl) ?_
  refine Ev.pos (by omega) ?_
  rw [show wrap64 (((n + 1 : Nat) : Int) - 1) = (n : Int) by rw [w64 (by omega) (by omega)]; omega]
  unfold loopC
  cases hc : (cutCell b).2.2.2.2.2.2 with
  | true =>
   rw [if_pos rfl]
   exact ih _ _ hr.1 (Nat.le_trans hr.2 hl) (by omega) (by rw [List.length_append, List.length_singleton]; omega)
  | false =>
   rw [if_neg Bool.false_ne_true]
   exact Ev.step (f := fun _ => some (out ++ [mkCell (cutCell b)], false)) (fun k => by simp only [block_cells.l0, Bool.false_eq_true, if_false]; rfl) (Ev.now _)
def cellsB (b : List Int) : List Cell × Bool := if b.length < 4 then ([], false) else loopC (val4 b).toNat (b.drop 4) []
theorem cells_ev {b : List Int} (hb : Bytes b) (hl : b.length ≤ 140737488355328) : Ev (fun k => block_cells.f k b) (cellsB b) := by
 unfold block_cells.f cellsB
 refine Ev.bind (wire_CutNum_ev hb hl) ?_
 unfold cutNum
 by_cases h : b.length < 4
 ·
  rw [if_pos h, if_pos h]
  exact Ev.step (f := fun _ => some ([], false)) (fun k => by simp only [block_cells.l0, Bool.false_eq_true, if_false]) (Ev.now _)
 ·
  rw [if_neg h, if_neg h]
  obtain ⟨g0, g1⟩ := val4_nonneg hb (by omega)
  have := cells_l0 (val4 b).toNat (b.drop 4) [] (hb.drop 4) (by rw [List.length_drop]; omega) (by omega) (by simp; omega)
  rw [show (((val4 b).toNat : Nat) : Int) = val4 b by omega] at this
  exact this
def getB (b : List Int) : List Cell × List Int × Int := if (cutF b).2.2 = true ∧ (cellsB (cutF b).1).2 = true ∧ (cellsB (cutF b).1).1.length ≠ 0 ∧ sortedC (cellsB (cutF b).1).1 = true then ((cellsB (cutF b).1).1, (cutF b).2.1, 0) else ([], [], 2)
theorem loopC_cells : ∀ (l : List Cell) (r : List Int) (out : List Cell), RightsC l → loopC l.length ((l.map oneB).flatten ++ r) out = (out ++ l, decide (r.length = 0))
 | [], r, out, _ => by simp [loopC]
 | c :: l, r, out, h => by
  have hc := h c List.mem_cons_self
  have e : cutCell (oneB c ++ ((l.map oneB).flatten ++ r)) = (c.f0, c.f1, c.f2, c.f3, c.f4, (l.map oneB).flatten ++ r, true) := cutCell_cellB hc _
  rw [List.map_cons, List.flatten_cons, List.append_assoc, List.length_cons]
  unfold loopC
  rw [e, if_pos rfl, loopC_cells l r _ (fun x hx => h x (List.mem_cons_of_mem _ hx))]
  simp [mkCell]
theorem cellsB_body {l : List Cell} (h : RightsC l) (hl : l.length ≤ 150) : cellsB (bodyB l) = (l, true) := by
 have hn : (num (l.length : Int)).length = 4 := num_length (by omega) (by omega)
 have hc := cutNum_num (n := (l.length : Int)) (by omega) (by omega) ((l.map oneB).flatten)
 unfold cutNum at hc
 have h4 : ¬ (num (l.length : Int) ++ (l.map oneB).flatten).length < 4 := by rw [List.length_append]; omega
 rw [if_neg h4] at hc
 simp only [Prod.mk.injEq, and_true] at hc
 unfold cellsB bodyB
 rw [if_neg h4, hc.1, hc.2, Int.toNat_natCast]
 have := loopC_cells l [] [] h
 rw [List.append_nil] at this
 rw [this]
 simp
theorem getB_put {l : List Cell} (h : SrtC l) (h0 : l.length ≠ 0) (hl : l.length ≤ 150) (r : List Int) : getB (frame (bodyB l) ++ r) = (l, r, 0) := by
 have hb := bodyB_le h.1
 have hc := cutF_frame (r := bodyB l) (by omega) r
 unfold getB
 rw [hc]
 have hs := sortedC_iff.2 h
 simp only [cellsB_body h.1 hl]
 rw [if_pos ⟨trivial, trivial, h0, hs⟩]
theorem loopC_length (n : Nat) : ∀ (b : List Int) (out : List Cell), (loopC n b out).1.length ≤ out.length + n
 := by
 induction n with
 | zero => intro b out; unfold loopC; simp
 | succ n ih =>
  intro b out
  unfold loopC
  split
  ·
   have := ih (cutCell b).2.2.2.2.2.1 (out ++ [mkCell (cutCell b)])
   rw [List.length_append, List.length_singleton] at this
   omega
  ·
   simp only [List.length_append, List.length_singleton]; omega
theorem cellsB_length {b : List Int} (hb : Bytes b) : (cellsB b).1.length ≤ 4294967295 := by
 unfold cellsB
 by_cases h : b.length < 4
 ·
  rw [if_pos h]; simp
 ·
  rw [if_neg h]
  obtain ⟨g0, g1⟩ := val4_nonneg hb (by omega)
  have := loopC_length (val4 b).toNat (b.drop 4) []
  simp only [List.length_nil] at this
  omega
theorem cutF_rec_bytes {b : List Int} (hb : Bytes b) : Bytes (cutF b).1 ∧ (cutF b).1.length ≤ b.length ∧ (cutF b).2.1.length ≤ b.length := by
 unfold cutF
 split
 ·
  refine ⟨(hb.drop 12).take _, ?_, ?_⟩
  ·
   simp only [List.length_take, List.length_drop]; omega
  ·
   simp only [List.length_drop]; omega
 ·
  exact ⟨Bytes.nil, by simp, by simp⟩
theorem block_Get_ev {b : List Int} (hb : Bytes b) (hl : b.length ≤ 140737488355328) : Ev (fun k => block_Get.f k b) (getB b) := by
 obtain ⟨hrb, hrl, hsl⟩ := cutF_rec_bytes hb
 have hcl := cellsB_length hrb
 have jt : ∀ (x : List Int) (l : List Cell), Ev (fun k => block_Get.j0 k x l true) ([], [], 2) := fun x l => Ev.step (f := fun _ => some ([], [], 2)) (fun k => by simp only [block_Get.j0, if_true]) (Ev.now _)
 have jf : ∀ (x : List Int) (l : List Cell), x.length ≤ 140737488355328 → Ev (fun k => block_Get.j0 k x l false) (l, x, 0) := fun x l h => by
  refine Ev.step (f := fun _ => some (l, x, 0)) (fun k => ?_) (Ev.now _)
  simp only [block_Get.j0, Bool.false_eq_true, if_false]
  unfold slices_Clone_byte_byte.f
  rw [if_pos (by omega)]
  rfl
 unfold block_Get.f getB
 refine Ev.bind (frame_Cut_ev hb hl) ?_
 cases hc : (cutF b).2.2 with
 | false =>
  rw [if_neg (by simp)]
  exact Ev.neg Bool.false_ne_true (Ev.now _)
 | true =>
  refine Ev.pos rfl (Ev.bind (cells_ev hrb (by omega)) ?_)
  cases h2 : (cellsB (cutF b).1).2 with
  | false =>
   rw [if_neg (by simp)]
   exact Ev.neg Bool.false_ne_true (jt _ _)
  | true =>
   refine Ev.pos rfl ?_
   by_cases h0 : (cellsB (cutF b).1).1.length = 0
   ·
    rw [if_neg (by simp [h0])]
    exact Ev.pos (by omega) (jt _ _)
   ·
    refine Ev.neg (by omega) ?_
    refine Ev.bind (cell_Sorted_ev (by omega)) ?_
    cases hs : sortedC (cellsB (cutF b).1).1 with
    | false =>
     rw [if_neg (by simp)]
     exact jt _ _
    | true =>
     rw [if_pos ⟨rfl, rfl, h0, rfl⟩]
     exact jf _ _ (by omega)
end Go.Proofs.Ytinhpolmanccgaa.Pl
/- Tables opened: what table.Open answers. -/
namespace Go.Proofs.Ytinhpolmanccgaa.Pl
open Go.RowKit Go.Proofs.Ytinhpolmanccgaa.X Go.Proofs.YtinhpolmanccgaaW.PrintWords Go.Proofs.YtinhpolmanccgaaW.PrintLast Go.Proofs.YtinhpolmanccgaaW.PrintMore
def endT (b : List Int) : Int := (b.length : Int) - 4 - val4 (b.drop (b.length - 4))
theorem open_cut {b : List Int} (hb : Bytes b) (hl : b.length ≤ 100000000) (h4 : 4 ≤ b.length) : Ev (fun k => wire_CutNum.f k (b.drop (b.length - 4))) (val4 (b.drop (b.length - 4)), (b.drop (b.length - 4)).drop 4, true) := by
 have hd : (b.drop (b.length - 4)).length = 4 := by rw [List.length_drop]; omega
 have hc := wire_CutNum_ev (b := b.drop (b.length - 4)) (fun x hx => hb x (List.mem_of_mem_drop hx)) (by omega)
 unfold cutNum at hc
 rwa [if_neg (by omega)] at hc
theorem endT_w {b : List Int} (hb : Bytes b) (hl : b.length ≤ 100000000) (h4 : 4 ≤ b.length) : wrap64 (wrap64 ((b.length : Int) - 4) - val4 (b.drop (b.length - 4))) = endT b := by
 have hd : (b.drop (b.length - 4)).length = 4 := by rw [List.length_drop]; omega
 obtain ⟨v0, v1⟩ := val4_nonneg (b := b.drop (b.length - 4)) (fun x hx => hb x (List.mem_of_mem_drop hx)) (by omega)
 unfold endT
 generalize val4 (b.drop (b.length - 4)) = v at v0 v1 ⊢
 rw [w64 (x := (b.length : Int) - 4) (by omega) (by omega)]
 exact w64 (by omega) (by omega)
theorem endT_le {b : List Int} (hb : Bytes b) (h4 : 4 ≤ b.length) : endT b ≤ (b.length : Int) - 4 := by
 have hd : (b.drop (b.length - 4)).length = 4 := by rw [List.length_drop]; omega
 obtain ⟨v0, v1⟩ := val4_nonneg (b := b.drop (b.length - 4)) (fun x hx => hb x (List.mem_of_mem_drop hx)) (by omega)
 unfold endT
 omega
theorem open_some {b : List Int} {l : List Cell} {bs : List (List Cell)} {o : Option (List Cell × List (List Cell) × List Int)} (hb : Bytes b) (hl : b.length ≤ 100000000) (h4 : 4 ≤ b.length) (he : 0 ≤ endT b) (hs : Ev (fun k => table_Open.lp k (b.take (endT b).toNat) [] []) (some (l, bs))) (ht : Ev (fun k => table_Open.tail k b l bs) o) : Ev (fun k => table_Open.f k b) o := by
 have hw := endT_w hb hl h4
 have hn : ¬ (b.length : Int) < 4 := by omega
 have hle := endT_le hb h4
 have h1 : ¬ endT b < 0 := by omega
 have h2 : endT b ≤ (b.length : Int) := by omega
 unfold table_Open.f
 refine Ev.neg hn (Ev.bind (open_cut hb hl h4) ?_)
 simp only [hw]
 exact Ev.neg h1 (Ev.pos h2 (Ev.bind hs ht))
theorem cell_Sorted_small {l : List Cell} (hl : l.length ≤ 100000) : Ev (fun k => cell_Sorted.f k l) (sortedC l) := cell_Sorted_ev (by omega)
theorem tail_ev {b : List Int} {l : List Cell} {bs : List (List Cell)} (hr : RightsC l) (hl : l.length ≤ 900) (hok : ∀ b ∈ bs, BlkOk b) (hbl : bs.length ≤ 200) :
  Ev (fun k => table_Open.tail k b l bs) (if sortedC l = true ∧ cutQ bs = true ∧ tableB bs (filterB l) = b then some (l, bs, filterB l) else none) := by
 unfold table_Open.tail
 have hfl := filterB_length l
 have hfs : (filterB l).length ≤ 1000 := by omega
 have hb1 := bytes_ev (fl := filterB l) hok hbl hfs
 have htl : (tableB bs (filterB l)).length ≤ 140737488355328 := by
  have h1 := allB_le bs hok
  have h2 := footC_le hok hbl hfs
  have h3 := frame_length (r := footC bs (filterB l)) (by omega)
  have h4 := num_length_le (frame (footC bs (filterB l))).length
  unfold tableB
  simp only [List.length_append]
  omega
 refine Ev.bind (table_filter_ev hr (by omega)) (Ev.bind (cell_Sorted_small (by omega)) ?_)
 cases h1 : sortedC l with
 | false =>
  rw [if_neg (fun h => Bool.false_ne_true h.1)]
  exact Ev.neg Bool.false_ne_true (Ev.now _)
 | true =>
  refine Ev.pos rfl (Ev.bind (cutable_ev (by omega) hok) ?_)
  cases h2 : cutQ bs with
  | false =>
   rw [if_neg (fun h => Bool.false_ne_true h.2.1)]
   exact Ev.neg Bool.false_ne_true (Ev.now _)
  | true =>
   refine Ev.pos rfl (Ev.bind hb1 (Ev.pos rfl (Ev.bind (equal_ev htl) ?_)))
   by_cases h3 : tableB bs (filterB l) = b
   ·
    exact (Ev.pos (decide_eq_true h3) (Ev.now _)).to (if_pos ⟨rfl, rfl, h3⟩).symm
   ·
    exact (Ev.neg (fun h => h3 (of_decide_eq_true h)) (Ev.now _)).to (if_neg (fun h => h3 h.2.2)).symm
theorem lp_blocks {r : Option (List Cell × List (List Cell))} {x : List Int} (hx : Bytes x) : ∀ (bs : List (List Cell)) (l0 : List Cell) (bs0 : List (List Cell)), (∀ b ∈ bs, BlkOk b) → (allB bs).length + x.length ≤ 100000000 → l0.length + 150 * bs.length ≤ 100000000 → bs0.length + bs.length ≤ 100000000 →
  Ev (fun k => table_Open.lp k x (l0 ++ bs.flatten) (bs0 ++ bs)) r → Ev (fun k => table_Open.lp k (allB bs ++ x) l0 bs0) r
 | [], l0, bs0, _, _, _, _, hk => by
  rw [List.flatten_nil, List.append_nil, List.append_nil] at hk
  exact hk
 | b :: bs, l0, bs0, hok, hl, h1, h2, hk => by
  have hB := hok b List.mem_cons_self
  have hfr := frame_length (r := bodyB b) (by have := body_le hB; omega)
  have hb0 : b.length ≠ 0 := fun he => hB.2.1 (List.eq_nil_of_length_eq_zero he)
  have hbb := hB.2.2
  rw [allB_cons, List.length_append] at hl
  simp only [List.length_cons] at h1 h2
  have ih := lp_blocks hx bs (l0 ++ b) (bs0 ++ [b]) (fun x hx => hok x (List.mem_cons_of_mem _ hx)) (by omega) (by rw [List.length_append]; omega) (by simp only [List.length_append, List.length_cons, List.length_nil]; omega) (by
   rw [List.flatten_cons] at hk
   simp only [List.append_assoc, List.singleton_append]
   exact hk)
  rw [allB_cons, List.append_assoc]
  have hg := block_Get_ev (b := frame (bodyB b) ++ (allB bs ++ x)) ((bytes_frame (bytes_bodyB b)).append ((bytes_allB bs).append hx)) (by simp only [List.length_append]; omega)
  rw [getB_put hB.1 hb0 hbb] at hg
  have hne : ¬ ((frame (bodyB b) ++ (allB bs ++ x)).length : Int) = 0 := by rw [List.length_append]; omega
  have hlim : (l0.length + b.length) * 64 ≤ 140737488355328 ∧ (bs0.length + 1) * 24 ≤ 140737488355328 := by omega
  refine Ev.step (fun k => by simp only [table_Open.lp]; rfl) ?_
  exact Ev.neg hne (Ev.bind hg (Ev.pos rfl (Ev.pos hlim ih)))
theorem lp_done (l : List Cell) (bs : List (List Cell)) : Ev (fun k => table_Open.lp k [] l bs) (some (l, bs)) := by
 refine Ev.step (f := fun _ => some (some (l, bs))) (fun k => ?_) (Ev.now _)
 simp only [table_Open.lp, List.length_nil]
 rfl
theorem foot_size {bs : List (List Cell)} {fl : List Int} (hok : ∀ b ∈ bs, BlkOk b) (hbl : bs.length ≤ 200) (hf : fl.length ≤ 1000) : (frame (footC bs fl)).length ≤ 40012 ∧ (num (frame (footC bs fl)).length).length = 4 := by
 have h2 := footC_le hok hbl hf
 have h3 := frame_length (r := footC bs fl) (by omega)
 exact ⟨by omega, num_length (by omega) (by omega)⟩
theorem tableB_length {bs : List (List Cell)} {fl : List Int} (hok : ∀ b ∈ bs, BlkOk b) (hbl : bs.length ≤ 200) (hf : fl.length ≤ 1000) : (tableB bs fl).length = (allB bs).length + (frame (footC bs fl)).length + 4 ∧ (tableB bs fl).length ≤ 100000000 := by
 obtain ⟨h1, h2⟩ := foot_size hok hbl hf
 have h3 := allB_le bs hok
 unfold tableB
 simp only [List.length_append]
 omega
theorem tableB_end {bs : List (List Cell)} {fl : List Int} (hok : ∀ b ∈ bs, BlkOk b) (hbl : bs.length ≤ 200) (hf : fl.length ≤ 1000) : endT (tableB bs fl) = ((allB bs).length : Int) := by
 obtain ⟨h1, h2⟩ := foot_size hok hbl hf
 obtain ⟨h3, h4⟩ := tableB_length hok hbl hf
 have hd : (tableB bs fl).drop ((tableB bs fl).length - 4) = num (frame (footC bs fl)).length := by
  rw [h3]
  unfold tableB
  rw [← List.append_assoc, show (allB bs).length + (frame (footC bs fl)).length + 4 - 4 = (allB bs ++ frame (footC bs fl)).length by rw [List.length_append]; omega, List.drop_left]
 unfold endT
 rw [hd, h3, show num ((frame (footC bs fl)).length : Int) = num ((frame (footC bs fl)).length : Int) ++ [] by rw [List.append_nil], val4_num (by omega) (by omega)]
 omega
theorem open_built {bs : List (List Cell)} (hok : ∀ b ∈ bs, BlkOk b) (hbl : bs.length ≤ 200) (hs : SrtC bs.flatten) (hl : bs.flatten.length ≤ 900) (hc : cutQ bs = true) :
  Ev (fun k => table_Open.f k (tableB bs (filterB bs.flatten))) (some (bs.flatten, bs, filterB bs.flatten)) := by
 have hfl := filterB_length bs.flatten
 have hfs : (filterB bs.flatten).length ≤ 1000 := by omega
 obtain ⟨h3, h4⟩ := tableB_length hok hbl hfs
 have he := tableB_end hok hbl hfs
 have hby := bytes_tableB bs (filterB bs.flatten)
 refine open_some hby h4 (by omega) (by rw [he]; omega) ?_ ((tail_ev hs.1 hl hok hbl).to (if_pos ⟨sortedC_iff.2 hs, hc, rfl⟩))
 rw [he, Int.toNat_natCast, show (tableB bs (filterB bs.flatten)).take (allB bs).length = allB bs from by unfold tableB; rw [List.take_left]]
 have := lp_blocks (r := some (bs.flatten, bs)) Bytes.nil bs [] [] hok (by simp only [List.length_nil]; omega) (by simp only [List.length_nil]; omega) (by simp only [List.length_nil]; omega) (lp_done _ _)
 rwa [List.append_nil] at this
theorem open_goB {l : List Cell} (hs : SrtC l) (hl : l.length ≤ 90) {size : Nat} (h0 : 0 < size) (h1 : size ≤ 4294967296) : Ev (fun k => table_Open.f k (tableB (goB size l [] 0) (filterB l))) (some (l, goB size l [] 0, filterB l)) := by
 have hfl : (goB size l [] 0).flatten = l := by rw [goB_flat, List.nil_append]
 have hg := goB_length size l [] 0
 have hok := goB_blk hs (by omega) h0
 have hc : cutQ (goB size l [] 0) = true := (cutQ_iff (fun b hb => (hok b hb).2.1)).2 ⟨(size : Int), by omega, by omega, goB_fit h0 l⟩
 have := open_built hok (by omega) (by rw [hfl]; exact hs) (by rw [hfl]; omega) hc
 rwa [hfl] at this
end Go.Proofs.Ytinhpolmanccgaa.Pl
/- Whether a key may be in a table. -/
namespace Go.Proofs.Ytinhpolmanccgaa.Pl
open Go.RowKit Go.Proofs.Ytinhpolmanccgaa.X Go.Proofs.YtinhpolmanccgaaW.PrintWords Go.Proofs.YtinhpolmanccgaaW.PrintLast Go.Proofs.YtinhpolmanccgaaW.PrintMore
theorem may_ev {l : List Cell} {r c : ByteArray} (hl : l.length ≤ 10000) (hr : r.size ≤ 10000) (hc : c.size ≤ 10000) : Ev (fun k => table_Table_May.f k (filterB l) r c) (hasF (filterB l) (keyT r c)) := by
 unfold table_Table_May.f
 have hk := keyT_size r c
 have hf := filterB_length l
 exact Ev.bind (Ev.eq (table_text_eq (by omega) (by omega))) (bloom_Has_ev (by omega) (bytes_filterB l) (by omega))
end Go.Proofs.Ytinhpolmanccgaa.Pl
/- Lists of cells: the printed functions answer the plain ones. -/
namespace Go.Proofs.Ytinhpolmanccgaa.Pl
open Go.RowKit Go.Proofs.Ytinhpolmanccgaa.X Go.Proofs.YtinhpolmanccgaaW.PrintWords Go.Proofs.YtinhpolmanccgaaW.PrintLast Go.Proofs.YtinhpolmanccgaaW.PrintMore
def fewC (l : List Cell) : Bool := decide (l.length ≤ 80) && l.all rightC
theorem fewC_iff {l : List Cell} : fewC l = true ↔ l.length ≤ 80 ∧ RightsC l := by
 unfold fewC RightsC
 rw [Bool.and_eq_true, decide_eq_true_iff, List.all_eq_true]
theorem ref_Few_l0 (l : List Cell) (hn : l.length ≤ 1000000000) (d : Nat) : ∀ i : Nat, i ≤ l.length → l.length - i = d → Ev (fun k => shardlogref08_Few.l0 k l (i : Int)) ((l.drop i).all rightC) := by
 induction d with
 | zero =>
  intro i hi hd
  rw [List.drop_eq_nil_of_le (by omega)]
  refine Ev.step (f := fun _ => some true) (fun k => ?_) (Ev.now _)
  simp only [shardlogref08_Few.l0]
  rw [if_neg (by omega)]
 | succ d ih =>
  intro i hi hd
  have hlt : i < l.length := by omega
  rw [List.drop_eq_getElem_cons hlt, List.all_cons]
  have hr := rdC_at l i hlt
  unfold rdC at hr
  have hk : ∀ k, shardlogref08_Few.l0 (k + 1) l (i : Int) = if rightC l[i] = true then shardlogref08_Few.l0 k l ((i + 1 : Nat) : Int) else some false := by
   intro k
   simp only [shardlogref08_Few.l0]
   rw [if_pos (by omega), if_pos (by omega), hr, ref_CRight_eq, w64 (by omega) (by omega)]
   rfl
  cases hc : rightC l[i] with
  | true =>
   refine Ev.step (f := fun k => shardlogref08_Few.l0 k l ((i + 1 : Nat) : Int)) (fun k => by rw [hk, if_pos hc]) ?_
   rw [Bool.true_and]
   exact ih (i + 1) (by omega) (by omega)
  | false => exact Ev.step (f := fun _ => some false) (fun k => by rw [hk, if_neg (by rw [hc]; exact Bool.false_ne_true)]) (Ev.now _)
theorem ref_Few_ev {l : List Cell} : Ev (fun k => shardlogref08_Few.f k l) (fewC l) := by
 unfold shardlogref08_Few.f fewC
 by_cases h : l.length ≤ 80
 ·
  rw [decide_eq_true h, Bool.true_and]
  refine Ev.neg (by omega) ?_
  have := ref_Few_l0 l (by omega) l.length 0 (by omega) (by omega)
  rw [List.drop_zero] at this
  exact this
 ·
  rw [decide_eq_false h, Bool.false_and]
  exact Ev.pos (by omega) (Ev.now _)
theorem ref_Put1_l0 (l : List Cell) (c : Cell) (hs : ∀ x ∈ l, SizedC x) (hn : l.length ≤ 1000000000) (d : Nat) : ∀ i : Nat, i ≤ l.length → l.length - i = d → (∀ j (_ : j < i) (hl : j < l.length), cc l[j] c = -1) → Ev (fun k => shardlogref08_Put1.l0 k l (i : Int) c.f0 c.f1 c.f2 c.f3 c.f4) (ins c l) := by
 have hj2 : ∀ i : Nat, i ≤ l.length → (∀ j (_ : j < i) (hl : j < l.length), cc l[j] c = -1) → (∀ h : i < l.length, ¬ cc l[i] c = -1) → Ev (fun k => shardlogref08_Put1.j1 k l (i : Int) false c.f0 c.f1 c.f2 c.f3 c.f4) (ins c l) := by
  intro i hi h1 h2
  rw [ins_split c l i hi h1 h2]
  by_cases hlt : i < l.length
  ·
   have hr := rdC_at l i hlt
   unfold rdC at hr
   refine Ev.step (fun k => by simp only [shardlogref08_Put1.j1, Bool.false_eq_true, if_false]; rw [if_pos (by omega), if_pos (by omega), Option.bind_some, if_pos (by omega), hr]) (Ev.bind (ref_CC_ev (hs _ (List.getElem_mem hlt)) c) ?_)
   rw [dif_pos hlt]
   by_cases h0 : cc l[i] c = 0
   ·
    rw [if_pos h0, h0]
    refine Ev.step (f := fun _ => some (l.take i ++ c :: l.drop (i + 1))) (fun k => ?_) (Ev.now _)
    simp only [shardlogref08_Put1.j2, BEq.rfl, if_true]
    rw [w64 (by omega) (by omega), if_pos (by omega), if_pos (by omega)]
    simp only [Option.bind_some]
    rw [if_pos (by omega), if_pos (by omega)]
    rw [Int.toNat_natCast, show ((i : Int) + 1).toNat = i + 1 by omega]
    have t1 : (l.take i).length = i := by rw [List.length_take]; omega
    have t2 : (l.drop (i + 1)).length = l.length - (i + 1) := List.length_drop
    rw [if_pos (by rw [List.length_nil, t1]; omega), if_pos (by simp only [List.length_append, List.length_nil, List.length_cons, t1]; omega), if_pos (by simp only [List.length_append, List.length_nil, List.length_cons, t1, t2]; omega)]
    simp
   ·
    rw [if_neg h0, show (cc l[i] c == 0) = false by simpa using h0]
    refine Ev.step (f := fun _ => some (l.take i ++ c :: l.drop i)) (fun k => ?_) (Ev.now _)
    simp only [shardlogref08_Put1.j2, Bool.false_eq_true, if_false, Option.bind_some]
    rw [if_pos (by omega), if_pos (by omega), Int.toNat_natCast]
    have t1 : (l.take i).length = i := by rw [List.length_take]; omega
    have t2 : (l.drop i).length = l.length - i := List.length_drop
    rw [if_pos (by rw [List.length_nil, t1]; omega), if_pos (by simp only [List.length_append, List.length_nil, List.length_cons, t1]; omega), if_pos (by simp only [List.length_append, List.length_nil, List.length_cons, t1, t2]; omega)]
    simp
  ·
   rw [dif_neg hlt]
   refine Ev.step (fun k => by simp only [shardlogref08_Put1.j1, Bool.false_eq_true, if_false]; rw [if_pos (by omega), if_pos (by omega), Option.bind_some, if_neg (by omega)]) ?_
   refine Ev.step (f := fun _ => some (l.take i ++ c :: l.drop i)) (fun k => ?_) (Ev.now _)
   simp only [shardlogref08_Put1.j2, Bool.false_eq_true, if_false, Option.bind_some]
   rw [if_pos (by omega), if_pos (by omega), Int.toNat_natCast]
   have t1 : (l.take i).length = i := by rw [List.length_take]; omega
   have t2 : (l.drop i).length = l.length - i := List.length_drop
   rw [if_pos (by rw [List.length_nil, t1]; omega), if_pos (by simp only [List.length_append, List.length_nil, List.length_cons, t1]; omega), if_pos (by simp only [List.length_append, List.length_nil, List.length_cons, t1, t2]; omega)]
   simp
 induction d with
 | zero =>
  intro i hi hd h1
  refine Ev.step (f := fun k => shardlogref08_Put1.j1 k l (i : Int) false c.f0 c.f1 c.f2 c.f3 c.f4) (fun k => ?_) (hj2 i hi h1 (fun h => by omega))
  simp only [shardlogref08_Put1.l0]
  rw [if_neg (by omega)]
 | succ d ih =>
  intro i hi hd h1
  have hlt : i < l.length := by omega
  have hr := rdC_at l i hlt
  unfold rdC at hr
  refine Ev.step (fun k => by simp only [shardlogref08_Put1.l0]; rw [if_pos (by omega), if_pos (by omega), hr]) (Ev.bind (ref_CC_ev (hs _ (List.getElem_mem hlt)) c) ?_)
  by_cases h0 : cc l[i] c = -1
  ·
   rw [h0]
   refine Ev.step (f := fun k => shardlogref08_Put1.l0 k l ((i + 1 : Nat) : Int) c.f0 c.f1 c.f2 c.f3 c.f4) (fun k => ?_) (ih (i + 1) (by omega) (by omega) (fun j hj hl => ?_))
   ·
    simp only [shardlogref08_Put1.j1, BEq.rfl, if_true]
    rw [w64 (by omega) (by omega)]
    rfl
   ·
    by_cases hji : j = i
    ·
     subst hji; exact h0
    ·
     exact h1 j (by omega) hl
  ·
   rw [show (cc l[i] c == -1) = false by simpa using h0]
   exact hj2 i hi h1 (fun _ => h0)
theorem ref_Put1_ev {l : List Cell} (c : Cell) (hs : ∀ x ∈ l, SizedC x) (hn : l.length ≤ 1000000000) : Ev (fun k => shardlogref08_Put1.f k l c.f0 c.f1 c.f2 c.f3 c.f4) (ins c l) := by
 unfold shardlogref08_Put1.f
 exact ref_Put1_l0 l c hs hn l.length 0 (by omega) (by omega) (fun j hj => by omega)
theorem sized_ins {c : Cell} {l : List Cell} (hc : SizedC c) (h : ∀ x ∈ l, SizedC x) : ∀ x ∈ ins c l, SizedC x := fun x hx => (mem_ins hx).elim (fun e => e ▸ hc) (h x)
theorem ref_Sort_l0 (l : List Cell) (hs : ∀ x ∈ l, SizedC x) (hn : l.length ≤ 500000000) (d : Nat) : ∀ (i : Nat) (o : List Cell), i ≤ l.length → l.length - i = d → (∀ x ∈ o, SizedC x) → o.length ≤ i → Ev (fun k => shardlogref08_Sort.l0 k l o (i : Int)) ((l.drop i).foldl (fun o c => ins c o) o) := by
 induction d with
 | zero =>
  intro i o hi hd ho hl
  rw [List.drop_eq_nil_of_le (by omega)]
  refine Ev.step (f := fun _ => some o) (fun k => ?_) (Ev.now _)
  simp only [shardlogref08_Sort.l0]
  rw [if_neg (by omega)]
 | succ d ih =>
  intro i o hi hd ho hl
  have hlt : i < l.length := by omega
  have hr := rdC_at l i hlt
  unfold rdC at hr
  rw [List.drop_eq_getElem_cons hlt, List.foldl_cons]
  refine Ev.step (fun k => by simp only [shardlogref08_Sort.l0]; rw [if_pos (by omega), if_pos (by omega), hr]) (Ev.bind (ref_Put1_ev l[i] ho (by omega)) ?_)
  rw [w64 (by omega) (by omega)]
  have := ins_length l[i] o
  exact ih (i + 1) _ (by omega) (by omega) (sized_ins (hs _ (List.getElem_mem hlt)) ho) (by omega)
theorem ref_Sort_ev {l : List Cell} (hs : ∀ x ∈ l, SizedC x) (hn : l.length ≤ 500000000) : Ev (fun k => shardlogref08_Sort.f k l) (sortC l) := by
 unfold shardlogref08_Sort.f sortC
 have := ref_Sort_l0 l hs hn l.length 0 [] (by omega) (by omega) (fun x hx => by cases hx) (by simp)
 rw [List.drop_zero] at this
 exact this
end Go.Proofs.Ytinhpolmanccgaa.Pl
