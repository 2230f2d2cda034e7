/- The plain laws, and what the printed functions answer, in one text. -/
import Derived.Test.YtgcicgjfimfhpaaWMore
import Derived.Laws.BitsLemmas
import Derived.Lib.Strings
import Derived.Test.YtgcicgjfimfhpaaXx2
import Derived.Test.YtgcicgjfimfhpaaXx4
import Derived.Test.YtgcicgjfimfhpaaXx3
import Derived.Test.YtgcicgjfimfhpaaWOwn
import Derived.Test.YtgcicgjfimfhpaaXx5
import Derived.Test.YtgcicgjfimfhpaaXx6
import Derived.Test.YtgcicgjfimfhpaaXx7
/- Plain laws of numbers, texts and lists as bytes: no program in sight. -/
namespace Go.Proofs.Ytgcicgjfimfhpaa.Pl
open Go.RowKit Go.Proofs.YtgcicgjfimfhpaaW.PrintWords Go.Proofs.YtgcicgjfimfhpaaW.PrintMore

def Bytes (l : List Int) : Prop := ∀ x ∈ l, 0 ≤ x ∧ x < 256
theorem wf_u8 {y : Int} (h : (Lit.int .u8 y).wf = true) : 0 ≤ y ∧ y < 256 := by
 simp [Lit.wf, IntKind.min, IntKind.max, IntKind.signed, IntKind.bits] at h
 omega
theorem Bytes.nil : Bytes [] := fun _ h => by cases h
theorem Bytes.append {a b : List Int} (ha : Bytes a) (hb : Bytes b) : Bytes (a ++ b) := fun x hx => (List.mem_append.1 hx).elim (ha x) (hb x)
theorem Bytes.take {a : List Int} (ha : Bytes a) (n : Nat) : Bytes (a.take n) := fun x hx => ha x (List.mem_of_mem_take hx)
theorem Bytes.drop {a : List Int} (ha : Bytes a) (n : Nat) : Bytes (a.drop n) := fun x hx => ha x (List.mem_of_mem_drop hx)
theorem Bytes.cons {x : Int} {l : List Int} (h0 : 0 ≤ x) (h1 : x < 256) (h : Bytes l) : Bytes (x :: l) := fun y hy => (List.mem_cons.1 hy).elim (fun e => e ▸ ⟨h0, h1⟩) (h y)
theorem toList_inj {a b : ByteArray} (h : a.toList = b.toList) : a = b := by
 rw [ByteArray.toList_eq, ByteArray.toList_eq] at h
 obtain ⟨⟨a⟩⟩ := a
 obtain ⟨⟨b⟩⟩ := b
 simp at h
 rw [h]
theorem bytesOf_size (s : ByteArray) : (bytesOf s).length = s.size := bytesOf_length s
theorem size_zero_iff (s : ByteArray) : s.size = 0 ↔ s = ⟨#[]⟩ := by
 constructor
 ·
  intro h
  obtain ⟨a⟩ := s
  have : a.size = 0 := h
  rw [Array.eq_empty_of_size_eq_zero this]
 ·
  rintro rfl; rfl
theorem w64 {x : Int} (h0 : -9223372036854775808 ≤ x) (h1 : x < 9223372036854775808) : wrap64 x = x := by unfold wrap64; omega

theorem _root_.Go.Proofs.YtgcicgjfimfhpaaW.PrintWords.Ev.pos {α : Type} {c : Prop} [Decidable c] {f g : Nat → Option α} {r : α} (hc : c) (h : Ev f r) : Ev (fun k => if c then f k else g k) r := by
 simpa only [if_pos hc] using h
theorem _root_.Go.Proofs.YtgcicgjfimfhpaaW.PrintWords.Ev.neg {α : Type} {c : Prop} [Decidable c] {f g : Nat → Option α} {r : α} (hc : ¬ c) (h : Ev g r) : Ev (fun k => if c then f k else g k) r := by
 simpa only [if_neg hc] using h
theorem _root_.Go.Proofs.YtgcicgjfimfhpaaW.PrintWords.Ev.eq {α : Type} {x : Option α} {r : α} (h : x = some r) : Ev (fun _ => x) r := by rw [h]; exact Ev.now r
theorem _root_.Go.Proofs.YtgcicgjfimfhpaaW.PrintWords.Ev.to {α : Type} {g : Nat → Option α} {r r' : α} (h : Ev g r) (e : r = r') : Ev g r' := e ▸ h

theorem four_form {α : Type} {b : List α} (h : 4 ≤ b.length) : ∃ x0 x1 x2 x3 r, b = x0 :: x1 :: x2 :: x3 :: r := by
 match b, h with
 | x0 :: x1 :: x2 :: x3 :: r, _ => exact ⟨x0, x1, x2, x3, r, rfl⟩
def num (n : Int) : List Int := if n < 0 then [] else if n > 4294967295 then [] else [n / 16777216 % 256, n / 65536 % 256, n / 256 % 256, n % 256]
def text (s : ByteArray) : List Int := num s.size ++ bytesOf s
def texts (l : List ByteArray) : List Int := num l.length ++ (l.map text).flatten
def val4 (b : List Int) : Int := 16777216 * rd b 0 + 65536 * rd b 1 + 256 * rd b 2 + rd b 3
theorem num_in {n : Int} (h0 : 0 ≤ n) (h1 : n ≤ 4294967295) : num n = [n / 16777216 % 256, n / 65536 % 256, n / 256 % 256, n % 256] := by
 unfold num
 rw [if_neg (by omega), if_neg (by omega)]
theorem num_length_le (n : Int) : (num n).length ≤ 4 := by
 unfold num
 split
 ·
  simp
 ·
  split <;> simp
theorem val4_nonneg {b : List Int} (h : Bytes b) (hl : 4 ≤ b.length) : 0 ≤ val4 b ∧ val4 b ≤ 4294967295 := by
 match b, hl with
 | x0 :: x1 :: x2 :: x3 :: r, _ =>
  have h0 := h x0 (by simp)
  have h1 := h x1 (by simp)
  have h2 := h x2 (by simp)
  have h3 := h x3 (by simp)
  simp [val4, rd]
  omega
theorem num_val4 {b : List Int} (h : Bytes b) (hl : 4 ≤ b.length) : num (val4 b) = b.take 4 := by
 obtain ⟨g0, g1⟩ := val4_nonneg h hl
 rw [num_in g0 g1]
 match b, hl with
 | x0 :: x1 :: x2 :: x3 :: r, _ =>
  have h0 := h x0 (by simp)
  have h1 := h x1 (by simp)
  have h2 := h x2 (by simp)
  have h3 := h x3 (by simp)
  simp [val4, rd]
  omega
theorem text_length_le (s : ByteArray) : (text s).length ≤ 4 + s.size := by
 unfold text
 rw [List.length_append, bytesOf_length]
 have := num_length_le s.size
 omega
end Go.Proofs.Ytgcicgjfimfhpaa.Pl
/- Plain laws of the order of cells: no program in sight. -/
namespace Go.Proofs.Ytgcicgjfimfhpaa.Pl
open Go.RowKit Go.Proofs.YtgcicgjfimfhpaaW.PrintWords Go.Proofs.YtgcicgjfimfhpaaW.PrintMore
def cmpB : List UInt8 → List UInt8 → Int
 | [], [] => 0
 | [], _ :: _ => -1
 | _ :: _, [] => 1
 | x :: a, y :: b => if x < y then -1 else if y < x then 1 else cmpB a b
theorem u8_asymm {x y : UInt8} (h : x < y) : ¬ y < x := fun h2 => absurd (UInt8.lt_trans h h2) (UInt8.lt_irrefl x)
theorem u8_eq {x y : UInt8} (h : ¬ x < y) (h2 : ¬ y < x) : x = y := UInt8.le_antisymm (UInt8.not_lt.1 h2) (UInt8.not_lt.1 h)
theorem cmpB_less : ∀ a b : List UInt8, cmpB a b = if Op.bytesLess a b = true then -1 else if Op.bytesLess b a = true then 1 else 0
 | [], [] => rfl
 | [], _ :: _ => rfl
 | _ :: _, [] => rfl
 | x :: a, y :: b => by
  have ih := cmpB_less a b
  by_cases h1 : x < y
  ·
   simp [cmpB, Op.bytesLess, h1]
  ·
   by_cases h2 : y < x
   ·
    have h3 : ¬ x = y := fun h => by rw [h] at h2; exact UInt8.lt_irrefl y h2
    simp [cmpB, Op.bytesLess, h1, h2, h3]
   ·
    have h3 := u8_eq h1 h2
    subst h3
    simp only [cmpB, Op.bytesLess, h1, decide_false, Bool.false_or, beq_self_eq_true, Bool.true_and]
    exact ih
theorem cmpB_in : ∀ a b : List UInt8, cmpB a b = -1 ∨ cmpB a b = 0 ∨ cmpB a b = 1
 | [], [] => .inr (.inl rfl)
 | [], _ :: _ => .inl rfl
 | _ :: _, [] => .inr (.inr rfl)
 | x :: a, y :: b => by
  unfold cmpB
  split
  ·
   exact .inl rfl
  ·
   split
   ·
    exact .inr (.inr rfl)
   ·
    exact cmpB_in a b
theorem cmpB_zero : ∀ {a b : List UInt8}, cmpB a b = 0 ↔ a = b
 | [], [] => by simp [cmpB]
 | [], _ :: _ => by simp [cmpB]
 | _ :: _, [] => by simp [cmpB]
 | x :: a, y :: b => by
  have ih := cmpB_zero (a := a) (b := b)
  unfold cmpB
  by_cases h1 : x < y
  ·
   rw [if_pos h1]
   have h3 : ¬ x = y := fun h => by rw [h] at h1; exact UInt8.lt_irrefl y h1
   simp [h3]
  ·
   rw [if_neg h1]
   by_cases h2 : y < x
   ·
    rw [if_pos h2]
    have h3 : ¬ x = y := fun h => by rw [h] at h2; exact UInt8.lt_irrefl y h2
    simp [h3]
   ·
    rw [if_neg h2, u8_eq h1 h2, ih]
    simp
theorem cmpB_neg : ∀ a b : List UInt8, cmpB b a = - cmpB a b
 | [], [] => rfl
 | [], _ :: _ => rfl
 | _ :: _, [] => rfl
 | x :: a, y :: b => by
  have ih := cmpB_neg a b
  unfold cmpB
  by_cases h1 : x < y
  ·
   simp [h1, u8_asymm h1]
  ·
   by_cases h2 : y < x
   ·
    simp [h1, h2]
   ·
    simp only [h1, h2, if_false]
    exact ih
theorem cmpB_trans : ∀ {a b c : List UInt8}, cmpB a b = -1 → cmpB b c = -1 → cmpB a c = -1
 | [], [], _, h, _ => by simp [cmpB] at h
 | _ :: _, [], _, h, _ => by simp [cmpB] at h
 | [], _ :: _, [], _, h => by simp [cmpB] at h
 | [], _ :: _, _ :: _, _, _ => rfl
 | _ :: _, _ :: _, [], _, h => by simp [cmpB] at h
 | x :: a, y :: b, z :: c, h, h' => by
  unfold cmpB at h h' ⊢
  by_cases h1 : x < y
  ·
   by_cases h2 : y < z
   ·
    rw [if_pos (UInt8.lt_trans h1 h2)]
   ·
    rw [if_neg h2] at h'
    by_cases h3 : z < y
    ·
     rw [if_pos h3] at h'; simp at h'
    ·
     rw [← u8_eq h2 h3, if_pos h1]
  ·
   rw [if_neg h1] at h
   by_cases h2 : y < x
   ·
    rw [if_pos h2] at h; simp at h
   ·
    rw [if_neg h2] at h
    have e := u8_eq h1 h2
    subst e
    by_cases h3 : x < z
    ·
     rw [if_pos h3]
    ·
     rw [if_neg h3] at h' ⊢
     by_cases h4 : z < x
     ·
      rw [if_pos h4] at h'; simp at h'
     ·
      rw [if_neg h4] at h' ⊢
      exact cmpB_trans h h'
def cmpT (a b : ByteArray) : Int := cmpB a.toList b.toList
def cmpN (a b : Int) : Int := if a < b then -1 else if b < a then 1 else 0
theorem cmpT_zero {a b : ByteArray} : cmpT a b = 0 ↔ a = b := ⟨fun h => toList_inj (cmpB_zero.1 h), fun h => cmpB_zero.2 (by rw [h])⟩
theorem cmpT_in (a b : ByteArray) : cmpT a b = -1 ∨ cmpT a b = 0 ∨ cmpT a b = 1 := cmpB_in _ _
theorem cmpN_in (a b : Int) : cmpN a b = -1 ∨ cmpN a b = 0 ∨ cmpN a b = 1 := by
 unfold cmpN
 split
 ·
  exact .inl rfl
 ·
  split
  ·
   exact .inr (.inr rfl)
  ·
   exact .inr (.inl rfl)
theorem cmpN_zero {a b : Int} : cmpN a b = 0 ↔ a = b := by
 unfold cmpN
 split
 ·
  omega
 ·
  split <;> omega
theorem cmpN_neg (a b : Int) : cmpN b a = - cmpN a b := by unfold cmpN; split <;> split <;> first | omega | (split <;> omega)
def cmpC (r c : ByteArray) (t : Int) (r' c' : ByteArray) (t' : Int) : Int := if cmpT r r' = 0 then (if cmpT c c' = 0 then cmpN t' t else cmpT c c') else cmpT r r'
theorem cmpC_in (r c t r' c' t') : cmpC r c t r' c' t' = -1 ∨ cmpC r c t r' c' t' = 0 ∨ cmpC r c t r' c' t' = 1 := by
 unfold cmpC
 split
 ·
  split
  ·
   exact cmpN_in _ _
  ·
   exact cmpT_in _ _
 ·
  exact cmpT_in _ _
theorem cmpC_neg (r c t r' c' t') : cmpC r' c' t' r c t = - cmpC r c t r' c' t' := by
 have h1 : cmpT r' r = - cmpT r r' := cmpB_neg _ _
 have h2 : cmpT c' c = - cmpT c c' := cmpB_neg _ _
 have h3 := cmpN_neg t' t
 unfold cmpC
 rw [h1, h2, h3]
 by_cases e1 : cmpT r r' = 0
 ·
  rw [if_pos e1, if_pos (by omega)]
  by_cases e2 : cmpT c c' = 0
  ·
   rw [if_pos e2, if_pos (by omega)]
  ·
   rw [if_neg e2, if_neg (by omega)]
 ·
  rw [if_neg e1, if_neg (by omega)]
theorem cmpC_zero {r c t r' c' t'} : cmpC r c t r' c' t' = 0 ↔ r = r' ∧ c = c' ∧ t = t' := by
 unfold cmpC
 by_cases e1 : cmpT r r' = 0
 ·
  rw [if_pos e1]
  by_cases e2 : cmpT c c' = 0
  ·
   rw [if_pos e2, cmpN_zero]
   exact ⟨fun h => ⟨cmpT_zero.1 e1, cmpT_zero.1 e2, h.symm⟩, fun h => h.2.2.symm⟩
  ·
   rw [if_neg e2]
   exact ⟨fun h => absurd h e2, fun h => absurd (cmpT_zero.2 h.2.1) e2⟩
 ·
  rw [if_neg e1]
  exact ⟨fun h => absurd h e1, fun h => absurd (cmpT_zero.2 h.1) e1⟩
theorem cmpC_trans {r c t r' c' t' r'' c'' t''} (h : cmpC r c t r' c' t' = -1) (h' : cmpC r' c' t' r'' c'' t'' = -1) : cmpC r c t r'' c'' t'' = -1 := by
 unfold cmpC at h h' ⊢
 by_cases e1 : cmpT r r' = 0
 ·
  rw [if_pos e1] at h
  have := cmpT_zero.1 e1
  subst this
  by_cases e2 : cmpT r r'' = 0
  ·
   rw [if_pos e2] at h' ⊢
   by_cases e3 : cmpT c c' = 0
   ·
    rw [if_pos e3] at h
    have := cmpT_zero.1 e3
    subst this
    by_cases e4 : cmpT c c'' = 0
    ·
     rw [if_pos e4] at h' ⊢
     unfold cmpN at h h' ⊢
     split at h <;> split at h' <;> first | (simp at h; done) | (rw [if_pos (by omega)]) | (split at h <;> simp at h; done) | (split at h' <;> simp at h')
    ·
     rw [if_neg e4] at h' ⊢
     exact h'
   ·
    rw [if_neg e3] at h
    by_cases e4 : cmpT c' c'' = 0
    ·
     have := cmpT_zero.1 e4
     subst this
     rw [if_neg e3]
     exact h
    ·
     rw [if_neg e4] at h'
     have h5 : cmpT c c'' = -1 := cmpB_trans h h'
     rw [if_neg (by omega)]
     exact h5
  ·
   rw [if_neg e2] at h' ⊢
   exact h'
 ·
  rw [if_neg e1] at h
  by_cases e2 : cmpT r' r'' = 0
  ·
   have := cmpT_zero.1 e2
   subst this
   rw [if_neg e1]
   exact h
  ·
   rw [if_neg e2] at h'
   have h5 : cmpT r r'' = -1 := cmpB_trans h h'
   rw [if_neg (by omega)]
   exact h5
end Go.Proofs.Ytgcicgjfimfhpaa.Pl
/- A cell as it may be: no program in sight. -/
namespace Go.Proofs.Ytgcicgjfimfhpaa.Pl
open Go.RowKit Go.Proofs.YtgcicgjfimfhpaaW.PrintWords Go.Proofs.YtgcicgjfimfhpaaW.PrintMore
def cellRight (r c : ByteArray) (t : Int) (v : ByteArray) (g : Bool) : Bool := decide (1 ≤ r.size ∧ r.size ≤ 64 ∧ 1 ≤ c.size ∧ c.size ≤ 64 ∧ 0 ≤ t ∧ t ≤ 4294967295 ∧ v.size ≤ 256 ∧ (g = false ∨ v.size = 0))
theorem cellRight_iff {r c : ByteArray} {t : Int} {v : ByteArray} {g : Bool} : cellRight r c t v g = true ↔ 1 ≤ r.size ∧ r.size ≤ 64 ∧ 1 ≤ c.size ∧ c.size ≤ 64 ∧ 0 ≤ t ∧ t ≤ 4294967295 ∧ v.size ≤ 256 ∧ (g = false ∨ v.size = 0) := by unfold cellRight; exact decide_eq_true_iff
theorem toList_nil {v : ByteArray} : (v.toList == ([] : List UInt8)) = decide (v.size = 0) := by
 rw [Bool.eq_iff_iff, beq_iff_eq, decide_eq_true_iff, size_zero_iff]
 constructor
 ·
  intro h
  exact toList_inj (h.trans (by simp [ByteArray.toList_eq]))
 ·
  rintro rfl
  simp [ByteArray.toList_eq]
theorem some_bool {c d : Bool} (h : c = true ↔ d = true) : some c = some d := by rw [Option.some.injEq, Bool.eq_iff_iff, h]
end Go.Proofs.Ytgcicgjfimfhpaa.Pl
/- The printed order of cells answers the plain one. -/
namespace Go.Proofs.Ytgcicgjfimfhpaa.Pl
open Go.RowKit Go.Proofs.Ytgcicgjfimfhpaa.X Go.Proofs.YtgcicgjfimfhpaaW.PrintWords Go.Proofs.YtgcicgjfimfhpaaW.PrintLast Go.Proofs.YtgcicgjfimfhpaaW.PrintMore
theorem cmpString_eq (a b : ByteArray) : cmp_Compare_string.f a b = some (cmpT a b) := by
 unfold cmp_Compare_string.f cmp_isNaN_string.f cmpT
 rw [cmpB_less]
 simp only [Option.bind_some, bne_self_eq_false, Bool.false_eq_true, if_false]
 split
 ·
  rfl
 ·
  split <;> rfl
theorem cmpInt_eq (a b : Int) : cmp_Compare_int.f a b = some (cmpN a b) := by
 unfold cmp_Compare_int.f cmp_isNaN_int.f cmpN
 simp only [Option.bind_some, bne_self_eq_false, Bool.false_eq_true, if_false]
 split
 ·
  rfl
 ·
  split <;> rfl
theorem cmpOr_ev (a b c : Int) : Ev (fun k => cmp_Or_int.f k [a, b, c]) (if a = 0 then (if b = 0 then c else b) else a) := by
 unfold cmp_Or_int.f
 have hl : (([a, b, c] : List Int).length : Int) = 3 := rfl
 rw [hl]
 by_cases ha : a = 0
 ·
  rw [if_pos ha]
  refine Ev.step (f := fun k => cmp_Or_int.l0 k 0 [a, b, c] 3 1) (fun k => ?_) ?_
  ·
   simp only [cmp_Or_int.l0, hl]
   rw [if_pos (by omega), if_pos (by omega), if_pos (by omega), show rd [a, b, c] 0 = a from rfl, if_pos ha, w64 (by omega) (by omega)]
   rfl
  by_cases hb : b = 0
  ·
   rw [if_pos hb]
   refine Ev.step (f := fun k => cmp_Or_int.l0 k 0 [a, b, c] 3 2) (fun k => ?_) ?_
   ·
    simp only [cmp_Or_int.l0, hl]
    rw [if_pos (by omega), if_pos (by omega), if_pos (by omega), show rd [a, b, c] 1 = b from rfl, if_pos hb, w64 (by omega) (by omega)]
    rfl
   by_cases hc : c = 0
   ·
    refine Ev.step (f := fun k => cmp_Or_int.l0 k 0 [a, b, c] 3 3) (fun k => ?_) ?_
    ·
     simp only [cmp_Or_int.l0, hl]
     rw [if_pos (by omega), if_pos (by omega), if_pos (by omega), show rd [a, b, c] 2 = c from rfl, if_pos hc, w64 (by omega) (by omega)]
     rfl
    refine Ev.step (f := fun _ => some 0) (fun k => ?_) ((Ev.now 0).to hc.symm)
    simp only [cmp_Or_int.l0]
    rw [if_neg (by omega)]
   ·
    refine Ev.step (f := fun _ => some c) (fun k => ?_) (Ev.now _)
    simp only [cmp_Or_int.l0, hl]
    rw [if_pos (by omega), if_pos (by omega), if_pos (by omega), show rd [a, b, c] 2 = c from rfl, if_neg hc]
  ·
   rw [if_neg hb]
   refine Ev.step (f := fun _ => some b) (fun k => ?_) (Ev.now _)
   simp only [cmp_Or_int.l0, hl]
   rw [if_pos (by omega), if_pos (by omega), if_pos (by omega), show rd [a, b, c] 1 = b from rfl, if_neg hb]
 ·
  rw [if_neg ha]
  refine Ev.step (f := fun _ => some a) (fun k => ?_) (Ev.now _)
  simp only [cmp_Or_int.l0, hl]
  rw [if_pos (by omega), if_pos (by omega), if_pos (by omega), show rd [a, b, c] 0 = a from rfl, if_neg ha]
theorem cell_Compare_ev (r c : ByteArray) (t : Int) (v : ByteArray) (g : Bool) (r' c' : ByteArray) (t' : Int) (v' : ByteArray) (g' : Bool) : Ev (fun k => cell_Compare.f k r c t v g r' c' t' v' g') (cmpC r c t r' c' t') := by
 unfold cell_Compare.f
 simp only [cmpString_eq, cmpInt_eq, Option.bind_some]
 exact Ev.bind (cmpOr_ev _ _ _) (Ev.now _)
end Go.Proofs.Ytgcicgjfimfhpaa.Pl
/- Plain laws of lists of cells: put in order, sorted. -/
namespace Go.Proofs.Ytgcicgjfimfhpaa.Pl
open Go.RowKit Go.Proofs.Ytgcicgjfimfhpaa.X Go.Proofs.YtgcicgjfimfhpaaW.PrintWords Go.Proofs.YtgcicgjfimfhpaaW.PrintLast Go.Proofs.YtgcicgjfimfhpaaW.PrintMore
abbrev Cell := S29
abbrev rdC (xs : List Cell) (i : Int) : Cell := rd_T29 xs i
theorem rdC_at (l : List Cell) (i : Nat) (h : i < l.length) : rdC l (i : Int) = l[i] := by
 show l.getD (i : Int).toNat _ = _
 rw [Int.toNat_natCast, List.getD_eq_getElem?_getD, List.getElem?_eq_getElem h]
 rfl
def cc (a b : Cell) : Int := cmpC a.f0 a.f1 a.f2 b.f0 b.f1 b.f2
def rightC (a : Cell) : Bool := cellRight a.f0 a.f1 a.f2 a.f3 a.f4
theorem cc_in (a b : Cell) : cc a b = -1 ∨ cc a b = 0 ∨ cc a b = 1 := cmpC_in _ _ _ _ _ _
theorem cc_neg (a b : Cell) : cc b a = - cc a b := cmpC_neg _ _ _ _ _ _
theorem cc_zero {a b : Cell} : cc a b = 0 ↔ a.f0 = b.f0 ∧ a.f1 = b.f1 ∧ a.f2 = b.f2 := cmpC_zero
theorem cc_trans {a b c : Cell} (h : cc a b = -1) (h' : cc b c = -1) : cc a c = -1 := cmpC_trans h h'
theorem cc_self (a : Cell) : cc a a = 0 := cc_zero.2 ⟨rfl, rfl, rfl⟩
theorem cc_left {a b : Cell} (h : cc a b = 0) (c : Cell) : cc a c = cc b c := by
 obtain ⟨h1, h2, h3⟩ := cc_zero.1 h
 unfold cc
 rw [h1, h2, h3]
theorem cc_gt {a b : Cell} (h1 : ¬ cc a b = -1) (h2 : ¬ cc a b = 0) : cc b a = -1 := by
 have := cc_in a b
 have := cc_neg a b
 omega
theorem cc_sym {a b : Cell} (h : cc a b = 0) : cc b a = 0 := by
 have := cc_neg a b
 omega
def ins (c : Cell) : List Cell → List Cell
 | [] => [c]
 | x :: l => if cc x c = -1 then x :: ins c l else if cc x c = 0 then c :: l else c :: x :: l
def sortC (l : List Cell) : List Cell := l.foldl (fun o c => ins c o) []
def OrdC (l : List Cell) : Prop := l.Pairwise (fun a b => cc a b = -1)
def RightsC (l : List Cell) : Prop := ∀ c ∈ l, rightC c = true
def SrtC (l : List Cell) : Prop := RightsC l ∧ OrdC l
theorem mem_ins {c x : Cell} : ∀ {l : List Cell}, x ∈ ins c l → x = c ∨ x ∈ l
 | [], h => by simp only [ins, List.mem_singleton] at h; exact .inl h
 | y :: l, h => by
  unfold ins at h
  split at h
  ·
   rcases List.mem_cons.1 h with rfl | h
   ·
    exact .inr (List.mem_cons_self)
   ·
    exact (mem_ins h).imp id (List.mem_cons_of_mem _)
  ·
   split at h
   ·
    rcases List.mem_cons.1 h with rfl | h
    ·
     exact .inl rfl
    ·
     exact .inr (List.mem_cons_of_mem _ h)
   ·
    rcases List.mem_cons.1 h with rfl | h
    ·
     exact .inl rfl
    ·
     exact .inr h
theorem ins_mem (c : Cell) : ∀ l : List Cell, c ∈ ins c l
 | [] => by simp [ins]
 | y :: l => by
  unfold ins
  split
  ·
   exact List.mem_cons_of_mem _ (ins_mem c l)
  ·
   split <;> exact List.mem_cons_self
theorem mem_ins_of {c x : Cell} (hx : cc x c ≠ 0) : ∀ {l : List Cell}, x ∈ l → x ∈ ins c l
 | [], h => by cases h
 | y :: l, h => by
  unfold ins
  split
  ·
   rcases List.mem_cons.1 h with rfl | h
   ·
    exact List.mem_cons_self
   ·
    exact List.mem_cons_of_mem _ (mem_ins_of hx h)
  ·
   split
   ·
    rename_i h0
    rcases List.mem_cons.1 h with rfl | h
    ·
     exact absurd h0 hx
    ·
     exact List.mem_cons_of_mem _ h
   ·
    exact List.mem_cons_of_mem _ h
theorem ord_ins {c : Cell} : ∀ {l : List Cell}, OrdC l → OrdC (ins c l)
 | [], _ => by simp [ins, OrdC]
 | y :: l, h => by
  obtain ⟨h1, h2⟩ := List.pairwise_cons.1 h
  unfold ins
  split
  ·
   rename_i hy
   refine List.pairwise_cons.2 ⟨fun z hz => ?_, ord_ins h2⟩
   rcases mem_ins hz with rfl | hz
   ·
    exact hy
   ·
    exact h1 z hz
  ·
   split
   ·
    rename_i h0
    refine List.pairwise_cons.2 ⟨fun z hz => ?_, h2⟩
    rw [← cc_left h0]
    exact h1 z hz
   ·
    rename_i hn h0
    have hg := cc_gt hn h0
    refine List.pairwise_cons.2 ⟨fun z hz => ?_, h⟩
    rcases List.mem_cons.1 hz with rfl | hz
    ·
     exact hg
    ·
     exact cc_trans hg (h1 z hz)
theorem rights_ins {c : Cell} {l : List Cell} (hc : rightC c = true) (h : RightsC l) : RightsC (ins c l) := fun x hx => (mem_ins hx).elim (fun e => e ▸ hc) (h x)
theorem srt_ins {c : Cell} {l : List Cell} (hc : rightC c = true) (h : SrtC l) : SrtC (ins c l) := ⟨rights_ins hc h.1, ord_ins h.2⟩
theorem ins_length (c : Cell) : ∀ l : List Cell, (ins c l).length ≤ l.length + 1
 | [] => by simp [ins]
 | y :: l => by
  have := ins_length c l
  unfold ins
  split
  ·
   simp only [List.length_cons]; omega
  ·
   split <;> simp only [List.length_cons] <;> omega
theorem foldl_srt : ∀ (l o : List Cell), RightsC l → SrtC o → SrtC (l.foldl (fun o c => ins c o) o)
 | [], _, _, h => h
 | c :: l, o, hl, h => foldl_srt l (ins c o) (fun x hx => hl x (List.mem_cons_of_mem _ hx)) (srt_ins (hl c List.mem_cons_self) h)
theorem foldl_length : ∀ (l o : List Cell), (l.foldl (fun o c => ins c o) o).length ≤ o.length + l.length
 | [], o => by simp
 | c :: l, o => by
  have h1 := foldl_length l (ins c o)
  have h2 := ins_length c o
  simp only [List.foldl_cons, List.length_cons]
  omega
theorem srt_nil : SrtC [] := ⟨fun _ hx => (by cases hx), List.Pairwise.nil⟩
theorem sortC_srt {l : List Cell} (h : RightsC l) : SrtC (sortC l) := foldl_srt l [] h srt_nil
theorem sortC_length (l : List Cell) : (sortC l).length ≤ l.length := by
 have := foldl_length l []
 simpa [sortC] using this
theorem ins_split (c : Cell) : ∀ (l : List Cell) (i : Nat), i ≤ l.length → (∀ j (_ : j < i) (hl : j < l.length), cc l[j] c = -1) → (∀ h : i < l.length, ¬ cc l[i] c = -1) →
  ins c l = l.take i ++ c :: (l.drop (if h : i < l.length then (if cc l[i] c = 0 then i + 1 else i) else i))
 | [], i, hi, _, _ => by
  have : i = 0 := by simpa using hi
  subst this
  simp [ins]
 | x :: l, 0, _, _, h2 => by
  have h3 := h2 (by simp)
  simp only [List.getElem_cons_zero] at h3
  unfold ins
  rw [if_neg h3]
  by_cases h0 : cc x c = 0
  ·
   simp [h0]
  ·
   simp [h0]
 | x :: l, i + 1, hi, h1, h2 => by
  have hx := h1 0 (by omega) (by simp)
  simp only [List.getElem_cons_zero] at hx
  unfold ins
  rw [if_pos hx, ins_split c l i (by simpa using hi) (fun j hj hl => by have := h1 (j + 1) (by omega) (by simpa using hl); simpa using this) (fun hl => by have := h2 (by simpa using hl); simpa using this)]
  by_cases hl : i < l.length
  ·
   by_cases h0 : cc l[i] c = 0
   ·
    simp [hl, h0]
   ·
    simp [hl, h0]
  ·
   simp [hl]
theorem rightC_iff {a : Cell} : rightC a = true ↔ 1 ≤ a.f0.size ∧ a.f0.size ≤ 64 ∧ 1 ≤ a.f1.size ∧ a.f1.size ≤ 64 ∧ 0 ≤ a.f2 ∧ a.f2 ≤ 4294967295 ∧ a.f3.size ≤ 256 ∧ (a.f4 = false ∨ a.f3.size = 0) := cellRight_iff
end Go.Proofs.Ytgcicgjfimfhpaa.Pl
/- Cells put into a sorted list, one behind the other. -/
namespace Go.Proofs.Ytgcicgjfimfhpaa.Pl
open Go.RowKit Go.Proofs.Ytgcicgjfimfhpaa.X Go.Proofs.YtgcicgjfimfhpaaW.PrintWords Go.Proofs.YtgcicgjfimfhpaaW.PrintLast Go.Proofs.YtgcicgjfimfhpaaW.PrintMore
theorem ord_ext : ∀ {r r' : List Cell}, OrdC r → OrdC r' → (∀ c, c ∈ r ↔ c ∈ r') → r = r'
 | [], [], _, _, _ => rfl
 | [], b :: r', _, _, h => by have := (h b).2 List.mem_cons_self; cases this
 | a :: r, [], _, _, h => by have := (h a).1 List.mem_cons_self; cases this
 | a :: r, b :: r', h1, h2, h => by
  obtain ⟨ha, h1'⟩ := List.pairwise_cons.1 h1
  obtain ⟨hb, h2'⟩ := List.pairwise_cons.1 h2
  have e : a = b := by
   rcases List.mem_cons.1 ((h a).1 List.mem_cons_self) with e | h3
   ·
    exact e
   ·
    rcases List.mem_cons.1 ((h b).2 List.mem_cons_self) with e | h4
    ·
     exact e.symm
    ·
     have := ha b h4
     have := hb a h3
     have := cc_neg a b
     omega
  subst e
  rw [ord_ext h1' h2' (fun c => ?_)]
  constructor
  ·
   intro hc
   rcases List.mem_cons.1 ((h c).1 (List.mem_cons_of_mem _ hc)) with rfl | h3
   ·
    have := ha c hc
    have := cc_self c
    omega
   ·
    exact h3
  ·
   intro hc
   rcases List.mem_cons.1 ((h c).2 (List.mem_cons_of_mem _ hc)) with rfl | h3
   ·
    have := hb c hc
    have := cc_self c
    omega
   ·
    exact h3
theorem ord_inj {l : List Cell} (h : OrdC l) {a b : Cell} (ha : a ∈ l) (hb : b ∈ l) (he : cc a b = 0) : a = b := by
 obtain ⟨i, hi, rfl⟩ := List.getElem_of_mem ha
 obtain ⟨j, hj, rfl⟩ := List.getElem_of_mem hb
 rcases Nat.lt_trichotomy i j with hlt | rfl | hlt
 ·
  have := List.pairwise_iff_getElem.1 h i j hi hj hlt
  omega
 ·
  rfl
 ·
  have := List.pairwise_iff_getElem.1 h j i hj hi hlt
  have := cc_neg l[j] l[i]
  omega
theorem ord_foldl : ∀ (l : List Cell) {o : List Cell}, OrdC o → OrdC (l.foldl (fun o c => ins c o) o)
 | [], _, h => h
 | c :: l, _, h => ord_foldl l (ord_ins h)
theorem mem_ins_iff {a c : Cell} {o : List Cell} (h : OrdC o) : c ∈ ins a o ↔ c = a ∨ (c ∈ o ∧ cc a c ≠ 0) := by
 constructor
 ·
  intro hc
  by_cases e : c = a
  ·
   exact .inl e
  ·
   rcases mem_ins hc with e' | ho
   ·
    exact absurd e' e
   ·
    exact .inr ⟨ho, fun h0 => e (ord_inj (ord_ins (c := a) h) (ins_mem a o) hc h0).symm⟩
 ·
  rintro (rfl | ⟨ho, h0⟩)
  ·
   exact ins_mem c o
  ·
   exact mem_ins_of (fun h => h0 (cc_sym h)) ho
theorem mem_foldl_iff : ∀ {l o : List Cell} {c : Cell}, OrdC l → OrdC o → (c ∈ l.foldl (fun o c => ins c o) o ↔ c ∈ l ∨ (c ∈ o ∧ ∀ d ∈ l, cc d c ≠ 0))
 | [], _, _, _, _ => by simp
 | a :: l, o, c, h, ho => by
  obtain ⟨h1, h2⟩ := List.pairwise_cons.1 h
  rw [List.foldl_cons, mem_foldl_iff h2 (ord_ins ho), mem_ins_iff ho]
  constructor
  ·
   rintro (hc | ⟨rfl | ⟨hc, h0⟩, h3⟩)
   ·
    exact .inl (List.mem_cons_of_mem _ hc)
   ·
    exact .inl List.mem_cons_self
   ·
    refine .inr ⟨hc, fun d hd => ?_⟩
    rcases List.mem_cons.1 hd with rfl | hd
    ·
     exact h0
    ·
     exact h3 d hd
  ·
   rintro (hc | ⟨hc, h3⟩)
   ·
    rcases List.mem_cons.1 hc with rfl | hc
    ·
     refine .inr ⟨.inl rfl, fun d hd => ?_⟩
     have := h1 d hd
     have := cc_neg c d
     omega
    ·
     exact .inl hc
   ·
    exact .inr ⟨.inr ⟨hc, h3 a List.mem_cons_self⟩, fun d hd => h3 d (List.mem_cons_of_mem _ hd)⟩
theorem foldl_ord {l : List Cell} (h : OrdC l) : l.foldl (fun o c => ins c o) [] = l :=
 ord_ext (ord_foldl l List.Pairwise.nil) h fun c => by rw [mem_foldl_iff h List.Pairwise.nil]; simp
theorem foldl_turned {l : List Cell} (h : OrdC l) (j : Nat) : (l.drop j ++ l.take j).foldl (fun o c => ins c o) [] = l := by
 have hd : OrdC (l.drop j) := List.Pairwise.sublist (List.drop_sublist j l) h
 have ht : OrdC (l.take j) := List.Pairwise.sublist (List.take_sublist j l) h
 rw [List.foldl_append, foldl_ord hd]
 have hp : OrdC (l.take j ++ l.drop j) := by rw [List.take_append_drop]; exact h
 refine ord_ext (ord_foldl _ hd) h fun c => ?_
 rw [mem_foldl_iff ht hd]
 constructor
 ·
  rintro (hc | ⟨hc, _⟩)
  ·
   exact List.mem_of_mem_take hc
  ·
   exact List.mem_of_mem_drop hc
 ·
  intro hc
  rw [← List.take_append_drop j l] at hc
  rcases List.mem_append.1 hc with hc | hc
  ·
   exact .inl hc
  ·
   refine .inr ⟨hc, fun d hd' => ?_⟩
   have := (List.pairwise_append.1 hp).2.2 d hd' c hc
   omega
end Go.Proofs.Ytgcicgjfimfhpaa.Pl
/- Plain laws of lists of cells: the first one that is not ahead of a key; the newest of a row and column up to a time. -/
namespace Go.Proofs.Ytgcicgjfimfhpaa.Pl
open Go.RowKit Go.Proofs.Ytgcicgjfimfhpaa.X Go.Proofs.YtgcicgjfimfhpaaW.PrintWords Go.Proofs.YtgcicgjfimfhpaaW.PrintLast Go.Proofs.YtgcicgjfimfhpaaW.PrintMore
def posC (t : Cell) : List Cell → Nat
 | [] => 0
 | x :: l => if cc x t = -1 then posC t l + 1 else 0
theorem posC_le (t : Cell) : ∀ l : List Cell, posC t l ≤ l.length
 | [] => Nat.le_refl _
 | x :: l => by
  have := posC_le t l
  unfold posC
  split <;> simp only [List.length_cons] <;> omega
theorem posC_uniq (t : Cell) : ∀ (l : List Cell) (i : Nat), i ≤ l.length → (∀ j (_ : j < i) (hl : j < l.length), cc l[j] t = -1) → (∀ h : i < l.length, ¬ cc l[i] t = -1) → posC t l = i
 | [], i, hi, _, _ => by simp at hi; simp [posC, hi]
 | x :: l, 0, _, _, h2 => by
  have := h2 (by simp)
  simp only [List.getElem_cons_zero] at this
  unfold posC
  rw [if_neg this]
 | x :: l, i + 1, hi, h1, h2 => by
  have hx := h1 0 (by omega) (by simp)
  simp only [List.getElem_cons_zero] at hx
  unfold posC
  rw [if_pos hx, posC_uniq t l i (by simpa using hi) (fun j hj hl => by have := h1 (j + 1) (by omega) (by simpa using hl); simpa using this) (fun hl => by have := h2 (by simpa using hl); simpa using this)]
def ofC (r c : ByteArray) (t : Int) (x : Cell) : Bool := decide (x.f0 = r ∧ x.f1 = c ∧ x.f2 ≤ t)
theorem ofC_iff {r c : ByteArray} {t : Int} {x : Cell} : ofC r c t x = true ↔ x.f0 = r ∧ x.f1 = c ∧ x.f2 ≤ t := decide_eq_true_iff
def findC (r c : ByteArray) (t : Int) (l : List Cell) : Option Cell := l.find? (ofC r c t)
def keyC (r c : ByteArray) (t : Int) : Cell := ⟨r, c, t, ⟨#[]⟩, false⟩
theorem cc_same {x y : Cell} (h1 : x.f0 = y.f0) (h2 : x.f1 = y.f1) : cc x y = cmpN y.f2 x.f2 := by
 unfold cc cmpC
 rw [if_pos (cmpT_zero.2 h1), if_pos (cmpT_zero.2 h2)]
theorem cmpN_lt {a b : Int} : cmpN a b = -1 ↔ a < b := by
 unfold cmpN
 split
 ·
  simp [*]
 ·
  split <;> simp <;> omega
theorem cc_other {x y z : Cell} (h1 : y.f0 = z.f0) (h2 : y.f1 = z.f1) (h : ¬ (x.f0 = y.f0 ∧ x.f1 = y.f1)) : cc x y = cc x z := by
 unfold cc cmpC
 rw [← h1, ← h2]
 by_cases e1 : cmpT x.f0 y.f0 = 0
 ·
  rw [if_pos e1]
  by_cases e2 : cmpT x.f1 y.f1 = 0
  ·
   exact absurd ⟨cmpT_zero.1 e1, cmpT_zero.1 e2⟩ h
  ·
   rw [if_neg e2, if_pos e1, if_neg e2]
 ·
  rw [if_neg e1, if_neg e1]
theorem find_pos (r c : ByteArray) (t : Int) : ∀ {l : List Cell}, OrdC l → findC r c t l = if h : posC (keyC r c t) l < l.length then (if l[posC (keyC r c t) l].f0 = r ∧ l[posC (keyC r c t) l].f1 = c then some l[posC (keyC r c t) l] else none) else none
 | [], _ => by simp [findC]
 | x :: l, h => by
  obtain ⟨h1, h2⟩ := List.pairwise_cons.1 h
  by_cases hx : cc x (keyC r c t) = -1
  ·
   have hn : ofC r c t x = false := by
    cases ho : ofC r c t x with
    | false => rfl
    | true =>
     obtain ⟨e1, e2, e3⟩ := ofC_iff.1 ho
     rw [cc_same (y := keyC r c t) e1 e2, cmpN_lt] at hx
     have : (keyC r c t).f2 = t := rfl
     omega
   unfold findC
   rw [List.find?_cons_of_neg (by simp [hn])]
   have ih := find_pos r c t h2
   unfold findC at ih
   rw [ih]
   simp only [posC, if_pos hx, List.length_cons, Nat.add_lt_add_iff_right, List.getElem_cons_succ]
  ·
   simp only [posC, if_neg hx, List.length_cons, Nat.zero_lt_succ, dif_pos, List.getElem_cons_zero]
   by_cases hk : x.f0 = r ∧ x.f1 = c
   ·
    rw [if_pos hk]
    rw [cc_same (y := keyC r c t) hk.1 hk.2, cmpN_lt] at hx
    have : (keyC r c t).f2 = t := rfl
    exact List.find?_cons_of_pos (ofC_iff.2 ⟨hk.1, hk.2, by omega⟩)
   ·
    rw [if_neg hk]
    refine List.find?_eq_none.2 fun y hy => ?_
    rcases List.mem_cons.1 hy with rfl | hy
    ·
     intro ho
     obtain ⟨e1, e2, _⟩ := ofC_iff.1 ho
     exact hk ⟨e1, e2⟩
    ·
     intro ho
     obtain ⟨e1, e2, _⟩ := ofC_iff.1 ho
     have hxy := h1 y hy
     rw [cc_other (y := y) (z := keyC r c t) e1 e2 (by rw [e1, e2]; exact hk)] at hxy
     exact hx hxy
def bestC (r c : ByteArray) (t : Int) : List Cell → Cell → Cell
 | [], b => b
 | x :: l, b => bestC r c t l (if ofC r c t x = true ∧ x.f2 > b.f2 then x else b)
theorem bestC_stay (r c : ByteArray) (t : Int) : ∀ (l : List Cell) (b : Cell), (∀ x ∈ l, ofC r c t x = true → x.f2 ≤ b.f2) → bestC r c t l b = b
 | [], _, _ => rfl
 | x :: l, b, h => by
  unfold bestC
  rw [if_neg (fun hx => by have := h x List.mem_cons_self hx.1; omega)]
  exact bestC_stay r c t l b (fun y hy => h y (List.mem_cons_of_mem _ hy))
theorem bestC_find (r c : ByteArray) (t : Int) (z : Cell) (hz : z.f2 = -1) : ∀ {l : List Cell}, SrtC l → bestC r c t l z = (findC r c t l).getD z
 | [], _ => rfl
 | x :: l, ⟨hr, h⟩ => by
  obtain ⟨h1, h2⟩ := List.pairwise_cons.1 h
  unfold bestC findC
  by_cases hx : ofC r c t x = true
  ·
   have h0 := (rightC_iff.1 (hr x List.mem_cons_self)).2.2.2.2.1
   rw [if_pos ⟨hx, by omega⟩, List.find?_cons_of_pos hx]
   refine bestC_stay r c t l x fun y hy ho => ?_
   obtain ⟨e1, e2, _⟩ := ofC_iff.1 hx
   obtain ⟨f1, f2, _⟩ := ofC_iff.1 ho
   have := h1 y hy
   rw [cc_same (e1.trans f1.symm) (e2.trans f2.symm), cmpN_lt] at this
   omega
  ·
   rw [if_neg (fun h => hx h.1), List.find?_cons_of_neg hx]
   exact bestC_find r c t z hz ⟨fun y hy => hr y (List.mem_cons_of_mem _ hy), h2⟩
def tupC : Option Cell → ByteArray × ByteArray × Int × ByteArray × Bool × Bool
 | none => (⟨#[]⟩, ⟨#[]⟩, 0, ⟨#[]⟩, false, false)
 | some c => (c.f0, c.f1, c.f2, c.f3, c.f4, true)
end Go.Proofs.Ytgcicgjfimfhpaa.Pl
/- Whether a cell is right, by the reference. -/
namespace Go.Proofs.Ytgcicgjfimfhpaa.Pl
open Go.RowKit Go.Proofs.Ytgcicgjfimfhpaa.X Go.Proofs.YtgcicgjfimfhpaaW.PrintWords Go.Proofs.YtgcicgjfimfhpaaW.PrintLast Go.Proofs.YtgcicgjfimfhpaaW.PrintMore
theorem ref_CRight_eq (r c : ByteArray) (t : Int) (v : ByteArray) (g : Bool) : shardlogref08_Right.f r c t v g = some (cellRight r c t v g) := by
 unfold shardlogref08_Right.f
 simp only [toList_nil]
 split
 ·
  exact some_bool (by rw [cellRight_iff]; simp only [Bool.false_eq_true, false_iff]; omega)
 split
 ·
  exact some_bool (by rw [cellRight_iff]; simp only [Bool.false_eq_true, false_iff]; omega)
 split
 ·
  exact some_bool (by rw [cellRight_iff]; simp only [Bool.false_eq_true, false_iff]; omega)
 split
 ·
  exact some_bool (by rw [cellRight_iff]; simp only [Bool.false_eq_true, false_iff]; omega)
 split
 ·
  exact some_bool (by rw [cellRight_iff]; simp only [Bool.false_eq_true, false_iff]; omega)
 split
 ·
  exact some_bool (by rw [cellRight_iff]; simp only [Bool.false_eq_true, false_iff]; omega)
 split
 ·
  split
  ·
   exact some_bool (by rename_i h; rw [cellRight_iff, decide_eq_true_iff]; exact ⟨fun hz => ⟨by omega, by omega, by omega, by omega, by omega, by omega, by omega, .inr hz⟩, fun hh => hh.2.2.2.2.2.2.2.elim (fun e => by rw [h] at e; cases e) id⟩)
  ·
   exact some_bool (by rename_i h; rw [cellRight_iff]; exact ⟨fun _ => ⟨by omega, by omega, by omega, by omega, by omega, by omega, by omega, .inl (by simpa using h)⟩, fun _ => rfl⟩)
 ·
  exact some_bool (by rw [cellRight_iff]; simp only [Bool.false_eq_true, false_iff]; omega)
end Go.Proofs.Ytgcicgjfimfhpaa.Pl
/- The reference's order of cells answers the plain one. -/
namespace Go.Proofs.Ytgcicgjfimfhpaa.Pl
open Go.RowKit Go.Proofs.Ytgcicgjfimfhpaa.X Go.Proofs.YtgcicgjfimfhpaaW.PrintWords Go.Proofs.YtgcicgjfimfhpaaW.PrintLast Go.Proofs.YtgcicgjfimfhpaaW.PrintMore
theorem len_size (s : ByteArray) : s.toList.length = s.size := by
 rw [ByteArray.toList_eq, Array.length_toList]
 rfl
theorem bt_at (s : ByteArray) (i : Nat) (h : i < s.toList.length) : bt s (i : Int) = ((s.toList[i]).toNat : Int) := by
 have hs : i < s.size := by rw [len_size] at h; exact h
 unfold bt
 rw [dif_pos (by simpa using hs)]
 simp only [Int.toNat_natCast, ByteArray.toList_eq]
 rfl
theorem ref_CText_l0 (a b : ByteArray) (ha : a.size ≤ 140737488355328) (d : Nat) : ∀ i : Nat, i ≤ a.size → i ≤ b.size → a.size - i = d → Ev (fun k => shardlogref08_Text.l0 k a b (i : Int)) (cmpB (a.toList.drop i) (b.toList.drop i)) := by
 have la := len_size a
 have lb := len_size b
 induction d with
 | zero =>
  intro i h1 h2 hd
  rw [List.drop_eq_nil_of_le (show a.toList.length ≤ i by omega)]
  refine Ev.step (f := fun k => shardlogref08_Text.j1 k a b (i : Int) false) (fun k => ?_) ?_
  ·
   simp only [shardlogref08_Text.l0]
   rw [if_neg (by omega)]
  by_cases hl : b.size = i
  ·
   rw [List.drop_eq_nil_of_le (show b.toList.length ≤ i by omega)]
   refine Ev.step (f := fun _ => some 0) (fun k => ?_) (Ev.now _)
   simp only [shardlogref08_Text.j1, Bool.false_eq_true, if_false]
   rw [if_neg (by omega), if_neg (by omega)]
  ·
   rw [List.drop_eq_getElem_cons (by omega)]
   refine Ev.step (f := fun _ => some (-1)) (fun k => ?_) (Ev.now _)
   simp only [shardlogref08_Text.j1, Bool.false_eq_true, if_false]
   rw [if_pos (by omega)]
 | succ d ih =>
  intro i h1 h2 hd
  have hia : i < a.toList.length := by omega
  rw [List.drop_eq_getElem_cons hia]
  by_cases hl : b.size = i
  ·
   rw [List.drop_eq_nil_of_le (show b.toList.length ≤ i by omega)]
   refine Ev.step (f := fun k => shardlogref08_Text.j1 k a b (i : Int) false) (fun k => ?_) ?_
   ·
    simp only [shardlogref08_Text.l0]
    rw [if_pos (by omega), decide_eq_false (by omega)]
   refine Ev.step (f := fun _ => some 1) (fun k => ?_) (Ev.now _)
   simp only [shardlogref08_Text.j1, Bool.false_eq_true, if_false]
   rw [if_neg (by omega), if_pos (by omega)]
  ·
   have hib : i < b.toList.length := by omega
   rw [List.drop_eq_getElem_cons hib]
   refine Ev.step (f := fun k => shardlogref08_Text.j1 k a b (i : Int) true) (fun k => ?_) ?_
   ·
    simp only [shardlogref08_Text.l0]
    rw [if_pos (by omega), decide_eq_true (by omega)]
   have ba := bt_at a i hia
   have bb := bt_at b i hib
   unfold cmpB
   by_cases c1 : a.toList[i] < b.toList[i]
   ·
    rw [if_pos c1]
    have := UInt8.lt_iff_toNat_lt.1 c1
    refine Ev.step (f := fun _ => some (-1)) (fun k => ?_) (Ev.now _)
    simp only [shardlogref08_Text.j1, if_true]
    rw [if_pos (by omega), if_pos (by omega), if_pos (by omega), if_pos (by omega)]
   ·
    rw [if_neg c1]
    have n1 : ¬ (a.toList[i]).toNat < (b.toList[i]).toNat := fun h => c1 (UInt8.lt_iff_toNat_lt.2 h)
    by_cases c2 : b.toList[i] < a.toList[i]
    ·
     rw [if_pos c2]
     have := UInt8.lt_iff_toNat_lt.1 c2
     refine Ev.step (f := fun _ => some 1) (fun k => ?_) (Ev.now _)
     simp only [shardlogref08_Text.j1, if_true]
     rw [if_pos (by omega), if_pos (by omega), if_pos (by omega), if_neg (by omega), if_pos (by omega)]
    ·
     rw [if_neg c2]
     have n2 : ¬ (b.toList[i]).toNat < (a.toList[i]).toNat := fun h => c2 (UInt8.lt_iff_toNat_lt.2 h)
     refine Ev.step (f := fun k => shardlogref08_Text.l0 k a b ((i + 1 : Nat) : Int)) (fun k => ?_) (ih (i + 1) (by omega) (by omega) (by omega))
     simp only [shardlogref08_Text.j1, if_true]
     rw [if_pos (by omega), if_pos (by omega), if_pos (by omega), if_neg (by omega), if_neg (by omega), w64 (by omega) (by omega)]
     rfl
theorem ref_CText_ev {a b : ByteArray} (ha : a.size ≤ 140737488355328) : Ev (fun k => shardlogref08_Text.f k a b) (cmpT a b) := by
 unfold shardlogref08_Text.f
 have := ref_CText_l0 a b ha a.size 0 (by omega) (by omega) (by omega)
 exact this
theorem ref_CCompare_ev {r c : ByteArray} {t : Int} {v : ByteArray} {g : Bool} {r' c' : ByteArray} {t' : Int} {v' : ByteArray} {g' : Bool} (h1 : r.size ≤ 140737488355328) (h2 : c.size ≤ 140737488355328) : Ev (fun k => shardlogref08_Compare.f k r c t v g r' c' t' v' g') (cmpC r c t r' c' t') := by
 unfold shardlogref08_Compare.f cmpC
 by_cases e1 : r.toList = r'.toList
 ·
  have z1 : cmpT r r' = 0 := cmpB_zero.2 e1
  rw [if_pos z1]
  refine Ev.pos e1 ?_
  by_cases e2 : c.toList = c'.toList
  ·
   have z2 : cmpT c c' = 0 := cmpB_zero.2 e2
   rw [if_pos z2]
   refine Ev.pos e2 ?_
   unfold cmpN
   by_cases k1 : t' < t
   ·
    simp only [gt_iff_lt, k1, if_true]
    exact Ev.now _
   ·
    by_cases k2 : t < t'
    ·
     simp only [gt_iff_lt, k1, k2, if_true, if_false]
     exact Ev.now _
    ·
     simp only [gt_iff_lt, k1, k2, if_false]
     exact Ev.now _
  ·
   have z2 : ¬ cmpT c c' = 0 := fun h => e2 (cmpB_zero.1 h)
   rw [if_neg z2]
   exact Ev.neg e2 (Ev.bind (ref_CText_ev h2) (Ev.now _))
 ·
  have z1 : ¬ cmpT r r' = 0 := fun h => e1 (cmpB_zero.1 h)
  rw [if_neg z1]
  exact Ev.neg e1 (Ev.bind (ref_CText_ev h1) (Ev.now _))
end Go.Proofs.Ytgcicgjfimfhpaa.Pl
/- One cell against another: the printed functions answer the plain ones. -/
namespace Go.Proofs.Ytgcicgjfimfhpaa.Pl
open Go.RowKit Go.Proofs.Ytgcicgjfimfhpaa.X Go.Proofs.YtgcicgjfimfhpaaW.PrintWords Go.Proofs.YtgcicgjfimfhpaaW.PrintLast Go.Proofs.YtgcicgjfimfhpaaW.PrintMore
def SizedC (a : Cell) : Prop := a.f0.size ≤ 140737488355328 ∧ a.f1.size ≤ 140737488355328
theorem sized_of_right {a : Cell} (h : rightC a = true) : SizedC a := by
 obtain ⟨_, h1, _, h2, _⟩ := rightC_iff.1 h
 exact ⟨by omega, by omega⟩
theorem ref_CC_ev {a : Cell} (h : SizedC a) (b : Cell) : Ev (fun k => shardlogref08_Compare.f k a.f0 a.f1 a.f2 a.f3 a.f4 b.f0 b.f1 b.f2 b.f3 b.f4) (cc a b) := ref_CCompare_ev h.1 h.2
theorem cell_CC_ev (a b : Cell) : Ev (fun k => cell_Compare.f k a.f0 a.f1 a.f2 a.f3 a.f4 b.f0 b.f1 b.f2 b.f3 b.f4) (cc a b) := cell_Compare_ev _ _ _ _ _ _ _ _ _ _
end Go.Proofs.Ytgcicgjfimfhpaa.Pl
/- The first of sorted cells that isn't ahead of a key: the printed search answers the plain one. -/
namespace Go.Proofs.Ytgcicgjfimfhpaa.Pl
open Go.RowKit Go.Proofs.Ytgcicgjfimfhpaa.X Go.Proofs.YtgcicgjfimfhpaaW.PrintWords Go.Proofs.YtgcicgjfimfhpaaW.PrintLast Go.Proofs.YtgcicgjfimfhpaaW.PrintMore
theorem u64w {x : Int} (h0 : 0 ≤ x) (h1 : x < 18446744073709551616) : IntKind.u64.wrap x = x := by
 unfold IntKind.wrap
 simp only [IntKind.signed, IntKind.bits, Bool.false_and, Bool.false_eq_true, if_false]
 omega
theorem find_l0 (l : List Cell) (t : Cell) (ho : OrdC l) (hn : l.length ≤ 2199023255552) (d : Nat) : ∀ lo hi : Nat, hi - lo ≤ d → lo ≤ hi → hi ≤ l.length → (∀ j (_ : j < lo) (hl : j < l.length), cc l[j] t = -1) → (∀ j (_ : hi ≤ j) (hl : j < l.length), ¬ cc l[j] t = -1) →
  Ev (fun k => api_Cell_26.l0 k l (l.length : Int) (lo : Int) (hi : Int) t.f0 t.f1 t.f2 t.f3 t.f4) ((posC t l : Int), if h : posC t l < l.length then cc l[posC t l] t == 0 else false) := by
 induction d with
 | zero =>
  intro lo hi hd h1 h2 h3 h4
  have : lo = hi := by omega
  subst this
  have hp := posC_uniq t l lo h2 h3 (fun h => h4 lo (by omega) h)
  rw [hp]
  by_cases hl : lo < l.length
  ·
   have hr := rdC_at l lo hl
   unfold rdC at hr
   rw [dif_pos hl]
   refine Ev.step (fun k => by simp only [api_Cell_26.l0]; rw [if_neg (by omega), if_pos (by omega), if_pos (by omega), if_pos (by omega), hr]) (Ev.bind (cell_CC_ev _ _) (Ev.now _))
  ·
   rw [dif_neg hl]
   exact Ev.step (f := fun _ => some ((lo : Int), false)) (fun k => by simp only [api_Cell_26.l0]; rw [if_neg (by omega), if_neg (by omega)]) (Ev.now _)
 | succ d ih =>
  intro lo hi hd h1 h2 h3 h4
  by_cases hlt : lo < hi
  ·
   have hm : wrap64 (IntKind.u64.wrap (wrap64 ((lo : Int) + (hi : Int))) / 2) = (((lo + hi) / 2 : Nat) : Int) := by
    rw [w64 (x := (lo : Int) + (hi : Int)) (by omega) (by omega), u64w (by omega) (by omega), w64 (by omega) (by omega)]
    omega
   have hml : (lo + hi) / 2 < l.length := by omega
   have hr := rdC_at l ((lo + hi) / 2) hml
   unfold rdC at hr
   refine Ev.step (fun k => by simp only [api_Cell_26.l0]; rw [if_pos (by omega), hm, if_pos (by omega), if_pos (by omega), hr]) (Ev.bind (cell_CC_ev _ _) ?_)
   have hin := cc_in l[(lo + hi) / 2] t
   by_cases hc : cc l[(lo + hi) / 2] t = -1
   ·
    refine Ev.pos (by omega) ?_
    rw [w64 (by omega) (by omega)]
    refine ih ((lo + hi) / 2 + 1) hi (by omega) (by omega) h2 (fun j hj hl => ?_) h4
    by_cases hjm : j = (lo + hi) / 2
    ·
     subst hjm; exact hc
    ·
     exact cc_trans (List.pairwise_iff_getElem.1 ho j ((lo + hi) / 2) hl hml (by omega)) hc
   ·
    refine Ev.neg (by omega) (ih lo ((lo + hi) / 2) (by omega) (by omega) (by omega) h3 (fun j hj hl => ?_))
    by_cases hjm : j = (lo + hi) / 2
    ·
     subst hjm; exact hc
    ·
     exact fun hjt => hc (cc_trans (List.pairwise_iff_getElem.1 ho ((lo + hi) / 2) j hml hl (by omega)) hjt)
  ·
   exact ih lo hi (by omega) h1 h2 h3 h4
theorem find_ev {l : List Cell} (t : Cell) (ho : OrdC l) (hn : l.length ≤ 2199023255552) : Ev (fun k => api_Cell_26.f k l t.f0 t.f1 t.f2 t.f3 t.f4) ((posC t l : Int), if h : posC t l < l.length then cc l[posC t l] t == 0 else false) := by
 unfold api_Cell_26.f
 exact find_l0 l t ho hn l.length 0 l.length (by omega) (by omega) (by omega) (fun j hj => by omega) (fun j hj hl => by omega)
end Go.Proofs.Ytgcicgjfimfhpaa.Pl
/- Whether a cell is right: the printed function answers the plain one. -/
namespace Go.Proofs.Ytgcicgjfimfhpaa.Pl
open Go.RowKit Go.Proofs.Ytgcicgjfimfhpaa.X Go.Proofs.YtgcicgjfimfhpaaW.PrintWords Go.Proofs.YtgcicgjfimfhpaaW.PrintLast Go.Proofs.YtgcicgjfimfhpaaW.PrintMore
theorem cell_name_eq (s : ByteArray) : cell_name.f s = some (decide (1 ≤ s.size ∧ s.size ≤ 64)) := by
 unfold cell_name.f
 by_cases h : s.size ≥ 1
 ·
  rw [if_pos (by omega)]
  congr 1
  rw [decide_eq_decide]
  omega
 ·
  rw [if_neg (by omega)]
  congr 1
  symm
  rw [decide_eq_false_iff_not]
  omega
theorem cell_Right_eq (r c : ByteArray) (t : Int) (v : ByteArray) (g : Bool) : cell_Right.f r c t v g = some (cellRight r c t v g) := by
 unfold cell_Right.f
 simp only [cell_name_eq, Option.bind_some, decide_eq_true_eq, toList_nil]
 split
 ·
  split
  ·
   split
   ·
    split
    ·
     split
     ·
      split
      ·
       exact some_bool (by rename_i h; rw [cellRight_iff, decide_eq_true_iff]; exact ⟨fun hz => ⟨by omega, by omega, by omega, by omega, by omega, by omega, by omega, .inr hz⟩, fun hh => hh.2.2.2.2.2.2.2.elim (fun e => by rw [h] at e; cases e) id⟩)
      ·
       exact some_bool (by rename_i h; rw [cellRight_iff]; exact ⟨fun _ => ⟨by omega, by omega, by omega, by omega, by omega, by omega, by omega, .inl (by simpa using h)⟩, fun _ => rfl⟩)
     ·
      exact some_bool (by rw [cellRight_iff]; simp only [Bool.false_eq_true, false_iff]; omega)
    ·
     exact some_bool (by rw [cellRight_iff]; simp only [Bool.false_eq_true, false_iff]; omega)
   ·
    exact some_bool (by rw [cellRight_iff]; simp only [Bool.false_eq_true, false_iff]; omega)
  ·
   exact some_bool (by rw [cellRight_iff]; simp only [Bool.false_eq_true, false_iff]; omega)
 ·
  exact some_bool (by rw [cellRight_iff]; simp only [Bool.false_eq_true, false_iff]; omega)
end Go.Proofs.Ytgcicgjfimfhpaa.Pl
/- The printed number of wire answers the plain one. -/
namespace Go.Proofs.Ytgcicgjfimfhpaa.Pl
open Go.RowKit Go.Proofs.Ytgcicgjfimfhpaa.X Go.Proofs.YtgcicgjfimfhpaaW.PrintWords Go.Proofs.YtgcicgjfimfhpaaW.PrintLast Go.Proofs.YtgcicgjfimfhpaaW.PrintMore
theorem wire_Num_eq (n : Int) : wire_Num.f n = some (num n) := by
 unfold wire_Num.f num
 split
 ·
  rfl
 ·
  split
  ·
   rfl
  ·
   rfl
end Go.Proofs.Ytgcicgjfimfhpaa.Pl
/- The printed text of wire answers the plain one. -/
namespace Go.Proofs.Ytgcicgjfimfhpaa.Pl
open Go.RowKit Go.Proofs.Ytgcicgjfimfhpaa.X Go.Proofs.YtgcicgjfimfhpaaW.PrintWords Go.Proofs.YtgcicgjfimfhpaaW.PrintLast Go.Proofs.YtgcicgjfimfhpaaW.PrintMore
theorem wire_Text_eq {s : ByteArray} (h : s.size ≤ 140737488351232) : wire_Text.f s = some (text s) := by
 unfold wire_Text.f
 rw [wire_Num_eq]
 simp only [Option.bind_some]
 rw [if_pos (by have := num_length_le s.size; omega)]
 rfl
end Go.Proofs.Ytgcicgjfimfhpaa.Pl
/- slices.Concat of bytes. -/
namespace Go.Proofs.Ytgcicgjfimfhpaa.Pl
open Go.RowKit Go.Proofs.Ytgcicgjfimfhpaa.X Go.Proofs.YtgcicgjfimfhpaaW.PrintWords Go.Proofs.YtgcicgjfimfhpaaW.PrintLast Go.Proofs.YtgcicgjfimfhpaaW.PrintMore
theorem concat_eq {l : List (List Int)} (h : lenSum l ≤ 140737488355328) : slices_Concat_byte_byte.f l = some l.flatten := by
 unfold slices_Concat_byte_byte.f
 rw [if_pos h]
end Go.Proofs.Ytgcicgjfimfhpaa.Pl
/- A cell's bytes: the printed function answers the plain one. -/
namespace Go.Proofs.Ytgcicgjfimfhpaa.Pl
open Go.RowKit Go.Proofs.Ytgcicgjfimfhpaa.X Go.Proofs.YtgcicgjfimfhpaaW.PrintWords Go.Proofs.YtgcicgjfimfhpaaW.PrintLast Go.Proofs.YtgcicgjfimfhpaaW.PrintMore
def flagC (g : Bool) : Int := if g = true then 1 else 0
def cellB (r c : ByteArray) (t : Int) (v : ByteArray) (g : Bool) : List Int := text r ++ (text c ++ (num t ++ ([flagC g] ++ text v)))
theorem cellB_length (r c : ByteArray) (t : Int) (v : ByteArray) (g : Bool) : (cellB r c t v g).length ≤ 17 + r.size + c.size + v.size := by
 have h1 := text_length_le r
 have h2 := text_length_le c
 have h3 := text_length_le v
 have h4 := num_length_le t
 unfold cellB
 simp only [List.length_append, List.length_cons, List.length_nil]
 omega
theorem cell_Put_eq {r c : ByteArray} (t : Int) {v : ByteArray} (g : Bool) (hr : r.size ≤ 1000000) (hc : c.size ≤ 1000000) (hv : v.size ≤ 1000000) : cell_Put.f r c t v g = some (cellB r c t v g) := by
 unfold cell_Put.f
 have hf : cell_flag.f g = some (flagC g) := by unfold cell_flag.f flagC; cases g <;> rfl
 simp only [wire_Text_eq (s := r) (by omega), wire_Text_eq (s := c) (by omega), wire_Text_eq (s := v) (by omega), wire_Num_eq, hf, Option.bind_some]
 have hl := cellB_length r c t v g
 unfold cellB at hl
 simp only [List.length_append, List.length_cons, List.length_nil] at hl
 rw [concat_eq (by simp only [lenSum, List.map_cons, List.map_nil, List.sum_cons, List.sum_nil, List.length_cons, List.length_nil]; omega)]
 simp [cellB]
end Go.Proofs.Ytgcicgjfimfhpaa.Pl
/- A table of cells: what the printed functions answer, in plain lists. -/
namespace Go.Proofs.Ytgcicgjfimfhpaa.Pl
open Go.RowKit Go.Proofs.Ytgcicgjfimfhpaa.X Go.Proofs.YtgcicgjfimfhpaaW.PrintWords Go.Proofs.YtgcicgjfimfhpaaW.PrintLast Go.Proofs.YtgcicgjfimfhpaaW.PrintMore
def w8 (c : Cell) : Int := (cellB c.f0 c.f1 c.f2 c.f3 c.f4).length
def sizeM (l : List Cell) : Int := (l.map w8).sum
theorem weigh_eq {c : Cell} (h : rightC c = true) : mem_weigh.f c.f0 c.f1 c.f2 c.f3 c.f4 = some (w8 c) := by
 obtain ⟨_, h1, _, h2, _, _, h3, _⟩ := rightC_iff.1 h
 unfold mem_weigh.f
 rw [cell_Put_eq c.f2 c.f4 (by omega) (by omega) (by omega)]
 rfl
theorem w8_le {c : Cell} (h : rightC c = true) : 0 ≤ w8 c ∧ w8 c ≤ 401 := by
 obtain ⟨_, h1, _, h2, _, _, h3, _⟩ := rightC_iff.1 h
 have := cellB_length c.f0 c.f1 c.f2 c.f3 c.f4
 unfold w8
 omega
theorem sizeM_append (l m : List Cell) : sizeM (l ++ m) = sizeM l + sizeM m := by simp [sizeM]
theorem sizeM_cons (c : Cell) (l : List Cell) : sizeM (c :: l) = w8 c + sizeM l := by simp [sizeM]
theorem sizeM_le : ∀ {l : List Cell}, RightsC l → 0 ≤ sizeM l ∧ sizeM l ≤ 401 * l.length
 | [], _ => by simp [sizeM]
 | c :: l, h => by
  have h1 := w8_le (h c List.mem_cons_self)
  have h2 := sizeM_le (l := l) (fun x hx => h x (List.mem_cons_of_mem _ hx))
  rw [sizeM_cons]
  simp only [List.length_cons]
  omega
theorem posC_before (t : Cell) : ∀ (l : List Cell) (j : Nat), j < posC t l → ∀ hl : j < l.length, cc l[j] t = -1
 | [], j, h, _ => by simp [posC] at h
 | x :: l, j, h, hl => by
  unfold posC at h
  split at h
  ·
   rename_i hx
   cases j with
   | zero => exact hx
   | succ j => exact posC_before t l j (by omega) (by simpa using hl)
  ·
   omega
theorem posC_at (t : Cell) : ∀ (l : List Cell) (h : posC t l < l.length), ¬ cc l[posC t l] t = -1
 | [], h => by simp at h
 | x :: l, h => by
  by_cases hx : cc x t = -1
  ·
   have e : posC t (x :: l) = posC t l + 1 := by simp [posC, hx]
   simp only [e, List.getElem_cons_succ]
   exact posC_at t l (by rw [e] at h; simpa using h)
  ·
   have e : posC t (x :: l) = 0 := by simp [posC, hx]
   simp only [e, List.getElem_cons_zero]
   exact hx
theorem ins_pos (c : Cell) (l : List Cell) : ins c l = l.take (posC c l) ++ c :: l.drop (if h : posC c l < l.length then (if cc l[posC c l] c = 0 then posC c l + 1 else posC c l) else posC c l) :=
 ins_split c l (posC c l) (posC_le c l) (posC_before c l) (posC_at c l)
theorem mem_Put_ev {xs : List Cell} {n : Int} (c : Cell) (ho : SrtC xs) (hn : n = sizeM xs) (hl : xs.length ≤ 2199023255500) :
  Ev (fun k => mem_Mem_Put.f k xs n c.f0 c.f1 c.f2 c.f3 c.f4) (if rightC c = true then (ins c xs, sizeM (ins c xs), true) else (xs, n, false)) := by
 unfold mem_Mem_Put.f
 rw [cell_Right_eq]
 cases hr : rightC c with
 | false =>
  rw [if_neg Bool.false_ne_true]
  unfold rightC at hr
  simp only [hr, Option.bind_some]
  exact Ev.neg Bool.false_ne_true (Ev.now _)
 | true =>
  have hr' := hr
  unfold rightC at hr'
  rw [if_pos rfl]
  simp only [hr', Option.bind_some]
  refine Ev.pos (by first | trivial | rfl) (Ev.bind (find_ev c ho.2 (by omega)) ?_)
  have hp := ins_pos c xs
  have hpl := posC_le c xs
  have hs := sizeM_le ho.1
  have hc := w8_le hr
  by_cases hlt : posC c xs < xs.length
  ·
   rw [dif_pos hlt] at hp ⊢
   by_cases h0 : cc xs[posC c xs] c = 0
   ·
    rw [if_pos h0] at hp
    refine Ev.pos (by simpa using h0) (Ev.pos ⟨by omega, by simpa using hlt⟩ ?_)
    have hq := rdC_at xs _ hlt
    unfold rdC at hq
    have hrx := ho.1 _ (List.getElem_mem hlt)
    simp only [hq, weigh_eq hrx, weigh_eq hr, Option.bind_some, Int.toNat_natCast]
    have hx := w8_le hrx
    have e1 : sizeM xs = sizeM (xs.take (posC c xs)) + (w8 xs[posC c xs] + sizeM (xs.drop (posC c xs + 1))) := by
     conv => lhs; rw [← List.take_append_drop (posC c xs) xs, List.drop_eq_getElem_cons hlt]
     rw [sizeM_append, sizeM_cons]
    have e2 : xs.set (posC c xs) c = ins c xs := by rw [hp, List.set_eq_take_append_cons_drop, if_pos hlt]
    have e3 : wrap64 (wrap64 (n - w8 xs[posC c xs]) + w8 c) = sizeM (ins c xs) := by
     rw [hp, sizeM_append, sizeM_cons, w64 (x := n - w8 xs[posC c xs]) (by omega) (by omega), w64 (by omega) (by omega)]
     omega
    have e4 : (⟨c.f0, c.f1, c.f2, c.f3, c.f4⟩ : Cell) = c := rfl
    rw [e4, e2, e3]
    exact Ev.now _
   ·
    rw [if_neg h0] at hp
    refine Ev.neg (by simpa using h0) (Ev.pos ⟨by omega, by simpa using hpl, by omega⟩ ?_)
    simp only [weigh_eq hr, Option.bind_some, Int.toNat_natCast]
    have e3 : wrap64 (n + w8 c) = sizeM (ins c xs) := by
     have e1 : sizeM xs = sizeM (xs.take (posC c xs)) + sizeM (xs.drop (posC c xs)) := by rw [← sizeM_append, List.take_append_drop]
     rw [hp, sizeM_append, sizeM_cons, w64 (by omega) (by omega)]
     omega
    have e4 : (⟨c.f0, c.f1, c.f2, c.f3, c.f4⟩ : Cell) = c := rfl
    rw [e4, ← hp, e3]
    exact Ev.now _
  ·
   rw [dif_neg hlt] at hp ⊢
   refine Ev.neg Bool.false_ne_true (Ev.pos ⟨by omega, by simpa using hpl, by omega⟩ ?_)
   simp only [weigh_eq hr, Option.bind_some, Int.toNat_natCast]
   have e3 : wrap64 (n + w8 c) = sizeM (ins c xs) := by
    have e1 : sizeM xs = sizeM (xs.take (posC c xs)) + sizeM (xs.drop (posC c xs)) := by rw [← sizeM_append, List.take_append_drop]
    rw [hp, sizeM_append, sizeM_cons, w64 (by omega) (by omega)]
    omega
   have e4 : (⟨c.f0, c.f1, c.f2, c.f3, c.f4⟩ : Cell) = c := rfl
   rw [e4, ← hp, e3]
   exact Ev.now _
def putsM (l xs : List Cell) : List Cell := l.foldl (fun o c => if rightC c = true then ins c o else o) xs
theorem putsM_srt : ∀ (l : List Cell) {xs : List Cell}, SrtC xs → SrtC (putsM l xs)
 | [], _, h => h
 | c :: l, xs, h => by
  show SrtC (putsM l (if rightC c = true then ins c xs else xs))
  cases hr : rightC c with
  | false => exact putsM_srt l h
  | true => exact putsM_srt l (srt_ins hr h)
theorem putsM_length : ∀ (l xs : List Cell), (putsM l xs).length ≤ xs.length + l.length
 | [], _ => Nat.le_refl _
 | c :: l, xs => by
  have := putsM_length l (if rightC c = true then ins c xs else xs)
  have h2 : (if rightC c = true then ins c xs else xs).length ≤ xs.length + 1 := by
   split
   ·
    exact ins_length c xs
   ·
    omega
  show (putsM l (if rightC c = true then ins c xs else xs)).length ≤ _
  simp only [List.length_cons]
  omega
theorem putsM_right {l : List Cell} (h : RightsC l) (xs : List Cell) : putsM l xs = l.foldl (fun o c => ins c o) xs := by
 induction l generalizing xs with
 | nil => rfl
 | cons c l ih =>
  show putsM l (if rightC c = true then ins c xs else xs) = _
  rw [if_pos (h c List.mem_cons_self), ih (fun x hx => h x (List.mem_cons_of_mem _ hx)), List.foldl_cons]
theorem clone_C {l : List Cell} (h : l.length ≤ 1000000000) : api_Cell_33.f l = some l := by
 unfold api_Cell_33.f
 rw [if_pos (by omega)]
end Go.Proofs.Ytgcicgjfimfhpaa.Pl
/- Lists of cells: the printed functions answer the plain ones. -/
namespace Go.Proofs.Ytgcicgjfimfhpaa.Pl
open Go.RowKit Go.Proofs.Ytgcicgjfimfhpaa.X Go.Proofs.YtgcicgjfimfhpaaW.PrintWords Go.Proofs.YtgcicgjfimfhpaaW.PrintLast Go.Proofs.YtgcicgjfimfhpaaW.PrintMore
def fewC (l : List Cell) : Bool := decide (l.length ≤ 80) && l.all rightC
theorem fewC_iff {l : List Cell} : fewC l = true ↔ l.length ≤ 80 ∧ RightsC l := by
 unfold fewC RightsC
 rw [Bool.and_eq_true, decide_eq_true_iff, List.all_eq_true]
theorem ref_Few_l0 (l : List Cell) (hn : l.length ≤ 1000000000) (d : Nat) : ∀ i : Nat, i ≤ l.length → l.length - i = d → Ev (fun k => shardlogref08_Few.l0 k l (i : Int)) ((l.drop i).all rightC) := by
 induction d with
 | zero =>
  intro i hi hd
  rw [List.drop_eq_nil_of_le (by omega)]
  refine Ev.step (f := fun _ => some true) (fun k => ?_) (Ev.now _)
  simp only [shardlogref08_Few.l0]
  rw [if_neg (by omega)]
 | succ d ih =>
  intro i hi hd
  have hlt : i < l.length := by omega
  rw [List.drop_eq_getElem_cons hlt, List.all_cons]
  have hr := rdC_at l i hlt
  unfold rdC at hr
  have hk : ∀ k, shardlogref08_Few.l0 (k + 1) l (i : Int) = if rightC l[i] = true then shardlogref08_Few.l0 k l ((i + 1 : Nat) : Int) else some false := by
   intro k
   simp only [shardlogref08_Few.l0]
   rw [if_pos (by omega), if_pos (by omega), hr, ref_CRight_eq, w64 (by omega) (by omega)]
   rfl
  cases hc : rightC l[i] with
  | true =>
   refine Ev.step (f := fun k => shardlogref08_Few.l0 k l ((i + 1 : Nat) : Int)) (fun k => by rw [hk, if_pos hc]) ?_
   rw [Bool.true_and]
   exact ih (i + 1) (by omega) (by omega)
  | false => exact Ev.step (f := fun _ => some false) (fun k => by rw [hk, if_neg (by rw [hc]; exact Bool.false_ne_true)]) (Ev.now _)
theorem ref_Few_ev {l : List Cell} : Ev (fun k => shardlogref08_Few.f k l) (fewC l) := by
 unfold shardlogref08_Few.f fewC
 by_cases h : l.length ≤ 80
 ·
  rw [decide_eq_true h, Bool.true_and]
  refine Ev.neg (by omega) ?_
  have := ref_Few_l0 l (by omega) l.length 0 (by omega) (by omega)
  rw [List.drop_zero] at this
  exact this
 ·
  rw [decide_eq_false h, Bool.false_and]
  exact Ev.pos (by omega) (Ev.now _)
theorem ref_Put1_l0 (l : List Cell) (c : Cell) (hs : ∀ x ∈ l, SizedC x) (hn : l.length ≤ 1000000000) (d : Nat) : ∀ i : Nat, i ≤ l.length → l.length - i = d → (∀ j (_ : j < i) (hl : j < l.length), cc l[j] c = -1) → Ev (fun k => shardlogref08_Put1.l0 k l (i : Int) c.f0 c.f1 c.f2 c.f3 c.f4) (ins c l) := by
 have hj2 : ∀ i : Nat, i ≤ l.length → (∀ j (_ : j < i) (hl : j < l.length), cc l[j] c = -1) → (∀ h : i < l.length, ¬ cc l[i] c = -1) → Ev (fun k => shardlogref08_Put1.j1 k l (i : Int) false c.f0 c.f1 c.f2 c.f3 c.f4) (ins c l) := by
  intro i hi h1 h2
  rw [ins_split c l i hi h1 h2]
  by_cases hlt : i < l.length
  ·
   have hr := rdC_at l i hlt
   unfold rdC at hr
   refine Ev.step (fun k => by simp only [shardlogref08_Put1.j1, Bool.false_eq_true, if_false]; rw [if_pos (by omega), if_pos (by omega), Option.bind_some, if_pos (by omega), hr]) (Ev.bind (ref_CC_ev (hs _ (List.getElem_mem hlt)) c) ?_)
   rw [dif_pos hlt]
   by_cases h0 : cc l[i] c = 0
   ·
    rw [if_pos h0, h0]
    refine Ev.step (f := fun _ => some (l.take i ++ c :: l.drop (i + 1))) (fun k => ?_) (Ev.now _)
    simp only [shardlogref08_Put1.j2, BEq.rfl, if_true]
    rw [w64 (by omega) (by omega), if_pos (by omega), if_pos (by omega)]
    simp only [Option.bind_some]
    rw [if_pos (by omega), if_pos (by omega)]
    rw [Int.toNat_natCast, show ((i : Int) + 1).toNat = i + 1 by omega]
    have t1 : (l.take i).length = i := by rw [List.length_take]; omega
    have t2 : (l.drop (i + 1)).length = l.length - (i + 1) := List.length_drop
    rw [if_pos (by rw [List.length_nil, t1]; omega), if_pos (by simp only [List.length_append, List.length_nil, List.length_cons, t1]; omega), if_pos (by simp only [List.length_append, List.length_nil, List.length_cons, t1, t2]; omega)]
    simp
   ·
    rw [if_neg h0, show (cc l[i] c == 0) = false by simpa using h0]
    refine Ev.step (f := fun _ => some (l.take i ++ c :: l.drop i)) (fun k => ?_) (Ev.now _)
    simp only [shardlogref08_Put1.j2, Bool.false_eq_true, if_false, Option.bind_some]
    rw [if_pos (by omega), if_pos (by omega), Int.toNat_natCast]
    have t1 : (l.take i).length = i := by rw [List.length_take]; omega
    have t2 : (l.drop i).length = l.length - i := List.length_drop
    rw [if_pos (by rw [List.length_nil, t1]; omega), if_pos (by simp only [List.length_append, List.length_nil, List.length_cons, t1]; omega), if_pos (by simp only [List.length_append, List.length_nil, List.length_cons, t1, t2]; omega)]
    simp
  ·
   rw [dif_neg hlt]
   refine Ev.step (fun k => by simp only [shardlogref08_Put1.j1, Bool.false_eq_true, if_false]; rw [if_pos (by omega), if_pos (by omega), Option.bind_some, if_neg (by omega)]) ?_
   refine Ev.step (f := fun _ => some (l.take i ++ c :: l.drop i)) (fun k => ?_) (Ev.now _)
   simp only [shardlogref08_Put1.j2, Bool.false_eq_true, if_false, Option.bind_some]
   rw [if_pos (by omega), if_pos (by omega), Int.toNat_natCast]
   have t1 : (l.take i).length = i := by rw [List.length_take]; omega
   have t2 : (l.drop i).length = l.length - i := List.length_drop
   rw [if_pos (by rw [List.length_nil, t1]; omega), if_pos (by simp only [List.length_append, List.length_nil, List.length_cons, t1]; omega), if_pos (by simp only [List.length_append, List.length_nil, List.length_cons, t1, t2]; omega)]
   simp
 induction d with
 | zero =>
  intro i hi hd h1
  refine Ev.step (f := fun k => shardlogref08_Put1.j1 k l (i : Int) false c.f0 c.f1 c.f2 c.f3 c.f4) (fun k => ?_) (hj2 i hi h1 (fun h => by omega))
  simp only [shardlogref08_Put1.l0]
  rw [if_neg (by omega)]
 | succ d ih =>
  intro i hi hd h1
  have hlt : i < l.length := by omega
  have hr := rdC_at l i hlt
  unfold rdC at hr
  refine Ev.step (fun k => by simp only [shardlogref08_Put1.l0]; rw [if_pos (by omega), if_pos (by omega), hr]) (Ev.bind (ref_CC_ev (hs _ (List.getElem_mem hlt)) c) ?_)
  by_cases h0 : cc l[i] c = -1
  ·
   rw [h0]
   refine Ev.step (f := fun k => shardlogref08_Put1.l0 k l ((i + 1 : Nat) : Int) c.f0 c.f1 c.f2 c.f3 c.f4) (fun k => ?_) (ih (i + 1) (by omega) (by omega) (fun j hj hl => ?_))
   ·
    simp only [shardlogref08_Put1.j1, BEq.rfl, if_true]
    rw [w64 (by omega) (by omega)]
    rfl
   ·
    by_cases hji : j = i
    ·
     subst hji; exact h0
    ·
     exact h1 j (by omega) hl
  ·
   rw [show (cc l[i] c == -1) = false by simpa using h0]
   exact hj2 i hi h1 (fun _ => h0)
theorem ref_Put1_ev {l : List Cell} (c : Cell) (hs : ∀ x ∈ l, SizedC x) (hn : l.length ≤ 1000000000) : Ev (fun k => shardlogref08_Put1.f k l c.f0 c.f1 c.f2 c.f3 c.f4) (ins c l) := by
 unfold shardlogref08_Put1.f
 exact ref_Put1_l0 l c hs hn l.length 0 (by omega) (by omega) (fun j hj => by omega)
theorem sized_ins {c : Cell} {l : List Cell} (hc : SizedC c) (h : ∀ x ∈ l, SizedC x) : ∀ x ∈ ins c l, SizedC x := fun x hx => (mem_ins hx).elim (fun e => e ▸ hc) (h x)
theorem ref_Sort_l0 (l : List Cell) (hs : ∀ x ∈ l, SizedC x) (hn : l.length ≤ 500000000) (d : Nat) : ∀ (i : Nat) (o : List Cell), i ≤ l.length → l.length - i = d → (∀ x ∈ o, SizedC x) → o.length ≤ i → Ev (fun k => shardlogref08_Sort.l0 k l o (i : Int)) ((l.drop i).foldl (fun o c => ins c o) o) := by
 induction d with
 | zero =>
  intro i o hi hd ho hl
  rw [List.drop_eq_nil_of_le (by omega)]
  refine Ev.step (f := fun _ => some o) (fun k => ?_) (Ev.now _)
  simp only [shardlogref08_Sort.l0]
  rw [if_neg (by omega)]
 | succ d ih =>
  intro i o hi hd ho hl
  have hlt : i < l.length := by omega
  have hr := rdC_at l i hlt
  unfold rdC at hr
  rw [List.drop_eq_getElem_cons hlt, List.foldl_cons]
  refine Ev.step (fun k => by simp only [shardlogref08_Sort.l0]; rw [if_pos (by omega), if_pos (by omega), hr]) (Ev.bind (ref_Put1_ev l[i] ho (by omega)) ?_)
  rw [w64 (by omega) (by omega)]
  have := ins_length l[i] o
  exact ih (i + 1) _ (by omega) (by omega) (sized_ins (hs _ (List.getElem_mem hlt)) ho) (by omega)
theorem ref_Sort_ev {l : List Cell} (hs : ∀ x ∈ l, SizedC x) (hn : l.length ≤ 500000000) : Ev (fun k => shardlogref08_Sort.f k l) (sortC l) := by
 unfold shardlogref08_Sort.f sortC
 have := ref_Sort_l0 l hs hn l.length 0 [] (by omega) (by omega) (fun x hx => by cases hx) (by simp)
 rw [List.drop_zero] at this
 exact this
end Go.Proofs.Ytgcicgjfimfhpaa.Pl
/- The reference's numbers. -/
namespace Go.Proofs.Ytgcicgjfimfhpaa.Pl
open Go.RowKit Go.Proofs.Ytgcicgjfimfhpaa.X Go.Proofs.YtgcicgjfimfhpaaW.PrintWords Go.Proofs.YtgcicgjfimfhpaaW.PrintLast Go.Proofs.YtgcicgjfimfhpaaW.PrintMore
theorem ref_Num_eq (n : Int) : shardlogref01_Num.f n = some (num n) := by
 unfold shardlogref01_Num.f num
 by_cases h0 : n < 0
 ·
  rw [if_pos h0, if_pos h0]
 ·
  rw [if_neg h0, if_neg h0]
  by_cases h1 : n > 4294967295
  ·
   rw [if_pos h1, if_pos h1]
  ·
   rw [if_neg h1, if_neg h1]
   have d : ∀ m : Int, 0 ≤ m → Int.tdiv n m = n / m := fun m hm => Int.tdiv_eq_ediv_of_nonneg (by omega)
   rw [d _ (by omega), d _ (by omega), d _ (by omega), w64 (by omega) (by omega), w64 (by omega) (by omega), w64 (by omega) (by omega)]
   rw [Int.tmod_eq_emod_of_nonneg (by omega), Int.tmod_eq_emod_of_nonneg (by omega), Int.tmod_eq_emod_of_nonneg (by omega)]
   have e : ∀ x : Int, x % 256 % 256 = x % 256 := fun x => by omega
   rw [e, e, e]
end Go.Proofs.Ytgcicgjfimfhpaa.Pl
/- The reference's texts. -/
namespace Go.Proofs.Ytgcicgjfimfhpaa.Pl
open Go.RowKit Go.Proofs.Ytgcicgjfimfhpaa.X Go.Proofs.YtgcicgjfimfhpaaW.PrintWords Go.Proofs.YtgcicgjfimfhpaaW.PrintLast Go.Proofs.YtgcicgjfimfhpaaW.PrintMore
theorem ref_Text_eq {s : ByteArray} (h : s.size ≤ 140737488351232) : shardlogref01_Text.f s = some (text s) := by
 unfold shardlogref01_Text.f
 rw [ref_Num_eq]
 simp only [Option.bind_some]
 rw [if_pos (by omega), if_pos (by have := num_length_le s.size; rw [bytesOf_size]; omega)]
 rfl
end Go.Proofs.Ytgcicgjfimfhpaa.Pl
/- The reference's bytes of a cell. -/
namespace Go.Proofs.Ytgcicgjfimfhpaa.Pl
open Go.RowKit Go.Proofs.Ytgcicgjfimfhpaa.X Go.Proofs.YtgcicgjfimfhpaaW.PrintWords Go.Proofs.YtgcicgjfimfhpaaW.PrintLast Go.Proofs.YtgcicgjfimfhpaaW.PrintMore
theorem ref_CPut_ev {r c : ByteArray} (t : Int) {v : ByteArray} (g : Bool) (hr : r.size ≤ 1000000) (hc : c.size ≤ 1000000) (hv : v.size ≤ 1000000) : Ev (fun k => shardlogref08_Put.f k r c t v g) (cellB r c t v g) := by
 have h1 := text_length_le r
 have h2 := text_length_le c
 have h3 := text_length_le v
 have h4 := num_length_le t
 unfold shardlogref08_Put.f
 refine Ev.bind (Ev.eq (ref_Text_eq (by omega))) (Ev.bind (Ev.eq (ref_Text_eq (by omega))) (Ev.pos (by omega) ?_))
 refine Ev.step (fun k => by simp only [shardlogref08_Put.j0]; rfl) (Ev.bind (Ev.eq (ref_Num_eq _)) ?_)
 refine Ev.pos (by rw [List.length_append]; omega) ?_
 refine Ev.step (fun k => by simp only [shardlogref08_Put.j1]; rfl) ?_
 cases g with
 | true =>
  refine Ev.pos rfl ?_
  refine Ev.pos (by simp only [List.length_append]; omega) (Ev.bind (Ev.now _) (Ev.bind (Ev.eq (ref_Text_eq (by omega))) ?_))
  refine Ev.pos (by simp only [List.length_append, List.length_cons, List.length_nil]; omega) ((Ev.now _).to ?_)
  simp [cellB, flagC]
 | false =>
  refine Ev.neg Bool.false_ne_true ?_
  refine Ev.pos (by simp only [List.length_append]; omega) (Ev.bind (Ev.now _) (Ev.bind (Ev.eq (ref_Text_eq (by omega))) ?_))
  refine Ev.pos (by simp only [List.length_append, List.length_cons, List.length_nil]; omega) ((Ev.now _).to ?_)
  simp [cellB, flagC]
end Go.Proofs.Ytgcicgjfimfhpaa.Pl
/- Cells are the same as themselves, by the reference. -/
namespace Go.Proofs.Ytgcicgjfimfhpaa.Pl
open Go.RowKit Go.Proofs.Ytgcicgjfimfhpaa.X Go.Proofs.YtgcicgjfimfhpaaW.PrintWords Go.Proofs.YtgcicgjfimfhpaaW.PrintLast Go.Proofs.YtgcicgjfimfhpaaW.PrintMore
theorem sameC_l0 (l : List Cell) (hl : l.length ≤ 1000000000) (d : Nat) : ∀ i : Nat, i ≤ l.length → l.length - i = d → Ev (fun k => shardlogref08_Same.l0 k l l (i : Int)) true := by
 induction d with
 | zero =>
  intro i hi hd
  refine Ev.step (f := fun _ => some true) (fun k => ?_) (Ev.now _)
  simp only [shardlogref08_Same.l0]
  rw [if_neg (by omega)]
 | succ d ih =>
  intro i hi hd
  refine Ev.step (f := fun k => shardlogref08_Same.l0 k l l ((i + 1 : Nat) : Int)) (fun k => ?_) (ih (i + 1) (by omega) (by omega))
  simp only [shardlogref08_Same.l0]
  rw [if_pos (by omega), if_pos (by omega), if_pos (by omega), if_neg (by simp), w64 (by omega) (by omega)]
  rfl
theorem sameC_ev {l m : List Cell} (e : l = m) (hl : l.length ≤ 1000000000) : Ev (fun k => shardlogref08_Same.f k l m) true := by
 subst e
 unfold shardlogref08_Same.f
 exact Ev.pos rfl (sameC_l0 l hl l.length 0 (by omega) (by omega))
end Go.Proofs.Ytgcicgjfimfhpaa.Pl
/- What a filled table holds. -/
namespace Go.Proofs.Ytgcicgjfimfhpaa.Pl
open Go.RowKit Go.Proofs.Ytgcicgjfimfhpaa.X Go.Proofs.YtgcicgjfimfhpaaW.PrintWords Go.Proofs.YtgcicgjfimfhpaaW.PrintLast Go.Proofs.YtgcicgjfimfhpaaW.PrintMore
theorem filled_l0 : ∀ (l xs : List Cell) (n : Int), SrtC xs → n = sizeM xs → xs.length + l.length ≤ 2199023255500 → Ev (fun k => shardloglaw09_filled.l0 k l xs n) (putsM l xs, sizeM (putsM l xs))
 | [], xs, n, _, hn, _ => by
  subst hn
  exact Ev.now _
 | c :: l, xs, n, hs, hn, hl => by
  simp only [List.length_cons] at hl
  show Ev (fun k => (mem_Mem_Put.f k xs n c.f0 c.f1 c.f2 c.f3 c.f4).bind fun q => shardloglaw09_filled.l0 k l q.1 q.2.1) _
  refine Ev.bind (mem_Put_ev c hs hn (by omega)) ?_
  show Ev _ (putsM l (if rightC c = true then ins c xs else xs), sizeM (putsM l (if rightC c = true then ins c xs else xs)))
  cases hr : rightC c with
  | false => exact filled_l0 l xs n hs hn (by omega)
  | true => exact filled_l0 l (ins c xs) _ (srt_ins hr hs) rfl (by have := ins_length c xs; omega)
theorem filled_ev {l : List Cell} (hl : l.length ≤ 2199023255500) : Ev (fun k => shardloglaw09_filled.f k l) (putsM l [], sizeM (putsM l [])) :=
 filled_l0 l [] 0 srt_nil rfl (by simpa using hl)
end Go.Proofs.Ytgcicgjfimfhpaa.Pl
/- The newest cell: the printed functions answer the plain one. -/
namespace Go.Proofs.Ytgcicgjfimfhpaa.Pl
open Go.RowKit Go.Proofs.Ytgcicgjfimfhpaa.X Go.Proofs.YtgcicgjfimfhpaaW.PrintWords Go.Proofs.YtgcicgjfimfhpaaW.PrintLast Go.Proofs.YtgcicgjfimfhpaaW.PrintMore
theorem cell_Newest_ev {l : List Cell} (r c : ByteArray) (t : Int) (ho : OrdC l) (hn : l.length ≤ 1000000000) : Ev (fun k => cell_Newest.f k l r c t) (tupC (findC r c t l)) := by
 have jt : Ev (fun k => cell_Newest.j0 k l (posC (keyC r c t) l) true) (tupC none) := Ev.step (f := fun _ => some (tupC none)) (fun k => by simp only [cell_Newest.j0, if_true]; rfl) (Ev.now _)
 rw [find_pos r c t ho]
 unfold cell_Newest.f
 by_cases hp : posC (keyC r c t) l < l.length
 ·
  rw [dif_pos hp]
  refine Ev.bind (find_ev (keyC r c t) ho (by omega)) ?_
  have hr := rdC_at l _ hp
  unfold rdC at hr
  have jf : Ev (fun k => cell_Newest.j0 k l (posC (keyC r c t) l) false) (tupC (some l[posC (keyC r c t) l])) := Ev.step (f := fun _ => some (tupC (some l[posC (keyC r c t) l]))) (fun k => by simp only [cell_Newest.j0, Bool.false_eq_true, if_false]; rw [if_pos (by omega), if_pos (by omega), hr]; rfl) (Ev.now _)
  simp only
  rw [hr]
  refine Ev.neg (by omega) (Ev.pos (by omega) (Ev.pos (by omega) ?_))
  by_cases e1 : l[posC (keyC r c t) l].f0 = r
  ·
   refine Ev.pos (by rw [e1]) ?_
   by_cases e2 : l[posC (keyC r c t) l].f1 = c
   ·
    rw [if_pos ⟨e1, e2⟩, e2, bne_self_eq_false]
    exact jf
   ·
    rw [if_neg (fun h => e2 h.2), show (l[posC (keyC r c t) l].f1.toList != c.toList) = true by simpa using fun h => e2 (toList_inj h)]
    exact jt
  ·
   rw [if_neg (fun h => e1 h.1)]
   exact Ev.neg (fun h => e1 (toList_inj h)) jt
 ·
  rw [dif_neg hp]
  have := posC_le (keyC r c t) l
  refine Ev.bind (find_ev (keyC r c t) ho (by omega)) ?_
  simp only
  exact Ev.pos (by omega) jt
end Go.Proofs.Ytgcicgjfimfhpaa.Pl
/- The newest of a row and column up to a time, by the reference. -/
namespace Go.Proofs.Ytgcicgjfimfhpaa.Pl
open Go.RowKit Go.Proofs.Ytgcicgjfimfhpaa.X Go.Proofs.YtgcicgjfimfhpaaW.PrintWords Go.Proofs.YtgcicgjfimfhpaaW.PrintLast Go.Proofs.YtgcicgjfimfhpaaW.PrintMore
theorem ref_Newest_l0 (l : List Cell) (r c : ByteArray) (t : Int) (hn : l.length ≤ 1000000000) (d : Nat) : ∀ (i : Nat) (b : Cell), i ≤ l.length → l.length - i = d → Ev (fun k => shardlogref08_Newest.l0 k l r c t (i : Int) b.f0 b.f1 b.f2 b.f3 b.f4) (tupC (if (bestC r c t (l.drop i) b).f2 < 0 then none else some (bestC r c t (l.drop i) b))) := by
 induction d with
 | zero =>
  intro i b hi hd
  rw [List.drop_eq_nil_of_le (by omega)]
  refine Ev.step (f := fun _ => some (tupC (if b.f2 < 0 then none else some b))) (fun k => ?_) (Ev.now _)
  simp only [shardlogref08_Newest.l0]
  rw [if_neg (by omega)]
  split <;> rfl
 | succ d ih =>
  intro i b hi hd
  have hlt : i < l.length := by omega
  have hr := rdC_at l i hlt
  unfold rdC at hr
  rw [List.drop_eq_getElem_cons hlt]
  unfold bestC
  have hw : wrap64 ((i : Int) + 1) = ((i + 1 : Nat) : Int) := by rw [w64 (by omega) (by omega)]; rfl
  have hk : ∀ k, shardlogref08_Newest.l0 (k + 1) l r c t (i : Int) b.f0 b.f1 b.f2 b.f3 b.f4 = if l[i].f0 = r ∧ l[i].f1 = c ∧ l[i].f2 ≤ t ∧ l[i].f2 > b.f2 then shardlogref08_Newest.l0 k l r c t ((i + 1 : Nat) : Int) l[i].f0 l[i].f1 l[i].f2 l[i].f3 l[i].f4 else shardlogref08_Newest.l0 k l r c t ((i + 1 : Nat) : Int) b.f0 b.f1 b.f2 b.f3 b.f4 := by
   intro k
   simp only [shardlogref08_Newest.l0]
   rw [if_pos (by omega), if_pos (by omega), hr, hw]
   by_cases e1 : l[i].f0 = r
   ·
    rw [if_pos (by rw [e1])]
    by_cases e2 : l[i].f1 = c
    ·
     rw [if_pos (by rw [e2])]
     by_cases e3 : l[i].f2 ≤ t
     ·
      rw [if_pos e3]
      by_cases e4 : l[i].f2 > b.f2
      ·
       rw [if_pos e4, if_pos ⟨e1, e2, e3, e4⟩]
      ·
       rw [if_neg e4, if_neg (fun h => e4 h.2.2.2)]
     ·
      rw [if_neg e3, if_neg (fun h => e3 h.2.2.1)]
    ·
     rw [if_neg (fun h => e2 (toList_inj h)), if_neg (fun h => e2 h.2.1)]
   ·
    rw [if_neg (fun h => e1 (toList_inj h)), if_neg (fun h => e1 h.1)]
  by_cases hx : ofC r c t l[i] = true ∧ l[i].f2 > b.f2
  ·
   rw [if_pos hx]
   obtain ⟨e1, e2, e3⟩ := ofC_iff.1 hx.1
   exact Ev.step (f := fun k => shardlogref08_Newest.l0 k l r c t ((i + 1 : Nat) : Int) l[i].f0 l[i].f1 l[i].f2 l[i].f3 l[i].f4) (fun k => by rw [hk, if_pos ⟨e1, e2, e3, hx.2⟩]) (ih (i + 1) l[i] (by omega) (by omega))
  ·
   rw [if_neg hx]
   exact Ev.step (f := fun k => shardlogref08_Newest.l0 k l r c t ((i + 1 : Nat) : Int) b.f0 b.f1 b.f2 b.f3 b.f4) (fun k => by rw [hk, if_neg (fun h => hx ⟨ofC_iff.2 ⟨h.1, h.2.1, h.2.2.1⟩, h.2.2.2⟩)]) (ih (i + 1) b (by omega) (by omega))
theorem ref_Newest_ev {l : List Cell} (r c : ByteArray) (t : Int) (hs : SrtC l) (hn : l.length ≤ 1000000000) : Ev (fun k => shardlogref08_Newest.f k l r c t) (tupC (findC r c t l)) := by
 unfold shardlogref08_Newest.f
 have h := ref_Newest_l0 l r c t hn l.length 0 ⟨⟨#[]⟩, ⟨#[]⟩, -1, ⟨#[]⟩, false⟩ (by omega) (by omega)
 rw [List.drop_zero, bestC_find r c t _ rfl hs] at h
 refine h.to ?_
 cases hf : findC r c t l with
 | none => rfl
 | some x =>
  have hx := List.mem_of_find?_eq_some hf
  have h0 := (rightC_iff.1 (hs.1 x hx)).2.2.2.2.1
  show tupC (if x.f2 < 0 then none else some x) = _
  rw [if_neg (by omega)]
end Go.Proofs.Ytgcicgjfimfhpaa.Pl
