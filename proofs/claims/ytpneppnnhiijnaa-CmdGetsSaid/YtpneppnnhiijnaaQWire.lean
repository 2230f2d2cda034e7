/- Plain laws of numbers, texts and lists as bytes: no program in sight. -/
import Derived.Test.YtpneppnnhiijnaaWMore
import Derived.Laws.BitsLemmas
import Derived.Lib.Strings
namespace Go.Proofs.Ytpneppnnhiijnaa.Pl
open Go.RowKit Go.Proofs.YtpneppnnhiijnaaW.PrintWords Go.Proofs.YtpneppnnhiijnaaW.PrintMore

def Bytes (l : List Int) : Prop := ∀ x ∈ l, 0 ≤ x ∧ x < 256
theorem wf_u8 {y : Int} (h : (Lit.int .u8 y).wf = true) : 0 ≤ y ∧ y < 256 := by
  simp [Lit.wf, IntKind.min, IntKind.max, IntKind.signed, IntKind.bits] at h
  omega
theorem wf_u16 {y : Int} (h : (Lit.int .u16 y).wf = true) : 0 ≤ y ∧ y < 65536 := by
  simp [Lit.wf, IntKind.min, IntKind.max, IntKind.signed, IntKind.bits] at h
  omega
theorem wf_u32 {y : Int} (h : (Lit.int .u32 y).wf = true) : 0 ≤ y ∧ y < 4294967296 := by
  simp [Lit.wf, IntKind.min, IntKind.max, IntKind.signed, IntKind.bits] at h
  omega
theorem wf_i64 {y : Int} (h : (Lit.int .i64 y).wf = true) : -9223372036854775808 ≤ y ∧ y < 9223372036854775808 := by
  simp [Lit.wf, IntKind.min, IntKind.max, IntKind.signed, IntKind.bits] at h
  omega
theorem Bytes.of_wf {l : List Int} (h : ∀ y ∈ l, (Lit.int .u8 y).wf = true) : Bytes l := fun x hx => wf_u8 (h x hx)
theorem Bytes.nil : Bytes [] := fun _ h => by cases h
theorem Bytes.append {a b : List Int} (ha : Bytes a) (hb : Bytes b) : Bytes (a ++ b) := fun x hx => (List.mem_append.1 hx).elim (ha x) (hb x)
theorem Bytes.take {a : List Int} (ha : Bytes a) (n : Nat) : Bytes (a.take n) := fun x hx => ha x (List.mem_of_mem_take hx)
theorem Bytes.drop {a : List Int} (ha : Bytes a) (n : Nat) : Bytes (a.drop n) := fun x hx => ha x (List.mem_of_mem_drop hx)
theorem Bytes.cons {x : Int} {l : List Int} (h0 : 0 ≤ x) (h1 : x < 256) (h : Bytes l) : Bytes (x :: l) := fun y hy => (List.mem_cons.1 hy).elim (fun e => e ▸ ⟨h0, h1⟩) (h y)
theorem Bytes.of_append_left {a b : List Int} (h : Bytes (a ++ b)) : Bytes a := fun x hx => h x (List.mem_append_left _ hx)
theorem Bytes.of_append_right {a b : List Int} (h : Bytes (a ++ b)) : Bytes b := fun x hx => h x (List.mem_append_right _ hx)
theorem bytes_bytesOf (s : ByteArray) : Bytes (bytesOf s) := by
  intro x hx
  obtain ⟨b, _, rfl⟩ := List.mem_map.1 hx
  have := b.toNat_lt
  omega
theorem strOf_bytesOf (s : ByteArray) : strOfNums (bytesOf s) = s := by
  have h : ((bytesOf s).map fun n => UInt8.ofNat n.toNat) = s.data.toList := by
    rw [bytesOf, List.map_map]
    conv => rhs; rw [← List.map_id s.data.toList]
    refine List.map_congr_left fun b _ => ?_
    simp
  unfold strOfNums
  rw [h]
theorem bytesOf_strOf {l : List Int} (h : Bytes l) : bytesOf (strOfNums l) = l := by
  unfold bytesOf strOfNums
  simp only [List.map_map]
  conv => rhs; rw [← List.map_id l]
  refine List.map_congr_left fun x hx => ?_
  obtain ⟨h0, h1⟩ := h x hx
  obtain ⟨n, rfl⟩ := Int.eq_ofNat_of_zero_le h0
  have hn : n < 256 := by omega
  simp [Nat.mod_eq_of_lt hn]
theorem strOf_inj {a b : List Int} (ha : Bytes a) (hb : Bytes b) (h : strOfNums a = strOfNums b) : a = b := by
  rw [← bytesOf_strOf ha, ← bytesOf_strOf hb, h]
theorem bytesOf_inj {a b : ByteArray} (h : bytesOf a = bytesOf b) : a = b := by
  rw [← strOf_bytesOf a, ← strOf_bytesOf b, h]
theorem toList_inj {a b : ByteArray} (h : a.toList = b.toList) : a = b := by
  rw [ByteArray.toList_eq, ByteArray.toList_eq] at h
  obtain ⟨⟨a⟩⟩ := a
  obtain ⟨⟨b⟩⟩ := b
  simp at h
  rw [h]
theorem strOf_size (l : List Int) : (strOfNums l).size = l.length := by simp [strOfNums, ByteArray.size]
theorem same_eq {a b : List Int} (h : a = b) : ((strOfNums a).toList == (strOfNums b).toList) = true := by rw [h]; simp
theorem same_iff {a b : List Int} (ha : Bytes a) (hb : Bytes b) : ((strOfNums a).toList == (strOfNums b).toList) = decide (a = b) := by
  rw [Bool.eq_iff_iff, beq_iff_eq, decide_eq_true_iff]
  exact ⟨fun h => strOf_inj ha hb (toList_inj h), fun h => by rw [h]⟩
theorem bytesOf_size (s : ByteArray) : (bytesOf s).length = s.size := bytesOf_length s
theorem size_zero_iff (s : ByteArray) : s.size = 0 ↔ s = ⟨#[]⟩ := by
  constructor
  · intro h
    obtain ⟨a⟩ := s
    have : a.size = 0 := h
    rw [Array.eq_empty_of_size_eq_zero this]
  · rintro rfl; rfl
theorem w64 {x : Int} (h0 : -9223372036854775808 ≤ x) (h1 : x < 9223372036854775808) : wrap64 x = x := by unfold wrap64; omega

theorem _root_.Go.Proofs.YtpneppnnhiijnaaW.PrintWords.Ev.pos {α : Type} {c : Prop} [Decidable c] {f g : Nat → Option α} {r : α} (hc : c) (h : Ev f r) : Ev (fun k => if c then f k else g k) r := by
  simpa only [if_pos hc] using h
theorem _root_.Go.Proofs.YtpneppnnhiijnaaW.PrintWords.Ev.neg {α : Type} {c : Prop} [Decidable c] {f g : Nat → Option α} {r : α} (hc : ¬ c) (h : Ev g r) : Ev (fun k => if c then f k else g k) r := by
  simpa only [if_neg hc] using h
theorem _root_.Go.Proofs.YtpneppnnhiijnaaW.PrintWords.Ev.eq {α : Type} {x : Option α} {r : α} (h : x = some r) : Ev (fun _ => x) r := by rw [h]; exact Ev.now r
theorem _root_.Go.Proofs.YtpneppnnhiijnaaW.PrintWords.Ev.to {α : Type} {g : Nat → Option α} {r r' : α} (h : Ev g r) (e : r = r') : Ev g r' := e ▸ h

theorem four_form {α : Type} {b : List α} (h : 4 ≤ b.length) : ∃ x0 x1 x2 x3 r, b = x0 :: x1 :: x2 :: x3 :: r := by
  match b, h with
  | x0 :: x1 :: x2 :: x3 :: r, _ => exact ⟨x0, x1, x2, x3, r, rfl⟩
/-- A number's bytes. -/
def num (n : Int) : List Int := if n < 0 then [] else if n > 4294967295 then [] else [n / 16777216 % 256, n / 65536 % 256, n / 256 % 256, n % 256]
def text (s : ByteArray) : List Int := num s.size ++ bytesOf s
def texts (l : List ByteArray) : List Int := num l.length ++ (l.map text).flatten
/-- The number at the beginning of four bytes or more. -/
def val4 (b : List Int) : Int := 16777216 * rd b 0 + 65536 * rd b 1 + 256 * rd b 2 + rd b 3
def cutNum (b : List Int) : Int × List Int × Bool := if b.length < 4 then (0, [], false) else (val4 b, b.drop 4, true)
def cutText (b : List Int) : ByteArray × List Int × Bool :=
  if b.length < 4 then (⟨#[]⟩, [], false) else if val4 b > ((b.length - 4 : Nat) : Int) then (⟨#[]⟩, [], false) else (strOfNums ((b.drop 4).take (val4 b).toNat), (b.drop 4).drop (val4 b).toNat, true)
/-- n texts at the beginning. -/
def cutN : Nat → List Int → Option (List ByteArray × List Int)
  | 0, b => some ([], b)
  | n + 1, b => if (cutText b).2.2 = true then (cutN n (cutText b).2.1).map fun x => ((cutText b).1 :: x.1, x.2) else none
def cutTexts (b : List Int) : List ByteArray × List Int × Bool :=
  if b.length < 4 then ([], [], false) else match cutN (val4 b).toNat (b.drop 4) with
    | some x => (x.1, x.2, true)
    | none => ([], [], false)

theorem num_in {n : Int} (h0 : 0 ≤ n) (h1 : n ≤ 4294967295) : num n = [n / 16777216 % 256, n / 65536 % 256, n / 256 % 256, n % 256] := by
  unfold num
  rw [if_neg (by omega), if_neg (by omega)]
theorem num_length {n : Int} (h0 : 0 ≤ n) (h1 : n ≤ 4294967295) : (num n).length = 4 := by rw [num_in h0 h1]; rfl
theorem num_length_le (n : Int) : (num n).length ≤ 4 := by
  unfold num
  split
  · simp
  · split <;> simp
theorem bytes_num (n : Int) : Bytes (num n) := by
  unfold num
  split
  · exact Bytes.nil
  · split
    · exact Bytes.nil
    · refine Bytes.cons ?_ ?_ (Bytes.cons ?_ ?_ (Bytes.cons ?_ ?_ (Bytes.cons ?_ ?_ Bytes.nil))) <;> omega
theorem val4_num {n : Int} (h0 : 0 ≤ n) (h1 : n ≤ 4294967295) (r : List Int) : val4 (num n ++ r) = n := by
  rw [num_in h0 h1]
  simp [val4, rd]
  omega
theorem val4_nonneg {b : List Int} (h : Bytes b) (hl : 4 ≤ b.length) : 0 ≤ val4 b ∧ val4 b ≤ 4294967295 := by
  match b, hl with
  | x0 :: x1 :: x2 :: x3 :: r, _ =>
    have h0 := h x0 (by simp)
    have h1 := h x1 (by simp)
    have h2 := h x2 (by simp)
    have h3 := h x3 (by simp)
    simp [val4, rd]
    omega
theorem num_val4 {b : List Int} (h : Bytes b) (hl : 4 ≤ b.length) : num (val4 b) = b.take 4 := by
  obtain ⟨g0, g1⟩ := val4_nonneg h hl
  rw [num_in g0 g1]
  match b, hl with
  | x0 :: x1 :: x2 :: x3 :: r, _ =>
    have h0 := h x0 (by simp)
    have h1 := h x1 (by simp)
    have h2 := h x2 (by simp)
    have h3 := h x3 (by simp)
    simp [val4, rd]
    omega
theorem text_length {s : ByteArray} (h : s.size ≤ 4294967295) : (text s).length = 4 + s.size := by
  unfold text
  rw [List.length_append, num_length (by omega) (by omega), bytesOf_length]
theorem text_length_le (s : ByteArray) : (text s).length ≤ 4 + s.size := by
  unfold text
  rw [List.length_append, bytesOf_length]
  have := num_length_le s.size
  omega
theorem bytes_text (s : ByteArray) : Bytes (text s) := (bytes_num _).append (bytes_bytesOf s)
theorem bytes_flat {l : List ByteArray} : Bytes (l.map text).flatten := by
  intro x hx
  obtain ⟨y, hy, hxy⟩ := List.mem_flatten.1 hx
  obtain ⟨s, _, rfl⟩ := List.mem_map.1 hy
  exact bytes_text s x hxy
theorem bytes_texts (l : List ByteArray) : Bytes (texts l) := (bytes_num _).append bytes_flat
theorem cutNum_num {n : Int} (h0 : 0 ≤ n) (h1 : n ≤ 4294967295) (r : List Int) : cutNum (num n ++ r) = (n, r, true) := by
  unfold cutNum
  rw [if_neg (by rw [List.length_append, num_length h0 h1]; omega), val4_num h0 h1]
  congr 2
  rw [← num_length h0 h1, List.drop_left]
theorem cutText_text {s : ByteArray} (h : s.size ≤ 4294967295) (r : List Int) : cutText (text s ++ r) = (s, r, true) := by
  have hl := text_length h
  have hv : val4 (text s ++ r) = s.size := by rw [text, List.append_assoc, val4_num (by omega) (by omega)]
  have hd : (text s ++ r).drop 4 = bytesOf s ++ r := by
    rw [text, List.append_assoc, ← num_length (n := (s.size : Int)) (by omega) (by omega), List.drop_left]
  unfold cutText
  rw [if_neg (by rw [List.length_append]; omega), hv, hd, if_neg (by rw [List.length_append]; omega)]
  have h2 : ((s.size : Int)).toNat = (bytesOf s).length := by rw [bytesOf_length]; rfl
  rw [h2, List.take_left, List.drop_left, strOf_bytesOf]
theorem cutN_flat : ∀ (l : List ByteArray) (r : List Int), (∀ s ∈ l, s.size ≤ 4294967295) → cutN l.length ((l.map text).flatten ++ r) = some (l, r)
  | [], r, _ => rfl
  | s :: l, r, h => by
    have h1 := cutText_text (h s (by simp)) ((l.map text).flatten ++ r)
    have h2 := cutN_flat l r (fun s hs => h s (by simp [hs]))
    simp only [List.length_cons, cutN, List.map_cons, List.flatten_cons, List.append_assoc, h1, h2, if_true, Option.map_some]
theorem cutTexts_texts {l : List ByteArray} (hl : l.length ≤ 4294967295) (h : ∀ s ∈ l, s.size ≤ 4294967295) (r : List Int) : cutTexts (texts l ++ r) = (l, r, true) := by
  have hv : val4 (texts l ++ r) = l.length := by rw [texts, List.append_assoc, val4_num (by omega) (by omega)]
  have hd : (texts l ++ r).drop 4 = (l.map text).flatten ++ r := by
    rw [texts, List.append_assoc, ← num_length (n := (l.length : Int)) (by omega) (by omega), List.drop_left]
  unfold cutTexts
  rw [if_neg (by rw [texts, List.length_append, List.length_append, num_length (by omega) (by omega)]; omega), hv, hd, Int.toNat_natCast, cutN_flat l r h]
/-- What is cut off is what stood there. -/
theorem cutText_back {b : List Int} (hb : Bytes b) (h : (cutText b).2.2 = true) : b = text (cutText b).1 ++ (cutText b).2.1 ∧ ((cutText b).1.size : Int) = val4 b ∧ (cutText b).1.size ≤ 4294967295 := by
  unfold cutText at h ⊢
  by_cases h4 : b.length < 4
  · rw [if_pos h4] at h; cases h
  · rw [if_neg h4] at h ⊢
    by_cases hv : val4 b > ((b.length - 4 : Nat) : Int)
    · rw [if_pos hv] at h; cases h
    · rw [if_neg hv] at h ⊢
      obtain ⟨g0, g1⟩ := val4_nonneg hb (by omega)
      have hsz : (strOfNums ((b.drop 4).take (val4 b).toNat)).size = (val4 b).toNat := by
        rw [strOf_size, List.length_take, List.length_drop]
        omega
      refine ⟨?_, by simp only [hsz]; omega, by simp only [hsz]; omega⟩
      show b = text (strOfNums ((b.drop 4).take (val4 b).toNat)) ++ (b.drop 4).drop (val4 b).toNat
      rw [text, hsz, bytesOf_strOf ((hb.drop 4).take _), List.append_assoc, List.take_append_drop]
      rw [show (((val4 b).toNat : Nat) : Int) = val4 b by omega, num_val4 hb (by omega), List.take_append_drop]
theorem cutText_rest_length {b : List Int} (h : (cutText b).2.2 = true) : (cutText b).2.1.length + 4 + (cutText b).1.size ≤ b.length := by
  unfold cutText at h ⊢
  by_cases h4 : b.length < 4
  · rw [if_pos h4] at h; cases h
  · rw [if_neg h4] at h ⊢
    by_cases hv : val4 b > ((b.length - 4 : Nat) : Int)
    · rw [if_pos hv] at h; cases h
    · rw [if_neg hv] at h ⊢
      simp only [strOf_size, List.length_take, List.length_drop]
      omega
theorem cutText_rest_bytes {b : List Int} (hb : Bytes b) : Bytes (cutText b).2.1 := by
  unfold cutText
  split
  · exact Bytes.nil
  · split
    · exact Bytes.nil
    · exact (hb.drop 4).drop _
theorem cutText_no {b : List Int} (h : (cutText b).2.2 = false) : (cutText b).1 = ⟨#[]⟩ ∧ (cutText b).2.1 = [] := by
  unfold cutText at h ⊢
  by_cases h4 : b.length < 4
  · rw [if_pos h4]; exact ⟨rfl, rfl⟩
  · rw [if_neg h4] at h ⊢
    by_cases hv : val4 b > ((b.length - 4 : Nat) : Int)
    · rw [if_pos hv]; exact ⟨rfl, rfl⟩
    · rw [if_neg hv] at h; cases h
end Go.Proofs.Ytpneppnnhiijnaa.Pl
