/- The plain laws, and what the printed functions answer, in one text. -/
import Derived.Test.YtclmooadpoojeaaWMore
import Derived.Laws.BitsLemmas
import Derived.Lib.Strings
import Derived.Test.YtclmooadpoojeaaXx7
import Derived.Test.YtclmooadpoojeaaXx8
import Derived.Test.YtclmooadpoojeaaXx9
import Derived.Test.YtclmooadpoojeaaXx3
import Derived.Test.YtclmooadpoojeaaXx4
import Derived.Test.YtclmooadpoojeaaXx5
import Derived.Test.YtclmooadpoojeaaXx6
import Derived.Test.YtclmooadpoojeaaWOwn
/- Plain laws of numbers, texts and lists as bytes: no program in sight. -/
namespace Go.Proofs.Ytclmooadpoojeaa.Pl
open Go.RowKit Go.Proofs.YtclmooadpoojeaaW.PrintWords Go.Proofs.YtclmooadpoojeaaW.PrintMore

def Bytes (l : List Int) : Prop := ∀ x ∈ l, 0 ≤ x ∧ x < 256
theorem wf_u8 {y : Int} (h : (Lit.int .u8 y).wf = true) : 0 ≤ y ∧ y < 256 := by
 simp [Lit.wf, IntKind.min, IntKind.max, IntKind.signed, IntKind.bits] at h
 omega
theorem Bytes.of_wf {l : List Int} (h : ∀ y ∈ l, (Lit.int .u8 y).wf = true) : Bytes l := fun x hx => wf_u8 (h x hx)
theorem Bytes.nil : Bytes [] := fun _ h => by cases h
theorem Bytes.append {a b : List Int} (ha : Bytes a) (hb : Bytes b) : Bytes (a ++ b) := fun x hx => (List.mem_append.1 hx).elim (ha x) (hb x)
theorem Bytes.take {a : List Int} (ha : Bytes a) (n : Nat) : Bytes (a.take n) := fun x hx => ha x (List.mem_of_mem_take hx)
theorem Bytes.drop {a : List Int} (ha : Bytes a) (n : Nat) : Bytes (a.drop n) := fun x hx => ha x (List.mem_of_mem_drop hx)
theorem Bytes.cons {x : Int} {l : List Int} (h0 : 0 ≤ x) (h1 : x < 256) (h : Bytes l) : Bytes (x :: l) := fun y hy => (List.mem_cons.1 hy).elim (fun e => e ▸ ⟨h0, h1⟩) (h y)
theorem Bytes.of_append_left {a b : List Int} (h : Bytes (a ++ b)) : Bytes a := fun x hx => h x (List.mem_append_left _ hx)
theorem Bytes.of_append_right {a b : List Int} (h : Bytes (a ++ b)) : Bytes b := fun x hx => h x (List.mem_append_right _ hx)
theorem toList_inj {a b : ByteArray} (h : a.toList = b.toList) : a = b := by
 rw [ByteArray.toList_eq, ByteArray.toList_eq] at h
 obtain ⟨⟨a⟩⟩ := a
 obtain ⟨⟨b⟩⟩ := b
 simp at h
 rw [h]
theorem strOf_size (l : List Int) : (strOfNums l).size = l.length := by simp [strOfNums, ByteArray.size]
theorem same_eq {a b : List Int} (h : a = b) : ((strOfNums a).toList == (strOfNums b).toList) = true := by rw [h]; simp
theorem size_zero_iff (s : ByteArray) : s.size = 0 ↔ s = ⟨#[]⟩ := by
 constructor
 ·
  intro h
  obtain ⟨a⟩ := s
  have : a.size = 0 := h
  rw [Array.eq_empty_of_size_eq_zero this]
 ·
  rintro rfl; rfl
theorem w64 {x : Int} (h0 : -9223372036854775808 ≤ x) (h1 : x < 9223372036854775808) : wrap64 x = x := by unfold wrap64; omega

theorem _root_.Go.Proofs.YtclmooadpoojeaaW.PrintWords.Ev.pos {α : Type} {c : Prop} [Decidable c] {f g : Nat → Option α} {r : α} (hc : c) (h : Ev f r) : Ev (fun k => if c then f k else g k) r := by
 simpa only [if_pos hc] using h
theorem _root_.Go.Proofs.YtclmooadpoojeaaW.PrintWords.Ev.neg {α : Type} {c : Prop} [Decidable c] {f g : Nat → Option α} {r : α} (hc : ¬ c) (h : Ev g r) : Ev (fun k => if c then f k else g k) r := by
 simpa only [if_neg hc] using h
theorem _root_.Go.Proofs.YtclmooadpoojeaaW.PrintWords.Ev.eq {α : Type} {x : Option α} {r : α} (h : x = some r) : Ev (fun _ => x) r := by rw [h]; exact Ev.now r
theorem _root_.Go.Proofs.YtclmooadpoojeaaW.PrintWords.Ev.to {α : Type} {g : Nat → Option α} {r r' : α} (h : Ev g r) (e : r = r') : Ev g r' := e ▸ h

theorem four_form {α : Type} {b : List α} (h : 4 ≤ b.length) : ∃ x0 x1 x2 x3 r, b = x0 :: x1 :: x2 :: x3 :: r := by
 match b, h with
 | x0 :: x1 :: x2 :: x3 :: r, _ => exact ⟨x0, x1, x2, x3, r, rfl⟩
def num (n : Int) : List Int := if n < 0 then [] else if n > 4294967295 then [] else [n / 16777216 % 256, n / 65536 % 256, n / 256 % 256, n % 256]
def text (s : ByteArray) : List Int := num s.size ++ bytesOf s
def texts (l : List ByteArray) : List Int := num l.length ++ (l.map text).flatten
def val4 (b : List Int) : Int := 16777216 * rd b 0 + 65536 * rd b 1 + 256 * rd b 2 + rd b 3
def cutNum (b : List Int) : Int × List Int × Bool := if b.length < 4 then (0, [], false) else (val4 b, b.drop 4, true)
def cutText (b : List Int) : ByteArray × List Int × Bool :=
 if b.length < 4 then (⟨#[]⟩, [], false) else if val4 b > ((b.length - 4 : Nat) : Int) then (⟨#[]⟩, [], false) else (strOfNums ((b.drop 4).take (val4 b).toNat), (b.drop 4).drop (val4 b).toNat, true)
theorem num_in {n : Int} (h0 : 0 ≤ n) (h1 : n ≤ 4294967295) : num n = [n / 16777216 % 256, n / 65536 % 256, n / 256 % 256, n % 256] := by
 unfold num
 rw [if_neg (by omega), if_neg (by omega)]
theorem num_length {n : Int} (h0 : 0 ≤ n) (h1 : n ≤ 4294967295) : (num n).length = 4 := by rw [num_in h0 h1]; rfl
theorem num_length_le (n : Int) : (num n).length ≤ 4 := by
 unfold num
 split
 ·
  simp
 ·
  split <;> simp
theorem bytes_num (n : Int) : Bytes (num n) := by
 unfold num
 split
 ·
  exact Bytes.nil
 ·
  split
  ·
   exact Bytes.nil
  ·
   refine Bytes.cons ?_ ?_ (Bytes.cons ?_ ?_ (Bytes.cons ?_ ?_ (Bytes.cons ?_ ?_ Bytes.nil))) <;> omega
theorem val4_num {n : Int} (h0 : 0 ≤ n) (h1 : n ≤ 4294967295) (r : List Int) : val4 (num n ++ r) = n := by
 rw [num_in h0 h1]
 simp [val4, rd]
 omega
theorem val4_nonneg {b : List Int} (h : Bytes b) (hl : 4 ≤ b.length) : 0 ≤ val4 b ∧ val4 b ≤ 4294967295 := by
 match b, hl with
 | x0 :: x1 :: x2 :: x3 :: r, _ =>
  have h0 := h x0 (by simp)
  have h1 := h x1 (by simp)
  have h2 := h x2 (by simp)
  have h3 := h x3 (by simp)
  simp [val4, rd]
  omega
theorem num_val4 {b : List Int} (h : Bytes b) (hl : 4 ≤ b.length) : num (val4 b) = b.take 4 := by
 obtain ⟨g0, g1⟩ := val4_nonneg h hl
 rw [num_in g0 g1]
 match b, hl with
 | x0 :: x1 :: x2 :: x3 :: r, _ =>
  have h0 := h x0 (by simp)
  have h1 := h x1 (by simp)
  have h2 := h x2 (by simp)
  have h3 := h x3 (by simp)
  simp [val4, rd]
  omega
theorem cutText_rest_length {b : List Int} (h : (cutText b).2.2 = true) : (cutText b).2.1.length + 4 + (cutText b).1.size ≤ b.length := by
 unfold cutText at h ⊢
 by_cases h4 : b.length < 4
 ·
  rw [if_pos h4] at h; cases h
 ·
  rw [if_neg h4] at h ⊢
  by_cases hv : val4 b > ((b.length - 4 : Nat) : Int)
  ·
   rw [if_pos hv] at h; cases h
  ·
   rw [if_neg hv] at h ⊢
   simp only [strOf_size, List.length_take, List.length_drop]
   omega
theorem cutText_rest_bytes {b : List Int} (hb : Bytes b) : Bytes (cutText b).2.1 := by
 unfold cutText
 split
 ·
  exact Bytes.nil
 ·
  split
  ·
   exact Bytes.nil
  ·
   exact (hb.drop 4).drop _
end Go.Proofs.Ytclmooadpoojeaa.Pl
/- Plain laws of the checksum: no program in sight. -/
namespace Go.Proofs.Ytclmooadpoojeaa.Pl
open Go.RowKit Go.Proofs.YtclmooadpoojeaaW.PrintWords Go.Proofs.YtclmooadpoojeaaW.PrintMore

def bitN (x : Nat) : Nat := if x % 2 = 1 then (x / 2) ^^^ 2197175160 else x / 2
def goN : Nat → Nat → Nat
 | 0, w => w
 | m + 1, w => goN m (bitN w)
def stepN (w c : Nat) : Nat := goN 8 (w ^^^ c)
def crcN (w : Nat) (l : List Int) : Nat := l.foldl (fun w c => stepN w c.toNat) w
@[irreducible] def crcSum (l : List Int) : Int := ((4294967295 - crcN 4294967295 l : Nat) : Int)
theorem crcSum_def (l : List Int) : crcSum l = ((4294967295 - crcN 4294967295 l : Nat) : Int) := by unfold crcSum; rfl
theorem bitN_lt {x : Nat} (h : x < 4294967296) : bitN x < 4294967296 := by
 unfold bitN
 split
 ·
  exact Nat.xor_lt_two_pow (n := 32) (by omega) (by omega)
 ·
  omega
theorem goN_lt : ∀ (m x : Nat), x < 4294967296 → goN m x < 4294967296
 | 0, _, h => h
 | m + 1, _, h => goN_lt m _ (bitN_lt h)
theorem stepN_lt {w c : Nat} (hw : w < 4294967296) (hc : c < 4294967296) : stepN w c < 4294967296 := goN_lt 8 _ (Nat.xor_lt_two_pow (n := 32) hw hc)
theorem crcSum_in (l : List Int) : 0 ≤ crcSum l ∧ crcSum l ≤ 4294967295 := by
 unfold crcSum
 omega
theorem bits_xor_nat (k : IntKind) (j : Nat) (hj : j ≤ k.bits) (hk : ∀ n : Int, 0 ≤ n → n < 2 ^ j → k.wrap n = n) (a b : Nat) (ha : a < 2 ^ j) (hb : b < 2 ^ j) : Go.bits .xor k (a : Int) (b : Int) = ((a ^^^ b : Nat) : Int) := by
 have hp : 2 ^ j ≤ 2 ^ k.bits := Nat.pow_le_pow_right (by decide) hj
 have ha' : a % 2 ^ k.bits = a := Nat.mod_eq_of_lt (Nat.lt_of_lt_of_le ha hp)
 have hb' : b % 2 ^ k.bits = b := Nat.mod_eq_of_lt (Nat.lt_of_lt_of_le hb hp)
 have cast : ∀ n : Nat, n < 2 ^ j → ((n : Nat) : Int) < 2 ^ j := fun n h => by exact_mod_cast h
 simp only [Go.bits, BitVec.ofInt_natCast, BitVec.toNat_xor, BitVec.toNat_ofNat, ha', hb']
 exact hk _ (Int.natCast_nonneg _) (cast _ (Nat.xor_lt_two_pow ha hb))
theorem bits_xor32 {a b : Nat} (ha : a < 4294967296) (hb : b < 4294967296) : Go.bits .xor .u32 (a : Int) (b : Int) = ((a ^^^ b : Nat) : Int) := by
 have hk : ∀ n : Int, 0 ≤ n → n < 2 ^ 32 → IntKind.u32.wrap n = n := by
  intro n h4 h5
  rw [IntKind.wrap_u32]
  omega
 exact bits_xor_nat .u32 32 (by decide) hk a b ha hb
theorem bits_one32 {a : Nat} (ha : a < 4294967296) : Go.bits .and .u32 (a : Int) 1 = ((a % 2 : Nat) : Int) := by
 have hk : ∀ n : Int, 0 ≤ n → n < 2 ^ 32 → IntKind.u32.wrap n = n := by
  intro n h4 h5
  rw [IntKind.wrap_u32]
  omega
 have := (bits_nat .u32 32 (by decide) hk a 1 ha (by decide)).1
 rw [Nat.and_one_is_mod] at this
 exact this
theorem bits_all32 {a : Nat} (ha : a < 4294967296) : Go.bits .xor .u32 (a : Int) 4294967295 = ((4294967295 - a : Nat) : Int) := by
 have h := bits_xor32 ha (show 4294967295 < 4294967296 by decide)
 have h2 : a ^^^ 4294967295 = 4294967295 - a := by
  apply Nat.eq_of_testBit_eq
  intro i
  have h3 := Nat.testBit_two_pow_sub_succ (n := 32) (x := a) (by simpa using ha) i
  rw [show (2 : Nat) ^ 32 - (a + 1) = 4294967295 - a by omega] at h3
  rw [h3, Nat.testBit_xor, show (4294967295 : Nat) = 2 ^ 32 - 1 from rfl, Nat.testBit_two_pow_sub_one]
  by_cases hi : i < 32
  ·
   simp [hi]
  ·
   have : a.testBit i = false := Nat.testBit_lt_two_pow (Nat.lt_of_lt_of_le (by simpa using ha : a < 2 ^ 32) (Nat.pow_le_pow_right (by decide) (by omega)))
   simp [hi, this]
 rw [h2] at h
 exact h
end Go.Proofs.Ytclmooadpoojeaa.Pl
/- Plain laws of frames: no program in sight. -/
namespace Go.Proofs.Ytclmooadpoojeaa.Pl
open Go.RowKit Go.Proofs.YtclmooadpoojeaaW.PrintWords Go.Proofs.YtclmooadpoojeaaW.PrintMore

def sumB (b : List Int) : List Int := num (crcSum b)
def frame (r : List Int) : List Int := num r.length ++ (sumB (num r.length) ++ (sumB r ++ r))
def frames (l : List (List Int)) : List Int := (l.map frame).flatten
theorem sumB_length (b : List Int) : (sumB b).length = 4 := by
 obtain ⟨h0, h1⟩ := crcSum_in b
 exact num_length h0 (by omega)
theorem bytes_frame {r : List Int} (h : Bytes r) : Bytes (frame r) := (bytes_num _).append ((bytes_num _).append ((bytes_num _).append h))
theorem frame_length {r : List Int} (h : r.length ≤ 65535) : (frame r).length = 12 + r.length := by
 unfold frame
 rw [List.length_append, List.length_append, List.length_append, sumB_length, sumB_length, num_length (by omega) (by omega)]
 omega
theorem frames_cons (r : List Int) (l : List (List Int)) : frames (r :: l) = frame r ++ frames l := by simp [frames]
theorem frames_nil : frames [] = [] := rfl
theorem bytes_frames : ∀ {l : List (List Int)}, (∀ r ∈ l, Bytes r) → Bytes (frames l)
 | [], _ => Bytes.nil
 | r :: l, h => by rw [frames_cons]; exact (bytes_frame (h r (by simp))).append (bytes_frames (fun x hx => h x (by simp [hx])))
def okF (d : List Int) : Prop := 12 ≤ d.length ∧ val4 d ≤ 65535 ∧ 12 + val4 d ≤ d.length ∧ val4 (d.drop 4) = crcSum (d.take 4) ∧ val4 (d.drop 8) = crcSum ((d.drop 12).take (val4 d).toNat)
instance (d : List Int) : Decidable (okF d) := by unfold okF; infer_instance
def cutF (d : List Int) : List Int × List Int × Bool := if okF d then ((d.drop 12).take (val4 d).toNat, (d.drop 12).drop (val4 d).toNat, true) else ([], [], false)
theorem drop_num {n : Int} (h0 : 0 ≤ n) (h1 : n ≤ 4294967295) (r : List Int) : (num n ++ r).drop 4 = r := by rw [← num_length h0 h1, List.drop_left]
theorem take_num {n : Int} (h0 : 0 ≤ n) (h1 : n ≤ 4294967295) (r : List Int) : (num n ++ r).take 4 = num n := by rw [← num_length h0 h1, List.take_left]
theorem frame_parts {r : List Int} (h : r.length ≤ 65535) (s : List Int) : val4 (frame r ++ s) = r.length ∧ (frame r ++ s).take 4 = num r.length ∧ val4 ((frame r ++ s).drop 4) = crcSum (num r.length) ∧ val4 ((frame r ++ s).drop 8) = crcSum r ∧ (frame r ++ s).drop 12 = r ++ s := by
 have e : frame r ++ s = num r.length ++ (sumB (num r.length) ++ (sumB r ++ (r ++ s))) := by simp [frame]
 obtain ⟨a0, a1⟩ := crcSum_in (num r.length)
 obtain ⟨b0, b1⟩ := crcSum_in r
 have d4 : (frame r ++ s).drop 4 = sumB (num r.length) ++ (sumB r ++ (r ++ s)) := by rw [e]; exact drop_num (by omega) (by omega) _
 have d8 : (frame r ++ s).drop 8 = sumB r ++ (r ++ s) := by rw [show 8 = 4 + 4 from rfl, ← List.drop_drop, d4]; exact drop_num a0 a1 _
 have d12 : (frame r ++ s).drop 12 = r ++ s := by rw [show 12 = 8 + 4 from rfl, ← List.drop_drop, d8]; exact drop_num b0 b1 _
 refine ⟨by rw [e]; exact val4_num (by omega) (by omega) _, by rw [e]; exact take_num (by omega) (by omega) _, by rw [d4]; exact val4_num a0 a1 _, by rw [d8]; exact val4_num b0 b1 _, d12⟩
theorem okF_frame {r : List Int} (h : r.length ≤ 65535) (s : List Int) : okF (frame r ++ s) := by
 obtain ⟨h1, h2, h3, h4, h5⟩ := frame_parts h s
 have hl := frame_length h
 have hn : ((r.length : Nat) : Int).toNat = r.length := by omega
 refine ⟨by rw [List.length_append]; omega, by rw [h1]; omega, by rw [h1, List.length_append]; omega, by rw [h2, h3], ?_⟩
 rw [h4, h5, h1, hn, List.take_left]
theorem cutF_frame {r : List Int} (h : r.length ≤ 65535) (s : List Int) : cutF (frame r ++ s) = (r, s, true) := by
 obtain ⟨h1, h2, h3, h4, h5⟩ := frame_parts h s
 have hn : ((r.length : Nat) : Int).toNat = r.length := by omega
 unfold cutF
 rw [if_pos (okF_frame h s), h1, h5, hn, List.take_left, List.drop_left]
theorem okF_back {d : List Int} (hb : Bytes d) (h : okF d) : d = frame (cutF d).1 ++ (cutF d).2.1 ∧ (cutF d).1.length ≤ 65535 ∧ (cutF d).2.2 = true ∧ (cutF d).1.length = (val4 d).toNat := by
 have h' := h
 obtain ⟨h1, h2, h3, h4, h5⟩ := h
 obtain ⟨g0, g1⟩ := val4_nonneg hb (by omega)
 unfold cutF
 rw [if_pos h']
 have hl : ((d.drop 12).take (val4 d).toNat).length = (val4 d).toNat := by rw [List.length_take, List.length_drop]; omega
 refine ⟨?_, by simp only [hl]; omega, rfl, hl⟩
 simp only [frame, hl]
 have hn : (((val4 d).toNat : Nat) : Int) = val4 d := by omega
 have e0 := num_val4 hb (by omega)
 have e4 := num_val4 (hb.drop 4) (by rw [List.length_drop]; omega)
 have e8 := num_val4 (hb.drop 8) (by rw [List.length_drop]; omega)
 rw [h4] at e4
 rw [h5] at e8
 rw [hn, e0]
 simp only [sumB, e4, e8]
 have t4 : (d.drop 4).take 4 ++ (d.drop 8) = d.drop 4 := by
  conv => rhs; rw [← List.take_append_drop 4 (d.drop 4)]
  rw [List.drop_drop]
 have t8 : (d.drop 8).take 4 ++ (d.drop 12) = d.drop 8 := by
  conv => rhs; rw [← List.take_append_drop 4 (d.drop 8)]
  rw [List.drop_drop]
 simp only [List.append_assoc, List.take_append_drop, t8, t4]
theorem cutF_no {d : List Int} (h : ¬ okF d) : cutF d = ([], [], false) := by
 unfold cutF
 rw [if_neg h]
theorem scan_form : ∀ (n : Nat) (b : List Int), b.length ≤ n → Bytes b → ∃ l s, b = frames l ++ s ∧ (∀ r ∈ l, r.length ≤ 65535 ∧ Bytes r) ∧ Bytes s ∧ ¬ okF s
 | 0, b, h, hb => ⟨[], b, by simp [frames], by simp, hb, fun h2 => by have := h2.1; omega⟩
 | n + 1, b, h, hb => by
  by_cases ho : okF b
  ·
   obtain ⟨h1, h2, _⟩ := okF_back hb ho
   have hl := congrArg List.length h1
   rw [List.length_append, frame_length h2] at hl
   have hb1 := h1 ▸ hb
   have hbs : Bytes (cutF b).2.1 := hb1.of_append_right
   have hbr : Bytes (cutF b).1 := ((hb1.of_append_left.of_append_right).of_append_right).of_append_right
   obtain ⟨l, s, e, hr, hs, hn⟩ := scan_form n (cutF b).2.1 (by omega) hbs
   refine ⟨(cutF b).1 :: l, s, ?_, ?_, hs, hn⟩
   ·
    rw [frames_cons, List.append_assoc, ← e]
    exact h1
   ·
    intro r hr'
    rcases List.mem_cons.1 hr' with rfl | hr'
    ·
     exact ⟨h2, hbr⟩
    ·
     exact hr r hr'
  ·
   exact ⟨[], b, by simp [frames], by simp, hb, ho⟩
theorem frames_length_ge (l : List (List Int)) (h : ∀ r ∈ l, r.length ≤ 65535) : 12 * l.length ≤ (frames l).length := by
 induction l with
 | nil => simp [frames]
 | cons r l ih =>
  have := ih (fun x hx => h x (by simp [hx]))
  rw [frames_cons, List.length_append, frame_length (h r (by simp)), List.length_cons]
  omega
theorem val4_turned {p : List Int} {x y : Int} {s : List Int} (h4 : (p ++ x :: s).length = 4) (hb : Bytes (p ++ x :: s)) (hc : Bytes (p ++ y :: s)) (hne : x ≠ y) (t u : List Int) : val4 (p ++ x :: s ++ t) ≠ val4 (p ++ y :: s ++ u) := by
 intro h
 have hb4 : (p ++ x :: s) = num (val4 (p ++ x :: s ++ t)) := by
  have hv : val4 (p ++ x :: s ++ t) = val4 (p ++ x :: s) := by
   obtain ⟨a, b, c, d, r, e⟩ := four_form (b := p ++ x :: s) (by omega)
   rw [e]; rfl
  rw [hv, num_val4 hb (by omega), List.take_of_length_le (by omega)]
 have hc4 : (p ++ y :: s) = num (val4 (p ++ y :: s ++ u)) := by
  have hl : (p ++ y :: s).length = 4 := by simpa using h4
  have hv : val4 (p ++ y :: s ++ u) = val4 (p ++ y :: s) := by
   obtain ⟨a, b, c, d, r, e⟩ := four_form (b := p ++ y :: s) (by omega)
   rw [e]; rfl
  rw [hv, num_val4 hc (by omega), List.take_of_length_le (by omega)]
 rw [h, ← hc4] at hb4
 have := List.append_cancel_left hb4
 exact hne (List.cons.inj this).1
def Turn (a b : List Int) : Prop := ∃ p x y s, a = p ++ x :: s ∧ b = p ++ y :: s ∧ x ≠ y
theorem Turn.set {a : List Int} {j : Nat} {y : Int} (hj : j < a.length) (hne : a[j]? ≠ some y) : Turn a (a.set j y) := by
 refine ⟨a.take j, a[j], y, a.drop (j + 1), ?_, ?_, fun e => hne (by rw [List.getElem?_eq_getElem hj, e])⟩
 ·
  rw [← List.drop_eq_getElem_cons hj, List.take_append_drop]
 ·
  rw [List.set_eq_take_append_cons_drop, if_pos hj]
theorem Turn.val4 {a b : List Int} (h : Turn a b) (h4 : a.length = 4) (ha : Bytes a) (hb : Bytes b) (t u : List Int) : Pl.val4 (a ++ t) ≠ Pl.val4 (b ++ u) := by
 obtain ⟨p, x, y, s, rfl, rfl, hne⟩ := h
 exact val4_turned h4 ha hb hne t u
theorem Turn.length {a b : List Int} (h : Turn a b) : b.length = a.length := by
 obtain ⟨p, x, y, s, rfl, rfl, _⟩ := h
 simp
end Go.Proofs.Ytclmooadpoojeaa.Pl
/- The reference's sameness. -/
namespace Go.Proofs.Ytclmooadpoojeaa.Pl
open Go.RowKit Go.Proofs.Ytclmooadpoojeaa.X Go.Proofs.YtclmooadpoojeaaW.PrintWords Go.Proofs.YtclmooadpoojeaaW.PrintLast Go.Proofs.YtclmooadpoojeaaW.PrintMore
theorem Same_eq {a b : List Int} (h : a = b) : shardlogref01_Same.f a b = some true := by
 unfold shardlogref01_Same.f
 rw [same_eq h]
end Go.Proofs.Ytclmooadpoojeaa.Pl
/- The reference's numbers at a place. -/
namespace Go.Proofs.Ytclmooadpoojeaa.Pl
open Go.RowKit Go.Proofs.Ytclmooadpoojeaa.X Go.Proofs.YtclmooadpoojeaaW.PrintWords Go.Proofs.YtclmooadpoojeaaW.PrintLast Go.Proofs.YtclmooadpoojeaaW.PrintMore
def numAt (b : List Int) (i : Nat) : Int := if b.length < i + 4 then -1 else val4 (b.drop i)
theorem rd_drop (b : List Int) (i j : Nat) : rd (b.drop i) (j : Int) = rd b ((i : Int) + (j : Int)) := by
 unfold rd
 rw [show ((i : Int) + (j : Int)).toNat = i + j by omega, Int.toNat_natCast]
 simp [List.getD_eq_getElem?_getD, List.getElem?_drop]
theorem rd_byte {b : List Int} (hb : Bytes b) (i : Int) : 0 ≤ rd b i ∧ rd b i < 256 := by
 unfold rd
 rw [List.getD_eq_getElem?_getD]
 by_cases h : i.toNat < b.length
 ·
  rw [List.getElem?_eq_getElem h]
  exact hb _ (List.getElem_mem h)
 ·
  rw [List.getElem?_eq_none (by omega)]
  exact ⟨by decide, by decide⟩
theorem val4_at (b : List Int) (i : Nat) : val4 (b.drop i) = 16777216 * rd b i + 65536 * rd b ((i : Int) + 1) + 256 * rd b ((i : Int) + 2) + rd b ((i : Int) + 3) := by
 unfold val4
 have h0 : rd (b.drop i) 0 = rd b i := by simpa using rd_drop b i 0
 have h1 := rd_drop b i 1
 have h2 := rd_drop b i 2
 have h3 := rd_drop b i 3
 rw [show ((1 : Nat) : Int) = 1 from rfl] at h1
 rw [show ((2 : Nat) : Int) = 2 from rfl] at h2
 rw [show ((3 : Nat) : Int) = 3 from rfl] at h3
 rw [h0, h1, h2, h3]
theorem At_eq {b : List Int} (hb : Bytes b) (_hl : b.length ≤ 140737488355328) {i : Nat} (hi : i ≤ 140737488355328) : shardlogref01_At.f b (i : Int) = some (numAt b i) := by
 have w4 : wrap64 ((i : Int) + 4) = (i : Int) + 4 := w64 (by omega) (by omega)
 have w1 : wrap64 ((i : Int) + 1) = (i : Int) + 1 := w64 (by omega) (by omega)
 have w2 : wrap64 ((i : Int) + 2) = (i : Int) + 2 := w64 (by omega) (by omega)
 have w3 : wrap64 ((i : Int) + 3) = (i : Int) + 3 := w64 (by omega) (by omega)
 unfold shardlogref01_At.f numAt
 rw [w4, w1, w2, w3]
 by_cases h : b.length < i + 4
 ·
  rw [if_pos (by omega), if_pos h]
 ·
  rw [if_neg (by omega), if_neg h, if_pos (by omega), if_pos (by omega), if_pos (by omega), if_pos (by omega), if_pos (by omega), if_pos (by omega), if_pos (by omega), if_pos (by omega), val4_at]
  obtain ⟨a0, b0⟩ := rd_byte hb (i : Int)
  obtain ⟨a1, b1⟩ := rd_byte hb ((i : Int) + 1)
  obtain ⟨a2, b2⟩ := rd_byte hb ((i : Int) + 2)
  obtain ⟨a3, b3⟩ := rd_byte hb ((i : Int) + 3)
  rw [w64 (x := rd b (i : Int)) (by omega) (by omega), w64 (x := rd b ((i : Int) + 1)) (by omega) (by omega), w64 (x := rd b ((i : Int) + 2)) (by omega) (by omega), w64 (x := rd b ((i : Int) + 3)) (by omega) (by omega)]
  rw [w64 (x := 16777216 * rd b (i : Int)) (by omega) (by omega), w64 (x := 65536 * rd b ((i : Int) + 1)) (by omega) (by omega), w64 (x := 256 * rd b ((i : Int) + 2)) (by omega) (by omega)]
  rw [w64 (x := 16777216 * rd b (i : Int) + 65536 * rd b ((i : Int) + 1)) (by omega) (by omega), w64 (x := 16777216 * rd b (i : Int) + 65536 * rd b ((i : Int) + 1) + 256 * rd b ((i : Int) + 2)) (by omega) (by omega), w64 (by omega) (by omega)]
end Go.Proofs.Ytclmooadpoojeaa.Pl
/- The reference's checksum answers the plain one. -/
namespace Go.Proofs.Ytclmooadpoojeaa.Pl
open Go.RowKit Go.Proofs.Ytclmooadpoojeaa.X Go.Proofs.YtclmooadpoojeaaW.PrintWords Go.Proofs.YtclmooadpoojeaaW.PrintLast Go.Proofs.YtclmooadpoojeaaW.PrintMore
theorem rd_at2 (l : List Int) (i : Nat) (h : i < l.length) : rd l (i : Int) = l[i] := by
 simp [rd, List.getD_eq_getElem?_getD, List.getElem?_eq_getElem h]
theorem ref_Sum_l1 (l : List Int) (i : Nat) {r : Int} (m : Nat) : ∀ (j w : Nat), j + m = 8 → w < 4294967296 →
  Ev (fun k => shardlogref02_Sum.l0 k l ((goN m w : Nat) : Int) (wrap64 ((i : Int) + 1))) r → Ev (fun k => shardlogref02_Sum.l1 k l (w : Int) (i : Int) (j : Int)) r := by
 induction m with
 | zero =>
  intro j w hj hw h
  refine Ev.step (fun k => ?_) h
  simp only [shardlogref02_Sum.l1]
  rw [if_neg (by omega)]
  rfl
 | succ m ih =>
  intro j w hj hw h
  refine Ev.step (f := fun k => shardlogref02_Sum.l1 k l ((bitN w : Nat) : Int) (i : Int) ((j + 1 : Nat) : Int)) (fun k => ?_) (ih (j + 1) (bitN w) (by omega) (bitN_lt hw) h)
  have ht : Int.tmod (w : Int) 2 = ((w % 2 : Nat) : Int) := by rw [Int.tmod_eq_emod_of_nonneg (by omega)]; omega
  have hd : Int.tdiv (w : Int) 2 % 4294967296 = ((w / 2 : Nat) : Int) := by rw [Int.tdiv_eq_ediv_of_nonneg (by omega)]; omega
  simp only [shardlogref02_Sum.l1]
  rw [if_pos (by omega), ht, hd, w64 (by omega) (by omega)]
  unfold bitN
  by_cases h1 : w % 2 = 1
  ·
   rw [if_pos (by omega), if_pos h1, show Go.bits .xor .u32 ((w / 2 : Nat) : Int) 2197175160 = ((w / 2 ^^^ 2197175160 : Nat) : Int) from bits_xor32 (a := w / 2) (b := 2197175160) (by omega) (by omega)]
   rfl
  ·
   rw [if_neg (by omega), if_neg h1]
   rfl
theorem ref_Sum_l0 {l : List Int} (hb : Bytes l) (hl : l.length ≤ 140737488355328) (d : Nat) : ∀ (i w : Nat), i ≤ l.length → l.length - i = d → w < 4294967296 →
  Ev (fun k => shardlogref02_Sum.l0 k l (w : Int) (i : Int)) ((4294967295 - crcN w (l.drop i) : Nat) : Int) := by
 induction d with
 | zero =>
  intro i w hi hd hw
  rw [List.drop_eq_nil_of_le (by omega)]
  refine Ev.step (f := fun _ => some ((4294967295 - w : Nat) : Int)) (fun k => ?_) (Ev.now _)
  simp only [shardlogref02_Sum.l0]
  rw [if_neg (by omega)]
  congr 1
  omega
 | succ d ih =>
  intro i w hi hd hw
  have h1 : i < l.length := by omega
  have hc := hb _ (List.getElem_mem h1)
  have hc1 : l[i] % 4294967296 = (((l[i]).toNat : Nat) : Int) := by omega
  have hc2 : (l[i]).toNat < 4294967296 := by omega
  have hx : w ^^^ (l[i]).toNat < 4294967296 := Nat.xor_lt_two_pow (n := 32) hw hc2
  rw [List.drop_eq_getElem_cons h1]
  have hn := ih (i + 1) (stepN w (l[i]).toNat) (by omega) (by omega) (stepN_lt hw (by omega))
  refine Ev.step (f := fun k => shardlogref02_Sum.l1 k l ((w ^^^ (l[i]).toNat : Nat) : Int) (i : Int) ((0 : Nat) : Int)) (fun k => ?_) (ref_Sum_l1 l i 8 0 _ (by omega) hx ?_)
  ·
   simp only [shardlogref02_Sum.l0]
   rw [if_pos (by omega), if_pos (by omega), rd_at2 _ _ h1, hc1, bits_xor32 hw hc2]
   rfl
  ·
   rw [w64 (by omega) (by omega)]
   exact hn
theorem ref_Sum_ev {l : List Int} (hb : Bytes l) (hl : l.length ≤ 140737488355328) : Ev (fun k => shardlogref02_Sum.f k l) (crcSum l) := by
 unfold shardlogref02_Sum.f
 have h := ref_Sum_l0 hb hl l.length 0 4294967295 (by omega) (by omega) (by omega)
 rw [List.drop_zero, ← crcSum_def] at h
 exact h
end Go.Proofs.Ytclmooadpoojeaa.Pl
/- The reference's frames, scanned. -/
namespace Go.Proofs.Ytclmooadpoojeaa.Pl
open Go.RowKit Go.Proofs.Ytclmooadpoojeaa.X Go.Proofs.YtclmooadpoojeaaW.PrintWords Go.Proofs.YtclmooadpoojeaaW.PrintLast Go.Proofs.YtclmooadpoojeaaW.PrintMore
theorem drop_mid (b : List Int) (i j m : Nat) : (b.take (i + j + m)).drop (i + j) = ((b.drop i).drop j).take m := by
 rw [List.drop_drop, List.drop_take]
 congr 1
 omega
theorem ref_Scan_stop {acc : List (List Int)} {p s : List Int} (hp : Bytes p) (hs : Bytes s) (ho : ¬ okF s) (hl : (p ++ s).length ≤ 1000000) : Ev (fun k => shardlogref06_Scan.l0 k (p ++ s) acc (p.length : Int)) (acc, (p.length : Int)) := by
 have hb : Bytes (p ++ s) := hp.append hs
 have jt : ∀ n, Ev (fun k => shardlogref06_Scan.j1 k (p ++ s) acc (p.length : Int) n true) (acc, (p.length : Int)) := fun n => Ev.step (fun k => by simp only [shardlogref06_Scan.j1, if_true]) (Ev.now _)
 have hlen : (p ++ s).length = p.length + s.length := List.length_append
 have hd : (p ++ s).drop p.length = s := List.drop_left
 have a0 := At_eq (i := p.length) hb (by omega) (by omega)
 have a4 := At_eq (i := p.length + 4) hb (by omega) (by omega)
 have a8 := At_eq (i := p.length + 8) hb (by omega) (by omega)
 unfold numAt at a0 a4 a8
 rw [hd] at a0
 rw [← List.drop_drop, hd] at a4 a8
 have w12 : wrap64 ((p.length : Int) + 12) = (p.length : Int) + 12 := w64 (by omega) (by omega)
 have w4 : wrap64 ((p.length : Int) + 4) = ((p.length + 4 : Nat) : Int) := by rw [w64 (by omega) (by omega)]; omega
 have w8 : wrap64 ((p.length : Int) + 8) = ((p.length + 8 : Nat) : Int) := by rw [w64 (by omega) (by omega)]; omega
 refine Ev.step (fun k => by simp only [shardlogref06_Scan.l0]; rfl) (Ev.bind (Ev.eq a0) ?_)
 by_cases h4 : (p ++ s).length < p.length + 4
 ·
  rw [if_pos h4]
  exact Ev.pos (by decide) (jt _)
 rw [if_neg h4]
 obtain ⟨g0, g1⟩ := val4_nonneg hs (by omega)
 refine Ev.neg (by omega) ?_
 by_cases h1 : val4 s > 65535
 ·
  exact Ev.pos h1 (jt _)
 refine Ev.neg h1 ?_
 have wn : wrap64 ((p.length : Int) + 12 + val4 s) = (p.length : Int) + 12 + val4 s := w64 (by omega) (by omega)
 rw [w12, wn]
 by_cases h2 : (p.length : Int) + 12 + val4 s > ((p ++ s).length : Int)
 ·
  rw [decide_eq_true h2]
  exact jt _
 rw [decide_eq_false h2]
 have hm := drop_mid (p ++ s) p.length 12 (val4 s).toNat
 rw [hd] at hm
 have hm4 := drop_mid (p ++ s) p.length 0 4
 rw [hd, List.drop_zero] at hm4
 have e1 : ((p.length : Int) + 12 + val4 s).toNat = p.length + 12 + (val4 s).toNat := by omega
 have e2 : ((p.length : Int) + 12).toNat = p.length + 12 := by omega
 have e3 : (((p.length + 4 : Nat) : Int)).toNat = p.length + 0 + 4 := by omega
 have e4 : ((p.length : Int)).toNat = p.length + 0 := by omega
 have c0 : 0 ≤ (p.length : Int) + 12 ∧ (p.length : Int) + 12 ≤ (p.length : Int) + 12 + val4 s ∧ (p.length : Int) + 12 + val4 s ≤ ((p ++ s).length : Int) := by omega
 have c3 : 0 ≤ (p.length : Int) ∧ (p.length : Int) ≤ ((p.length + 4 : Nat) : Int) ∧ ((p.length + 4 : Nat) : Int) ≤ ((p ++ s).length : Int) := by omega
 refine Ev.step (fun k => by simp only [shardlogref06_Scan.j1, Bool.false_eq_true, if_false, w12, wn, w4, w8, e1, e2, e3, e4, hm, hm4]; rfl) ?_
 refine Ev.pos c0.1 (Ev.pos c0.2.1 (Ev.pos c0.2.2 (Ev.bind (Ev.now _) ?_)))
 refine Ev.bind (Ev.eq a4) (Ev.pos c3.1 (Ev.pos c3.2.1 (Ev.pos c3.2.2 ?_)))
 rw [if_neg (by omega)]
 obtain ⟨x0, x1⟩ := crcSum_in (s.take 4)
 obtain ⟨y0, y1⟩ := crcSum_in ((s.drop 12).take (val4 s).toNat)
 refine Ev.bind (ref_Sum_ev (hs.take 4) (by rw [List.length_take]; omega)) ?_
 rw [w64 (by omega) (by omega)]
 by_cases c1 : val4 (s.drop 4) = crcSum (s.take 4)
 ·
  refine Ev.pos c1 (Ev.bind (Ev.eq a8) (Ev.bind (ref_Sum_ev ((hs.drop 12).take _) (by rw [List.length_take, List.length_drop]; omega)) ?_))
  rw [if_neg (by omega), w64 (by omega) (by omega)]
  by_cases c2 : val4 (s.drop 8) = crcSum ((s.drop 12).take (val4 s).toNat)
  ·
   exact absurd ⟨by omega, by omega, by omega, c1, c2⟩ ho
  ·
   exact Ev.neg c2 (Ev.now _)
 ·
  exact Ev.neg c1 (Ev.now _)
theorem wrap_crc (l : List Int) : wrap64 (crcSum l) = crcSum l := by
 obtain ⟨h0, h1⟩ := crcSum_in l
 exact w64 (by omega) (by omega)
theorem scan_nums {n m L a q : Nat} (hL : L = n + (12 + m + q)) (hl : L ≤ 1000000) (hm : m ≤ 65535) (ha : a ≤ 1000000) :
  (wrap64 ((n : Int) + 12) = (n : Int) + 12 ∧ wrap64 ((n : Int) + 4) = ((n + 4 : Nat) : Int) ∧ wrap64 ((n : Int) + 8) = ((n + 8 : Nat) : Int) ∧ wrap64 ((n : Int) + 12 + (m : Int)) = (n : Int) + 12 + m)
  ∧ (((n : Int) + 12 + (m : Int)).toNat = n + 12 + m ∧ ((n : Int) + 12).toNat = n + 12 ∧ (((n + 4 : Nat) : Int)).toNat = n + 0 + 4 ∧ ((n : Int)).toNat = n + 0)
  ∧ (0 ≤ (n : Int) + 12 ∧ (n : Int) + 12 ≤ (n : Int) + 12 + m ∧ (n : Int) + 12 + m ≤ (L : Int))
  ∧ (0 ≤ (n : Int) ∧ (n : Int) ≤ ((n + 4 : Nat) : Int) ∧ ((n + 4 : Nat) : Int) ≤ (L : Int))
  ∧ (¬ (m : Int) < 0 ∧ ¬ (m : Int) > 65535 ∧ ¬ (n : Int) + 12 + m > (L : Int))
  ∧ (0 + m < 140737488355328 ∧ a < 5864062014805) ∧ ((n : Int) + 12 + (m : Int) = ((n + (12 + m) : Nat) : Int))
  ∧ (¬ L < n + 4 ∧ ¬ L < n + 4 + 4 ∧ ¬ L < n + 8 + 4) ∧ (n ≤ 140737488355328 ∧ n + 4 ≤ 140737488355328 ∧ n + 8 ≤ 140737488355328 ∧ L ≤ 140737488355328 ∧ m ≤ 140737488355328) := by
 refine ⟨⟨w64 (by omega) (by omega), ?_, ?_, w64 (by omega) (by omega)⟩, by omega, by omega, by omega, by omega, by omega, by omega, by omega, by omega⟩
 ·
  rw [w64 (by omega) (by omega)]; omega
 ·
  rw [w64 (by omega) (by omega)]; omega
theorem ref_Scan_one {acc : List (List Int)} {p r t : List Int} {x : List (List Int) × Int} (hp : Bytes p) (hr1 : r.length ≤ 65535) (hr2 : Bytes r) (ht : Bytes t) (hl : (p ++ (frame r ++ t)).length ≤ 1000000) (ha : acc.length ≤ 1000000)
  (h : Ev (fun k => shardlogref06_Scan.l0 k (p ++ (frame r ++ t)) (acc ++ [r]) ((p.length + (12 + r.length) : Nat) : Int)) x) : Ev (fun k => shardlogref06_Scan.l0 k (p ++ (frame r ++ t)) acc (p.length : Int)) x := by
 have hb : Bytes (p ++ (frame r ++ t)) := hp.append ((bytes_frame hr2).append ht)
 have hf := frame_length hr1
 have hlen : (p ++ (frame r ++ t)).length = p.length + (12 + r.length + t.length) := by rw [List.length_append, List.length_append, hf]
 obtain ⟨⟨w12, w4, w8, wn⟩, ⟨e1, e2, e3, e4⟩, c0, c3, c6, c9, e5, c7, c8⟩ := scan_nums hlen hl hr1 ha
 have nl2 : (num r.length).length ≤ 140737488355328 := Nat.le_trans (num_length_le r.length) (by decide)
 have hd : (p ++ (frame r ++ t)).drop p.length = frame r ++ t := List.drop_left
 obtain ⟨v0, t4, v4, v8, d12⟩ := frame_parts hr1 t
 have a0 := At_eq (i := p.length) hb c8.2.2.2.1 c8.1
 have a4 := At_eq (i := p.length + 4) hb c8.2.2.2.1 c8.2.1
 have a8 := At_eq (i := p.length + 8) hb c8.2.2.2.1 c8.2.2.1
 unfold numAt at a0 a4 a8
 rw [hd, if_neg c7.1, v0] at a0
 rw [← List.drop_drop, hd, if_neg c7.2.1, v4] at a4
 rw [← List.drop_drop, hd, if_neg c7.2.2, v8] at a8
 have hm := drop_mid (p ++ (frame r ++ t)) p.length 12 r.length
 rw [hd, d12, List.take_left (l₁ := r) (l₂ := t)] at hm
 have hm4 := drop_mid (p ++ (frame r ++ t)) p.length 0 4
 rw [hd, List.drop_zero, t4] at hm4
 refine Ev.step (fun k => by simp only [shardlogref06_Scan.l0]; rfl) (Ev.bind (Ev.eq a0) ?_)
 refine Ev.neg c6.1 (Ev.neg c6.2.1 ?_)
 rw [w12, wn, decide_eq_false c6.2.2]
 refine Ev.step (fun k => by simp only [shardlogref06_Scan.j1, Bool.false_eq_true, if_false, w12, wn, w4, w8, e1, e2, e3, e4, hm, hm4]; rfl) ?_
 refine Ev.pos c0.1 (Ev.pos c0.2.1 (Ev.pos c0.2.2 (Ev.bind (Ev.now _) ?_)))
 refine Ev.bind (Ev.eq a4) (Ev.pos c3.1 (Ev.pos c3.2.1 (Ev.pos c3.2.2 ?_)))
 refine Ev.bind (ref_Sum_ev (bytes_num _) nl2) ?_
 refine Ev.pos (wrap_crc _).symm (Ev.bind (Ev.eq a8) (Ev.bind (ref_Sum_ev hr2 c8.2.2.2.2) ?_))
 refine Ev.pos (wrap_crc _).symm (Ev.bind (Ev.now _) (Ev.pos c9.1 (Ev.pos c9.2 ?_)))
 rw [List.nil_append, e5]
 exact h
theorem ref_Scan_l0 : ∀ (l acc : List (List Int)) (p s : List Int), Bytes p → (∀ r ∈ l, r.length ≤ 65535 ∧ Bytes r) → Bytes s → ¬ okF s → (p ++ (frames l ++ s)).length ≤ 1000000 → acc.length + l.length ≤ 1000000 →
  Ev (fun k => shardlogref06_Scan.l0 k (p ++ (frames l ++ s)) acc (p.length : Int)) (acc ++ l, (p.length : Int) + (frames l).length)
 | [], acc, p, s, hp, _, hs, ho, hl, _ => by
  rw [frames_nil, List.nil_append] at hl ⊢
  exact (ref_Scan_stop hp hs ho hl).to (by simp)
 | r :: l, acc, p, s, hp, hr, hs, ho, hl, ha => by
  obtain ⟨hr1, hr2⟩ := hr r (by simp)
  have hf := frame_length hr1
  have hr' : ∀ z ∈ l, z.length ≤ 65535 ∧ Bytes z := fun x hx => hr x (by simp [hx])
  rw [frames_cons, List.append_assoc] at hl ⊢
  simp only [List.length_cons] at ha
  refine ref_Scan_one hp hr1 hr2 ((bytes_frames (fun x hx => (hr' x hx).2)).append hs) hl (by omega) ?_
  have := ref_Scan_l0 l (acc ++ [r]) (p ++ frame r) s (hp.append (bytes_frame hr2)) hr' hs ho (by rw [List.append_assoc]; exact hl) (by rw [List.length_append]; simp only [List.length_cons, List.length_nil]; omega)
  rw [List.append_assoc, List.append_assoc, List.length_append, hf] at this
  exact this.to (by rw [List.singleton_append, List.length_append, hf]; congr 1; omega)
theorem ref_FScan_ev {l : List (List Int)} {s : List Int} (hr : ∀ r ∈ l, r.length ≤ 65535 ∧ Bytes r) (hs : Bytes s) (ho : ¬ okF s) (hl : (frames l ++ s).length ≤ 1000000) : Ev (fun k => shardlogref06_Scan.f k (frames l ++ s)) (l, ((frames l).length : Int)) := by
 have h12 := frames_length_ge l (fun r hr' => (hr r hr').1)
 unfold shardlogref06_Scan.f
 have := ref_Scan_l0 l [] [] s Bytes.nil hr hs ho hl (by rw [List.length_append] at hl; simp only [List.length_nil]; omega)
 exact this.to (by simp)
end Go.Proofs.Ytclmooadpoojeaa.Pl
/- Plain laws of the order of cells: no program in sight. -/
namespace Go.Proofs.Ytclmooadpoojeaa.Pl
open Go.RowKit Go.Proofs.YtclmooadpoojeaaW.PrintWords Go.Proofs.YtclmooadpoojeaaW.PrintMore
def cmpB : List UInt8 → List UInt8 → Int
 | [], [] => 0
 | [], _ :: _ => -1
 | _ :: _, [] => 1
 | x :: a, y :: b => if x < y then -1 else if y < x then 1 else cmpB a b
theorem u8_eq {x y : UInt8} (h : ¬ x < y) (h2 : ¬ y < x) : x = y := UInt8.le_antisymm (UInt8.not_lt.1 h2) (UInt8.not_lt.1 h)
theorem cmpB_less : ∀ a b : List UInt8, cmpB a b = if Op.bytesLess a b = true then -1 else if Op.bytesLess b a = true then 1 else 0
 | [], [] => rfl
 | [], _ :: _ => rfl
 | _ :: _, [] => rfl
 | x :: a, y :: b => by
  have ih := cmpB_less a b
  by_cases h1 : x < y
  ·
   simp [cmpB, Op.bytesLess, h1]
  ·
   by_cases h2 : y < x
   ·
    have h3 : ¬ x = y := fun h => by rw [h] at h2; exact UInt8.lt_irrefl y h2
    simp [cmpB, Op.bytesLess, h1, h2, h3]
   ·
    have h3 := u8_eq h1 h2
    subst h3
    simp only [cmpB, Op.bytesLess, h1, decide_false, Bool.false_or, beq_self_eq_true, Bool.true_and]
    exact ih
theorem cmpB_in : ∀ a b : List UInt8, cmpB a b = -1 ∨ cmpB a b = 0 ∨ cmpB a b = 1
 | [], [] => .inr (.inl rfl)
 | [], _ :: _ => .inl rfl
 | _ :: _, [] => .inr (.inr rfl)
 | x :: a, y :: b => by
  unfold cmpB
  split
  ·
   exact .inl rfl
  ·
   split
   ·
    exact .inr (.inr rfl)
   ·
    exact cmpB_in a b
theorem cmpB_zero : ∀ {a b : List UInt8}, cmpB a b = 0 ↔ a = b
 | [], [] => by simp [cmpB]
 | [], _ :: _ => by simp [cmpB]
 | _ :: _, [] => by simp [cmpB]
 | x :: a, y :: b => by
  have ih := cmpB_zero (a := a) (b := b)
  unfold cmpB
  by_cases h1 : x < y
  ·
   rw [if_pos h1]
   have h3 : ¬ x = y := fun h => by rw [h] at h1; exact UInt8.lt_irrefl y h1
   simp [h3]
  ·
   rw [if_neg h1]
   by_cases h2 : y < x
   ·
    rw [if_pos h2]
    have h3 : ¬ x = y := fun h => by rw [h] at h2; exact UInt8.lt_irrefl y h2
    simp [h3]
   ·
    rw [if_neg h2, u8_eq h1 h2, ih]
    simp
def cmpT (a b : ByteArray) : Int := cmpB a.toList b.toList
def cmpN (a b : Int) : Int := if a < b then -1 else if b < a then 1 else 0
theorem cmpT_in (a b : ByteArray) : cmpT a b = -1 ∨ cmpT a b = 0 ∨ cmpT a b = 1 := cmpB_in _ _
theorem cmpN_in (a b : Int) : cmpN a b = -1 ∨ cmpN a b = 0 ∨ cmpN a b = 1 := by
 unfold cmpN
 split
 ·
  exact .inl rfl
 ·
  split
  ·
   exact .inr (.inr rfl)
  ·
   exact .inr (.inl rfl)
def cmpC (r c : ByteArray) (t : Int) (r' c' : ByteArray) (t' : Int) : Int := if cmpT r r' = 0 then (if cmpT c c' = 0 then cmpN t' t else cmpT c c') else cmpT r r'
theorem cmpC_in (r c t r' c' t') : cmpC r c t r' c' t' = -1 ∨ cmpC r c t r' c' t' = 0 ∨ cmpC r c t r' c' t' = 1 := by
 unfold cmpC
 split
 ·
  split
  ·
   exact cmpN_in _ _
  ·
   exact cmpT_in _ _
 ·
  exact cmpT_in _ _
end Go.Proofs.Ytclmooadpoojeaa.Pl
/- A cell as it may be: no program in sight. -/
namespace Go.Proofs.Ytclmooadpoojeaa.Pl
open Go.RowKit Go.Proofs.YtclmooadpoojeaaW.PrintWords Go.Proofs.YtclmooadpoojeaaW.PrintMore
def cellRight (r c : ByteArray) (t : Int) (v : ByteArray) (g : Bool) : Bool := decide (1 ≤ r.size ∧ r.size ≤ 64 ∧ 1 ≤ c.size ∧ c.size ≤ 64 ∧ 0 ≤ t ∧ t ≤ 4294967295 ∧ v.size ≤ 256 ∧ (g = false ∨ v.size = 0))
theorem cellRight_iff {r c : ByteArray} {t : Int} {v : ByteArray} {g : Bool} : cellRight r c t v g = true ↔ 1 ≤ r.size ∧ r.size ≤ 64 ∧ 1 ≤ c.size ∧ c.size ≤ 64 ∧ 0 ≤ t ∧ t ≤ 4294967295 ∧ v.size ≤ 256 ∧ (g = false ∨ v.size = 0) := by unfold cellRight; exact decide_eq_true_iff
theorem toList_nil {v : ByteArray} : (v.toList == ([] : List UInt8)) = decide (v.size = 0) := by
 rw [Bool.eq_iff_iff, beq_iff_eq, decide_eq_true_iff, size_zero_iff]
 constructor
 ·
  intro h
  exact toList_inj (h.trans (by simp [ByteArray.toList_eq]))
 ·
  rintro rfl
  simp [ByteArray.toList_eq]
theorem some_bool {c d : Bool} (h : c = true ↔ d = true) : some c = some d := by rw [Option.some.injEq, Bool.eq_iff_iff, h]
end Go.Proofs.Ytclmooadpoojeaa.Pl
/- Whether a cell is right: the printed function answers the plain one. -/
namespace Go.Proofs.Ytclmooadpoojeaa.Pl
open Go.RowKit Go.Proofs.Ytclmooadpoojeaa.X Go.Proofs.YtclmooadpoojeaaW.PrintWords Go.Proofs.YtclmooadpoojeaaW.PrintLast Go.Proofs.YtclmooadpoojeaaW.PrintMore
theorem cell_name_eq (s : ByteArray) : cell_name.f s = some (decide (1 ≤ s.size ∧ s.size ≤ 64)) := by
 unfold cell_name.f
 by_cases h : s.size ≥ 1
 ·
  rw [if_pos (by omega)]
  congr 1
  rw [decide_eq_decide]
  omega
 ·
  rw [if_neg (by omega)]
  congr 1
  symm
  rw [decide_eq_false_iff_not]
  omega
theorem cell_Right_eq (r c : ByteArray) (t : Int) (v : ByteArray) (g : Bool) : cell_Right.f r c t v g = some (cellRight r c t v g) := by
 unfold cell_Right.f
 simp only [cell_name_eq, Option.bind_some, decide_eq_true_eq, toList_nil]
 split
 ·
  split
  ·
   split
   ·
    split
    ·
     split
     ·
      split
      ·
       exact some_bool (by rename_i h; rw [cellRight_iff, decide_eq_true_iff]; exact ⟨fun hz => ⟨by omega, by omega, by omega, by omega, by omega, by omega, by omega, .inr hz⟩, fun hh => hh.2.2.2.2.2.2.2.elim (fun e => by rw [h] at e; cases e) id⟩)
      ·
       exact some_bool (by rename_i h; rw [cellRight_iff]; exact ⟨fun _ => ⟨by omega, by omega, by omega, by omega, by omega, by omega, by omega, .inl (by simpa using h)⟩, fun _ => rfl⟩)
     ·
      exact some_bool (by rw [cellRight_iff]; simp only [Bool.false_eq_true, false_iff]; omega)
    ·
     exact some_bool (by rw [cellRight_iff]; simp only [Bool.false_eq_true, false_iff]; omega)
   ·
    exact some_bool (by rw [cellRight_iff]; simp only [Bool.false_eq_true, false_iff]; omega)
  ·
   exact some_bool (by rw [cellRight_iff]; simp only [Bool.false_eq_true, false_iff]; omega)
 ·
  exact some_bool (by rw [cellRight_iff]; simp only [Bool.false_eq_true, false_iff]; omega)
end Go.Proofs.Ytclmooadpoojeaa.Pl
/- The printed order of cells answers the plain one. -/
namespace Go.Proofs.Ytclmooadpoojeaa.Pl
open Go.RowKit Go.Proofs.Ytclmooadpoojeaa.X Go.Proofs.YtclmooadpoojeaaW.PrintWords Go.Proofs.YtclmooadpoojeaaW.PrintLast Go.Proofs.YtclmooadpoojeaaW.PrintMore
theorem cmpString_eq (a b : ByteArray) : cmp_Compare_string.f a b = some (cmpT a b) := by
 unfold cmp_Compare_string.f cmp_isNaN_string.f cmpT
 rw [cmpB_less]
 simp only [Option.bind_some, bne_self_eq_false, Bool.false_eq_true, if_false]
 split
 ·
  rfl
 ·
  split <;> rfl
theorem cmpInt_eq (a b : Int) : cmp_Compare_int.f a b = some (cmpN a b) := by
 unfold cmp_Compare_int.f cmp_isNaN_int.f cmpN
 simp only [Option.bind_some, bne_self_eq_false, Bool.false_eq_true, if_false]
 split
 ·
  rfl
 ·
  split <;> rfl
theorem cmpOr_ev (a b c : Int) : Ev (fun k => cmp_Or_int.f k [a, b, c]) (if a = 0 then (if b = 0 then c else b) else a) := by
 unfold cmp_Or_int.f
 have hl : (([a, b, c] : List Int).length : Int) = 3 := rfl
 rw [hl]
 by_cases ha : a = 0
 ·
  rw [if_pos ha]
  refine Ev.step (f := fun k => cmp_Or_int.l0 k 0 [a, b, c] 3 1) (fun k => ?_) ?_
  ·
   simp only [cmp_Or_int.l0, hl]
   rw [if_pos (by omega), if_pos (by omega), if_pos (by omega), show rd [a, b, c] 0 = a from rfl, if_pos ha, w64 (by omega) (by omega)]
   rfl
  by_cases hb : b = 0
  ·
   rw [if_pos hb]
   refine Ev.step (f := fun k => cmp_Or_int.l0 k 0 [a, b, c] 3 2) (fun k => ?_) ?_
   ·
    simp only [cmp_Or_int.l0, hl]
    rw [if_pos (by omega), if_pos (by omega), if_pos (by omega), show rd [a, b, c] 1 = b from rfl, if_pos hb, w64 (by omega) (by omega)]
    rfl
   by_cases hc : c = 0
   ·
    refine Ev.step (f := fun k => cmp_Or_int.l0 k 0 [a, b, c] 3 3) (fun k => ?_) ?_
    ·
     simp only [cmp_Or_int.l0, hl]
     rw [if_pos (by omega), if_pos (by omega), if_pos (by omega), show rd [a, b, c] 2 = c from rfl, if_pos hc, w64 (by omega) (by omega)]
     rfl
    refine Ev.step (f := fun _ => some 0) (fun k => ?_) ((Ev.now 0).to hc.symm)
    simp only [cmp_Or_int.l0]
    rw [if_neg (by omega)]
   ·
    refine Ev.step (f := fun _ => some c) (fun k => ?_) (Ev.now _)
    simp only [cmp_Or_int.l0, hl]
    rw [if_pos (by omega), if_pos (by omega), if_pos (by omega), show rd [a, b, c] 2 = c from rfl, if_neg hc]
  ·
   rw [if_neg hb]
   refine Ev.step (f := fun _ => some b) (fun k => ?_) (Ev.now _)
   simp only [cmp_Or_int.l0, hl]
   rw [if_pos (by omega), if_pos (by omega), if_pos (by omega), show rd [a, b, c] 1 = b from rfl, if_neg hb]
 ·
  rw [if_neg ha]
  refine Ev.step (f := fun _ => some a) (fun k => ?_) (Ev.now _)
  simp only [cmp_Or_int.l0, hl]
  rw [if_pos (by omega), if_pos (by omega), if_pos (by omega), show rd [a, b, c] 0 = a from rfl, if_neg ha]
theorem cell_Compare_ev (r c : ByteArray) (t : Int) (v : ByteArray) (g : Bool) (r' c' : ByteArray) (t' : Int) (v' : ByteArray) (g' : Bool) : Ev (fun k => cell_Compare.f k r c t v g r' c' t' v' g') (cmpC r c t r' c' t') := by
 unfold cell_Compare.f
 simp only [cmpString_eq, cmpInt_eq, Option.bind_some]
 exact Ev.bind (cmpOr_ev _ _ _) (Ev.now _)
end Go.Proofs.Ytclmooadpoojeaa.Pl
/- The printed functions of wire for numbers answer what the plain ones do. -/
namespace Go.Proofs.Ytclmooadpoojeaa.Pl
open Go.RowKit Go.Proofs.Ytclmooadpoojeaa.X Go.Proofs.YtclmooadpoojeaaW.PrintWords Go.Proofs.YtclmooadpoojeaaW.PrintLast Go.Proofs.YtclmooadpoojeaaW.PrintMore

theorem wire_Num_eq (n : Int) : wire_Num.f n = some (num n) := by
 unfold wire_Num.f num
 split
 ·
  rfl
 ·
  split
  ·
   rfl
  ·
   rfl
theorem clone_eq {l : List Int} (h : l.length ≤ 140737488355328) : slices_Clone_byte_byte.f l = some l := by
 unfold slices_Clone_byte_byte.f
 rw [if_pos (by omega)]
theorem or8 {x c : Int} (h0 : 0 ≤ x) (h1 : x < 16777216) (h2 : 0 ≤ c) (h3 : c < 256) : Go.bits .or .i64 (wrap64 (x * 256)) (wrap64 c) = x * 256 + c := by
 rw [w64 (by omega) (by omega), w64 (by omega) (by omega)]
 have hw : ∀ n : Int, 0 ≤ n → n < 2 ^ 32 → IntKind.i64.wrap n = n := by
  intro n h4 h5
  rw [IntKind.wrap_i64]
  omega
 exact bits_join .i64 32 (by decide) hw 8 (x * 256) c (by omega) (by omega) (by omega) h2 (by omega) (by omega)
theorem wire_CutNum_ev {b : List Int} (hb : Bytes b) (hl : b.length ≤ 140737488355328) : Ev (fun k => wire_CutNum.f k b) (cutNum b) := by
 unfold wire_CutNum.f cutNum
 by_cases h4 : b.length < 4
 ·
  rw [if_pos h4]
  exact Ev.pos (by omega) (Ev.now _)
 ·
  rw [if_neg h4]
  refine Ev.neg (by omega) (Ev.pos (by omega) (Ev.bind (Ev.now _) ?_))
  obtain ⟨x0, x1, x2, x3, r, rfl⟩ := four_form (b := b) (by omega)
  ·
   clear h4
   obtain ⟨a0, b0⟩ := hb x0 (by simp)
   obtain ⟨a1, b1⟩ := hb x1 (by simp)
   obtain ⟨a2, b2⟩ := hb x2 (by simp)
   obtain ⟨a3, b3⟩ := hb x3 (by simp)
   simp only [List.take_succ_cons, List.take_zero]
   have hlen : (([x0, x1, x2, x3] : List Int).length : Int) = 4 := rfl
   rw [hlen]
   refine Ev.step (f := fun k => wire_CutNum.l0 k (x0 :: x1 :: x2 :: x3 :: r) x0 [x0, x1, x2, x3] 4 1) (fun k => ?_) ?_
   ·
    simp only [wire_CutNum.l0]
    rw [if_pos (by omega), if_pos (by omega), if_pos (by rw [hlen]; omega)]
    rw [show rd [x0, x1, x2, x3] 0 = x0 from rfl, or8 (by omega) (by omega) a0 b0, w64 (by omega) (by omega)]
    simp
   refine Ev.step (f := fun k => wire_CutNum.l0 k (x0 :: x1 :: x2 :: x3 :: r) (x0 * 256 + x1) [x0, x1, x2, x3] 4 2) (fun k => ?_) ?_
   ·
    simp only [wire_CutNum.l0]
    rw [if_pos (by omega), if_pos (by omega), if_pos (by rw [hlen]; omega)]
    rw [show rd [x0, x1, x2, x3] 1 = x1 from rfl, or8 (by omega) (by omega) a1 b1, w64 (by omega) (by omega)]
    rfl
   refine Ev.step (f := fun k => wire_CutNum.l0 k (x0 :: x1 :: x2 :: x3 :: r) ((x0 * 256 + x1) * 256 + x2) [x0, x1, x2, x3] 4 3) (fun k => ?_) ?_
   ·
    simp only [wire_CutNum.l0]
    rw [if_pos (by omega), if_pos (by omega), if_pos (by rw [hlen]; omega)]
    rw [show rd [x0, x1, x2, x3] 2 = x2 from rfl, or8 (by omega) (by omega) a2 b2, w64 (by omega) (by omega)]
    rfl
   refine Ev.step (f := fun k => wire_CutNum.l0 k (x0 :: x1 :: x2 :: x3 :: r) (((x0 * 256 + x1) * 256 + x2) * 256 + x3) [x0, x1, x2, x3] 4 4) (fun k => ?_) ?_
   ·
    simp only [wire_CutNum.l0]
    rw [if_pos (by omega), if_pos (by omega), if_pos (by rw [hlen]; omega)]
    rw [show rd [x0, x1, x2, x3] 3 = x3 from rfl, or8 (by omega) (by omega) a3 b3, w64 (by omega) (by omega)]
    rfl
   refine Ev.step (f := fun _ => some (val4 (x0 :: x1 :: x2 :: x3 :: r), r, true)) (fun k => ?_) (Ev.now _)
   simp only [wire_CutNum.l0]
   rw [if_neg (by omega), if_pos (by simp only [List.length_cons]; omega)]
   rw [show (x0 :: x1 :: x2 :: x3 :: r).drop 4 = r from rfl, clone_eq (by simp only [List.length_cons] at hl; omega)]
   simp only [Option.bind_some, Option.some.injEq, Prod.mk.injEq, and_true]
   simp [val4, rd]
   omega
end Go.Proofs.Ytclmooadpoojeaa.Pl
/- The printed functions of wire for texts answer what the plain ones do. -/
namespace Go.Proofs.Ytclmooadpoojeaa.Pl
open Go.RowKit Go.Proofs.Ytclmooadpoojeaa.X Go.Proofs.YtclmooadpoojeaaW.PrintWords Go.Proofs.YtclmooadpoojeaaW.PrintLast Go.Proofs.YtclmooadpoojeaaW.PrintMore

theorem wire_CutText_ev {b : List Int} (hb : Bytes b) (hl : b.length ≤ 140737488355328) : Ev (fun k => wire_CutText.f k b) (cutText b) := by
 unfold wire_CutText.f
 refine Ev.bind (wire_CutNum_ev hb hl) ?_
 unfold cutNum cutText
 by_cases h4 : b.length < 4
 ·
  simp only [if_pos h4]
  exact Ev.now _
 ·
  simp only [if_neg h4, if_true]
  obtain ⟨g0, g1⟩ := val4_nonneg hb (by omega)
  by_cases hv : val4 b > ((b.length - 4 : Nat) : Int)
  ·
   rw [if_pos hv]
   exact Ev.pos (by rw [List.length_drop]; exact hv) (Ev.now _)
  ·
   rw [if_neg hv]
   exact Ev.neg (by rw [List.length_drop]; exact hv) (Ev.pos g0 (Ev.pos (by rw [List.length_drop]; omega) (Ev.now _)))
theorem cutText_rest_le {b : List Int} : (cutText b).2.1.length ≤ b.length := by
 unfold cutText
 split
 ·
  simp
 ·
  split
  ·
   simp
  ·
   simp only [List.length_drop]; omega
end Go.Proofs.Ytclmooadpoojeaa.Pl
/- slices.Concat of bytes. -/
namespace Go.Proofs.Ytclmooadpoojeaa.Pl
open Go.RowKit Go.Proofs.Ytclmooadpoojeaa.X Go.Proofs.YtclmooadpoojeaaW.PrintWords Go.Proofs.YtclmooadpoojeaaW.PrintLast Go.Proofs.YtclmooadpoojeaaW.PrintMore
theorem concat_eq {l : List (List Int)} (h : lenSum l ≤ 140737488355328) : slices_Concat_byte_byte.f l = some l.flatten := by
 unfold slices_Concat_byte_byte.f
 rw [if_pos h]
end Go.Proofs.Ytclmooadpoojeaa.Pl
/- A cell's bytes: the printed functions answer the plain ones. -/
namespace Go.Proofs.Ytclmooadpoojeaa.Pl
open Go.RowKit Go.Proofs.Ytclmooadpoojeaa.X Go.Proofs.YtclmooadpoojeaaW.PrintWords Go.Proofs.YtclmooadpoojeaaW.PrintLast Go.Proofs.YtclmooadpoojeaaW.PrintMore
def cutFlag (b : List Int) : Bool × List Int × Bool := if b.length = 0 then (false, [], false) else if rd b 0 > 1 then (false, [], false) else (rd b 0 == 1, b.drop 1, true)
theorem cutFlag_eq (b : List Int) : cell_cutFlag.f b = some (cutFlag b) := by
 unfold cell_cutFlag.f cutFlag
 by_cases h : b.length = 0
 ·
  rw [if_pos (by omega), if_pos h]
 ·
  rw [if_neg (by omega), if_neg h, if_pos (by omega)]
  by_cases h1 : rd b 0 > 1
  ·
   rw [if_pos h1, if_pos h1]
  ·
   rw [if_neg h1, if_neg h1, if_pos (by omega)]
   rfl
abbrev Cut7 := ByteArray × ByteArray × Int × ByteArray × Bool × List Int × Bool
def cutCell (b : List Int) : Cut7 :=
 let r := cutText b
 let c := cutText r.2.1
 let t := cutNum c.2.1
 let g := cutFlag t.2.1
 let v := cutText g.2.1
 if (r.2.2 && (c.2.2 && (t.2.2 && (g.2.2 && (v.2.2 && cellRight r.1 c.1 t.1 v.1 g.1))))) = true then (r.1, c.1, t.1, v.1, g.1, v.2.1, true) else (⟨#[]⟩, ⟨#[]⟩, 0, ⟨#[]⟩, false, [], false)
theorem cutFlag_bytes {b : List Int} (hb : Bytes b) : Bytes (cutFlag b).2.1 ∧ (cutFlag b).2.1.length ≤ b.length := by
 unfold cutFlag
 split
 ·
  exact ⟨Bytes.nil, by simp⟩
 ·
  split
  ·
   exact ⟨Bytes.nil, by simp⟩
  ·
   exact ⟨hb.drop 1, by simp only [List.length_drop]; omega⟩
theorem cutNum_bytes' {b : List Int} (hb : Bytes b) : Bytes (cutNum b).2.1 ∧ (cutNum b).2.1.length ≤ b.length := by
 unfold cutNum
 split
 ·
  exact ⟨Bytes.nil, by simp⟩
 ·
  exact ⟨hb.drop 4, by simp only [List.length_drop]; omega⟩
theorem cell_Cut_ev {b : List Int} (hb : Bytes b) (hl : b.length ≤ 140737488355328) : Ev (fun k => cell_Cut.f k b) (cutCell b) := by
 have b1 := cutText_rest_bytes hb
 have l1 := Nat.le_trans (cutText_rest_le (b := b)) hl
 have b2 := cutText_rest_bytes b1
 have l2 := Nat.le_trans (cutText_rest_le (b := (cutText b).2.1)) l1
 obtain ⟨b3, m3⟩ := cutNum_bytes' b2
 have l3 := Nat.le_trans m3 l2
 obtain ⟨b4, m4⟩ := cutFlag_bytes b3
 have l4 := Nat.le_trans m4 l3
 have jt : ∀ (x : List Int) (r c : ByteArray) (t : Int) (v : ByteArray) (g : Bool), Ev (fun k => cell_Cut.j0 k x true r c t v g) (⟨#[]⟩, ⟨#[]⟩, 0, ⟨#[]⟩, false, [], false) := fun x r c t v g => Ev.step (fun k => by simp only [cell_Cut.j0, if_true]) (Ev.now _)
 have jf : ∀ (x : List Int) (r c : ByteArray) (t : Int) (v : ByteArray) (g : Bool), Ev (fun k => cell_Cut.j0 k x false r c t v g) (r, c, t, v, g, x, true) := fun x r c t v g => Ev.step (fun k => by simp only [cell_Cut.j0, Bool.false_eq_true, if_false]) (Ev.now _)
 unfold cell_Cut.f cutCell
 refine Ev.bind (wire_CutText_ev hb hl) (Ev.bind (wire_CutText_ev b1 l1) (Ev.bind (wire_CutNum_ev b2 l2) (Ev.bind (Ev.eq (cutFlag_eq _)) (Ev.bind (wire_CutText_ev b4 l4) ?_))))
 simp only
 generalize cutText b = r
 generalize cutText r.2.1 = c
 generalize cutNum c.2.1 = t
 generalize cutFlag t.2.1 = g
 generalize cutText g.2.1 = v
 by_cases h : (!r.2.2 || (!c.2.2 || (!t.2.2 || (!g.2.2 || (!v.2.2))))) = true
 ·
  refine Ev.pos h ?_
  have : (r.2.2 && (c.2.2 && (t.2.2 && (g.2.2 && (v.2.2 && cellRight r.1 c.1 t.1 v.1 g.1))))) = false := by
   revert h
   cases r.2.2 <;> cases c.2.2 <;> cases t.2.2 <;> cases g.2.2 <;> cases v.2.2 <;> simp
  rw [this]
  exact jt _ _ _ _ _ _
 ·
  refine Ev.neg h (Ev.bind (Ev.eq (cell_Right_eq _ _ _ _ _)) ?_)
  have : (r.2.2 && (c.2.2 && (t.2.2 && (g.2.2 && (v.2.2 && cellRight r.1 c.1 t.1 v.1 g.1))))) = cellRight r.1 c.1 t.1 v.1 g.1 := by
   revert h
   cases r.2.2 <;> cases c.2.2 <;> cases t.2.2 <;> cases g.2.2 <;> cases v.2.2 <;> simp
  rw [this]
  cases hr : cellRight r.1 c.1 t.1 v.1 g.1 with
  | true => exact jf _ _ _ _ _ _
  | false => exact jt _ _ _ _ _ _
end Go.Proofs.Ytclmooadpoojeaa.Pl
/- Whether a cell is right, by the reference. -/
namespace Go.Proofs.Ytclmooadpoojeaa.Pl
open Go.RowKit Go.Proofs.Ytclmooadpoojeaa.X Go.Proofs.YtclmooadpoojeaaW.PrintWords Go.Proofs.YtclmooadpoojeaaW.PrintLast Go.Proofs.YtclmooadpoojeaaW.PrintMore
theorem ref_CRight_eq (r c : ByteArray) (t : Int) (v : ByteArray) (g : Bool) : shardlogref08_Right.f r c t v g = some (cellRight r c t v g) := by
 unfold shardlogref08_Right.f
 simp only [toList_nil]
 split
 ·
  exact some_bool (by rw [cellRight_iff]; simp only [Bool.false_eq_true, false_iff]; omega)
 split
 ·
  exact some_bool (by rw [cellRight_iff]; simp only [Bool.false_eq_true, false_iff]; omega)
 split
 ·
  exact some_bool (by rw [cellRight_iff]; simp only [Bool.false_eq_true, false_iff]; omega)
 split
 ·
  exact some_bool (by rw [cellRight_iff]; simp only [Bool.false_eq_true, false_iff]; omega)
 split
 ·
  exact some_bool (by rw [cellRight_iff]; simp only [Bool.false_eq_true, false_iff]; omega)
 split
 ·
  exact some_bool (by rw [cellRight_iff]; simp only [Bool.false_eq_true, false_iff]; omega)
 split
 ·
  split
  ·
   exact some_bool (by rename_i h; rw [cellRight_iff, decide_eq_true_iff]; exact ⟨fun hz => ⟨by omega, by omega, by omega, by omega, by omega, by omega, by omega, .inr hz⟩, fun hh => hh.2.2.2.2.2.2.2.elim (fun e => by rw [h] at e; cases e) id⟩)
  ·
   exact some_bool (by rename_i h; rw [cellRight_iff]; exact ⟨fun _ => ⟨by omega, by omega, by omega, by omega, by omega, by omega, by omega, .inl (by simpa using h)⟩, fun _ => rfl⟩)
 ·
  exact some_bool (by rw [cellRight_iff]; simp only [Bool.false_eq_true, false_iff]; omega)
end Go.Proofs.Ytclmooadpoojeaa.Pl
/- The reference's texts at a place. -/
namespace Go.Proofs.Ytclmooadpoojeaa.Pl
open Go.RowKit Go.Proofs.Ytclmooadpoojeaa.X Go.Proofs.YtclmooadpoojeaaW.PrintWords Go.Proofs.YtclmooadpoojeaaW.PrintLast Go.Proofs.YtclmooadpoojeaaW.PrintMore
def textAt (b : List Int) (i : Nat) : ByteArray × Int := if (cutText (b.drop i)).2.2 = true then ((cutText (b.drop i)).1, 4 + ((cutText (b.drop i)).1.size : Int)) else (⟨#[]⟩, 0)
theorem TextAt_eq {b : List Int} (hb : Bytes b) (hl : b.length ≤ 140737488355328) {i : Nat} (hi : i ≤ 140737488355328) : shardlogref01_TextAt.f b (i : Int) = some (textAt b i) := by
 have w4 : wrap64 ((i : Int) + 4) = (i : Int) + 4 := w64 (by omega) (by omega)
 unfold shardlogref01_TextAt.f
 rw [At_eq hb hl hi, w4]
 simp only [Option.bind_some]
 unfold textAt numAt
 by_cases h : b.length < i + 4
 ·
  rw [if_pos h, if_pos (by decide)]
  have hc : cutText (b.drop i) = (⟨#[]⟩, [], false) := by
   unfold cutText
   rw [if_pos (by rw [List.length_drop]; omega)]
  rw [hc]
  rfl
 ·
  rw [if_neg h]
  obtain ⟨g0, g1⟩ := val4_nonneg (hb.drop i) (by rw [List.length_drop]; omega)
  rw [if_neg (by omega)]
  have hlen : ((b.drop i).length - 4 : Nat) = b.length - i - 4 := by rw [List.length_drop]
  have wv : wrap64 ((i : Int) + 4 + val4 (b.drop i)) = (i : Int) + 4 + val4 (b.drop i) := w64 (by omega) (by omega)
  rw [wv]
  by_cases hv : val4 (b.drop i) > ((b.length - i - 4 : Nat) : Int)
  ·
   have hc : cutText (b.drop i) = (⟨#[]⟩, [], false) := by
    unfold cutText
    rw [if_neg (by rw [List.length_drop]; omega), hlen, if_pos hv]
   rw [hc, if_pos (by omega)]
   rfl
  ·
   have hc : cutText (b.drop i) = (strOfNums (((b.drop i).drop 4).take (val4 (b.drop i)).toNat), ((b.drop i).drop 4).drop (val4 (b.drop i)).toNat, true) := by
    unfold cutText
    rw [if_neg (by rw [List.length_drop]; omega), hlen, if_neg hv]
   rw [hc, if_neg (by omega), if_pos (by omega), if_pos (by omega), if_pos (by omega), if_pos rfl, w64 (by omega) (by omega)]
   simp only [Option.some.injEq, Prod.mk.injEq]
   have h1 : (i : Int) + 4 = ((i + 4 : Nat) : Int) := by omega
   have h2 : ((i : Int) + 4 + val4 (b.drop i)).toNat = i + 4 + (val4 (b.drop i)).toNat := by omega
   have h3 : ((i : Int) + 4).toNat = i + 4 := by omega
   constructor
   ·
    rw [h2, h3, List.drop_take, List.drop_drop, Nat.add_sub_cancel_left]
   ·
    rw [strOf_size, List.length_take, List.length_drop, List.length_drop]
    omega
end Go.Proofs.Ytclmooadpoojeaa.Pl
/- The reference's cells, cut off. -/
namespace Go.Proofs.Ytclmooadpoojeaa.Pl
open Go.RowKit Go.Proofs.Ytclmooadpoojeaa.X Go.Proofs.YtclmooadpoojeaaW.PrintWords Go.Proofs.YtclmooadpoojeaaW.PrintLast Go.Proofs.YtclmooadpoojeaaW.PrintMore
theorem cutText_rest {b : List Int} (h : (cutText b).2.2 = true) : (cutText b).2.1 = b.drop (4 + (cutText b).1.size) := by
 have h1 := cutText_rest_length h
 unfold cutText at h h1 ⊢
 by_cases h4 : b.length < 4
 ·
  rw [if_pos h4] at h; cases h
 ·
  rw [if_neg h4] at h h1 ⊢
  by_cases hv : val4 b > ((b.length - 4 : Nat) : Int)
  ·
   rw [if_pos hv] at h; cases h
  ·
   rw [if_neg hv]
   show (b.drop 4).drop (val4 b).toNat = _
   rw [strOf_size, List.length_take, List.length_drop, List.drop_drop]
   congr 1
   omega
theorem textAt_ok {b : List Int} {i : Nat} (h : (cutText (b.drop i)).2.2 = true) : textAt b i = ((cutText (b.drop i)).1, 4 + ((cutText (b.drop i)).1.size : Int)) := by
 unfold textAt
 rw [if_pos h]
theorem textAt_no {b : List Int} {i : Nat} (h : (cutText (b.drop i)).2.2 = false) : textAt b i = (⟨#[]⟩, 0) := by
 unfold textAt
 rw [if_neg (by simp [h])]
theorem cutText_at {b : List Int} {i : Nat} (h : (cutText (b.drop i)).2.2 = true) : (cutText (b.drop i)).2.1 = b.drop (i + 4 + (cutText (b.drop i)).1.size) ∧ i + 4 + (cutText (b.drop i)).1.size ≤ b.length := by
 have h1 := cutText_rest h
 have h2 := cutText_rest_length h
 rw [List.drop_drop] at h1
 rw [List.length_drop] at h2
 exact ⟨by rw [h1]; congr 1; omega, by omega⟩
def refCut (b : List Int) (i : Nat) : ByteArray × ByteArray × Int × ByteArray × Bool × Int :=
 if (cutCell (b.drop i)).2.2.2.2.2.2 = true then ((cutCell (b.drop i)).1, (cutCell (b.drop i)).2.1, (cutCell (b.drop i)).2.2.1, (cutCell (b.drop i)).2.2.2.1, (cutCell (b.drop i)).2.2.2.2.1, ((b.length - i : Nat) : Int) - (cutCell (b.drop i)).2.2.2.2.2.1.length) else (⟨#[]⟩, ⟨#[]⟩, 0, ⟨#[]⟩, false, 0)
theorem cutCell_steps {b : List Int} {i : Nat} (h1 : (cutText (b.drop i)).2.2 = true) {j : Nat} (hj : j = i + 4 + (cutText (b.drop i)).1.size) (h2 : (cutText (b.drop j)).2.2 = true) {m : Nat} (hm : m = j + 4 + (cutText (b.drop j)).1.size) (h3 : m + 4 < b.length) (h4 : ¬ rd b ((m + 4 : Nat) : Int) > 1) :
  cutCell (b.drop i) = if ((cutText (b.drop (m + 5))).2.2 && cellRight (cutText (b.drop i)).1 (cutText (b.drop j)).1 (val4 (b.drop m)) (cutText (b.drop (m + 5))).1 (rd b ((m + 4 : Nat) : Int) == 1)) = true then ((cutText (b.drop i)).1, (cutText (b.drop j)).1, val4 (b.drop m), (cutText (b.drop (m + 5))).1, rd b ((m + 4 : Nat) : Int) == 1, (cutText (b.drop (m + 5))).2.1, true) else (⟨#[]⟩, ⟨#[]⟩, 0, ⟨#[]⟩, false, [], false) := by
 have e1 := (cutText_at h1).1
 have e2 := (cutText_at h2).1
 rw [← hj] at e1
 rw [← hm] at e2
 have e3 : cutNum (b.drop m) = (val4 (b.drop m), b.drop (m + 4), true) := by
  unfold cutNum
  rw [if_neg (by rw [List.length_drop]; omega), List.drop_drop]
 have hr : rd (b.drop (m + 4)) 0 = rd b ((m + 4 : Nat) : Int) := by
  have := rd_drop b (m + 4) 0
  simpa using this
 have e4 : cutFlag (b.drop (m + 4)) = (rd b ((m + 4 : Nat) : Int) == 1, b.drop (m + 5), true) := by
  unfold cutFlag
  rw [hr, if_neg (by rw [List.length_drop]; omega), if_neg h4, List.drop_drop]
 unfold cutCell
 simp only [h1, e1, h2, e2, e3, e4, Bool.true_and]
theorem cutCell_no {b : List Int} {i : Nat} (h : ¬ ∃ j m : Nat, (cutText (b.drop i)).2.2 = true ∧ j = i + 4 + (cutText (b.drop i)).1.size ∧ (cutText (b.drop j)).2.2 = true ∧ m = j + 4 + (cutText (b.drop j)).1.size ∧ m + 4 < b.length ∧ ¬ rd b ((m + 4 : Nat) : Int) > 1) : (cutCell (b.drop i)).2.2.2.2.2.2 = false := by
 have hz : ∀ c : Bool, c = false → ∀ (x : Cut7), (if c = true then x else (⟨#[]⟩, ⟨#[]⟩, 0, ⟨#[]⟩, false, [], false)).2.2.2.2.2.2 = false := by rintro c rfl x; rfl
 unfold cutCell
 refine hz _ ?_ _
 cases h1 : (cutText (b.drop i)).2.2 with
 | false => rfl
 | true =>
  have e1 := (cutText_at h1).1
  rw [Bool.true_and, e1]
  cases h2 : (cutText (b.drop (i + 4 + (cutText (b.drop i)).1.size))).2.2 with
  | false => rfl
  | true =>
   have e2 := (cutText_at h2).1
   rw [Bool.true_and, e2]
   generalize hm : i + 4 + (cutText (b.drop i)).1.size + 4 + (cutText (b.drop (i + 4 + (cutText (b.drop i)).1.size))).1.size = m
   cases h3 : (cutNum (b.drop m)).2.2 with
   | false => rfl
   | true =>
    have e3 : cutNum (b.drop m) = (val4 (b.drop m), b.drop (m + 4), true) := by
     unfold cutNum at h3 ⊢
     split at h3
     ·
      cases h3
     ·
      rename_i h; rw [if_neg h, List.drop_drop]
    rw [Bool.true_and, e3]
    have hr : rd (b.drop (m + 4)) 0 = rd b ((m + 4 : Nat) : Int) := by
     have := rd_drop b (m + 4) 0
     simpa using this
    cases h4 : (cutFlag (b.drop (m + 4))).2.2 with
    | false => rfl
    | true =>
     unfold cutFlag at h4
     split at h4
     ·
      cases h4
     ·
      rename_i h5
      split at h4
      ·
       cases h4
      ·
       rename_i h6
       rw [hr] at h6
       rw [List.length_drop] at h5
       exact absurd ⟨_, m, h1, rfl, h2, hm.symm, by omega, h6⟩ h
theorem ref_CCut_ev {b : List Int} (hb : Bytes b) (hl : b.length ≤ 1000000000) {i : Nat} (hi : i ≤ b.length) : Ev (fun k => shardlogref08_Cut.f k b (i : Int)) (refCut b i) := by
 have hno : (¬ ∃ j m : Nat, (cutText (b.drop i)).2.2 = true ∧ j = i + 4 + (cutText (b.drop i)).1.size ∧ (cutText (b.drop j)).2.2 = true ∧ m = j + 4 + (cutText (b.drop j)).1.size ∧ m + 4 < b.length ∧ ¬ rd b ((m + 4 : Nat) : Int) > 1) → refCut b i = (⟨#[]⟩, ⟨#[]⟩, 0, ⟨#[]⟩, false, 0) := fun h => by
  unfold refCut
  rw [if_neg (by rw [cutCell_no h]; exact Bool.false_ne_true)]
 unfold shardlogref08_Cut.f
 refine Ev.bind (Ev.eq (TextAt_eq hb (by omega) (by omega))) ?_
 cases h1 : (cutText (b.drop i)).2.2 with
 | false =>
  rw [textAt_no h1, hno (by rintro ⟨_, _, h, _⟩; rw [h1] at h; cases h)]
  exact Ev.pos rfl (Ev.now _)
 | true =>
  rw [textAt_ok h1]
  have g1 := (cutText_at h1).2
  generalize hs1 : (cutText (b.drop i)).1.size = s1 at *
  refine Ev.neg (by simp only; omega) ?_
  simp only
  rw [show wrap64 ((i : Int) + (4 + (s1 : Int))) = ((i + 4 + s1 : Nat) : Int) by rw [w64 (by omega) (by omega)]; omega]
  refine Ev.bind (Ev.eq (TextAt_eq hb (by omega) (by omega))) ?_
  cases h2 : (cutText (b.drop (i + 4 + s1))).2.2 with
  | false =>
   rw [textAt_no h2, hno (by rintro ⟨_, _, _, rfl, h, _⟩; rw [h2] at h; cases h)]
   exact Ev.pos rfl (Ev.now _)
  | true =>
   rw [textAt_ok h2]
   have g2 := (cutText_at h2).2
   generalize hs2 : (cutText (b.drop (i + 4 + s1))).1.size = s2 at *
   refine Ev.neg (by simp only; omega) ?_
   simp only
   rw [show wrap64 (((i + 4 + s1 : Nat) : Int) + (4 + (s2 : Int))) = ((i + 4 + s1 + 4 + s2 : Nat) : Int) by rw [w64 (by omega) (by omega)]; omega]
   generalize hm : i + 4 + s1 + 4 + s2 = m at *
   refine Ev.bind (Ev.eq (At_eq hb (by omega) (by omega))) ?_
   rw [show wrap64 ((m : Int) + 4) = ((m + 4 : Nat) : Int) by rw [w64 (by omega) (by omega)]; rfl]
   have jt : ∀ t : Int, (¬ ∃ j m : Nat, (cutText (b.drop i)).2.2 = true ∧ j = i + 4 + s1 ∧ (cutText (b.drop j)).2.2 = true ∧ m = j + 4 + (cutText (b.drop j)).1.size ∧ m + 4 < b.length ∧ ¬ rd b ((m + 4 : Nat) : Int) > 1) → Ev (fun k => shardlogref08_Cut.j0 k b (cutText (b.drop i)).1 (4 + (s1 : Int)) (cutText (b.drop (i + 4 + s1))).1 (4 + (s2 : Int)) (m : Int) t true) (refCut b i) := fun t h => by
    rw [hno h]
    exact Ev.step (f := fun _ => some (⟨#[]⟩, ⟨#[]⟩, 0, ⟨#[]⟩, false, 0)) (fun k => by simp only [shardlogref08_Cut.j0, if_true]) (Ev.now _)
   by_cases h3 : b.length < m + 4
   ·
    unfold numAt
    rw [if_pos h3]
    exact Ev.pos (by decide) (jt _ (by rintro ⟨_, m', _, rfl, _, hm', h, _⟩; rw [hs2, hm] at hm'; omega))
   ·
    have hv := val4_nonneg (hb.drop m) (by rw [List.length_drop]; omega)
    unfold numAt
    rw [if_neg h3]
    refine Ev.neg (by omega) ?_
    by_cases h4 : m + 4 < b.length
    ·
     refine Ev.neg (by omega) ?_
     refine Ev.pos (by omega) ?_
     refine Ev.pos (by omega) ?_
     by_cases h5 : rd b ((m + 4 : Nat) : Int) > 1
     ·
      rw [decide_eq_true h5]
      exact jt _ (by rintro ⟨_, m', _, rfl, _, hm', _, h⟩; rw [hs2, hm] at hm'; subst hm'; exact h h5)
     ·
      rw [decide_eq_false h5]
      have hc := cutCell_steps h1 (j := i + 4 + s1) (by rw [hs1]) h2 (m := m) (by rw [hs2, hm]) h4 h5
      refine Ev.step (fun k => by simp only [shardlogref08_Cut.j0, Bool.false_eq_true, if_false]; rw [show wrap64 ((m : Int) + 4) = ((m + 4 : Nat) : Int) by rw [w64 (by omega) (by omega)]; rfl, show wrap64 ((m : Int) + 5) = ((m + 5 : Nat) : Int) by rw [w64 (by omega) (by omega)]; rfl]) ?_
      refine Ev.bind (Ev.eq (TextAt_eq hb (by omega) (by omega))) ?_
      refine Ev.pos (by omega) ?_
      refine Ev.pos (by omega) ?_
      unfold refCut
      rw [hc]
      cases h6 : (cutText (b.drop (m + 5))).2.2 with
      | false =>
       rw [textAt_no h6]
       exact Ev.pos rfl ((Ev.now _).to (by rw [Bool.false_and]; rfl))
      | true =>
       rw [textAt_ok h6]
       have g3 := cutText_at h6
       refine Ev.neg (by simp only; omega) ?_
       refine Ev.bind (Ev.eq (ref_CRight_eq _ _ _ _ _)) ?_
       simp only
       rw [Bool.true_and]
       cases h7 : cellRight (cutText (b.drop i)).1 (cutText (b.drop (i + 4 + s1))).1 (val4 (b.drop m)) (cutText (b.drop (m + 5))).1 (rd b ((m + 4 : Nat) : Int) == 1) with
       | false => exact Ev.neg Bool.false_ne_true ((Ev.now _).to rfl)
       | true =>
        refine Ev.pos rfl ((Ev.now _).to ?_)
        simp only [if_true, Prod.mk.injEq, true_and]
        rw [g3.1, List.length_drop]
        generalize (cutText (b.drop (m + 5))).1.size = s3 at *
        have g4 := g3.2
        clear g3 hc h6 h7 hv
        rw [w64 (x := 4 + (s1 : Int) + (4 + (s2 : Int))) (by omega) (by omega), w64 (x := 4 + (s1 : Int) + (4 + (s2 : Int)) + 5) (by omega) (by omega), w64 (by omega) (by omega)]
        omega
    ·
     refine Ev.pos (by omega) (jt _ (by rintro ⟨_, m', _, rfl, _, hm', h, _⟩; rw [hs2, hm] at hm'; omega))
end Go.Proofs.Ytclmooadpoojeaa.Pl
/- What a cell's cut leaves. -/
namespace Go.Proofs.Ytclmooadpoojeaa.Pl
open Go.RowKit Go.Proofs.Ytclmooadpoojeaa.X Go.Proofs.YtclmooadpoojeaaW.PrintWords Go.Proofs.YtclmooadpoojeaaW.PrintLast Go.Proofs.YtclmooadpoojeaaW.PrintMore
theorem cutCell_rest {b : List Int} {i : Nat} (h : (cutCell (b.drop i)).2.2.2.2.2.2 = true) : ∃ n : Nat, 0 < n ∧ i + n ≤ b.length ∧ (cutCell (b.drop i)).2.2.2.2.2.1 = b.drop (i + n) := by
 by_cases e : ∃ j m : Nat, (cutText (b.drop i)).2.2 = true ∧ j = i + 4 + (cutText (b.drop i)).1.size ∧ (cutText (b.drop j)).2.2 = true ∧ m = j + 4 + (cutText (b.drop j)).1.size ∧ m + 4 < b.length ∧ ¬ rd b ((m + 4 : Nat) : Int) > 1
 ·
  obtain ⟨j, m, h1, hj, h2, hm, h3, h4⟩ := e
  rw [cutCell_steps h1 hj h2 hm h3 h4] at h ⊢
  split at h
  ·
   rename_i hc
   rw [if_pos hc]
   rw [Bool.and_eq_true] at hc
   have g := cutText_at hc.1
   refine ⟨m + 5 + 4 + (cutText (b.drop (m + 5))).1.size - i, by omega, by omega, ?_⟩
   show (cutText (b.drop (m + 5))).2.1 = _
   rw [g.1]
   congr 1
   omega
  ·
   cases h
 ·
  rw [cutCell_no e] at h
  cases h
theorem cutCell_right {b : List Int} (h : (cutCell b).2.2.2.2.2.2 = true) : cellRight (cutCell b).1 (cutCell b).2.1 (cutCell b).2.2.1 (cutCell b).2.2.2.1 (cutCell b).2.2.2.2.1 = true := by
 unfold cutCell at h ⊢
 dsimp only at h ⊢
 split at h
 ·
  rename_i hc
  rw [if_pos hc]
  simp only [Bool.and_eq_true] at hc
  exact hc.2.2.2.2.2
 ·
  cases h
end Go.Proofs.Ytclmooadpoojeaa.Pl
/- Plain laws of lists of cells: put in order, sorted. -/
namespace Go.Proofs.Ytclmooadpoojeaa.Pl
open Go.RowKit Go.Proofs.Ytclmooadpoojeaa.X Go.Proofs.YtclmooadpoojeaaW.PrintWords Go.Proofs.YtclmooadpoojeaaW.PrintLast Go.Proofs.YtclmooadpoojeaaW.PrintMore
abbrev Cell := S46
abbrev rdC (xs : List Cell) (i : Int) : Cell := rd_T46 xs i
theorem rdC_at (l : List Cell) (i : Nat) (h : i < l.length) : rdC l (i : Int) = l[i] := by
 show l.getD (i : Int).toNat _ = _
 rw [Int.toNat_natCast, List.getD_eq_getElem?_getD, List.getElem?_eq_getElem h]
 rfl
def cc (a b : Cell) : Int := cmpC a.f0 a.f1 a.f2 b.f0 b.f1 b.f2
def rightC (a : Cell) : Bool := cellRight a.f0 a.f1 a.f2 a.f3 a.f4
theorem cc_in (a b : Cell) : cc a b = -1 ∨ cc a b = 0 ∨ cc a b = 1 := cmpC_in _ _ _ _ _ _
def RightsC (l : List Cell) : Prop := ∀ c ∈ l, rightC c = true
theorem rightC_iff {a : Cell} : rightC a = true ↔ 1 ≤ a.f0.size ∧ a.f0.size ≤ 64 ∧ 1 ≤ a.f1.size ∧ a.f1.size ≤ 64 ∧ 0 ≤ a.f2 ∧ a.f2 ≤ 4294967295 ∧ a.f3.size ≤ 256 ∧ (a.f4 = false ∨ a.f3.size = 0) := cellRight_iff
def chkC (l : List Cell) (i : Nat) : Bool := rightC (rdC l i) && (i == 0 || cc (rdC l ((i : Int) - 1)) (rdC l i) == -1)
def sortedFrom (l : List Cell) (i : Nat) : Nat → Bool
 | 0 => true
 | d + 1 => chkC l i && sortedFrom l (i + 1) d
def sortedC (l : List Cell) : Bool := sortedFrom l 0 l.length
end Go.Proofs.Ytclmooadpoojeaa.Pl
/- The reference's order of cells answers the plain one. -/
namespace Go.Proofs.Ytclmooadpoojeaa.Pl
open Go.RowKit Go.Proofs.Ytclmooadpoojeaa.X Go.Proofs.YtclmooadpoojeaaW.PrintWords Go.Proofs.YtclmooadpoojeaaW.PrintLast Go.Proofs.YtclmooadpoojeaaW.PrintMore
theorem len_size (s : ByteArray) : s.toList.length = s.size := by
 rw [ByteArray.toList_eq, Array.length_toList]
 rfl
theorem bt_at (s : ByteArray) (i : Nat) (h : i < s.toList.length) : bt s (i : Int) = ((s.toList[i]).toNat : Int) := by
 have hs : i < s.size := by rw [len_size] at h; exact h
 unfold bt
 rw [dif_pos (by simpa using hs)]
 simp only [Int.toNat_natCast, ByteArray.toList_eq]
 rfl
theorem ref_CText_l0 (a b : ByteArray) (ha : a.size ≤ 140737488355328) (d : Nat) : ∀ i : Nat, i ≤ a.size → i ≤ b.size → a.size - i = d → Ev (fun k => shardlogref08_Text.l0 k a b (i : Int)) (cmpB (a.toList.drop i) (b.toList.drop i)) := by
 have la := len_size a
 have lb := len_size b
 induction d with
 | zero =>
  intro i h1 h2 hd
  rw [List.drop_eq_nil_of_le (show a.toList.length ≤ i by omega)]
  refine Ev.step (f := fun k => shardlogref08_Text.j1 k a b (i : Int) false) (fun k => ?_) ?_
  ·
   simp only [shardlogref08_Text.l0]
   rw [if_neg (by omega)]
  by_cases hl : b.size = i
  ·
   rw [List.drop_eq_nil_of_le (show b.toList.length ≤ i by omega)]
   refine Ev.step (f := fun _ => some 0) (fun k => ?_) (Ev.now _)
   simp only [shardlogref08_Text.j1, Bool.false_eq_true, if_false]
   rw [if_neg (by omega), if_neg (by omega)]
  ·
   rw [List.drop_eq_getElem_cons (by omega)]
   refine Ev.step (f := fun _ => some (-1)) (fun k => ?_) (Ev.now _)
   simp only [shardlogref08_Text.j1, Bool.false_eq_true, if_false]
   rw [if_pos (by omega)]
 | succ d ih =>
  intro i h1 h2 hd
  have hia : i < a.toList.length := by omega
  rw [List.drop_eq_getElem_cons hia]
  by_cases hl : b.size = i
  ·
   rw [List.drop_eq_nil_of_le (show b.toList.length ≤ i by omega)]
   refine Ev.step (f := fun k => shardlogref08_Text.j1 k a b (i : Int) false) (fun k => ?_) ?_
   ·
    simp only [shardlogref08_Text.l0]
    rw [if_pos (by omega), decide_eq_false (by omega)]
   refine Ev.step (f := fun _ => some 1) (fun k => ?_) (Ev.now _)
   simp only [shardlogref08_Text.j1, Bool.false_eq_true, if_false]
   rw [if_neg (by omega), if_pos (by omega)]
  ·
   have hib : i < b.toList.length := by omega
   rw [List.drop_eq_getElem_cons hib]
   refine Ev.step (f := fun k => shardlogref08_Text.j1 k a b (i : Int) true) (fun k => ?_) ?_
   ·
    simp only [shardlogref08_Text.l0]
    rw [if_pos (by omega), decide_eq_true (by omega)]
   have ba := bt_at a i hia
   have bb := bt_at b i hib
   unfold cmpB
   by_cases c1 : a.toList[i] < b.toList[i]
   ·
    rw [if_pos c1]
    have := UInt8.lt_iff_toNat_lt.1 c1
    refine Ev.step (f := fun _ => some (-1)) (fun k => ?_) (Ev.now _)
    simp only [shardlogref08_Text.j1, if_true]
    rw [if_pos (by omega), if_pos (by omega), if_pos (by omega), if_pos (by omega)]
   ·
    rw [if_neg c1]
    have n1 : ¬ (a.toList[i]).toNat < (b.toList[i]).toNat := fun h => c1 (UInt8.lt_iff_toNat_lt.2 h)
    by_cases c2 : b.toList[i] < a.toList[i]
    ·
     rw [if_pos c2]
     have := UInt8.lt_iff_toNat_lt.1 c2
     refine Ev.step (f := fun _ => some 1) (fun k => ?_) (Ev.now _)
     simp only [shardlogref08_Text.j1, if_true]
     rw [if_pos (by omega), if_pos (by omega), if_pos (by omega), if_neg (by omega), if_pos (by omega)]
    ·
     rw [if_neg c2]
     have n2 : ¬ (b.toList[i]).toNat < (a.toList[i]).toNat := fun h => c2 (UInt8.lt_iff_toNat_lt.2 h)
     refine Ev.step (f := fun k => shardlogref08_Text.l0 k a b ((i + 1 : Nat) : Int)) (fun k => ?_) (ih (i + 1) (by omega) (by omega) (by omega))
     simp only [shardlogref08_Text.j1, if_true]
     rw [if_pos (by omega), if_pos (by omega), if_pos (by omega), if_neg (by omega), if_neg (by omega), w64 (by omega) (by omega)]
     rfl
theorem ref_CText_ev {a b : ByteArray} (ha : a.size ≤ 140737488355328) : Ev (fun k => shardlogref08_Text.f k a b) (cmpT a b) := by
 unfold shardlogref08_Text.f
 have := ref_CText_l0 a b ha a.size 0 (by omega) (by omega) (by omega)
 exact this
theorem ref_CCompare_ev {r c : ByteArray} {t : Int} {v : ByteArray} {g : Bool} {r' c' : ByteArray} {t' : Int} {v' : ByteArray} {g' : Bool} (h1 : r.size ≤ 140737488355328) (h2 : c.size ≤ 140737488355328) : Ev (fun k => shardlogref08_Compare.f k r c t v g r' c' t' v' g') (cmpC r c t r' c' t') := by
 unfold shardlogref08_Compare.f cmpC
 by_cases e1 : r.toList = r'.toList
 ·
  have z1 : cmpT r r' = 0 := cmpB_zero.2 e1
  rw [if_pos z1]
  refine Ev.pos e1 ?_
  by_cases e2 : c.toList = c'.toList
  ·
   have z2 : cmpT c c' = 0 := cmpB_zero.2 e2
   rw [if_pos z2]
   refine Ev.pos e2 ?_
   unfold cmpN
   by_cases k1 : t' < t
   ·
    simp only [gt_iff_lt, k1, if_true]
    exact Ev.now _
   ·
    by_cases k2 : t < t'
    ·
     simp only [gt_iff_lt, k1, k2, if_true, if_false]
     exact Ev.now _
    ·
     simp only [gt_iff_lt, k1, k2, if_false]
     exact Ev.now _
  ·
   have z2 : ¬ cmpT c c' = 0 := fun h => e2 (cmpB_zero.1 h)
   rw [if_neg z2]
   exact Ev.neg e2 (Ev.bind (ref_CText_ev h2) (Ev.now _))
 ·
  have z1 : ¬ cmpT r r' = 0 := fun h => e1 (cmpB_zero.1 h)
  rw [if_neg z1]
  exact Ev.neg e1 (Ev.bind (ref_CText_ev h1) (Ev.now _))
end Go.Proofs.Ytclmooadpoojeaa.Pl
/- One cell against another: the printed functions answer the plain ones. -/
namespace Go.Proofs.Ytclmooadpoojeaa.Pl
open Go.RowKit Go.Proofs.Ytclmooadpoojeaa.X Go.Proofs.YtclmooadpoojeaaW.PrintWords Go.Proofs.YtclmooadpoojeaaW.PrintLast Go.Proofs.YtclmooadpoojeaaW.PrintMore
def SizedC (a : Cell) : Prop := a.f0.size ≤ 140737488355328 ∧ a.f1.size ≤ 140737488355328
theorem sized_of_right {a : Cell} (h : rightC a = true) : SizedC a := by
 obtain ⟨_, h1, _, h2, _⟩ := rightC_iff.1 h
 exact ⟨by omega, by omega⟩
theorem ref_CC_ev {a : Cell} (h : SizedC a) (b : Cell) : Ev (fun k => shardlogref08_Compare.f k a.f0 a.f1 a.f2 a.f3 a.f4 b.f0 b.f1 b.f2 b.f3 b.f4) (cc a b) := ref_CCompare_ev h.1 h.2
theorem cell_CC_ev (a b : Cell) : Ev (fun k => cell_Compare.f k a.f0 a.f1 a.f2 a.f3 a.f4 b.f0 b.f1 b.f2 b.f3 b.f4) (cc a b) := cell_Compare_ev _ _ _ _ _ _ _ _ _ _
end Go.Proofs.Ytclmooadpoojeaa.Pl
/- Whether cells are sorted, one by one. -/
namespace Go.Proofs.Ytclmooadpoojeaa.Pl
open Go.RowKit Go.Proofs.Ytclmooadpoojeaa.X Go.Proofs.YtclmooadpoojeaaW.PrintWords Go.Proofs.YtclmooadpoojeaaW.PrintLast Go.Proofs.YtclmooadpoojeaaW.PrintMore
theorem chkC_zero {l : List Cell} (h : 0 < l.length) : chkC l 0 = rightC l[0] := by
 unfold chkC
 rw [rdC_at l 0 h]
 simp
theorem chkC_pos {l : List Cell} {i : Nat} (h : i < l.length) (h0 : 0 < i) : chkC l i = (rightC l[i] && (cc (l[i-1]'(by omega)) l[i] == -1)) := by
 unfold chkC
 rw [rdC_at l i h, show (i : Int) - 1 = ((i - 1 : Nat) : Int) by omega, rdC_at l (i - 1) (by omega), show (i == 0) = false by simp; omega, Bool.false_or]
end Go.Proofs.Ytclmooadpoojeaa.Pl
/- Whether cells are sorted, by the reference. -/
namespace Go.Proofs.Ytclmooadpoojeaa.Pl
open Go.RowKit Go.Proofs.Ytclmooadpoojeaa.X Go.Proofs.YtclmooadpoojeaaW.PrintWords Go.Proofs.YtclmooadpoojeaaW.PrintLast Go.Proofs.YtclmooadpoojeaaW.PrintMore
theorem ref_Sorted_l0 (l : List Cell) (hs : ∀ x ∈ l, SizedC x) (hn : l.length ≤ 140737488355328) (d : Nat) : ∀ i : Nat, i ≤ l.length → l.length - i = d → Ev (fun k => shardlogref08_Sorted.l0 k l (i : Int)) (sortedFrom l i d) := by
 induction d with
 | zero =>
  intro i hi hd
  refine Ev.step (f := fun _ => some true) (fun k => ?_) (Ev.now _)
  simp only [shardlogref08_Sorted.l0]
  rw [if_neg (by omega)]
 | succ d ih =>
  intro i hi hd
  have hlt : i < l.length := by omega
  have hr := rdC_at l i hlt
  unfold rdC at hr
  have jt : Ev (fun k => shardlogref08_Sorted.j1 k l (i : Int) true) false := Ev.step (f := fun _ => some false) (fun k => by simp only [shardlogref08_Sorted.j1, if_true]) (Ev.now _)
  have jf : Ev (fun k => shardlogref08_Sorted.j1 k l (i : Int) false) (sortedFrom l (i + 1) d) := Ev.step (f := fun k => shardlogref08_Sorted.l0 k l ((i + 1 : Nat) : Int)) (fun k => by simp only [shardlogref08_Sorted.j1, Bool.false_eq_true, if_false]; rw [w64 (by omega) (by omega)]; rfl) (ih (i + 1) (by omega) (by omega))
  unfold sortedFrom
  refine Ev.step (fun k => by simp only [shardlogref08_Sorted.l0]; rw [if_pos (by omega), if_pos (by omega), hr]) (Ev.bind (Ev.eq (ref_CRight_eq _ _ _ _ _)) ?_)
  by_cases hc : rightC l[i] = true
  ·
   refine Ev.pos hc ?_
   by_cases h0 : 0 < i
   ·
    have hr1 := rdC_at l (i - 1) (by omega)
    unfold rdC at hr1
    have hi1 : wrap64 ((i : Int) - 1) = ((i - 1 : Nat) : Int) := by rw [w64 (by omega) (by omega)]; omega
    refine Ev.pos (by omega) ?_
    rw [hi1, hr1, chkC_pos hlt h0, hc, Bool.true_and]
    refine Ev.pos (by omega) (Ev.pos (by omega) (Ev.bind (ref_CC_ev (hs _ (List.getElem_mem (by omega))) _) ?_))
    by_cases h1 : cc (l[i-1]'(by omega)) l[i] = -1
    ·
     rw [h1]
     exact jf
    ·
     rw [show (cc (l[i-1]'(by omega)) l[i] != -1) = true by simpa using h1, show (cc (l[i-1]'(by omega)) l[i] == -1) = false by simpa using h1, Bool.false_and]
     exact jt
   ·
    have : i = 0 := by omega
    subst this
    rw [chkC_zero hlt, hc, Bool.true_and]
    exact Ev.neg (by omega) jf
  ·
   have hc' : rightC l[i] = false := by simpa using hc
   refine Ev.neg hc (jt.to ?_)
   by_cases h0 : 0 < i
   ·
    rw [chkC_pos hlt h0, hc']
    rfl
   ·
    have : i = 0 := by omega
    subst this
    rw [chkC_zero hlt, hc']
    rfl
theorem ref_Sorted_ev {l : List Cell} (hs : ∀ x ∈ l, SizedC x) (hn : l.length ≤ 140737488355328) : Ev (fun k => shardlogref08_Sorted.f k l) (sortedC l) := by
 unfold shardlogref08_Sorted.f sortedC
 exact ref_Sorted_l0 l hs hn l.length 0 (by omega) (by omega)
end Go.Proofs.Ytclmooadpoojeaa.Pl
/- Whether cells are sorted: the printed functions answer the plain one. -/
namespace Go.Proofs.Ytclmooadpoojeaa.Pl
open Go.RowKit Go.Proofs.Ytclmooadpoojeaa.X Go.Proofs.YtclmooadpoojeaaW.PrintWords Go.Proofs.YtclmooadpoojeaaW.PrintLast Go.Proofs.YtclmooadpoojeaaW.PrintMore
theorem cell_Sorted_l0 (l : List Cell) (hn : l.length ≤ 140737488355328) (d : Nat) : ∀ i : Nat, i ≤ l.length → l.length - i = d → Ev (fun k => cell_Sorted.l0 k l l (l.length : Int) (i : Int)) (sortedFrom l i d) := by
 induction d with
 | zero =>
  intro i hi hd
  refine Ev.step (f := fun _ => some true) (fun k => ?_) (Ev.now _)
  simp only [cell_Sorted.l0]
  rw [if_neg (by omega)]
 | succ d ih =>
  intro i hi hd
  have hlt : i < l.length := by omega
  have hr := rdC_at l i hlt
  unfold rdC at hr
  have jt : Ev (fun k => cell_Sorted.j1 k l l (l.length : Int) (i : Int) true) false := Ev.step (f := fun _ => some false) (fun k => by simp only [cell_Sorted.j1, if_true]) (Ev.now _)
  have jf : Ev (fun k => cell_Sorted.j1 k l l (l.length : Int) (i : Int) false) (sortedFrom l (i + 1) d) := Ev.step (f := fun k => cell_Sorted.l0 k l l (l.length : Int) ((i + 1 : Nat) : Int)) (fun k => by simp only [cell_Sorted.j1, Bool.false_eq_true, if_false]; rw [w64 (by omega) (by omega)]; rfl) (ih (i + 1) (by omega) (by omega))
  unfold sortedFrom
  refine Ev.step (fun k => by simp only [cell_Sorted.l0]; rw [if_pos (by omega), if_pos (by omega), if_pos (by omega), hr]) (Ev.bind (Ev.eq (cell_Right_eq _ _ _ _ _)) ?_)
  by_cases hc : rightC l[i] = true
  ·
   refine Ev.pos hc ?_
   by_cases h0 : 0 < i
   ·
    have hr1 := rdC_at l (i - 1) (by omega)
    unfold rdC at hr1
    have hi1 : wrap64 ((i : Int) - 1) = ((i - 1 : Nat) : Int) := by rw [w64 (by omega) (by omega)]; omega
    refine Ev.pos (by omega) ?_
    rw [hi1, hr1, chkC_pos hlt h0, hc, Bool.true_and]
    refine Ev.pos (by omega) (Ev.pos (by omega) (Ev.bind (cell_CC_ev _ _) ?_))
    have hin := cc_in (l[i-1]'(by omega)) l[i]
    by_cases h1 : cc (l[i-1]'(by omega)) l[i] = -1
    ·
     rw [h1]
     exact jf
    ·
     rw [show (cc (l[i-1]'(by omega)) l[i] == -1) = false by simpa using h1, Bool.false_and, decide_eq_true (by omega)]
     exact jt
   ·
    have : i = 0 := by omega
    subst this
    rw [chkC_zero hlt, hc, Bool.true_and]
    exact Ev.neg (by omega) jf
  ·
   have hc' : rightC l[i] = false := by simpa using hc
   refine Ev.neg hc (jt.to ?_)
   by_cases h0 : 0 < i
   ·
    rw [chkC_pos hlt h0, hc']
    rfl
   ·
    have : i = 0 := by omega
    subst this
    rw [chkC_zero hlt, hc']
    rfl
theorem cell_Sorted_ev {l : List Cell} (hn : l.length ≤ 140737488355328) : Ev (fun k => cell_Sorted.f k l) (sortedC l) := by
 unfold cell_Sorted.f sortedC
 exact cell_Sorted_l0 l hn l.length 0 (by omega) (by omega)
end Go.Proofs.Ytclmooadpoojeaa.Pl
/- The printed checksums answer the plain one. -/
namespace Go.Proofs.Ytclmooadpoojeaa.Pl
open Go.RowKit Go.Proofs.Ytclmooadpoojeaa.X Go.Proofs.YtclmooadpoojeaaW.PrintWords Go.Proofs.YtclmooadpoojeaaW.PrintLast Go.Proofs.YtclmooadpoojeaaW.PrintMore
theorem rd_at (l : List Int) (i : Nat) (h : i < l.length) : rd l (i : Int) = l[i] := by
 simp [rd, List.getD_eq_getElem?_getD, List.getElem?_eq_getElem h]
theorem bit_eq {x : Nat} (h : x < 4294967296) : check_word_eight.bit (x : Int) = (bitN x : Int) := by
 unfold check_word_eight.bit bitN
 rw [bits_one32 h]
 have hd : (x : Int) / 2 = ((x / 2 : Nat) : Int) := by omega
 rw [hd]
 by_cases h1 : x % 2 = 1
 ·
  rw [if_pos (by omega), if_pos h1]
  exact bits_xor32 (a := x / 2) (b := 2197175160) (by omega) (by omega)
 ·
  rw [if_neg (by omega), if_neg h1]
theorem go_eq : ∀ (m : Nat) {x : Nat}, x < 4294967296 → check_word_eight.go m (x : Int) = (goN m x : Int)
 | 0, _, _ => rfl
 | m + 1, x, h => by
  rw [check_word_eight.go, bit_eq h, go_eq m (bitN_lt h)]
  rfl
theorem eight_eq {w : Nat} {c : Int} (hw : w < 4294967296) (hc : 0 ≤ c ∧ c < 256) : check_word_eight.f (w : Int) c = some (stepN w c.toNat : Int) := by
 have hc1 : c % 4294967296 = ((c.toNat : Nat) : Int) := by omega
 have hc2 : c.toNat < 4294967296 := by omega
 unfold check_word_eight.f
 rw [hc1, bits_xor32 hw hc2, go_eq 8 (Nat.xor_lt_two_pow (n := 32) hw hc2)]
 rfl
theorem more_l0 {l : List Int} (hb : Bytes l) (hl : l.length ≤ 140737488355328) (d : Nat) : ∀ (i w : Nat), i ≤ l.length → l.length - i = d → w < 4294967296 →
  Ev (fun k => check_More.l0 k (w : Int) l (l.length : Int) (i : Int)) ((4294967295 - crcN w (l.drop i) : Nat) : Int) := by
 induction d with
 | zero =>
  intro i w hi hd hw
  rw [List.drop_eq_nil_of_le (by omega)]
  refine Ev.step (f := fun _ => some ((4294967295 - w : Nat) : Int)) (fun k => ?_) (Ev.now _)
  simp only [check_More.l0]
  rw [if_neg (by omega), bits_all32 hw]
 | succ d ih =>
  intro i w hi hd hw
  have h1 : i < l.length := by omega
  have hc := hb _ (List.getElem_mem h1)
  rw [List.drop_eq_getElem_cons h1]
  refine Ev.step (f := fun k => check_More.l0 k ((stepN w (l[i]).toNat : Nat) : Int) l (l.length : Int) ((i + 1 : Nat) : Int)) (fun k => ?_) (ih (i + 1) (stepN w (l[i]).toNat) (by omega) (by omega) (stepN_lt hw (by omega)))
  simp only [check_More.l0]
  rw [if_pos (by omega), if_pos (by omega), if_pos (by omega), rd_at _ _ h1, eight_eq hw hc, w64 (by omega) (by omega)]
  rfl
theorem check_Sum_ev {l : List Int} (hb : Bytes l) (hl : l.length ≤ 140737488355328) : Ev (fun k => check_Sum.f k l) (crcSum l) := by
 unfold check_Sum.f check_More.f
 have h := more_l0 hb hl l.length 0 4294967295 (by omega) (by omega) (by omega)
 rw [List.drop_zero, ← crcSum_def] at h
 have e : Go.bits .xor .u32 0 4294967295 = ((4294967295 : Nat) : Int) := bits_xor32 (a := 0) (b := 4294967295) (by omega) (by omega)
 rw [e]
 exact Ev.bind h (Ev.now _)
end Go.Proofs.Ytclmooadpoojeaa.Pl
/- slices.Equal of bytes. -/
namespace Go.Proofs.Ytclmooadpoojeaa.Pl
open Go.RowKit Go.Proofs.Ytclmooadpoojeaa.X Go.Proofs.YtclmooadpoojeaaW.PrintWords Go.Proofs.YtclmooadpoojeaaW.PrintLast Go.Proofs.YtclmooadpoojeaaW.PrintMore
theorem rd_nat (l : List Int) (i : Nat) (h : i < l.length) : rd l (i : Int) = l[i] := by
 simp [rd, List.getD_eq_getElem?_getD, List.getElem?_eq_getElem h]
theorem equal_l0 (l m : List Int) (hm : l.length = m.length) (hl : l.length ≤ 140737488355328) (d : Nat) : ∀ i : Nat, i ≤ l.length → l.length - i = d →
  Ev (fun k => slices_Equal_byte_byte.l0 k l m (l.length : Int) (i : Int)) (decide (l.drop i = m.drop i)) := by
 induction d with
 | zero =>
  intro i hi hd
  refine Ev.step (f := fun _ => some true) (fun k => ?_) ?_
  ·
   simp only [slices_Equal_byte_byte.l0]
   rw [if_neg (by omega)]
  ·
   rw [List.drop_eq_nil_of_le (by omega), List.drop_eq_nil_of_le (by omega)]
   exact Ev.now _
 | succ d ih =>
  intro i hi hd
  have h1 : i < l.length := by omega
  have h2 : i < m.length := by omega
  rw [List.drop_eq_getElem_cons h1, List.drop_eq_getElem_cons h2]
  by_cases he : l[i] = m[i]
  ·
   refine Ev.step (f := fun k => slices_Equal_byte_byte.l0 k l m (l.length : Int) ((i + 1 : Nat) : Int)) (fun k => ?_) ((ih (i + 1) (by omega) (by omega)).to (by simp only [he, List.cons.injEq, true_and]))
   simp only [slices_Equal_byte_byte.l0]
   rw [if_pos (by omega), if_pos (by omega), if_pos (by omega), if_pos (by omega), rd_nat _ _ h1, rd_nat _ _ h2, if_pos he, w64 (by omega) (by omega)]
   rfl
  ·
   refine Ev.step (f := fun _ => some false) (fun k => ?_) ((Ev.now false).to (by simp only [List.cons.injEq, he, false_and, decide_false]))
   simp only [slices_Equal_byte_byte.l0]
   rw [if_pos (by omega), if_pos (by omega), if_pos (by omega), if_pos (by omega), rd_nat _ _ h1, rd_nat _ _ h2, if_neg he]
theorem equal_ev {l m : List Int} (hl : l.length ≤ 140737488355328) : Ev (fun k => slices_Equal_byte_byte.f k l m) (decide (l = m)) := by
 unfold slices_Equal_byte_byte.f
 by_cases h : l.length = m.length
 ·
  refine Ev.pos (by omega) ?_
  have := equal_l0 l m h hl l.length 0 (by omega) (by omega)
  simpa using this
 ·
  refine Ev.neg (by omega) ((Ev.now false).to ?_)
  symm
  rw [decide_eq_false_iff_not]
  intro e
  exact h (by rw [e])
end Go.Proofs.Ytclmooadpoojeaa.Pl
/- Frames: put: the printed functions answer the plain ones. -/
namespace Go.Proofs.Ytclmooadpoojeaa.Pl
open Go.RowKit Go.Proofs.Ytclmooadpoojeaa.X Go.Proofs.YtclmooadpoojeaaW.PrintWords Go.Proofs.YtclmooadpoojeaaW.PrintLast Go.Proofs.YtclmooadpoojeaaW.PrintMore
theorem frame_sum_ev {l : List Int} (hb : Bytes l) (hl : l.length ≤ 140737488355328) : Ev (fun k => frame_sum.f k l) (sumB l) := by
 unfold frame_sum.f
 refine Ev.bind (check_Sum_ev hb hl) ?_
 obtain ⟨h0, h1⟩ := crcSum_in l
 rw [w64 (by omega) (by omega), wire_Num_eq]
 exact Ev.now _
end Go.Proofs.Ytclmooadpoojeaa.Pl
/- A block's bytes: the printed functions answer the plain one. -/
namespace Go.Proofs.Ytclmooadpoojeaa.Pl
open Go.RowKit Go.Proofs.Ytclmooadpoojeaa.X Go.Proofs.YtclmooadpoojeaaW.PrintWords Go.Proofs.YtclmooadpoojeaaW.PrintLast Go.Proofs.YtclmooadpoojeaaW.PrintMore
end Go.Proofs.Ytclmooadpoojeaa.Pl
/- Frames: cut: the printed function answers the plain one. -/
namespace Go.Proofs.Ytclmooadpoojeaa.Pl
open Go.RowKit Go.Proofs.Ytclmooadpoojeaa.X Go.Proofs.YtclmooadpoojeaaW.PrintWords Go.Proofs.YtclmooadpoojeaaW.PrintLast Go.Proofs.YtclmooadpoojeaaW.PrintMore
theorem head_iff {b : List Int} (hb : Bytes b) (h12 : 12 ≤ b.length) (s : List Int) : b.take 12 = b.take 4 ++ (sumB (b.take 4) ++ sumB s) ↔ val4 (b.drop 4) = crcSum (b.take 4) ∧ val4 (b.drop 8) = crcSum s := by
 have e12 : b.take 12 = b.take 4 ++ ((b.drop 4).take 4 ++ (b.drop 8).take 4) := by
  rw [show 12 = 4 + (4 + 4) from rfl, List.take_add, List.take_add, List.drop_drop]
 have n4 := num_val4 (hb.drop 4) (by rw [List.length_drop]; omega)
 have n8 := num_val4 (hb.drop 8) (by rw [List.length_drop]; omega)
 obtain ⟨a0, a1⟩ := crcSum_in (b.take 4)
 obtain ⟨b0, b1⟩ := crcSum_in s
 obtain ⟨c0, c1⟩ := val4_nonneg (hb.drop 4) (by rw [List.length_drop]; omega)
 obtain ⟨d0, d1⟩ := val4_nonneg (hb.drop 8) (by rw [List.length_drop]; omega)
 rw [e12, List.append_cancel_left_eq, ← n4, ← n8]
 constructor
 ·
  intro h
  have h1 := List.append_inj h (by rw [sumB_length, num_length c0 c1])
  have v1 := congrArg val4 (show num (val4 (b.drop 4)) ++ [] = num (crcSum (b.take 4)) ++ [] by have e := h1.1; unfold sumB at e; rw [e])
  have v2 := congrArg val4 (show num (val4 (b.drop 8)) ++ [] = num (crcSum s) ++ [] by have e := h1.2; unfold sumB at e; rw [e])
  rw [val4_num c0 c1, val4_num a0 a1] at v1
  rw [val4_num d0 d1, val4_num b0 b1] at v2
  exact ⟨v1, v2⟩
 ·
  rintro ⟨h1, h2⟩
  rw [h1, h2]
  rfl
theorem frame_Cut_ev {b : List Int} (hb : Bytes b) (hl : b.length ≤ 140737488355328) : Ev (fun k => frame_Cut.f k b) (cutF b) := by
 have jt : ∀ n l, Ev (fun k => frame_Cut.j0 k n l true) ([], [], false) := fun n l => Ev.step (fun k => by simp only [frame_Cut.j0, if_true]) (Ev.now _)
 unfold frame_Cut.f
 by_cases h : b.length < 12
 ·
  rw [cutF_no (fun ho => by have := ho.1; omega)]
  exact Ev.pos (by omega) (Ev.now _)
 refine Ev.neg (by omega) (Ev.bind (wire_CutNum_ev hb hl) (Ev.pos (by omega) (Ev.bind (Ev.eq (clone_eq (by rw [List.length_drop]; omega))) ?_)))
 obtain ⟨g0, g1⟩ := val4_nonneg hb (by omega)
 have hcn : cutNum b = (val4 b, b.drop 4, true) := by unfold cutNum; rw [if_neg (by omega)]
 rw [hcn]
 simp only
 have hd : ((b.drop 12).length : Int) = (b.length : Int) - 12 := by rw [List.length_drop]; omega
 by_cases h1 : val4 b > 65535
 ·
  rw [cutF_no (fun ho => by have := ho.2.1; omega)]
  exact Ev.pos h1 (jt _ _)
 refine Ev.neg h1 ?_
 by_cases h2 : val4 b > ((b.drop 12).length : Int)
 ·
  rw [cutF_no (fun ho => by have := ho.2.2.1; omega)]
  exact Ev.pos h2 (jt _ _)
 refine Ev.neg h2 (Ev.pos (by omega) (Ev.bind (Ev.now _) (Ev.bind (frame_sum_ev (hb.take 4) (by rw [List.length_take]; omega)) (Ev.pos g0 (Ev.pos (by omega) (Ev.bind (frame_sum_ev ((hb.drop 12).take _) (by rw [List.length_take, List.length_drop]; omega)) ?_))))))
 have s1 := sumB_length (b.take 4)
 have s2 := sumB_length ((b.drop 12).take (val4 b).toNat)
 refine Ev.bind (Ev.eq (concat_eq ?_)) (Ev.bind (equal_ev (by rw [List.length_take]; omega)) ?_)
 ·
  simp only [lenSum, List.map_cons, List.map_nil, List.sum_cons, List.sum_nil, List.length_take]
  omega
 have hc : [b.take 4, sumB (b.take 4), sumB ((b.drop 12).take (val4 b).toNat)].flatten = b.take 4 ++ (sumB (b.take 4) ++ sumB ((b.drop 12).take (val4 b).toNat)) := by simp
 rw [hc]
 have hi := head_iff hb (by omega) ((b.drop 12).take (val4 b).toNat)
 by_cases ho : okF b
 ·
  have h45 : val4 (b.drop 4) = crcSum (b.take 4) ∧ val4 (b.drop 8) = crcSum ((b.drop 12).take (val4 b).toNat) := ⟨ho.2.2.2.1, ho.2.2.2.2⟩
  rw [decide_eq_true (hi.2 h45)]
  unfold cutF
  rw [if_pos ho]
  refine Ev.step (fun k => by simp only [frame_Cut.j0, Bool.not_true, Bool.false_eq_true, if_false]; rfl) (Ev.pos g0 (Ev.pos (by omega) (Ev.now _)))
 ·
  have h45 : ¬ (val4 (b.drop 4) = crcSum (b.take 4) ∧ val4 (b.drop 8) = crcSum ((b.drop 12).take (val4 b).toNat)) := fun hh => ho ⟨by omega, by omega, by omega, hh.1, hh.2⟩
  rw [decide_eq_false (fun e => h45 (hi.1 e)), cutF_no ho]
  exact jt _ _
end Go.Proofs.Ytclmooadpoojeaa.Pl
/- A block, read: the printed function answers the plain one. -/
namespace Go.Proofs.Ytclmooadpoojeaa.Pl
open Go.RowKit Go.Proofs.Ytclmooadpoojeaa.X Go.Proofs.YtclmooadpoojeaaW.PrintWords Go.Proofs.YtclmooadpoojeaaW.PrintLast Go.Proofs.YtclmooadpoojeaaW.PrintMore
def mkCell (x : Cut7) : Cell := ⟨x.1, x.2.1, x.2.2.1, x.2.2.2.1, x.2.2.2.2.1⟩
def loopC : Nat → List Int → List Cell → List Cell × Bool
 | 0, b, out => (out, decide (b.length = 0))
 | n + 1, b, out => if (cutCell b).2.2.2.2.2.2 = true then loopC n (cutCell b).2.2.2.2.2.1 (out ++ [mkCell (cutCell b)]) else (out ++ [mkCell (cutCell b)], false)
theorem cutCell_rest_ok {b : List Int} (hb : Bytes b) : Bytes (cutCell b).2.2.2.2.2.1 ∧ (cutCell b).2.2.2.2.2.1.length ≤ b.length := by
 have b1 := cutText_rest_bytes hb
 have l1 := cutText_rest_le (b := b)
 have b2 := cutText_rest_bytes b1
 have l2 := cutText_rest_le (b := (cutText b).2.1)
 obtain ⟨b3, l3⟩ := cutNum_bytes' b2
 obtain ⟨b4, l4⟩ := cutFlag_bytes b3
 have b5 := cutText_rest_bytes b4
 have l5 := cutText_rest_le (b := (cutFlag (cutNum (cutText (cutText b).2.1).2.1).2.1).2.1)
 unfold cutCell
 dsimp only
 split
 ·
  exact ⟨b5, Nat.le_trans l5 (Nat.le_trans l4 (Nat.le_trans l3 (Nat.le_trans l2 l1)))⟩
 ·
  exact ⟨Bytes.nil, by simp⟩
theorem cells_l0 (n : Nat) : ∀ (b : List Int) (out : List Cell), Bytes b → b.length ≤ 140737488355328 → n ≤ 4294967295 → out.length + n ≤ 4294967295 → Ev (fun k => block_cells.l0 k b (n : Int) true out) (loopC n b out) := by
 induction n with
 | zero =>
  intro b out hb hl hn ho
  refine Ev.step (f := fun _ => some (out, ((b.length : Int) == 0))) (fun k => ?_) ((Ev.now _).to ?_)
  ·
   simp only [block_cells.l0, if_true]
   rw [if_neg (by omega)]
  ·
   unfold loopC
   congr 1
   rw [Bool.eq_iff_iff, beq_iff_eq, decide_eq_true_iff]
   omega
 | succ n ih =>
  intro b out hb hl hn ho
  have hr := cutCell_rest_ok hb
  refine Ev.step (fun k => by simp only [block_cells.l0, if_true]; rw [if_pos (by omega)]) ?_
  refine Ev.bind (cell_Cut_ev hb hl) ?_
  refine Ev.pos (by omega) ?_
  rw [show wrap64 (((n + 1 : Nat) : Int) - 1) = (n : Int) by rw [w64 (by omega) (by omega)]; omega]
  unfold loopC
  cases hc : (cutCell b).2.2.2.2.2.2 with
  | true =>
   rw [if_pos rfl]
   exact ih _ _ hr.1 (Nat.le_trans hr.2 hl) (by omega) (by rw [List.length_append, List.length_singleton]; omega)
  | false =>
   rw [if_neg Bool.false_ne_true]
   exact Ev.step (f := fun _ => some (out ++ [mkCell (cutCell b)], false)) (fun k => by simp only [block_cells.l0, Bool.false_eq_true, if_false]; rfl) (Ev.now _)
def cellsB (b : List Int) : List Cell × Bool := if b.length < 4 then ([], false) else loopC (val4 b).toNat (b.drop 4) []
theorem cells_ev {b : List Int} (hb : Bytes b) (hl : b.length ≤ 140737488355328) : Ev (fun k => block_cells.f k b) (cellsB b) := by
 unfold block_cells.f cellsB
 refine Ev.bind (wire_CutNum_ev hb hl) ?_
 unfold cutNum
 by_cases h : b.length < 4
 ·
  rw [if_pos h, if_pos h]
  exact Ev.step (f := fun _ => some ([], false)) (fun k => by simp only [block_cells.l0, Bool.false_eq_true, if_false]) (Ev.now _)
 ·
  rw [if_neg h, if_neg h]
  obtain ⟨g0, g1⟩ := val4_nonneg hb (by omega)
  have := cells_l0 (val4 b).toNat (b.drop 4) [] (hb.drop 4) (by rw [List.length_drop]; omega) (by omega) (by simp; omega)
  rw [show (((val4 b).toNat : Nat) : Int) = val4 b by omega] at this
  exact this
def getB (b : List Int) : List Cell × List Int × Int := if (cutF b).2.2 = true ∧ (cellsB (cutF b).1).2 = true ∧ (cellsB (cutF b).1).1.length ≠ 0 ∧ sortedC (cellsB (cutF b).1).1 = true then ((cellsB (cutF b).1).1, (cutF b).2.1, 0) else ([], [], 2)
theorem loopC_length (n : Nat) : ∀ (b : List Int) (out : List Cell), (loopC n b out).1.length ≤ out.length + n
 := by
 induction n with
 | zero => intro b out; unfold loopC; simp
 | succ n ih =>
  intro b out
  unfold loopC
  split
  ·
   have := ih (cutCell b).2.2.2.2.2.1 (out ++ [mkCell (cutCell b)])
   rw [List.length_append, List.length_singleton] at this
   omega
  ·
   simp only [List.length_append, List.length_singleton]; omega
theorem cellsB_length {b : List Int} (hb : Bytes b) : (cellsB b).1.length ≤ 4294967295 := by
 unfold cellsB
 by_cases h : b.length < 4
 ·
  rw [if_pos h]; simp
 ·
  rw [if_neg h]
  obtain ⟨g0, g1⟩ := val4_nonneg hb (by omega)
  have := loopC_length (val4 b).toNat (b.drop 4) []
  simp only [List.length_nil] at this
  omega
theorem cutF_rec_bytes {b : List Int} (hb : Bytes b) : Bytes (cutF b).1 ∧ (cutF b).1.length ≤ b.length ∧ (cutF b).2.1.length ≤ b.length := by
 unfold cutF
 split
 ·
  refine ⟨(hb.drop 12).take _, ?_, ?_⟩
  ·
   simp only [List.length_take, List.length_drop]; omega
  ·
   simp only [List.length_drop]; omega
 ·
  exact ⟨Bytes.nil, by simp, by simp⟩
theorem block_Get_ev {b : List Int} (hb : Bytes b) (hl : b.length ≤ 140737488355328) : Ev (fun k => block_Get.f k b) (getB b) := by
 obtain ⟨hrb, hrl, hsl⟩ := cutF_rec_bytes hb
 have hcl := cellsB_length hrb
 have jt : ∀ (x : List Int) (l : List Cell), Ev (fun k => block_Get.j0 k x l true) ([], [], 2) := fun x l => Ev.step (f := fun _ => some ([], [], 2)) (fun k => by simp only [block_Get.j0, if_true]) (Ev.now _)
 have jf : ∀ (x : List Int) (l : List Cell), x.length ≤ 140737488355328 → Ev (fun k => block_Get.j0 k x l false) (l, x, 0) := fun x l h => by
  refine Ev.step (f := fun _ => some (l, x, 0)) (fun k => ?_) (Ev.now _)
  simp only [block_Get.j0, Bool.false_eq_true, if_false]
  unfold slices_Clone_byte_byte.f
  rw [if_pos (by omega)]
  rfl
 unfold block_Get.f getB
 refine Ev.bind (frame_Cut_ev hb hl) ?_
 cases hc : (cutF b).2.2 with
 | false =>
  rw [if_neg (by simp)]
  exact Ev.neg Bool.false_ne_true (Ev.now _)
 | true =>
  refine Ev.pos rfl (Ev.bind (cells_ev hrb (by omega)) ?_)
  cases h2 : (cellsB (cutF b).1).2 with
  | false =>
   rw [if_neg (by simp)]
   exact Ev.neg Bool.false_ne_true (jt _ _)
  | true =>
   refine Ev.pos rfl ?_
   by_cases h0 : (cellsB (cutF b).1).1.length = 0
   ·
    rw [if_neg (by simp [h0])]
    exact Ev.pos (by omega) (jt _ _)
   ·
    refine Ev.neg (by omega) ?_
    refine Ev.bind (cell_Sorted_ev (by omega)) ?_
    cases hs : sortedC (cellsB (cutF b).1).1 with
    | false =>
     rw [if_neg (by simp)]
     exact jt _ _
    | true =>
     rw [if_pos ⟨rfl, rfl, h0, rfl⟩]
     exact jf _ _ (by omega)
end Go.Proofs.Ytclmooadpoojeaa.Pl
/- The reference's block, read. -/
namespace Go.Proofs.Ytclmooadpoojeaa.Pl
open Go.RowKit Go.Proofs.Ytclmooadpoojeaa.X Go.Proofs.YtclmooadpoojeaaW.PrintWords Go.Proofs.YtclmooadpoojeaaW.PrintLast Go.Proofs.YtclmooadpoojeaaW.PrintMore
def refG (r : List Int) (x : List Cell × Bool) : List Cell × Int := if x.2 = true ∧ sortedC x.1 = true then (x.1, 12 + (r.length : Int)) else ([], 0)
theorem ref_BGet_l0 {r : List Int} (hb : Bytes r) (hl : r.length ≤ 65535) {n : Int} (hn : 1 ≤ n) (hn2 : n ≤ 4294967295) (d : Nat) : ∀ (i a : Nat) (out : List Cell), ((i : Int) + d = n) → a ≤ r.length → out.length ≤ a → RightsC out → Ev (fun k => shardlogref10_Get.l0 k r n (a : Int) out (i : Int)) (refG r (loopC d (r.drop a) out)) := by
 induction d with
 | zero =>
  intro i a out hi ha ho hr
  refine Ev.step (fun k => by simp only [shardlogref10_Get.l0]; rw [if_neg (by omega), if_neg (by omega)]) ?_
  unfold loopC refG
  by_cases h : a = r.length
  ·
   refine Ev.pos (by omega) (Ev.bind (ref_Sorted_ev (fun x hx => sized_of_right (hr x hx)) (by omega)) ?_)
   have hd : (r.drop a).length = 0 := by rw [List.length_drop]; omega
   simp only [hd, decide_true, true_and]
   cases hs : sortedC out with
   | true => exact Ev.pos rfl ((Ev.now _).to (by rw [if_pos rfl, w64 (by omega) (by omega)]))
   | false => exact Ev.neg Bool.false_ne_true ((Ev.now _).to (by rw [if_neg Bool.false_ne_true]))
  ·
   have hd : ¬ (r.drop a).length = 0 := by rw [List.length_drop]; omega
   exact Ev.neg (by omega) ((Ev.now _).to (by rw [decide_eq_false hd, if_neg (fun h => Bool.false_ne_true h.1)]))
 | succ d ih =>
  intro i a out hi ha ho hr
  refine Ev.step (fun k => by simp only [shardlogref10_Get.l0]; rw [if_pos (by omega)]) (Ev.bind (ref_CCut_ev hb (by omega) ha) ?_)
  unfold loopC
  cases hc : (cutCell (r.drop a)).2.2.2.2.2.2 with
  | false =>
   have e : refCut r a = (⟨#[]⟩, ⟨#[]⟩, 0, ⟨#[]⟩, false, 0) := by unfold refCut; rw [hc, if_neg Bool.false_ne_true]
   rw [e, if_neg Bool.false_ne_true]
   exact Ev.pos rfl ((Ev.now _).to (by unfold refG; simp))
  | true =>
   obtain ⟨m, m0, m1, m2⟩ := cutCell_rest hc
   have e : refCut r a = ((cutCell (r.drop a)).1, (cutCell (r.drop a)).2.1, (cutCell (r.drop a)).2.2.1, (cutCell (r.drop a)).2.2.2.1, (cutCell (r.drop a)).2.2.2.2.1, (m : Int)) := by
    unfold refCut
    rw [hc, if_pos rfl, m2, List.length_drop]
    simp only [Prod.mk.injEq, true_and]
    omega
   rw [e, if_pos rfl, m2]
   refine Ev.neg (by simp only; omega) (Ev.pos (by omega) ?_)
   simp only
   rw [show wrap64 ((a : Int) + (m : Int)) = ((a + m : Nat) : Int) by rw [w64 (by omega) (by omega)]; omega, show wrap64 ((i : Int) + 1) = ((i + 1 : Nat) : Int) by rw [w64 (by omega) (by omega)]; omega]
   refine ih (i + 1) (a + m) _ (by omega) m1 (by rw [List.length_append, List.length_singleton]; omega) ?_
   intro x hx
   rcases List.mem_append.1 hx with hx | hx
   ·
    exact hr x hx
   ·
    rw [List.mem_singleton.1 hx]
    exact cutCell_right hc
theorem loopC_ge (n : Nat) : ∀ (b : List Int) (out : List Cell), out.length ≤ (loopC n b out).1.length := by
 induction n with
 | zero => intro b out; unfold loopC; exact Nat.le_refl _
 | succ n ih =>
  intro b out
  unfold loopC
  split
  ·
   refine Nat.le_trans ?_ (ih _ _)
   rw [List.length_append]
   exact Nat.le_add_right _ _
  ·
   simp only [List.length_append]; omega
theorem loopC_some (n : Nat) (b : List Int) (out : List Cell) (_h : (loopC (n + 1) b out).2 = true) : (loopC (n + 1) b out).1.length ≠ 0 := by
 unfold loopC
 split
 ·
  have := loopC_ge n (cutCell b).2.2.2.2.2.1 (out ++ [mkCell (cutCell b)])
  rw [List.length_append, List.length_singleton] at this
  omega
 ·
  simp only [List.length_append, List.length_singleton]; omega
theorem loopC_le (n : Nat) : ∀ (b : List Int) (out : List Cell), (loopC n b out).2 = true → (loopC n b out).1.length ≤ out.length + b.length := by
 induction n with
 | zero => intro b out _; unfold loopC; exact Nat.le_add_right _ _
 | succ n ih =>
  intro b out h
  unfold loopC at h ⊢
  cases hc : (cutCell b).2.2.2.2.2.2 with
  | false =>
   rw [hc, if_neg Bool.false_ne_true] at h
   cases h
  | true =>
   rw [hc, if_pos rfl] at h
   rw [if_pos rfl]
   obtain ⟨m, m0, m1, m2⟩ := cutCell_rest (b := b) (i := 0) (by rw [List.drop_zero]; exact hc)
   rw [List.drop_zero] at m2
   have := ih _ _ h
   rw [m2, List.length_append, List.length_singleton, List.length_drop] at this
   rw [m2]
   omega
theorem getB_length {b : List Int} (hb : Bytes b) : (getB b).1.length ≤ b.length := by
 unfold getB
 split
 ·
  rename_i hq
  have h2 := hq.2.1
  have hl := (cutF_rec_bytes hb).2.1
  unfold cellsB at h2 ⊢
  simp only
  split at h2
  ·
   cases h2
  ·
   rename_i h4
   rw [if_neg h4]
   have := loopC_le _ _ _ h2
   rw [List.length_drop] at this
   simp only [List.length_nil] at this
   omega
 ·
  simp
def refGetB (b : List Int) : List Cell × Int := if (getB b).2.2 = 0 then ((getB b).1, 12 + ((cutF b).1.length : Int)) else ([], 0)
theorem getB_code (b : List Int) : (getB b).2.2 = 0 ∨ getB b = ([], [], 2) := by
 unfold getB
 split
 ·
  exact .inl rfl
 ·
  exact .inr rfl
theorem ref_BGet_ev {b : List Int} (hb : Bytes b) (hl : b.length ≤ 1000000) : Ev (fun k => shardlogref10_Get.f k b) (refGetB b) ∧ ((getB b).2.2 = 0 → (getB b).2.1 = b.drop (12 + (cutF b).1.length) ∧ 12 + (cutF b).1.length ≤ b.length) := by
 obtain ⟨l, s, rfl, hr, hs, ho⟩ := scan_form b.length b (Nat.le_refl _) hb
 have hsc := ref_FScan_ev hr hs ho hl
 cases l with
 | nil =>
  rw [frames_nil, List.nil_append] at *
  have hc := cutF_no ho
  have hg : getB s = ([], [], 2) := by
   unfold getB
   rw [hc, if_neg (by simp)]
  refine ⟨?_, fun h => by rw [hg] at h; cases h⟩
  unfold shardlogref10_Get.f refGetB
  rw [hg]
  refine Ev.bind hsc (Ev.pos rfl ((Ev.now _).to ?_))
  rw [if_neg (by decide)]
 | cons r l =>
  obtain ⟨hr1, hr2⟩ := hr r List.mem_cons_self
  have hf := frame_length hr1
  have e : frames (r :: l) ++ s = frame r ++ (frames l ++ s) := by rw [frames_cons, List.append_assoc]
  have hc : cutF (frames (r :: l) ++ s) = (r, frames l ++ s, true) := by rw [e]; exact cutF_frame hr1 _
  have hd : (frames (r :: l) ++ s).drop (12 + r.length) = frames l ++ s := by rw [e, ← hf, List.drop_left]
  have hle : 12 + r.length ≤ (frames (r :: l) ++ s).length := by rw [e, List.length_append]; omega
  refine ⟨?_, fun h => ?_⟩
  ·
   unfold shardlogref10_Get.f
   refine Ev.bind hsc ?_
   simp only [List.length_cons]
   refine Ev.neg (by omega) (Ev.pos (by omega) ?_)
   have a0 := At_eq (i := 0) hr2 (by omega) (by omega)
   simp only [show rd_L5 (r :: l) 0 = r from rfl]
   refine Ev.bind (Ev.eq a0) ?_
   unfold refGetB getB numAt cellsB
   rw [hc]
   simp only [true_and, Nat.zero_add, List.drop_zero]
   by_cases h4 : r.length < 4
   ·
    rw [if_pos h4, if_pos h4]
    refine Ev.step (f := fun _ => some ([], 0)) (fun k => ?_) ((Ev.now _).to (by simp))
    simp only [shardlogref10_Get.l0]
    rw [if_neg (by omega), if_pos (by omega)]
   ·
    rw [if_neg h4, if_neg h4]
    obtain ⟨g0, g1⟩ := val4_nonneg hr2 (by omega)
    by_cases h0 : val4 r = 0
    ·
     rw [h0]
     refine Ev.step (f := fun _ => some ([], 0)) (fun k => ?_) ((Ev.now _).to ?_)
     ·
      simp only [shardlogref10_Get.l0]
      rw [if_neg (by omega), if_pos (by omega)]
     ·
      simp [loopC]
    ·
     have := ref_BGet_l0 hr2 hr1 (n := val4 r) (by omega) (by omega) (val4 r).toNat 0 4 [] (by omega) (by omega) (by simp) (fun x hx => by cases hx)
     refine this.to ?_
     unfold refG
     have hz : (loopC (val4 r).toNat (r.drop 4) []).2 = true → (loopC (val4 r).toNat (r.drop 4) []).1.length ≠ 0 := by
      obtain ⟨m, hm⟩ : ∃ m, (val4 r).toNat = m + 1 := ⟨(val4 r).toNat - 1, by omega⟩
      rw [hm]
      intro h
      exact loopC_some m _ _ h
     by_cases h2 : (loopC (val4 r).toNat (r.drop 4) []).2 = true ∧ sortedC (loopC (val4 r).toNat (r.drop 4) []).1 = true
     ·
      have h5 : (loopC (val4 r).toNat (r.drop 4) []).2 = true ∧ (loopC (val4 r).toNat (r.drop 4) []).1.length ≠ 0 ∧ sortedC (loopC (val4 r).toNat (r.drop 4) []).1 = true := ⟨h2.1, hz h2.1, h2.2⟩
      simp only [if_pos h2, if_pos h5, if_true]
     ·
      have h5 : ¬ ((loopC (val4 r).toNat (r.drop 4) []).2 = true ∧ (loopC (val4 r).toNat (r.drop 4) []).1.length ≠ 0 ∧ sortedC (loopC (val4 r).toNat (r.drop 4) []).1 = true) := fun h => h2 ⟨h.1, h.2.2⟩
      simp only [if_neg h2, if_neg h5]
      rw [if_neg (by decide)]
  ·
   unfold getB at h ⊢
   split at h
   ·
    rename_i hq
    rw [if_pos hq, hc]
    exact ⟨hd.symm, hle⟩
   ·
    cases h
end Go.Proofs.Ytclmooadpoojeaa.Pl
/- Cells are the same as themselves, by the reference. -/
namespace Go.Proofs.Ytclmooadpoojeaa.Pl
open Go.RowKit Go.Proofs.Ytclmooadpoojeaa.X Go.Proofs.YtclmooadpoojeaaW.PrintWords Go.Proofs.YtclmooadpoojeaaW.PrintLast Go.Proofs.YtclmooadpoojeaaW.PrintMore
theorem sameC_l0 (l : List Cell) (hl : l.length ≤ 1000000000) (d : Nat) : ∀ i : Nat, i ≤ l.length → l.length - i = d → Ev (fun k => shardlogref08_Same.l0 k l l (i : Int)) true := by
 induction d with
 | zero =>
  intro i hi hd
  refine Ev.step (f := fun _ => some true) (fun k => ?_) (Ev.now _)
  simp only [shardlogref08_Same.l0]
  rw [if_neg (by omega)]
 | succ d ih =>
  intro i hi hd
  refine Ev.step (f := fun k => shardlogref08_Same.l0 k l l ((i + 1 : Nat) : Int)) (fun k => ?_) (ih (i + 1) (by omega) (by omega))
  simp only [shardlogref08_Same.l0]
  rw [if_pos (by omega), if_pos (by omega), if_pos (by omega), if_neg (by simp), w64 (by omega) (by omega)]
  rfl
theorem sameC_ev {l m : List Cell} (e : l = m) (hl : l.length ≤ 1000000000) : Ev (fun k => shardlogref08_Same.f k l m) true := by
 subst e
 unfold shardlogref08_Same.f
 exact Ev.pos rfl (sameC_l0 l hl l.length 0 (by omega) (by omega))
end Go.Proofs.Ytclmooadpoojeaa.Pl
