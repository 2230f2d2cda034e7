/- The plain laws, and what the printed functions answer, in one text. -/
import Derived.Test.YteoklmfkofgfmaaWMore
import Derived.Laws.BitsLemmas
import Derived.Lib.Strings
import Derived.Test.YteoklmfkofgfmaaXx3
import Derived.Test.YteoklmfkofgfmaaXx4
import Derived.Test.YteoklmfkofgfmaaXx5
import Derived.Test.YteoklmfkofgfmaaWOwn
import Derived.Test.YteoklmfkofgfmaaXx2
import Derived.Test.YteoklmfkofgfmaaXx6
import Derived.Test.YteoklmfkofgfmaaXx7
/- Plain laws of numbers, texts and lists as bytes: no program in sight. -/
namespace Go.Proofs.Yteoklmfkofgfmaa.Pl
open Go.RowKit Go.Proofs.YteoklmfkofgfmaaW.PrintWords Go.Proofs.YteoklmfkofgfmaaW.PrintMore

def Bytes (l : List Int) : Prop := ∀ x ∈ l, 0 ≤ x ∧ x < 256
theorem wf_u8 {y : Int} (h : (Lit.int .u8 y).wf = true) : 0 ≤ y ∧ y < 256 := by
 simp [Lit.wf, IntKind.min, IntKind.max, IntKind.signed, IntKind.bits] at h
 omega
theorem wf_u16 {y : Int} (h : (Lit.int .u16 y).wf = true) : 0 ≤ y ∧ y < 65536 := by
 simp [Lit.wf, IntKind.min, IntKind.max, IntKind.signed, IntKind.bits] at h
 omega
theorem Bytes.nil : Bytes [] := fun _ h => by cases h
theorem Bytes.append {a b : List Int} (ha : Bytes a) (hb : Bytes b) : Bytes (a ++ b) := fun x hx => (List.mem_append.1 hx).elim (ha x) (hb x)
theorem Bytes.take {a : List Int} (ha : Bytes a) (n : Nat) : Bytes (a.take n) := fun x hx => ha x (List.mem_of_mem_take hx)
theorem Bytes.drop {a : List Int} (ha : Bytes a) (n : Nat) : Bytes (a.drop n) := fun x hx => ha x (List.mem_of_mem_drop hx)
theorem Bytes.cons {x : Int} {l : List Int} (h0 : 0 ≤ x) (h1 : x < 256) (h : Bytes l) : Bytes (x :: l) := fun y hy => (List.mem_cons.1 hy).elim (fun e => e ▸ ⟨h0, h1⟩) (h y)
theorem Bytes.of_append_left {a b : List Int} (h : Bytes (a ++ b)) : Bytes a := fun x hx => h x (List.mem_append_left _ hx)
theorem Bytes.of_append_right {a b : List Int} (h : Bytes (a ++ b)) : Bytes b := fun x hx => h x (List.mem_append_right _ hx)
theorem bytes_bytesOf (s : ByteArray) : Bytes (bytesOf s) := by
 intro x hx
 obtain ⟨b, _, rfl⟩ := List.mem_map.1 hx
 have := b.toNat_lt
 omega
theorem strOf_bytesOf (s : ByteArray) : strOfNums (bytesOf s) = s := by
 have h : ((bytesOf s).map fun n => UInt8.ofNat n.toNat) = s.data.toList := by
  rw [bytesOf, List.map_map]
  conv => rhs; rw [← List.map_id s.data.toList]
  refine List.map_congr_left fun b _ => ?_
  simp
 unfold strOfNums
 rw [h]
theorem bytesOf_strOf {l : List Int} (h : Bytes l) : bytesOf (strOfNums l) = l := by
 unfold bytesOf strOfNums
 simp only [List.map_map]
 conv => rhs; rw [← List.map_id l]
 refine List.map_congr_left fun x hx => ?_
 obtain ⟨h0, h1⟩ := h x hx
 obtain ⟨n, rfl⟩ := Int.eq_ofNat_of_zero_le h0
 have hn : n < 256 := by omega
 simp [Nat.mod_eq_of_lt hn]
theorem toList_inj {a b : ByteArray} (h : a.toList = b.toList) : a = b := by
 rw [ByteArray.toList_eq, ByteArray.toList_eq] at h
 obtain ⟨⟨a⟩⟩ := a
 obtain ⟨⟨b⟩⟩ := b
 simp at h
 rw [h]
theorem strOf_size (l : List Int) : (strOfNums l).size = l.length := by simp [strOfNums, ByteArray.size]
theorem bytesOf_size (s : ByteArray) : (bytesOf s).length = s.size := bytesOf_length s
theorem w64 {x : Int} (h0 : -9223372036854775808 ≤ x) (h1 : x < 9223372036854775808) : wrap64 x = x := by unfold wrap64; omega

theorem _root_.Go.Proofs.YteoklmfkofgfmaaW.PrintWords.Ev.pos {α : Type} {c : Prop} [Decidable c] {f g : Nat → Option α} {r : α} (hc : c) (h : Ev f r) : Ev (fun k => if c then f k else g k) r := by
 simpa only [if_pos hc] using h
theorem _root_.Go.Proofs.YteoklmfkofgfmaaW.PrintWords.Ev.neg {α : Type} {c : Prop} [Decidable c] {f g : Nat → Option α} {r : α} (hc : ¬ c) (h : Ev g r) : Ev (fun k => if c then f k else g k) r := by
 simpa only [if_neg hc] using h
theorem _root_.Go.Proofs.YteoklmfkofgfmaaW.PrintWords.Ev.eq {α : Type} {x : Option α} {r : α} (h : x = some r) : Ev (fun _ => x) r := by rw [h]; exact Ev.now r
theorem _root_.Go.Proofs.YteoklmfkofgfmaaW.PrintWords.Ev.to {α : Type} {g : Nat → Option α} {r r' : α} (h : Ev g r) (e : r = r') : Ev g r' := e ▸ h

theorem four_form {α : Type} {b : List α} (h : 4 ≤ b.length) : ∃ x0 x1 x2 x3 r, b = x0 :: x1 :: x2 :: x3 :: r := by
 match b, h with
 | x0 :: x1 :: x2 :: x3 :: r, _ => exact ⟨x0, x1, x2, x3, r, rfl⟩
def num (n : Int) : List Int := if n < 0 then [] else if n > 4294967295 then [] else [n / 16777216 % 256, n / 65536 % 256, n / 256 % 256, n % 256]
def text (s : ByteArray) : List Int := num s.size ++ bytesOf s
def texts (l : List ByteArray) : List Int := num l.length ++ (l.map text).flatten
def val4 (b : List Int) : Int := 16777216 * rd b 0 + 65536 * rd b 1 + 256 * rd b 2 + rd b 3
def cutNum (b : List Int) : Int × List Int × Bool := if b.length < 4 then (0, [], false) else (val4 b, b.drop 4, true)
def cutText (b : List Int) : ByteArray × List Int × Bool :=
 if b.length < 4 then (⟨#[]⟩, [], false) else if val4 b > ((b.length - 4 : Nat) : Int) then (⟨#[]⟩, [], false) else (strOfNums ((b.drop 4).take (val4 b).toNat), (b.drop 4).drop (val4 b).toNat, true)
def cutN : Nat → List Int → Option (List ByteArray × List Int)
 | 0, b => some ([], b)
 | n + 1, b => if (cutText b).2.2 = true then (cutN n (cutText b).2.1).map fun x => ((cutText b).1 :: x.1, x.2) else none
def cutTexts (b : List Int) : List ByteArray × List Int × Bool :=
 if b.length < 4 then ([], [], false) else match cutN (val4 b).toNat (b.drop 4) with
  | some x => (x.1, x.2, true)
  | none => ([], [], false)

theorem num_in {n : Int} (h0 : 0 ≤ n) (h1 : n ≤ 4294967295) : num n = [n / 16777216 % 256, n / 65536 % 256, n / 256 % 256, n % 256] := by
 unfold num
 rw [if_neg (by omega), if_neg (by omega)]
theorem num_length {n : Int} (h0 : 0 ≤ n) (h1 : n ≤ 4294967295) : (num n).length = 4 := by rw [num_in h0 h1]; rfl
theorem num_length_le (n : Int) : (num n).length ≤ 4 := by
 unfold num
 split
 ·
  simp
 ·
  split <;> simp
theorem bytes_num (n : Int) : Bytes (num n) := by
 unfold num
 split
 ·
  exact Bytes.nil
 ·
  split
  ·
   exact Bytes.nil
  ·
   refine Bytes.cons ?_ ?_ (Bytes.cons ?_ ?_ (Bytes.cons ?_ ?_ (Bytes.cons ?_ ?_ Bytes.nil))) <;> omega
theorem val4_num {n : Int} (h0 : 0 ≤ n) (h1 : n ≤ 4294967295) (r : List Int) : val4 (num n ++ r) = n := by
 rw [num_in h0 h1]
 simp [val4, rd]
 omega
theorem val4_nonneg {b : List Int} (h : Bytes b) (hl : 4 ≤ b.length) : 0 ≤ val4 b ∧ val4 b ≤ 4294967295 := by
 match b, hl with
 | x0 :: x1 :: x2 :: x3 :: r, _ =>
  have h0 := h x0 (by simp)
  have h1 := h x1 (by simp)
  have h2 := h x2 (by simp)
  have h3 := h x3 (by simp)
  simp [val4, rd]
  omega
theorem num_val4 {b : List Int} (h : Bytes b) (hl : 4 ≤ b.length) : num (val4 b) = b.take 4 := by
 obtain ⟨g0, g1⟩ := val4_nonneg h hl
 rw [num_in g0 g1]
 match b, hl with
 | x0 :: x1 :: x2 :: x3 :: r, _ =>
  have h0 := h x0 (by simp)
  have h1 := h x1 (by simp)
  have h2 := h x2 (by simp)
  have h3 := h x3 (by simp)
  simp [val4, rd]
  omega
theorem text_length {s : ByteArray} (h : s.size ≤ 4294967295) : (text s).length = 4 + s.size := by
 unfold text
 rw [List.length_append, num_length (by omega) (by omega), bytesOf_length]
theorem text_length_le (s : ByteArray) : (text s).length ≤ 4 + s.size := by
 unfold text
 rw [List.length_append, bytesOf_length]
 have := num_length_le s.size
 omega
theorem bytes_text (s : ByteArray) : Bytes (text s) := (bytes_num _).append (bytes_bytesOf s)
theorem bytes_flat {l : List ByteArray} : Bytes (l.map text).flatten := by
 intro x hx
 obtain ⟨y, hy, hxy⟩ := List.mem_flatten.1 hx
 obtain ⟨s, _, rfl⟩ := List.mem_map.1 hy
 exact bytes_text s x hxy
theorem bytes_texts (l : List ByteArray) : Bytes (texts l) := (bytes_num _).append bytes_flat
theorem cutNum_num {n : Int} (h0 : 0 ≤ n) (h1 : n ≤ 4294967295) (r : List Int) : cutNum (num n ++ r) = (n, r, true) := by
 unfold cutNum
 rw [if_neg (by rw [List.length_append, num_length h0 h1]; omega), val4_num h0 h1]
 congr 2
 rw [← num_length h0 h1, List.drop_left]
theorem cutText_text {s : ByteArray} (h : s.size ≤ 4294967295) (r : List Int) : cutText (text s ++ r) = (s, r, true) := by
 have hl := text_length h
 have hv : val4 (text s ++ r) = s.size := by rw [text, List.append_assoc, val4_num (by omega) (by omega)]
 have hd : (text s ++ r).drop 4 = bytesOf s ++ r := by
  rw [text, List.append_assoc, ← num_length (n := (s.size : Int)) (by omega) (by omega), List.drop_left]
 unfold cutText
 rw [if_neg (by rw [List.length_append]; omega), hv, hd, if_neg (by rw [List.length_append]; omega)]
 have h2 : ((s.size : Int)).toNat = (bytesOf s).length := by rw [bytesOf_length]; rfl
 rw [h2, List.take_left, List.drop_left, strOf_bytesOf]
theorem cutN_flat : ∀ (l : List ByteArray) (r : List Int), (∀ s ∈ l, s.size ≤ 4294967295) → cutN l.length ((l.map text).flatten ++ r) = some (l, r)
 | [], r, _ => rfl
 | s :: l, r, h => by
  have h1 := cutText_text (h s (by simp)) ((l.map text).flatten ++ r)
  have h2 := cutN_flat l r (fun s hs => h s (by simp [hs]))
  simp only [List.length_cons, cutN, List.map_cons, List.flatten_cons, List.append_assoc, h1, h2, if_true, Option.map_some]
theorem cutTexts_texts {l : List ByteArray} (hl : l.length ≤ 4294967295) (h : ∀ s ∈ l, s.size ≤ 4294967295) (r : List Int) : cutTexts (texts l ++ r) = (l, r, true) := by
 have hv : val4 (texts l ++ r) = l.length := by rw [texts, List.append_assoc, val4_num (by omega) (by omega)]
 have hd : (texts l ++ r).drop 4 = (l.map text).flatten ++ r := by
  rw [texts, List.append_assoc, ← num_length (n := (l.length : Int)) (by omega) (by omega), List.drop_left]
 unfold cutTexts
 rw [if_neg (by rw [texts, List.length_append, List.length_append, num_length (by omega) (by omega)]; omega), hv, hd, Int.toNat_natCast, cutN_flat l r h]
theorem cutText_rest_length {b : List Int} (h : (cutText b).2.2 = true) : (cutText b).2.1.length + 4 + (cutText b).1.size ≤ b.length := by
 unfold cutText at h ⊢
 by_cases h4 : b.length < 4
 ·
  rw [if_pos h4] at h; cases h
 ·
  rw [if_neg h4] at h ⊢
  by_cases hv : val4 b > ((b.length - 4 : Nat) : Int)
  ·
   rw [if_pos hv] at h; cases h
  ·
   rw [if_neg hv] at h ⊢
   simp only [strOf_size, List.length_take, List.length_drop]
   omega
theorem cutText_rest_bytes {b : List Int} (hb : Bytes b) : Bytes (cutText b).2.1 := by
 unfold cutText
 split
 ·
  exact Bytes.nil
 ·
  split
  ·
   exact Bytes.nil
  ·
   exact (hb.drop 4).drop _
theorem cutText_no {b : List Int} (h : (cutText b).2.2 = false) : (cutText b).1 = ⟨#[]⟩ ∧ (cutText b).2.1 = [] := by
 unfold cutText at h ⊢
 by_cases h4 : b.length < 4
 ·
  rw [if_pos h4]; exact ⟨rfl, rfl⟩
 ·
  rw [if_neg h4] at h ⊢
  by_cases hv : val4 b > ((b.length - 4 : Nat) : Int)
  ·
   rw [if_pos hv]; exact ⟨rfl, rfl⟩
  ·
   rw [if_neg hv] at h; cases h
end Go.Proofs.Yteoklmfkofgfmaa.Pl
/- Plain laws of the vote record's bytes: no program in sight. -/
namespace Go.Proofs.Yteoklmfkofgfmaa.Pl
open Go.RowKit Go.Proofs.YteoklmfkofgfmaaW.PrintWords Go.Proofs.YteoklmfkofgfmaaW.PrintMore

def ballot (n : Int) : Bool := decide (1 ≤ n ∧ n ≤ 2147483647)
theorem ballot_iff {n : Int} : ballot n = true ↔ 1 ≤ n ∧ n ≤ 2147483647 := by simp [ballot]
def right (s b v : Int) (t : ByteArray) : Bool := decide (0 ≤ s ∧ s < 64 ∧ 1 ≤ v ∧ v ≤ b ∧ b ≤ 2147483647 ∧ t.size ≤ 520)
theorem right_iff {s b v : Int} {t : ByteArray} : right s b v t = true ↔ 0 ≤ s ∧ s < 64 ∧ 1 ≤ v ∧ v ≤ b ∧ b ≤ 2147483647 ∧ t.size ≤ 520 := by simp [right]
def flag (f : Bool) : Int := if f = true then 1 else 0
theorem flag_in (f : Bool) : 0 ≤ flag f ∧ flag f ≤ 1 := by cases f <;> decide
theorem flag_eq (f : Bool) : (flag f == 1) = f := by cases f <;> rfl
def promise (n : Int) : List Int := num 1 ++ num n
def vote (s b v : Int) (f : Bool) (t : ByteArray) : List Int := num 2 ++ (num s ++ (num b ++ (num v ++ (num (flag f) ++ text t))))
theorem bytes_vote (s b v : Int) (f : Bool) (t : ByteArray) : Bytes (vote s b v f t) :=
 (bytes_num _).append ((bytes_num _).append ((bytes_num _).append ((bytes_num _).append ((bytes_num _).append (bytes_text _)))))
theorem promise_length (n : Int) : (promise n).length ≤ 8 := by
 have := num_length_le n
 unfold promise
 rw [List.length_append, num_length (by omega) (by omega)]
 omega
theorem vote_length (s b v : Int) (f : Bool) (t : ByteArray) : (vote s b v f t).length ≤ 24 + t.size := by
 have h1 := num_length_le s
 have h2 := num_length_le b
 have h3 := num_length_le v
 have h4 := num_length_le (flag f)
 have h5 := text_length_le t
 have h6 := num_length_le 2
 unfold vote
 simp only [List.length_append]
 omega
def cutL : Nat → List Int → List Int → Bool → List Int × List Int × Bool
 | 0, ns, b, ok => (ns, b, ok)
 | m + 1, ns, b, ok => if ok = true then cutL m (ns ++ [(cutNum b).1]) (cutNum b).2.1 (cutNum b).2.2 else cutL m (ns ++ [0]) b ok
theorem cutNum_bytes {b : List Int} (hb : Bytes b) : Bytes (cutNum b).2.1 := by
 unfold cutNum
 split
 ·
  exact Bytes.nil
 ·
  exact hb.drop 4
theorem cutNum_length_le (b : List Int) : (cutNum b).2.1.length ≤ b.length := by
 unfold cutNum
 split
 ·
  simp
 ·
  simp only [List.length_drop]; omega
theorem cutL_bytes : ∀ (m : Nat) (ns b : List Int) (ok : Bool), Bytes b → Bytes (cutL m ns b ok).2.1
 | 0, _, _, _, h => h
 | m + 1, ns, b, ok, h => by
  unfold cutL
  split
  ·
   exact cutL_bytes m _ _ _ (cutNum_bytes h)
  ·
   exact cutL_bytes m _ _ _ h
theorem cutL_length : ∀ (m : Nat) (ns b : List Int) (ok : Bool), (cutL m ns b ok).2.1.length ≤ b.length
 | 0, _, _, _ => Nat.le_refl _
 | m + 1, ns, b, ok => by
  unfold cutL
  split
  ·
   exact Nat.le_trans (cutL_length m _ _ _) (cutNum_length_le b)
  ·
   exact cutL_length m _ _ _
abbrev Vote := Int × Int × Int × Bool × ByteArray
def cutVote (b : List Int) : Vote :=
 (rd (cutL 4 [] b true).1 0, rd (cutL 4 [] b true).1 1, rd (cutL 4 [] b true).1 2, rd (cutL 4 [] b true).1 3 == 1, (cutText (cutL 4 [] b true).2.1).1)
theorem cutVote_vote {s b v : Int} {f : Bool} {t : ByteArray} (h : right s b v t = true) : cutVote (num s ++ (num b ++ (num v ++ (num (flag f) ++ text t)))) = (s, b, v, f, t) := by
 obtain ⟨h1, h2, h3, h4, h5, h6⟩ := right_iff.1 h
 obtain ⟨g1, g2⟩ := flag_in f
 have e : cutL 4 [] (num s ++ (num b ++ (num v ++ (num (flag f) ++ text t)))) true = ([s, b, v, flag f], text t ++ [], true) := by
  simp [cutL, cutNum_num h1 (show s ≤ 4294967295 by omega), cutNum_num (show 0 ≤ b by omega) (show b ≤ 4294967295 by omega), cutNum_num (show 0 ≤ v by omega) (show v ≤ 4294967295 by omega), cutNum_num g1 (show flag f ≤ 4294967295 by omega)]
 unfold cutVote
 rw [e]
 simp only [cutText_text (show t.size ≤ 4294967295 by omega)]
 rw [show rd [s, b, v, flag f] 3 = flag f from rfl, flag_eq]
 rfl
abbrev Got (α : Type) := Int × Int × Int × Int × Bool × ByteArray × α
def nothing {α : Type} (x : α) : Got α := (0, 0, 0, 0, false, ⟨#[]⟩, x)
def gotP {α : Type} (n : Int) (x : α) : Got α := (n, 0, 0, 0, false, ⟨#[]⟩, x)
def gotV {α : Type} (u : Vote) (x : α) : Got α := (0, u.1, u.2.1, u.2.2.1, u.2.2.2.1, u.2.2.2.2, x)
def rightV (u : Vote) : Bool := right u.1 u.2.1 u.2.2.1 u.2.2.2.2
def voteV (u : Vote) : List Int := vote u.1 u.2.1 u.2.2.1 u.2.2.2.1 u.2.2.2.2
def slotGet (b : List Int) : Got Int :=
 if (cutNum b).1 = 1 then (if ballot (cutNum (cutNum b).2.1).1 = true ∧ promise (cutNum (cutNum b).2.1).1 = b then gotP (cutNum (cutNum b).2.1).1 0 else nothing 2)
 else if (cutNum b).1 = 2 then (if rightV (cutVote (cutNum b).2.1) = true ∧ voteV (cutVote (cutNum b).2.1) = b then gotV (cutVote (cutNum b).2.1) 0 else nothing 2)
 else nothing 2
theorem slotGet_vote {u : Vote} (h : rightV u = true) : slotGet (voteV u) = gotV u 0 := by
 obtain ⟨s, b, v, f, t⟩ := u
 have e1 : cutNum (voteV (s, b, v, f, t)) = (2, _, true) := cutNum_num (by omega) (by omega) _
 unfold slotGet
 rw [e1]
 simp only
 rw [cutVote_vote h]
 simp [h]
end Go.Proofs.Yteoklmfkofgfmaa.Pl
/- Plain laws of the checksum: no program in sight. -/
namespace Go.Proofs.Yteoklmfkofgfmaa.Pl
open Go.RowKit Go.Proofs.YteoklmfkofgfmaaW.PrintWords Go.Proofs.YteoklmfkofgfmaaW.PrintMore

def bitN (x : Nat) : Nat := if x % 2 = 1 then (x / 2) ^^^ 2197175160 else x / 2
def goN : Nat → Nat → Nat
 | 0, w => w
 | m + 1, w => goN m (bitN w)
def stepN (w c : Nat) : Nat := goN 8 (w ^^^ c)
def crcN (w : Nat) (l : List Int) : Nat := l.foldl (fun w c => stepN w c.toNat) w
@[irreducible] def crcSum (l : List Int) : Int := ((4294967295 - crcN 4294967295 l : Nat) : Int)
theorem crcSum_def (l : List Int) : crcSum l = ((4294967295 - crcN 4294967295 l : Nat) : Int) := by unfold crcSum; rfl
theorem bitN_lt {x : Nat} (h : x < 4294967296) : bitN x < 4294967296 := by
 unfold bitN
 split
 ·
  exact Nat.xor_lt_two_pow (n := 32) (by omega) (by omega)
 ·
  omega
theorem goN_lt : ∀ (m x : Nat), x < 4294967296 → goN m x < 4294967296
 | 0, _, h => h
 | m + 1, _, h => goN_lt m _ (bitN_lt h)
theorem stepN_lt {w c : Nat} (hw : w < 4294967296) (hc : c < 4294967296) : stepN w c < 4294967296 := goN_lt 8 _ (Nat.xor_lt_two_pow (n := 32) hw hc)
theorem crcN_lt : ∀ {l : List Int} {w : Nat}, Bytes l → w < 4294967296 → crcN w l < 4294967296
 | [], _, _, h => h
 | c :: l, w, hb, h => by
  have hc := hb c (by simp)
  exact crcN_lt (l := l) (fun x hx => hb x (by simp [hx])) (stepN_lt h (by omega))
theorem crcSum_in (l : List Int) : 0 ≤ crcSum l ∧ crcSum l ≤ 4294967295 := by
 unfold crcSum
 omega
theorem bitN_top {x : Nat} (h : x < 4294967296) : (bitN x).testBit 31 = decide (x % 2 = 1) := by
 have hx : (x / 2).testBit 31 = false := Nat.testBit_lt_two_pow (by omega)
 unfold bitN
 split
 ·
  rename_i h1
  rw [Nat.testBit_xor, hx, h1]
  decide
 ·
  rename_i h1
  rw [hx]
  simp [h1]
theorem bitN_inj {x y : Nat} (hx : x < 4294967296) (hy : y < 4294967296) (h : bitN x = bitN y) : x = y := by
 have ht := congrArg (fun z => Nat.testBit z 31) h
 simp only [bitN_top hx, bitN_top hy, decide_eq_decide] at ht
 unfold bitN at h
 by_cases h1 : x % 2 = 1
 ·
  rw [if_pos h1, if_pos (ht.1 h1)] at h
  have h2 : x / 2 = y / 2 := by
   have := congrArg (fun z => z ^^^ 2197175160) h
   simpa [Nat.xor_assoc] using this
  have := ht.1 h1
  omega
 ·
  have h3 : ¬ y % 2 = 1 := fun h4 => h1 (ht.2 h4)
  rw [if_neg h1, if_neg h3] at h
  omega
theorem goN_inj : ∀ (m : Nat) {x y : Nat}, x < 4294967296 → y < 4294967296 → goN m x = goN m y → x = y
 | 0, _, _, _, _, h => h
 | m + 1, _, _, hx, hy, h => bitN_inj hx hy (goN_inj m (bitN_lt hx) (bitN_lt hy) h)
theorem xor_cancel_left {a b c : Nat} (h : a ^^^ b = a ^^^ c) : b = c := by
 have := congrArg (fun z => a ^^^ z) h
 simpa [← Nat.xor_assoc] using this
theorem xor_cancel_right {a b c : Nat} (h : b ^^^ a = c ^^^ a) : b = c := by
 have := congrArg (fun z => z ^^^ a) h
 simpa [Nat.xor_assoc] using this
theorem stepN_left {w v c : Nat} (hw : w < 4294967296) (hv : v < 4294967296) (hc : c < 4294967296) (h : stepN w c = stepN v c) : w = v :=
 xor_cancel_right (goN_inj 8 (Nat.xor_lt_two_pow (n := 32) hw hc) (Nat.xor_lt_two_pow (n := 32) hv hc) h)
theorem stepN_right {w c d : Nat} (hw : w < 4294967296) (hc : c < 4294967296) (hd : d < 4294967296) (h : stepN w c = stepN w d) : c = d :=
 xor_cancel_left (goN_inj 8 (Nat.xor_lt_two_pow (n := 32) hw hc) (Nat.xor_lt_two_pow (n := 32) hw hd) h)
theorem crcN_inj : ∀ {l : List Int} {w v : Nat}, Bytes l → w < 4294967296 → v < 4294967296 → crcN w l = crcN v l → w = v
 | [], _, _, _, _, _, h => h
 | c :: l, w, v, hb, hw, hv, h => by
  have hc := hb c (by simp)
  have hc' : c.toNat < 4294967296 := by omega
  exact stepN_left hw hv hc' (crcN_inj (l := l) (fun x hx => hb x (by simp [hx])) (stepN_lt hw hc') (stepN_lt hv hc') h)
theorem crcN_append (w : Nat) (a b : List Int) : crcN w (a ++ b) = crcN (crcN w a) b := by simp [crcN, List.foldl_append]
theorem crcSum_turned {p r : List Int} {x y : Int} (hp : Bytes p) (hr : Bytes r) (hx : 0 ≤ x ∧ x < 256) (hy : 0 ≤ y ∧ y < 256) (hne : x ≠ y) : crcSum (p ++ x :: r) ≠ crcSum (p ++ y :: r) := by
 intro h
 have hx' : Bytes (p ++ x :: r) := hp.append (Bytes.cons hx.1 hx.2 hr)
 have hy' : Bytes (p ++ y :: r) := hp.append (Bytes.cons hy.1 hy.2 hr)
 have l1 := crcN_lt hx' (w := 4294967295) (by omega)
 have l2 := crcN_lt hy' (w := 4294967295) (by omega)
 unfold crcSum at h
 have h2 : crcN 4294967295 (p ++ x :: r) = crcN 4294967295 (p ++ y :: r) := by omega
 rw [crcN_append, crcN_append] at h2
 have lp := crcN_lt hp (w := 4294967295) (by omega)
 have h3 := crcN_inj (l := r) hr (stepN_lt lp (by omega)) (stepN_lt lp (by omega)) h2
 have h4 := stepN_right lp (by omega) (by omega) h3
 omega
theorem bits_xor_nat (k : IntKind) (j : Nat) (hj : j ≤ k.bits) (hk : ∀ n : Int, 0 ≤ n → n < 2 ^ j → k.wrap n = n) (a b : Nat) (ha : a < 2 ^ j) (hb : b < 2 ^ j) : Go.bits .xor k (a : Int) (b : Int) = ((a ^^^ b : Nat) : Int) := by
 have hp : 2 ^ j ≤ 2 ^ k.bits := Nat.pow_le_pow_right (by decide) hj
 have ha' : a % 2 ^ k.bits = a := Nat.mod_eq_of_lt (Nat.lt_of_lt_of_le ha hp)
 have hb' : b % 2 ^ k.bits = b := Nat.mod_eq_of_lt (Nat.lt_of_lt_of_le hb hp)
 have cast : ∀ n : Nat, n < 2 ^ j → ((n : Nat) : Int) < 2 ^ j := fun n h => by exact_mod_cast h
 simp only [Go.bits, BitVec.ofInt_natCast, BitVec.toNat_xor, BitVec.toNat_ofNat, ha', hb']
 exact hk _ (Int.natCast_nonneg _) (cast _ (Nat.xor_lt_two_pow ha hb))
theorem bits_xor32 {a b : Nat} (ha : a < 4294967296) (hb : b < 4294967296) : Go.bits .xor .u32 (a : Int) (b : Int) = ((a ^^^ b : Nat) : Int) := by
 have hk : ∀ n : Int, 0 ≤ n → n < 2 ^ 32 → IntKind.u32.wrap n = n := by
  intro n h4 h5
  rw [IntKind.wrap_u32]
  omega
 exact bits_xor_nat .u32 32 (by decide) hk a b ha hb
theorem bits_one32 {a : Nat} (ha : a < 4294967296) : Go.bits .and .u32 (a : Int) 1 = ((a % 2 : Nat) : Int) := by
 have hk : ∀ n : Int, 0 ≤ n → n < 2 ^ 32 → IntKind.u32.wrap n = n := by
  intro n h4 h5
  rw [IntKind.wrap_u32]
  omega
 have := (bits_nat .u32 32 (by decide) hk a 1 ha (by decide)).1
 rw [Nat.and_one_is_mod] at this
 exact this
theorem bits_all32 {a : Nat} (ha : a < 4294967296) : Go.bits .xor .u32 (a : Int) 4294967295 = ((4294967295 - a : Nat) : Int) := by
 have h := bits_xor32 ha (show 4294967295 < 4294967296 by decide)
 have h2 : a ^^^ 4294967295 = 4294967295 - a := by
  apply Nat.eq_of_testBit_eq
  intro i
  have h3 := Nat.testBit_two_pow_sub_succ (n := 32) (x := a) (by simpa using ha) i
  rw [show (2 : Nat) ^ 32 - (a + 1) = 4294967295 - a by omega] at h3
  rw [h3, Nat.testBit_xor, show (4294967295 : Nat) = 2 ^ 32 - 1 from rfl, Nat.testBit_two_pow_sub_one]
  by_cases hi : i < 32
  ·
   simp [hi]
  ·
   have : a.testBit i = false := Nat.testBit_lt_two_pow (Nat.lt_of_lt_of_le (by simpa using ha : a < 2 ^ 32) (Nat.pow_le_pow_right (by decide) (by omega)))
   simp [hi, this]
 rw [h2] at h
 exact h
end Go.Proofs.Yteoklmfkofgfmaa.Pl
/- Plain laws of frames: no program in sight. -/
namespace Go.Proofs.Yteoklmfkofgfmaa.Pl
open Go.RowKit Go.Proofs.YteoklmfkofgfmaaW.PrintWords Go.Proofs.YteoklmfkofgfmaaW.PrintMore

def sumB (b : List Int) : List Int := num (crcSum b)
def frame (r : List Int) : List Int := num r.length ++ (sumB (num r.length) ++ (sumB r ++ r))
def frames (l : List (List Int)) : List Int := (l.map frame).flatten
theorem sumB_length (b : List Int) : (sumB b).length = 4 := by
 obtain ⟨h0, h1⟩ := crcSum_in b
 exact num_length h0 (by omega)
theorem bytes_frame {r : List Int} (h : Bytes r) : Bytes (frame r) := (bytes_num _).append ((bytes_num _).append ((bytes_num _).append h))
theorem frame_length {r : List Int} (h : r.length ≤ 65535) : (frame r).length = 12 + r.length := by
 unfold frame
 rw [List.length_append, List.length_append, List.length_append, sumB_length, sumB_length, num_length (by omega) (by omega)]
 omega
def okF (d : List Int) : Prop := 12 ≤ d.length ∧ val4 d ≤ 65535 ∧ 12 + val4 d ≤ d.length ∧ val4 (d.drop 4) = crcSum (d.take 4) ∧ val4 (d.drop 8) = crcSum ((d.drop 12).take (val4 d).toNat)
instance (d : List Int) : Decidable (okF d) := by unfold okF; infer_instance
def cutF (d : List Int) : List Int × List Int × Bool := if okF d then ((d.drop 12).take (val4 d).toNat, (d.drop 12).drop (val4 d).toNat, true) else ([], [], false)
theorem drop_num {n : Int} (h0 : 0 ≤ n) (h1 : n ≤ 4294967295) (r : List Int) : (num n ++ r).drop 4 = r := by rw [← num_length h0 h1, List.drop_left]
theorem take_num {n : Int} (h0 : 0 ≤ n) (h1 : n ≤ 4294967295) (r : List Int) : (num n ++ r).take 4 = num n := by rw [← num_length h0 h1, List.take_left]
theorem frame_parts {r : List Int} (h : r.length ≤ 65535) (s : List Int) : val4 (frame r ++ s) = r.length ∧ (frame r ++ s).take 4 = num r.length ∧ val4 ((frame r ++ s).drop 4) = crcSum (num r.length) ∧ val4 ((frame r ++ s).drop 8) = crcSum r ∧ (frame r ++ s).drop 12 = r ++ s := by
 have e : frame r ++ s = num r.length ++ (sumB (num r.length) ++ (sumB r ++ (r ++ s))) := by simp [frame]
 obtain ⟨a0, a1⟩ := crcSum_in (num r.length)
 obtain ⟨b0, b1⟩ := crcSum_in r
 have d4 : (frame r ++ s).drop 4 = sumB (num r.length) ++ (sumB r ++ (r ++ s)) := by rw [e]; exact drop_num (by omega) (by omega) _
 have d8 : (frame r ++ s).drop 8 = sumB r ++ (r ++ s) := by rw [show 8 = 4 + 4 from rfl, ← List.drop_drop, d4]; exact drop_num a0 a1 _
 have d12 : (frame r ++ s).drop 12 = r ++ s := by rw [show 12 = 8 + 4 from rfl, ← List.drop_drop, d8]; exact drop_num b0 b1 _
 refine ⟨by rw [e]; exact val4_num (by omega) (by omega) _, by rw [e]; exact take_num (by omega) (by omega) _, by rw [d4]; exact val4_num a0 a1 _, by rw [d8]; exact val4_num b0 b1 _, d12⟩
theorem okF_frame {r : List Int} (h : r.length ≤ 65535) (s : List Int) : okF (frame r ++ s) := by
 obtain ⟨h1, h2, h3, h4, h5⟩ := frame_parts h s
 have hl := frame_length h
 have hn : ((r.length : Nat) : Int).toNat = r.length := by omega
 refine ⟨by rw [List.length_append]; omega, by rw [h1]; omega, by rw [h1, List.length_append]; omega, by rw [h2, h3], ?_⟩
 rw [h4, h5, h1, hn, List.take_left]
theorem cutF_frame {r : List Int} (h : r.length ≤ 65535) (s : List Int) : cutF (frame r ++ s) = (r, s, true) := by
 obtain ⟨h1, h2, h3, h4, h5⟩ := frame_parts h s
 have hn : ((r.length : Nat) : Int).toNat = r.length := by omega
 unfold cutF
 rw [if_pos (okF_frame h s), h1, h5, hn, List.take_left, List.drop_left]
theorem cutF_no {d : List Int} (h : ¬ okF d) : cutF d = ([], [], false) := by
 unfold cutF
 rw [if_neg h]
theorem okF_short {r : List Int} (h : r.length ≤ 65535) {m : Nat} (hm : m < (frame r).length) : ¬ okF ((frame r).take m) := by
 intro ho
 obtain ⟨h1, _, h3, _, _⟩ := ho
 have hl := frame_length h
 have hp := (frame_parts h []).1
 rw [List.append_nil] at hp
 have hv : val4 ((frame r).take m) = val4 (frame r) := by
  have hr : ∀ i : Nat, i < 4 → rd ((frame r).take m) (i : Int) = rd (frame r) (i : Int) := by
   intro i hi
   unfold rd
   simp only [Int.toNat_natCast, List.getD_eq_getElem?_getD]
   rw [List.getElem?_take_of_lt (by rw [List.length_take] at h1; omega)]
  have r0 : rd ((frame r).take m) 0 = rd (frame r) 0 := hr 0 (by omega)
  have r1 : rd ((frame r).take m) 1 = rd (frame r) 1 := hr 1 (by omega)
  have r2 : rd ((frame r).take m) 2 = rd (frame r) 2 := hr 2 (by omega)
  have r3 : rd ((frame r).take m) 3 = rd (frame r) 3 := hr 3 (by omega)
  unfold val4
  rw [r0, r1, r2, r3]
 rw [hv, hp, List.length_take] at h3
 omega
theorem val4_turned {p : List Int} {x y : Int} {s : List Int} (h4 : (p ++ x :: s).length = 4) (hb : Bytes (p ++ x :: s)) (hc : Bytes (p ++ y :: s)) (hne : x ≠ y) (t u : List Int) : val4 (p ++ x :: s ++ t) ≠ val4 (p ++ y :: s ++ u) := by
 intro h
 have hb4 : (p ++ x :: s) = num (val4 (p ++ x :: s ++ t)) := by
  have hv : val4 (p ++ x :: s ++ t) = val4 (p ++ x :: s) := by
   obtain ⟨a, b, c, d, r, e⟩ := four_form (b := p ++ x :: s) (by omega)
   rw [e]; rfl
  rw [hv, num_val4 hb (by omega), List.take_of_length_le (by omega)]
 have hc4 : (p ++ y :: s) = num (val4 (p ++ y :: s ++ u)) := by
  have hl : (p ++ y :: s).length = 4 := by simpa using h4
  have hv : val4 (p ++ y :: s ++ u) = val4 (p ++ y :: s) := by
   obtain ⟨a, b, c, d, r, e⟩ := four_form (b := p ++ y :: s) (by omega)
   rw [e]; rfl
  rw [hv, num_val4 hc (by omega), List.take_of_length_le (by omega)]
 rw [h, ← hc4] at hb4
 have := List.append_cancel_left hb4
 exact hne (List.cons.inj this).1
def Turn (a b : List Int) : Prop := ∃ p x y s, a = p ++ x :: s ∧ b = p ++ y :: s ∧ x ≠ y
theorem Turn.set {a : List Int} {j : Nat} {y : Int} (hj : j < a.length) (hne : a[j]? ≠ some y) : Turn a (a.set j y) := by
 refine ⟨a.take j, a[j], y, a.drop (j + 1), ?_, ?_, fun e => hne (by rw [List.getElem?_eq_getElem hj, e])⟩
 ·
  rw [← List.drop_eq_getElem_cons hj, List.take_append_drop]
 ·
  rw [List.set_eq_take_append_cons_drop, if_pos hj]
theorem Turn.val4 {a b : List Int} (h : Turn a b) (h4 : a.length = 4) (ha : Bytes a) (hb : Bytes b) (t u : List Int) : Pl.val4 (a ++ t) ≠ Pl.val4 (b ++ u) := by
 obtain ⟨p, x, y, s, rfl, rfl, hne⟩ := h
 exact val4_turned h4 ha hb hne t u
theorem Turn.crc {a b : List Int} (h : Turn a b) (ha : Bytes a) (hb : Bytes b) : crcSum a ≠ crcSum b := by
 obtain ⟨p, x, y, s, rfl, rfl, hne⟩ := h
 have h1 := ha.of_append_right
 have h2 := hb.of_append_right
 exact crcSum_turned ha.of_append_left (fun z hz => h1 z (by simp [hz])) (h1 x (by simp)) (h2 y (by simp)) hne
theorem Turn.length {a b : List Int} (h : Turn a b) : b.length = a.length := by
 obtain ⟨p, x, y, s, rfl, rfl, _⟩ := h
 simp
theorem bytes_set {a : List Int} (h : Bytes a) {y : Int} (hy : 0 ≤ y ∧ y < 256) (j : Nat) : Bytes (a.set j y) := by
 intro x hx
 rcases List.mem_or_eq_of_mem_set hx with hx | rfl
 ·
  exact h x hx
 ·
  exact hy
theorem four_val {a : List Int} (h : a.length = 4) (t : List Int) : (a ++ t).take 4 = a ∧ (a ++ t).drop 4 = t := by
 rw [← h]
 exact ⟨List.take_left, List.drop_left⟩
theorem okF_turn {r : List Int} (h : r.length ≤ 65535) (hr : Bytes r) {j : Nat} {y : Int} (hj : j < (frame r).length) (hy : 0 ≤ y ∧ y < 256) (hne : (frame r)[j]? ≠ some y) (t : List Int) : ¬ okF ((frame r).set j y ++ t) := by
 have hl := frame_length h
 obtain ⟨a0, a1⟩ := crcSum_in (num r.length)
 obtain ⟨b0, b1⟩ := crcSum_in r
 have nl : (num r.length).length = 4 := num_length (by omega) (by omega)
 have s1 := sumB_length (num r.length)
 have s2 := sumB_length r
 have v0 : ∀ u, val4 (num r.length ++ u) = r.length := val4_num (by omega) (by omega)
 have v1 : ∀ u, val4 (sumB (num r.length) ++ u) = crcSum (num r.length) := val4_num a0 a1
 have v2 : ∀ u, val4 (sumB r ++ u) = crcSum r := val4_num b0 b1
 have hn : ((r.length : Nat) : Int).toNat = r.length := by omega
 intro ho
 obtain ⟨_, _, _, h4, h5⟩ := ho
 by_cases c0 : j < 4
 ·
  have hT : Turn (num r.length) ((num r.length).set j y) := Turn.set (by omega) (by
   intro e
   apply hne
   rw [← e]
   unfold frame
   rw [List.getElem?_append_left (by omega)])
  have e : (frame r).set j y ++ t = (num r.length).set j y ++ (sumB (num r.length) ++ (sumB r ++ (r ++ t))) := by
   unfold frame
   rw [List.set_append_left _ _ (by omega)]
   simp
  rw [e, (four_val (by simp [nl]) _).1, (four_val (by simp [nl]) _).2, v1] at h4
  exact hT.crc (bytes_num _) (bytes_set (bytes_num _) hy j) h4
 by_cases c1 : j < 8
 ·
  have hT : Turn (sumB (num r.length)) ((sumB (num r.length)).set (j - 4) y) := Turn.set (by omega) (by
   intro e
   apply hne
   rw [← e]
   unfold frame
   rw [List.getElem?_append_right (by omega), List.getElem?_append_left (by omega)]
   rw [nl])
  have e : (frame r).set j y ++ t = num r.length ++ ((sumB (num r.length)).set (j - 4) y ++ (sumB r ++ (r ++ t))) := by
   unfold frame
   rw [List.set_append_right _ _ (by omega), nl, List.set_append_left _ _ (by omega)]
   simp
  rw [e, (four_val nl _).1, (four_val nl _).2, ← v1 []] at h4
  exact hT.val4 s1 (bytes_num _) (bytes_set (bytes_num _) hy _) _ _ h4.symm
 by_cases c2 : j < 12
 ·
  have hT : Turn (sumB r) ((sumB r).set (j - 8) y) := Turn.set (by omega) (by
   intro e
   apply hne
   rw [← e]
   unfold frame
   rw [List.getElem?_append_right (by omega), List.getElem?_append_right (by omega), List.getElem?_append_left (by omega)]
   rw [nl, s1, show j - 4 - 4 = j - 8 by omega])
  have e : (frame r).set j y ++ t = num r.length ++ (sumB (num r.length) ++ ((sumB r).set (j - 8) y ++ (r ++ t))) := by
   unfold frame
   rw [List.set_append_right _ _ (by omega), nl, List.set_append_right _ _ (by omega), s1, List.set_append_left _ _ (by omega), show j - 4 - 4 = j - 8 by omega]
   simp
  have d8 : ((frame r).set j y ++ t).drop 8 = (sumB r).set (j - 8) y ++ (r ++ t) := by
   rw [e, show 8 = 4 + 4 from rfl, ← List.drop_drop, (four_val nl _).2, (four_val s1 _).2]
  have d12 : ((frame r).set j y ++ t).drop 12 = r ++ t := by
   rw [show 12 = 8 + 4 from rfl, ← List.drop_drop, d8, (four_val (by simp [s2]) _).2]
  rw [d8, d12, e, v0, hn, List.take_left, ← v2 []] at h5
  exact hT.val4 s2 (bytes_num _) (bytes_set (bytes_num _) hy _) _ _ h5.symm
 ·
  have hT : Turn r (r.set (j - 12) y) := Turn.set (by omega) (by
   intro e
   apply hne
   rw [← e]
   unfold frame
   rw [List.getElem?_append_right (by omega), List.getElem?_append_right (by omega), List.getElem?_append_right (by omega)]
   rw [nl, s1, s2, show j - 4 - 4 - 4 = j - 12 by omega])
  have e : (frame r).set j y ++ t = num r.length ++ (sumB (num r.length) ++ (sumB r ++ (r.set (j - 12) y ++ t))) := by
   unfold frame
   rw [List.set_append_right _ _ (by omega), nl, List.set_append_right _ _ (by omega), s1, List.set_append_right _ _ (by omega), s2, show j - 4 - 4 - 4 = j - 12 by omega]
   simp
  have d8 : ((frame r).set j y ++ t).drop 8 = sumB r ++ (r.set (j - 12) y ++ t) := by
   rw [e, show 8 = 4 + 4 from rfl, ← List.drop_drop, (four_val nl _).2, (four_val s1 _).2]
  have d12 : ((frame r).set j y ++ t).drop 12 = r.set (j - 12) y ++ t := by
   rw [show 12 = 8 + 4 from rfl, ← List.drop_drop, d8, (four_val s2 _).2]
  have hn2 : r.length = (r.set (j - 12) y).length := by simp
  rw [d8, d12, e, v0, hn, v2] at h5
  conv at h5 => rhs; rw [hn2, List.take_left]
  exact hT.crc hr (bytes_set hr hy _) h5
end Go.Proofs.Yteoklmfkofgfmaa.Pl
/- Plain laws of messages' bytes: no program in sight. -/
namespace Go.Proofs.Yteoklmfkofgfmaa.Pl
open Go.RowKit Go.Proofs.YteoklmfkofgfmaaW.PrintWords Go.Proofs.YteoklmfkofgfmaaW.PrintMore
def zeroV : Vote := (0, 0, 0, false, ⟨#[]⟩)
def bareM (k s : Int) (v : Vote) (vs : List Vote) : Bool := decide ((k = 4 ∨ s = 0) ∧ (k = 3 ∨ v = zeroV) ∧ (k = 2 ∨ vs = []))
def rise (b : Int) : Option Int → List Vote → Bool
 | _, [] => true
 | p, v :: t => rightV v && (decide (v.2.1 < b) && ((match p with | none => true | some q => decide (q < v.1)) && rise b (some v.1) t))
def rightM (k f t b s : Int) (v : Vote) (vs : List Vote) : Bool :=
 decide (1 ≤ k ∧ k ≤ 5 ∧ 0 ≤ f ∧ f < 7 ∧ 0 ≤ t ∧ t < 7 ∧ 1 ≤ b ∧ b ≤ 2147483647) && (bareM k s v vs && (if k = 3 then rightV v && decide (v.2.1 = b) else if k = 4 then decide (0 ≤ s ∧ s < 64) else rise b none vs))
theorem rise_some {b : Int} : ∀ (l : List Vote) (q : Int), q ≤ 63 → rise b (some q) l = true → q + l.length ≤ 63
 | [], q, hq, _ => by simpa using hq
 | v :: t, q, hq, h => by
  simp only [rise, Bool.and_eq_true, decide_eq_true_eq] at h
  obtain ⟨h1, _, h3, h4⟩ := h
  have h1' := right_iff.1 h1
  have := rise_some t v.1 (by omega) h4
  simp only [List.length_cons]
  omega
theorem rise_length {b : Int} {l : List Vote} (h : rise b none l = true) : l.length ≤ 64 := by
 cases l with
 | nil => simp
 | cons v t =>
  simp only [rise, Bool.and_eq_true, decide_eq_true_eq] at h
  have h1' := right_iff.1 h.1
  have := rise_some t v.1 (by omega) h.2.2.2
  simp only [List.length_cons]
  omega
theorem rise_right {b : Int} : ∀ (l : List Vote) (p : Option Int), rise b p l = true → ∀ v ∈ l, rightV v = true
 | [], _, _, v, hv => by cases hv
 | u :: t, p, h, v, hv => by
  simp only [rise, Bool.and_eq_true] at h
  rcases List.mem_cons.1 hv with rfl | hv
  ·
   exact h.1
  ·
   exact rise_right t _ h.2.2.2 v hv
def recV (v : Vote) : List Int := if rightV v = true then voteV v else []
def recS (v : Vote) : ByteArray := strOfNums (recV v)
theorem zeroV_not : rightV zeroV = false := by decide
theorem recS_zero : recS zeroV = ⟨#[]⟩ := by
 unfold recS recV
 rw [if_neg (by rw [zeroV_not]; decide)]
 rfl
theorem recV_length (v : Vote) : (recV v).length ≤ 544 := by
 unfold recV
 by_cases h : rightV v = true
 ·
  rw [if_pos h]
  have := vote_length v.1 v.2.1 v.2.2.1 v.2.2.2.1 v.2.2.2.2
  have h2 := (right_iff.1 h).2.2.2.2.2
  unfold voteV
  omega
 ·
  rw [if_neg h]; simp
theorem bytes_recV (v : Vote) : Bytes (recV v) := by
 unfold recV
 by_cases h : rightV v = true
 ·
  rw [if_pos h]; exact bytes_vote _ _ _ _ _
 ·
  rw [if_neg h]; exact Bytes.nil
theorem recS_size (v : Vote) : (recS v).size ≤ 544 := by
 unfold recS
 rw [strOf_size]
 exact recV_length v
def voteOf (s : ByteArray) : Vote := ((slotGet (bytesOf s)).2.1, (slotGet (bytesOf s)).2.2.1, (slotGet (bytesOf s)).2.2.2.1, (slotGet (bytesOf s)).2.2.2.2.1, (slotGet (bytesOf s)).2.2.2.2.2.1)
theorem voteOf_rec {v : Vote} (h : rightV v = true) : voteOf (recS v) = v := by
 unfold voteOf recS
 rw [bytesOf_strOf (bytes_recV v)]
 unfold recV
 rw [if_pos h, slotGet_vote h]
 rfl
theorem voteOf_nil : voteOf ⟨#[]⟩ = zeroV := by decide
def body (k f t b s : Int) (v : Vote) (vs : List Vote) : List Int := (([k, f, t, b, s] : List Int).map num).flatten ++ (text (recS v) ++ texts (vs.map recS))
def putM (k f t b s : Int) (v : Vote) (vs : List Vote) : List Int := frame (body k f t b s v vs)
theorem flat_num_bytes (l : List Int) : Bytes (l.map num).flatten := by
 intro x hx
 obtain ⟨y, hy, hx⟩ := List.mem_flatten.1 hx
 obtain ⟨n, _, rfl⟩ := List.mem_map.1 hy
 exact bytes_num n x hx
theorem bytes_body (k f t b s : Int) (v : Vote) (vs : List Vote) : Bytes (body k f t b s v vs) := (flat_num_bytes _).append ((bytes_text _).append (bytes_texts _))
theorem flat_text_length : ∀ (vs : List Vote), ((vs.map recS).map text).flatten.length ≤ 548 * vs.length
 | [] => by simp
 | v :: t => by
  have := flat_text_length t
  have h1 := text_length_le (recS v)
  have h2 := recS_size v
  simp only [List.map_cons, List.flatten_cons, List.length_append, List.length_cons]
  omega
theorem right_votes {k f t b s : Int} {v : Vote} {vs : List Vote} (h : rightM k f t b s v vs = true) : vs.length ≤ 64 ∧ (∀ u ∈ vs, rightV u = true) ∧ (rightV v = true ∨ v = zeroV) := by
 unfold rightM bareM at h
 simp only [Bool.and_eq_true, decide_eq_true_eq] at h
 obtain ⟨h1, ⟨h2, h3, h4⟩, h5⟩ := h
 by_cases hk : k = 3
 ·
  rw [if_pos hk] at h5
  simp only [Bool.and_eq_true] at h5
  rcases h4 with h4 | rfl
  ·
   omega
  ·
   exact ⟨by simp, ⟨(fun u hu => nomatch hu), .inl h5.1⟩⟩
 ·
  have hv : v = zeroV := by
   rcases h3 with h3 | h3
   ·
    exact absurd h3 hk
   ·
    exact h3
  refine ⟨?_, ?_, .inr hv⟩
  all_goals
   by_cases hk4 : k = 4
   ·
    rcases h4 with h4 | rfl
    ·
     omega
    ·
     first | (simp; done) | exact (fun u hu => nomatch hu)
   ·
    rw [if_neg hk, if_neg hk4] at h5
    first | exact rise_length h5 | exact rise_right _ _ h5
theorem body_length {k f t b s : Int} {v : Vote} {vs : List Vote} (h : vs.length ≤ 64) : (body k f t b s v vs).length ≤ 36000 := by
 have n1 := num_length_le k
 have n2 := num_length_le f
 have n3 := num_length_le t
 have n4 := num_length_le b
 have n5 := num_length_le s
 have n6 := num_length_le (vs.map recS).length
 have t1 := text_length_le (recS v)
 have t2 := recS_size v
 have t3 := flat_text_length vs
 unfold body texts
 simp only [List.map_cons, List.map_nil, List.flatten_cons, List.flatten_nil, List.length_append, List.length_nil]
 omega
def dec (r : List Int) (ok : Bool) : (Int × Int × Int × Int × Int × Vote × List Vote) × Bool :=
 let a := cutNum r; let b := cutNum a.2.1; let c := cutNum b.2.1; let d := cutNum c.2.1; let e := cutNum d.2.1; let s := cutText e.2.1; let u := cutTexts s.2.1
 ((a.1, b.1, c.1, d.1, e.1, voteOf s.1, u.1.map voteOf), ((((((ok && a.2.2) && b.2.2) && c.2.2) && d.2.2) && e.2.2) && s.2.2))
theorem map_voteOf : ∀ {vs : List Vote}, (∀ u ∈ vs, rightV u = true) → (vs.map recS).map voteOf = vs
 | [], _ => rfl
 | v :: t, h => by
  rw [List.map_cons, List.map_cons, voteOf_rec (h v List.mem_cons_self), map_voteOf (fun u hu => h u (List.mem_cons_of_mem _ hu))]
theorem dec_body {k f t b s : Int} {v : Vote} {vs : List Vote} (h : rightM k f t b s v vs = true) : dec (body k f t b s v vs) true = ((k, f, t, b, s, v, vs), true) := by
 obtain ⟨h1, h2, h3⟩ := right_votes h
 have hs : 0 ≤ s ∧ s ≤ 4294967295 := by
  unfold rightM bareM at h
  simp only [Bool.and_eq_true, decide_eq_true_eq] at h
  obtain ⟨_, ⟨h2, _⟩, h5⟩ := h
  rcases h2 with h2 | h2
  ·
   rw [if_neg (by omega), if_pos h2] at h5
   have := of_decide_eq_true h5
   omega
  ·
   omega
 have hr : 1 ≤ k ∧ k ≤ 5 ∧ 0 ≤ f ∧ f < 7 ∧ 0 ≤ t ∧ t < 7 ∧ 1 ≤ b ∧ b ≤ 2147483647 := by
  unfold rightM at h
  simp only [Bool.and_eq_true, decide_eq_true_eq] at h
  exact h.1
 have hv : voteOf (recS v) = v := by
  rcases h3 with h3 | rfl
  ·
   exact voteOf_rec h3
  ·
   rw [recS_zero, voteOf_nil]
 have e5 : body k f t b s v vs = num k ++ (num f ++ (num t ++ (num b ++ (num s ++ (text (recS v) ++ (texts (vs.map recS) ++ [])))))) := by simp [body]
 unfold dec
 rw [e5]
 simp only [cutNum_num (show 0 ≤ k by omega) (show k ≤ 4294967295 by omega), cutNum_num (show 0 ≤ f by omega) (show f ≤ 4294967295 by omega), cutNum_num (show 0 ≤ t by omega) (show t ≤ 4294967295 by omega), cutNum_num (show 0 ≤ b by omega) (show b ≤ 4294967295 by omega), cutNum_num hs.1 hs.2,
  cutText_text (show (recS v).size ≤ 4294967295 by have := recS_size v; omega)]
 rw [cutTexts_texts (by rw [List.length_map]; omega) (fun x hx => by obtain ⟨u, _, rfl⟩ := List.mem_map.1 hx; have := recS_size u; omega)]
 simp only [hv, map_voteOf h2, Bool.and_self]
abbrev GotM := Int × Int × Int × Int × Int × Vote × List Vote × Int
def badM : GotM := (0, 0, 0, 0, 0, zeroV, [], 2)
def rightT (d : Int × Int × Int × Int × Int × Vote × List Vote) : Bool := rightM d.1 d.2.1 d.2.2.1 d.2.2.2.1 d.2.2.2.2.1 d.2.2.2.2.2.1 d.2.2.2.2.2.2
def putT (d : Int × Int × Int × Int × Int × Vote × List Vote) : List Int := putM d.1 d.2.1 d.2.2.1 d.2.2.2.1 d.2.2.2.2.1 d.2.2.2.2.2.1 d.2.2.2.2.2.2
def goodT (d : Int × Int × Int × Int × Int × Vote × List Vote) : GotM := (d.1, d.2.1, d.2.2.1, d.2.2.2.1, d.2.2.2.2.1, d.2.2.2.2.2.1, d.2.2.2.2.2.2, 0)
def getM (b : List Int) : GotM :=
 if (dec (cutF b).1 (cutF b).2.2).2 = true ∧ (cutF b).2.1 = [] ∧ rightT (dec (cutF b).1 (cutF b).2.2).1 = true ∧ putT (dec (cutF b).1 (cutF b).2.2).1 = b then goodT (dec (cutF b).1 (cutF b).2.2).1 else badM
theorem getM_put {k f t b s : Int} {v : Vote} {vs : List Vote} (h : rightM k f t b s v vs = true) : getM (putM k f t b s v vs) = goodT (k, f, t, b, s, v, vs) := by
 have hl := body_length (k := k) (f := f) (t := t) (b := b) (s := s) (v := v) (right_votes h).1
 have hc := cutF_frame (r := body k f t b s v vs) (by omega) []
 rw [List.append_nil] at hc
 unfold getM
 have e : putM k f t b s v vs = frame (body k f t b s v vs) := rfl
 rw [e, hc]
 rw [show (dec (body k f t b s v vs, ([] : List Int), true).1 (body k f t b s v vs, ([] : List Int), true).2.2) = ((k, f, t, b, s, v, vs), true) from dec_body h]
 exact if_pos ⟨rfl, rfl, h, rfl⟩
theorem getM_no {b : List Int} (h : ¬ okF b) : getM b = badM := by
 unfold getM
 rw [cutF_no h]
 rw [if_neg]
 intro hh
 simp [dec] at hh
end Go.Proofs.Yteoklmfkofgfmaa.Pl
/- The printed functions of wire for numbers answer what the plain ones do. -/
namespace Go.Proofs.Yteoklmfkofgfmaa.Pl
open Go.RowKit Go.Proofs.Yteoklmfkofgfmaa.X Go.Proofs.YteoklmfkofgfmaaW.PrintWords Go.Proofs.YteoklmfkofgfmaaW.PrintLast Go.Proofs.YteoklmfkofgfmaaW.PrintMore

theorem wire_Num_eq (n : Int) : wire_Num.f n = some (num n) := by
 unfold wire_Num.f num
 split
 ·
  rfl
 ·
  split
  ·
   rfl
  ·
   rfl
theorem clone_eq {l : List Int} (h : l.length ≤ 140737488355328) : slices_Clone_byte_byte.f l = some l := by
 unfold slices_Clone_byte_byte.f
 rw [if_pos (by omega)]
theorem or8 {x c : Int} (h0 : 0 ≤ x) (h1 : x < 16777216) (h2 : 0 ≤ c) (h3 : c < 256) : Go.bits .or .i64 (wrap64 (x * 256)) (wrap64 c) = x * 256 + c := by
 rw [w64 (by omega) (by omega), w64 (by omega) (by omega)]
 have hw : ∀ n : Int, 0 ≤ n → n < 2 ^ 32 → IntKind.i64.wrap n = n := by
  intro n h4 h5
  rw [IntKind.wrap_i64]
  omega
 exact bits_join .i64 32 (by decide) hw 8 (x * 256) c (by omega) (by omega) (by omega) h2 (by omega) (by omega)
theorem wire_CutNum_ev {b : List Int} (hb : Bytes b) (hl : b.length ≤ 140737488355328) : Ev (fun k => wire_CutNum.f k b) (cutNum b) := by
 unfold wire_CutNum.f cutNum
 by_cases h4 : b.length < 4
 ·
  rw [if_pos h4]
  exact Ev.pos (by omega) (Ev.now _)
 ·
  rw [if_neg h4]
  refine Ev.neg (by omega) (Ev.pos (by omega) (Ev.bind (Ev.now _) ?_))
  obtain ⟨x0, x1, x2, x3, r, rfl⟩ := four_form (b := b) (by omega)
  ·
   clear h4
   obtain ⟨a0, b0⟩ := hb x0 (by simp)
   obtain ⟨a1, b1⟩ := hb x1 (by simp)
   obtain ⟨a2, b2⟩ := hb x2 (by simp)
   obtain ⟨a3, b3⟩ := hb x3 (by simp)
   simp only [List.take_succ_cons, List.take_zero]
   have hlen : (([x0, x1, x2, x3] : List Int).length : Int) = 4 := rfl
   rw [hlen]
   refine Ev.step (f := fun k => wire_CutNum.l0 k (x0 :: x1 :: x2 :: x3 :: r) x0 [x0, x1, x2, x3] 4 1) (fun k => ?_) ?_
   ·
    simp only [wire_CutNum.l0]
    rw [if_pos (by omega), if_pos (by omega), if_pos (by rw [hlen]; omega)]
    rw [show rd [x0, x1, x2, x3] 0 = x0 from rfl, or8 (by omega) (by omega) a0 b0, w64 (by omega) (by omega)]
    simp
   refine Ev.step (f := fun k => wire_CutNum.l0 k (x0 :: x1 :: x2 :: x3 :: r) (x0 * 256 + x1) [x0, x1, x2, x3] 4 2) (fun k => ?_) ?_
   ·
    simp only [wire_CutNum.l0]
    rw [if_pos (by omega), if_pos (by omega), if_pos (by rw [hlen]; omega)]
    rw [show rd [x0, x1, x2, x3] 1 = x1 from rfl, or8 (by omega) (by omega) a1 b1, w64 (by omega) (by omega)]
    rfl
   refine Ev.step (f := fun k => wire_CutNum.l0 k (x0 :: x1 :: x2 :: x3 :: r) ((x0 * 256 + x1) * 256 + x2) [x0, x1, x2, x3] 4 3) (fun k => ?_) ?_
   ·
    simp only [wire_CutNum.l0]
    rw [if_pos (by omega), if_pos (by omega), if_pos (by rw [hlen]; omega)]
    rw [show rd [x0, x1, x2, x3] 2 = x2 from rfl, or8 (by omega) (by omega) a2 b2, w64 (by omega) (by omega)]
    rfl
   refine Ev.step (f := fun k => wire_CutNum.l0 k (x0 :: x1 :: x2 :: x3 :: r) (((x0 * 256 + x1) * 256 + x2) * 256 + x3) [x0, x1, x2, x3] 4 4) (fun k => ?_) ?_
   ·
    simp only [wire_CutNum.l0]
    rw [if_pos (by omega), if_pos (by omega), if_pos (by rw [hlen]; omega)]
    rw [show rd [x0, x1, x2, x3] 3 = x3 from rfl, or8 (by omega) (by omega) a3 b3, w64 (by omega) (by omega)]
    rfl
   refine Ev.step (f := fun _ => some (val4 (x0 :: x1 :: x2 :: x3 :: r), r, true)) (fun k => ?_) (Ev.now _)
   simp only [wire_CutNum.l0]
   rw [if_neg (by omega), if_pos (by simp only [List.length_cons]; omega)]
   rw [show (x0 :: x1 :: x2 :: x3 :: r).drop 4 = r from rfl, clone_eq (by simp only [List.length_cons] at hl; omega)]
   simp only [Option.bind_some, Option.some.injEq, Prod.mk.injEq, and_true]
   simp [val4, rd]
   omega
end Go.Proofs.Yteoklmfkofgfmaa.Pl
/- The printed functions of wire for texts answer what the plain ones do. -/
namespace Go.Proofs.Yteoklmfkofgfmaa.Pl
open Go.RowKit Go.Proofs.Yteoklmfkofgfmaa.X Go.Proofs.YteoklmfkofgfmaaW.PrintWords Go.Proofs.YteoklmfkofgfmaaW.PrintLast Go.Proofs.YteoklmfkofgfmaaW.PrintMore

theorem wire_Text_eq {s : ByteArray} (h : s.size ≤ 140737488351232) : wire_Text.f s = some (text s) := by
 unfold wire_Text.f
 rw [wire_Num_eq]
 simp only [Option.bind_some]
 rw [if_pos (by have := num_length_le s.size; omega)]
 rfl
theorem wire_CutText_ev {b : List Int} (hb : Bytes b) (hl : b.length ≤ 140737488355328) : Ev (fun k => wire_CutText.f k b) (cutText b) := by
 unfold wire_CutText.f
 refine Ev.bind (wire_CutNum_ev hb hl) ?_
 unfold cutNum cutText
 by_cases h4 : b.length < 4
 ·
  simp only [if_pos h4]
  exact Ev.now _
 ·
  simp only [if_neg h4, if_true]
  obtain ⟨g0, g1⟩ := val4_nonneg hb (by omega)
  by_cases hv : val4 b > ((b.length - 4 : Nat) : Int)
  ·
   rw [if_pos hv]
   exact Ev.pos (by rw [List.length_drop]; exact hv) (Ev.now _)
  ·
   rw [if_neg hv]
   exact Ev.neg (by rw [List.length_drop]; exact hv) (Ev.pos g0 (Ev.pos (by rw [List.length_drop]; omega) (Ev.now _)))
theorem cutText_rest_le {b : List Int} : (cutText b).2.1.length ≤ b.length := by
 unfold cutText
 split
 ·
  simp
 ·
  split
  ·
   simp
  ·
   simp only [List.length_drop]; omega
end Go.Proofs.Yteoklmfkofgfmaa.Pl
/- slices.Concat of bytes. -/
namespace Go.Proofs.Yteoklmfkofgfmaa.Pl
open Go.RowKit Go.Proofs.Yteoklmfkofgfmaa.X Go.Proofs.YteoklmfkofgfmaaW.PrintWords Go.Proofs.YteoklmfkofgfmaaW.PrintLast Go.Proofs.YteoklmfkofgfmaaW.PrintMore
theorem concat_eq {l : List (List Int)} (h : lenSum l ≤ 140737488355328) : slices_Concat_byte_byte.f l = some l.flatten := by
 unfold slices_Concat_byte_byte.f
 rw [if_pos h]
end Go.Proofs.Yteoklmfkofgfmaa.Pl
/- slices.Equal of bytes. -/
namespace Go.Proofs.Yteoklmfkofgfmaa.Pl
open Go.RowKit Go.Proofs.Yteoklmfkofgfmaa.X Go.Proofs.YteoklmfkofgfmaaW.PrintWords Go.Proofs.YteoklmfkofgfmaaW.PrintLast Go.Proofs.YteoklmfkofgfmaaW.PrintMore
theorem rd_nat (l : List Int) (i : Nat) (h : i < l.length) : rd l (i : Int) = l[i] := by
 simp [rd, List.getD_eq_getElem?_getD, List.getElem?_eq_getElem h]
theorem equal_l0 (l m : List Int) (hm : l.length = m.length) (hl : l.length ≤ 140737488355328) (d : Nat) : ∀ i : Nat, i ≤ l.length → l.length - i = d →
  Ev (fun k => slices_Equal_byte_byte.l0 k l m (l.length : Int) (i : Int)) (decide (l.drop i = m.drop i)) := by
 induction d with
 | zero =>
  intro i hi hd
  refine Ev.step (f := fun _ => some true) (fun k => ?_) ?_
  ·
   simp only [slices_Equal_byte_byte.l0]
   rw [if_neg (by omega)]
  ·
   rw [List.drop_eq_nil_of_le (by omega), List.drop_eq_nil_of_le (by omega)]
   exact Ev.now _
 | succ d ih =>
  intro i hi hd
  have h1 : i < l.length := by omega
  have h2 : i < m.length := by omega
  rw [List.drop_eq_getElem_cons h1, List.drop_eq_getElem_cons h2]
  by_cases he : l[i] = m[i]
  ·
   refine Ev.step (f := fun k => slices_Equal_byte_byte.l0 k l m (l.length : Int) ((i + 1 : Nat) : Int)) (fun k => ?_) ((ih (i + 1) (by omega) (by omega)).to (by simp only [he, List.cons.injEq, true_and]))
   simp only [slices_Equal_byte_byte.l0]
   rw [if_pos (by omega), if_pos (by omega), if_pos (by omega), if_pos (by omega), rd_nat _ _ h1, rd_nat _ _ h2, if_pos he, w64 (by omega) (by omega)]
   rfl
  ·
   refine Ev.step (f := fun _ => some false) (fun k => ?_) ((Ev.now false).to (by simp only [List.cons.injEq, he, false_and, decide_false]))
   simp only [slices_Equal_byte_byte.l0]
   rw [if_pos (by omega), if_pos (by omega), if_pos (by omega), if_pos (by omega), rd_nat _ _ h1, rd_nat _ _ h2, if_neg he]
theorem equal_ev {l m : List Int} (hl : l.length ≤ 140737488355328) : Ev (fun k => slices_Equal_byte_byte.f k l m) (decide (l = m)) := by
 unfold slices_Equal_byte_byte.f
 by_cases h : l.length = m.length
 ·
  refine Ev.pos (by omega) ?_
  have := equal_l0 l m h hl l.length 0 (by omega) (by omega)
  simpa using this
 ·
  refine Ev.neg (by omega) ((Ev.now false).to ?_)
  symm
  rw [decide_eq_false_iff_not]
  intro e
  exact h (by rw [e])
end Go.Proofs.Yteoklmfkofgfmaa.Pl
/- The printed functions of slot answer what the plain ones do. -/
namespace Go.Proofs.Yteoklmfkofgfmaa.Pl
open Go.RowKit Go.Proofs.Yteoklmfkofgfmaa.X Go.Proofs.YteoklmfkofgfmaaW.PrintWords Go.Proofs.YteoklmfkofgfmaaW.PrintLast Go.Proofs.YteoklmfkofgfmaaW.PrintMore
theorem slot_ballot_eq (n : Int) : slot_ballot.f n = some (ballot n) := by
 unfold slot_ballot.f
 by_cases h : n ≥ 1
 ·
  rw [if_pos h]
  by_cases h2 : n ≤ 2147483647
  ·
   rw [decide_eq_true h2, ballot_iff.2 ⟨h, h2⟩]
  ·
   rw [decide_eq_false h2, show ballot n = false from decide_eq_false (by omega)]
 ·
  rw [if_neg h, show ballot n = false from decide_eq_false (by omega)]
theorem slot_Right_eq (s b v : Int) (f : Bool) (t : ByteArray) : slot_Right.f s b v f t = some (right s b v t) := by
 unfold slot_Right.f
 simp only [slot_ballot_eq, Option.bind_some]
 have hr : ∀ c : Bool, (c = true ↔ 0 ≤ s ∧ s < 64 ∧ 1 ≤ v ∧ v ≤ b ∧ b ≤ 2147483647 ∧ t.size ≤ 520) → some c = some (right s b v t) := by
  intro c hc
  rw [Option.some.injEq, Bool.eq_iff_iff, hc, right_iff]
 split
 ·
  split
  ·
   split
   ·
    rename_i hb
    rw [ballot_iff] at hb
    split
    ·
     rename_i hv
     rw [ballot_iff] at hv
     split
     ·
      exact hr _ (by rw [decide_eq_true_iff]; omega)
     ·
      exact hr _ (by simp only [Bool.false_eq_true, false_iff]; omega)
    ·
     rename_i hv
     rw [ballot_iff] at hv
     exact hr _ (by simp only [Bool.false_eq_true, false_iff]; omega)
   ·
    rename_i hb
    rw [ballot_iff] at hb
    exact hr _ (by simp only [Bool.false_eq_true, false_iff]; omega)
  ·
   exact hr _ (by simp only [Bool.false_eq_true, false_iff]; omega)
 ·
  exact hr _ (by simp only [Bool.false_eq_true, false_iff]; omega)
theorem slot_full_eq (f : Bool) : slot_full.f f = some (flag f) := by
 unfold slot_full.f flag
 cases f <;> rfl
theorem slot_Put_eq (s b v : Int) (f : Bool) (t : ByteArray) : slot_Put.f s b v f t = some (if right s b v t = true then (vote s b v f t, 0) else ([], 1)) := by
 unfold slot_Put.f
 rw [slot_Right_eq]
 simp only [Option.bind_some]
 by_cases h : right s b v t = true
 ·
  rw [if_pos h, if_pos h]
  have h6 := (right_iff.1 h).2.2.2.2.2
  simp only [wire_Num_eq, slot_full_eq, wire_Text_eq (s := t) (by omega), Option.bind_some]
  have hl := vote_length s b v f t
  unfold vote at hl
  simp only [List.length_append] at hl
  rw [concat_eq (by simp only [lenSum, List.map_cons, List.map_nil, List.sum_cons, List.sum_nil]; omega)]
  simp only [Option.bind_some, vote, List.flatten_cons, List.flatten_nil, List.append_nil]
 ·
  rw [if_neg h, if_neg h]
theorem slot_Promise_eq (n : Int) : slot_Promise.f n = some (if ballot n = true then (promise n, 0) else ([], 1)) := by
 unfold slot_Promise.f
 rw [slot_ballot_eq]
 simp only [Option.bind_some]
 by_cases h : ballot n = true
 ·
  rw [if_pos h, if_pos h]
  simp only [wire_Num_eq, Option.bind_some]
  have hl := promise_length n
  unfold promise at hl
  simp only [List.length_append] at hl
  rw [concat_eq (by simp only [lenSum, List.map_cons, List.map_nil, List.sum_cons, List.sum_nil]; omega)]
  simp only [Option.bind_some, promise, List.flatten_cons, List.flatten_nil, List.append_nil]
 ·
  rw [if_neg h, if_neg h]
theorem slot_cut_l0 : ∀ (m : Nat) (ns b : List Int) (ok : Bool), Bytes b → b.length ≤ 140737488355328 → Ev (fun k => slot_cut.l0 k m ns b ok) (cutL m ns b ok)
 | 0, ns, b, ok, _, _ => Ev.congr (fun k => by simp only [slot_cut.l0]; rfl) (Ev.now _)
 | m + 1, ns, b, ok, hb, hl => by
  by_cases h : ok = true
  ·
   subst h
   refine Ev.congr (f := fun k => (wire_CutNum.f k b).bind fun t => slot_cut.l0 k m (ns ++ [t.1]) t.2.1 t.2.2) (fun k => by simp only [slot_cut.l0, if_true]) ?_
   refine Ev.bind (wire_CutNum_ev hb hl) ?_
   simp only [cutL, if_true]
   exact slot_cut_l0 m _ _ _ (cutNum_bytes hb) (Nat.le_trans (cutNum_length_le b) hl)
  ·
   have h : ok = false := by simpa using h
   subst h
   refine Ev.congr (f := fun k => slot_cut.l0 k m (ns ++ [0]) b false) (fun k => by simp only [slot_cut.l0, Bool.false_eq_true, if_false]) ?_
   simp only [cutL, Bool.false_eq_true, if_false]
   exact slot_cut_l0 m _ _ _ hb hl
theorem slot_cut_ev {b : List Int} (hb : Bytes b) (hl : b.length ≤ 140737488355328) : Ev (fun k => slot_cut.f k b) (cutVote b) := by
 unfold slot_cut.f
 refine Ev.bind (slot_cut_l0 4 [] b true hb hl) (Ev.bind (wire_CutText_ev (cutL_bytes 4 [] b true hb) (Nat.le_trans (cutL_length 4 [] b true) hl)) ?_)
 exact Ev.now _
theorem slot_Get_ev {b : List Int} (hb : Bytes b) (hl : b.length ≤ 140737488355328) : Ev (fun k => slot_Get.f k b) (slotGet b) := by
 unfold slot_Get.f slotGet
 have j0t : ∀ n, Ev (fun k => slot_Get.j0 k n true) (gotP n 0) := fun n => Ev.step (fun k => by simp only [slot_Get.j0, if_true]; rfl) (Ev.now _)
 have j0f : ∀ n, Ev (fun k => slot_Get.j0 k n false) (nothing 2) := fun n => Ev.step (fun k => by simp only [slot_Get.j0, Bool.false_eq_true, if_false]; rfl) (Ev.now _)
 have j1t : ∀ u : Vote, Ev (fun k => slot_Get.j1 k true u.1 u.2.1 u.2.2.1 u.2.2.2.1 u.2.2.2.2) (gotV u 0) := fun n => Ev.step (fun k => by simp only [slot_Get.j1, if_true]; rfl) (Ev.now _)
 have j1f : ∀ u : Vote, Ev (fun k => slot_Get.j1 k false u.1 u.2.1 u.2.2.1 u.2.2.2.1 u.2.2.2.2) (nothing 2) := fun n => Ev.step (fun k => by simp only [slot_Get.j1, Bool.false_eq_true, if_false]; rfl) (Ev.now _)
 have hb1 := cutNum_bytes hb
 have hl1 := Nat.le_trans (cutNum_length_le b) hl
 refine Ev.bind (wire_CutNum_ev hb hl) ?_
 by_cases h1 : (cutNum b).1 = 1
 ·
  rw [if_pos h1]
  refine Ev.pos h1 (Ev.bind (wire_CutNum_ev hb1 hl1) (Ev.bind (Ev.eq (slot_Promise_eq _)) ?_))
  by_cases h : ballot (cutNum (cutNum b).2.1).1 = true
  ·
   simp only [h, if_true, true_and]
   refine Ev.bind (equal_ev (by have := promise_length (cutNum (cutNum b).2.1).1; omega)) ?_
   by_cases he : promise (cutNum (cutNum b).2.1).1 = b
   ·
    rw [decide_eq_true he, if_pos he]
    exact j0t _
   ·
    rw [decide_eq_false he, if_neg he]
    exact j0f _
  ·
   rw [if_neg (c := ballot _ = true ∧ _) (fun hh => h hh.1)]
   simp only [if_neg h]
   exact Ev.neg (by decide) (j0f _)
 ·
  rw [if_neg h1]
  refine Ev.neg h1 ?_
  by_cases h2 : (cutNum b).1 = 2
  ·
   rw [if_pos h2]
   refine Ev.pos h2 (Ev.bind (slot_cut_ev hb1 hl1) (Ev.bind (Ev.eq (slot_Put_eq _ _ _ _ _)) ?_))
   by_cases h : rightV (cutVote (cutNum b).2.1) = true
   ·
    have h' := h
    unfold rightV at h'
    have h6 := (right_iff.1 h').2.2.2.2.2
    simp only [h, h', if_true, true_and]
    refine Ev.bind (equal_ev (by have := vote_length (cutVote (cutNum b).2.1).1 (cutVote (cutNum b).2.1).2.1 (cutVote (cutNum b).2.1).2.2.1 (cutVote (cutNum b).2.1).2.2.2.1 (cutVote (cutNum b).2.1).2.2.2.2; omega)) ?_
    by_cases he : voteV (cutVote (cutNum b).2.1) = b
    ·
     rw [if_pos he]
     unfold voteV at he
     rw [decide_eq_true he]
     exact j1t _
    ·
     rw [if_neg he]
     unfold voteV at he
     rw [decide_eq_false he]
     exact j1f _
   ·
    have h' := h
    unfold rightV at h'
    rw [if_neg (c := rightV _ = true ∧ _) (fun hh => h hh.1)]
    simp only [if_neg h']
    exact Ev.neg (by decide) (j1f _)
  ·
   rw [if_neg h2]
   exact Ev.neg h2 (Ev.now _)
end Go.Proofs.Yteoklmfkofgfmaa.Pl
/- The printed functions of wire for lists of texts answer what the plain ones do. -/
namespace Go.Proofs.Yteoklmfkofgfmaa.Pl
open Go.RowKit Go.Proofs.Yteoklmfkofgfmaa.X Go.Proofs.YteoklmfkofgfmaaW.PrintWords Go.Proofs.YteoklmfkofgfmaaW.PrintLast Go.Proofs.YteoklmfkofgfmaaW.PrintMore
theorem rdOf_lt {α : Type} (d : α) (l : List α) (i : Nat) (h : i < l.length) : rdOf d l (i : Int) = l[i] := by
 simp [rdOf, List.getD_eq_getElem?_getD, List.getElem?_eq_getElem h]
theorem wire_Texts_l0 (l : List ByteArray) (hs : ∀ s ∈ l, s.size ≤ 140737488351232) (hl : l.length ≤ 140737488351232) (d : Nat) : ∀ (i : Nat) (acc : List Int), i ≤ l.length → l.length - i = d → acc.length + ((l.drop i).map text).flatten.length < 140737488355328 →
  Ev (fun k => wire_Texts.l0 k acc l (l.length : Int) (i : Int)) (acc ++ ((l.drop i).map text).flatten) := by
 induction d with
 | zero =>
  intro i acc hi hd hb
  have : i = l.length := by omega
  subst this
  refine Ev.step (f := fun _ => some acc) (fun k => ?_) ?_
  ·
   simp only [wire_Texts.l0]
   rw [if_neg (by omega)]
  ·
   simpa using Ev.now acc
 | succ d ih =>
  intro i acc hi hd hb
  have hlt : i < l.length := by omega
  have hdr : l.drop i = l[i] :: l.drop (i + 1) := List.drop_eq_getElem_cons hlt
  rw [hdr] at hb ⊢
  simp only [List.map_cons, List.flatten_cons, List.length_append] at hb
  refine Ev.step (f := fun k => wire_Texts.l0 k (acc ++ text l[i]) l (l.length : Int) ((i + 1 : Nat) : Int)) (fun k => ?_) ?_
  ·
   simp only [wire_Texts.l0]
   rw [if_pos (by omega), if_pos (by omega), if_pos (by omega), rdOf_lt _ _ _ hlt, wire_Text_eq (hs _ (List.getElem_mem hlt))]
   simp only [Option.bind_some]
   rw [if_pos (by omega), w64 (by omega) (by omega)]
   rfl
  ·
   have := ih (i + 1) (acc ++ text l[i]) (by omega) (by omega) (by rw [List.length_append]; omega)
   rw [List.append_assoc] at this
   exact this
theorem wire_Texts_ev {l : List ByteArray} (hs : ∀ s ∈ l, s.size ≤ 140737488351232) (hl : l.length ≤ 140737488351232) (hb : (texts l).length < 140737488355328) : Ev (fun k => wire_Texts.f k l) (texts l) := by
 unfold wire_Texts.f texts
 rw [wire_Num_eq]
 simp only [Option.bind_some]
 unfold texts at hb
 have := wire_Texts_l0 l hs hl l.length 0 (num l.length) (by omega) (by omega) (by simpa using hb)
 simpa using this
theorem wire_CutTexts_l0 : ∀ (n : Nat) (b : List Int) (acc : List ByteArray), Bytes b → b.length ≤ 140737488355328 → n ≤ 4294967295 → acc.length + b.length < 4398046511104 →
  Ev (fun k => wire_CutTexts.l0 k (n : Int) b true acc) (match cutN n b with | some x => (acc ++ x.1, x.2, true) | none => ([], [], false))
 | 0, b, acc, hb, hl, hn, ha => by
  refine Ev.step (f := fun k => wire_CutTexts.j1 k 0 b true acc false) (fun k => ?_) ?_
  ·
   simp only [wire_CutTexts.l0, if_true]
   rfl
  refine Ev.step (f := fun _ => some (acc, b, true)) (fun k => ?_) (by simpa [cutN] using Ev.now (acc, b, true))
  simp [wire_CutTexts.j1]
 | n + 1, b, acc, hb, hl, hn, ha => by
  refine Ev.step (f := fun k => wire_CutTexts.j1 k ((n + 1 : Nat) : Int) b true acc true) (fun k => ?_) ?_
  ·
   simp only [wire_CutTexts.l0, if_true]
   rw [decide_eq_true (by omega)]
  refine Ev.step (f := fun k => (wire_CutText.f k b).bind fun bt => (if bt.2.2 = true then (if acc.length < 8796093022208 then (wire_CutTexts.l0 k (n : Int) bt.2.1 bt.2.2 (acc ++ [bt.1])) else none) else (wire_CutTexts.l0 k (n : Int) bt.2.1 bt.2.2 acc))) (fun k => ?_) ?_
  ·
   simp only [wire_CutTexts.j1, if_true]
   rw [show wrap64 (((n + 1 : Nat) : Int) - 1) = (n : Int) by rw [w64 (by omega) (by omega)]; omega]
  refine Ev.bind (wire_CutText_ev hb hl) ?_
  by_cases hc : (cutText b).2.2 = true
  ·
   have hlen := cutText_rest_length hc
   have h1 := wire_CutTexts_l0 n (cutText b).2.1 (acc ++ [(cutText b).1]) (cutText_rest_bytes hb) (by omega) (by omega) (by rw [List.length_append]; simp only [List.length_cons, List.length_nil]; omega)
   simp only [hc, if_true, cutN] at h1 ⊢
   refine Ev.pos (by omega) ?_
   cases hq : cutN n (cutText b).2.1 with
   | none => rw [hq] at h1; simpa using h1
   | some x => rw [hq] at h1; simpa using h1
  ·
   simp only [hc, cutN]
   simp only [Bool.false_eq_true, if_false]
   refine Ev.step (f := fun k => wire_CutTexts.j1 k (n : Int) (cutText b).2.1 false acc false) (fun k => ?_) ?_
   ·
    simp [wire_CutTexts.l0]
   refine Ev.step (f := fun _ => some (([] : List ByteArray), ([] : List Int), false)) (fun k => ?_) (Ev.now _)
   simp [wire_CutTexts.j1]
theorem wire_CutTexts_ev {b : List Int} (hb : Bytes b) (hl : b.length < 4398046511104) : Ev (fun k => wire_CutTexts.f k b) (cutTexts b) := by
 unfold wire_CutTexts.f
 refine Ev.bind (wire_CutNum_ev hb (by omega)) ?_
 unfold cutNum cutTexts
 by_cases h4 : b.length < 4
 ·
  simp only [if_pos h4]
  refine Ev.step (f := fun k => wire_CutTexts.j1 k 0 [] false [] false) (fun k => ?_) ?_
  ·
   simp [wire_CutTexts.l0]
  refine Ev.step (f := fun _ => some (([] : List ByteArray), ([] : List Int), false)) (fun k => ?_) (Ev.now _)
  simp [wire_CutTexts.j1]
 ·
  simp only [if_neg h4]
  obtain ⟨g0, g1⟩ := val4_nonneg hb (by omega)
  have h1 := wire_CutTexts_l0 (val4 b).toNat (b.drop 4) [] (hb.drop 4) (by rw [List.length_drop]; omega) (by omega) (by rw [List.length_drop]; simp only [List.length_nil]; omega)
  rw [show (((val4 b).toNat : Nat) : Int) = val4 b by omega] at h1
  cases hq : cutN (val4 b).toNat (b.drop 4) with
  | none => rw [hq] at h1; simpa using h1
  | some x => rw [hq] at h1; simpa using h1
end Go.Proofs.Yteoklmfkofgfmaa.Pl
/- The printed checksums answer the plain one. -/
namespace Go.Proofs.Yteoklmfkofgfmaa.Pl
open Go.RowKit Go.Proofs.Yteoklmfkofgfmaa.X Go.Proofs.YteoklmfkofgfmaaW.PrintWords Go.Proofs.YteoklmfkofgfmaaW.PrintLast Go.Proofs.YteoklmfkofgfmaaW.PrintMore
theorem rd_at (l : List Int) (i : Nat) (h : i < l.length) : rd l (i : Int) = l[i] := by
 simp [rd, List.getD_eq_getElem?_getD, List.getElem?_eq_getElem h]
theorem bit_eq {x : Nat} (h : x < 4294967296) : check_word_eight.bit (x : Int) = (bitN x : Int) := by
 unfold check_word_eight.bit bitN
 rw [bits_one32 h]
 have hd : (x : Int) / 2 = ((x / 2 : Nat) : Int) := by omega
 rw [hd]
 by_cases h1 : x % 2 = 1
 ·
  rw [if_pos (by omega), if_pos h1]
  exact bits_xor32 (a := x / 2) (b := 2197175160) (by omega) (by omega)
 ·
  rw [if_neg (by omega), if_neg h1]
theorem go_eq : ∀ (m : Nat) {x : Nat}, x < 4294967296 → check_word_eight.go m (x : Int) = (goN m x : Int)
 | 0, _, _ => rfl
 | m + 1, x, h => by
  rw [check_word_eight.go, bit_eq h, go_eq m (bitN_lt h)]
  rfl
theorem eight_eq {w : Nat} {c : Int} (hw : w < 4294967296) (hc : 0 ≤ c ∧ c < 256) : check_word_eight.f (w : Int) c = some (stepN w c.toNat : Int) := by
 have hc1 : c % 4294967296 = ((c.toNat : Nat) : Int) := by omega
 have hc2 : c.toNat < 4294967296 := by omega
 unfold check_word_eight.f
 rw [hc1, bits_xor32 hw hc2, go_eq 8 (Nat.xor_lt_two_pow (n := 32) hw hc2)]
 rfl
theorem more_l0 {l : List Int} (hb : Bytes l) (hl : l.length ≤ 140737488355328) (d : Nat) : ∀ (i w : Nat), i ≤ l.length → l.length - i = d → w < 4294967296 →
  Ev (fun k => check_More.l0 k (w : Int) l (l.length : Int) (i : Int)) ((4294967295 - crcN w (l.drop i) : Nat) : Int) := by
 induction d with
 | zero =>
  intro i w hi hd hw
  rw [List.drop_eq_nil_of_le (by omega)]
  refine Ev.step (f := fun _ => some ((4294967295 - w : Nat) : Int)) (fun k => ?_) (Ev.now _)
  simp only [check_More.l0]
  rw [if_neg (by omega), bits_all32 hw]
 | succ d ih =>
  intro i w hi hd hw
  have h1 : i < l.length := by omega
  have hc := hb _ (List.getElem_mem h1)
  rw [List.drop_eq_getElem_cons h1]
  refine Ev.step (f := fun k => check_More.l0 k ((stepN w (l[i]).toNat : Nat) : Int) l (l.length : Int) ((i + 1 : Nat) : Int)) (fun k => ?_) (ih (i + 1) (stepN w (l[i]).toNat) (by omega) (by omega) (stepN_lt hw (by omega)))
  simp only [check_More.l0]
  rw [if_pos (by omega), if_pos (by omega), if_pos (by omega), rd_at _ _ h1, eight_eq hw hc, w64 (by omega) (by omega)]
  rfl
theorem check_Sum_ev {l : List Int} (hb : Bytes l) (hl : l.length ≤ 140737488355328) : Ev (fun k => check_Sum.f k l) (crcSum l) := by
 unfold check_Sum.f check_More.f
 have h := more_l0 hb hl l.length 0 4294967295 (by omega) (by omega) (by omega)
 rw [List.drop_zero, ← crcSum_def] at h
 have e : Go.bits .xor .u32 0 4294967295 = ((4294967295 : Nat) : Int) := bits_xor32 (a := 0) (b := 4294967295) (by omega) (by omega)
 rw [e]
 exact Ev.bind h (Ev.now _)
end Go.Proofs.Yteoklmfkofgfmaa.Pl
/- Frames: put: the printed functions answer the plain ones. -/
namespace Go.Proofs.Yteoklmfkofgfmaa.Pl
open Go.RowKit Go.Proofs.Yteoklmfkofgfmaa.X Go.Proofs.YteoklmfkofgfmaaW.PrintWords Go.Proofs.YteoklmfkofgfmaaW.PrintLast Go.Proofs.YteoklmfkofgfmaaW.PrintMore
theorem frame_sum_ev {l : List Int} (hb : Bytes l) (hl : l.length ≤ 140737488355328) : Ev (fun k => frame_sum.f k l) (sumB l) := by
 unfold frame_sum.f
 refine Ev.bind (check_Sum_ev hb hl) ?_
 obtain ⟨h0, h1⟩ := crcSum_in l
 rw [w64 (by omega) (by omega), wire_Num_eq]
 exact Ev.now _
theorem frame_Put_ev {l : List Int} (hb : Bytes l) (hl : l.length ≤ 140737488355328) : Ev (fun k => frame_Put.f k l) (if l.length > 65535 then [] else frame l) := by
 unfold frame_Put.f
 by_cases h : l.length > 65535
 ·
  rw [if_pos h]
  exact Ev.pos (by omega) (Ev.now _)
 ·
  rw [if_neg h]
  refine Ev.neg (by omega) (Ev.bind (Ev.eq (wire_Num_eq _)) (Ev.bind (frame_sum_ev (bytes_num _) (by have := num_length_le l.length; omega)) (Ev.bind (frame_sum_ev hb hl) (Ev.bind (Ev.eq (concat_eq ?_)) ((Ev.now _).to ?_)))))
  ·
   have h1 := num_length_le l.length
   have h2 := sumB_length (num l.length)
   have h3 := sumB_length l
   simp only [lenSum, List.map_cons, List.map_nil, List.sum_cons, List.sum_nil]
   omega
  ·
   simp [frame]
end Go.Proofs.Yteoklmfkofgfmaa.Pl
/- Frames: cut: the printed function answers the plain one. -/
namespace Go.Proofs.Yteoklmfkofgfmaa.Pl
open Go.RowKit Go.Proofs.Yteoklmfkofgfmaa.X Go.Proofs.YteoklmfkofgfmaaW.PrintWords Go.Proofs.YteoklmfkofgfmaaW.PrintLast Go.Proofs.YteoklmfkofgfmaaW.PrintMore
theorem head_iff {b : List Int} (hb : Bytes b) (h12 : 12 ≤ b.length) (s : List Int) : b.take 12 = b.take 4 ++ (sumB (b.take 4) ++ sumB s) ↔ val4 (b.drop 4) = crcSum (b.take 4) ∧ val4 (b.drop 8) = crcSum s := by
 have e12 : b.take 12 = b.take 4 ++ ((b.drop 4).take 4 ++ (b.drop 8).take 4) := by
  rw [show 12 = 4 + (4 + 4) from rfl, List.take_add, List.take_add, List.drop_drop]
 have n4 := num_val4 (hb.drop 4) (by rw [List.length_drop]; omega)
 have n8 := num_val4 (hb.drop 8) (by rw [List.length_drop]; omega)
 obtain ⟨a0, a1⟩ := crcSum_in (b.take 4)
 obtain ⟨b0, b1⟩ := crcSum_in s
 obtain ⟨c0, c1⟩ := val4_nonneg (hb.drop 4) (by rw [List.length_drop]; omega)
 obtain ⟨d0, d1⟩ := val4_nonneg (hb.drop 8) (by rw [List.length_drop]; omega)
 rw [e12, List.append_cancel_left_eq, ← n4, ← n8]
 constructor
 ·
  intro h
  have h1 := List.append_inj h (by rw [sumB_length, num_length c0 c1])
  have v1 := congrArg val4 (show num (val4 (b.drop 4)) ++ [] = num (crcSum (b.take 4)) ++ [] by have e := h1.1; unfold sumB at e; rw [e])
  have v2 := congrArg val4 (show num (val4 (b.drop 8)) ++ [] = num (crcSum s) ++ [] by have e := h1.2; unfold sumB at e; rw [e])
  rw [val4_num c0 c1, val4_num a0 a1] at v1
  rw [val4_num d0 d1, val4_num b0 b1] at v2
  exact ⟨v1, v2⟩
 ·
  rintro ⟨h1, h2⟩
  rw [h1, h2]
  rfl
theorem frame_Cut_ev {b : List Int} (hb : Bytes b) (hl : b.length ≤ 140737488355328) : Ev (fun k => frame_Cut.f k b) (cutF b) := by
 have jt : ∀ n l, Ev (fun k => frame_Cut.j0 k n l true) ([], [], false) := fun n l => Ev.step (fun k => by simp only [frame_Cut.j0, if_true]) (Ev.now _)
 unfold frame_Cut.f
 by_cases h : b.length < 12
 ·
  rw [cutF_no (fun ho => by have := ho.1; omega)]
  exact Ev.pos (by omega) (Ev.now _)
 refine Ev.neg (by omega) (Ev.bind (wire_CutNum_ev hb hl) (Ev.pos (by omega) (Ev.bind (Ev.eq (clone_eq (by rw [List.length_drop]; omega))) ?_)))
 obtain ⟨g0, g1⟩ := val4_nonneg hb (by omega)
 have hcn : cutNum b = (val4 b, b.drop 4, true) := by unfold cutNum; rw [if_neg (by omega)]
 rw [hcn]
 simp only
 have hd : ((b.drop 12).length : Int) = (b.length : Int) - 12 := by rw [List.length_drop]; omega
 by_cases h1 : val4 b > 65535
 ·
  rw [cutF_no (fun ho => by have := ho.2.1; omega)]
  exact Ev.pos h1 (jt _ _)
 refine Ev.neg h1 ?_
 by_cases h2 : val4 b > ((b.drop 12).length : Int)
 ·
  rw [cutF_no (fun ho => by have := ho.2.2.1; omega)]
  exact Ev.pos h2 (jt _ _)
 refine Ev.neg h2 (Ev.pos (by omega) (Ev.bind (Ev.now _) (Ev.bind (frame_sum_ev (hb.take 4) (by rw [List.length_take]; omega)) (Ev.pos g0 (Ev.pos (by omega) (Ev.bind (frame_sum_ev ((hb.drop 12).take _) (by rw [List.length_take, List.length_drop]; omega)) ?_))))))
 have s1 := sumB_length (b.take 4)
 have s2 := sumB_length ((b.drop 12).take (val4 b).toNat)
 refine Ev.bind (Ev.eq (concat_eq ?_)) (Ev.bind (equal_ev (by rw [List.length_take]; omega)) ?_)
 ·
  simp only [lenSum, List.map_cons, List.map_nil, List.sum_cons, List.sum_nil, List.length_take]
  omega
 have hc : [b.take 4, sumB (b.take 4), sumB ((b.drop 12).take (val4 b).toNat)].flatten = b.take 4 ++ (sumB (b.take 4) ++ sumB ((b.drop 12).take (val4 b).toNat)) := by simp
 rw [hc]
 have hi := head_iff hb (by omega) ((b.drop 12).take (val4 b).toNat)
 by_cases ho : okF b
 ·
  have h45 : val4 (b.drop 4) = crcSum (b.take 4) ∧ val4 (b.drop 8) = crcSum ((b.drop 12).take (val4 b).toNat) := ⟨ho.2.2.2.1, ho.2.2.2.2⟩
  rw [decide_eq_true (hi.2 h45)]
  unfold cutF
  rw [if_pos ho]
  refine Ev.step (fun k => by simp only [frame_Cut.j0, Bool.not_true, Bool.false_eq_true, if_false]; rfl) (Ev.pos g0 (Ev.pos (by omega) (Ev.now _)))
 ·
  have h45 : ¬ (val4 (b.drop 4) = crcSum (b.take 4) ∧ val4 (b.drop 8) = crcSum ((b.drop 12).take (val4 b).toNat)) := fun hh => ho ⟨by omega, by omega, by omega, hh.1, hh.2⟩
  rw [decide_eq_false (fun e => h45 (hi.1 e)), cutF_no ho]
  exact jt _ _
end Go.Proofs.Yteoklmfkofgfmaa.Pl
/- Messages: the printed functions answer the plain ones. -/
namespace Go.Proofs.Yteoklmfkofgfmaa.Pl
open Go.RowKit Go.Proofs.Yteoklmfkofgfmaa.X Go.Proofs.YteoklmfkofgfmaaW.PrintWords Go.Proofs.YteoklmfkofgfmaaW.PrintLast Go.Proofs.YteoklmfkofgfmaaW.PrintMore
abbrev SV := S23
def vt (x : SV) : Vote := (x.f0, x.f1, x.f2, x.f3, x.f4)
def tv (v : Vote) : SV := ⟨v.1, v.2.1, v.2.2.1, v.2.2.2.1, v.2.2.2.2⟩
theorem map_vt_tv (l : List Vote) : (l.map tv).map vt = l := by rw [List.map_map]; exact List.map_id _
theorem rd_SV (l : List SV) (i : Nat) (h : i < l.length) : rd_T23 l (i : Int) = l[i] := by
 simp [rd_T23, List.getD_eq_getElem?_getD, List.getElem?_eq_getElem h]
theorem eqV (a b c : Int) (d : Bool) (e : ByteArray) (a' b' c' : Int) (d' : Bool) (e' : ByteArray) : (a == a' && (b == b' && (c == c' && (d == d' && (e.toList == e'.toList))))) = decide (((a, b, c, d, e) : Vote) = (a', b', c', d', e')) := by
 have he : e.toList = e'.toList ↔ e = e' := ⟨toList_inj, fun h => h ▸ rfl⟩
 rw [Bool.eq_iff_iff]
 simp [he]
theorem neV (x y : SV) : (!(x.f0 == y.f0) || (!(x.f1 == y.f1) || (!(x.f2 == y.f2) || (!(x.f3 == y.f3) || (!(x.f4.toList == y.f4.toList)))))) = !decide (vt x = vt y) := by
 unfold vt
 rw [← eqV]
 simp only [Bool.not_and]
theorem zV (a b c : Int) (d : Bool) (e : ByteArray) : (a == 0 && (b == 0 && (c == 0 && (!d && (e.toList == ([] : List UInt8)))))) = decide (((a, b, c, d, e) : Vote) = zeroV) := by
 unfold zeroV
 rw [← eqV, show (⟨#[]⟩ : ByteArray).toList = [] by decide +kernel]
 cases d <;> rfl
theorem slot_Right_eqS (x : SV) : slot_Right.f x.f0 x.f1 x.f2 x.f3 x.f4 = some (rightV (vt x)) := slot_Right_eq _ _ _ _ _
theorem slot_Put_eqV (v : Vote) : slot_Put.f v.1 v.2.1 v.2.2.1 v.2.2.2.1 v.2.2.2.2 = some (if rightV v = true then (voteV v, 0) else ([], 1)) := slot_Put_eq _ _ _ _ _
theorem slot_Put_rec (v : Vote) : ∃ e, slot_Put.f v.1 v.2.1 v.2.2.1 v.2.2.2.1 v.2.2.2.2 = some (recV v, e) := by
 rw [slot_Put_eqV]
 unfold recV
 split
 ·
  exact ⟨_, rfl⟩
 ·
  exact ⟨_, rfl⟩
def sameM (k f t b s : Int) (v : Vote) (vs : List Vote) (k' f' t' b' s' : Int) (v' : Vote) (vs' : List Vote) : Bool := decide (k = k' ∧ f = f' ∧ t = t' ∧ b = b' ∧ s = s' ∧ v = v' ∧ vs = vs')
theorem msg_bare_eq (k f t b s v0 v1 v2 : Int) (v3 : Bool) (v4 : ByteArray) (vs : List SV) : msg_bare.f k f t b s v0 v1 v2 v3 v4 vs = some (bareM k s (v0, v1, v2, v3, v4) (vs.map vt)) := by
 unfold msg_bare.f bareM
 rw [zV]
 have hv : vs.map vt = [] ↔ vs = [] := by simp
 have hz : (((vs.length : Int) == 0) = decide (vs.map vt = [])) := by
  cases vs with
  | nil => rfl
  | cons x t => simp; omega
 rw [hz]
 have key : ∀ (q e : Prop) [Decidable q] [Decidable e], (if k = 4 then (if k = 3 then (if k = 2 then (some true) else (some (decide e))) else (if decide q = true then (if k = 2 then (some true) else (some (decide e))) else (some false))) else (if s = 0 then (if k = 3 then (if k = 2 then (some true) else (some (decide e))) else (if decide q = true then (if k = 2 then (some true) else (some (decide e))) else (some false))) else (some false))) = some (decide ((k = 4 ∨ s = 0) ∧ (k = 3 ∨ q) ∧ (k = 2 ∨ e))) := by
  intro q e _ _
  by_cases h1 : k = 4 <;> by_cases h2 : s = 0 <;> by_cases h3 : k = 3 <;> by_cases h4 : k = 2 <;> by_cases h5 : q <;> by_cases h6 : e <;> first | omega | simp [h1, h2, h3, h4, h5, h6]
 exact key _ _
def prevS (l : List SV) (i : Nat) : Option Int := if i = 0 then none else some (l.getD (i - 1) z23).f0
theorem rising_l0 (l : List SV) (b : Int) (hl : l.length ≤ 140737488355328) (d : Nat) : ∀ i : Nat, i ≤ l.length → l.length - i = d →
  Ev (fun k => msg_rising.l0 k l b l (l.length : Int) (i : Int)) (rise b (prevS l i) ((l.drop i).map vt)) := by
 induction d with
 | zero =>
  intro i hi hd
  rw [List.drop_eq_nil_of_le (by omega)]
  refine Ev.step (f := fun _ => some true) (fun k => ?_) (Ev.now _)
  simp only [msg_rising.l0]
  rw [if_neg (by omega)]
 | succ d ih =>
  intro i hi hd
  have h1 : i < l.length := by omega
  have jt : Ev (fun k => msg_rising.j1 k l b l (l.length : Int) (i : Int) true) false := Ev.step (fun k => by simp only [msg_rising.j1, if_true]) (Ev.now _)
  rw [List.drop_eq_getElem_cons h1, List.map_cons]
  refine Ev.step (fun k => by simp only [msg_rising.l0]; rfl) (Ev.pos (by omega) (Ev.pos (by omega) (Ev.pos (by omega) ?_)))
  rw [rd_SV _ _ h1]
  refine Ev.bind (Ev.eq (slot_Right_eqS _)) ?_
  by_cases hr : rightV (vt l[i]) = true
  ·
   refine Ev.pos hr ?_
   by_cases hb : (l[i]).f1 ≥ b
   ·
    refine Ev.pos hb (jt.to ?_)
    simp only [rise, hr, Bool.true_and]
    rw [show decide ((vt l[i]).2.1 < b) = false from decide_eq_false (by show ¬ (l[i]).f1 < b; omega)]; rfl
   ·
    refine Ev.neg hb ?_
    have hb2 : decide ((vt l[i]).2.1 < b) = true := decide_eq_true (by show (l[i]).f1 < b; omega)
    have hn := ih (i + 1) (by omega) (by omega)
    have hp : prevS l (i + 1) = some (vt l[i]).1 := by
     unfold prevS
     rw [if_neg (by omega), Nat.add_sub_cancel, List.getD_eq_getElem?_getD, List.getElem?_eq_getElem h1]
     rfl
    rw [hp] at hn
    have jf : Ev (fun k => msg_rising.j1 k l b l (l.length : Int) (i : Int) false) (rise b (some (vt l[i]).1) ((l.drop (i + 1)).map vt)) := by
     refine Ev.step (fun k => by simp only [msg_rising.j1, Bool.false_eq_true, if_false]; rfl) ?_
     rw [w64 (by omega) (by omega)]
     exact hn
    by_cases hi0 : i = 0
    ·
     subst hi0
     refine Ev.neg (by omega) (jf.to ?_)
     simp [rise, hr, hb2, prevS]
    ·
     have hp0 : prevS l i = some (l[i - 1]'(by omega)).f0 := by
      unfold prevS
      rw [if_neg hi0, List.getD_eq_getElem?_getD, List.getElem?_eq_getElem (by omega)]
      rfl
     have hw : wrap64 ((i : Int) - 1) = ((i - 1 : Nat) : Int) := by rw [w64 (by omega) (by omega)]; omega
     refine Ev.pos (by omega) ?_
     rw [hw, rd_SV _ _ (by omega)]
     refine Ev.pos (by omega) (Ev.pos (by omega) ?_)
     by_cases hq : (l[i - 1]'(by omega)).f0 ≥ (l[i]).f0
     ·
      rw [decide_eq_true hq]
      refine jt.to ?_
      simp only [rise, hp0, hr, hb2, Bool.true_and]
      rw [show decide ((l[i - 1]'(by omega)).f0 < (vt l[i]).1) = false from decide_eq_false (by show ¬ _ < (l[i]).f0; omega), Bool.false_and]
     ·
      rw [decide_eq_false hq]
      refine jf.to ?_
      simp only [rise, hp0, hr, hb2, Bool.true_and]
      rw [show decide ((l[i - 1]'(by omega)).f0 < (vt l[i]).1) = true from decide_eq_true (by show _ < (l[i]).f0; omega), Bool.true_and]
  ·
   have hr2 : rightV (vt l[i]) = false := by simpa using hr
   refine Ev.neg hr (jt.to ?_)
   simp only [rise, hr2, Bool.false_and]
theorem msg_rising_ev {l : List SV} (b : Int) (hl : l.length ≤ 140737488355328) : Ev (fun k => msg_rising.f k l b) (rise b none (l.map vt)) := by
 unfold msg_rising.f
 have := rising_l0 l b hl l.length 0 (by omega) (by omega)
 simpa [prevS] using this
theorem in_eq (a m : Int) : msg_Right_1.f a m = some (decide (0 ≤ a ∧ a < m)) := by
 unfold msg_Right_1.f
 by_cases h : a ≥ 0
 ·
  rw [if_pos h]
  congr 1
  rw [decide_eq_decide]
  omega
 ·
  rw [if_neg h, decide_eq_false (by omega)]
theorem msg_Right_ev (k f t b s v0 v1 v2 : Int) (v3 : Bool) (v4 : ByteArray) {vs : List SV} (hl : vs.length ≤ 140737488355328) :
  Ev (fun n => msg_Right.f n k f t b s v0 v1 v2 v3 v4 vs) (rightM k f t b s (v0, v1, v2, v3, v4) (vs.map vt)) := by
 have jt : Ev (fun n => msg_Right.j0 n true k f t b s v0 v1 v2 v3 v4 vs) false := Ev.step (fun n => by simp only [msg_Right.j0, if_true]) (Ev.now _)
 have no : ¬ (1 ≤ k ∧ k ≤ 5 ∧ 0 ≤ f ∧ f < 7 ∧ 0 ≤ t ∧ t < 7 ∧ 1 ≤ b ∧ b ≤ 2147483647) → rightM k f t b s (v0, v1, v2, v3, v4) (vs.map vt) = false := by
  intro h
  unfold rightM
  rw [decide_eq_false h, Bool.false_and]
 unfold msg_Right.f
 by_cases h1 : k < 1
 ·
  exact Ev.pos h1 (jt.to (no (by omega)).symm)
 refine Ev.neg h1 ?_
 by_cases h2 : k > 5
 ·
  exact Ev.pos h2 (jt.to (no (by omega)).symm)
 refine Ev.neg h2 (Ev.bind (Ev.eq (in_eq _ _)) ?_)
 by_cases h3 : 0 ≤ f ∧ f < 7
 ·
  refine Ev.pos (decide_eq_true h3) (Ev.bind (Ev.eq (in_eq _ _)) ?_)
  by_cases h4 : 0 ≤ t ∧ t < 7
  ·
   refine Ev.pos (decide_eq_true h4) ?_
   by_cases h5 : b < 1
   ·
    exact Ev.pos h5 (jt.to (no (by omega)).symm)
   refine Ev.neg h5 ?_
   by_cases h6 : b > 2147483647
   ·
    exact Ev.pos h6 (jt.to (no (by omega)).symm)
   refine Ev.neg h6 (Ev.bind (Ev.eq (msg_bare_eq _ _ _ _ _ _ _ _ _ _ _)) ?_)
   have yes : rightM k f t b s (v0, v1, v2, v3, v4) (vs.map vt) = (bareM k s (v0, v1, v2, v3, v4) (vs.map vt) && (if k = 3 then right v0 v1 v2 v4 && decide (v1 = b) else if k = 4 then decide (0 ≤ s ∧ s < 64) else rise b none (vs.map vt))) := by
    unfold rightM
    rw [decide_eq_true (show 1 ≤ k ∧ k ≤ 5 ∧ 0 ≤ f ∧ f < 7 ∧ 0 ≤ t ∧ t < 7 ∧ 1 ≤ b ∧ b ≤ 2147483647 by omega)]
    rfl
   rw [yes]
   cases hb : bareM k s (v0, v1, v2, v3, v4) (vs.map vt) with
   | false => simpa using jt
   | true =>
    simp only [Bool.not_true, Bool.true_and]
    refine Ev.step (fun n => by simp only [msg_Right.j0, Bool.false_eq_true, if_false]; rfl) ?_
    by_cases h7 : k = 3
    ·
     rw [if_pos h7]
     refine Ev.pos h7 (Ev.bind (Ev.eq (slot_Right_eq _ _ _ _ _)) ?_)
     by_cases hr : right v0 v1 v2 v4 = true
     ·
      rw [hr, Bool.true_and]
      exact Ev.pos rfl ((Ev.now _).to (by rw [Bool.eq_iff_iff]; simp))
     ·
      have hr2 : right v0 v1 v2 v4 = false := by simpa using hr
      rw [hr2, Bool.false_and]
      exact Ev.neg (by decide) (Ev.now _)
    ·
     rw [if_neg h7]
     refine Ev.neg h7 ?_
     by_cases h8 : k = 4
     ·
      rw [if_pos h8]
      exact Ev.pos h8 (Ev.bind (Ev.eq (in_eq _ _)) (Ev.now _))
     ·
      rw [if_neg h8]
      exact Ev.neg h8 (Ev.bind (msg_rising_ev b hl) (Ev.now _))
  ·
   exact Ev.neg (by simpa using h4) (jt.to (no (by omega)).symm)
 ·
  exact Ev.neg (by simpa using h3) (jt.to (no (by omega)).symm)
theorem put_l1 (a : List Int) (hba : Bytes a) (ha : a.length ≤ 1000) (l : List SV) (h64 : l.length ≤ 64) (d : Nat) : ∀ (i : Nat) (acc : List ByteArray), i ≤ l.length → l.length - i = d → acc = ((l.take i).map vt).map recS →
  Ev (fun k => msg_Put.l1 k a acc l (l.length : Int) (i : Int)) (frame (a ++ texts ((l.map vt).map recS)), 0) := by
 induction d with
 | zero =>
  intro i acc hi hd he
  have hil : i = l.length := by omega
  subst hil
  rw [List.take_length] at he
  subst he
  have hm : ((l.map vt).map recS).length ≤ 64 := by simpa using h64
  have ht := flat_text_length (l.map vt)
  have hn := num_length_le (((l.map vt).map recS).length : Int)
  have htl : (texts ((l.map vt).map recS)).length ≤ 36000 := by
   unfold texts
   rw [List.length_append]
   rw [List.length_map] at ht
   omega
  refine Ev.step (fun k => by simp only [msg_Put.l1]; rfl) (Ev.neg (by omega) (Ev.bind (wire_Texts_ev (fun s hs => ?_) (by omega) (by omega)) ?_))
  ·
   obtain ⟨v, _, rfl⟩ := List.mem_map.1 hs
   have := recS_size v
   omega
  have hfl : (a ++ texts ((l.map vt).map recS)).length ≤ 65535 := by rw [List.length_append]; omega
  refine Ev.pos (by omega) (Ev.bind (frame_Put_ev (hba.append (bytes_texts _)) (by omega)) ?_)
  rw [if_neg (show ¬ (a ++ texts ((l.map vt).map recS)).length > 65535 by omega)]
  have := frame_length (r := a ++ texts ((l.map vt).map recS)) (by omega)
  exact Ev.neg (show ¬ ((frame (a ++ texts ((l.map vt).map recS))).length : Int) = 0 by omega) (Ev.now _)
 | succ d ih =>
  intro i acc hi hd he
  have h1 : i < l.length := by omega
  obtain ⟨e, hp⟩ := slot_Put_rec (vt l[i])
  refine Ev.step (f := fun k => msg_Put.l1 k a (acc ++ [recS (vt l[i])]) l (l.length : Int) ((i + 1 : Nat) : Int)) (fun k => ?_) (ih (i + 1) _ (by omega) (by omega) ?_)
  ·
   simp only [msg_Put.l1]
   rw [if_pos (by omega), if_pos (by omega), if_pos (by omega), rd_SV _ _ h1, show slot_Put.f (l[i]).f0 (l[i]).f1 (l[i]).f2 (l[i]).f3 (l[i]).f4 = _ from hp]
   simp only [Option.bind_some]
   rw [if_pos (by rw [he]; simp; omega), w64 (by omega) (by omega)]
   rfl
  ·
   rw [List.take_succ_eq_append_getElem h1, List.map_append, List.map_append, he]
   rfl
theorem put_l0 (ns : List Int) (h5 : ns.length = 5) (k f t b s : Int) (v : Vote) {l : List SV} (h64 : l.length ≤ 64) (d : Nat) : ∀ (i : Nat) (acc : List Int), i ≤ 5 → 5 - i = d → Bytes acc → acc.length ≤ 4 * i →
  Ev (fun n => msg_Put.l0 n acc ns (ns.length : Int) (i : Int) k f t b s v.1 v.2.1 v.2.2.1 v.2.2.2.1 v.2.2.2.2 l) (frame ((acc ++ ((ns.drop i).map num).flatten) ++ (text (recS v) ++ texts ((l.map vt).map recS))), 0) := by
 induction d with
 | zero =>
  intro i acc hi hd hb ha
  have : i = 5 := by omega
  subst this
  rw [List.drop_eq_nil_of_le (by omega)]
  obtain ⟨e, hp⟩ := slot_Put_rec v
  have hs := recS_size v
  have htl := text_length_le (recS v)
  refine Ev.step (fun n => by simp only [msg_Put.l0]; rfl) (Ev.neg (by omega) (Ev.bind (Ev.eq hp) ?_))
  simp only
  refine Ev.bind (Ev.eq (wire_Text_eq (s := recS v) (by omega))) (Ev.pos (by omega) ?_)
  have := put_l1 (acc ++ text (recS v)) (hb.append (bytes_text _)) (by rw [List.length_append]; omega) l h64 l.length 0 [] (by omega) (by omega) (by simp)
  refine this.to ?_
  simp
 | succ d ih =>
  intro i acc hi hd hb ha
  have h1 : i < ns.length := by omega
  have hn := num_length_le ns[i]
  rw [List.drop_eq_getElem_cons h1]
  refine Ev.step (f := fun n => msg_Put.l0 n (acc ++ num ns[i]) ns (ns.length : Int) ((i + 1 : Nat) : Int) k f t b s v.1 v.2.1 v.2.2.1 v.2.2.2.1 v.2.2.2.2 l) (fun n => ?_) ((ih (i + 1) (acc ++ num ns[i]) (by omega) (by omega) (hb.append (bytes_num _)) (by rw [List.length_append]; omega)).to (by simp only [List.map_cons, List.flatten_cons, List.append_assoc]))
  simp only [msg_Put.l0]
  rw [if_pos (by omega), if_pos (by omega), if_pos (by omega), rd_nat _ _ h1, wire_Num_eq]
  simp only [Option.bind_some]
  rw [if_pos (by omega), w64 (by omega) (by omega)]
  rfl
theorem msg_Put_ev (k f t b s v0 v1 v2 : Int) (v3 : Bool) (v4 : ByteArray) {vs : List SV} (hl : vs.length ≤ 140737488355328) :
  Ev (fun n => msg_Put.f n k f t b s v0 v1 v2 v3 v4 vs) (if rightM k f t b s (v0, v1, v2, v3, v4) (vs.map vt) = true then (putM k f t b s (v0, v1, v2, v3, v4) (vs.map vt), 0) else ([], 1)) := by
 unfold msg_Put.f
 refine Ev.bind (msg_Right_ev k f t b s v0 v1 v2 v3 v4 hl) ?_
 by_cases h : rightM k f t b s (v0, v1, v2, v3, v4) (vs.map vt) = true
 ·
  rw [if_pos h]
  have h64 := (right_votes h).1
  rw [List.length_map] at h64
  refine Ev.pos h (Ev.bind (Ev.now _) ?_)
  have := put_l0 [k, f, t, b, s] rfl k f t b s (v0, v1, v2, v3, v4) h64 5 0 [] (by omega) (by omega) Bytes.nil (by simp)
  exact this
 ·
  rw [if_neg h]
  exact Ev.neg h (Ev.now _)
theorem msg_vote_ev {x : ByteArray} (hl : x.size ≤ 140737488355328) : Ev (fun n => msg_vote.f n x) (voteOf x) := by
 unfold msg_vote.f
 exact Ev.pos (by omega) (Ev.bind (slot_Get_ev (bytes_bytesOf x) (by rw [bytesOf_size]; exact hl)) (Ev.now _))
theorem get_l0 : ∀ (l : List ByteArray) (acc : List SV), (∀ x ∈ l, x.size ≤ 140737488355328) → acc.length + l.length ≤ 2932031007402 → Ev (fun n => msg_Get.l0 n l acc) (acc ++ (l.map voteOf).map tv)
 | [], acc, _, _ => by simpa [msg_Get.l0] using Ev.now acc
 | x :: r, acc, hx, hn => by
  rw [List.length_cons] at hn
  refine Ev.congr (f := fun n => (msg_vote.f n x).bind fun v => if acc.length < 2932031007402 then msg_Get.l0 n r (acc ++ [⟨v.1, v.2.1, v.2.2.1, v.2.2.2.1, v.2.2.2.2⟩]) else none) (fun n => by simp only [msg_Get.l0]) ?_
  refine Ev.bind (msg_vote_ev (hx x List.mem_cons_self)) (Ev.pos (by omega) ?_)
  refine (get_l0 r (acc ++ [tv (voteOf x)]) (fun y hy => hx y (List.mem_cons_of_mem _ hy)) (by rw [List.length_append, List.length_singleton]; omega)).to ?_
  simp
def gotT (g : GotM) : msg_Get.T := (g.1, g.2.1, g.2.2.1, g.2.2.2.1, g.2.2.2.2.1, g.2.2.2.2.2.1.1, g.2.2.2.2.2.1.2.1, g.2.2.2.2.2.1.2.2.1, g.2.2.2.2.2.1.2.2.2.1, g.2.2.2.2.2.1.2.2.2.2, g.2.2.2.2.2.2.1.map tv, g.2.2.2.2.2.2.2)
theorem cutF_bytes {b : List Int} (hb : Bytes b) : Bytes (cutF b).1 := by
 unfold cutF
 split
 ·
  exact (hb.drop 12).take _
 ·
  exact Bytes.nil
theorem cutF_le (b : List Int) : (cutF b).1.length ≤ b.length := by
 unfold cutF
 split
 ·
  simp only [List.length_take, List.length_drop]; omega
 ·
  simp
theorem cutN_props : ∀ (n : Nat) (b : List Int) (x : List ByteArray × List Int), cutN n b = some x → x.1.length ≤ b.length ∧ ∀ s ∈ x.1, s.size ≤ b.length
 | 0, b, x, h => by
  simp only [cutN, Option.some.injEq] at h
  subst h
  exact ⟨by simp, fun s hs => nomatch hs⟩
 | n + 1, b, x, h => by
  simp only [cutN] at h
  split at h
  ·
   rename_i hc
   have hlen := cutText_rest_length hc
   cases hq : cutN n (cutText b).2.1 with
   | none => rw [hq] at h; simp at h
   | some y =>
    rw [hq] at h
    simp at h
    obtain ⟨h1, h2⟩ := cutN_props n _ y hq
    subst h
    refine ⟨by simp only [List.length_cons]; omega, fun s hs => ?_⟩
    rcases List.mem_cons.1 hs with rfl | hs
    ·
     omega
    ·
     have := h2 s hs
     omega
  ·
   simp at h
theorem cutTexts_props (b : List Int) : (cutTexts b).1.length ≤ b.length ∧ ∀ s ∈ (cutTexts b).1, s.size ≤ b.length := by
 unfold cutTexts
 split
 ·
  exact ⟨by simp, fun s hs => nomatch hs⟩
 ·
  cases hq : cutN (val4 b).toNat (b.drop 4) with
  | none => exact ⟨by simp, fun s hs => nomatch hs⟩
  | some x =>
   obtain ⟨h1, h2⟩ := cutN_props _ _ _ hq
   rw [List.length_drop] at h1 h2
   exact ⟨by simp only; omega, fun s hs => by have := h2 s hs; omega⟩
theorem fin_ev {b : List Int} (d : Int × Int × Int × Int × Int × Vote × List Vote) (ok : Bool) (rest : List Int) (hv : d.2.2.2.2.2.2.length ≤ 1000000) :
  Ev (fun n => msg_Get.fin n b d.1 d.2.1 d.2.2.1 d.2.2.2.1 d.2.2.2.2.1 d.2.2.2.2.2.1 (d.2.2.2.2.2.2.map tv) ok rest) (gotT (if ok = true ∧ rest = [] ∧ rightT d = true ∧ putT d = b then goodT d else badM)) := by
 obtain ⟨k, f, t, bb, s, v, vs⟩ := d
 have hp := msg_Put_ev k f t bb s v.1 v.2.1 v.2.2.1 v.2.2.2.1 v.2.2.2.2 (vs := vs.map tv) (by rw [List.length_map]; simp only at hv; omega)
 rw [map_vt_tv] at hp
 unfold msg_Get.fin
 refine Ev.bind hp ?_
 have bad : (Ev (fun _ : Nat => some msg_Get.bad) (gotT badM)) := Ev.now _
 have hr : rightM k f t bb s (v.1, v.2.1, v.2.2.1, v.2.2.2.1, v.2.2.2.2) vs = rightT (k, f, t, bb, s, v, vs) := rfl
 rw [hr]
 cases ok with
 | false =>
  rw [if_neg (c := false = true ∧ _) (fun h => nomatch h.1)]
  exact Ev.neg (by decide) bad
 | true =>
  refine Ev.pos rfl ?_
  cases rest with
  | cons x y =>
   rw [if_neg (c := true = true ∧ _) (fun h => nomatch h.2.1)]
   exact Ev.pos (by simp only [List.length_cons]; omega) bad
  | nil =>
   refine Ev.neg (by simp) ?_
   by_cases h : rightT (k, f, t, bb, s, v, vs) = true
   ·
    simp only [h, if_true, true_and]
    refine Ev.bind (equal_ev ?_) ?_
    ·
     have h64 := (right_votes (show rightM k f t bb s v vs = true from h)).1
     have hbl := body_length (k := k) (f := f) (t := t) (b := bb) (s := s) (v := v) h64
     have := frame_length (r := body k f t bb s v vs) (by omega)
     show (frame (body k f t bb s v vs)).length ≤ _
     omega
    ·
     by_cases he : putT (k, f, t, bb, s, v, vs) = b
     ·
      rw [if_pos he]
      exact Ev.pos (decide_eq_true he) (Ev.now _)
     ·
      rw [if_neg he]
      exact Ev.neg (fun hh => he (of_decide_eq_true hh)) bad
   ·
    rw [if_neg (c := true = true ∧ _) (fun hh => h hh.2.2.1), if_neg h]
    exact Ev.neg (by decide) bad
theorem msg_Get_ev {b : List Int} (hb : Bytes b) (hl : b.length ≤ 1000000) : Ev (fun n => msg_Get.f n b) (gotT (getM b)) := by
 unfold msg_Get.f getM
 have e0 := frame_Cut_ev hb (by omega)
 have b0 := cutF_bytes hb
 have l0 := cutF_le b
 refine Ev.bind e0 ?_
 rcases hq : cutF b with ⟨r, rest, ok⟩
 rw [hq] at b0 l0
 clear e0 hq
 simp only at b0 l0 ⊢
 have e1 := wire_CutNum_ev b0 (by omega)
 have b1 := cutNum_bytes b0
 have l1 := cutNum_length_le r
 refine Ev.bind e1 ?_
 rcases hq0 : cutNum r with ⟨n0, x0, i0⟩
 rw [hq0] at b1 l1
 simp only at b1 l1 ⊢
 clear e1
 have e2 := wire_CutNum_ev b1 (by omega)
 have b2 := cutNum_bytes b1
 have l2 := cutNum_length_le x0
 refine Ev.bind e2 ?_
 rcases hq1 : cutNum x0 with ⟨n1, x1, i1⟩
 rw [hq1] at b2 l2
 simp only at b2 l2 ⊢
 clear e2
 have e3 := wire_CutNum_ev b2 (by omega)
 have b3 := cutNum_bytes b2
 have l3 := cutNum_length_le x1
 refine Ev.bind e3 ?_
 rcases hq2 : cutNum x1 with ⟨n2, x2, i2⟩
 rw [hq2] at b3 l3
 simp only at b3 l3 ⊢
 clear e3
 have e4 := wire_CutNum_ev b3 (by omega)
 have b4 := cutNum_bytes b3
 have l4 := cutNum_length_le x2
 refine Ev.bind e4 ?_
 rcases hq3 : cutNum x2 with ⟨n3, x3, i3⟩
 rw [hq3] at b4 l4
 simp only at b4 l4 ⊢
 clear e4
 have e5 := wire_CutNum_ev b4 (by omega)
 have b5 := cutNum_bytes b4
 have l5 := cutNum_length_le x3
 refine Ev.bind e5 ?_
 rcases hq4 : cutNum x3 with ⟨n4, x4, i4⟩
 rw [hq4] at b5 l5
 simp only at b5 l5 ⊢
 clear e5
 have hs : (cutText x4).1.size ≤ 1000000 := by
  by_cases h : (cutText x4).2.2 = true
  ·
   have := cutText_rest_length h
   omega
  ·
   rw [(cutText_no (by simpa using h)).1]
   decide
 have b6 := cutText_rest_bytes b5
 have l6 := cutText_rest_le (b := x4)
 refine Ev.bind (wire_CutText_ev b5 (by omega)) ?_
 rcases hq5 : cutText x4 with ⟨s, x5, i5⟩
 rw [hq5] at b6 l6 hs
 simp only at b6 l6 hs ⊢
 have hx := cutTexts_props x5
 refine Ev.bind (msg_vote_ev (by omega)) (Ev.bind (wire_CutTexts_ev b6 (by omega)) (Ev.bind (get_l0 _ [] (fun x h => by have := hx.2 x h; omega) (by simp only [List.length_nil]; omega)) ?_))
 rw [List.nil_append]
 have hd : dec r ok = ((n0, n1, n2, n3, n4, voteOf s, (cutTexts x5).1.map voteOf), ((((((ok && i0) && i1) && i2) && i3) && i4) && i5)) := by
  simp only [dec, hq0, hq1, hq2, hq3, hq4, hq5]
 rw [hd]
 exact fin_ev (n0, n1, n2, n3, n4, voteOf s, (cutTexts x5).1.map voteOf) _ rest (by simp only [List.length_map]; omega)
end Go.Proofs.Yteoklmfkofgfmaa.Pl
/- The reference's messages: the same ones, small ones. -/
namespace Go.Proofs.Yteoklmfkofgfmaa.Pl
open Go.RowKit Go.Proofs.Yteoklmfkofgfmaa.X Go.Proofs.YteoklmfkofgfmaaW.PrintWords Go.Proofs.YteoklmfkofgfmaaW.PrintLast Go.Proofs.YteoklmfkofgfmaaW.PrintMore
theorem refSameV_l0 (l m : List SV) (hm : l.length = m.length) (hl : l.length ≤ 140737488355328) (d : Nat) : ∀ i : Nat, i ≤ l.length → l.length - i = d →
  Ev (fun k => shardlogref17_Same.l0 k l m (i : Int)) (decide ((l.drop i).map vt = (m.drop i).map vt)) := by
 induction d with
 | zero =>
  intro i hi hd
  refine Ev.step (f := fun _ => some true) (fun k => ?_) ?_
  ·
   simp only [shardlogref17_Same.l0]
   rw [if_neg (by omega)]
  ·
   rw [List.drop_eq_nil_of_le (by omega), List.drop_eq_nil_of_le (by omega)]
   exact Ev.now _
 | succ d ih =>
  intro i hi hd
  have h1 : i < l.length := by omega
  have h2 : i < m.length := by omega
  rw [List.drop_eq_getElem_cons h1, List.drop_eq_getElem_cons h2]
  by_cases he : vt l[i] = vt m[i]
  ·
   refine Ev.step (f := fun k => shardlogref17_Same.l0 k l m ((i + 1 : Nat) : Int)) (fun k => ?_) ((ih (i + 1) (by omega) (by omega)).to (by simp only [he, List.map_cons, List.cons.injEq, true_and]))
   simp only [shardlogref17_Same.l0]
   rw [if_pos (by omega), if_pos (by omega), if_pos (by omega), rd_SV _ _ h1, rd_SV _ _ h2, neV, decide_eq_true he, if_neg (by decide), w64 (by omega) (by omega)]
   rfl
  ·
   refine Ev.step (f := fun _ => some false) (fun k => ?_) ((Ev.now false).to (by simp only [List.map_cons, List.cons.injEq, he, false_and, decide_false]))
   simp only [shardlogref17_Same.l0]
   rw [if_pos (by omega), if_pos (by omega), if_pos (by omega), rd_SV _ _ h1, rd_SV _ _ h2, neV, decide_eq_false he, if_pos (by decide)]
theorem refSameV_ev {l m : List SV} (hl : l.length ≤ 140737488355328) : Ev (fun k => shardlogref17_Same.f k l m) (decide (l.map vt = m.map vt)) := by
 unfold shardlogref17_Same.f
 by_cases h : l.length = m.length
 ·
  refine Ev.pos (by omega) ?_
  have := refSameV_l0 l m h hl l.length 0 (by omega) (by omega)
  simpa using this
 ·
  refine Ev.neg (by omega) ((Ev.now false).to ?_)
  symm
  rw [decide_eq_false_iff_not]
  intro e
  exact h (by simpa using congrArg List.length e)
theorem ref_SameM_ev (k f t b s v0 v1 v2 : Int) (v3 : Bool) (v4 : ByteArray) (vs : List SV) (k' f' t' b' s' v0' v1' v2' : Int) (v3' : Bool) (v4' : ByteArray) (vs' : List SV) (hl : vs.length ≤ 140737488355328) :
  Ev (fun n => shardlogref19_Same.f n k f t b s v0 v1 v2 v3 v4 vs k' f' t' b' s' v0' v1' v2' v3' v4' vs') (sameM k f t b s (v0, v1, v2, v3, v4) (vs.map vt) k' f' t' b' s' (v0', v1', v2', v3', v4') (vs'.map vt)) := by
 unfold shardlogref19_Same.f sameM
 have no : ∀ {p : Prop} [Decidable p], ¬ p → Ev (fun _ : Nat => some false) (decide p) := fun h => (Ev.now false).to (decide_eq_false h).symm
 by_cases h1 : k = k'
 ·
  refine Ev.pos h1 ?_
  by_cases h2 : f = f'
  ·
   refine Ev.pos h2 ?_
   by_cases h3 : t = t'
   ·
    refine Ev.pos h3 ?_
    by_cases h4 : b = b'
    ·
     refine Ev.pos h4 ?_
     by_cases h5 : s = s'
     ·
      refine Ev.pos h5 ?_
      rw [eqV]
      by_cases h6 : ((v0, v1, v2, v3, v4) : Vote) = (v0', v1', v2', v3', v4')
      ·
       refine Ev.pos (decide_eq_true h6) (Ev.bind (refSameV_ev hl) ((Ev.now _).to ?_))
       rw [decide_eq_decide]
       exact ⟨fun h => ⟨h1, h2, h3, h4, h5, h6, h⟩, fun h => h.2.2.2.2.2.2⟩
      ·
       exact Ev.neg (by simpa using h6) (no (fun h => h6 h.2.2.2.2.2.1))
     ·
      exact Ev.neg h5 (no (fun h => h5 h.2.2.2.2.1))
    ·
     exact Ev.neg h4 (no (fun h => h4 h.2.2.2.1))
   ·
    exact Ev.neg h3 (no (fun h => h3 h.2.2.1))
  ·
   exact Ev.neg h2 (no (fun h => h2 h.2.1))
 ·
  exact Ev.neg h1 (no (fun h => h1 h.1))
theorem small_l0 (k f t b s v0 v1 v2 : Int) (v3 : Bool) (v4 : ByteArray) (vs : List SV) (d : Nat) : ∀ i : Nat, i ≤ vs.length → vs.length - i = d →
  ∃ r, Ev (fun n => shardlogref19_Small.l0 n (i : Int) k f t b s v0 v1 v2 v3 v4 vs) r := by
 have fin : ∀ x : Int, ∃ r, Ev (fun n => shardlogref19_Small.j1 n x false k f t b s v0 v1 v2 v3 v4 vs) r := by
  intro x
  by_cases h : (vs.length : Int) ≤ 70
  ·
   exact ⟨_, Ev.step (f := fun _ => some (decide ((v4.size : Int) ≤ 1000))) (fun n => by simp only [shardlogref19_Small.j1, Bool.false_eq_true, if_false]; rw [if_pos h]) (Ev.now _)⟩
  ·
   exact ⟨_, Ev.step (f := fun _ => some false) (fun n => by simp only [shardlogref19_Small.j1, Bool.false_eq_true, if_false]; rw [if_neg h]) (Ev.now _)⟩
 induction d with
 | zero =>
  intro i hi hd
  obtain ⟨r, hr⟩ := fin (i : Int)
  refine ⟨r, Ev.step (fun n => by simp only [shardlogref19_Small.l0]; rfl) (Ev.neg (by omega) hr)⟩
 | succ d ih =>
  intro i hi hd
  have h1 : i < vs.length := by omega
  by_cases h100 : (i : Int) < 100
  ·
   by_cases hb : (((vs[i]).f4).size : Int) > 600
   ·
    refine ⟨false, Ev.step (fun n => by simp only [shardlogref19_Small.l0]; rfl) (Ev.pos (by omega) ?_)⟩
    rw [decide_eq_true h100]
    refine Ev.step (fun n => by simp only [shardlogref19_Small.j1, if_true]; rfl) (Ev.pos (by omega) (Ev.pos (by omega) ?_))
    rw [rd_SV _ _ h1]
    exact Ev.pos hb (Ev.now _)
   ·
    obtain ⟨r, hr⟩ := ih (i + 1) (by omega) (by omega)
    refine ⟨r, Ev.step (fun n => by simp only [shardlogref19_Small.l0]; rfl) (Ev.pos (by omega) ?_)⟩
    rw [decide_eq_true h100]
    refine Ev.step (fun n => by simp only [shardlogref19_Small.j1, if_true]; rfl) (Ev.pos (by omega) (Ev.pos (by omega) ?_))
    rw [rd_SV _ _ h1]
    refine Ev.neg hb ?_
    rw [w64 (by omega) (by omega)]
    exact hr
  ·
   obtain ⟨r, hr⟩ := fin (i : Int)
   refine ⟨r, Ev.step (fun n => by simp only [shardlogref19_Small.l0]; rfl) (Ev.pos (by omega) ?_)⟩
   rw [decide_eq_false h100]
   exact hr
theorem small_ev (k f t b s v0 v1 v2 : Int) (v3 : Bool) (v4 : ByteArray) (vs : List SV) : ∃ r, Ev (fun n => shardlogref19_Small.f n k f t b s v0 v1 v2 v3 v4 vs) r := by
 unfold shardlogref19_Small.f
 exact small_l0 k f t b s v0 v1 v2 v3 v4 vs vs.length 0 (by omega) (by omega)
end Go.Proofs.Yteoklmfkofgfmaa.Pl
