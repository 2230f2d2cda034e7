/- Plain laws of the vote record's bytes: no program in sight. -/
import Derived.Test.YtpjnaihpkmacjaaQWire
namespace Go.Proofs.Ytpjnaihpkmacjaa.Pl
open Go.RowKit Go.Proofs.YtpjnaihpkmacjaaW.PrintWords Go.Proofs.YtpjnaihpkmacjaaW.PrintMore

def ballot (n : Int) : Bool := decide (1 ≤ n ∧ n ≤ 2147483647)
theorem ballot_iff {n : Int} : ballot n = true ↔ 1 ≤ n ∧ n ≤ 2147483647 := by simp [ballot]
def right (s b v : Int) (t : ByteArray) : Bool := decide (0 ≤ s ∧ s < 64 ∧ 1 ≤ v ∧ v ≤ b ∧ b ≤ 2147483647 ∧ t.size ≤ 520)
theorem right_iff {s b v : Int} {t : ByteArray} : right s b v t = true ↔ 0 ≤ s ∧ s < 64 ∧ 1 ≤ v ∧ v ≤ b ∧ b ≤ 2147483647 ∧ t.size ≤ 520 := by simp [right]
def flag (f : Bool) : Int := if f = true then 1 else 0
theorem flag_in (f : Bool) : 0 ≤ flag f ∧ flag f ≤ 1 := by cases f <;> decide
theorem flag_eq (f : Bool) : (flag f == 1) = f := by cases f <;> rfl
def promise (n : Int) : List Int := num 1 ++ num n
def vote (s b v : Int) (f : Bool) (t : ByteArray) : List Int := num 2 ++ (num s ++ (num b ++ (num v ++ (num (flag f) ++ text t))))
theorem bytes_promise (n : Int) : Bytes (promise n) := (bytes_num _).append (bytes_num _)
theorem bytes_vote (s b v : Int) (f : Bool) (t : ByteArray) : Bytes (vote s b v f t) :=
  (bytes_num _).append ((bytes_num _).append ((bytes_num _).append ((bytes_num _).append ((bytes_num _).append (bytes_text _)))))
theorem promise_length (n : Int) : (promise n).length ≤ 8 := by
  have := num_length_le n
  unfold promise
  rw [List.length_append, num_length (by omega) (by omega)]
  omega
theorem vote_length (s b v : Int) (f : Bool) (t : ByteArray) : (vote s b v f t).length ≤ 24 + t.size := by
  have h1 := num_length_le s
  have h2 := num_length_le b
  have h3 := num_length_le v
  have h4 := num_length_le (flag f)
  have h5 := text_length_le t
  have h6 := num_length_le 2
  unfold vote
  simp only [List.length_append]
  omega
/-- n numbers at the beginning; behind an end, zeros. -/
def cutL : Nat → List Int → List Int → Bool → List Int × List Int × Bool
  | 0, ns, b, ok => (ns, b, ok)
  | m + 1, ns, b, ok => if ok = true then cutL m (ns ++ [(cutNum b).1]) (cutNum b).2.1 (cutNum b).2.2 else cutL m (ns ++ [0]) b ok
theorem cutNum_bytes {b : List Int} (hb : Bytes b) : Bytes (cutNum b).2.1 := by
  unfold cutNum
  split
  · exact Bytes.nil
  · exact hb.drop 4
theorem cutNum_length_le (b : List Int) : (cutNum b).2.1.length ≤ b.length := by
  unfold cutNum
  split
  · simp
  · simp only [List.length_drop]; omega
theorem cutL_bytes : ∀ (m : Nat) (ns b : List Int) (ok : Bool), Bytes b → Bytes (cutL m ns b ok).2.1
  | 0, _, _, _, h => h
  | m + 1, ns, b, ok, h => by
    unfold cutL
    split
    · exact cutL_bytes m _ _ _ (cutNum_bytes h)
    · exact cutL_bytes m _ _ _ h
theorem cutL_length : ∀ (m : Nat) (ns b : List Int) (ok : Bool), (cutL m ns b ok).2.1.length ≤ b.length
  | 0, _, _, _ => Nat.le_refl _
  | m + 1, ns, b, ok => by
    unfold cutL
    split
    · exact Nat.le_trans (cutL_length m _ _ _) (cutNum_length_le b)
    · exact cutL_length m _ _ _
abbrev Vote := Int × Int × Int × Bool × ByteArray
def cutVote (b : List Int) : Vote :=
  (rd (cutL 4 [] b true).1 0, rd (cutL 4 [] b true).1 1, rd (cutL 4 [] b true).1 2, rd (cutL 4 [] b true).1 3 == 1, (cutText (cutL 4 [] b true).2.1).1)
theorem cutVote_vote {s b v : Int} {f : Bool} {t : ByteArray} (h : right s b v t = true) : cutVote (num s ++ (num b ++ (num v ++ (num (flag f) ++ text t)))) = (s, b, v, f, t) := by
  obtain ⟨h1, h2, h3, h4, h5, h6⟩ := right_iff.1 h
  obtain ⟨g1, g2⟩ := flag_in f
  have e : cutL 4 [] (num s ++ (num b ++ (num v ++ (num (flag f) ++ text t)))) true = ([s, b, v, flag f], text t ++ [], true) := by
    simp [cutL, cutNum_num h1 (show s ≤ 4294967295 by omega), cutNum_num (show 0 ≤ b by omega) (show b ≤ 4294967295 by omega), cutNum_num (show 0 ≤ v by omega) (show v ≤ 4294967295 by omega), cutNum_num g1 (show flag f ≤ 4294967295 by omega)]
  unfold cutVote
  rw [e]
  simp only [cutText_text (show t.size ≤ 4294967295 by omega)]
  rw [show rd [s, b, v, flag f] 3 = flag f from rfl, flag_eq]
  rfl
abbrev Got (α : Type) := Int × Int × Int × Int × Bool × ByteArray × α
def nothing {α : Type} (x : α) : Got α := (0, 0, 0, 0, false, ⟨#[]⟩, x)
def gotP {α : Type} (n : Int) (x : α) : Got α := (n, 0, 0, 0, false, ⟨#[]⟩, x)
def gotV {α : Type} (u : Vote) (x : α) : Got α := (0, u.1, u.2.1, u.2.2.1, u.2.2.2.1, u.2.2.2.2, x)
def rightV (u : Vote) : Bool := right u.1 u.2.1 u.2.2.1 u.2.2.2.2
def voteV (u : Vote) : List Int := vote u.1 u.2.1 u.2.2.1 u.2.2.2.1 u.2.2.2.2
def slotGet (b : List Int) : Got Int :=
  if (cutNum b).1 = 1 then (if ballot (cutNum (cutNum b).2.1).1 = true ∧ promise (cutNum (cutNum b).2.1).1 = b then gotP (cutNum (cutNum b).2.1).1 0 else nothing 2)
  else if (cutNum b).1 = 2 then (if rightV (cutVote (cutNum b).2.1) = true ∧ voteV (cutVote (cutNum b).2.1) = b then gotV (cutVote (cutNum b).2.1) 0 else nothing 2)
  else nothing 2
theorem slotGet_promise {n : Int} (h : ballot n = true) : slotGet (promise n) = gotP n 0 := by
  have h' := h
  rw [ballot_iff] at h'
  have e1 : cutNum (promise n) = (1, num n ++ [], true) := by rw [List.append_nil]; exact cutNum_num (by omega) (by omega) _
  unfold slotGet
  rw [e1]
  simp only [cutNum_num (show 0 ≤ n by omega) (show n ≤ 4294967295 by omega)]
  simp [h]
theorem slotGet_vote {u : Vote} (h : rightV u = true) : slotGet (voteV u) = gotV u 0 := by
  obtain ⟨s, b, v, f, t⟩ := u
  have e1 : cutNum (voteV (s, b, v, f, t)) = (2, _, true) := cutNum_num (by omega) (by omega) _
  unfold slotGet
  rw [e1]
  simp only
  rw [cutVote_vote h]
  simp [h]
/-- What is got: a promise, a vote, or nothing. -/
theorem slotGet_cases (b : List Int) : (∃ n, ballot n = true ∧ b = promise n ∧ slotGet b = gotP n 0) ∨ (∃ u, rightV u = true ∧ b = voteV u ∧ slotGet b = gotV u 0) ∨ slotGet b = nothing 2 := by
  unfold slotGet
  by_cases h1 : (cutNum b).1 = 1
  · rw [if_pos h1]
    by_cases h : ballot (cutNum (cutNum b).2.1).1 = true ∧ promise (cutNum (cutNum b).2.1).1 = b
    · rw [if_pos h]
      exact .inl ⟨_, h.1, h.2.symm, rfl⟩
    · rw [if_neg h]
      exact .inr (.inr rfl)
  · rw [if_neg h1]
    by_cases h2 : (cutNum b).1 = 2
    · rw [if_pos h2]
      by_cases h : rightV (cutVote (cutNum b).2.1) = true ∧ voteV (cutVote (cutNum b).2.1) = b
      · rw [if_pos h]
        exact .inr (.inl ⟨_, h.1, h.2.symm, rfl⟩)
      · rw [if_neg h]
        exact .inr (.inr rfl)
    · rw [if_neg h2]
      exact .inr (.inr rfl)
end Go.Proofs.Ytpjnaihpkmacjaa.Pl
