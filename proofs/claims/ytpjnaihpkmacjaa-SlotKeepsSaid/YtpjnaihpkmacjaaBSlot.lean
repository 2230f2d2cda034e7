/- The printed functions of slot answer what the plain ones do. -/
import Derived.Test.YtpjnaihpkmacjaaQSlot
import Derived.Test.YtpjnaihpkmacjaaBWire
import Derived.Test.YtpjnaihpkmacjaaBConcat
import Derived.Test.YtpjnaihpkmacjaaBEqual
import Derived.Test.YtpjnaihpkmacjaaXx2
import Derived.Test.YtpjnaihpkmacjaaXx3
import Derived.Test.YtpjnaihpkmacjaaXx4
import Derived.Test.YtpjnaihpkmacjaaXx5
import Derived.Test.YtpjnaihpkmacjaaXx8
import Derived.Test.YtpjnaihpkmacjaaXx9
namespace Go.Proofs.Ytpjnaihpkmacjaa.Pl
open Go.RowKit Go.Proofs.Ytpjnaihpkmacjaa.X Go.Proofs.YtpjnaihpkmacjaaW.PrintWords Go.Proofs.YtpjnaihpkmacjaaW.PrintLast Go.Proofs.YtpjnaihpkmacjaaW.PrintMore
theorem slot_ballot_eq (n : Int) : slot_ballot.f n = some (ballot n) := by
  unfold slot_ballot.f
  by_cases h : n ≥ 1
  · rw [if_pos h]
    by_cases h2 : n ≤ 2147483647
    · rw [decide_eq_true h2, ballot_iff.2 ⟨h, h2⟩]
    · rw [decide_eq_false h2, show ballot n = false from decide_eq_false (by omega)]
  · rw [if_neg h, show ballot n = false from decide_eq_false (by omega)]
theorem slot_Right_eq (s b v : Int) (f : Bool) (t : ByteArray) : slot_Right.f s b v f t = some (right s b v t) := by
  unfold slot_Right.f
  simp only [slot_ballot_eq, Option.bind_some]
  have hr : ∀ c : Bool, (c = true ↔ 0 ≤ s ∧ s < 64 ∧ 1 ≤ v ∧ v ≤ b ∧ b ≤ 2147483647 ∧ t.size ≤ 520) → some c = some (right s b v t) := by
    intro c hc
    rw [Option.some.injEq, Bool.eq_iff_iff, hc, right_iff]
  split
  · split
    · split
      · rename_i hb
        rw [ballot_iff] at hb
        split
        · rename_i hv
          rw [ballot_iff] at hv
          split
          · exact hr _ (by rw [decide_eq_true_iff]; omega)
          · exact hr _ (by simp only [Bool.false_eq_true, false_iff]; omega)
        · rename_i hv
          rw [ballot_iff] at hv
          exact hr _ (by simp only [Bool.false_eq_true, false_iff]; omega)
      · rename_i hb
        rw [ballot_iff] at hb
        exact hr _ (by simp only [Bool.false_eq_true, false_iff]; omega)
    · exact hr _ (by simp only [Bool.false_eq_true, false_iff]; omega)
  · exact hr _ (by simp only [Bool.false_eq_true, false_iff]; omega)
theorem slot_full_eq (f : Bool) : slot_full.f f = some (flag f) := by
  unfold slot_full.f flag
  cases f <;> rfl
theorem slot_Put_eq (s b v : Int) (f : Bool) (t : ByteArray) : slot_Put.f s b v f t = some (if right s b v t = true then (vote s b v f t, 0) else ([], 1)) := by
  unfold slot_Put.f
  rw [slot_Right_eq]
  simp only [Option.bind_some]
  by_cases h : right s b v t = true
  · rw [if_pos h, if_pos h]
    have h6 := (right_iff.1 h).2.2.2.2.2
    simp only [wire_Num_eq, slot_full_eq, wire_Text_eq (s := t) (by omega), Option.bind_some]
    have hl := vote_length s b v f t
    unfold vote at hl
    simp only [List.length_append] at hl
    rw [concat_eq (by simp only [lenSum, List.map_cons, List.map_nil, List.sum_cons, List.sum_nil]; omega)]
    simp only [Option.bind_some, vote, List.flatten_cons, List.flatten_nil, List.append_nil]
  · rw [if_neg h, if_neg h]
theorem slot_Promise_eq (n : Int) : slot_Promise.f n = some (if ballot n = true then (promise n, 0) else ([], 1)) := by
  unfold slot_Promise.f
  rw [slot_ballot_eq]
  simp only [Option.bind_some]
  by_cases h : ballot n = true
  · rw [if_pos h, if_pos h]
    simp only [wire_Num_eq, Option.bind_some]
    have hl := promise_length n
    unfold promise at hl
    simp only [List.length_append] at hl
    rw [concat_eq (by simp only [lenSum, List.map_cons, List.map_nil, List.sum_cons, List.sum_nil]; omega)]
    simp only [Option.bind_some, promise, List.flatten_cons, List.flatten_nil, List.append_nil]
  · rw [if_neg h, if_neg h]
theorem slot_cut_l0 : ∀ (m : Nat) (ns b : List Int) (ok : Bool), Bytes b → b.length ≤ 140737488355328 → Ev (fun k => slot_cut.l0 k m ns b ok) (cutL m ns b ok)
  | 0, ns, b, ok, _, _ => Ev.congr (fun k => by simp only [slot_cut.l0]; rfl) (Ev.now _)
  | m + 1, ns, b, ok, hb, hl => by
    by_cases h : ok = true
    · subst h
      refine Ev.congr (f := fun k => (wire_CutNum.f k b).bind fun t => slot_cut.l0 k m (ns ++ [t.1]) t.2.1 t.2.2) (fun k => by simp only [slot_cut.l0, if_true]) ?_
      refine Ev.bind (wire_CutNum_ev hb hl) ?_
      simp only [cutL, if_true]
      exact slot_cut_l0 m _ _ _ (cutNum_bytes hb) (Nat.le_trans (cutNum_length_le b) hl)
    · have h : ok = false := by simpa using h
      subst h
      refine Ev.congr (f := fun k => slot_cut.l0 k m (ns ++ [0]) b false) (fun k => by simp only [slot_cut.l0, Bool.false_eq_true, if_false]) ?_
      simp only [cutL, Bool.false_eq_true, if_false]
      exact slot_cut_l0 m _ _ _ hb hl
theorem slot_cut_ev {b : List Int} (hb : Bytes b) (hl : b.length ≤ 140737488355328) : Ev (fun k => slot_cut.f k b) (cutVote b) := by
  unfold slot_cut.f
  refine Ev.bind (slot_cut_l0 4 [] b true hb hl) (Ev.bind (wire_CutText_ev (cutL_bytes 4 [] b true hb) (Nat.le_trans (cutL_length 4 [] b true) hl)) ?_)
  exact Ev.now _
theorem slot_Get_ev {b : List Int} (hb : Bytes b) (hl : b.length ≤ 140737488355328) : Ev (fun k => slot_Get.f k b) (slotGet b) := by
  unfold slot_Get.f slotGet
  have j0t : ∀ n, Ev (fun k => slot_Get.j0 k n true) (gotP n 0) := fun n => Ev.step (fun k => by simp only [slot_Get.j0, if_true]; rfl) (Ev.now _)
  have j0f : ∀ n, Ev (fun k => slot_Get.j0 k n false) (nothing 2) := fun n => Ev.step (fun k => by simp only [slot_Get.j0, Bool.false_eq_true, if_false]; rfl) (Ev.now _)
  have j1t : ∀ u : Vote, Ev (fun k => slot_Get.j1 k true u.1 u.2.1 u.2.2.1 u.2.2.2.1 u.2.2.2.2) (gotV u 0) := fun n => Ev.step (fun k => by simp only [slot_Get.j1, if_true]; rfl) (Ev.now _)
  have j1f : ∀ u : Vote, Ev (fun k => slot_Get.j1 k false u.1 u.2.1 u.2.2.1 u.2.2.2.1 u.2.2.2.2) (nothing 2) := fun n => Ev.step (fun k => by simp only [slot_Get.j1, Bool.false_eq_true, if_false]; rfl) (Ev.now _)
  have hb1 := cutNum_bytes hb
  have hl1 := Nat.le_trans (cutNum_length_le b) hl
  refine Ev.bind (wire_CutNum_ev hb hl) ?_
  by_cases h1 : (cutNum b).1 = 1
  · rw [if_pos h1]
    refine Ev.pos h1 (Ev.bind (wire_CutNum_ev hb1 hl1) (Ev.bind (Ev.eq (slot_Promise_eq _)) ?_))
    by_cases h : ballot (cutNum (cutNum b).2.1).1 = true
    · simp only [h, if_true, true_and]
      refine Ev.bind (equal_ev (by have := promise_length (cutNum (cutNum b).2.1).1; omega)) ?_
      by_cases he : promise (cutNum (cutNum b).2.1).1 = b
      · rw [decide_eq_true he, if_pos he]
        exact j0t _
      · rw [decide_eq_false he, if_neg he]
        exact j0f _
    · rw [if_neg (c := ballot _ = true ∧ _) (fun hh => h hh.1)]
      simp only [if_neg h]
      exact Ev.neg (by decide) (j0f _)
  · rw [if_neg h1]
    refine Ev.neg h1 ?_
    by_cases h2 : (cutNum b).1 = 2
    · rw [if_pos h2]
      refine Ev.pos h2 (Ev.bind (slot_cut_ev hb1 hl1) (Ev.bind (Ev.eq (slot_Put_eq _ _ _ _ _)) ?_))
      by_cases h : rightV (cutVote (cutNum b).2.1) = true
      · have h' := h
        unfold rightV at h'
        have h6 := (right_iff.1 h').2.2.2.2.2
        simp only [h, h', if_true, true_and]
        refine Ev.bind (equal_ev (by have := vote_length (cutVote (cutNum b).2.1).1 (cutVote (cutNum b).2.1).2.1 (cutVote (cutNum b).2.1).2.2.1 (cutVote (cutNum b).2.1).2.2.2.1 (cutVote (cutNum b).2.1).2.2.2.2; omega)) ?_
        by_cases he : voteV (cutVote (cutNum b).2.1) = b
        · rw [if_pos he]
          unfold voteV at he
          rw [decide_eq_true he]
          exact j1t _
        · rw [if_neg he]
          unfold voteV at he
          rw [decide_eq_false he]
          exact j1f _
      · have h' := h
        unfold rightV at h'
        rw [if_neg (c := rightV _ = true ∧ _) (fun hh => h hh.1)]
        simp only [if_neg h']
        exact Ev.neg (by decide) (j1f _)
    · rw [if_neg h2]
      exact Ev.neg h2 (Ev.now _)
end Go.Proofs.Ytpjnaihpkmacjaa.Pl
