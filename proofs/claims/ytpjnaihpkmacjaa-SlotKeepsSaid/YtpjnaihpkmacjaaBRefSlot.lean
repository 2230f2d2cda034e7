/- The reference's vote record. -/
import Derived.Test.YtpjnaihpkmacjaaQSlot
import Derived.Test.YtpjnaihpkmacjaaBRefText
import Derived.Test.YtpjnaihpkmacjaaBRefAt
import Derived.Test.YtpjnaihpkmacjaaXx11
import Derived.Test.YtpjnaihpkmacjaaXx12
import Derived.Test.YtpjnaihpkmacjaaXx15
namespace Go.Proofs.Ytpjnaihpkmacjaa.Pl
open Go.RowKit Go.Proofs.Ytpjnaihpkmacjaa.X Go.Proofs.YtpjnaihpkmacjaaW.PrintWords Go.Proofs.YtpjnaihpkmacjaaW.PrintLast Go.Proofs.YtpjnaihpkmacjaaW.PrintMore
theorem ref_Promise_eq (n : Int) : shardlogref17_Promise.f n = some (promise n) := by
  unfold shardlogref17_Promise.f
  have := num_length_le n
  have := num_length_le 1
  simp only [ref_Num_eq, Option.bind_some]
  rw [if_pos (by omega)]
  rfl
theorem ref_Right_eq (s b v : Int) (f : Bool) (t : ByteArray) : shardlogref17_Right.f s b v f t = some (right s b v t) := by
  unfold shardlogref17_Right.f
  have hr : ∀ c : Bool, (c = true ↔ 0 ≤ s ∧ s < 64 ∧ 1 ≤ v ∧ v ≤ b ∧ b ≤ 2147483647 ∧ t.size ≤ 520) → some c = some (right s b v t) := by
    intro c hc
    rw [Option.some.injEq, Bool.eq_iff_iff, hc, right_iff]
  split
  · split
    · split
      · split
        · split
          · exact hr _ (by rw [decide_eq_true_iff]; omega)
          · exact hr _ (by simp only [Bool.false_eq_true, false_iff]; omega)
        · exact hr _ (by simp only [Bool.false_eq_true, false_iff]; omega)
      · exact hr _ (by simp only [Bool.false_eq_true, false_iff]; omega)
    · exact hr _ (by simp only [Bool.false_eq_true, false_iff]; omega)
  · exact hr _ (by simp only [Bool.false_eq_true, false_iff]; omega)
theorem rd_nat' (l : List Int) (i : Nat) (h : i < l.length) : rd l (i : Int) = l[i] := by
  simp [rd, List.getD_eq_getElem?_getD, List.getElem?_eq_getElem h]
theorem flat_num_length (l : List Int) : (l.map num).flatten.length ≤ 4 * l.length := by
  induction l with
  | nil => simp
  | cons x l ih =>
    have := num_length_le x
    simp only [List.map_cons, List.flatten_cons, List.length_append, List.length_cons]
    omega
theorem ref_Put_l0 (ns : List Int) (h5 : ns.length = 5) (s b v : Int) (f : Bool) {t : ByteArray} (ht : t.size ≤ 1000) (d : Nat) : ∀ (i : Nat) (acc : List Int), i ≤ 5 → 5 - i = d → acc.length ≤ 4 * i →
    Ev (fun k => shardlogref17_Put.l0 k ns acc (i : Int) s b v f t) (acc ++ (((ns.drop i).map num).flatten ++ text t)) := by
  induction d with
  | zero =>
    intro i acc hi hd ha
    have : i = 5 := by omega
    subst this
    rw [List.drop_eq_nil_of_le (by omega)]
    have htl := text_length_le t
    refine Ev.step (f := fun _ => some (acc ++ text t)) (fun k => ?_) (Ev.now _)
    simp only [shardlogref17_Put.l0]
    rw [if_neg (by omega), ref_Text_eq (by omega)]
    simp only [Option.bind_some]
    rw [if_pos (by omega)]
  | succ d ih =>
    intro i acc hi hd ha
    have h1 : i < ns.length := by omega
    have hn := num_length_le ns[i]
    rw [List.drop_eq_getElem_cons h1]
    refine Ev.step (f := fun k => shardlogref17_Put.l0 k ns (acc ++ num ns[i]) ((i + 1 : Nat) : Int) s b v f t) (fun k => ?_) ((ih (i + 1) (acc ++ num ns[i]) (by omega) (by omega) (by rw [List.length_append]; omega)).to (by simp only [List.map_cons, List.flatten_cons, List.append_assoc]))
    simp only [shardlogref17_Put.l0]
    rw [if_pos (by omega), if_pos (by omega), if_pos (by omega), rd_nat' _ _ h1, ref_Num_eq]
    simp only [Option.bind_some]
    rw [if_pos (by omega), w64 (by omega) (by omega)]
    rfl
theorem ref_Put_ev {s b v : Int} {f : Bool} {t : ByteArray} (ht : t.size ≤ 1000) : Ev (fun k => shardlogref17_Put.f k s b v f t) (vote s b v f t) := by
  unfold shardlogref17_Put.f
  have h := fun n => ref_Put_l0 [2, s, b, v, n] rfl s b v f ht 5 0 [] (by omega) (by omega) (by simp)
  cases f with
  | true =>
    refine Ev.pos rfl (Ev.step (fun k => by simp only [shardlogref17_Put.j0]; rfl) ((h 1).to ?_))
    simp [vote, flag]
  | false =>
    refine Ev.neg (by simp) (Ev.step (fun k => by simp only [shardlogref17_Put.j0]; rfl) ((h 0).to ?_))
    simp [vote, flag]
def refV (b : List Int) : Vote := (numAt b 4, numAt b 8, numAt b 12, numAt b 16 == 1, (textAt b 20).1)
def refGet (b : List Int) : Got Bool :=
  if numAt b 0 = 1 then (if b.length = 8 ∧ ballot (numAt b 4) = true then gotP (numAt b 4) true else nothing false)
  else if numAt b 0 = 2 ∧ (textAt b 20).2 > 0 ∧ (b.length : Int) = 20 + (textAt b 20).2 ∧ numAt b 16 ≤ 1 ∧ rightV (refV b) = true then gotV (refV b) true else nothing false
theorem textAt_le (b : List Int) (i : Nat) : 0 ≤ (textAt b i).2 ∧ (textAt b i).2 ≤ b.length := by
  unfold textAt
  split
  · rename_i h
    have := cutText_rest_length h
    rw [List.length_drop] at this
    simp only
    omega
  · simp
theorem ref_Get_ev {b : List Int} (hb : Bytes b) (hl : b.length ≤ 1000000) : Ev (fun k => shardlogref17_Get.f k b) (refGet b) := by
  have a0 := At_eq (i := 0) hb (by omega) (by omega)
  have a4 := At_eq (i := 4) hb (by omega) (by omega)
  have a8 := At_eq (i := 8) hb (by omega) (by omega)
  have a12 := At_eq (i := 12) hb (by omega) (by omega)
  have a16 := At_eq (i := 16) hb (by omega) (by omega)
  have at20 := TextAt_eq (i := 20) hb (by omega) (by omega)
  have j0t : ∀ n, Ev (fun k => shardlogref17_Get.j0 k n true) (gotP n true) := fun n => Ev.step (fun k => by simp only [shardlogref17_Get.j0, if_true]; rfl) (Ev.now _)
  have j0f : ∀ n, Ev (fun k => shardlogref17_Get.j0 k n false) (nothing false) := fun n => Ev.step (fun k => by simp only [shardlogref17_Get.j0, Bool.false_eq_true, if_false]; rfl) (Ev.now _)
  have j1t : ∀ u : Vote, Ev (fun k => shardlogref17_Get.j1 k true u.1 u.2.1 u.2.2.1 u.2.2.2.1 u.2.2.2.2) (gotV u true) := fun n => Ev.step (fun k => by simp only [shardlogref17_Get.j1, if_true]; rfl) (Ev.now _)
  have j1f : ∀ u : Vote, Ev (fun k => shardlogref17_Get.j1 k false u.1 u.2.1 u.2.2.1 u.2.2.2.1 u.2.2.2.2) (nothing false) := fun n => Ev.step (fun k => by simp only [shardlogref17_Get.j1, Bool.false_eq_true, if_false]; rfl) (Ev.now _)
  have hj := j1f (refV b)
  have ht := textAt_le b 20
  unfold shardlogref17_Get.f refGet
  refine Ev.bind (Ev.eq a0) ?_
  by_cases h1 : numAt b 0 = 1
  · rw [if_pos h1]
    refine Ev.pos h1 (Ev.bind (Ev.eq a4) ?_)
    by_cases h8 : b.length = 8
    · refine Ev.pos (by omega) ?_
      by_cases hg : numAt b 4 ≥ 1
      · refine Ev.pos hg ?_
        by_cases hm : numAt b 4 ≤ 2147483647
        · rw [decide_eq_true hm, if_pos ⟨h8, ballot_iff.2 ⟨hg, hm⟩⟩]
          exact j0t _
        · rw [decide_eq_false hm, if_neg (fun hh => hm (ballot_iff.1 hh.2).2)]
          exact j0f _
      · rw [if_neg (fun hh => hg (ballot_iff.1 hh.2).1)]
        exact Ev.neg hg (j0f _)
    · rw [if_neg (fun hh => h8 hh.1)]
      exact Ev.neg (by omega) (j0f _)
  · rw [if_neg h1]
    refine Ev.neg h1 (Ev.bind (Ev.eq at20) (Ev.bind (Ev.eq a16) (Ev.bind (Ev.eq a4) (Ev.bind (Ev.eq a8) (Ev.bind (Ev.eq a12) (Ev.bind (Ev.eq a0) ?_))))))
    by_cases h2 : numAt b 0 = 2
    · refine Ev.pos h2 ?_
      by_cases h3 : (textAt b 20).2 > 0
      · refine Ev.pos h3 ?_
        have hw : wrap64 (20 + (textAt b 20).2) = 20 + (textAt b 20).2 := w64 (by omega) (by omega)
        simp only [hw]
        by_cases h4 : (b.length : Int) = 20 + (textAt b 20).2
        · refine Ev.pos h4 ?_
          by_cases h5 : numAt b 16 ≤ 1
          · refine Ev.pos h5 (Ev.bind (Ev.eq (ref_Right_eq _ _ _ _ _)) ?_)
            by_cases h6 : rightV (refV b) = true
            · rw [if_pos ⟨h2, h3, h4, h5, h6⟩]
              have h6' : right (numAt b 4) (numAt b 8) (numAt b 12) (textAt b 20).1 = true := h6
              rw [h6']
              exact j1t (refV b)
            · rw [if_neg (fun hh => h6 hh.2.2.2.2)]
              have h6' : right (numAt b 4) (numAt b 8) (numAt b 12) (textAt b 20).1 = false := by simpa [rightV, refV] using h6
              rw [h6']
              exact hj
          · rw [if_neg (fun hh => h5 hh.2.2.2.1)]
            exact Ev.neg h5 hj
        · rw [if_neg (fun hh => h4 hh.2.2.1)]
          exact Ev.neg h4 hj
      · rw [if_neg (fun hh => h3 hh.2.1)]
        exact Ev.neg h3 hj
    · rw [if_neg (fun hh => h2 hh.1)]
      exact Ev.neg h2 hj
theorem numAt_at {n : Int} (h0 : 0 ≤ n) (h1 : n ≤ 4294967295) (p r : List Int) : numAt (p ++ (num n ++ r)) p.length = n := by
  unfold numAt
  rw [if_neg (by simp only [List.length_append, num_length h0 h1]; omega), List.drop_left, val4_num h0 h1]
theorem numAt_back {b : List Int} (hb : Bytes b) {i : Nat} (h : i + 4 ≤ b.length) : b.drop i = num (numAt b i) ++ b.drop (i + 4) := by
  unfold numAt
  rw [if_neg (by omega), num_val4 (hb.drop i) (by rw [List.length_drop]; omega)]
  conv => lhs; rw [← List.take_append_drop 4 (b.drop i)]
  rw [List.drop_drop]
theorem refGet_promise {n : Int} (h : ballot n = true) : refGet (promise n) = gotP n true := by
  have h' := ballot_iff.1 h
  have e0 : numAt (promise n) 0 = 1 := numAt_at (n := 1) (by omega) (by omega) [] (num n)
  have e4 : numAt (promise n) 4 = n := by
    have := numAt_at (n := n) (by omega) (by omega) (num 1) []
    rw [List.append_nil] at this
    exact this
  unfold refGet
  have hl : (promise n).length = 8 := by unfold promise; rw [List.length_append, num_length (by omega) (by omega), num_length (by omega) (by omega)]
  rw [if_pos e0, e4, if_pos ⟨hl, h⟩]
theorem refGet_vote {u : Vote} (h : rightV u = true) : refGet (voteV u) = gotV u true := by
  obtain ⟨s, b, v, f, t⟩ := u
  have h' : right s b v t = true := h
  obtain ⟨h1, h2, h3, h4, h5, h6⟩ := right_iff.1 h'
  obtain ⟨g1, g2⟩ := flag_in f
  have n2 : (num 2).length = 4 := rfl
  have ns := num_length h1 (show s ≤ 4294967295 by omega)
  have nb := num_length (show 0 ≤ b by omega) (show b ≤ 4294967295 by omega)
  have nv := num_length (show 0 ≤ v by omega) (show v ≤ 4294967295 by omega)
  have nf := num_length g1 (show flag f ≤ 4294967295 by omega)
  have e0 : numAt (voteV (s, b, v, f, t)) 0 = 2 := numAt_at (n := 2) (by omega) (by omega) [] _
  have e4 : numAt (voteV (s, b, v, f, t)) 4 = s := numAt_at h1 (by omega) (num 2) _
  have e8 : numAt (voteV (s, b, v, f, t)) 8 = b := by
    have := numAt_at (n := b) (by omega) (by omega) (num 2 ++ num s) (num v ++ (num (flag f) ++ text t))
    rw [List.length_append, n2, ns] at this
    simpa [voteV, vote] using this
  have e12 : numAt (voteV (s, b, v, f, t)) 12 = v := by
    have := numAt_at (n := v) (by omega) (by omega) (num 2 ++ num s ++ num b) (num (flag f) ++ text t)
    rw [List.length_append, List.length_append, n2, ns, nb] at this
    simpa [voteV, vote] using this
  have e16 : numAt (voteV (s, b, v, f, t)) 16 = flag f := by
    have := numAt_at (n := flag f) (by omega) (by omega) (num 2 ++ num s ++ num b ++ num v) (text t)
    rw [List.length_append, List.length_append, List.length_append, n2, ns, nb, nv] at this
    simpa [voteV, vote] using this
  have e20 : textAt (voteV (s, b, v, f, t)) 20 = (t, 4 + (t.size : Int)) := by
    have hd : (voteV (s, b, v, f, t)).drop 20 = text t ++ [] := by
      have : voteV (s, b, v, f, t) = (num 2 ++ num s ++ num b ++ num v ++ num (flag f)) ++ text t := by simp [voteV, vote]
      rw [this, List.append_nil]
      exact List.drop_left' (by simp only [List.length_append]; omega)
    unfold textAt
    rw [hd, cutText_text (by omega)]
    rfl
  have hl : (voteV (s, b, v, f, t)).length = 24 + t.size := by
    have ht := text_length (s := t) (by omega)
    simp only [voteV, vote, List.length_append]
    omega
  have hu : refV (voteV (s, b, v, f, t)) = (s, b, v, f, t) := by
    unfold refV
    rw [e4, e8, e12, e16, e20, flag_eq]
  unfold refGet
  rw [e0, if_neg (by omega), hu, e16, e20, if_pos ⟨rfl, by simp only; omega, by simp only; omega, by omega, h⟩]
/-- What the reference gets: a promise, a vote, or nothing. -/
theorem refGet_cases {b : List Int} (hb : Bytes b) : (∃ n, ballot n = true ∧ b = promise n ∧ refGet b = gotP n true) ∨ (∃ u, rightV u = true ∧ b = voteV u ∧ refGet b = gotV u true) ∨ refGet b = nothing false := by
  unfold refGet
  by_cases h1 : numAt b 0 = 1
  · rw [if_pos h1]
    by_cases h : b.length = 8 ∧ ballot (numAt b 4) = true
    · rw [if_pos h]
      refine .inl ⟨_, h.2, ?_, rfl⟩
      have d0 := numAt_back hb (i := 0) (by omega)
      have d4 := numAt_back hb (i := 4) (by omega)
      rw [List.drop_zero, h1] at d0
      rw [List.drop_eq_nil_of_le (by omega : b.length ≤ 4 + 4), List.append_nil] at d4
      rw [promise, ← d4]
      exact d0
    · rw [if_neg h]
      exact .inr (.inr rfl)
  · rw [if_neg h1]
    split
    · rename_i h
      obtain ⟨h2, h3, h4, h5, h6⟩ := h
      refine .inr (.inl ⟨_, h6, ?_, rfl⟩)
      have hc : (cutText (b.drop 20)).2.2 = true := by
        unfold textAt at h3
        split at h3
        · assumption
        · simp at h3
      have ht : textAt b 20 = ((cutText (b.drop 20)).1, 4 + ((cutText (b.drop 20)).1.size : Int)) := by
        unfold textAt
        rw [if_pos hc]
      obtain ⟨c1, c2, c3⟩ := cutText_back (hb.drop 20) hc
      have c4 := cutText_rest_length hc
      rw [List.length_drop] at c4
      rw [ht] at h4
      simp only at h4
      have hlen := congrArg List.length c1
      rw [List.length_append, text_length c3, List.length_drop] at hlen
      have hnil : (cutText (b.drop 20)).2.1 = [] := List.eq_nil_of_length_eq_zero (by omega)
      rw [hnil, List.append_nil] at c1
      have d0 := numAt_back hb (i := 0) (by omega)
      have d4 := numAt_back hb (i := 4) (by omega)
      have d8 := numAt_back hb (i := 8) (by omega)
      have d12 := numAt_back hb (i := 12) (by omega)
      have d16 := numAt_back hb (i := 16) (by omega)
      rw [List.drop_zero, h2] at d0
      have hf : flag (numAt b 16 == 1) = numAt b 16 := by
        have g : 0 ≤ numAt b 16 := by
          unfold numAt
          rw [if_neg (by omega)]
          exact (val4_nonneg (hb.drop 16) (by rw [List.length_drop]; omega)).1
        unfold flag
        by_cases hx : numAt b 16 = 1
        · simp [hx]
        · have : numAt b 16 = 0 := by omega
          simp [this]
      show b = vote (numAt b 4) (numAt b 8) (numAt b 12) (numAt b 16 == 1) (textAt b 20).1
      rw [vote, hf, ht, ← c1]
      conv => lhs; rw [d0, d4, d8, d12, d16]
    · exact .inr (.inr rfl)
end Go.Proofs.Ytpjnaihpkmacjaa.Pl
