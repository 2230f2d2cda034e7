/- The reference's bytes of a cell. -/
import Derived.Test.YtpnbknhjnakehaaBCell
import Derived.Test.YtpnbknhjnakehaaBRefRight
import Derived.Test.YtpnbknhjnakehaaBRefText
import Derived.Test.YtpnbknhjnakehaaBRefAt
import Derived.Test.YtpnbknhjnakehaaXx12
import Derived.Test.YtpnbknhjnakehaaXx13
namespace Go.Proofs.Ytpnbknhjnakehaa.Pl
open Go.RowKit Go.Proofs.Ytpnbknhjnakehaa.X Go.Proofs.YtpnbknhjnakehaaW.PrintWords Go.Proofs.YtpnbknhjnakehaaW.PrintLast Go.Proofs.YtpnbknhjnakehaaW.PrintMore
theorem ref_CPut_ev {r c : ByteArray} (t : Int) {v : ByteArray} (g : Bool) (hr : r.size ≤ 1000000) (hc : c.size ≤ 1000000) (hv : v.size ≤ 1000000) : Ev (fun k => shardlogref08_Put.f k r c t v g) (cellB r c t v g) := by
  have h1 := text_length_le r
  have h2 := text_length_le c
  have h3 := text_length_le v
  have h4 := num_length_le t
  unfold shardlogref08_Put.f
  refine Ev.bind (Ev.eq (ref_Text_eq (by omega))) (Ev.bind (Ev.eq (ref_Text_eq (by omega))) (Ev.pos (by omega) ?_))
  refine Ev.step (fun k => by simp only [shardlogref08_Put.j0]; rfl) (Ev.bind (Ev.eq (ref_Num_eq _)) ?_)
  refine Ev.pos (by rw [List.length_append]; omega) ?_
  refine Ev.step (fun k => by simp only [shardlogref08_Put.j1]; rfl) ?_
  cases g with
  | true =>
    refine Ev.pos rfl ?_
    refine Ev.pos (by simp only [List.length_append]; omega) (Ev.bind (Ev.now _) (Ev.bind (Ev.eq (ref_Text_eq (by omega))) ?_))
    refine Ev.pos (by simp only [List.length_append, List.length_cons, List.length_nil]; omega) ((Ev.now _).to ?_)
    simp [cellB, flagC]
  | false =>
    refine Ev.neg Bool.false_ne_true ?_
    refine Ev.pos (by simp only [List.length_append]; omega) (Ev.bind (Ev.now _) (Ev.bind (Ev.eq (ref_Text_eq (by omega))) ?_))
    refine Ev.pos (by simp only [List.length_append, List.length_cons, List.length_nil]; omega) ((Ev.now _).to ?_)
    simp [cellB, flagC]
/-- The rest behind a text is what lies behind its bytes. -/
theorem cutText_rest {b : List Int} (h : (cutText b).2.2 = true) : (cutText b).2.1 = b.drop (4 + (cutText b).1.size) := by
  have h1 := cutText_rest_length h
  unfold cutText at h h1 ⊢
  by_cases h4 : b.length < 4
  · rw [if_pos h4] at h; cases h
  · rw [if_neg h4] at h h1 ⊢
    by_cases hv : val4 b > ((b.length - 4 : Nat) : Int)
    · rw [if_pos hv] at h; cases h
    · rw [if_neg hv]
      show (b.drop 4).drop (val4 b).toNat = _
      rw [strOf_size, List.length_take, List.length_drop, List.drop_drop]
      congr 1
      omega
theorem textAt_ok {b : List Int} {i : Nat} (h : (cutText (b.drop i)).2.2 = true) : textAt b i = ((cutText (b.drop i)).1, 4 + ((cutText (b.drop i)).1.size : Int)) := by
  unfold textAt
  rw [if_pos h]
theorem textAt_no {b : List Int} {i : Nat} (h : (cutText (b.drop i)).2.2 = false) : textAt b i = (⟨#[]⟩, 0) := by
  unfold textAt
  rw [if_neg (by simp [h])]
theorem cutText_at {b : List Int} {i : Nat} (h : (cutText (b.drop i)).2.2 = true) : (cutText (b.drop i)).2.1 = b.drop (i + 4 + (cutText (b.drop i)).1.size) ∧ i + 4 + (cutText (b.drop i)).1.size ≤ b.length := by
  have h1 := cutText_rest h
  have h2 := cutText_rest_length h
  rw [List.drop_drop] at h1
  rw [List.length_drop] at h2
  exact ⟨by rw [h1]; congr 1; omega, by omega⟩
/-- What the reference cuts off at a place, and how many bytes it has; 0: none. -/
def refCut (b : List Int) (i : Nat) : ByteArray × ByteArray × Int × ByteArray × Bool × Int :=
  if (cutCell (b.drop i)).2.2.2.2.2.2 = true then ((cutCell (b.drop i)).1, (cutCell (b.drop i)).2.1, (cutCell (b.drop i)).2.2.1, (cutCell (b.drop i)).2.2.2.1, (cutCell (b.drop i)).2.2.2.2.1, ((b.length - i : Nat) : Int) - (cutCell (b.drop i)).2.2.2.2.2.1.length) else (⟨#[]⟩, ⟨#[]⟩, 0, ⟨#[]⟩, false, 0)
/-- The chain of cuts, told at the places where they begin. -/
theorem cutCell_steps {b : List Int} {i : Nat} (h1 : (cutText (b.drop i)).2.2 = true) {j : Nat} (hj : j = i + 4 + (cutText (b.drop i)).1.size) (h2 : (cutText (b.drop j)).2.2 = true) {m : Nat} (hm : m = j + 4 + (cutText (b.drop j)).1.size) (h3 : m + 4 < b.length) (h4 : ¬ rd b ((m + 4 : Nat) : Int) > 1) :
    cutCell (b.drop i) = if ((cutText (b.drop (m + 5))).2.2 && cellRight (cutText (b.drop i)).1 (cutText (b.drop j)).1 (val4 (b.drop m)) (cutText (b.drop (m + 5))).1 (rd b ((m + 4 : Nat) : Int) == 1)) = true then ((cutText (b.drop i)).1, (cutText (b.drop j)).1, val4 (b.drop m), (cutText (b.drop (m + 5))).1, rd b ((m + 4 : Nat) : Int) == 1, (cutText (b.drop (m + 5))).2.1, true) else (⟨#[]⟩, ⟨#[]⟩, 0, ⟨#[]⟩, false, [], false) := by
  have e1 := (cutText_at h1).1
  have e2 := (cutText_at h2).1
  rw [← hj] at e1
  rw [← hm] at e2
  have e3 : cutNum (b.drop m) = (val4 (b.drop m), b.drop (m + 4), true) := by
    unfold cutNum
    rw [if_neg (by rw [List.length_drop]; omega), List.drop_drop]
  have hr : rd (b.drop (m + 4)) 0 = rd b ((m + 4 : Nat) : Int) := by
    have := rd_drop b (m + 4) 0
    simpa using this
  have e4 : cutFlag (b.drop (m + 4)) = (rd b ((m + 4 : Nat) : Int) == 1, b.drop (m + 5), true) := by
    unfold cutFlag
    rw [hr, if_neg (by rw [List.length_drop]; omega), if_neg h4, List.drop_drop]
  unfold cutCell
  simp only [h1, e1, h2, e2, e3, e4, Bool.true_and]
theorem cutCell_no {b : List Int} {i : Nat} (h : ¬ ∃ j m : Nat, (cutText (b.drop i)).2.2 = true ∧ j = i + 4 + (cutText (b.drop i)).1.size ∧ (cutText (b.drop j)).2.2 = true ∧ m = j + 4 + (cutText (b.drop j)).1.size ∧ m + 4 < b.length ∧ ¬ rd b ((m + 4 : Nat) : Int) > 1) : (cutCell (b.drop i)).2.2.2.2.2.2 = false := by
  have hz : ∀ c : Bool, c = false → ∀ (x : Cut7), (if c = true then x else (⟨#[]⟩, ⟨#[]⟩, 0, ⟨#[]⟩, false, [], false)).2.2.2.2.2.2 = false := by rintro c rfl x; rfl
  unfold cutCell
  refine hz _ ?_ _
  cases h1 : (cutText (b.drop i)).2.2 with
  | false => rfl
  | true =>
    have e1 := (cutText_at h1).1
    rw [Bool.true_and, e1]
    cases h2 : (cutText (b.drop (i + 4 + (cutText (b.drop i)).1.size))).2.2 with
    | false => rfl
    | true =>
      have e2 := (cutText_at h2).1
      rw [Bool.true_and, e2]
      generalize hm : i + 4 + (cutText (b.drop i)).1.size + 4 + (cutText (b.drop (i + 4 + (cutText (b.drop i)).1.size))).1.size = m
      cases h3 : (cutNum (b.drop m)).2.2 with
      | false => rfl
      | true =>
        have e3 : cutNum (b.drop m) = (val4 (b.drop m), b.drop (m + 4), true) := by
          unfold cutNum at h3 ⊢
          split at h3
          · cases h3
          · rename_i h; rw [if_neg h, List.drop_drop]
        rw [Bool.true_and, e3]
        have hr : rd (b.drop (m + 4)) 0 = rd b ((m + 4 : Nat) : Int) := by
          have := rd_drop b (m + 4) 0
          simpa using this
        cases h4 : (cutFlag (b.drop (m + 4))).2.2 with
        | false => rfl
        | true =>
          unfold cutFlag at h4
          split at h4
          · cases h4
          · rename_i h5
            split at h4
            · cases h4
            · rename_i h6
              rw [hr] at h6
              rw [List.length_drop] at h5
              exact absurd ⟨_, m, h1, rfl, h2, hm.symm, by omega, h6⟩ h
theorem ref_CCut_ev {b : List Int} (hb : Bytes b) (hl : b.length ≤ 1000000000) {i : Nat} (hi : i ≤ b.length) : Ev (fun k => shardlogref08_Cut.f k b (i : Int)) (refCut b i) := by
  have hno : (¬ ∃ j m : Nat, (cutText (b.drop i)).2.2 = true ∧ j = i + 4 + (cutText (b.drop i)).1.size ∧ (cutText (b.drop j)).2.2 = true ∧ m = j + 4 + (cutText (b.drop j)).1.size ∧ m + 4 < b.length ∧ ¬ rd b ((m + 4 : Nat) : Int) > 1) → refCut b i = (⟨#[]⟩, ⟨#[]⟩, 0, ⟨#[]⟩, false, 0) := fun h => by
    unfold refCut
    rw [if_neg (by rw [cutCell_no h]; exact Bool.false_ne_true)]
  unfold shardlogref08_Cut.f
  refine Ev.bind (Ev.eq (TextAt_eq hb (by omega) (by omega))) ?_
  cases h1 : (cutText (b.drop i)).2.2 with
  | false =>
    rw [textAt_no h1, hno (by rintro ⟨_, _, h, _⟩; rw [h1] at h; cases h)]
    exact Ev.pos rfl (Ev.now _)
  | true =>
    rw [textAt_ok h1]
    have g1 := (cutText_at h1).2
    generalize hs1 : (cutText (b.drop i)).1.size = s1 at *
    refine Ev.neg (by simp only; omega) ?_
    simp only
    rw [show wrap64 ((i : Int) + (4 + (s1 : Int))) = ((i + 4 + s1 : Nat) : Int) by rw [w64 (by omega) (by omega)]; omega]
    refine Ev.bind (Ev.eq (TextAt_eq hb (by omega) (by omega))) ?_
    cases h2 : (cutText (b.drop (i + 4 + s1))).2.2 with
    | false =>
      rw [textAt_no h2, hno (by rintro ⟨_, _, _, rfl, h, _⟩; rw [h2] at h; cases h)]
      exact Ev.pos rfl (Ev.now _)
    | true =>
      rw [textAt_ok h2]
      have g2 := (cutText_at h2).2
      generalize hs2 : (cutText (b.drop (i + 4 + s1))).1.size = s2 at *
      refine Ev.neg (by simp only; omega) ?_
      simp only
      rw [show wrap64 (((i + 4 + s1 : Nat) : Int) + (4 + (s2 : Int))) = ((i + 4 + s1 + 4 + s2 : Nat) : Int) by rw [w64 (by omega) (by omega)]; omega]
      generalize hm : i + 4 + s1 + 4 + s2 = m at *
      refine Ev.bind (Ev.eq (At_eq hb (by omega) (by omega))) ?_
      rw [show wrap64 ((m : Int) + 4) = ((m + 4 : Nat) : Int) by rw [w64 (by omega) (by omega)]; rfl]
      have jt : ∀ t : Int, (¬ ∃ j m : Nat, (cutText (b.drop i)).2.2 = true ∧ j = i + 4 + s1 ∧ (cutText (b.drop j)).2.2 = true ∧ m = j + 4 + (cutText (b.drop j)).1.size ∧ m + 4 < b.length ∧ ¬ rd b ((m + 4 : Nat) : Int) > 1) → Ev (fun k => shardlogref08_Cut.j0 k b (cutText (b.drop i)).1 (4 + (s1 : Int)) (cutText (b.drop (i + 4 + s1))).1 (4 + (s2 : Int)) (m : Int) t true) (refCut b i) := fun t h => by
        rw [hno h]
        exact Ev.step (f := fun _ => some (⟨#[]⟩, ⟨#[]⟩, 0, ⟨#[]⟩, false, 0)) (fun k => by simp only [shardlogref08_Cut.j0, if_true]) (Ev.now _)
      by_cases h3 : b.length < m + 4
      · unfold numAt
        rw [if_pos h3]
        exact Ev.pos (by decide) (jt _ (by rintro ⟨_, m', _, rfl, _, hm', h, _⟩; rw [hs2, hm] at hm'; omega))
      · have hv := val4_nonneg (hb.drop m) (by rw [List.length_drop]; omega)
        unfold numAt
        rw [if_neg h3]
        refine Ev.neg (by omega) ?_
        by_cases h4 : m + 4 < b.length
        · refine Ev.neg (by omega) ?_
          refine Ev.pos (by omega) ?_
          refine Ev.pos (by omega) ?_
          by_cases h5 : rd b ((m + 4 : Nat) : Int) > 1
          · rw [decide_eq_true h5]
            exact jt _ (by rintro ⟨_, m', _, rfl, _, hm', _, h⟩; rw [hs2, hm] at hm'; subst hm'; exact h h5)
          · rw [decide_eq_false h5]
            have hc := cutCell_steps h1 (j := i + 4 + s1) (by rw [hs1]) h2 (m := m) (by rw [hs2, hm]) h4 h5
            refine Ev.step (fun k => by simp only [shardlogref08_Cut.j0, Bool.false_eq_true, if_false]; rw [show wrap64 ((m : Int) + 4) = ((m + 4 : Nat) : Int) by rw [w64 (by omega) (by omega)]; rfl, show wrap64 ((m : Int) + 5) = ((m + 5 : Nat) : Int) by rw [w64 (by omega) (by omega)]; rfl]) ?_
            refine Ev.bind (Ev.eq (TextAt_eq hb (by omega) (by omega))) ?_
            refine Ev.pos (by omega) ?_
            refine Ev.pos (by omega) ?_
            unfold refCut
            rw [hc]
            cases h6 : (cutText (b.drop (m + 5))).2.2 with
            | false =>
              rw [textAt_no h6]
              exact Ev.pos rfl ((Ev.now _).to (by rw [Bool.false_and]; rfl))
            | true =>
              rw [textAt_ok h6]
              have g3 := cutText_at h6
              refine Ev.neg (by simp only; omega) ?_
              refine Ev.bind (Ev.eq (ref_CRight_eq _ _ _ _ _)) ?_
              simp only
              rw [Bool.true_and]
              cases h7 : cellRight (cutText (b.drop i)).1 (cutText (b.drop (i + 4 + s1))).1 (val4 (b.drop m)) (cutText (b.drop (m + 5))).1 (rd b ((m + 4 : Nat) : Int) == 1) with
              | false => exact Ev.neg Bool.false_ne_true ((Ev.now _).to rfl)
              | true =>
                refine Ev.pos rfl ((Ev.now _).to ?_)
                simp only [if_true, Prod.mk.injEq, true_and]
                rw [g3.1, List.length_drop]
                generalize (cutText (b.drop (m + 5))).1.size = s3 at *
                have g4 := g3.2
                clear g3 hc h6 h7 hv
                rw [w64 (x := 4 + (s1 : Int) + (4 + (s2 : Int))) (by omega) (by omega), w64 (x := 4 + (s1 : Int) + (4 + (s2 : Int)) + 5) (by omega) (by omega), w64 (by omega) (by omega)]
                omega
        · refine Ev.pos (by omega) (jt _ (by rintro ⟨_, m', _, rfl, _, hm', h, _⟩; rw [hs2, hm] at hm'; omega))
end Go.Proofs.Ytpnbknhjnakehaa.Pl
