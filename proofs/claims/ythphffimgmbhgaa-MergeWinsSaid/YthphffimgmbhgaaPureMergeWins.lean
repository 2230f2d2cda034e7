/- The pure statement of the law MergeWins. -/
import Derived.Test.YthphffimgmbhgaaQWins
import Derived.Test.YthphffimgmbhgaaBRefCellsOrd
import Derived.KernelRfl
import Derived.Test.YthphffimgmbhgaaXx9
namespace Go.Proofs.Ythphffimgmbhgaa.Pure
open Go.RowKit Go.Proofs.Ythphffimgmbhgaa.X Go.Proofs.Ythphffimgmbhgaa.Pl Go.Proofs.YthphffimgmbhgaaW.PrintWords Go.Proofs.YthphffimgmbhgaaW.PrintLast
theorem awake : Ev (fun k => shardloglaw13_awake.f k) true := Ev.of (fun k => shardloglaw13_awake.mono k) (k := 60) (by kernel_rfl)
theorem wins_l4 {S : List (List Cell)} {m : List Cell} (hl : ∀ l ∈ S, l.length ≤ 1000) (hm : m.length ≤ 1000000) {i j : Nat} (hi : i < S.length) (hj : j < S[i].length) (keys : Nat) (first : Bool) (h : Ev (fun k => shardloglaw13_MergeWins.l1 k S m ((if first = true then keys + 1 else keys : Nat) : Int) (i : Int) ((j + 1 : Nat) : Int)) true) (hk : keys ≤ 1000000) (d : Nat) : ∀ (n : Nat) (found : Bool), n ≤ m.length → m.length - n = d → (first = true → found = true ∨ S[i][j] ∈ m.drop n) → Ev (fun k => shardloglaw13_MergeWins.l4 k S m (keys : Int) (i : Int) (j : Int) first found (n : Int)) true := by
 have hr := rdL_at S i hi
 unfold rdL at hr
 have hr2 := rdC_at S[i] j hj
 unfold rdC at hr2
 have hlj := hl _ (List.getElem_mem hi)
 induction d with
 | zero =>
  intro n found hn2 hd hf
  rw [List.drop_eq_nil_of_le (by omega)] at hf
  have hw : wrap64 ((j : Int) + 1) = ((j + 1 : Nat) : Int) := by rw [w64 (by omega) (by omega)]; rfl
  cases first with
  | true =>
   have hft : found = true := (hf rfl).resolve_right (fun h => by cases h)
   subst hft
   refine Ev.step (f := fun k => shardloglaw13_MergeWins.l1 k S m ((keys + 1 : Nat) : Int) (i : Int) ((j + 1 : Nat) : Int)) (fun k => ?_) h
   simp only [shardloglaw13_MergeWins.l4, if_true]
   rw [if_neg (by omega), hw, w64 (by omega) (by omega)]
   rfl
  | false =>
   refine Ev.step (f := fun k => shardloglaw13_MergeWins.l1 k S m (keys : Int) (i : Int) ((j + 1 : Nat) : Int)) (fun k => ?_) h
   simp only [shardloglaw13_MergeWins.l4, Bool.false_eq_true, if_false]
   rw [if_neg (by omega), hw]
 | succ d ih =>
  intro n found hn2 hd hf
  have hlt : n < m.length := by omega
  have hr3 := rdC_at m n hlt
  unfold rdC at hr3
  have hw : wrap64 ((n : Int) + 1) = ((n + 1 : Nat) : Int) := by rw [w64 (by omega) (by omega)]; rfl
  cases found with
  | true =>
   refine Ev.step (f := fun k => shardloglaw13_MergeWins.l4 k S m (keys : Int) (i : Int) (j : Int) first true ((n + 1 : Nat) : Int)) (fun k => ?_) (ih (n + 1) true (by omega) (by omega) (fun _ => .inl rfl))
   simp only [shardloglaw13_MergeWins.l4, if_true]
   rw [if_pos (by omega), hw]
  | false =>
   refine Ev.step (f := fun k => shardloglaw13_MergeWins.l4 k S m (keys : Int) (i : Int) (j : Int) first (isC (some m[n]) S[i][j]) ((n + 1 : Nat) : Int)) (fun k => ?_) (ih (n + 1) _ (by omega) (by omega) (fun hft => ?_))
   ·
    simp only [shardloglaw13_MergeWins.l4, Bool.false_eq_true, if_false]
    rw [if_pos (by omega), if_pos (by omega), if_pos (by omega), if_pos (by omega), if_pos (by omega), hr, if_pos (by omega), hr2, hr3, hw]
    rfl
   ·
    have := (hf hft).resolve_left Bool.false_ne_true
    rw [List.drop_eq_getElem_cons hlt] at this
    rcases List.mem_cons.1 this with h2 | h2
    ·
     exact .inl (isC_iff.2 (by rw [h2]))
    ·
     exact .inr h2
theorem wins_l2 {S : List (List Cell)} {m : List Cell} (hn : S.length ≤ 1000) (hl : ∀ l ∈ S, l.length ≤ 1000) (hz : ∀ l ∈ S, ∀ x ∈ l, SizedC x) {i j : Nat} (hi : i < S.length) (hj : j < S[i].length) (keys : Nat) (n : Nat) : ∀ (a : Nat) (first : Bool), a + n = i → Ev (fun k => shardloglaw13_MergeWins.l4 k S m (keys : Int) (i : Int) (j : Int) (first && noneC S S[i][j] n a) false 0) true → Ev (fun k => shardloglaw13_MergeWins.l2 k S m (keys : Int) (i : Int) (j : Int) first (a : Int)) true := by
 have hr := rdL_at S i hi
 unfold rdL at hr
 have hr2 := rdC_at S[i] j hj
 unfold rdC at hr2
 have hlj := hl _ (List.getElem_mem hi)
 induction n with
 | zero =>
  intro a first ha h
  refine Ev.step (f := fun k => shardloglaw13_MergeWins.l4 k S m (keys : Int) (i : Int) (j : Int) first false 0) (fun k => ?_) ?_
  ·
   simp only [shardloglaw13_MergeWins.l2]
   rw [if_neg (by omega)]
  ·
   rw [show (first && noneC S S[i][j] 0 a) = first by simp [noneC]] at h
   exact h
 | succ n ih =>
  intro a first ha h
  have hal : a < S.length := by omega
  have hra := rdL_at S a hal
  unfold rdL at hra
  have hla := hl _ (List.getElem_mem hal)
  have hza := hz _ (List.getElem_mem hal)
  have l3 : ∀ (e b : Nat) (first : Bool), b ≤ S[a].length → S[a].length - b = e → Ev (fun k => shardloglaw13_MergeWins.l4 k S m (keys : Int) (i : Int) (j : Int) (first && ((S[a].drop b).all (fun d => cc d S[i][j] != 0) && noneC S S[i][j] n (a + 1))) false 0) true → Ev (fun k => shardloglaw13_MergeWins.l3 k S m (keys : Int) (i : Int) (j : Int) first (a : Int) (b : Int)) true := by
   intro e
   induction e with
   | zero =>
    intro b first hb he h
    rw [List.drop_eq_nil_of_le (by omega)] at h
    refine Ev.step (f := fun k => shardloglaw13_MergeWins.l2 k S m (keys : Int) (i : Int) (j : Int) first ((a + 1 : Nat) : Int)) (fun k => ?_) (ih (a + 1) first (by omega) ?_)
    ·
     simp only [shardloglaw13_MergeWins.l3]
     rw [if_pos (by omega), if_pos (by omega), hra, if_neg (by omega), w64 (by omega) (by omega)]
     rfl
    ·
     simpa using h
   | succ e ih2 =>
    intro b first hb he h
    have hbl : b < S[a].length := by omega
    have hrb := rdC_at S[a] b hbl
    unfold rdC at hrb
    have o1 : b + 1 ≤ S[a].length := hbl
    have o2 : S[a].length - (b + 1) = e := by omega
    have o3 : (0 : Int) ≤ (a : Int) := Int.natCast_nonneg _
    have o4 : (a : Int) < (S.length : Int) := by omega
    have o5 : (b : Int) < (S[a].length : Int) := by omega
    have o6 : (0 : Int) ≤ (b : Int) := Int.natCast_nonneg _
    have o7 : (0 : Int) ≤ (i : Int) := Int.natCast_nonneg _
    have o8 : (i : Int) < (S.length : Int) := by omega
    have o9 : (0 : Int) ≤ (j : Int) := Int.natCast_nonneg _
    have o10 : (j : Int) < (S[i].length : Int) := by omega
    have hw : wrap64 ((b : Int) + 1) = ((b + 1 : Nat) : Int) := by rw [w64 (by omega) (by omega)]; rfl
    rw [List.drop_eq_getElem_cons hbl, List.all_cons] at h
    cases first with
    | true =>
     refine Ev.step (f := fun k => (shardlogref08_Compare.f k S[a][b].f0 S[a][b].f1 S[a][b].f2 S[a][b].f3 S[a][b].f4 S[i][j].f0 S[i][j].f1 S[i][j].f2 S[i][j].f3 S[i][j].f4).bind fun t => shardloglaw13_MergeWins.l3 k S m (keys : Int) (i : Int) (j : Int) (t != 0) (a : Int) ((b + 1 : Nat) : Int)) (fun k => ?_) (Ev.bind (ref_CC_ev (hza _ (List.getElem_mem hbl)) _) (ih2 (b + 1) _ o1 o2 ?_))
     ·
      simp only [shardloglaw13_MergeWins.l3, if_true]
      rw [if_pos o3, if_pos o4, hra, if_pos o5, if_pos o6, if_pos o7, if_pos o8, if_pos o9, hr, if_pos o10, hrb, hr2, hw]
     ·
      rw [Bool.true_and, Bool.and_assoc] at h
      exact h
    | false =>
     refine Ev.step (f := fun k => shardloglaw13_MergeWins.l3 k S m (keys : Int) (i : Int) (j : Int) false (a : Int) ((b + 1 : Nat) : Int)) (fun k => ?_) (ih2 (b + 1) false o1 o2 ?_)
     ·
      simp only [shardloglaw13_MergeWins.l3, Bool.false_eq_true, if_false]
      rw [if_pos o3, if_pos o4, hra, if_pos o5, hw]
     ·
      rw [Bool.false_and] at h ⊢
      exact h
  refine Ev.step (f := fun k => shardloglaw13_MergeWins.l3 k S m (keys : Int) (i : Int) (j : Int) first (a : Int) ((0 : Nat) : Int)) (fun k => ?_) (l3 S[a].length 0 first (by omega) (by omega) ?_)
  ·
   simp only [shardloglaw13_MergeWins.l2]
   rw [if_pos (by omega)]
   rfl
  ·
   rw [List.drop_zero]
   unfold noneC at h
   rw [nthC_at S a hal] at h
   exact h
theorem wins_l0 {S : List (List Cell)} {m : List Cell} (hn : S.length ≤ 1000) (hl : ∀ l ∈ S, l.length ≤ 1000) (hm : m.length ≤ 1000000) (hz : ∀ l ∈ S, ∀ x ∈ l, SizedC x) (ho : OrdsC S) (hM : MergedC S m) (n : Nat) : ∀ (i keys : Nat), i + n = S.length → keys + (remW S n i).length = m.length → Ev (fun k => shardloglaw13_MergeWins.l0 k S m (keys : Int) (i : Int)) true := by
 induction n with
 | zero =>
  intro i keys hi hk
  refine Ev.step (f := fun _ => some ((m.length : Int) == (keys : Int))) (fun k => ?_) ((Ev.now _).to ?_)
  ·
   simp only [shardloglaw13_MergeWins.l0]
   rw [if_neg (by omega)]
  ·
   have : keys = m.length := by simpa [remW] using hk
   simp [this]
 | succ n ih =>
  intro i keys hi hk
  have hil : i < S.length := by omega
  have hr := rdL_at S i hil
  unfold rdL at hr
  have hli := hl _ (List.getElem_mem hil)
  unfold remW at hk
  rw [List.length_append] at hk
  have l1 : ∀ (e j keys : Nat), j ≤ S[i].length → S[i].length - j = e → keys + ((S[i].drop j).filter (fun c => noneC S c i 0)).length + (remW S n (i + 1)).length = m.length → Ev (fun k => shardloglaw13_MergeWins.l1 k S m (keys : Int) (i : Int) (j : Int)) true := by
   intro e
   induction e with
   | zero =>
    intro j keys hj he hk
    rw [List.drop_eq_nil_of_le (by omega)] at hk
    refine Ev.step (f := fun k => shardloglaw13_MergeWins.l0 k S m (keys : Int) ((i + 1 : Nat) : Int)) (fun k => ?_) (ih (i + 1) keys (by omega) (by simpa using hk))
    simp only [shardloglaw13_MergeWins.l1]
    rw [if_pos (by omega), if_pos (by omega), hr, if_neg (by omega), w64 (by omega) (by omega)]
    rfl
   | succ e ih2 =>
    intro j keys hj he hk
    have hjl : j < S[i].length := by omega
    rw [List.drop_eq_getElem_cons hjl, List.filter_cons] at hk
    refine Ev.step (f := fun k => shardloglaw13_MergeWins.l2 k S m (keys : Int) (i : Int) (j : Int) true ((0 : Nat) : Int)) (fun k => ?_) (wins_l2 hn hl hz hil hjl keys i 0 true (by omega) ?_)
    ·
     simp only [shardloglaw13_MergeWins.l1]
     rw [if_pos (by omega), if_pos (by omega), hr, if_pos (by omega)]
     rfl
    ·
     rw [Bool.true_and]
     refine wins_l4 hl hm hil hjl keys _ ?_ (by omega) m.length 0 false (by omega) (by omega) (fun hf => .inr ?_)
     ·
      refine ih2 (j + 1) _ (by omega) (by omega) ?_
      cases hb : noneC S S[i][j] i 0 with
      | true =>
       rw [hb, if_pos rfl, List.length_cons] at hk
       rw [if_pos rfl]
       omega
      | false =>
       rw [hb, if_neg Bool.false_ne_true] at hk
       rw [if_neg Bool.false_ne_true]
       omega
     ·
      rw [List.drop_zero, merged_mem ho hM]
      refine ⟨i, hil, by rw [nthC_at S i hil]; exact List.getElem_mem hjl, fun a ha => ?_⟩
      exact (noneC_iff S _ i 0).1 hf a (Nat.zero_le _) (by omega)
  refine Ev.step (f := fun k => shardloglaw13_MergeWins.l1 k S m (keys : Int) (i : Int) ((0 : Nat) : Int)) (fun k => ?_) (l1 S[i].length 0 keys (by omega) (by omega) ?_)
  ·
   simp only [shardloglaw13_MergeWins.l0]
   rw [if_pos (by omega)]
   rfl
  ·
   rw [List.drop_zero]
   unfold winsC at hk
   rw [nthC_at S i hil] at hk
   omega
theorem MergeWins : shardloglaw13_MergeWins.Pure := by
 intro L h1
 obtain ⟨_, hn, hl⟩ := h1
 refine Ev.rounds ?_
 unfold shardloglaw13_MergeWins.f
 obtain ⟨r, he, hf⟩ := ref_FewL (L := L) (by omega) (fun l h => by have := (hl l h).2.1; omega)
 refine Ev.bind awake (Ev.pos rfl (Ev.bind he ?_))
 cases r with
 | false => exact Ev.step (f := fun k => (shardloglaw13_awake.f k).bind fun t => some t) (fun k => by simp only [shardloglaw13_MergeWins.j0, Bool.not_false, if_true]) (Ev.bind awake (Ev.now _))
 | true =>
  have hF := hf rfl
  have hz := fewL_sized hF
  have hlen := hF.len
  have htot := hF.tot
  have hsl := sortsC_len L
  have hst := sortsC_lens L
  have ho := sortsC_ord hF
  have hlt : ∀ l ∈ sortsC L, l.length ≤ 1000 := fun l h => by have := len_lensC h; omega
  have hrt : ∀ l ∈ sortsC L, ∀ x ∈ l, rightC x = true := by
   intro l h x hx
   obtain ⟨l', hl', rfl⟩ := List.mem_map.1 h
   exact (fewC_iff.1 (hF.few l' hl')).2 x (sortC_mem hx)
  have hM := refAll_merged ho
  have hml := refAll_length (sortsC L)
  have hmr : RightsC (refAll (sortsC L)) := by
   intro c hc
   obtain ⟨i, hi, hci, _⟩ := hM.win c hc
   rw [nthC_at _ _ hi] at hci
   exact hrt _ (List.getElem_mem hi) c hci
  refine Ev.step (fun k => by simp only [shardloglaw13_MergeWins.j0, Bool.not_true, Bool.false_eq_true, if_false]; rfl) (Ev.bind (ref_Sorts_ev hz (by omega) (fun l h => by have := len_lensC h; omega)) (Ev.bind (merge_All_is ho (by omega) (by omega)) (Ev.bind (ref_Sorted_ev (fun x hx => sized_of_right (hmr x hx)) (by omega)) (Ev.pos (sortedC_iff.2 ⟨hmr, hM.ord⟩) ?_))))
  exact wins_l0 (by omega) hlt (by omega) (fun l h x hx => sized_of_right (hrt l h x hx)) ho hM (sortsC L).length 0 0 (by omega) (by rw [remW_len ho hM]; omega)
end Go.Proofs.Ythphffimgmbhgaa.Pure
