/- Few and short records. -/
import Derived.Test.YtfbkljpfopiegaaQFrame
import Derived.Test.YtfbkljpfopiegaaXx4
namespace Go.Proofs.Ytfbkljpfopiegaa.Pl
open Go.RowKit Go.Proofs.Ytfbkljpfopiegaa.X Go.Proofs.YtfbkljpfopiegaaW.PrintWords Go.Proofs.YtfbkljpfopiegaaW.PrintLast Go.Proofs.YtfbkljpfopiegaaW.PrintMore
theorem rd_L1_at2 (l : List (List Int)) (i : Nat) (h : i < l.length) : rd_L1 l (i : Int) = l[i] := by
 simp [rd_L1, List.getD_eq_getElem?_getD, List.getElem?_eq_getElem h]
theorem few06_l0 (l : List (List Int)) (hs : ∀ s ∈ l, s.length ≤ 140737488351232) (hl : l.length ≤ 140737488351232) (d : Nat) : ∀ (i n : Nat), i ≤ l.length → i ≤ 200 → l.length - i = d → n = totalB (l.take i) → n ≤ 5000 →
  ∃ r, Ev (fun k => shardlogref06_Few.l0 k l (n : Int) (i : Int)) r ∧ (r = true → l.length ≤ 100 ∧ totalB l ≤ 5000) := by
 induction d with
 | zero =>
  intro i n hi h2 hd hn h5
  have : i = l.length := by omega
  subst this
  refine ⟨decide ((l.length : Int) ≤ 100), Ev.step (f := fun k => shardlogref06_Few.j1 k l (n : Int) (l.length : Int) false) (fun k => ?_) (Ev.step (f := fun _ => some (decide ((l.length : Int) ≤ 100))) (fun k => ?_) (Ev.now _)), fun h => ?_⟩
  ·
   simp only [shardlogref06_Few.l0]
   rw [if_neg (by omega)]
  ·
   simp [shardlogref06_Few.j1]
  ·
   rw [List.take_length] at hn
   have := of_decide_eq_true h
   exact ⟨by omega, by omega⟩
 | succ d ih =>
  intro i n hi h2 hd hn h5
  have hlt : i < l.length := by omega
  by_cases h200 : i < 200
  ·
   have hrd := rd_L1_at2 l i hlt
   have hsz := hs l[i] (List.getElem_mem hlt)
   have htk : totalB (l.take (i + 1)) = n + l[i].length := by
    rw [hn, totalB, totalB, List.take_succ_eq_append_getElem hlt]
    simp only [List.map_append, List.sum_append, List.map_cons, List.map_nil, List.sum_cons, List.sum_nil, Nat.add_zero]
   have hw : wrap64 ((n : Int) + (l[i].length : Int)) = ((n + l[i].length : Nat) : Int) := by rw [w64 (by omega) (by omega)]; omega
   have step1 : ∀ k, shardlogref06_Few.l0 (k + 1) l (n : Int) (i : Int) = shardlogref06_Few.j1 k l (n : Int) (i : Int) true := by
    intro k
    simp only [shardlogref06_Few.l0]
    rw [if_pos (by omega), decide_eq_true (by omega)]
   by_cases hbig : n + l[i].length > 5000
   ·
    refine ⟨false, Ev.step step1 (Ev.step (f := fun _ => some false) (fun k => ?_) (Ev.now _)), fun h => by cases h⟩
    simp only [shardlogref06_Few.j1, if_true]
    rw [if_pos (by omega), if_pos (by omega), hrd, hw, if_pos (by omega)]
   ·
    obtain ⟨r, he, hr⟩ := ih (i + 1) (n + l[i].length) (by omega) (by omega) (by omega) htk.symm (by omega)
    refine ⟨r, Ev.step step1 (Ev.step (f := fun k => shardlogref06_Few.l0 k l ((n + l[i].length : Nat) : Int) ((i + 1 : Nat) : Int)) (fun k => ?_) he), hr⟩
    simp only [shardlogref06_Few.j1, if_true]
    rw [if_pos (by omega), if_pos (by omega), hrd, hw, if_neg (by omega), w64 (by omega) (by omega)]
    rfl
  ·
   refine ⟨decide ((l.length : Int) ≤ 100), Ev.step (f := fun k => shardlogref06_Few.j1 k l (n : Int) (i : Int) false) (fun k => ?_) (Ev.step (f := fun _ => some (decide ((l.length : Int) ≤ 100))) (fun k => ?_) (Ev.now _)), fun h => ?_⟩
   ·
    simp only [shardlogref06_Few.l0]
    rw [if_pos (by omega), decide_eq_false (by omega)]
   ·
    simp [shardlogref06_Few.j1]
   ·
    have := of_decide_eq_true h
    omega
theorem few06 {l : List (List Int)} (hs : ∀ s ∈ l, s.length ≤ 140737488351232) (hl : l.length ≤ 140737488351232) : ∃ r, Ev (fun k => shardlogref06_Few.f k l) r ∧ (r = true → l.length ≤ 100 ∧ totalB l ≤ 5000) := by
 obtain ⟨r, he, hr⟩ := few06_l0 l hs hl l.length 0 0 (by omega) (by omega) (by omega) rfl (by omega)
 exact ⟨r, he, hr⟩
end Go.Proofs.Ytfbkljpfopiegaa.Pl
