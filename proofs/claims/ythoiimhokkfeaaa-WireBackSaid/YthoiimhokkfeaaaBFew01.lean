/- Few and short texts; the same texts. -/
import Derived.Test.YthoiimhokkfeaaaQWire
import Derived.Test.YthoiimhokkfeaaaXx10
import Derived.Test.YthoiimhokkfeaaaXx18
namespace Go.Proofs.Ythoiimhokkfeaaa.Pl
open Go.RowKit Go.Proofs.Ythoiimhokkfeaaa.X Go.Proofs.YthoiimhokkfeaaaW.PrintWords Go.Proofs.YthoiimhokkfeaaaW.PrintLast Go.Proofs.YthoiimhokkfeaaaW.PrintMore
def total (l : List ByteArray) : Nat := (l.map (·.size)).sum
theorem few_l0 (l : List ByteArray) (hs : ∀ s ∈ l, s.size ≤ 140737488351232) (hl : l.length ≤ 140737488351232) (d : Nat) : ∀ (i n : Nat), i ≤ l.length → i ≤ 200 → l.length - i = d → n = total (l.take i) → n ≤ 5000 →
    ∃ r, Ev (fun k => shardlogref01_Few.l0 k l (n : Int) (i : Int)) r ∧ (r = true → l.length ≤ 100 ∧ total l ≤ 5000) := by
  induction d with
  | zero =>
    intro i n hi h2 hd hn h5
    have : i = l.length := by omega
    subst this
    refine ⟨decide ((l.length : Int) ≤ 100), Ev.step (f := fun k => shardlogref01_Few.j1 k l (n : Int) (l.length : Int) false) (fun k => ?_) (Ev.step (f := fun _ => some (decide ((l.length : Int) ≤ 100))) (fun k => ?_) (Ev.now _)), fun h => ?_⟩
    · simp only [shardlogref01_Few.l0]
      rw [if_neg (by omega)]
    · simp [shardlogref01_Few.j1]
    · rw [List.take_length] at hn
      have := of_decide_eq_true h
      exact ⟨by omega, by omega⟩
  | succ d ih =>
    intro i n hi h2 hd hn h5
    have hlt : i < l.length := by omega
    by_cases h200 : i < 200
    · have hrd : rdOf ByteArray.empty l (i : Int) = l[i] := by simp [rdOf, List.getD_eq_getElem?_getD, List.getElem?_eq_getElem hlt]
      have hsz := hs l[i] (List.getElem_mem hlt)
      have htk : total (l.take (i + 1)) = n + l[i].size := by
        rw [hn, total, total, List.take_succ_eq_append_getElem hlt]
        simp only [List.map_append, List.sum_append, List.map_cons, List.map_nil, List.sum_cons, List.sum_nil, Nat.add_zero]
      have hw : wrap64 ((n : Int) + (l[i].size : Int)) = ((n + l[i].size : Nat) : Int) := by rw [w64 (by omega) (by omega)]; omega
      have step1 : ∀ k, shardlogref01_Few.l0 (k + 1) l (n : Int) (i : Int) = shardlogref01_Few.j1 k l (n : Int) (i : Int) true := by
        intro k
        simp only [shardlogref01_Few.l0]
        rw [if_pos (by omega), decide_eq_true (by omega)]
      by_cases hbig : n + l[i].size > 5000
      · refine ⟨false, Ev.step step1 (Ev.step (f := fun _ => some false) (fun k => ?_) (Ev.now _)), fun h => by cases h⟩
        simp only [shardlogref01_Few.j1, if_true]
        rw [if_pos (by omega), if_pos (by omega), hrd, hw, if_pos (by omega)]
      · obtain ⟨r, he, hr⟩ := ih (i + 1) (n + l[i].size) (by omega) (by omega) (by omega) htk.symm (by omega)
        refine ⟨r, Ev.step step1 (Ev.step (f := fun k => shardlogref01_Few.l0 k l ((n + l[i].size : Nat) : Int) ((i + 1 : Nat) : Int)) (fun k => ?_) he), hr⟩
        simp only [shardlogref01_Few.j1, if_true]
        rw [if_pos (by omega), if_pos (by omega), hrd, hw, if_neg (by omega), w64 (by omega) (by omega)]
        rfl
    · refine ⟨decide ((l.length : Int) ≤ 100), Ev.step (f := fun k => shardlogref01_Few.j1 k l (n : Int) (i : Int) false) (fun k => ?_) (Ev.step (f := fun _ => some (decide ((l.length : Int) ≤ 100))) (fun k => ?_) (Ev.now _)), fun h => ?_⟩
      · simp only [shardlogref01_Few.l0]
        rw [if_pos (by omega), decide_eq_false (by omega)]
      · simp [shardlogref01_Few.j1]
      · have := of_decide_eq_true h
        omega
/-- Few answers; where it is true, the texts are few and short. -/
theorem few01 {l : List ByteArray} (hs : ∀ s ∈ l, s.size ≤ 140737488351232) (hl : l.length ≤ 140737488351232) : ∃ r, Ev (fun k => shardlogref01_Few.f k l) r ∧ (r = true → l.length ≤ 100 ∧ total l ≤ 5000) := by
  obtain ⟨r, he, hr⟩ := few_l0 l hs hl l.length 0 0 (by omega) (by omega) (by omega) rfl (by omega)
  exact ⟨r, he, hr⟩
theorem size_le_total {l : List ByteArray} {s : ByteArray} (h : s ∈ l) : s.size ≤ total l := by
  induction l with
  | nil => cases h
  | cons x l ih =>
    simp only [total, List.map_cons, List.sum_cons]
    rcases List.mem_cons.1 h with rfl | h
    · omega
    · have := ih h
      unfold total at this
      omega
theorem flat_length_le (l : List ByteArray) : (l.map text).flatten.length ≤ 4 * l.length + total l := by
  induction l with
  | nil => simp [total]
  | cons s l ih =>
    have := text_length_le s
    simp only [total, List.map_cons, List.flatten_cons, List.length_append, List.sum_cons, List.length_cons] at ih ⊢
    omega
theorem texts_length_le (l : List ByteArray) : (texts l).length ≤ 4 + 4 * l.length + total l := by
  have := flat_length_le l
  have := num_length_le l.length
  unfold texts
  rw [List.length_append]
  omega
theorem Strings_l0 (l : List ByteArray) (hl : l.length ≤ 140737488351232) (d : Nat) : ∀ i : Nat, i ≤ l.length → l.length - i = d → Ev (fun k => shardlogref01_Strings.l0 k l l (i : Int)) true := by
  induction d with
  | zero =>
    intro i hi hd
    refine Ev.step (f := fun _ => some true) (fun k => ?_) (Ev.now _)
    simp only [shardlogref01_Strings.l0]
    rw [if_neg (by omega)]
  | succ d ih =>
    intro i hi hd
    refine Ev.step (f := fun k => shardlogref01_Strings.l0 k l l ((i + 1 : Nat) : Int)) (fun k => ?_) (ih (i + 1) (by omega) (by omega))
    simp only [shardlogref01_Strings.l0, if_true]
    rw [if_pos (by omega), if_pos (by omega), if_pos (by omega), w64 (by omega) (by omega)]
    rfl
theorem Strings_ev {l m : List ByteArray} (h : l = m) (hl : l.length ≤ 140737488351232) : Ev (fun k => shardlogref01_Strings.f k l m) true := by
  subst h
  unfold shardlogref01_Strings.f
  exact Ev.pos rfl (Strings_l0 l hl l.length 0 (by omega) (by omega))
end Go.Proofs.Ythoiimhokkfeaaa.Pl
