/- The reference's frames; few and short records. -/
import Derived.Test.YtfbkljpfopiegaaQFrame
import Derived.Test.YtfbkljpfopiegaaBRefNum
import Derived.Test.YtfbkljpfopiegaaBRefNumAt
import Derived.Test.YtfbkljpfopiegaaBRefSum
import Derived.Test.YtfbkljpfopiegaaXx11
import Derived.Test.YtfbkljpfopiegaaXx14
import Derived.Test.YtfbkljpfopiegaaXx15
import Derived.Test.YtfbkljpfopiegaaXx9
namespace Go.Proofs.Ytfbkljpfopiegaa.Pl
open Go.RowKit Go.Proofs.Ytfbkljpfopiegaa.X Go.Proofs.YtfbkljpfopiegaaW.PrintWords Go.Proofs.YtfbkljpfopiegaaW.PrintLast Go.Proofs.YtfbkljpfopiegaaW.PrintMore
theorem rd_L1_at2 (l : List (List Int)) (i : Nat) (h : i < l.length) : rd_L1 l (i : Int) = l[i] := by
  simp [rd_L1, List.getD_eq_getElem?_getD, List.getElem?_eq_getElem h]
theorem ref_FPut_ev {l : List Int} (hb : Bytes l) (hl : l.length ≤ 1000000) : Ev (fun k => shardlogref06_Put.f k l) (frame l) := by
  unfold shardlogref06_Put.f
  have n0 := num_length_le l.length
  obtain ⟨a0, a1⟩ := crcSum_in (num l.length)
  obtain ⟨b0, b1⟩ := crcSum_in l
  have n1 := num_length_le (crcSum (num l.length))
  have n2 := num_length_le (crcSum l)
  refine Ev.bind (Ev.eq (ref_Num_eq _)) (Ev.bind (Ev.now _) (Ev.pos (by simp only [List.length_nil]; omega) (Ev.bind (Ev.now _) (Ev.bind (ref_Sum_ev (bytes_num _) (by omega)) (Ev.bind (Ev.eq (ref_Num_eq _)) ?_)))))
  rw [w64 (by omega) (by omega)]
  refine Ev.pos (by simp only [List.nil_append]; omega) (Ev.bind (Ev.now _) (Ev.bind (ref_Sum_ev hb (by omega)) (Ev.bind (Ev.eq (ref_Num_eq _)) ?_)))
  rw [w64 (by omega) (by omega)]
  refine Ev.pos (by simp only [List.nil_append, List.length_append]; omega) (Ev.bind (Ev.now _) (Ev.pos (by simp only [List.nil_append, List.length_append]; omega) ((Ev.now _).to ?_)))
  simp [frame, sumB]
theorem ref_Same_l0 (l : List (List Int)) (hl : l.length ≤ 140737488351232) (d : Nat) : ∀ i : Nat, i ≤ l.length → l.length - i = d → Ev (fun k => shardlogref06_Same.l0 k l l (i : Int)) true := by
  induction d with
  | zero =>
    intro i hi hd
    refine Ev.step (f := fun _ => some true) (fun k => ?_) (Ev.now _)
    simp only [shardlogref06_Same.l0]
    rw [if_neg (by omega)]
  | succ d ih =>
    intro i hi hd
    refine Ev.step (f := fun k => shardlogref06_Same.l0 k l l ((i + 1 : Nat) : Int)) (fun k => ?_) (ih (i + 1) (by omega) (by omega))
    simp only [shardlogref06_Same.l0]
    rw [if_pos (by omega), if_pos (by omega), if_pos (by omega), Same_eq rfl, w64 (by omega) (by omega)]
    simp only [Option.bind_some, if_true]
    rfl
theorem ref_Same_ev {l m : List (List Int)} (h : l = m) (hl : l.length ≤ 140737488351232) : Ev (fun k => shardlogref06_Same.f k l m) true := by
  subst h
  unfold shardlogref06_Same.f
  exact Ev.pos rfl (ref_Same_l0 l hl l.length 0 (by omega) (by omega))
theorem few06_l0 (l : List (List Int)) (hs : ∀ s ∈ l, s.length ≤ 140737488351232) (hl : l.length ≤ 140737488351232) (d : Nat) : ∀ (i n : Nat), i ≤ l.length → i ≤ 200 → l.length - i = d → n = totalB (l.take i) → n ≤ 5000 →
    ∃ r, Ev (fun k => shardlogref06_Few.l0 k l (n : Int) (i : Int)) r ∧ (r = true → l.length ≤ 100 ∧ totalB l ≤ 5000) := by
  induction d with
  | zero =>
    intro i n hi h2 hd hn h5
    have : i = l.length := by omega
    subst this
    refine ⟨decide ((l.length : Int) ≤ 100), Ev.step (f := fun k => shardlogref06_Few.j1 k l (n : Int) (l.length : Int) false) (fun k => ?_) (Ev.step (f := fun _ => some (decide ((l.length : Int) ≤ 100))) (fun k => ?_) (Ev.now _)), fun h => ?_⟩
    · simp only [shardlogref06_Few.l0]
      rw [if_neg (by omega)]
    · simp [shardlogref06_Few.j1]
    · rw [List.take_length] at hn
      have := of_decide_eq_true h
      exact ⟨by omega, by omega⟩
  | succ d ih =>
    intro i n hi h2 hd hn h5
    have hlt : i < l.length := by omega
    by_cases h200 : i < 200
    · have hrd := rd_L1_at2 l i hlt
      have hsz := hs l[i] (List.getElem_mem hlt)
      have htk : totalB (l.take (i + 1)) = n + l[i].length := by
        rw [hn, totalB, totalB, List.take_succ_eq_append_getElem hlt]
        simp only [List.map_append, List.sum_append, List.map_cons, List.map_nil, List.sum_cons, List.sum_nil, Nat.add_zero]
      have hw : wrap64 ((n : Int) + (l[i].length : Int)) = ((n + l[i].length : Nat) : Int) := by rw [w64 (by omega) (by omega)]; omega
      have step1 : ∀ k, shardlogref06_Few.l0 (k + 1) l (n : Int) (i : Int) = shardlogref06_Few.j1 k l (n : Int) (i : Int) true := by
        intro k
        simp only [shardlogref06_Few.l0]
        rw [if_pos (by omega), decide_eq_true (by omega)]
      by_cases hbig : n + l[i].length > 5000
      · refine ⟨false, Ev.step step1 (Ev.step (f := fun _ => some false) (fun k => ?_) (Ev.now _)), fun h => by cases h⟩
        simp only [shardlogref06_Few.j1, if_true]
        rw [if_pos (by omega), if_pos (by omega), hrd, hw, if_pos (by omega)]
      · obtain ⟨r, he, hr⟩ := ih (i + 1) (n + l[i].length) (by omega) (by omega) (by omega) htk.symm (by omega)
        refine ⟨r, Ev.step step1 (Ev.step (f := fun k => shardlogref06_Few.l0 k l ((n + l[i].length : Nat) : Int) ((i + 1 : Nat) : Int)) (fun k => ?_) he), hr⟩
        simp only [shardlogref06_Few.j1, if_true]
        rw [if_pos (by omega), if_pos (by omega), hrd, hw, if_neg (by omega), w64 (by omega) (by omega)]
        rfl
    · refine ⟨decide ((l.length : Int) ≤ 100), Ev.step (f := fun k => shardlogref06_Few.j1 k l (n : Int) (i : Int) false) (fun k => ?_) (Ev.step (f := fun _ => some (decide ((l.length : Int) ≤ 100))) (fun k => ?_) (Ev.now _)), fun h => ?_⟩
      · simp only [shardlogref06_Few.l0]
        rw [if_pos (by omega), decide_eq_false (by omega)]
      · simp [shardlogref06_Few.j1]
      · have := of_decide_eq_true h
        omega
/-- Few answers; where it is true, the records are few and short. -/
theorem few06 {l : List (List Int)} (hs : ∀ s ∈ l, s.length ≤ 140737488351232) (hl : l.length ≤ 140737488351232) : ∃ r, Ev (fun k => shardlogref06_Few.f k l) r ∧ (r = true → l.length ≤ 100 ∧ totalB l ≤ 5000) := by
  obtain ⟨r, he, hr⟩ := few06_l0 l hs hl l.length 0 0 (by omega) (by omega) (by omega) rfl (by omega)
  exact ⟨r, he, hr⟩
theorem drop_mid (b : List Int) (i j m : Nat) : (b.take (i + j + m)).drop (i + j) = ((b.drop i).drop j).take m := by
  rw [List.drop_drop, List.drop_take]
  congr 1
  omega
theorem ref_Scan_stop {acc : List (List Int)} {p s : List Int} (hp : Bytes p) (hs : Bytes s) (ho : ¬ okF s) (hl : (p ++ s).length ≤ 1000000) : Ev (fun k => shardlogref06_Scan.l0 k (p ++ s) acc (p.length : Int)) (acc, (p.length : Int)) := by
  have hb : Bytes (p ++ s) := hp.append hs
  have jt : ∀ n, Ev (fun k => shardlogref06_Scan.j1 k (p ++ s) acc (p.length : Int) n true) (acc, (p.length : Int)) := fun n => Ev.step (fun k => by simp only [shardlogref06_Scan.j1, if_true]) (Ev.now _)
  have hlen : (p ++ s).length = p.length + s.length := List.length_append
  have hd : (p ++ s).drop p.length = s := List.drop_left
  have a0 := At_eq (i := p.length) hb (by omega) (by omega)
  have a4 := At_eq (i := p.length + 4) hb (by omega) (by omega)
  have a8 := At_eq (i := p.length + 8) hb (by omega) (by omega)
  unfold numAt at a0 a4 a8
  rw [hd] at a0
  rw [← List.drop_drop, hd] at a4 a8
  have w12 : wrap64 ((p.length : Int) + 12) = (p.length : Int) + 12 := w64 (by omega) (by omega)
  have w4 : wrap64 ((p.length : Int) + 4) = ((p.length + 4 : Nat) : Int) := by rw [w64 (by omega) (by omega)]; omega
  have w8 : wrap64 ((p.length : Int) + 8) = ((p.length + 8 : Nat) : Int) := by rw [w64 (by omega) (by omega)]; omega
  refine Ev.step (fun k => by simp only [shardlogref06_Scan.l0]; rfl) (Ev.bind (Ev.eq a0) ?_)
  by_cases h4 : (p ++ s).length < p.length + 4
  · rw [if_pos h4]
    exact Ev.pos (by decide) (jt _)
  rw [if_neg h4]
  obtain ⟨g0, g1⟩ := val4_nonneg hs (by omega)
  refine Ev.neg (by omega) ?_
  by_cases h1 : val4 s > 65535
  · exact Ev.pos h1 (jt _)
  refine Ev.neg h1 ?_
  have wn : wrap64 ((p.length : Int) + 12 + val4 s) = (p.length : Int) + 12 + val4 s := w64 (by omega) (by omega)
  rw [w12, wn]
  by_cases h2 : (p.length : Int) + 12 + val4 s > ((p ++ s).length : Int)
  · rw [decide_eq_true h2]
    exact jt _
  rw [decide_eq_false h2]
  have hm := drop_mid (p ++ s) p.length 12 (val4 s).toNat
  rw [hd] at hm
  have hm4 := drop_mid (p ++ s) p.length 0 4
  rw [hd, List.drop_zero] at hm4
  have e1 : ((p.length : Int) + 12 + val4 s).toNat = p.length + 12 + (val4 s).toNat := by omega
  have e2 : ((p.length : Int) + 12).toNat = p.length + 12 := by omega
  have e3 : (((p.length + 4 : Nat) : Int)).toNat = p.length + 0 + 4 := by omega
  have e4 : ((p.length : Int)).toNat = p.length + 0 := by omega
  have c0 : 0 ≤ (p.length : Int) + 12 ∧ (p.length : Int) + 12 ≤ (p.length : Int) + 12 + val4 s ∧ (p.length : Int) + 12 + val4 s ≤ ((p ++ s).length : Int) := by omega
  have c3 : 0 ≤ (p.length : Int) ∧ (p.length : Int) ≤ ((p.length + 4 : Nat) : Int) ∧ ((p.length + 4 : Nat) : Int) ≤ ((p ++ s).length : Int) := by omega
  refine Ev.step (fun k => by simp only [shardlogref06_Scan.j1, Bool.false_eq_true, if_false, w12, wn, w4, w8, e1, e2, e3, e4, hm, hm4]; rfl) ?_
  refine Ev.pos c0.1 (Ev.pos c0.2.1 (Ev.pos c0.2.2 (Ev.bind (Ev.now _) ?_)))
  refine Ev.bind (Ev.eq a4) (Ev.pos c3.1 (Ev.pos c3.2.1 (Ev.pos c3.2.2 ?_)))
  rw [if_neg (by omega)]
  obtain ⟨x0, x1⟩ := crcSum_in (s.take 4)
  obtain ⟨y0, y1⟩ := crcSum_in ((s.drop 12).take (val4 s).toNat)
  refine Ev.bind (ref_Sum_ev (hs.take 4) (by rw [List.length_take]; omega)) ?_
  rw [w64 (by omega) (by omega)]
  by_cases c1 : val4 (s.drop 4) = crcSum (s.take 4)
  · refine Ev.pos c1 (Ev.bind (Ev.eq a8) (Ev.bind (ref_Sum_ev ((hs.drop 12).take _) (by rw [List.length_take, List.length_drop]; omega)) ?_))
    rw [if_neg (by omega), w64 (by omega) (by omega)]
    by_cases c2 : val4 (s.drop 8) = crcSum ((s.drop 12).take (val4 s).toNat)
    · exact absurd ⟨by omega, by omega, by omega, c1, c2⟩ ho
    · exact Ev.neg c2 (Ev.now _)
  · exact Ev.neg c1 (Ev.now _)
theorem wrap_crc (l : List Int) : wrap64 (crcSum l) = crcSum l := by
  obtain ⟨h0, h1⟩ := crcSum_in l
  exact w64 (by omega) (by omega)
theorem scan_nums {n m L a q : Nat} (hL : L = n + (12 + m + q)) (hl : L ≤ 1000000) (hm : m ≤ 65535) (ha : a ≤ 1000000) :
    (wrap64 ((n : Int) + 12) = (n : Int) + 12 ∧ wrap64 ((n : Int) + 4) = ((n + 4 : Nat) : Int) ∧ wrap64 ((n : Int) + 8) = ((n + 8 : Nat) : Int) ∧ wrap64 ((n : Int) + 12 + (m : Int)) = (n : Int) + 12 + m)
    ∧ (((n : Int) + 12 + (m : Int)).toNat = n + 12 + m ∧ ((n : Int) + 12).toNat = n + 12 ∧ (((n + 4 : Nat) : Int)).toNat = n + 0 + 4 ∧ ((n : Int)).toNat = n + 0)
    ∧ (0 ≤ (n : Int) + 12 ∧ (n : Int) + 12 ≤ (n : Int) + 12 + m ∧ (n : Int) + 12 + m ≤ (L : Int))
    ∧ (0 ≤ (n : Int) ∧ (n : Int) ≤ ((n + 4 : Nat) : Int) ∧ ((n + 4 : Nat) : Int) ≤ (L : Int))
    ∧ (¬ (m : Int) < 0 ∧ ¬ (m : Int) > 65535 ∧ ¬ (n : Int) + 12 + m > (L : Int))
    ∧ (0 + m < 140737488355328 ∧ a < 5864062014805) ∧ ((n : Int) + 12 + (m : Int) = ((n + (12 + m) : Nat) : Int))
    ∧ (¬ L < n + 4 ∧ ¬ L < n + 4 + 4 ∧ ¬ L < n + 8 + 4) ∧ (n ≤ 140737488355328 ∧ n + 4 ≤ 140737488355328 ∧ n + 8 ≤ 140737488355328 ∧ L ≤ 140737488355328 ∧ m ≤ 140737488355328) := by
  refine ⟨⟨w64 (by omega) (by omega), ?_, ?_, w64 (by omega) (by omega)⟩, by omega, by omega, by omega, by omega, by omega, by omega, by omega, by omega⟩
  · rw [w64 (by omega) (by omega)]; omega
  · rw [w64 (by omega) (by omega)]; omega
theorem ref_Scan_one {acc : List (List Int)} {p r t : List Int} {x : List (List Int) × Int} (hp : Bytes p) (hr1 : r.length ≤ 65535) (hr2 : Bytes r) (ht : Bytes t) (hl : (p ++ (frame r ++ t)).length ≤ 1000000) (ha : acc.length ≤ 1000000)
    (h : Ev (fun k => shardlogref06_Scan.l0 k (p ++ (frame r ++ t)) (acc ++ [r]) ((p.length + (12 + r.length) : Nat) : Int)) x) : Ev (fun k => shardlogref06_Scan.l0 k (p ++ (frame r ++ t)) acc (p.length : Int)) x := by
  have hb : Bytes (p ++ (frame r ++ t)) := hp.append ((bytes_frame hr2).append ht)
  have hf := frame_length hr1
  have hlen : (p ++ (frame r ++ t)).length = p.length + (12 + r.length + t.length) := by rw [List.length_append, List.length_append, hf]
  obtain ⟨⟨w12, w4, w8, wn⟩, ⟨e1, e2, e3, e4⟩, c0, c3, c6, c9, e5, c7, c8⟩ := scan_nums hlen hl hr1 ha
  have nl2 : (num r.length).length ≤ 140737488355328 := Nat.le_trans (num_length_le r.length) (by decide)
  have hd : (p ++ (frame r ++ t)).drop p.length = frame r ++ t := List.drop_left
  obtain ⟨v0, t4, v4, v8, d12⟩ := frame_parts hr1 t
  have a0 := At_eq (i := p.length) hb c8.2.2.2.1 c8.1
  have a4 := At_eq (i := p.length + 4) hb c8.2.2.2.1 c8.2.1
  have a8 := At_eq (i := p.length + 8) hb c8.2.2.2.1 c8.2.2.1
  unfold numAt at a0 a4 a8
  rw [hd, if_neg c7.1, v0] at a0
  rw [← List.drop_drop, hd, if_neg c7.2.1, v4] at a4
  rw [← List.drop_drop, hd, if_neg c7.2.2, v8] at a8
  have hm := drop_mid (p ++ (frame r ++ t)) p.length 12 r.length
  rw [hd, d12, List.take_left (l₁ := r) (l₂ := t)] at hm
  have hm4 := drop_mid (p ++ (frame r ++ t)) p.length 0 4
  rw [hd, List.drop_zero, t4] at hm4
  refine Ev.step (fun k => by simp only [shardlogref06_Scan.l0]; rfl) (Ev.bind (Ev.eq a0) ?_)
  refine Ev.neg c6.1 (Ev.neg c6.2.1 ?_)
  rw [w12, wn, decide_eq_false c6.2.2]
  refine Ev.step (fun k => by simp only [shardlogref06_Scan.j1, Bool.false_eq_true, if_false, w12, wn, w4, w8, e1, e2, e3, e4, hm, hm4]; rfl) ?_
  refine Ev.pos c0.1 (Ev.pos c0.2.1 (Ev.pos c0.2.2 (Ev.bind (Ev.now _) ?_)))
  refine Ev.bind (Ev.eq a4) (Ev.pos c3.1 (Ev.pos c3.2.1 (Ev.pos c3.2.2 ?_)))
  refine Ev.bind (ref_Sum_ev (bytes_num _) nl2) ?_
  refine Ev.pos (wrap_crc _).symm (Ev.bind (Ev.eq a8) (Ev.bind (ref_Sum_ev hr2 c8.2.2.2.2) ?_))
  refine Ev.pos (wrap_crc _).symm (Ev.bind (Ev.now _) (Ev.pos c9.1 (Ev.pos c9.2 ?_)))
  rw [List.nil_append, e5]
  exact h
theorem ref_Scan_l0 : ∀ (l acc : List (List Int)) (p s : List Int), Bytes p → (∀ r ∈ l, r.length ≤ 65535 ∧ Bytes r) → Bytes s → ¬ okF s → (p ++ (frames l ++ s)).length ≤ 1000000 → acc.length + l.length ≤ 1000000 →
    Ev (fun k => shardlogref06_Scan.l0 k (p ++ (frames l ++ s)) acc (p.length : Int)) (acc ++ l, (p.length : Int) + (frames l).length)
  | [], acc, p, s, hp, _, hs, ho, hl, _ => by
    rw [frames_nil, List.nil_append] at hl ⊢
    exact (ref_Scan_stop hp hs ho hl).to (by simp)
  | r :: l, acc, p, s, hp, hr, hs, ho, hl, ha => by
    obtain ⟨hr1, hr2⟩ := hr r (by simp)
    have hf := frame_length hr1
    have hr' : ∀ z ∈ l, z.length ≤ 65535 ∧ Bytes z := fun x hx => hr x (by simp [hx])
    rw [frames_cons, List.append_assoc] at hl ⊢
    simp only [List.length_cons] at ha
    refine ref_Scan_one hp hr1 hr2 ((bytes_frames (fun x hx => (hr' x hx).2)).append hs) hl (by omega) ?_
    have := ref_Scan_l0 l (acc ++ [r]) (p ++ frame r) s (hp.append (bytes_frame hr2)) hr' hs ho (by rw [List.append_assoc]; exact hl) (by rw [List.length_append]; simp only [List.length_cons, List.length_nil]; omega)
    rw [List.append_assoc, List.append_assoc, List.length_append, hf] at this
    exact this.to (by rw [List.singleton_append, List.length_append, hf]; congr 1; omega)
theorem ref_FScan_ev {l : List (List Int)} {s : List Int} (hr : ∀ r ∈ l, r.length ≤ 65535 ∧ Bytes r) (hs : Bytes s) (ho : ¬ okF s) (hl : (frames l ++ s).length ≤ 1000000) : Ev (fun k => shardlogref06_Scan.f k (frames l ++ s)) (l, ((frames l).length : Int)) := by
  have h12 := frames_length_ge l (fun r hr' => (hr r hr').1)
  unfold shardlogref06_Scan.f
  have := ref_Scan_l0 l [] [] s Bytes.nil hr hs ho hl (by rw [List.length_append] at hl; simp only [List.length_nil]; omega)
  exact this.to (by simp)
end Go.Proofs.Ytfbkljpfopiegaa.Pl
