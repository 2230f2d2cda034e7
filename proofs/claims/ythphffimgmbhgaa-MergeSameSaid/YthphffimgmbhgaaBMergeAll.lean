/- What merge.All answers: in order; each cell of the first list that has its key; each key of a list is there. -/
import Derived.Test.YthphffimgmbhgaaBHeap
import Derived.Test.YthphffimgmbhgaaBCells
import Derived.Test.YthphffimgmbhgaaXx3
namespace Go.Proofs.Ythphffimgmbhgaa.Pl
open Go.RowKit Go.Proofs.Ythphffimgmbhgaa.X Go.Proofs.YthphffimgmbhgaaW.PrintWords Go.Proofs.YthphffimgmbhgaaW.PrintLast Go.Proofs.YthphffimgmbhgaaW.PrintMore
abbrev nthC (L : List (List Cell)) (i : Nat) : List Cell := L.getD i []
def WinC (L : List (List Cell)) (c : Cell) : Prop := ∃ i, i < L.length ∧ c ∈ nthC L i ∧ ∀ j, j < i → ∀ d ∈ nthC L j, cc d c ≠ 0
structure MergedC (L : List (List Cell)) (r : List Cell) : Prop where
 ord : OrdC r
 win : ∀ c ∈ r, WinC L c
 all : ∀ i, i < L.length → ∀ c ∈ nthC L i, ∃ d ∈ r, cc d c = 0
theorem ord_ext : ∀ {r r' : List Cell}, OrdC r → OrdC r' → (∀ c, c ∈ r ↔ c ∈ r') → r = r'
 | [], [], _, _, _ => rfl
 | [], b :: r', _, _, h => by have := (h b).2 List.mem_cons_self; cases this
 | a :: r, [], _, _, h => by have := (h a).1 List.mem_cons_self; cases this
 | a :: r, b :: r', h1, h2, h => by
  obtain ⟨ha, h1'⟩ := List.pairwise_cons.1 h1
  obtain ⟨hb, h2'⟩ := List.pairwise_cons.1 h2
  have e : a = b := by
   rcases List.mem_cons.1 ((h a).1 List.mem_cons_self) with e | h3
   ·
    exact e
   ·
    rcases List.mem_cons.1 ((h b).2 List.mem_cons_self) with e | h4
    ·
     exact e.symm
    ·
     have := ha b h4
     have := hb a h3
     have := cc_neg a b
     omega
  subst e
  rw [ord_ext h1' h2' (fun c => ?_)]
  constructor
  ·
   intro hc
   rcases List.mem_cons.1 ((h c).1 (List.mem_cons_of_mem _ hc)) with rfl | h3
   ·
    have := ha c hc
    have := cc_self c
    omega
   ·
    exact h3
  ·
   intro hc
   rcases List.mem_cons.1 ((h c).2 (List.mem_cons_of_mem _ hc)) with rfl | h3
   ·
    have := hb c hc
    have := cc_self c
    omega
   ·
    exact h3
theorem ord_inj {l : List Cell} (h : OrdC l) {a b : Cell} (ha : a ∈ l) (hb : b ∈ l) (he : cc a b = 0) : a = b := by
 obtain ⟨i, hi, rfl⟩ := List.getElem_of_mem ha
 obtain ⟨j, hj, rfl⟩ := List.getElem_of_mem hb
 rcases Nat.lt_trichotomy i j with hlt | rfl | hlt
 ·
  have := List.pairwise_iff_getElem.1 h i j hi hj hlt
  omega
 ·
  rfl
 ·
  have := List.pairwise_iff_getElem.1 h j i hj hi hlt
  have := cc_neg l[j] l[i]
  omega
def OrdsC (L : List (List Cell)) : Prop := ∀ i, OrdC (nthC L i)
theorem merged_mem {L : List (List Cell)} {r : List Cell} (hL : OrdsC L) (h : MergedC L r) (c : Cell) : c ∈ r ↔ WinC L c := by
 refine ⟨h.win c, fun hc => ?_⟩
 obtain ⟨i, hi, hm, hf⟩ := hc
 obtain ⟨d, hd, he⟩ := h.all i hi c hm
 obtain ⟨j, hj, hdm, hdf⟩ := h.win d hd
 have hij : i = j := by
  rcases Nat.lt_trichotomy i j with hlt | e | hlt
  ·
   exact absurd (cc_sym he) (hdf i hlt c hm)
  ·
   exact e
  ·
   exact absurd he (hf j hlt d hdm)
 subst hij
 rw [← ord_inj (hL i) hdm hm he]
 exact hd
theorem merged_uniq {L : List (List Cell)} {r r' : List Cell} (hL : OrdsC L) (h : MergedC L r) (h' : MergedC L r') : r = r' :=
 ord_ext h.ord h'.ord (fun c => (merged_mem hL h c).trans (merged_mem hL h' c).symm)
structure MInv (L : List (List Cell)) (q : List Src) (out : List Cell) : Prop where
 heap : HeapN q.length q
 ne : ∀ s ∈ q, 0 < s.f0.length
 nod : (q.map (fun s : Src => s.f1)).Nodup
 suf : ∀ s ∈ q, ∃ i : Nat, s.f1 = (i : Int) ∧ i < L.length ∧ ∃ used, nthC L i = used ++ s.f0 ∧ ∀ c ∈ used, ∃ d ∈ out, cc d c = 0
 done : ∀ i, i < L.length → (∀ s ∈ q, s.f1 ≠ (i : Int)) → ∀ c ∈ nthC L i, ∃ d ∈ out, cc d c = 0
 ord : OrdC out
 win : ∀ c ∈ out, WinC L c
 low : ∀ d ∈ out, ∀ s ∈ q, ∀ c ∈ s.f0, cc d c = -1 ∨ cc d c = 0
def totQ (q : List Src) : Nat := (q.map (fun s : Src => s.f0.length)).sum
theorem totQ_cons (s : Src) (q : List Src) : totQ (s :: q) = s.f0.length + totQ q := by simp [totQ]
theorem totQ_perm {q q' : List Src} (h : q.Perm q') : totQ q = totQ q' := by
 unfold totQ
 exact List.Perm.sum_nat (h.map _)
theorem len_totQ : ∀ {q : List Src}, (∀ s ∈ q, 0 < s.f0.length) → q.length ≤ totQ q
 | [], _ => Nat.zero_le _
 | s :: q, h => by
  have := len_totQ (q := q) (fun s hs => h s (List.mem_cons_of_mem _ hs))
  have := h s List.mem_cons_self
  rw [totQ_cons, List.length_cons]
  omega
theorem hd_cons {s : Src} (h : 0 < s.f0.length) : s.f0 = hd s :: s.f0.drop 1 := by
 obtain ⟨l, n⟩ := s
 cases l with
 | nil => cases h
 | cons c l => rfl
theorem gQ_mem {q : List Src} {m : Nat} (h : m < q.length) : gQ q m ∈ q := by
 unfold gQ
 rw [List.getD_eq_getElem?_getD, List.getElem?_eq_getElem h]
 exact List.getElem_mem h
theorem mem_gQ {q : List Src} {s : Src} (h : s ∈ q) : ∃ m, m < q.length ∧ gQ q m = s := by
 obtain ⟨m, hm, rfl⟩ := List.getElem_of_mem h
 refine ⟨m, hm, ?_⟩
 unfold gQ
 rw [List.getD_eq_getElem?_getD, List.getElem?_eq_getElem hm]
 rfl
theorem last_rd {out : List Cell} (h : 0 < out.length) : rdC out ((out.length : Int) - 1) = out[out.length - 1] := by
 rw [show ((out.length : Int) - 1) = ((out.length - 1 : Nat) : Int) by omega]
 exact rdC_at out _ (by omega)
theorem take_ev {out : List Cell} (c : Cell) : Ev (fun k => allTake k out c) (if h : 0 < out.length then !(cc out[out.length - 1] c == 0) else true) := by
 unfold allTake
 by_cases h : out.length = 0
 ·
  rw [dif_neg (by omega)]
  exact Ev.pos h (Ev.now _)
 ·
  rw [dif_pos (by omega)]
  have e := last_rd (out := out) (by omega)
  unfold rdC at e
  rw [e]
  exact Ev.neg h (Ev.bind (cell_CC_ev _ _) (Ev.now _))
def restQ (s : Src) (q : List Src) : List Src := if s.f0.length = 1 then q else (⟨s.f0.drop 1, s.f1⟩ : Src) :: q
theorem next_ok {s : Src} {q : List Src} (hh : HeapN (q.length + 1) (s :: q)) (hs : 0 < s.f0.length) (hne : ∀ x ∈ q, 0 < x.f0.length) : ∃ q', Ev (fun k => allNext k s q) q' ∧ q'.Perm (restQ s q) ∧ HeapN q'.length q' := by
 have hsame : ∀ (x : Src) m, 0 < m → gQ (x :: q) m = gQ (s :: q) m := by
  intro x m hm
  obtain ⟨m, rfl⟩ : ∃ m', m = m' + 1 := ⟨m - 1, by omega⟩
  rfl
 unfold allNext restQ
 by_cases h1 : s.f0.length = 1
 ·
  rw [if_pos h1]
  have hg := swapQ_get (xs := (⟨s.f0.drop 1, s.f1⟩ : Src) :: q) (i := 0) (j := q.length) (by simp) (by simp)
  obtain ⟨r, p, ⟨k0, hk⟩, hpm, hr, hf⟩ := down_ok q.length q.length (swapQ ((⟨s.f0.drop 1, s.f1⟩ : Src) :: q) 0 q.length) 0 (by omega) ⟨fun m h0 hm hp => by
    rw [hg, hg, if_neg (by omega), if_neg hp, if_neg (by omega), if_neg (by omega), hsame _ _ (by omega), hsame _ _ h0]
    exact hh m h0 (by omega), fun h => absurd h (by omega)⟩ (by rw [swapQ_len]; simp) (fun m hm => by
    rw [hg, if_neg (by omega)]
    split
    ·
     rename_i h0
     rw [hsame _ _ (by omega)]
     have : gQ (s :: q) q.length ∈ s :: q := gQ_mem (by simp)
     have h2 : gQ (s :: q) q.length = gQ q (q.length - 1) := by
      obtain ⟨n, hn⟩ : ∃ n, q.length = n + 1 := ⟨q.length - 1, by omega⟩
      rw [hn]
      rfl
     rw [h2]
     exact hne _ (gQ_mem (by omega))
    ·
     rename_i h0
     obtain ⟨m, rfl⟩ : ∃ m', m = m' + 1 := ⟨m - 1, by omega⟩
     exact hne _ (gQ_mem (by omega)))
  have hrl : r.length = q.length + 1 := by rw [hpm.length_eq, swapQ_len]; rfl
  have hlast : gQ r q.length = (⟨s.f0.drop 1, s.f1⟩ : Src) := by
   rw [hf _ (Nat.le_refl _), hg, if_pos rfl]
   rfl
  have hsplit : r = r.take q.length ++ [(⟨s.f0.drop 1, s.f1⟩ : Src)] := by
   have e := List.take_append_drop q.length r
   have e2 : r.drop q.length = [(⟨s.f0.drop 1, s.f1⟩ : Src)] := by
    rw [List.drop_eq_getElem_cons (by omega), List.drop_eq_nil_of_le (by omega)]
    congr 1
    rw [← hlast]
    unfold gQ
    rw [List.getD_eq_getElem?_getD, List.getElem?_eq_getElem (by omega)]
    rfl
   rw [e2] at e
   exact e.symm
  have hp2 : (r.take q.length).Perm q := by
   have h3 : ((⟨s.f0.drop 1, s.f1⟩ : Src) :: r.take q.length).Perm ((⟨s.f0.drop 1, s.f1⟩ : Src) :: q) := by
    refine (List.perm_append_comm (l₁ := [(⟨s.f0.drop 1, s.f1⟩ : Src)]) (l₂ := r.take q.length)).trans ?_
    rw [← hsplit]
    exact hpm.trans (swapQ_perm (by simp) (by simp))
   exact (List.perm_cons _).1 h3
  refine ⟨r.take q.length, ⟨k0, fun k hk2 => ?_⟩, hp2, fun m h0 hm => ?_⟩
  ·
   have e := hk k k hk2 hk2
   simp only at e
   show (if s.f0.length = 1 then _ else _) = _
   rw [if_pos h1, e]
   rfl
  ·
   have hml : m < q.length := by rw [List.length_take] at hm; omega
   have hgt : ∀ m, m < q.length → gQ (r.take q.length) m = gQ r m := by
    intro m hm
    unfold gQ
    rw [List.getD_eq_getElem?_getD, List.getD_eq_getElem?_getD, List.getElem?_take, if_pos hm]
   rw [hgt _ (by omega), hgt _ hml]
   exact hr m h0 hml
 ·
  rw [if_neg h1]
  obtain ⟨r, p, ⟨k0, hk⟩, hpm, hr, _⟩ := down_ok (q.length + 1) (q.length + 1) ((⟨s.f0.drop 1, s.f1⟩ : Src) :: q) 0 (by omega) ⟨fun m h0 hm hp => by
    rw [hsame _ _ (by omega), hsame _ _ h0]
    exact hh m h0 hm, fun h => absurd h (by omega)⟩ (by simp) (fun m hm => by
    by_cases h0 : m = 0
    ·
     subst h0
     show 0 < (s.f0.drop 1).length
     rw [List.length_drop]
     omega
    ·
     obtain ⟨m, rfl⟩ : ∃ m', m = m' + 1 := ⟨m - 1, by omega⟩
     exact hne _ (gQ_mem (by omega)))
  refine ⟨r, ⟨k0, fun k hk2 => ?_⟩, hpm, ?_⟩
  ·
   have e := hk k k hk2 hk2
   simp only at e
   show (if s.f0.length = 1 then _ else _) = _
   rw [if_neg h1, e]
   rfl
  ·
   rw [hpm.length_eq]
   exact hr
theorem hd_le {L : List (List Cell)} {q : List Src} {out : List Cell} (hL : OrdsC L) (h : MInv L q out) {s : Src} (hs : s ∈ q) {c : Cell} (hc : c ∈ s.f0) : cc (hd s) c = -1 ∨ cc (hd s) c = 0 := by
 obtain ⟨i, _, hi, used, hu, _⟩ := h.suf s hs
 have ho := hL i
 rw [hu, hd_cons (h.ne s hs)] at ho
 obtain ⟨_, ho, _⟩ := List.pairwise_append.1 ho
 rw [hd_cons (h.ne s hs)] at hc
 rcases List.mem_cons.1 hc with rfl | hc
 ·
  exact .inr (cc_self _)
 ·
  exact .inl ((List.pairwise_cons.1 ho).1 c hc)
theorem tail_gt {L : List (List Cell)} {q : List Src} {out : List Cell} (hL : OrdsC L) (h : MInv L q out) {s : Src} (hs : s ∈ q) {c : Cell} (hc : c ∈ s.f0.drop 1) : cc (hd s) c = -1 := by
 obtain ⟨i, _, hi, used, hu, _⟩ := h.suf s hs
 have ho := hL i
 rw [hu, hd_cons (h.ne s hs)] at ho
 obtain ⟨_, ho, _⟩ := List.pairwise_append.1 ho
 exact (List.pairwise_cons.1 ho).1 c hc
theorem restQ_mem {s x : Src} {q : List Src} (h : x ∈ restQ s q) : x ∈ q ∨ (x = (⟨s.f0.drop 1, s.f1⟩ : Src) ∧ s.f0.length ≠ 1) := by
 unfold restQ at h
 split at h
 ·
  exact .inl h
 ·
  rename_i h1
  rcases List.mem_cons.1 h with rfl | h
  ·
   exact .inr ⟨rfl, h1⟩
  ·
   exact .inl h
theorem inv_step {L : List (List Cell)} {s : Src} {q q' : List Src} {out : List Cell} (hL : OrdsC L) (h : MInv L (s :: q) out) (hp : q'.Perm (restQ s q)) (hh : HeapN q'.length q') {b : Bool} (hb : b = if h : 0 < out.length then !(cc out[out.length - 1] (hd s) == 0) else true) : MInv L q' (if b = true then out ++ [hd s] else out) := by
 have hs := h.ne s List.mem_cons_self
 have hlow : ∀ d ∈ out, cc d (hd s) = -1 ∨ cc d (hd s) = 0 := fun d hd_ => h.low d hd_ s List.mem_cons_self (hd s) (by rw [hd_cons hs]; exact List.mem_cons_self)
 have hmin : ∀ x ∈ s :: q, LeS s x := by
  intro x hx
  obtain ⟨m, hm, rfl⟩ := mem_gQ hx
  exact heap_min h.heap m hm
 -- what is put out is above all that is out
 have habove : b = true → ∀ d ∈ out, cc d (hd s) = -1 := by
  intro hbt d hd_
  have h0 : 0 < out.length := List.length_pos_of_mem hd_
  rw [hb, dif_pos h0] at hbt
  have hne : cc out[out.length - 1] (hd s) ≠ 0 := by simpa using hbt
  have hlast : cc out[out.length - 1] (hd s) = -1 := (hlow _ (List.getElem_mem _)).resolve_right hne
  obtain ⟨i, hi, rfl⟩ := List.getElem_of_mem hd_
  by_cases hl : i = out.length - 1
  ·
   subst hl
   exact hlast
  ·
   exact cc_trans (List.pairwise_iff_getElem.1 h.ord i (out.length - 1) hi (by omega) (by omega)) hlast
 have hcov : ∃ d ∈ (if b = true then out ++ [hd s] else out), cc d (hd s) = 0 := by
  cases b with
  | true => exact ⟨hd s, by simp, cc_self _⟩
  | false =>
   by_cases h0 : 0 < out.length
   ·
    rw [dif_pos h0] at hb
    exact ⟨out[out.length - 1], by simp, by simpa using hb.symm⟩
   ·
    rw [dif_neg h0] at hb
    cases hb
 have hsub : ∀ d ∈ out, d ∈ (if b = true then out ++ [hd s] else out) := by
  intro d hd_
  split
  ·
   exact List.mem_append_left _ hd_
  ·
   exact hd_
 have hnod := h.nod
 rw [List.map_cons, List.nodup_cons] at hnod
 refine ⟨hh, fun x hx => ?_, ?_, fun x hx => ?_, fun i hi hno c hc => ?_, ?_, ?_, ?_⟩
 ·
  rcases restQ_mem (hp.subset hx) with hx | ⟨rfl, h1⟩
  ·
   exact h.ne x (List.mem_cons_of_mem _ hx)
  ·
   show 0 < (s.f0.drop 1).length
   rw [List.length_drop]
   omega
 ·
  rw [(hp.map _).nodup_iff]
  unfold restQ
  split
  ·
   exact hnod.2
  ·
   rw [List.map_cons, List.nodup_cons]
   exact hnod
 ·
  rcases restQ_mem (hp.subset hx) with hx | ⟨rfl, h1⟩
  ·
   obtain ⟨i, e1, e2, used, e3, e4⟩ := h.suf x (List.mem_cons_of_mem _ hx)
   exact ⟨i, e1, e2, used, e3, fun c hc => (e4 c hc).elim (fun d hd_ => ⟨d, hsub d hd_.1, hd_.2⟩)⟩
  ·
   obtain ⟨i, e1, e2, used, e3, e4⟩ := h.suf s List.mem_cons_self
   refine ⟨i, e1, e2, used ++ [hd s], ?_, fun c hc => ?_⟩
   ·
    rw [e3]
    conv => lhs; rw [hd_cons hs]
    simp
   ·
    rcases List.mem_append.1 hc with hc | hc
    ·
     exact (e4 c hc).elim (fun d hd_ => ⟨d, hsub d hd_.1, hd_.2⟩)
    ·
     rw [List.mem_singleton.1 hc]
     exact hcov
 ·
  by_cases his : s.f1 = (i : Int)
  ·
   have h1 : s.f0.length = 1 := by
    refine Classical.byContradiction fun h1 => ?_
    refine hno (⟨s.f0.drop 1, s.f1⟩ : Src) (hp.symm.subset ?_) his
    unfold restQ
    rw [if_neg h1]
    exact List.mem_cons_self
   obtain ⟨i', e1, e2, used, e3, e4⟩ := h.suf s List.mem_cons_self
   have : i' = i := by omega
   subst this
   rw [e3] at hc
   rcases List.mem_append.1 hc with hc | hc
   ·
    exact (e4 c hc).elim (fun d hd_ => ⟨d, hsub d hd_.1, hd_.2⟩)
   ·
    rw [hd_cons hs, List.drop_eq_nil_of_le (by omega)] at hc
    rw [List.mem_singleton.1 hc]
    exact hcov
  ·
   refine (h.done i hi (fun x hx => ?_) c hc).elim (fun d hd_ => ⟨d, hsub d hd_.1, hd_.2⟩)
   rcases List.mem_cons.1 hx with rfl | hx
   ·
    exact his
   ·
    refine hno x (hp.symm.subset ?_)
    unfold restQ
    split
    ·
     exact hx
    ·
     exact List.mem_cons_of_mem _ hx
 ·
  split
  ·
   rename_i hbt
   exact List.pairwise_append.2 ⟨h.ord, List.pairwise_singleton _ _, fun d hd_ c hc => by rw [List.mem_singleton.1 hc]; exact habove hbt d hd_⟩
  ·
   exact h.ord
 ·
  intro c hc
  split at hc
  ·
   rename_i hbt
   rcases List.mem_append.1 hc with hc | hc
   ·
    exact h.win c hc
   ·
    rw [List.mem_singleton.1 hc]
    obtain ⟨i, e1, e2, used, e3, e4⟩ := h.suf s List.mem_cons_self
    refine ⟨i, e2, ?_, fun j hj d hdj hde => ?_⟩
    ·
     rw [e3, hd_cons hs]
     simp
    ·
     have hcontra : ∀ e ∈ out, cc e d = 0 → False := by
      intro e he h0
      have h1 := habove hbt e he
      have h2 := cc_left h0 (hd s)
      omega
     by_cases hsrc : ∃ x ∈ s :: q, x.f1 = (j : Int)
     ·
      obtain ⟨x, hx, hxj⟩ := hsrc
      obtain ⟨j', f1, f2, used', f3, f4⟩ := h.suf x hx
      have : j' = j := by omega
      subst this
      rw [f3] at hdj
      rcases List.mem_append.1 hdj with hdj | hdj
      ·
       obtain ⟨e, he, h0⟩ := f4 d hdj
       exact hcontra e he h0
      ·
       have h1 := hd_le hL h hx hdj
       rcases leS_iff.1 (hmin x hx) with h2 | ⟨h2, h3⟩
       ·
        have : cc (hd s) d = -1 := by
         rcases h1 with h1 | h1
         ·
          exact cc_trans h2 h1
         ·
          rw [← cc_right h1]
          exact h2
        have := cc_neg (hd s) d
        omega
       ·
        omega
     ·
      obtain ⟨e, he, h0⟩ := h.done j (by omega) (fun x hx he => hsrc ⟨x, hx, he⟩) d hdj
      exact hcontra e he h0
  ·
   exact h.win c hc
 ·
  intro d hd_ x hx c hc
  have hxo : x ∈ q ∨ (x = (⟨s.f0.drop 1, s.f1⟩ : Src) ∧ s.f0.length ≠ 1) := restQ_mem (hp.subset hx)
  have hold : d ∈ out → cc d c = -1 ∨ cc d c = 0 := by
   intro hdo
   rcases hxo with hx | ⟨rfl, _⟩
   ·
    exact h.low d hdo x (List.mem_cons_of_mem _ hx) c hc
   ·
    exact h.low d hdo s List.mem_cons_self c (List.mem_of_mem_drop hc)
  split at hd_
  ·
   rcases List.mem_append.1 hd_ with hd_ | hd_
   ·
    exact hold hd_
   ·
    rw [List.mem_singleton.1 hd_]
    rcases hxo with hx | ⟨rfl, _⟩
    ·
     have hx' : x ∈ s :: q := List.mem_cons_of_mem _ hx
     have h1 := hd_le hL h hx' hc
     rcases leS_iff.1 (hmin x hx') with h2 | ⟨h2, _⟩ <;> rcases h1 with h1 | h1
     ·
      exact .inl (cc_trans h2 h1)
     ·
      exact .inl (by rw [← cc_right h1]; exact h2)
     ·
      exact .inl (by rw [cc_left h2]; exact h1)
     ·
      exact .inr (by rw [cc_left h2]; exact h1)
    ·
     exact .inl (tail_gt hL h List.mem_cons_self hc)
  ·
   exact hold hd_
theorem all2_ok {L : List (List Cell)} (hL : OrdsC L) (N : Nat) : ∀ (q : List Src) (out : List Cell), totQ q ≤ N → N + out.length ≤ 1000000 → MInv L q out → ∃ r, Ev2 (fun k m => all2 k m q out) r ∧ MergedC L r := by
 induction N with
 | zero =>
  intro q out hN ho h
  have hl := len_totQ h.ne
  obtain rfl : q = [] := List.length_eq_zero_iff.1 (by omega)
  refine ⟨out, ⟨1, fun k m _ hm => ?_⟩, h.ord, h.win, fun i hi => h.done i hi (fun s hs => by cases hs)⟩
  obtain ⟨m, rfl⟩ : ∃ m', m = m' + 1 := ⟨m - 1, by omega⟩
  rfl
 | succ N ih =>
  intro q out hN ho h
  cases q with
  | nil =>
   refine ⟨out, ⟨1, fun k m _ hm => ?_⟩, h.ord, h.win, fun i hi => h.done i hi (fun s hs => by cases hs)⟩
   obtain ⟨m, rfl⟩ : ∃ m', m = m' + 1 := ⟨m - 1, by omega⟩
   rfl
  | cons s q =>
   have hs := h.ne s List.mem_cons_self
   have hl := len_totQ h.ne
   rw [List.length_cons] at hl
   obtain ⟨q', ⟨k1, hk1⟩, hp, hh⟩ := next_ok h.heap hs (fun x hx => h.ne x (List.mem_cons_of_mem _ hx))
   obtain ⟨k2, hk2⟩ := take_ev (out := out) (hd s)
   obtain ⟨b, hb⟩ : ∃ b, b = if h : 0 < out.length then !(cc out[out.length - 1] (hd s) == 0) else true := ⟨_, rfl⟩
   rw [← hb] at hk2
   have hinv := inv_step hL h hp hh hb
   have ht : totQ q' + 1 = totQ (s :: q) := by
    rw [totQ_perm hp, totQ_cons]
    unfold restQ
    split
    ·
     omega
    ·
     rw [totQ_cons]
     show (s.f0.drop 1).length + _ + 1 = _
     rw [List.length_drop]
     omega
   have hlen : N + (if b = true then out ++ [hd s] else out).length ≤ 1000000 := by
    split
    ·
     rw [List.length_append, List.length_singleton]
     omega
    ·
     omega
   obtain ⟨r, ⟨k3, hk3⟩, hr⟩ := ih q' (if b = true then out ++ [hd s] else out) (by omega) hlen hinv
   refine ⟨r, ⟨k1 + k2 + k3 + 1, fun k m hk hm => ?_⟩, hr⟩
   obtain ⟨m, rfl⟩ : ∃ m', m = m' + 1 := ⟨m - 1, by omega⟩
   have e1 := hk1 k (by omega)
   have e2 := hk2 k (by omega)
   have e3 := hk3 k m (by omega) (by omega)
   simp only at e1 e2 e3
   show all2 k (m + 1) (s :: q) out = _
   rw [all2, if_pos ⟨hs, by omega, by omega⟩]
   show ((allTake k out (hd s)).bind fun b => _) = _
   rw [e2, Option.bind_some, e1, Option.bind_some]
   exact e3
def srcQ : List (List Cell) → Nat → List Src
 | [], _ => []
 | l :: ls, i => if l.length = 0 then srcQ ls (i + 1) else (⟨l, (i : Int)⟩ : Src) :: srcQ ls (i + 1)
theorem srcQ_mem : ∀ {ls : List (List Cell)} {i : Nat} {s : Src}, s ∈ srcQ ls i → ∃ j, i ≤ j ∧ j < i + ls.length ∧ s = ⟨nthC ls (j - i), (j : Int)⟩ ∧ 0 < s.f0.length
 | [], i, s, h => by cases h
 | l :: ls, i, s, h => by
  have hrec : s ∈ srcQ ls (i + 1) → ∃ j, i ≤ j ∧ j < i + (l :: ls).length ∧ s = ⟨nthC (l :: ls) (j - i), (j : Int)⟩ ∧ 0 < s.f0.length := by
   intro h
   obtain ⟨j, h1, h2, h3, h4⟩ := srcQ_mem h
   refine ⟨j, by omega, by rw [List.length_cons]; omega, ?_, h4⟩
   rw [h3]
   congr 1
   rw [show j - i = (j - (i + 1)) + 1 by omega]
   rfl
  unfold srcQ at h
  split at h
  ·
   exact hrec h
  ·
   rename_i h0
   rcases List.mem_cons.1 h with rfl | h
   ·
    exact ⟨i, Nat.le_refl _, by simp, by rw [Nat.sub_self]; rfl, by show 0 < l.length; omega⟩
   ·
    exact hrec h
theorem mem_srcQ : ∀ {ls : List (List Cell)} {i j : Nat}, j < ls.length → 0 < (nthC ls j).length → (⟨nthC ls j, ((i + j : Nat) : Int)⟩ : Src) ∈ srcQ ls i
 | [], _, _, h, _ => by cases h
 | l :: ls, i, 0, _, h => by
  unfold srcQ
  rw [if_neg (by show ¬ l.length = 0; exact Nat.pos_iff_ne_zero.1 h)]
  exact List.mem_cons_self
 | l :: ls, i, j + 1, h, h0 => by
  have := mem_srcQ (ls := ls) (i := i + 1) (j := j) (by simpa using h) h0
  rw [show i + 1 + j = i + (j + 1) by omega] at this
  unfold srcQ
  split
  ·
   exact this
  ·
   exact List.mem_cons_of_mem _ this
theorem srcQ_nod : ∀ (ls : List (List Cell)) (i : Nat), ((srcQ ls i).map (fun s : Src => s.f1)).Nodup
 | [], _ => List.nodup_nil
 | l :: ls, i => by
  unfold srcQ
  split
  ·
   exact srcQ_nod ls (i + 1)
  ·
   rw [List.map_cons, List.nodup_cons]
   refine ⟨fun h => ?_, srcQ_nod ls (i + 1)⟩
   obtain ⟨s, hs, he⟩ := List.mem_map.1 h
   obtain ⟨j, h1, _, h2, _⟩ := srcQ_mem hs
   rw [h2] at he
   simp only at he
   omega
theorem all1_ok : ∀ (ls : List (List Cell)) (i : Nat) (q : List Src), q.length + ls.length ≤ 1000000 → HeapN q.length q → (∀ s ∈ q, 0 < s.f0.length) → ∃ q', Ev (fun k => all1 k ls i q) q' ∧ q'.Perm (q ++ srcQ ls i) ∧ HeapN q'.length q'
 | [], i, q, _, hh, _ => ⟨q, Ev.now _, by rw [show srcQ [] i = [] from rfl, List.append_nil], hh⟩
 | l :: ls, i, q, hn, hh, hne => by
  rw [List.length_cons] at hn
  by_cases h0 : l.length = 0
  ·
   obtain ⟨q', he, hp, hh'⟩ := all1_ok ls (i + 1) q (by omega) hh hne
   refine ⟨q', Ev.congr (fun k => ?_) he, ?_, hh'⟩
   ·
    rw [all1, if_pos h0]
   ·
    rw [srcQ, if_pos h0]
    exact hp
  ·
   have hg1 : ∀ m, m < q.length → gQ (q ++ [(⟨l, (i : Int)⟩ : Src)]) m = gQ q m := by
    intro m hm
    unfold gQ
    rw [List.getD_eq_getElem?_getD, List.getD_eq_getElem?_getD, List.getElem?_append_left hm]
   have hne2 : ∀ s ∈ q ++ [(⟨l, (i : Int)⟩ : Src)], 0 < s.f0.length := by
    intro s hs
    rcases List.mem_append.1 hs with hs | hs
    ·
     exact hne s hs
    ·
     rw [List.mem_singleton.1 hs]
     show 0 < l.length
     omega
   obtain ⟨r, ⟨k1, hk1⟩, hpm, hr⟩ := up_ok q.length (q ++ [(⟨l, (i : Int)⟩ : Src)]) (by simp) ⟨fun m h0 hm hp => by
     rw [List.length_append, List.length_singleton] at hm
     rw [hg1 _ (by omega), hg1 _ (by omega)]
     exact hh m h0 (by omega), fun _ m h0 hm hp => by
     rw [List.length_append, List.length_singleton] at hm
     omega⟩ (fun m hm => hne2 _ (gQ_mem hm))
   have hrl : r.length = q.length + 1 := by rw [hpm.length_eq]; simp
   obtain ⟨q', ⟨k2, hk2⟩, hp, hh'⟩ := all1_ok ls (i + 1) r (by omega) hr (fun s hs => hne2 s (hpm.subset hs))
   refine ⟨q', ⟨k1 + k2, fun k hk => ?_⟩, ?_, hh'⟩
   ·
    have e1 := hk1 k k (by omega) (by omega)
    have e2 := hk2 k (by omega)
    simp only at e1 e2
    show all1 k (l :: ls) i q = _
    rw [all1, if_neg h0, if_pos (by omega), e1, Option.bind_some]
    exact e2
   ·
    rw [srcQ, if_neg h0]
    refine hp.trans ((hpm.append_right _).trans ?_)
    rw [List.append_assoc]
    exact List.Perm.refl _
def lensC (L : List (List Cell)) : Nat := (L.map List.length).sum
theorem srcQ_tot : ∀ (ls : List (List Cell)) (i : Nat), totQ (srcQ ls i) = lensC ls
 | [], _ => rfl
 | l :: ls, i => by
  have := srcQ_tot ls (i + 1)
  unfold srcQ
  split
  ·
   rename_i h0
   rw [this]
   simp [lensC, h0]
  ·
   rw [totQ_cons, this]
   simp [lensC]
theorem merge_All_ev {L : List (List Cell)} (hL : OrdsC L) (hn : L.length ≤ 1000) (ht : lensC L ≤ 100000) : ∃ r, Ev (fun k => merge_All.f k L) r ∧ MergedC L r := by
 obtain ⟨q, ⟨k1, hk1⟩, hp, hh⟩ := all1_ok L 0 [] (by simp; omega) (fun m _ hm => by cases hm) (fun s hs => by cases hs)
 rw [List.nil_append] at hp
 have hinv : MInv L q [] := by
  refine ⟨hh, fun s hs => ?_, (hp.map _).nodup_iff.2 (srcQ_nod L 0), fun s hs => ?_, fun i hi hno c hc => ?_, List.Pairwise.nil, fun c hc => (by cases hc), fun d hd => (by cases hd)⟩
  ·
   obtain ⟨j, _, _, _, h4⟩ := srcQ_mem (hp.subset hs)
   exact h4
  ·
   obtain ⟨j, _, h2, h3, _⟩ := srcQ_mem (hp.subset hs)
   refine ⟨j, by rw [h3], by omega, [], ?_, fun c hc => by cases hc⟩
   rw [h3]
   rfl
  ·
   have := mem_srcQ (ls := L) (i := 0) hi (List.length_pos_of_mem hc)
   rw [Nat.zero_add] at this
   exact absurd rfl (hno _ (hp.symm.subset this))
 have htq : totQ q = lensC L := by rw [totQ_perm hp, srcQ_tot]
 obtain ⟨r, ⟨k2, hk2⟩, hr⟩ := all2_ok hL (lensC L) q [] (by omega) (by simp; omega) hinv
 refine ⟨r, ⟨k1 + k2 + 1, fun k hk => ?_⟩, hr⟩
 have e1 := hk1 k (by omega)
 have e2 := hk2 k k (by omega) (by omega)
 simp only at e1 e2
 show merge_All.f k L = _
 unfold merge_All.f
 rw [if_neg (by omega), e1, Option.bind_some]
 exact e2
end Go.Proofs.Ythphffimgmbhgaa.Pl
