/- The queue of sources: up and down keep it a heap. -/
import Derived.Test.YthphffimgmbhgaaQCellsNew
import Derived.Test.YthphffimgmbhgaaXx2
import Derived.Test.YthphffimgmbhgaaXx3
namespace Go.Proofs.Ythphffimgmbhgaa.Pl
open Go.RowKit Go.Proofs.Ythphffimgmbhgaa.X Go.Proofs.YthphffimgmbhgaaW.PrintWords Go.Proofs.YthphffimgmbhgaaW.PrintLast Go.Proofs.YthphffimgmbhgaaW.PrintMore
abbrev Src := S44
abbrev zS : Src := z44
def hd (s : Src) : Cell := rdC s.f0 0
def ltS (a b : Src) : Bool := decide (cc (hd a) (hd b) = -1) || (decide (cc (hd a) (hd b) = 0) && decide (a.f1 < b.f1))
def LeS (a b : Src) : Prop := ltS b a = false
theorem leS_iff {a b : Src} : LeS a b ↔ cc (hd a) (hd b) = -1 ∨ (cc (hd a) (hd b) = 0 ∧ a.f1 ≤ b.f1) := by
 have h1 := cc_in (hd a) (hd b)
 have h2 := cc_neg (hd a) (hd b)
 unfold LeS ltS
 simp only [Bool.or_eq_false_iff, Bool.and_eq_false_iff, decide_eq_false_iff_not]
 omega
theorem ltS_iff {a b : Src} : ltS a b = true ↔ cc (hd a) (hd b) = -1 ∨ (cc (hd a) (hd b) = 0 ∧ a.f1 < b.f1) := by
 unfold ltS
 simp only [Bool.or_eq_true, Bool.and_eq_true, decide_eq_true_iff]
theorem leS_refl (a : Src) : LeS a a := leS_iff.2 (.inr ⟨cc_self _, Int.le_refl _⟩)
theorem leS_of_lt {a b : Src} (h : ltS a b = true) : LeS a b := leS_iff.2 ((ltS_iff.1 h).imp id (fun h => ⟨h.1, Int.le_of_lt h.2⟩))
theorem leS_trans {a b c : Src} (h : LeS a b) (h' : LeS b c) : LeS a c := by
 rcases leS_iff.1 h with h1 | ⟨h1, h2⟩ <;> rcases leS_iff.1 h' with h3 | ⟨h3, h4⟩
 ·
  exact leS_iff.2 (.inl (cc_trans h1 h3))
 ·
  exact leS_iff.2 (.inl (by rw [← cc_right h3]; exact h1))
 ·
  exact leS_iff.2 (.inl (by rw [cc_left h1]; exact h3))
 ·
  exact leS_iff.2 (.inr ⟨by rw [cc_left h1]; exact h3, by omega⟩)
theorem cmpOr2_ev (a b : Int) : Ev (fun k => cmp_Or_int.f k [a, b]) (if a = 0 then b else a) := by
 unfold cmp_Or_int.f
 have hl : (([a, b] : List Int).length : Int) = 2 := rfl
 rw [hl]
 by_cases ha : a = 0
 ·
  rw [if_pos ha]
  refine Ev.step (f := fun k => cmp_Or_int.l0 k 0 [a, b] 2 1) (fun k => ?_) ?_
  ·
   simp only [cmp_Or_int.l0, hl]
   rw [if_pos (by omega), if_pos (by omega), if_pos (by omega), show rd [a, b] 0 = a from rfl, if_pos ha, w64 (by omega) (by omega)]
   rfl
  by_cases hb : b = 0
  ·
   refine Ev.step (f := fun k => cmp_Or_int.l0 k 0 [a, b] 2 2) (fun k => ?_) ?_
   ·
    simp only [cmp_Or_int.l0, hl]
    rw [if_pos (by omega), if_pos (by omega), if_pos (by omega), show rd [a, b] 1 = b from rfl, if_pos hb, w64 (by omega) (by omega)]
    rfl
   refine Ev.step (f := fun _ => some 0) (fun k => ?_) ((Ev.now 0).to hb.symm)
   simp only [cmp_Or_int.l0]
   rw [if_neg (by omega)]
  ·
   refine Ev.step (f := fun _ => some b) (fun k => ?_) (Ev.now _)
   simp only [cmp_Or_int.l0, hl]
   rw [if_pos (by omega), if_pos (by omega), if_pos (by omega), show rd [a, b] 1 = b from rfl, if_neg hb]
 ·
  rw [if_neg ha]
  refine Ev.step (f := fun _ => some a) (fun k => ?_) (Ev.now _)
  simp only [cmp_Or_int.l0, hl]
  rw [if_pos (by omega), if_pos (by omega), if_pos (by omega), show rd [a, b] 0 = a from rfl, if_neg ha]
abbrev gQ (xs : List Src) (i : Nat) : Src := xs.getD i zS
theorem less_ev {xs : List Src} {i j : Nat} (hi : i < xs.length) (hj : j < xs.length) (h0 : 0 < (gQ xs i).f0.length) (h1 : 0 < (gQ xs j).f0.length) : Ev (fun k => merge_queue_Less.f k xs (i : Int) (j : Int)) (ltS (gQ xs i) (gQ xs j)) := by
 have hc := cc_in (hd (gQ xs i)) (hd (gQ xs j))
 unfold merge_queue_Less.f
 have ei : rd_T44 xs (i : Int) = gQ xs i := by show xs.getD (i : Int).toNat _ = _; rw [Int.toNat_natCast]
 have ej : rd_T44 xs (j : Int) = gQ xs j := by show xs.getD (j : Int).toNat _ = _; rw [Int.toNat_natCast]
 rw [ei, ej]
 refine Ev.pos (by omega) (Ev.pos (by omega) (Ev.pos (by omega) (Ev.pos (by omega) (Ev.pos (by omega) (Ev.pos (by omega) ?_)))))
 refine Ev.bind (cell_Compare_ev _ _ _ _ _ _ _ _ _ _) ?_
 rw [cmpInt_eq]
 refine Ev.congr (fun k => Option.bind_some _ _) (Ev.bind (cmpOr2_ev _ _) (Ev.eq ?_))
 congr 1
 rw [Bool.eq_iff_iff, decide_eq_true_iff, ltS_iff]
 show (if cc (hd (gQ xs i)) (hd (gQ xs j)) = 0 then cmpN (gQ xs i).f1 (gQ xs j).f1 else cc (hd (gQ xs i)) (hd (gQ xs j))) < 0 ↔ _
 have hn := cmpN_in (gQ xs i).f1 (gQ xs j).f1
 have hn2 := cmpN_lt (a := (gQ xs i).f1) (b := (gQ xs j).f1)
 split <;> omega
theorem swapQ_perm {xs : List Src} {i j : Nat} (hi : i < xs.length) (hj : j < xs.length) : (swapQ xs i j).Perm xs := by
 unfold swapQ
 have e1 : xs.getD j zS = xs[j] := by rw [List.getD_eq_getElem?_getD, List.getElem?_eq_getElem hj]; rfl
 have e2 : xs.getD i zS = xs[i] := by rw [List.getD_eq_getElem?_getD, List.getElem?_eq_getElem hi]; rfl
 rw [e1, e2]
 exact List.set_set_perm hi hj
theorem set_getD {xs : List Src} {i : Nat} (hi : i < xs.length) (v : Src) (m : Nat) : gQ (xs.set i v) m = if m = i then v else gQ xs m := by
 unfold gQ
 rw [List.getD_eq_getElem?_getD, List.getD_eq_getElem?_getD]
 by_cases h : m = i
 ·
  subst h
  rw [List.getElem?_set_self hi, if_pos rfl]
  rfl
 ·
  rw [List.getElem?_set_ne (fun e => h e.symm), if_neg h]
theorem swapQ_get {xs : List Src} {i j : Nat} (hi : i < xs.length) (hj : j < xs.length) (m : Nat) : gQ (swapQ xs i j) m = if m = j then gQ xs i else if m = i then gQ xs j else gQ xs m := by
 unfold swapQ
 rw [set_getD (by rw [List.length_set]; exact hj), set_getD hi]
def HeapN (n : Nat) (xs : List Src) : Prop := ∀ m, 0 < m → m < n → LeS (gQ xs ((m - 1) / 2)) (gQ xs m)
theorem heap_min {n : Nat} {xs : List Src} (h : HeapN n xs) : ∀ m, m < n → LeS (gQ xs 0) (gQ xs m) := by
 intro m
 induction m using Nat.strongRecOn with
 | _ m ih =>
  intro hm
  by_cases h0 : m = 0
  ·
   subst h0
   exact leS_refl _
  ·
   exact leS_trans (ih ((m - 1) / 2) (by omega) (by omega)) (h m (by omega) hm)
def DownP (n i : Nat) (xs : List Src) : Prop := (∀ m, 0 < m → m < n → (m - 1) / 2 ≠ i → LeS (gQ xs ((m - 1) / 2)) (gQ xs m)) ∧ (0 < i → ∀ m, 0 < m → m < n → (m - 1) / 2 = i → LeS (gQ xs ((i - 1) / 2)) (gQ xs m))
def Ev2 {α : Type} (f : Nat → Nat → Option α) (r : α) : Prop := ∃ k0, ∀ k m, k0 ≤ k → k0 ≤ m → f k m = some r
theorem down_ok (n : Nat) (d : Nat) : ∀ (xs : List Src) (i : Nat), n - i ≤ d → DownP n i xs → n ≤ xs.length → (∀ m, m < n → 0 < (gQ xs m).f0.length) → ∃ r q, Ev2 (fun k m => downF k n m xs i) (r, q) ∧ r.Perm xs ∧ HeapN n r ∧ ∀ m, n ≤ m → gQ r m = gQ xs m := by
 induction d with
 | zero =>
  intro xs i hd hP hn hne
  refine ⟨xs, i, ⟨1, fun k m _ hm => ?_⟩, List.Perm.refl _, fun m h0 hm => hP.1 m h0 hm (by omega), fun _ _ => rfl⟩
  obtain ⟨m, rfl⟩ : ∃ m', m = m' + 1 := ⟨m - 1, by omega⟩
  show downF k n (m + 1) _ _ = _
  rw [downF, if_pos (by omega)]
 | succ d ih =>
  intro xs i hd hP hn hne
  by_cases hj1 : n ≤ 2 * i + 1
  ·
   refine ⟨xs, i, ⟨1, fun k m _ hm => ?_⟩, List.Perm.refl _, fun m h0 hm => hP.1 m h0 hm (by omega), fun _ _ => rfl⟩
   obtain ⟨m, rfl⟩ : ∃ m', m = m' + 1 := ⟨m - 1, by omega⟩
   show downF k n (m + 1) _ _ = _
   rw [downF, if_pos hj1]
  ·
   have hb : ∃ b : Bool, Ev (fun k => if 2 * i + 2 < n then merge_queue_Less.f k xs ((2 * i + 2 : Nat) : Int) ((2 * i + 1 : Nat) : Int) else some false) b ∧ ∀ m, 0 < m → m < n → (m - 1) / 2 = i → LeS (gQ xs (if b = true then 2 * i + 2 else 2 * i + 1)) (gQ xs m) ∧ (if b = true then 2 * i + 2 else 2 * i + 1) < n := by
    by_cases h2 : 2 * i + 2 < n
    ·
     refine ⟨_, Ev.pos h2 (less_ev (by omega) (by omega) (hne _ h2) (hne _ (by omega))), fun m h0 hm hp => ?_⟩
     have hm2 : m = 2 * i + 1 ∨ m = 2 * i + 2 := by omega
     cases hb : ltS (gQ xs (2 * i + 2)) (gQ xs (2 * i + 1)) with
     | true =>
      rw [if_pos rfl]
      rcases hm2 with rfl | rfl
      ·
       exact ⟨leS_of_lt hb, by omega⟩
      ·
       exact ⟨leS_refl _, by omega⟩
     | false =>
      rw [if_neg Bool.false_ne_true]
      rcases hm2 with rfl | rfl
      ·
       exact ⟨leS_refl _, by omega⟩
      ·
       exact ⟨hb, by omega⟩
    ·
     refine ⟨false, Ev.neg h2 (Ev.now _), fun m h0 hm hp => ?_⟩
     obtain rfl : m = 2 * i + 1 := by omega
     exact ⟨leS_refl _, by simp; omega⟩
   obtain ⟨b, hbe, hbl⟩ := hb
   obtain ⟨j, hj⟩ : ∃ j, (if b = true then 2 * i + 2 else 2 * i + 1) = j := ⟨_, rfl⟩
   have hj3 : j = 2 * i + 1 ∨ j = 2 * i + 2 := by rw [← hj]; cases b <;> simp
   have hjn : j < n := by rw [← hj]; exact (hbl (2 * i + 1) (by omega) (by omega) (by omega)).2
   have hjl : ∀ m, 0 < m → m < n → (m - 1) / 2 = i → LeS (gQ xs j) (gQ xs m) := fun m h0 hm hp => by rw [← hj]; exact (hbl m h0 hm hp).1
   have hce := less_ev (xs := xs) (i := j) (j := i) (by omega) (by omega) (hne _ hjn) (hne _ (by omega))
   obtain ⟨k1, hk1⟩ := hbe
   obtain ⟨k2, hk2⟩ := hce
   cases hc : ltS (gQ xs j) (gQ xs i) with
   | false =>
    refine ⟨xs, i, ⟨k1 + k2 + 1, fun k m hk hm => ?_⟩, List.Perm.refl _, fun m h0 hm => ?_, fun _ _ => rfl⟩
    ·
     obtain ⟨m, rfl⟩ : ∃ m', m = m' + 1 := ⟨m - 1, by omega⟩
     have e1 := hk1 k (by omega)
     have e2 := hk2 k (by omega)
     simp only at e1 e2
     show downF k n (m + 1) _ _ = _
     rw [downF, if_neg hj1, e1, Option.bind_some, hj, e2, Option.bind_some, hc, if_neg Bool.false_ne_true]
    ·
     by_cases hp : (m - 1) / 2 = i
     ·
      rw [hp]
      exact leS_trans hc (hjl m h0 hm hp)
     ·
      exact hP.1 m h0 hm hp
   | true =>
    have hil : i < xs.length := by omega
    have hjx : j < xs.length := by omega
    have hg := swapQ_get hil hjx
    have hP' : DownP n j (swapQ xs i j) := by
     refine ⟨fun m h0 hm hp => ?_, fun _ m h0 hm hp => ?_⟩
     ·
      rw [hg, hg]
      by_cases hmj : m = j
      ·
       subst hmj
       rw [if_pos rfl, if_neg hp, if_pos (by omega)]
       exact leS_of_lt hc
      ·
       rw [if_neg hp, if_neg hmj]
       by_cases hpi : (m - 1) / 2 = i
       ·
        rw [if_pos hpi, if_neg (by omega)]
        exact hjl m h0 hm hpi
       ·
        rw [if_neg hpi]
        by_cases hmi : m = i
        ·
         subst hmi
         rw [if_pos rfl]
         exact hP.2 h0 j (by omega) hjn (by omega)
        ·
         rw [if_neg hmi]
         exact hP.1 m h0 hm hpi
     ·
      rw [show (j - 1) / 2 = i by omega, hg, hg, if_neg (by omega), if_pos rfl, if_neg (by omega), if_neg (by omega)]
      have := hP.1 m h0 hm (by omega)
      rw [hp] at this
      exact this
    obtain ⟨r, q, ⟨k3, hk3⟩, hpm, hh, hf⟩ := ih (swapQ xs i j) j (by omega) hP' (by rw [swapQ_len]; exact hn) (fun m hm => by
     rw [hg]
     split
     ·
      exact hne _ (by omega)
     ·
      split
      ·
       exact hne _ hjn
      ·
       exact hne _ hm)
    refine ⟨r, q, ⟨k1 + k2 + k3 + 1, fun k m hk hm => ?_⟩, hpm.trans (swapQ_perm hil hjx), hh, fun m hm => ?_⟩
    ·
     obtain ⟨m, rfl⟩ : ∃ m', m = m' + 1 := ⟨m - 1, by omega⟩
     have e1 := hk1 k (by omega)
     have e2 := hk2 k (by omega)
     simp only at e1 e2
     show downF k n (m + 1) _ _ = _
     rw [downF, if_neg hj1, e1, Option.bind_some, hj, e2, Option.bind_some, hc, if_pos rfl]
     exact hk3 k m (by omega) (by omega)
    ·
     rw [hf m hm, hg, if_neg (by omega), if_neg (by omega)]
def UpP (j : Nat) (xs : List Src) : Prop := (∀ m, 0 < m → m < xs.length → m ≠ j → LeS (gQ xs ((m - 1) / 2)) (gQ xs m)) ∧ (0 < j → ∀ m, 0 < m → m < xs.length → (m - 1) / 2 = j → LeS (gQ xs ((j - 1) / 2)) (gQ xs m))
theorem up_ok : ∀ (j : Nat) (xs : List Src), j < xs.length → UpP j xs → (∀ m, m < xs.length → 0 < (gQ xs m).f0.length) → ∃ r, Ev2 (fun k m => upF k m xs j) r ∧ r.Perm xs ∧ HeapN r.length r := by
 intro j
 induction j using Nat.strongRecOn with
 | _ j ih =>
  intro xs hjl hP hne
  by_cases h0 : j = 0
  ·
   subst h0
   refine ⟨xs, ⟨1, fun k m _ hm => ?_⟩, List.Perm.refl _, fun m h0 hm => hP.1 m h0 hm (by omega)⟩
   obtain ⟨m, rfl⟩ : ∃ m', m = m' + 1 := ⟨m - 1, by omega⟩
   show upF k (m + 1) _ _ = _
   rw [upF, if_pos rfl]
  ·
   obtain ⟨i, hi⟩ : ∃ i, (j - 1) / 2 = i := ⟨_, rfl⟩
   have hil : i < xs.length := by omega
   obtain ⟨k1, hk1⟩ := less_ev (xs := xs) (i := j) (j := i) hjl hil (hne _ hjl) (hne _ hil)
   cases hc : ltS (gQ xs j) (gQ xs i) with
   | false =>
    refine ⟨xs, ⟨k1 + 1, fun k m hk hm => ?_⟩, List.Perm.refl _, fun m h0 hm => ?_⟩
    ·
     obtain ⟨m, rfl⟩ : ∃ m', m = m' + 1 := ⟨m - 1, by omega⟩
     have e1 := hk1 k (by omega)
     simp only at e1
     show upF k (m + 1) _ _ = _
     rw [upF, if_neg h0, hi, e1, Option.bind_some, hc, if_neg Bool.false_ne_true]
    ·
     by_cases hm2 : m = j
     ·
      subst hm2
      rw [hi]
      exact hc
     ·
      exact hP.1 m h0 hm hm2
   | true =>
    have hg := swapQ_get hil hjl
    have hP' : UpP i (swapQ xs i j) := by
     refine ⟨fun m h0 hm hp => ?_, fun h0i m h0 hm hp => ?_⟩
     ·
      rw [swapQ_len] at hm
      rw [hg, hg]
      by_cases hmj : m = j
      ·
       subst hmj
       rw [if_pos rfl, hi, if_neg (by omega), if_pos rfl]
       exact leS_of_lt hc
      ·
       rw [if_neg hmj, if_neg hp]
       by_cases hpj : (m - 1) / 2 = j
       ·
        rw [if_pos hpj]
        have := hP.2 (by omega) m h0 hm hpj
        rw [hi] at this
        exact this
       ·
        rw [if_neg hpj]
        by_cases hpi : (m - 1) / 2 = i
        ·
         rw [if_pos hpi]
         have := hP.1 m h0 hm hmj
         rw [hpi] at this
         exact leS_trans (leS_of_lt hc) this
        ·
         rw [if_neg hpi]
         exact hP.1 m h0 hm hmj
     ·
      rw [swapQ_len] at hm
      have h1 := hP.1 i h0i hil (by omega)
      rw [hg, hg, if_neg (by omega), if_neg (by omega)]
      by_cases hmj : m = j
      ·
       rw [if_pos hmj]
       exact h1
      ·
       rw [if_neg hmj, if_neg (by omega)]
       have := hP.1 m h0 hm hmj
       rw [hp] at this
       exact leS_trans h1 this
    obtain ⟨r, ⟨k3, hk3⟩, hpm, hh⟩ := ih i (by omega) (swapQ xs i j) (by rw [swapQ_len]; exact hil) hP' (fun m hm => by
     rw [swapQ_len] at hm
     rw [hg]
     split
     ·
      exact hne _ hil
     ·
      split
      ·
       exact hne _ hjl
      ·
       exact hne _ hm)
    refine ⟨r, ⟨k1 + k3 + 1, fun k m hk hm => ?_⟩, hpm.trans (swapQ_perm hil hjl), hh⟩
    obtain ⟨m, rfl⟩ : ∃ m', m = m' + 1 := ⟨m - 1, by omega⟩
    have e1 := hk1 k (by omega)
    simp only at e1
    show upF k (m + 1) _ _ = _
    rw [upF, if_neg h0, hi, e1, Option.bind_some, hc, if_pos rfl]
    exact hk3 k m (by omega) (by omega)
end Go.Proofs.Ythphffimgmbhgaa.Pl
