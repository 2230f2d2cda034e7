/- The pure statement of the law BlockBack. -/
import Derived.Test.YtclmooadpoojeaaBAll
import Derived.KernelRfl
import Derived.Test.YtclmooadpoojeaaXx9
namespace Go.Proofs.Ytclmooadpoojeaa.Pure
open Go.RowKit Go.Proofs.Ytclmooadpoojeaa.X Go.Proofs.Ytclmooadpoojeaa.Pl Go.Proofs.YtclmooadpoojeaaW.PrintWords Go.Proofs.YtclmooadpoojeaaW.PrintLast
theorem awake : Ev (fun k => shardloglaw10_awake.f k) true := Ev.of (fun k => shardloglaw10_awake.mono k) (k := 80) (by kernel_rfl)
theorem rdB_at (x : List (List Cell)) (i : Nat) (h : i < x.length) : rd_L7 x (i : Int) = x[i] := by
 simp [rd_L7, List.getD_eq_getElem?_getD, List.getElem?_eq_getElem h]
def framesB (x : List (List Cell)) : List Int := (x.map fun b => frame (bodyB b)).flatten
theorem framesB_cons (b : List Cell) (x : List (List Cell)) : framesB (b :: x) = frame (bodyB b) ++ framesB x := by unfold framesB; rw [List.map_cons, List.flatten_cons]
theorem framesB_end (x : List (List Cell)) (b : List Cell) : framesB (x ++ [b]) = framesB x ++ frame (bodyB b) := by
 unfold framesB
 rw [List.map_append, List.flatten_append, List.map_cons, List.map_nil, List.flatten_cons, List.flatten_nil, List.append_nil]
/-- What the law asks of the blocks. -/
structure Good (a : Nat) (s : List Cell) (x : List (List Cell)) : Prop where
 flat : x.flatten = s
 len : x.length ≤ 150
 one : ∀ b ∈ x, SrtC b ∧ b.length ≤ 150 ∧ OkB (1 + a) b
 full : ∀ (i : Nat) (h : i + 1 < x.length), 1 + a ≤ sumC (x[i]'(by omega))
theorem framesB_le {x : List (List Cell)} (h : ∀ b ∈ x, SrtC b ∧ b.length ≤ 150) : (framesB x).length ≤ 61000 * x.length := by
 induction x with
 | nil => simp [framesB]
 | cons b x ih =>
  have h1 := h b List.mem_cons_self
  have h2 := bodyB_le h1.1.1
  have h3 := frame_length (r := bodyB b) (by omega)
  have h4 := ih (fun y hy => h y (List.mem_cons_of_mem _ hy))
  unfold framesB at h4 ⊢
  simp only [List.map_cons, List.flatten_cons, List.length_append, List.length_cons]
  omega
/-- The second loop: all are got as they were. -/
theorem back_l2 {s : List Cell} {x : List (List Cell)} {a : Nat} (g : Good a s x) (d : Nat) : ∀ i : Nat, i ≤ x.length → x.length - i = d → Ev (fun k => shardloglaw10_BlockBack.l2 k s x (framesB (x.drop i)) (x.take i).flatten (i : Int)) true := by
 have hs : s.length ≤ 22500 := by
  rw [← g.flat, List.length_flatten]
  have : ∀ y : List (List Cell), (∀ b ∈ y, b.length ≤ 150) → (y.map List.length).sum ≤ 150 * y.length := by
   intro y
   induction y with
   | nil => intro _; simp
   | cons b y ih =>
    intro h
    have h1 := h b List.mem_cons_self
    have h2 := ih (fun z hz => h z (List.mem_cons_of_mem _ hz))
    simp only [List.map_cons, List.sum_cons, List.length_cons]
    omega
  have := this x (fun b hb => (g.one b hb).2.1)
  have := g.len
  omega
 have hpart : ∀ i : Nat, (x.take i).flatten.length ≤ 22500 := fun i => by
  have : (x.take i).flatten.length ≤ x.flatten.length := by
   conv => rhs; rw [← List.take_append_drop i x, List.flatten_append, List.length_append]
   omega
  rw [g.flat] at this
  omega
 induction d with
 | zero =>
  intro i hi hd
  rw [List.drop_eq_nil_of_le (by omega), List.take_of_length_le (by omega), g.flat]
  refine Ev.step (fun k => by simp only [shardloglaw10_BlockBack.l2]; rw [if_neg (by omega), if_pos (by simp [framesB])]) ?_
  exact Ev.bind (sameC_ev rfl (by omega)) (Ev.now _)
 | succ d ih =>
  intro i hi hd
  have hlt : i < x.length := by omega
  obtain ⟨h1, h2, h3⟩ := g.one _ (List.getElem_mem hlt)
  have h0 : x[i].length ≠ 0 := fun e => h3.1 (List.eq_nil_of_length_eq_zero e)
  have e : framesB (x.drop i) = frame (bodyB x[i]) ++ framesB (x.drop (i + 1)) := by
   rw [List.drop_eq_getElem_cons hlt, framesB_cons]
  have hle := framesB_le (x := x.drop i) (fun b hb => ⟨(g.one b (List.mem_of_mem_drop hb)).1, (g.one b (List.mem_of_mem_drop hb)).2.1⟩)
  rw [List.length_drop] at hle
  have hxl := g.len
  have hbytes : Bytes (framesB (x.drop i)) := by
   unfold framesB
   intro y hy
   obtain ⟨z, hz, hy⟩ := List.mem_flatten.1 hy
   obtain ⟨b, _, rfl⟩ := List.mem_map.1 hz
   exact bytes_frame (bytes_bodyB b) y hy
  have hg := block_Get_ev hbytes (by omega)
  rw [e] at hg ⊢
  rw [getB_put h1 h0 h2] at hg
  have hp := hpart i
  refine Ev.step (fun k => by simp only [shardloglaw10_BlockBack.l2]; rw [if_pos (by omega)]) ?_
  refine Ev.bind hg ?_
  refine Ev.pos rfl ?_
  refine Ev.pos (by simp only; omega) ?_
  rw [w64 (by omega) (by omega)]
  have ht : (x.take i).flatten ++ x[i] = (x.take (i + 1)).flatten := by
   rw [List.take_succ_eq_append_getElem hlt, List.flatten_append]; simp
  simp only
  rw [ht]
  exact ih (i + 1) (by omega) (by omega)
theorem framesB_snoc (x : List (List Cell)) (i : Nat) (h : i < x.length) : framesB (x.take i) ++ frame (bodyB x[i]) = framesB (x.take (i + 1)) := by
 rw [List.take_succ_eq_append_getElem h, framesB_end]
theorem lenC_eq (c : Cell) : (cellB c.f0 c.f1 c.f2 c.f3 c.f4).length = lenC c := rfl
/-- The inner loop, and the block's bytes behind it. -/
theorem back_l1 {s : List Cell} {x : List (List Cell)} {a : Nat} (ha : a ≤ 255) (g : Good a s x) (i : Nat) (hi : i < x.length) (next : Ev (fun k => shardloglaw10_BlockBack.l0 k (a : Int) s x (framesB (x.take (i + 1))) ((i + 1 : Nat) : Int)) true) (d : Nat) : ∀ m : Nat, m ≤ x[i].length → x[i].length - m = d → Ev (fun k => shardloglaw10_BlockBack.l1 k (a : Int) s x (framesB (x.take i)) (i : Int) (sumC (x[i].take m) : Int) (m : Int)) true := by
 obtain ⟨h1, h2, h3⟩ := g.one _ (List.getElem_mem hi)
 have hx := g.len
 have h0 : x[i].length ≠ 0 := fun e => h3.1 (List.eq_nil_of_length_eq_zero e)
 have hrd := rdB_at x i hi
 have hfr := framesB_le (x := x.take i) (fun b hb => ⟨(g.one b (List.mem_of_mem_take hb)).1, (g.one b (List.mem_of_mem_take hb)).2.1⟩)
 rw [List.length_take] at hfr
 have hj : Ev (fun k => shardloglaw10_BlockBack.j3 k (a : Int) s x (framesB (x.take i)) (i : Int) false) true := by
  have hb := bodyB_le h1.1
  have hfl := frame_length (r := bodyB x[i]) (by omega)
  have hp := block_Put_ev (l := x[i]) h2
  have e : putB x[i] = (frame (bodyB x[i]), 0) := by
   unfold putB
   rw [if_pos ⟨sortedC_iff.2 h1, h0⟩]
  rw [e] at hp
  refine Ev.step (fun k => by simp only [shardloglaw10_BlockBack.j3, Bool.false_eq_true, if_false]; rw [if_pos (by omega), if_pos (by omega), hrd]) ?_
  refine Ev.bind hp ?_
  refine Ev.pos rfl ?_
  refine Ev.pos (by simp only; omega) ?_
  simp only
  rw [framesB_snoc x i hi, w64 (by omega) (by omega)]
  exact next
 induction d with
 | zero =>
  intro m hm hd
  have : m = x[i].length := by omega
  subst this
  rw [List.take_length]
  refine Ev.step (fun k => by simp only [shardloglaw10_BlockBack.l1]; rw [if_pos (by omega), if_pos (by omega), hrd, if_neg (by omega), if_neg (by omega), w64 (x := (a : Int)) (by omega) (by omega)]) ?_
  by_cases hs : (sumC x[i] : Int) ≤ (a : Int)
  ·
   refine Ev.pos hs ?_
   have hno : ¬ i + 1 < x.length := fun h => by have := g.full i h; omega
   rw [show wrap64 ((i : Int) + 1) = ((i + 1 : Nat) : Int) by rw [w64 (by omega) (by omega)]; rfl, decide_eq_false (by omega)]
   exact hj
  ·
   exact Ev.neg hs hj
 | succ d ih =>
  intro m hm hd
  have hlt : m < x[i].length := by omega
  have hc := h1.1 _ (List.getElem_mem hlt)
  have hz := lenC_le hc
  have hn := h3.2 m hlt
  have hrc := rdC_at x[i] m hlt
  unfold rdC at hrc
  have hsum : sumC (x[i].take (m + 1)) = sumC (x[i].take m) + lenC x[i][m] := by
   rw [List.take_succ_eq_append_getElem hlt, sumC_append, sumC_one]
  refine Ev.step (fun k => by simp only [shardloglaw10_BlockBack.l1]; rw [if_pos (by omega), if_pos (by omega), hrd, if_pos (by omega), w64 (x := (a : Int)) (by omega) (by omega), if_neg (by omega), if_pos (by omega), hrc]) ?_
  refine Ev.bind (ref_put_C hc) ?_
  rw [lenC_eq, show wrap64 ((sumC (x[i].take m) : Int) + (lenC x[i][m] : Int)) = (sumC (x[i].take (m + 1)) : Int) by rw [w64 (by omega) (by omega), hsum]; rfl, show wrap64 ((m : Int) + 1) = ((m + 1 : Nat) : Int) by rw [w64 (by omega) (by omega)]; rfl]
  exact ih (m + 1) (by omega) (by omega)
theorem back_l0 {s : List Cell} {x : List (List Cell)} {a : Nat} (ha : a ≤ 255) (g : Good a s x) (d : Nat) : ∀ i : Nat, i ≤ x.length → x.length - i = d → Ev (fun k => shardloglaw10_BlockBack.l0 k (a : Int) s x (framesB (x.take i)) (i : Int)) true := by
 have hx := g.len
 induction d with
 | zero =>
  intro i hi hd
  have : i = x.length := by omega
  subst this
  rw [List.take_length]
  have h := back_l2 g x.length 0 (by omega) (by omega)
  rw [List.drop_zero, List.take_zero, List.flatten_nil] at h
  refine Ev.step (f := fun k => shardloglaw10_BlockBack.l2 k s x (framesB x) [] 0) (fun k => ?_) h
  simp only [shardloglaw10_BlockBack.l0]
  rw [if_neg (by omega)]
 | succ d ih =>
  intro i hi hd
  have hlt : i < x.length := by omega
  refine Ev.step (f := fun k => shardloglaw10_BlockBack.l1 k (a : Int) s x (framesB (x.take i)) (i : Int) 0 0) (fun k => ?_) ?_
  ·
   simp only [shardloglaw10_BlockBack.l0]
   rw [if_pos (by omega)]
  ·
   have := back_l1 ha g i hlt (ih (i + 1) (by omega) (by omega)) x[i].length 0 (by omega) (by omega)
   rw [List.take_zero] at this
   exact this
theorem goB_mem_length (size : Nat) : ∀ (l now : List Cell) (n : Nat), ∀ b ∈ goB size l now n, b.length ≤ now.length + l.length
 | [], now, n, b, h => by
  unfold goB at h
  split at h
  ·
   cases h
  ·
   rw [List.mem_singleton] at h
   rw [h]; omega
 | c :: l, now, n, b, h => by
  unfold goB at h
  split at h
  ·
   rcases List.mem_cons.1 h with rfl | h
   ·
    simp only [List.length_append, List.length_cons, List.length_nil]; omega
   ·
    have := goB_mem_length size l [] 0 b h
    simp only [List.length_nil, List.length_cons] at this ⊢; omega
  ·
   have := goB_mem_length size l (now ++ [c]) _ b h
   simp only [List.length_append, List.length_cons, List.length_nil] at this ⊢; omega
theorem BlockBack : shardloglaw10_BlockBack.Pure := by
 intro l a _ ha
 obtain ⟨a0, a1⟩ := wf_u8 ha
 obtain ⟨n, rfl⟩ := Int.eq_ofNat_of_zero_le a0
 refine Ev.rounds ?_
 unfold shardloglaw10_BlockBack.f
 refine Ev.bind awake (Ev.pos rfl (Ev.bind ref_Few_ev ?_))
 cases h : fewC l with
 | false => exact Ev.step (f := fun k => (shardloglaw10_awake.f k).bind fun t => some t) (fun k => by simp only [shardloglaw10_BlockBack.j0, Bool.not_false, if_true]) (Ev.bind awake (Ev.now _))
 | true =>
  obtain ⟨hn, hr⟩ := fewC_iff.1 h
  have hl := sortC_length l
  have hs := sortC_srt hr
  refine Ev.step (fun k => by simp only [shardloglaw10_BlockBack.j0, Bool.not_true, Bool.false_eq_true, if_false]; rfl) ?_
  refine Ev.bind (ref_Sort_ev (fun x hx => sized_of_right (hr x hx)) (by omega)) ?_
  rw [w64 (x := ((n : Nat) : Int)) (by omega) (by omega), w64 (by omega) (by omega)]
  refine Ev.bind (block_Cut_ev (1 + (n : Int)) (by omega)) ?_
  unfold cutB
  rw [if_pos ⟨sortedC_iff.2 hs, by omega⟩, show (1 + (n : Int)).toNat = 1 + n by omega]
  refine Ev.pos rfl ?_
  have hflat := goB_flat (1 + n) (sortC l) [] 0
  rw [List.nil_append] at hflat
  have hlen := goB_length (1 + n) (sortC l) [] 0
  have g : Good n (sortC l) (goB (1 + n) (sortC l) [] 0) := by
   refine ⟨hflat, by omega, fun b hb => ⟨srt_parts (by rw [hflat]; exact hs) b hb, ?_, goB_ok (1 + n) (by omega) (sortC l) [] 0 rfl (fun k hk => ?_) b hb⟩, goB_full (1 + n) (sortC l) [] 0 rfl⟩
   ·
    have := goB_mem_length (1 + n) (sortC l) [] 0 b hb
    simp only [List.length_nil] at this
    omega
   ·
    simp only [List.take_nil, sumC, List.map_nil, List.sum_nil]; omega
  have := back_l0 (by omega) g (goB (1 + n) (sortC l) [] 0).length 0 (by omega) (by omega)
  rw [List.take_zero] at this
  exact this
end Go.Proofs.Ytclmooadpoojeaa.Pure
