/- Cells, cut into blocks: the printed functions answer the plain one. -/
import Derived.Test.YtclmooadpoojeaaBCellsOrd
import Derived.Test.YtclmooadpoojeaaBCell
import Derived.Test.YtclmooadpoojeaaBRefCellPut
import Derived.Test.YtclmooadpoojeaaXx10
import Derived.Test.YtclmooadpoojeaaXx4
namespace Go.Proofs.Ytclmooadpoojeaa.Pl
open Go.RowKit Go.Proofs.Ytclmooadpoojeaa.X Go.Proofs.YtclmooadpoojeaaW.PrintWords Go.Proofs.YtclmooadpoojeaaW.PrintLast Go.Proofs.YtclmooadpoojeaaW.PrintMore
def lenC (c : Cell) : Nat := (cellB c.f0 c.f1 c.f2 c.f3 c.f4).length
theorem lenC_le {c : Cell} (h : rightC c = true) : lenC c ≤ 401 := by
 obtain ⟨_, h1, _, h2, _, _, h3, _⟩ := rightC_iff.1 h
 have := cellB_length c.f0 c.f1 c.f2 c.f3 c.f4
 unfold lenC
 omega
theorem put_C {c : Cell} (h : rightC c = true) : cell_Put.f c.f0 c.f1 c.f2 c.f3 c.f4 = some (cellB c.f0 c.f1 c.f2 c.f3 c.f4) := by
 obtain ⟨_, h1, _, h2, _, _, h3, _⟩ := rightC_iff.1 h
 exact cell_Put_eq _ _ (by omega) (by omega) (by omega)
theorem ref_put_C {c : Cell} (h : rightC c = true) : Ev (fun k => shardlogref08_Put.f k c.f0 c.f1 c.f2 c.f3 c.f4) (cellB c.f0 c.f1 c.f2 c.f3 c.f4) := by
 obtain ⟨_, h1, _, h2, _, _, h3, _⟩ := rightC_iff.1 h
 exact ref_CPut_ev _ _ (by omega) (by omega) (by omega)
def goB (size : Nat) : List Cell → List Cell → Nat → List (List Cell)
 | [], now, _ => if now = [] then [] else [now]
 | c :: l, now, n => if n + lenC c ≥ size then (now ++ [c]) :: goB size l [] 0 else goB size l (now ++ [c]) (n + lenC c)
theorem goB_length (size : Nat) : ∀ (l now : List Cell) (n : Nat), (goB size l now n).length ≤ l.length + 1
 | [], now, n => by unfold goB; split <;> simp
 | c :: l, now, n => by
  unfold goB
  split
  ·
   have := goB_length size l [] 0
   simp only [List.length_cons]; omega
  ·
   have := goB_length size l (now ++ [c]) (n + lenC c)
   simp only [List.length_cons]; omega
theorem clone_C {l : List Cell} (h : l.length ≤ 1000000000) : api_Cell.f l = some l := by
 unfold api_Cell.f
 rw [if_pos (by omega)]
theorem block_l1 (size : Nat) (N : Nat) (hN : N ≤ 1000) (ih : ∀ (l : List Cell) (out : List (List Cell)), l.length < N → RightsC l → out.length + l.length ≤ 1000 → Ev (fun k => block_Cut.l0 k l (size : Int) out) (out ++ goB size l [] 0, 0))
  (l : List Cell) (out : List (List Cell)) (hl : l.length ≤ N) (hl0 : 0 < l.length) (hr : RightsC l) (ho : out.length + l.length ≤ 1000) (d : Nat) : ∀ (i n : Nat), i ≤ l.length → l.length - i = d → n ≤ 401 * i → Ev (fun k => block_Cut.l1 k l (size : Int) out (n : Int) l (l.length : Int) (i : Int)) (out ++ goB size (l.drop i) (l.take i) n, 0) := by
 induction d with
 | zero =>
  intro i n hi hd hn
  have : i = l.length := by omega
  subst this
  rw [List.drop_eq_nil_of_le (Nat.le_refl _), List.take_length]
  refine Ev.step (f := fun _ => some (out ++ [l], 0)) (fun k => ?_) ((Ev.now _).to ?_)
  ·
   simp only [block_Cut.l1]
   rw [if_neg (by omega), clone_C (by omega), Option.bind_some, if_pos (by omega)]
  ·
   unfold goB
   rw [if_neg (fun e => by rw [e] at hl0; simp at hl0)]
 | succ d ih2 =>
  intro i n hi hd hn
  have hlt : i < l.length := by omega
  have hri := hr _ (List.getElem_mem hlt)
  have hz := lenC_le hri
  have hrd := rdC_at l i hlt
  unfold rdC at hrd
  rw [List.drop_eq_getElem_cons hlt]
  unfold goB
  have e1 : wrap64 ((n : Int) + ((cellB l[i].f0 l[i].f1 l[i].f2 l[i].f3 l[i].f4).length : Int)) = ((n + lenC l[i] : Nat) : Int) := by
   show wrap64 ((n : Int) + ((lenC l[i] : Nat) : Int)) = _
   rw [w64 (by omega) (by omega)]; rfl
  have e2 : wrap64 ((i : Int) + 1) = ((i + 1 : Nat) : Int) := by rw [w64 (by omega) (by omega)]; rfl
  have e3 : l.take i ++ [l[i]] = l.take (i + 1) := by rw [List.take_succ_eq_append_getElem hlt]
  refine Ev.step (fun k => by simp only [block_Cut.l1]; rw [if_pos (by omega), if_pos (by omega), if_pos (by omega), hrd, put_C hri, Option.bind_some, e1, e2]) ?_
  clear e1 e2
  by_cases hs : n + lenC l[i] ≥ size
  ·
   rw [if_pos hs, e3]
   refine Ev.pos (by omega) (Ev.pos (by omega) (Ev.pos (by omega) ?_))
   rw [Int.toNat_natCast, clone_C (by rw [List.length_take]; omega)]
   refine Ev.bind (Ev.now _) (Ev.pos (by omega) ?_)
   refine (ih (l.drop (i + 1)) (out ++ [l.take (i + 1)]) (by rw [List.length_drop]; omega) (fun x hx => hr x (List.mem_of_mem_drop hx)) (by rw [List.length_append, List.length_drop, List.length_singleton]; omega)).to ?_
   rw [List.append_assoc]
   rfl
  ·
   rw [if_neg hs, e3]
   exact Ev.neg (by omega) (ih2 (i + 1) (n + lenC l[i]) (by omega) (by omega) (by omega))
theorem block_l0 (size : Nat) (N : Nat) : ∀ (l : List Cell) (out : List (List Cell)), l.length < N → N ≤ 1000 → RightsC l → out.length + l.length ≤ 1000 → Ev (fun k => block_Cut.l0 k l (size : Int) out) (out ++ goB size l [] 0, 0) := by
 induction N with
 | zero => intro l out hl; omega
 | succ N ih =>
  intro l out hl hN hr ho
  by_cases h0 : l.length = 0
  ·
   have : l = [] := List.eq_nil_of_length_eq_zero h0
   subst this
   refine Ev.step (f := fun _ => some (out, 0)) (fun k => ?_) ((Ev.now _).to (by simp [goB]))
   simp only [block_Cut.l0]
   rw [if_neg (by simp)]
  ·
   refine Ev.step (f := fun k => block_Cut.l1 k l (size : Int) out 0 l (l.length : Int) 0) (fun k => ?_) ?_
   ·
    simp only [block_Cut.l0]
    rw [if_pos (by omega)]
   ·
    exact block_l1 size N (by omega) (fun l' out' h1 h2 h3 => ih l' out' h1 (by omega) h2 h3) l out (by omega) (by omega) hr ho l.length 0 0 (by omega) (by omega) (by omega)
def cutB (size : Int) (l : List Cell) : List (List Cell) × Int := if sortedC l = true ∧ 1 ≤ size then (goB size.toNat l [] 0, 0) else ([], 1)
theorem block_Cut_ev {l : List Cell} (size : Int) (hl : l.length ≤ 900) : Ev (fun k => block_Cut.f k l size) (cutB size l) := by
 have jt : ¬ (sortedC l = true ∧ 1 ≤ size) → Ev (fun k => block_Cut.j0 k l size true) (cutB size l) := fun h => by
  unfold cutB
  rw [if_neg h]
  exact Ev.step (f := fun _ => some ([], 1)) (fun k => by simp only [block_Cut.j0, if_true]) (Ev.now _)
 unfold block_Cut.f
 refine Ev.bind (cell_Sorted_ev (by omega)) ?_
 cases hs : sortedC l with
 | false => exact Ev.neg Bool.false_ne_true (jt (by rw [hs]; simp))
 | true =>
  refine Ev.pos rfl ?_
  by_cases h1 : size < 1
  ·
   rw [decide_eq_true h1]
   exact jt (by omega)
  ·
   rw [decide_eq_false h1]
   unfold cutB
   rw [if_pos ⟨hs, by omega⟩]
   have hr := (sortedC_iff.1 hs).1
   obtain ⟨n, rfl⟩ := Int.eq_ofNat_of_zero_le (show 0 ≤ size by omega)
   refine Ev.step (f := fun k => block_Cut.l0 k l ((n : Nat) : Int) []) (fun k => by simp only [block_Cut.j0, Bool.false_eq_true, if_false]) ?_
   rw [Int.toNat_natCast]
   have := block_l0 n 901 l [] (by omega) (by omega) hr (by simp; omega)
   rw [List.nil_append] at this
   exact this
theorem ref_cut_l0 (size : Nat) (l : List Cell) (hr : RightsC l) (hl : l.length ≤ 900) (d : Nat) : ∀ (i n : Nat) (out : List (List Cell)) (now : List Cell), i ≤ l.length → l.length - i = d → n ≤ 401 * i → out.length ≤ i → now.length ≤ i → (i = l.length → now = []) → Ev (fun k => shardlogref10_Cut.l0 k l (size : Int) out now (n : Int) (i : Int)) (out ++ goB size (l.drop i) now n) := by
 induction d with
 | zero =>
  intro i n out now hi hd hn ho hw he
  rw [List.drop_eq_nil_of_le (by omega), he (by omega)]
  refine Ev.step (f := fun _ => some out) (fun k => ?_) ((Ev.now _).to (by simp [goB]))
  simp only [shardlogref10_Cut.l0]
  rw [if_neg (by omega)]
 | succ d ih =>
  intro i n out now hi hd hn ho hw he
  have hlt : i < l.length := by omega
  have hri := hr _ (List.getElem_mem hlt)
  have hz := lenC_le hri
  have hrd := rdC_at l i hlt
  unfold rdC at hrd
  rw [List.drop_eq_getElem_cons hlt]
  unfold goB
  have e1 : wrap64 ((n : Int) + ((cellB l[i].f0 l[i].f1 l[i].f2 l[i].f3 l[i].f4).length : Int)) = ((n + lenC l[i] : Nat) : Int) := by
   show wrap64 ((n : Int) + ((lenC l[i] : Nat) : Int)) = _
   rw [w64 (by omega) (by omega)]; rfl
  have e2 : wrap64 ((i : Int) + 1) = ((i + 1 : Nat) : Int) := by rw [w64 (by omega) (by omega)]; rfl
  refine Ev.step (fun k => by simp only [shardlogref10_Cut.l0]; rw [if_pos (by omega), if_pos (by omega), if_pos (by omega), hrd, Option.bind_some, e2]) (Ev.bind (ref_put_C hri) ?_)
  rw [e1]
  have jt : ∀ m : Nat, Ev (fun k => shardlogref10_Cut.l0 k l (size : Int) (out ++ [now ++ [l[i]]]) [] 0 ((i + 1 : Nat) : Int)) (out ++ ((now ++ [l[i]]) :: goB size (l.drop (i + 1)) [] 0)) → Ev (fun k => shardlogref10_Cut.j1 k l (size : Int) out (now ++ [l[i]]) (m : Int) (i : Int) true) (out ++ ((now ++ [l[i]]) :: goB size (l.drop (i + 1)) [] 0)) := fun m h => by
   refine Ev.step (fun k => by simp only [shardlogref10_Cut.j1, if_true]; rw [if_pos (by omega), e2]) h
  have hnext := ih (i + 1) 0 (out ++ [now ++ [l[i]]]) [] (by omega) (by omega) (by omega) (by rw [List.length_append, List.length_singleton]; omega) (by simp) (fun _ => rfl)
  rw [List.append_assoc] at hnext
  by_cases hs : n + lenC l[i] ≥ size
  ·
   rw [if_pos hs]
   exact Ev.pos (by omega) (jt _ hnext)
  ·
   rw [if_neg hs]
   refine Ev.neg (by omega) ?_
   by_cases hend : i + 1 = l.length
   ·
    rw [show (((i + 1 : Nat) : Int) == (l.length : Int)) = true by simp [hend]]
    refine (jt _ hnext).to ?_
    rw [List.drop_eq_nil_of_le (by omega)]
    simp [goB]
   ·
    rw [show (((i + 1 : Nat) : Int) == (l.length : Int)) = false by simp; omega]
    refine Ev.step (fun k => by simp only [shardlogref10_Cut.j1, Bool.false_eq_true, if_false]; rw [e2]) (ih (i + 1) (n + lenC l[i]) out (now ++ [l[i]]) (by omega) (by omega) (by omega) (by omega) (by rw [List.length_append, List.length_singleton]; omega) (fun h => absurd h hend))
theorem ref_Cut_ev {l : List Cell} (size : Int) (h1 : 1 ≤ size) (hr : RightsC l) (hl : l.length ≤ 900) : Ev (fun k => shardlogref10_Cut.f k l size) (goB size.toNat l [] 0) := by
 obtain ⟨n, rfl⟩ := Int.eq_ofNat_of_zero_le (show 0 ≤ size by omega)
 unfold shardlogref10_Cut.f
 rw [Int.toNat_natCast]
 by_cases h0 : l.length = 0
 ·
  have : l = [] := List.eq_nil_of_length_eq_zero h0
  subst this
  refine Ev.step (f := fun _ => some []) (fun k => ?_) ((Ev.now _).to (by simp [goB]))
  simp only [shardlogref10_Cut.l0]
  rw [if_neg (by simp)]
 ·
  have := ref_cut_l0 n l hr hl l.length 0 0 [] [] (by omega) (by omega) (by omega) (by simp) (by simp) (fun h => by omega)
  rw [List.nil_append] at this
  exact this
end Go.Proofs.Ytclmooadpoojeaa.Pl
