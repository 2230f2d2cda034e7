/- Lists of cells: the printed functions answer the plain ones. -/
import Derived.Test.YthphffimgmbhgaaBCellSized
import Derived.Test.YthphffimgmbhgaaXx6
import Derived.Test.YthphffimgmbhgaaXx7
import Derived.Test.YthphffimgmbhgaaXx8
namespace Go.Proofs.Ythphffimgmbhgaa.Pl
open Go.RowKit Go.Proofs.Ythphffimgmbhgaa.X Go.Proofs.YthphffimgmbhgaaW.PrintWords Go.Proofs.YthphffimgmbhgaaW.PrintLast Go.Proofs.YthphffimgmbhgaaW.PrintMore
def fewC (l : List Cell) : Bool := decide (l.length ≤ 80) && l.all rightC
theorem fewC_iff {l : List Cell} : fewC l = true ↔ l.length ≤ 80 ∧ RightsC l := by
 unfold fewC RightsC
 rw [Bool.and_eq_true, decide_eq_true_iff, List.all_eq_true]
theorem ref_Few_l0 (l : List Cell) (hn : l.length ≤ 1000000000) (d : Nat) : ∀ i : Nat, i ≤ l.length → l.length - i = d → Ev (fun k => shardlogref08_Few.l0 k l (i : Int)) ((l.drop i).all rightC) := by
 induction d with
 | zero =>
  intro i hi hd
  rw [List.drop_eq_nil_of_le (by omega)]
  refine Ev.step (f := fun _ => some true) (fun k => ?_) (Ev.now _)
  simp only [shardlogref08_Few.l0]
  rw [if_neg (by omega)]
 | succ d ih =>
  intro i hi hd
  have hlt : i < l.length := by omega
  rw [List.drop_eq_getElem_cons hlt, List.all_cons]
  have hr := rdC_at l i hlt
  unfold rdC at hr
  have hk : ∀ k, shardlogref08_Few.l0 (k + 1) l (i : Int) = if rightC l[i] = true then shardlogref08_Few.l0 k l ((i + 1 : Nat) : Int) else some false := by
   intro k
   simp only [shardlogref08_Few.l0]
   rw [if_pos (by omega), if_pos (by omega), hr, ref_CRight_eq, w64 (by omega) (by omega)]
   rfl
  cases hc : rightC l[i] with
  | true =>
   refine Ev.step (f := fun k => shardlogref08_Few.l0 k l ((i + 1 : Nat) : Int)) (fun k => by rw [hk, if_pos hc]) ?_
   rw [Bool.true_and]
   exact ih (i + 1) (by omega) (by omega)
  | false => exact Ev.step (f := fun _ => some false) (fun k => by rw [hk, if_neg (by rw [hc]; exact Bool.false_ne_true)]) (Ev.now _)
theorem ref_Few_ev {l : List Cell} : Ev (fun k => shardlogref08_Few.f k l) (fewC l) := by
 unfold shardlogref08_Few.f fewC
 by_cases h : l.length ≤ 80
 ·
  rw [decide_eq_true h, Bool.true_and]
  refine Ev.neg (by omega) ?_
  have := ref_Few_l0 l (by omega) l.length 0 (by omega) (by omega)
  rw [List.drop_zero] at this
  exact this
 ·
  rw [decide_eq_false h, Bool.false_and]
  exact Ev.pos (by omega) (Ev.now _)
theorem ref_Put1_l0 (l : List Cell) (c : Cell) (hs : ∀ x ∈ l, SizedC x) (hn : l.length ≤ 1000000000) (d : Nat) : ∀ i : Nat, i ≤ l.length → l.length - i = d → (∀ j (_ : j < i) (hl : j < l.length), cc l[j] c = -1) → Ev (fun k => shardlogref08_Put1.l0 k l (i : Int) c.f0 c.f1 c.f2 c.f3 c.f4) (ins c l) := by
 have hj2 : ∀ i : Nat, i ≤ l.length → (∀ j (_ : j < i) (hl : j < l.length), cc l[j] c = -1) → (∀ h : i < l.length, ¬ cc l[i] c = -1) → Ev (fun k => shardlogref08_Put1.j1 k l (i : Int) false c.f0 c.f1 c.f2 c.f3 c.f4) (ins c l) := by
  intro i hi h1 h2
  rw [ins_split c l i hi h1 h2]
  by_cases hlt : i < l.length
  ·
   have hr := rdC_at l i hlt
   unfold rdC at hr
   refine Ev.step (fun k => by simp only [shardlogref08_Put1.j1, Bool.false_eq_true, if_false]; rw [if_pos (by omega), if_pos (by omega), Option.bind_some, if_pos (by omega), hr]) (Ev.bind (ref_CC_ev (hs _ (List.getElem_mem hlt)) c) ?_)
   rw [dif_pos hlt]
   by_cases h0 : cc l[i] c = 0
   ·
    rw [if_pos h0, h0]
    refine Ev.step (f := fun _ => some (l.take i ++ c :: l.drop (i + 1))) (fun k => ?_) (Ev.now _)
    simp only [shardlogref08_Put1.j2, BEq.rfl, if_true]
    rw [w64 (by omega) (by omega), if_pos (by omega), if_pos (by omega)]
    simp only [Option.bind_some]
    rw [if_pos (by omega), if_pos (by omega)]
    rw [Int.toNat_natCast, show ((i : Int) + 1).toNat = i + 1 by omega]
    have t1 : (l.take i).length = i := by rw [List.length_take]; omega
    have t2 : (l.drop (i + 1)).length = l.length - (i + 1) := List.length_drop
    rw [if_pos (by rw [List.length_nil, t1]; omega), if_pos (by simp only [List.length_append, List.length_nil, List.length_cons, t1]; omega), if_pos (by simp only [List.length_append, List.length_nil, List.length_cons, t1, t2]; omega)]
    simp
   ·
    rw [if_neg h0, show (cc l[i] c == 0) = false by simpa using h0]
    refine Ev.step (f := fun _ => some (l.take i ++ c :: l.drop i)) (fun k => ?_) (Ev.now _)
    simp only [shardlogref08_Put1.j2, Bool.false_eq_true, if_false, Option.bind_some]
    rw [if_pos (by omega), if_pos (by omega), Int.toNat_natCast]
    have t1 : (l.take i).length = i := by rw [List.length_take]; omega
    have t2 : (l.drop i).length = l.length - i := List.length_drop
    rw [if_pos (by rw [List.length_nil, t1]; omega), if_pos (by simp only [List.length_append, List.length_nil, List.length_cons, t1]; omega), if_pos (by simp only [List.length_append, List.length_nil, List.length_cons, t1, t2]; omega)]
    simp
  ·
   rw [dif_neg hlt]
   refine Ev.step (fun k => by simp only [shardlogref08_Put1.j1, Bool.false_eq_true, if_false]; rw [if_pos (by omega), if_pos (by omega), Option.bind_some, if_neg (by omega)]) ?_
   refine Ev.step (f := fun _ => some (l.take i ++ c :: l.drop i)) (fun k => ?_) (Ev.now _)
   simp only [shardlogref08_Put1.j2, Bool.false_eq_true, if_false, Option.bind_some]
   rw [if_pos (by omega), if_pos (by omega), Int.toNat_natCast]
   have t1 : (l.take i).length = i := by rw [List.length_take]; omega
   have t2 : (l.drop i).length = l.length - i := List.length_drop
   rw [if_pos (by rw [List.length_nil, t1]; omega), if_pos (by simp only [List.length_append, List.length_nil, List.length_cons, t1]; omega), if_pos (by simp only [List.length_append, List.length_nil, List.length_cons, t1, t2]; omega)]
   simp
 induction d with
 | zero =>
  intro i hi hd h1
  refine Ev.step (f := fun k => shardlogref08_Put1.j1 k l (i : Int) false c.f0 c.f1 c.f2 c.f3 c.f4) (fun k => ?_) (hj2 i hi h1 (fun h => by omega))
  simp only [shardlogref08_Put1.l0]
  rw [if_neg (by omega)]
 | succ d ih =>
  intro i hi hd h1
  have hlt : i < l.length := by omega
  have hr := rdC_at l i hlt
  unfold rdC at hr
  refine Ev.step (fun k => by simp only [shardlogref08_Put1.l0]; rw [if_pos (by omega), if_pos (by omega), hr]) (Ev.bind (ref_CC_ev (hs _ (List.getElem_mem hlt)) c) ?_)
  by_cases h0 : cc l[i] c = -1
  ·
   rw [h0]
   refine Ev.step (f := fun k => shardlogref08_Put1.l0 k l ((i + 1 : Nat) : Int) c.f0 c.f1 c.f2 c.f3 c.f4) (fun k => ?_) (ih (i + 1) (by omega) (by omega) (fun j hj hl => ?_))
   ·
    simp only [shardlogref08_Put1.j1, BEq.rfl, if_true]
    rw [w64 (by omega) (by omega)]
    rfl
   ·
    by_cases hji : j = i
    ·
     subst hji; exact h0
    ·
     exact h1 j (by omega) hl
  ·
   rw [show (cc l[i] c == -1) = false by simpa using h0]
   exact hj2 i hi h1 (fun _ => h0)
theorem ref_Put1_ev {l : List Cell} (c : Cell) (hs : ∀ x ∈ l, SizedC x) (hn : l.length ≤ 1000000000) : Ev (fun k => shardlogref08_Put1.f k l c.f0 c.f1 c.f2 c.f3 c.f4) (ins c l) := by
 unfold shardlogref08_Put1.f
 exact ref_Put1_l0 l c hs hn l.length 0 (by omega) (by omega) (fun j hj => by omega)
theorem sized_ins {c : Cell} {l : List Cell} (hc : SizedC c) (h : ∀ x ∈ l, SizedC x) : ∀ x ∈ ins c l, SizedC x := fun x hx => (mem_ins hx).elim (fun e => e ▸ hc) (h x)
theorem ref_Sort_l0 (l : List Cell) (hs : ∀ x ∈ l, SizedC x) (hn : l.length ≤ 500000000) (d : Nat) : ∀ (i : Nat) (o : List Cell), i ≤ l.length → l.length - i = d → (∀ x ∈ o, SizedC x) → o.length ≤ i → Ev (fun k => shardlogref08_Sort.l0 k l o (i : Int)) ((l.drop i).foldl (fun o c => ins c o) o) := by
 induction d with
 | zero =>
  intro i o hi hd ho hl
  rw [List.drop_eq_nil_of_le (by omega)]
  refine Ev.step (f := fun _ => some o) (fun k => ?_) (Ev.now _)
  simp only [shardlogref08_Sort.l0]
  rw [if_neg (by omega)]
 | succ d ih =>
  intro i o hi hd ho hl
  have hlt : i < l.length := by omega
  have hr := rdC_at l i hlt
  unfold rdC at hr
  rw [List.drop_eq_getElem_cons hlt, List.foldl_cons]
  refine Ev.step (fun k => by simp only [shardlogref08_Sort.l0]; rw [if_pos (by omega), if_pos (by omega), hr]) (Ev.bind (ref_Put1_ev l[i] ho (by omega)) ?_)
  rw [w64 (by omega) (by omega)]
  have := ins_length l[i] o
  exact ih (i + 1) _ (by omega) (by omega) (sized_ins (hs _ (List.getElem_mem hlt)) ho) (by omega)
theorem ref_Sort_ev {l : List Cell} (hs : ∀ x ∈ l, SizedC x) (hn : l.length ≤ 500000000) : Ev (fun k => shardlogref08_Sort.f k l) (sortC l) := by
 unfold shardlogref08_Sort.f sortC
 have := ref_Sort_l0 l hs hn l.length 0 [] (by omega) (by omega) (fun x hx => by cases hx) (by simp)
 rw [List.drop_zero] at this
 exact this
end Go.Proofs.Ythphffimgmbhgaa.Pl
