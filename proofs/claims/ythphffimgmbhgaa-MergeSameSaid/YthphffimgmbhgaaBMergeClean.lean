/- Cleaned, visible: the printed functions answer the plain ones. -/
import Derived.Test.YthphffimgmbhgaaQMerge
import Derived.Test.YthphffimgmbhgaaXx3
import Derived.Test.YthphffimgmbhgaaXx4
import Derived.Test.YthphffimgmbhgaaXx5
namespace Go.Proofs.Ythphffimgmbhgaa.Pl
open Go.RowKit Go.Proofs.Ythphffimgmbhgaa.X Go.Proofs.YthphffimgmbhgaaW.PrintWords Go.Proofs.YthphffimgmbhgaaW.PrintLast Go.Proofs.YthphffimgmbhgaaW.PrintMore
theorem merge_same_eq (a b : Cell) : merge_same.f a.f0 a.f1 a.f2 a.f3 a.f4 b.f0 b.f1 b.f2 b.f3 b.f4 = some (sameK a b) := by
 unfold merge_same.f sameK
 by_cases h0 : a.f0 = b.f0
 ·
  rw [if_pos (by rw [h0])]
  congr 1
  rw [Bool.eq_iff_iff, beq_iff_eq, decide_eq_true_iff]
  exact ⟨fun h => ⟨h0, toList_inj h⟩, fun h => by rw [h.2]⟩
 ·
  rw [if_neg (fun h => h0 (toList_inj h))]
  congr 1
  rw [eq_comm, decide_eq_false_iff_not]
  exact fun h => h0 h.1
theorem filtC_cons (F : Bool → Cell → Bool) (t : Int) (p : Option Cell) (c : Cell) (l : List Cell) : filtC F t p (c :: l) = if F (nwC t p c) c = true then c :: filtC F t (some c) l else filtC F t (some c) l := rfl
theorem merge_Clean_l0 (l : List Cell) (t : Int) (hn : l.length ≤ 1000000000) (d : Nat) : ∀ (i : Nat) (o : List Cell) (p : Option Cell), i ≤ l.length → l.length - i = d → o.length ≤ i → (p = if h : 0 < i ∧ i - 1 < l.length then some l[i - 1] else none) → Ev (fun k => merge_Clean.l0 k l t o l (l.length : Int) (i : Int)) (o ++ filtC (cleanF t) t p (l.drop i)) := by
 induction d with
 | zero =>
  intro i o p hi hd ho hp
  rw [List.drop_eq_nil_of_le (by omega)]
  refine Ev.step (f := fun _ => some o) (fun k => ?_) ((Ev.now _).to (by simp [filtC]))
  simp only [merge_Clean.l0]
  rw [if_neg (by omega)]
 | succ d ih =>
  intro i o p hi hd ho hp
  have hlt : i < l.length := by omega
  have hr := rdC_at l i hlt
  unfold rdC at hr
  have hw : wrap64 ((i : Int) + 1) = ((i + 1 : Nat) : Int) := by rw [w64 (by omega) (by omega)]; rfl
  rw [List.drop_eq_getElem_cons hlt, filtC_cons]
  have ih1 : ∀ o', o'.length ≤ i + 1 → Ev (fun k => merge_Clean.l0 k l t o' l (l.length : Int) ((i + 1 : Nat) : Int)) (o' ++ filtC (cleanF t) t (some l[i]) (l.drop (i + 1))) := fun o' ho' => ih (i + 1) o' (some l[i]) (by omega) (by omega) ho' (by rw [dif_pos ⟨by omega, by omega⟩]; rfl)
  have j2 : ∀ b : Bool, Ev (fun k => merge_Clean.j2 k l t o l (l.length : Int) (i : Int) b l[i].f0 l[i].f1 l[i].f2 l[i].f3 l[i].f4) (o ++ if b = true then l[i] :: filtC (cleanF t) t (some l[i]) (l.drop (i + 1)) else filtC (cleanF t) t (some l[i]) (l.drop (i + 1))) := by
   intro b
   cases b with
   | true =>
    refine Ev.step (f := fun k => merge_Clean.l0 k l t (o ++ [l[i]]) l (l.length : Int) ((i + 1 : Nat) : Int)) (fun k => ?_) ((ih1 (o ++ [l[i]]) (by rw [List.length_append]; simp; omega)).to (by simp))
    simp only [merge_Clean.j2, if_true]
    rw [if_pos (by omega), hw]
   | false =>
    refine Ev.step (f := fun k => merge_Clean.l0 k l t o l (l.length : Int) ((i + 1 : Nat) : Int)) (fun k => ?_) ((ih1 o (by omega)).to (by simp))
    simp only [merge_Clean.j2, Bool.false_eq_true, if_false]
    rw [hw]
  have j1 : ∀ b : Bool, Ev (fun k => merge_Clean.j1 k l t o b l (l.length : Int) (i : Int) l[i].f0 l[i].f1 l[i].f2 l[i].f3 l[i].f4) (o ++ if cleanF t b l[i] = true then l[i] :: filtC (cleanF t) t (some l[i]) (l.drop (i + 1)) else filtC (cleanF t) t (some l[i]) (l.drop (i + 1))) := by
   intro b
   refine Ev.step (f := fun k => merge_Clean.j2 k l t o l (l.length : Int) (i : Int) (cleanF t b l[i]) l[i].f0 l[i].f1 l[i].f2 l[i].f3 l[i].f4) (fun k => ?_) (j2 _)
   simp only [merge_Clean.j1, cleanF]
   by_cases hc : l[i].f2 > t
   ·
    rw [if_pos hc, decide_eq_true hc, Bool.true_or]
   ·
    rw [if_neg hc, decide_eq_false hc, Bool.false_or]
    cases b with
    | true => rw [if_pos rfl, Bool.true_and]
    | false => rw [if_neg Bool.false_ne_true, Bool.false_and]
  by_cases h0 : i = 0
  ·
   subst h0
   rw [dif_neg (fun h => by omega)] at hp
   subst hp
   refine Ev.step (f := fun k => merge_Clean.j1 k l t o true l (l.length : Int) ((0 : Nat) : Int) l[0].f0 l[0].f1 l[0].f2 l[0].f3 l[0].f4) (fun k => ?_) (j1 true)
   simp only [merge_Clean.l0]
   rw [if_pos (by omega), if_pos (by omega), if_pos (by omega), if_pos (by omega), hr]
  ·
   rw [dif_pos ⟨by omega, by omega⟩] at hp
   subst hp
   have hr1 := rdC_at l (i - 1) (by omega)
   unfold rdC at hr1
   have hw1 : wrap64 ((i : Int) - 1) = ((i - 1 : Nat) : Int) := by rw [w64 (by omega) (by omega)]; omega
   refine Ev.step (f := fun k => merge_Clean.j1 k l t o (nwC t (some l[i - 1]) l[i]) l (l.length : Int) (i : Int) l[i].f0 l[i].f1 l[i].f2 l[i].f3 l[i].f4) (fun k => ?_) (j1 _)
   simp only [merge_Clean.l0]
   rw [if_pos (by omega), if_pos (by omega), if_pos (by omega), if_neg (by omega), hw1, if_pos (by omega), if_pos (by omega), hr, hr1, merge_same_eq, Option.bind_some]
   rw [show nwC t (some l[i - 1]) l[i] = (!(sameK l[i - 1] l[i]) || decide (l[i - 1].f2 > t)) from rfl]
   cases hs : sameK l[i - 1] l[i] with
   | true => rw [if_pos rfl, Bool.not_true, Bool.false_or]
   | false => rw [if_neg Bool.false_ne_true, Bool.not_false, Bool.true_or]
theorem merge_Clean_ev {l : List Cell} (t : Int) (hn : l.length ≤ 1000000000) (h : OrdC l) : Ev (fun k => merge_Clean.f k l t) (cleanC l t) := by
 unfold merge_Clean.f
 have := merge_Clean_l0 l t hn l.length 0 [] none (by omega) (by omega) (by simp) (by rw [dif_neg (fun h => by omega)])
 rw [List.drop_zero, List.nil_append, filt_clean t h] at this
 exact this
theorem merge_Visible_l0 (l : List Cell) (t : Int) (hn : l.length ≤ 1000000000) (d : Nat) : ∀ (i : Nat) (o : List Cell) (p : Option Cell), i ≤ l.length → l.length - i = d → o.length ≤ i → (p = if h : 0 < i ∧ i - 1 < l.length then some l[i - 1] else none) → Ev (fun k => merge_Visible.l0 k l t o l (l.length : Int) (i : Int)) (o ++ filtC (visF t) t p (l.drop i)) := by
 induction d with
 | zero =>
  intro i o p hi hd ho hp
  rw [List.drop_eq_nil_of_le (by omega)]
  refine Ev.step (f := fun _ => some o) (fun k => ?_) ((Ev.now _).to (by simp [filtC]))
  simp only [merge_Visible.l0]
  rw [if_neg (by omega)]
 | succ d ih =>
  intro i o p hi hd ho hp
  have hlt : i < l.length := by omega
  have hr := rdC_at l i hlt
  unfold rdC at hr
  have hw : wrap64 ((i : Int) + 1) = ((i + 1 : Nat) : Int) := by rw [w64 (by omega) (by omega)]; rfl
  rw [List.drop_eq_getElem_cons hlt, filtC_cons]
  have ih1 : ∀ o', o'.length ≤ i + 1 → Ev (fun k => merge_Visible.l0 k l t o' l (l.length : Int) ((i + 1 : Nat) : Int)) (o' ++ filtC (visF t) t (some l[i]) (l.drop (i + 1))) := fun o' ho' => ih (i + 1) o' (some l[i]) (by omega) (by omega) ho' (by rw [dif_pos ⟨by omega, by omega⟩]; rfl)
  have j2 : ∀ b : Bool, Ev (fun k => merge_Visible.j2 k l t o l (l.length : Int) (i : Int) b l[i].f0 l[i].f1 l[i].f2 l[i].f3 l[i].f4) (o ++ if b = true then l[i] :: filtC (visF t) t (some l[i]) (l.drop (i + 1)) else filtC (visF t) t (some l[i]) (l.drop (i + 1))) := by
   intro b
   cases b with
   | true =>
    refine Ev.step (f := fun k => merge_Visible.l0 k l t (o ++ [l[i]]) l (l.length : Int) ((i + 1 : Nat) : Int)) (fun k => ?_) ((ih1 (o ++ [l[i]]) (by rw [List.length_append]; simp; omega)).to (by simp))
    simp only [merge_Visible.j2, if_true]
    rw [if_pos (by omega), hw]
   | false =>
    refine Ev.step (f := fun k => merge_Visible.l0 k l t o l (l.length : Int) ((i + 1 : Nat) : Int)) (fun k => ?_) ((ih1 o (by omega)).to (by simp))
    simp only [merge_Visible.j2, Bool.false_eq_true, if_false]
    rw [hw]
  have j1 : ∀ b : Bool, Ev (fun k => merge_Visible.j1 k l t o b l (l.length : Int) (i : Int) l[i].f0 l[i].f1 l[i].f2 l[i].f3 l[i].f4) (o ++ if visF t b l[i] = true then l[i] :: filtC (visF t) t (some l[i]) (l.drop (i + 1)) else filtC (visF t) t (some l[i]) (l.drop (i + 1))) := by
   intro b
   refine Ev.step (f := fun k => merge_Visible.j2 k l t o l (l.length : Int) (i : Int) (visF t b l[i]) l[i].f0 l[i].f1 l[i].f2 l[i].f3 l[i].f4) (fun k => ?_) (j2 _)
   simp only [merge_Visible.j1, visF]
   by_cases hc : l[i].f2 ≤ t
   ·
    rw [if_pos hc, decide_eq_true hc, Bool.true_and]
    cases b with
    | true => rw [if_pos rfl, Bool.true_and]
    | false => rw [if_neg Bool.false_ne_true, Bool.false_and]
   ·
    rw [if_neg hc, decide_eq_false hc, Bool.false_and]
  by_cases h0 : i = 0
  ·
   subst h0
   rw [dif_neg (fun h => by omega)] at hp
   subst hp
   refine Ev.step (f := fun k => merge_Visible.j1 k l t o true l (l.length : Int) ((0 : Nat) : Int) l[0].f0 l[0].f1 l[0].f2 l[0].f3 l[0].f4) (fun k => ?_) (j1 true)
   simp only [merge_Visible.l0]
   rw [if_pos (by omega), if_pos (by omega), if_pos (by omega), if_pos (by omega), hr]
  ·
   rw [dif_pos ⟨by omega, by omega⟩] at hp
   subst hp
   have hr1 := rdC_at l (i - 1) (by omega)
   unfold rdC at hr1
   have hw1 : wrap64 ((i : Int) - 1) = ((i - 1 : Nat) : Int) := by rw [w64 (by omega) (by omega)]; omega
   refine Ev.step (f := fun k => merge_Visible.j1 k l t o (nwC t (some l[i - 1]) l[i]) l (l.length : Int) (i : Int) l[i].f0 l[i].f1 l[i].f2 l[i].f3 l[i].f4) (fun k => ?_) (j1 _)
   simp only [merge_Visible.l0]
   rw [if_pos (by omega), if_pos (by omega), if_pos (by omega), if_neg (by omega), hw1, if_pos (by omega), if_pos (by omega), hr, hr1, merge_same_eq, Option.bind_some]
   rw [show nwC t (some l[i - 1]) l[i] = (!(sameK l[i - 1] l[i]) || decide (l[i - 1].f2 > t)) from rfl]
   cases hs : sameK l[i - 1] l[i] with
   | true => rw [if_pos rfl, Bool.not_true, Bool.false_or]
   | false => rw [if_neg Bool.false_ne_true, Bool.not_false, Bool.true_or]
theorem merge_Visible_ev {l : List Cell} (t : Int) (hn : l.length ≤ 1000000000) (h : OrdC l) : Ev (fun k => merge_Visible.f k l t) (visC l t) := by
 unfold merge_Visible.f
 have := merge_Visible_l0 l t hn l.length 0 [] none (by omega) (by omega) (by simp) (by rw [dif_neg (fun h => by omega)])
 rw [List.drop_zero, List.nil_append, filt_vis t h] at this
 exact this
end Go.Proofs.Ythphffimgmbhgaa.Pl
