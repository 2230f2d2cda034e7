/- Cleaned, visible, by the reference. -/
import Derived.Test.YthphffimgmbhgaaQMerge
import Derived.Test.YthphffimgmbhgaaBRefCellsNew
import Derived.Test.YthphffimgmbhgaaXx8
namespace Go.Proofs.Ythphffimgmbhgaa.Pl
open Go.RowKit Go.Proofs.Ythphffimgmbhgaa.X Go.Proofs.YthphffimgmbhgaaW.PrintWords Go.Proofs.YthphffimgmbhgaaW.PrintLast Go.Proofs.YthphffimgmbhgaaW.PrintMore
theorem tupC_is (o : Option Cell) (x : Cell) : (if (tupC o).2.2.2.2.2 = true then some ((tupC o).1.toList == x.f0.toList && ((tupC o).2.1.toList == x.f1.toList && ((tupC o).2.2.1 == x.f2 && ((tupC o).2.2.2.1.toList == x.f3.toList && ((tupC o).2.2.2.2.1 == x.f4))))) else some false) = some (isC o x) := by
 cases o with
 | none => rfl
 | some y => rfl
theorem ref_newest_ev {l : List Cell} {x : Cell} (t : Int) (hs : SrtC l) (hn : l.length ≤ 1000000000) (hx : x ∈ l) : Ev (fun k => shardlogref13_newest.f k l x.f0 x.f1 x.f2 x.f3 x.f4 t) (decide (NewC l t x)) := by
 unfold shardlogref13_newest.f
 refine Ev.bind (ref_Newest_ev x.f0 x.f1 t hs hn) (Ev.eq ?_)
 rw [tupC_is]
 congr 1
 rw [Bool.eq_iff_iff, isC_iff, decide_eq_true_iff]
 exact find_new t hs.2 hx
theorem ref_Clean_l0 (l : List Cell) (t : Int) (hs : SrtC l) (hn : l.length ≤ 1000000000) (d : Nat) : ∀ (i : Nat) (o : List Cell), i ≤ l.length → l.length - i = d → o.length ≤ i → Ev (fun k => shardlogref13_Clean.l0 k l t o (i : Int)) (o ++ (l.drop i).filter (fun c => cleanF t (decide (NewC l t c)) c)) := by
 induction d with
 | zero =>
  intro i o hi hd ho
  rw [List.drop_eq_nil_of_le (by omega)]
  refine Ev.step (f := fun _ => some o) (fun k => ?_) ((Ev.now _).to (by simp))
  simp only [shardlogref13_Clean.l0]
  rw [if_neg (by omega)]
 | succ d ih =>
  intro i o hi hd ho
  have hlt : i < l.length := by omega
  have hr := rdC_at l i hlt
  unfold rdC at hr
  have hw : wrap64 ((i : Int) + 1) = ((i + 1 : Nat) : Int) := by rw [w64 (by omega) (by omega)]; rfl
  have hm : l[i] ∈ l := List.getElem_mem hlt
  rw [List.drop_eq_getElem_cons hlt, List.filter_cons]
  have go : ∀ b : Bool, Ev (fun k => if b = true then (if o.length < 2199023255552 then shardlogref13_Clean.l0 k l t (o ++ [l[i]]) ((i + 1 : Nat) : Int) else none) else shardlogref13_Clean.l0 k l t o ((i + 1 : Nat) : Int)) (o ++ if b = true then l[i] :: (l.drop (i + 1)).filter (fun c => cleanF t (decide (NewC l t c)) c) else (l.drop (i + 1)).filter (fun c => cleanF t (decide (NewC l t c)) c)) := by
   intro b
   cases b with
   | true => exact Ev.pos rfl (Ev.pos (by omega) ((ih (i + 1) (o ++ [l[i]]) (by omega) (by omega) (by rw [List.length_append]; simp; omega)).to (by simp)))
   | false => exact Ev.neg Bool.false_ne_true ((ih (i + 1) o (by omega) (by omega) (by omega)).to (by simp))
  by_cases hc : l[i].f2 > t
  ·
   refine Ev.step (f := fun k => if true = true then (if o.length < 2199023255552 then shardlogref13_Clean.l0 k l t (o ++ [l[i]]) ((i + 1 : Nat) : Int) else none) else shardlogref13_Clean.l0 k l t o ((i + 1 : Nat) : Int)) (fun k => ?_) ((go true).to ?_)
   ·
    simp only [shardlogref13_Clean.l0]
    rw [if_pos (by omega), if_pos (by omega), hr, if_pos hc, hw]
    rfl
   ·
    rw [show cleanF t (decide (NewC l t l[i])) l[i] = true by unfold cleanF; rw [decide_eq_true hc, Bool.true_or]]
  ·
   refine Ev.step (f := fun k => (shardlogref13_newest.f k l l[i].f0 l[i].f1 l[i].f2 l[i].f3 l[i].f4 t).bind fun b => if b = true then (if l[i].f4 = true then shardlogref13_Clean.l0 k l t o ((i + 1 : Nat) : Int) else (if o.length < 2199023255552 then shardlogref13_Clean.l0 k l t (o ++ [l[i]]) ((i + 1 : Nat) : Int) else none)) else shardlogref13_Clean.l0 k l t o ((i + 1 : Nat) : Int)) (fun k => by simp only [shardlogref13_Clean.l0]; rw [if_pos (by omega), if_pos (by omega), hr, if_neg hc, hw]) (Ev.bind (ref_newest_ev t hs hn hm) ?_)
   have hg := go (cleanF t (decide (NewC l t l[i])) l[i])
   refine Ev.congr (fun k => ?_) hg
   unfold cleanF
   rw [decide_eq_false hc, Bool.false_or]
   cases decide (NewC l t l[i]) with
   | false => rfl
   | true =>
    rw [if_pos rfl, Bool.true_and]
    by_cases h4 : l[i].f4 = true
    ·
     rw [if_pos h4, h4]
     rfl
    ·
     rw [if_neg h4, Bool.eq_false_iff.2 h4]
     rfl
theorem ref_Clean_ev {l : List Cell} (t : Int) (hs : SrtC l) (hn : l.length ≤ 1000000000) : Ev (fun k => shardlogref13_Clean.f k l t) (cleanC l t) := by
 unfold shardlogref13_Clean.f
 have := ref_Clean_l0 l t hs hn l.length 0 [] (by omega) (by omega) (by simp)
 rw [List.drop_zero, List.nil_append] at this
 exact this
theorem ref_Visible_l0 (l : List Cell) (t : Int) (hs : SrtC l) (hn : l.length ≤ 1000000000) (d : Nat) : ∀ (i : Nat) (o : List Cell), i ≤ l.length → l.length - i = d → o.length ≤ i → Ev (fun k => shardlogref13_Visible.l0 k l t o (i : Int)) (o ++ (l.drop i).filter (fun c => visF t (decide (NewC l t c)) c)) := by
 induction d with
 | zero =>
  intro i o hi hd ho
  rw [List.drop_eq_nil_of_le (by omega)]
  refine Ev.step (f := fun _ => some o) (fun k => ?_) ((Ev.now _).to (by simp))
  simp only [shardlogref13_Visible.l0]
  rw [if_neg (by omega)]
 | succ d ih =>
  intro i o hi hd ho
  have hlt : i < l.length := by omega
  have hr := rdC_at l i hlt
  unfold rdC at hr
  have hw : wrap64 ((i : Int) + 1) = ((i + 1 : Nat) : Int) := by rw [w64 (by omega) (by omega)]; rfl
  have hm : l[i] ∈ l := List.getElem_mem hlt
  rw [List.drop_eq_getElem_cons hlt, List.filter_cons]
  have go : ∀ b : Bool, Ev (fun k => if b = true then (if o.length < 2199023255552 then shardlogref13_Visible.l0 k l t (o ++ [l[i]]) ((i + 1 : Nat) : Int) else none) else shardlogref13_Visible.l0 k l t o ((i + 1 : Nat) : Int)) (o ++ if b = true then l[i] :: (l.drop (i + 1)).filter (fun c => visF t (decide (NewC l t c)) c) else (l.drop (i + 1)).filter (fun c => visF t (decide (NewC l t c)) c)) := by
   intro b
   cases b with
   | true => exact Ev.pos rfl (Ev.pos (by omega) ((ih (i + 1) (o ++ [l[i]]) (by omega) (by omega) (by rw [List.length_append]; simp; omega)).to (by simp)))
   | false => exact Ev.neg Bool.false_ne_true ((ih (i + 1) o (by omega) (by omega) (by omega)).to (by simp))
  refine Ev.step (f := fun k => (shardlogref13_newest.f k l l[i].f0 l[i].f1 l[i].f2 l[i].f3 l[i].f4 t).bind fun b => if b = true then (if l[i].f4 = true then shardlogref13_Visible.l0 k l t o ((i + 1 : Nat) : Int) else (if o.length < 2199023255552 then shardlogref13_Visible.l0 k l t (o ++ [l[i]]) ((i + 1 : Nat) : Int) else none)) else shardlogref13_Visible.l0 k l t o ((i + 1 : Nat) : Int)) (fun k => by simp only [shardlogref13_Visible.l0]; rw [if_pos (by omega), if_pos (by omega), hr, hw]) (Ev.bind (ref_newest_ev t hs hn hm) ?_)
  have hg := go (visF t (decide (NewC l t l[i])) l[i])
  refine Ev.congr (fun k => ?_) hg
  unfold visF
  by_cases hN : NewC l t l[i]
  ·
   rw [decide_eq_true hN, decide_eq_true hN.1, if_pos rfl, Bool.true_and, Bool.true_and]
   by_cases h4 : l[i].f4 = true
   ·
    rw [if_pos h4, h4]
    rfl
   ·
    rw [if_neg h4, Bool.eq_false_iff.2 h4]
    rfl
  ·
   rw [decide_eq_false hN, Bool.false_and, Bool.and_false]
   rfl
theorem ref_Visible_ev {l : List Cell} (t : Int) (hs : SrtC l) (hn : l.length ≤ 1000000000) : Ev (fun k => shardlogref13_Visible.f k l t) (visC l t) := by
 unfold shardlogref13_Visible.f
 have := ref_Visible_l0 l t hs hn l.length 0 [] (by omega) (by omega) (by simp)
 rw [List.drop_zero, List.nil_append] at this
 exact this
end Go.Proofs.Ythphffimgmbhgaa.Pl
