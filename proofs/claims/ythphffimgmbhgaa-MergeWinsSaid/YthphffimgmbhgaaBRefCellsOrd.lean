/- Whether cells are sorted, by the reference. -/
import Derived.Test.YthphffimgmbhgaaBCells
import Derived.Test.YthphffimgmbhgaaQCellsChk
import Derived.Test.YthphffimgmbhgaaXx8
namespace Go.Proofs.Ythphffimgmbhgaa.Pl
open Go.RowKit Go.Proofs.Ythphffimgmbhgaa.X Go.Proofs.YthphffimgmbhgaaW.PrintWords Go.Proofs.YthphffimgmbhgaaW.PrintLast Go.Proofs.YthphffimgmbhgaaW.PrintMore
theorem ref_Sorted_l0 (l : List Cell) (hs : ∀ x ∈ l, SizedC x) (hn : l.length ≤ 140737488355328) (d : Nat) : ∀ i : Nat, i ≤ l.length → l.length - i = d → Ev (fun k => shardlogref08_Sorted.l0 k l (i : Int)) (sortedFrom l i d) := by
 induction d with
 | zero =>
  intro i hi hd
  refine Ev.step (f := fun _ => some true) (fun k => ?_) (Ev.now _)
  simp only [shardlogref08_Sorted.l0]
  rw [if_neg (by omega)]
 | succ d ih =>
  intro i hi hd
  have hlt : i < l.length := by omega
  have hr := rdC_at l i hlt
  unfold rdC at hr
  have jt : Ev (fun k => shardlogref08_Sorted.j1 k l (i : Int) true) false := Ev.step (f := fun _ => some false) (fun k => by simp only [shardlogref08_Sorted.j1, if_true]) (Ev.now _)
  have jf : Ev (fun k => shardlogref08_Sorted.j1 k l (i : Int) false) (sortedFrom l (i + 1) d) := Ev.step (f := fun k => shardlogref08_Sorted.l0 k l ((i + 1 : Nat) : Int)) (fun k => by simp only [shardlogref08_Sorted.j1, Bool.false_eq_true, if_false]; rw [w64 (by omega) (by omega)]; rfl) (ih (i + 1) (by omega) (by omega))
  unfold sortedFrom
  refine Ev.step (fun k => by simp only [shardlogref08_Sorted.l0]; rw [if_pos (by omega), if_pos (by omega), hr]) (Ev.bind (Ev.eq (ref_CRight_eq _ _ _ _ _)) ?_)
  by_cases hc : rightC l[i] = true
  ·
   refine Ev.pos hc ?_
   by_cases h0 : 0 < i
   ·
    have hr1 := rdC_at l (i - 1) (by omega)
    unfold rdC at hr1
    have hi1 : wrap64 ((i : Int) - 1) = ((i - 1 : Nat) : Int) := by rw [w64 (by omega) (by omega)]; omega
    refine Ev.pos (by omega) ?_
    rw [hi1, hr1, chkC_pos hlt h0, hc, Bool.true_and]
    refine Ev.pos (by omega) (Ev.pos (by omega) (Ev.bind (ref_CC_ev (hs _ (List.getElem_mem (by omega))) _) ?_))
    by_cases h1 : cc (l[i-1]'(by omega)) l[i] = -1
    ·
     rw [h1]
     exact jf
    ·
     rw [show (cc (l[i-1]'(by omega)) l[i] != -1) = true by simpa using h1, show (cc (l[i-1]'(by omega)) l[i] == -1) = false by simpa using h1, Bool.false_and]
     exact jt
   ·
    have : i = 0 := by omega
    subst this
    rw [chkC_zero hlt, hc, Bool.true_and]
    exact Ev.neg (by omega) jf
  ·
   have hc' : rightC l[i] = false := by simpa using hc
   refine Ev.neg hc (jt.to ?_)
   by_cases h0 : 0 < i
   ·
    rw [chkC_pos hlt h0, hc']
    rfl
   ·
    have : i = 0 := by omega
    subst this
    rw [chkC_zero hlt, hc']
    rfl
theorem ref_Sorted_ev {l : List Cell} (hs : ∀ x ∈ l, SizedC x) (hn : l.length ≤ 140737488355328) : Ev (fun k => shardlogref08_Sorted.f k l) (sortedC l) := by
 unfold shardlogref08_Sorted.f sortedC
 exact ref_Sorted_l0 l hs hn l.length 0 (by omega) (by omega)
end Go.Proofs.Ythphffimgmbhgaa.Pl
