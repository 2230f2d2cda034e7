/- The newest of a row and column up to a time, by the reference. -/
import Derived.Test.YthphffimgmbhgaaQCellsNew
import Derived.Test.YthphffimgmbhgaaBCells
import Derived.Test.YthphffimgmbhgaaXx8
namespace Go.Proofs.Ythphffimgmbhgaa.Pl
open Go.RowKit Go.Proofs.Ythphffimgmbhgaa.X Go.Proofs.YthphffimgmbhgaaW.PrintWords Go.Proofs.YthphffimgmbhgaaW.PrintLast Go.Proofs.YthphffimgmbhgaaW.PrintMore
theorem ref_Newest_l0 (l : List Cell) (r c : ByteArray) (t : Int) (hn : l.length ≤ 1000000000) (d : Nat) : ∀ (i : Nat) (b : Cell), i ≤ l.length → l.length - i = d → Ev (fun k => shardlogref08_Newest.l0 k l r c t (i : Int) b.f0 b.f1 b.f2 b.f3 b.f4) (tupC (if (bestC r c t (l.drop i) b).f2 < 0 then none else some (bestC r c t (l.drop i) b))) := by
 induction d with
 | zero =>
  intro i b hi hd
  rw [List.drop_eq_nil_of_le (by omega)]
  refine Ev.step (f := fun _ => some (tupC (if b.f2 < 0 then none else some b))) (fun k => ?_) (Ev.now _)
  simp only [shardlogref08_Newest.l0]
  rw [if_neg (by omega)]
  split <;> rfl
 | succ d ih =>
  intro i b hi hd
  have hlt : i < l.length := by omega
  have hr := rdC_at l i hlt
  unfold rdC at hr
  rw [List.drop_eq_getElem_cons hlt]
  unfold bestC
  have hw : wrap64 ((i : Int) + 1) = ((i + 1 : Nat) : Int) := by rw [w64 (by omega) (by omega)]; rfl
  have hk : ∀ k, shardlogref08_Newest.l0 (k + 1) l r c t (i : Int) b.f0 b.f1 b.f2 b.f3 b.f4 = if l[i].f0 = r ∧ l[i].f1 = c ∧ l[i].f2 ≤ t ∧ l[i].f2 > b.f2 then shardlogref08_Newest.l0 k l r c t ((i + 1 : Nat) : Int) l[i].f0 l[i].f1 l[i].f2 l[i].f3 l[i].f4 else shardlogref08_Newest.l0 k l r c t ((i + 1 : Nat) : Int) b.f0 b.f1 b.f2 b.f3 b.f4 := by
   intro k
   simp only [shardlogref08_Newest.l0]
   rw [if_pos (by omega), if_pos (by omega), hr, hw]
   by_cases e1 : l[i].f0 = r
   ·
    rw [if_pos (by rw [e1])]
    by_cases e2 : l[i].f1 = c
    ·
     rw [if_pos (by rw [e2])]
     by_cases e3 : l[i].f2 ≤ t
     ·
      rw [if_pos e3]
      by_cases e4 : l[i].f2 > b.f2
      ·
       rw [if_pos e4, if_pos ⟨e1, e2, e3, e4⟩]
      ·
       rw [if_neg e4, if_neg (fun h => e4 h.2.2.2)]
     ·
      rw [if_neg e3, if_neg (fun h => e3 h.2.2.1)]
    ·
     rw [if_neg (fun h => e2 (toList_inj h)), if_neg (fun h => e2 h.2.1)]
   ·
    rw [if_neg (fun h => e1 (toList_inj h)), if_neg (fun h => e1 h.1)]
  by_cases hx : ofC r c t l[i] = true ∧ l[i].f2 > b.f2
  ·
   rw [if_pos hx]
   obtain ⟨e1, e2, e3⟩ := ofC_iff.1 hx.1
   exact Ev.step (f := fun k => shardlogref08_Newest.l0 k l r c t ((i + 1 : Nat) : Int) l[i].f0 l[i].f1 l[i].f2 l[i].f3 l[i].f4) (fun k => by rw [hk, if_pos ⟨e1, e2, e3, hx.2⟩]) (ih (i + 1) l[i] (by omega) (by omega))
  ·
   rw [if_neg hx]
   exact Ev.step (f := fun k => shardlogref08_Newest.l0 k l r c t ((i + 1 : Nat) : Int) b.f0 b.f1 b.f2 b.f3 b.f4) (fun k => by rw [hk, if_neg (fun h => hx ⟨ofC_iff.2 ⟨h.1, h.2.1, h.2.2.1⟩, h.2.2.2⟩)]) (ih (i + 1) b (by omega) (by omega))
theorem ref_Newest_ev {l : List Cell} (r c : ByteArray) (t : Int) (hs : SrtC l) (hn : l.length ≤ 1000000000) : Ev (fun k => shardlogref08_Newest.f k l r c t) (tupC (findC r c t l)) := by
 unfold shardlogref08_Newest.f
 have h := ref_Newest_l0 l r c t hn l.length 0 ⟨⟨#[]⟩, ⟨#[]⟩, -1, ⟨#[]⟩, false⟩ (by omega) (by omega)
 rw [List.drop_zero, bestC_find r c t _ rfl hs] at h
 refine h.to ?_
 cases hf : findC r c t l with
 | none => rfl
 | some x =>
  have hx := List.mem_of_find?_eq_some hf
  have h0 := (rightC_iff.1 (hs.1 x hx)).2.2.2.2.1
  show tupC (if x.f2 < 0 then none else some x) = _
  rw [if_neg (by omega)]
end Go.Proofs.Ythphffimgmbhgaa.Pl
