/- The newest cell: the printed functions answer the plain one. -/
import Derived.Test.YtpnbknhjnakehaaQCellsNew
import Derived.Test.YtpnbknhjnakehaaBCellsOrd
import Derived.Test.YtpnbknhjnakehaaXx17
import Derived.Test.YtpnbknhjnakehaaXx8
import Derived.Test.YtpnbknhjnakehaaXx9
namespace Go.Proofs.Ytpnbknhjnakehaa.Pl
open Go.RowKit Go.Proofs.Ytpnbknhjnakehaa.X Go.Proofs.YtpnbknhjnakehaaW.PrintWords Go.Proofs.YtpnbknhjnakehaaW.PrintLast Go.Proofs.YtpnbknhjnakehaaW.PrintMore
theorem u64w {x : Int} (h0 : 0 ≤ x) (h1 : x < 18446744073709551616) : IntKind.u64.wrap x = x := by
  unfold IntKind.wrap
  simp only [IntKind.signed, IntKind.bits, Bool.false_and, Bool.false_eq_true, if_false]
  omega
theorem find_l0 (l : List Cell) (t : Cell) (ho : OrdC l) (hn : l.length ≤ 1000000000) (d : Nat) : ∀ lo hi : Nat, hi - lo ≤ d → lo ≤ hi → hi ≤ l.length → (∀ j (_ : j < lo) (hl : j < l.length), cc l[j] t = -1) → (∀ j (_ : hi ≤ j) (hl : j < l.length), ¬ cc l[j] t = -1) →
    Ev (fun k => api_Cell.l0 k l (l.length : Int) (lo : Int) (hi : Int) t.f0 t.f1 t.f2 t.f3 t.f4) ((posC t l : Int), if h : posC t l < l.length then cc l[posC t l] t == 0 else false) := by
  induction d with
  | zero =>
    intro lo hi hd h1 h2 h3 h4
    have : lo = hi := by omega
    subst this
    have hp := posC_uniq t l lo h2 h3 (fun h => h4 lo (by omega) h)
    rw [hp]
    by_cases hl : lo < l.length
    · have hr := rdC_at l lo hl
      unfold rdC at hr
      rw [dif_pos hl]
      refine Ev.step (fun k => by simp only [api_Cell.l0]; rw [if_neg (by omega), if_pos (by omega), if_pos (by omega), if_pos (by omega), hr]) (Ev.bind (cell_CC_ev _ _) (Ev.now _))
    · rw [dif_neg hl]
      exact Ev.step (f := fun _ => some ((lo : Int), false)) (fun k => by simp only [api_Cell.l0]; rw [if_neg (by omega), if_neg (by omega)]) (Ev.now _)
  | succ d ih =>
    intro lo hi hd h1 h2 h3 h4
    by_cases hlt : lo < hi
    · have hm : wrap64 (IntKind.u64.wrap (wrap64 ((lo : Int) + (hi : Int))) / 2) = (((lo + hi) / 2 : Nat) : Int) := by
        rw [w64 (x := (lo : Int) + (hi : Int)) (by omega) (by omega), u64w (by omega) (by omega), w64 (by omega) (by omega)]
        omega
      have hml : (lo + hi) / 2 < l.length := by omega
      have hr := rdC_at l ((lo + hi) / 2) hml
      unfold rdC at hr
      refine Ev.step (fun k => by simp only [api_Cell.l0]; rw [if_pos (by omega), hm, if_pos (by omega), if_pos (by omega), hr]) (Ev.bind (cell_CC_ev _ _) ?_)
      have hin := cc_in l[(lo + hi) / 2] t
      by_cases hc : cc l[(lo + hi) / 2] t = -1
      · refine Ev.pos (by omega) ?_
        rw [w64 (by omega) (by omega)]
        refine ih ((lo + hi) / 2 + 1) hi (by omega) (by omega) h2 (fun j hj hl => ?_) h4
        by_cases hjm : j = (lo + hi) / 2
        · subst hjm; exact hc
        · exact cc_trans (List.pairwise_iff_getElem.1 ho j ((lo + hi) / 2) hl hml (by omega)) hc
      · refine Ev.neg (by omega) (ih lo ((lo + hi) / 2) (by omega) (by omega) (by omega) h3 (fun j hj hl => ?_))
        by_cases hjm : j = (lo + hi) / 2
        · subst hjm; exact hc
        · exact fun hjt => hc (cc_trans (List.pairwise_iff_getElem.1 ho ((lo + hi) / 2) j hml hl (by omega)) hjt)
    · exact ih lo hi (by omega) h1 h2 h3 h4
theorem find_ev {l : List Cell} (t : Cell) (ho : OrdC l) (hn : l.length ≤ 1000000000) : Ev (fun k => api_Cell.f k l t.f0 t.f1 t.f2 t.f3 t.f4) ((posC t l : Int), if h : posC t l < l.length then cc l[posC t l] t == 0 else false) := by
  unfold api_Cell.f
  exact find_l0 l t ho hn l.length 0 l.length (by omega) (by omega) (by omega) (fun j hj => by omega) (fun j hj hl => by omega)
theorem cell_Newest_ev {l : List Cell} (r c : ByteArray) (t : Int) (ho : OrdC l) (hn : l.length ≤ 1000000000) : Ev (fun k => cell_Newest.f k l r c t) (tupC (findC r c t l)) := by
  have jt : Ev (fun k => cell_Newest.j0 k l (posC (keyC r c t) l) true) (tupC none) := Ev.step (f := fun _ => some (tupC none)) (fun k => by simp only [cell_Newest.j0, if_true]; rfl) (Ev.now _)
  rw [find_pos r c t ho]
  unfold cell_Newest.f
  by_cases hp : posC (keyC r c t) l < l.length
  · rw [dif_pos hp]
    refine Ev.bind (find_ev (keyC r c t) ho hn) ?_
    have hr := rdC_at l _ hp
    unfold rdC at hr
    have jf : Ev (fun k => cell_Newest.j0 k l (posC (keyC r c t) l) false) (tupC (some l[posC (keyC r c t) l])) := Ev.step (f := fun _ => some (tupC (some l[posC (keyC r c t) l]))) (fun k => by simp only [cell_Newest.j0, Bool.false_eq_true, if_false]; rw [if_pos (by omega), if_pos (by omega), hr]; rfl) (Ev.now _)
    simp only
    rw [hr]
    refine Ev.neg (by omega) (Ev.pos (by omega) (Ev.pos (by omega) ?_))
    by_cases e1 : l[posC (keyC r c t) l].f0 = r
    · refine Ev.pos (by rw [e1]) ?_
      by_cases e2 : l[posC (keyC r c t) l].f1 = c
      · rw [if_pos ⟨e1, e2⟩, e2, bne_self_eq_false]
        exact jf
      · rw [if_neg (fun h => e2 h.2), show (l[posC (keyC r c t) l].f1.toList != c.toList) = true by simpa using fun h => e2 (toList_inj h)]
        exact jt
    · rw [if_neg (fun h => e1 h.1)]
      exact Ev.neg (fun h => e1 (toList_inj h)) jt
  · rw [dif_neg hp]
    have := posC_le (keyC r c t) l
    refine Ev.bind (find_ev (keyC r c t) ho hn) ?_
    simp only
    exact Ev.pos (by omega) jt
theorem ref_Newest_l0 (l : List Cell) (r c : ByteArray) (t : Int) (hn : l.length ≤ 1000000000) (d : Nat) : ∀ (i : Nat) (b : Cell), i ≤ l.length → l.length - i = d → Ev (fun k => shardlogref08_Newest.l0 k l r c t (i : Int) b.f0 b.f1 b.f2 b.f3 b.f4) (tupC (if (bestC r c t (l.drop i) b).f2 < 0 then none else some (bestC r c t (l.drop i) b))) := by
  induction d with
  | zero =>
    intro i b hi hd
    rw [List.drop_eq_nil_of_le (by omega)]
    refine Ev.step (f := fun _ => some (tupC (if b.f2 < 0 then none else some b))) (fun k => ?_) (Ev.now _)
    simp only [shardlogref08_Newest.l0]
    rw [if_neg (by omega)]
    split <;> rfl
  | succ d ih =>
    intro i b hi hd
    have hlt : i < l.length := by omega
    have hr := rdC_at l i hlt
    unfold rdC at hr
    rw [List.drop_eq_getElem_cons hlt]
    unfold bestC
    have hw : wrap64 ((i : Int) + 1) = ((i + 1 : Nat) : Int) := by rw [w64 (by omega) (by omega)]; rfl
    have hk : ∀ k, shardlogref08_Newest.l0 (k + 1) l r c t (i : Int) b.f0 b.f1 b.f2 b.f3 b.f4 = if l[i].f0 = r ∧ l[i].f1 = c ∧ l[i].f2 ≤ t ∧ l[i].f2 > b.f2 then shardlogref08_Newest.l0 k l r c t ((i + 1 : Nat) : Int) l[i].f0 l[i].f1 l[i].f2 l[i].f3 l[i].f4 else shardlogref08_Newest.l0 k l r c t ((i + 1 : Nat) : Int) b.f0 b.f1 b.f2 b.f3 b.f4 := by
      intro k
      simp only [shardlogref08_Newest.l0]
      rw [if_pos (by omega), if_pos (by omega), hr, hw]
      by_cases e1 : l[i].f0 = r
      · rw [if_pos (by rw [e1])]
        by_cases e2 : l[i].f1 = c
        · rw [if_pos (by rw [e2])]
          by_cases e3 : l[i].f2 ≤ t
          · rw [if_pos e3]
            by_cases e4 : l[i].f2 > b.f2
            · rw [if_pos e4, if_pos ⟨e1, e2, e3, e4⟩]
            · rw [if_neg e4, if_neg (fun h => e4 h.2.2.2)]
          · rw [if_neg e3, if_neg (fun h => e3 h.2.2.1)]
        · rw [if_neg (fun h => e2 (toList_inj h)), if_neg (fun h => e2 h.2.1)]
      · rw [if_neg (fun h => e1 (toList_inj h)), if_neg (fun h => e1 h.1)]
    by_cases hx : ofC r c t l[i] = true ∧ l[i].f2 > b.f2
    · rw [if_pos hx]
      obtain ⟨e1, e2, e3⟩ := ofC_iff.1 hx.1
      exact Ev.step (f := fun k => shardlogref08_Newest.l0 k l r c t ((i + 1 : Nat) : Int) l[i].f0 l[i].f1 l[i].f2 l[i].f3 l[i].f4) (fun k => by rw [hk, if_pos ⟨e1, e2, e3, hx.2⟩]) (ih (i + 1) l[i] (by omega) (by omega))
    · rw [if_neg hx]
      exact Ev.step (f := fun k => shardlogref08_Newest.l0 k l r c t ((i + 1 : Nat) : Int) b.f0 b.f1 b.f2 b.f3 b.f4) (fun k => by rw [hk, if_neg (fun h => hx ⟨ofC_iff.2 ⟨h.1, h.2.1, h.2.2.1⟩, h.2.2.2⟩)]) (ih (i + 1) b (by omega) (by omega))
theorem ref_Newest_ev {l : List Cell} (r c : ByteArray) (t : Int) (hs : SrtC l) (hn : l.length ≤ 1000000000) : Ev (fun k => shardlogref08_Newest.f k l r c t) (tupC (findC r c t l)) := by
  unfold shardlogref08_Newest.f
  have h := ref_Newest_l0 l r c t hn l.length 0 ⟨⟨#[]⟩, ⟨#[]⟩, -1, ⟨#[]⟩, false⟩ (by omega) (by omega)
  rw [List.drop_zero, bestC_find r c t _ rfl hs] at h
  refine h.to ?_
  cases hf : findC r c t l with
  | none => rfl
  | some x =>
    have hx := List.mem_of_find?_eq_some hf
    have h0 := (rightC_iff.1 (hs.1 x hx)).2.2.2.2.1
    show tupC (if x.f2 < 0 then none else some x) = _
    rw [if_neg (by omega)]
end Go.Proofs.Ytpnbknhjnakehaa.Pl
