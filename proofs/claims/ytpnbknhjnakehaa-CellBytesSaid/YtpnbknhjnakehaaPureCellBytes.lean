/- The pure statement of the law CellBytes. -/
import Derived.Test.YtpnbknhjnakehaaBRefCellCut
import Derived.Test.YtpnbknhjnakehaaBRefSame
import Derived.KernelRfl
import Derived.Test.YtpnbknhjnakehaaXx14
namespace Go.Proofs.Ytpnbknhjnakehaa.Pure
open Go.RowKit Go.Proofs.Ytpnbknhjnakehaa.X Go.Proofs.Ytpnbknhjnakehaa.Pl Go.Proofs.YtpnbknhjnakehaaW.PrintWords Go.Proofs.YtpnbknhjnakehaaW.PrintLast
theorem awake : Ev (fun k => shardloglaw08_awake.f k) true := Ev.of (fun k => shardloglaw08_awake.mono k) (k := 50) (by kernel_rfl)
theorem bytes_j1 {b : List Int} (hb : Bytes b) (hl : b.length ≤ 1000000) : Ev (fun k => shardloglaw08_CellBytes.j1 k b) true := by
  have hr : refCut b 0 = if (cutCell b).2.2.2.2.2.2 = true then ((cutCell b).1, (cutCell b).2.1, (cutCell b).2.2.1, (cutCell b).2.2.2.1, (cutCell b).2.2.2.2.1, (b.length : Int) - (cutCell b).2.2.2.2.2.1.length) else (⟨#[]⟩, ⟨#[]⟩, 0, ⟨#[]⟩, false, 0) := by
    unfold refCut
    rw [List.drop_zero, Nat.sub_zero]
  refine Ev.step (fun k => by simp only [shardloglaw08_CellBytes.j1]; rfl) (Ev.bind (cell_Cut_ev hb (by omega)) (Ev.bind (ref_CCut_ev hb (by omega) (i := 0) (by omega)) ?_))
  rw [hr]
  cases hc : (cutCell b).2.2.2.2.2.2 with
  | false =>
    rw [if_neg Bool.false_ne_true, cutCell_not hc]
    refine Ev.pos rfl (Ev.neg Bool.false_ne_true (Ev.pos (by simp [ByteArray.toList_eq]) ((Ev.now _).to rfl)))
  | true =>
    obtain ⟨n, h0, h1, h2⟩ := cutCell_rest (b := b) (i := 0) (by rw [List.drop_zero]; exact hc)
    rw [List.drop_zero, Nat.zero_add] at h2
    rw [if_pos rfl]
    simp only [h2]
    rw [List.length_drop]
    have e : ((b.length : Int) - ((b.length - n : Nat) : Int)) = (n : Int) := by omega
    rw [e]
    refine Ev.neg (by omega) (Ev.pos (by simp) (Ev.pos (by simp) (Ev.pos (by omega) (Ev.pos (by omega) ?_))))
    rw [Int.toNat_natCast]
    exact Ev.bind (Ev.eq (Same_eq rfl)) (Ev.now _)
theorem bytes_true (b : List Int) (r c : ByteArray) (t : Int) (v : ByteArray) (g : Bool) : Ev (fun k => shardloglaw08_CellBytes.j0 k b true r c t v g) true :=
  Ev.step (f := fun k => (shardloglaw08_awake.f k).bind fun t => some t) (fun k => by simp only [shardloglaw08_CellBytes.j0, if_true]) (Ev.bind awake (Ev.now _))
theorem CellBytes : shardloglaw08_CellBytes.Pure := by
  intro r c t v g b h1 h2 h3 h4 h5
  refine Ev.rounds ?_
  have hb := Bytes.of_wf h5.2.2
  unfold shardloglaw08_CellBytes.f
  refine Ev.bind awake (Ev.pos rfl ?_)
  by_cases hl : (b.length : Int) > 2000
  · exact Ev.pos hl (bytes_true _ _ _ _ _ _)
  refine Ev.neg hl ?_
  have hsm : ∃ s, shardloglaw08_small.f r c t v g = some s := by
    unfold shardloglaw08_small.f
    split
    · split <;> exact ⟨_, rfl⟩
    · exact ⟨_, rfl⟩
  obtain ⟨s, hs⟩ := hsm
  refine Ev.bind (Ev.eq hs) ?_
  cases s with
  | false => exact bytes_true _ _ _ _ _ _
  | true =>
    refine Ev.step (fun k => by simp only [shardloglaw08_CellBytes.j0, Bool.not_true, Bool.false_eq_true, if_false]; rfl) ?_
    refine Ev.bind (Ev.eq (ref_CRight_eq _ _ _ _ _)) ?_
    cases h : cellRight r c t v g with
    | false => exact Ev.neg Bool.false_ne_true (bytes_j1 hb (by omega))
    | true =>
      obtain ⟨_, z1, _, z2, _, _, z3, _⟩ := cellRight_iff.1 h
      have hlc := cellB_length r c t v g
      refine Ev.pos rfl (Ev.bind (Ev.eq (cell_Put_eq t g (by omega) (by omega) (by omega))) (Ev.bind (Ev.now _) ?_))
      refine Ev.pos (by simp only [List.length_nil]; omega) (Ev.bind (Ev.now _) ?_)
      rw [List.nil_append]
      refine Ev.pos (by omega) ?_
      have hbb : Bytes (cellB r c t v g ++ b) := (bytes_cellB r c t v g).append hb
      refine Ev.bind (cell_Cut_ev hbb (by rw [List.length_append]; omega)) ?_
      rw [cutCell_cellB h]
      refine Ev.bind (ref_CPut_ev t g (by omega) (by omega) (by omega)) ?_
      refine Ev.bind (Ev.eq (Same_eq rfl)) (Ev.pos rfl (Ev.pos rfl (Ev.neg (by simp) ?_)))
      exact Ev.bind (Ev.eq (Same_eq rfl)) (Ev.pos rfl (bytes_j1 hb (by omega)))
end Go.Proofs.Ytpnbknhjnakehaa.Pure
