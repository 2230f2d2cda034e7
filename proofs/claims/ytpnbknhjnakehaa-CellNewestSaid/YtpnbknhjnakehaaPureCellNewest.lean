/- The pure statement of the law CellNewest. -/
import Derived.Test.YtpnbknhjnakehaaBCellsNew
import Derived.KernelRfl
import Derived.Test.YtpnbknhjnakehaaXx19
namespace Go.Proofs.Ytpnbknhjnakehaa.Pure
open Go.RowKit Go.Proofs.Ytpnbknhjnakehaa.X Go.Proofs.Ytpnbknhjnakehaa.Pl Go.Proofs.YtpnbknhjnakehaaW.PrintWords Go.Proofs.YtpnbknhjnakehaaW.PrintLast
theorem awake : Ev (fun k => shardloglaw08_awake.f k) true := Ev.of (fun k => shardloglaw08_awake.mono k) (k := 50) (by kernel_rfl)
theorem newest_true (l : List Cell) (r c : ByteArray) (t : Int) : Ev (fun k => shardloglaw08_CellNewest.j0 k l r c t true) true :=
  Ev.step (f := fun k => (shardloglaw08_awake.f k).bind fun t => some t) (fun k => by simp only [shardloglaw08_CellNewest.j0, if_true]) (Ev.bind awake (Ev.now _))
theorem tup_same (x : Option Cell) : ((tupC x).1.toList == (tupC x).1.toList && ((tupC x).2.1.toList == (tupC x).2.1.toList && ((tupC x).2.2.1 == (tupC x).2.2.1 && ((tupC x).2.2.2.1.toList == (tupC x).2.2.2.1.toList && ((tupC x).2.2.2.2.1 == (tupC x).2.2.2.2.1))))) = true := by simp
theorem newest_false {l : List Cell} (r c : ByteArray) (t : Int) (h : fewC l = true) : Ev (fun k => shardloglaw08_CellNewest.j0 k l r c t false) true := by
  obtain ⟨hn, hr⟩ := fewC_iff.1 h
  have hz : ∀ x ∈ l, SizedC x := fun x hx => sized_of_right (hr x hx)
  have hs := sortC_srt hr
  have hl := sortC_length l
  refine Ev.step (fun k => by simp only [shardloglaw08_CellNewest.j0, Bool.false_eq_true, if_false]; rfl) (Ev.bind (ref_Sort_ev hz (by omega)) (Ev.bind (cell_Newest_ev r c t hs.2 (by omega)) (Ev.bind (ref_Newest_ev r c t hs (by omega)) (Ev.bind (cell_Sorted_ev (l := l) (by omega)) (Ev.bind (ref_Sorted_ev (l := l) hz (by omega)) ?_)))))
  refine Ev.pos (by simp) (Ev.bind (cell_Sorted_ev (l := sortC l) (by omega)) (Ev.pos (sortedC_iff.2 hs) ?_))
  refine Ev.pos (by simp) ?_
  exact Ev.eq (congrArg some (tup_same _))
theorem CellNewest : shardloglaw08_CellNewest.Pure := by
  intro l r c t h1 h2 h3 h4
  refine Ev.rounds ?_
  unfold shardloglaw08_CellNewest.f
  refine Ev.bind awake (Ev.pos rfl (Ev.bind ref_Few_ev ?_))
  by_cases h : fewC l = true
  · refine Ev.pos h ?_
    by_cases hr : (r.size : Int) > 100
    · exact Ev.pos hr (newest_true _ _ _ _)
    · refine Ev.neg hr ?_
      by_cases hc : (c.size : Int) > 100
      · rw [decide_eq_true hc]
        exact newest_true _ _ _ _
      · rw [decide_eq_false hc]
        exact newest_false r c t h
  · exact Ev.neg h (newest_true _ _ _ _)
end Go.Proofs.Ytpnbknhjnakehaa.Pure
