/- The pure statement of the law SlotPuts. -/
import Derived.Test.YtpjnaihpkmacjaaBSlot
import Derived.Test.YtpjnaihpkmacjaaBRefSlot
import Derived.KernelRfl
import Derived.Test.YtpjnaihpkmacjaaXx13
namespace Go.Proofs.Ytpjnaihpkmacjaa.Pure
open Go.RowKit Go.Proofs.Ytpjnaihpkmacjaa.X Go.Proofs.Ytpjnaihpkmacjaa.Pl Go.Proofs.YtpjnaihpkmacjaaW.PrintWords Go.Proofs.YtpjnaihpkmacjaaW.PrintLast
theorem awake : Ev (fun k => shardloglaw17_awake.f k) true := Ev.of (fun k => shardloglaw17_awake.mono k) (k := 50) (by kernel_rfl)
theorem puts_true (a1 : Int) (s b v : Int) (f : Bool) (t : ByteArray) : Ev (fun k => shardloglaw17_SlotPuts.j0 k a1 true s b v f t) true :=
  Ev.step (f := fun k => (shardloglaw17_awake.f k).bind fun t => some t) (fun k => by simp only [shardloglaw17_SlotPuts.j0, if_true]) (Ev.bind awake (Ev.now _))
theorem puts_j2 (s b v : Int) (f : Bool) (t : ByteArray) : Ev (fun k => shardloglaw17_SlotPuts.j2 k (if right s b v t = true then (vote s b v f t, (0 : Int)) else ([], 1)).1 (if right s b v t = true then (vote s b v f t, (0 : Int)) else ([], 1)).2 s b v f t) true := by
  refine Ev.step (fun k => by simp only [shardloglaw17_SlotPuts.j2]; rfl) ?_
  refine Ev.bind (Ev.eq (slot_Right_eq _ _ _ _ _)) (Ev.bind (Ev.eq (ref_Right_eq _ _ _ _ _)) (Ev.neg (by simp) (Ev.bind (Ev.eq (ref_Right_eq _ _ _ _ _)) ?_)))
  by_cases h : right s b v t = true
  · have h6 := (right_iff.1 h).2.2.2.2.2
    simp only [if_pos h]
    exact Ev.pos (by trivial) (Ev.bind (ref_Put_ev (t := t) (by omega)) (Ev.bind (Ev.eq (Same_eq rfl)) (Ev.now _)))
  · simp only [if_neg h]
    exact Ev.pos (by trivial) (Ev.now _)
theorem SlotPuts : shardloglaw17_SlotPuts.Pure := by
  intro s b v f t a1 h1 h2 h3 h4 h5
  refine Ev.rounds ?_
  unfold shardloglaw17_SlotPuts.f
  refine Ev.bind awake (Ev.pos rfl ?_)
  by_cases hs : (t.size : Int) > 1000
  · rw [decide_eq_true hs]
    exact puts_true _ _ _ _ _ _
  rw [decide_eq_false hs]
  refine Ev.step (fun k => by simp only [shardloglaw17_SlotPuts.j0, Bool.false_eq_true, if_false]; rfl) ?_
  refine Ev.bind (Ev.eq (slot_Put_eq _ _ _ _ _)) (Ev.bind (Ev.eq (slot_Promise_eq _)) ?_)
  have hj := puts_j2 s b v f t
  have hno : ballot a1 = false → Ev (fun k => shardloglaw17_SlotPuts.j1 k a1 (if right s b v t = true then (vote s b v f t, (0 : Int)) else ([], 1)).1 (if right s b v t = true then (vote s b v f t, (0 : Int)) else ([], 1)).2 (if ballot a1 = true then (promise a1, (0 : Int)) else ([], 1)).1 (if ballot a1 = true then (promise a1, (0 : Int)) else ([], 1)).2 false s b v f t) true := by
    intro hb
    simp only [if_neg (show ¬ ballot a1 = true by simp [hb])]
    refine Ev.step (fun k => by simp only [shardloglaw17_SlotPuts.j1, Bool.false_eq_true, if_false]; rfl) ?_
    exact Ev.pos (by trivial) (Ev.pos rfl hj)
  by_cases hb : ballot a1 = true
  · have hb' := ballot_iff.1 hb
    refine Ev.pos (by omega) ?_
    rw [decide_eq_true hb'.2]
    simp only [if_pos hb]
    refine Ev.step (fun k => by simp only [shardloglaw17_SlotPuts.j1, if_true]; rfl) ?_
    exact Ev.bind (Ev.eq (ref_Promise_eq _)) (Ev.bind (Ev.eq (Same_eq rfl)) (Ev.pos rfl hj))
  · have hb2 : ballot a1 = false := by simpa using hb
    by_cases hg : a1 ≥ 1
    · refine Ev.pos hg ?_
      have : ¬ a1 ≤ 2147483647 := fun hm => hb (ballot_iff.2 ⟨hg, hm⟩)
      rw [decide_eq_false this]
      exact hno hb2
    · exact Ev.neg hg (hno hb2)
end Go.Proofs.Ytpjnaihpkmacjaa.Pure
