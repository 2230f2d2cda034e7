/- The pure statement of the law SlotBack. -/
import Derived.Test.YtpjnaihpkmacjaaBSlot
import Derived.Test.YtpjnaihpkmacjaaBRefNum
import Derived.KernelRfl
import Derived.Test.YtpjnaihpkmacjaaXx17
namespace Go.Proofs.Ytpjnaihpkmacjaa.Pure
open Go.RowKit Go.Proofs.Ytpjnaihpkmacjaa.X Go.Proofs.Ytpjnaihpkmacjaa.Pl Go.Proofs.YtpjnaihpkmacjaaW.PrintWords Go.Proofs.YtpjnaihpkmacjaaW.PrintLast
theorem awake : Ev (fun k => shardloglaw17_awake.f k) true := Ev.of (fun k => shardloglaw17_awake.mono k) (k := 50) (by kernel_rfl)
theorem back_true (a1 : Int) (l : List Int) (s b v : Int) (f : Bool) (t : ByteArray) : Ev (fun k => shardloglaw17_SlotBack.j0 k a1 l true s b v f t) true :=
  Ev.step (f := fun k => (shardloglaw17_awake.f k).bind fun t => some t) (fun k => by simp only [shardloglaw17_SlotBack.j0, if_true]) (Ev.bind awake (Ev.now _))
theorem back_j2 {l : List Int} (hb : Bytes l) (hl : l.length ≤ 2000) : Ev (fun k => shardloglaw17_SlotBack.j2 k l) true := by
  refine Ev.step (fun k => by simp only [shardloglaw17_SlotBack.j2]; rfl) (Ev.bind (slot_Get_ev hb (by omega)) ?_)
  rcases slotGet_cases l with ⟨n, h1, h2, h3⟩ | ⟨u, h1, h2, h3⟩ | h3
  · have hn := ballot_iff.1 h1
    rw [h3]
    have hp := slot_Promise_eq n
    rw [if_pos h1] at hp
    refine Ev.pos rfl (Ev.bind (Ev.eq (slot_Put_eq _ _ _ _ _)) (Ev.pos (by simp only [gotP]; omega) (Ev.bind (Ev.eq hp) ?_)))
    exact Ev.bind (Ev.eq (Same_eq h2.symm)) (Ev.now _)
  · rw [h3]
    have h1' := h1
    unfold rightV at h1'
    have hp := slot_Put_eq u.1 u.2.1 u.2.2.1 u.2.2.2.1 u.2.2.2.2
    rw [if_pos h1'] at hp
    refine Ev.pos rfl (Ev.bind (Ev.eq hp) (Ev.neg (by simp [gotV]) ?_))
    exact Ev.bind (Ev.eq (Same_eq h2.symm)) (Ev.now _)
  · rw [h3]
    exact Ev.neg (by simp [nothing]) (Ev.now _)
theorem back_j1 {a1 : Int} {l : List Int} (hb : Bytes l) (hl : l.length ≤ 2000) : Ev (fun k => shardloglaw17_SlotBack.j1 k a1 l) true := by
  refine Ev.step (fun k => by simp only [shardloglaw17_SlotBack.j1]; rfl) (Ev.bind (Ev.eq (slot_Promise_eq _)) ?_)
  by_cases h : ballot a1 = true
  · simp only [if_pos h]
    refine Ev.pos (by trivial) (Ev.bind (slot_Get_ev (bytes_promise a1) (by have := promise_length a1; omega)) ?_)
    rw [slotGet_promise h]
    exact Ev.pos rfl (Ev.pos rfl (Ev.neg (by simp [gotP, ByteArray.toList_eq]) (back_j2 hb hl)))
  · simp only [if_neg h]
    exact Ev.neg (by decide) (back_j2 hb hl)
theorem SlotBack : shardloglaw17_SlotBack.Pure := by
  intro s b v f t a1 l h1 h2 h3 h4 h5 h6
  obtain ⟨m1, m2, m3⟩ := h6
  have hb := Bytes.of_wf m3
  refine Ev.rounds ?_
  unfold shardloglaw17_SlotBack.f
  refine Ev.bind awake (Ev.pos rfl ?_)
  by_cases hs : (t.size : Int) > 1000
  · exact Ev.pos hs (back_true _ _ _ _ _ _ _)
  refine Ev.neg hs ?_
  by_cases hl : (l.length : Int) > 2000
  · rw [decide_eq_true hl]
    exact back_true _ _ _ _ _ _ _
  rw [decide_eq_false hl]
  refine Ev.step (fun k => by simp only [shardloglaw17_SlotBack.j0, Bool.false_eq_true, if_false]; rfl) (Ev.bind (Ev.eq (slot_Put_eq _ _ _ _ _)) ?_)
  by_cases h : right s b v t = true
  · simp only [if_pos h]
    have h6 := (right_iff.1 h).2.2.2.2.2
    have hg := slotGet_vote (u := (s, b, v, f, t)) h
    refine Ev.pos (by trivial) (Ev.bind (slot_Get_ev (bytes_vote s b v f t) (by have := vote_length s b v f t; omega)) ?_)
    have hg' : slotGet (vote s b v f t) = gotV (s, b, v, f, t) 0 := hg
    rw [hg']
    exact Ev.pos rfl (Ev.pos rfl (Ev.neg (by simp [gotV]) (back_j1 hb (by omega))))
  · simp only [if_neg h]
    exact Ev.neg (by decide) (back_j1 hb (by omega))
end Go.Proofs.Ytpjnaihpkmacjaa.Pure
