/- The pure statement of the law SlotGets. -/
import Derived.Test.YtpjnaihpkmacjaaBSlot
import Derived.Test.YtpjnaihpkmacjaaBRefSlot
import Derived.KernelRfl
import Derived.Test.YtpjnaihpkmacjaaXx16
namespace Go.Proofs.Ytpjnaihpkmacjaa.Pure
open Go.RowKit Go.Proofs.Ytpjnaihpkmacjaa.X Go.Proofs.Ytpjnaihpkmacjaa.Pl Go.Proofs.YtpjnaihpkmacjaaW.PrintWords Go.Proofs.YtpjnaihpkmacjaaW.PrintLast
theorem awake : Ev (fun k => shardloglaw17_awake.f k) true := Ev.of (fun k => shardloglaw17_awake.mono k) (k := 50) (by kernel_rfl)
theorem gets_true (l0 : List Int) : Ev (fun k => shardloglaw17_SlotGets.j0 k l0 true) true :=
  Ev.step (f := fun k => (shardloglaw17_awake.f k).bind fun t => some t) (fun k => by simp only [shardloglaw17_SlotGets.j0, if_true]) (Ev.bind awake (Ev.now _))
theorem SlotGets : shardloglaw17_SlotGets.Pure := by
  intro b h0
  obtain ⟨m1, m2, m3⟩ := h0
  have hb := Bytes.of_wf m3
  refine Ev.rounds ?_
  unfold shardloglaw17_SlotGets.f
  refine Ev.bind awake (Ev.pos rfl ?_)
  by_cases hs : (b.length : Int) > 2000
  · rw [decide_eq_true hs]
    exact gets_true _
  rw [decide_eq_false hs]
  refine Ev.step (fun k => by simp only [shardloglaw17_SlotGets.j0, Bool.false_eq_true, if_false]; rfl) ?_
  refine Ev.bind (slot_Get_ev hb (by omega)) (Ev.bind (ref_Get_ev hb (by omega)) ?_)
  rcases refGet_cases hb with ⟨n, h1, h2, h3⟩ | ⟨u, h1, h2, h3⟩ | h3
  · rw [h3, h2, slotGet_promise h1]
    exact Ev.pos rfl (Ev.pos rfl (Ev.pos rfl ((Ev.now _).to (by simp [gotP]))))
  · rw [h3, h2, slotGet_vote h1]
    exact Ev.pos rfl (Ev.pos rfl (Ev.pos rfl ((Ev.now _).to (by simp [gotV]))))
  · rw [h3]
    refine Ev.neg (by simp [nothing]) ?_
    rcases slotGet_cases b with ⟨n, g1, g2, g3⟩ | ⟨u, g1, g2, g3⟩ | g3
    · rw [g2, refGet_promise g1] at h3
      simp [gotP, nothing] at h3
    · rw [g2, refGet_vote g1] at h3
      simp [gotV, nothing] at h3
    · rw [g3]
      exact Ev.pos rfl (Ev.pos rfl ((Ev.now _).to (by simp [nothing, ByteArray.toList_eq])))
end Go.Proofs.Ytpjnaihpkmacjaa.Pure
