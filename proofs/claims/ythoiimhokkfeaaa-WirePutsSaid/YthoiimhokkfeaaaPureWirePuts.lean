/- The pure statement of the law WirePuts: of whatever number and texts the printed functions of wire and of its reference answer the same bytes. -/
import Derived.Test.YthoiimhokkfeaaaBWire
import Derived.Test.YthoiimhokkfeaaaBRefTexts
import Derived.Test.YthoiimhokkfeaaaBFew01
import Derived.KernelRfl
import Derived.Test.YthoiimhokkfeaaaXx14
namespace Go.Proofs.Ythoiimhokkfeaaa.Pure
open Go.RowKit Go.Proofs.Ythoiimhokkfeaaa.X Go.Proofs.Ythoiimhokkfeaaa.Pl Go.Proofs.YthoiimhokkfeaaaW.PrintWords Go.Proofs.YthoiimhokkfeaaaW.PrintLast
theorem awake : Ev (fun k => shardloglaw01_awake.f k) true := Ev.of (fun k => shardloglaw01_awake.mono k) (k := 50) (by kernel_rfl)
theorem puts_true (a0 : Int) (a1 : ByteArray) (l2 : List ByteArray) : Ev (fun k => shardloglaw01_WirePuts.j0 k a0 a1 l2 true) true :=
  Ev.step (f := fun k => (shardloglaw01_awake.f k).bind fun t => some t) (fun k => by simp only [shardloglaw01_WirePuts.j0, if_true]) (Ev.bind awake (Ev.now _))
theorem WirePuts : shardloglaw01_WirePuts.Pure := by
  intro a0 a1 l2 h0 h1 h2
  obtain ⟨m1, m2, m3⟩ := h2
  refine Ev.rounds ?_
  unfold shardloglaw01_WirePuts.f
  refine Ev.bind awake (Ev.pos rfl ?_)
  by_cases hs : (a1.size : Int) > 3000
  · exact Ev.pos hs (puts_true _ _ _)
  · refine Ev.neg hs ?_
    obtain ⟨r, he, hr⟩ := few01 m3 (by omega)
    refine Ev.bind he ?_
    cases r with
    | false => exact puts_true _ _ _
    | true =>
      obtain ⟨hr1, hr2⟩ := hr rfl
      have hb := texts_length_le l2
      refine Ev.step (g := fun k => shardloglaw01_WirePuts.j0 k a0 a1 l2 false) (fun k => by simp only [shardloglaw01_WirePuts.j0, Bool.false_eq_true, if_false]; rfl) ?_
      refine Ev.bind (Ev.eq (wire_Num_eq a0)) (Ev.bind (Ev.eq (ref_Num_eq a0)) (Ev.bind (Ev.eq (Same_eq rfl)) (Ev.pos rfl ?_)))
      refine Ev.bind (Ev.eq (wire_Text_eq h1)) (Ev.bind (Ev.eq (ref_Text_eq h1)) (Ev.bind (Ev.eq (Same_eq rfl)) (Ev.pos rfl ?_)))
      exact Ev.bind (wire_Texts_ev m3 (by omega) (by omega)) (Ev.bind (ref_Texts_ev m3 (by omega) (by omega)) (Ev.bind (Ev.eq (Same_eq rfl)) (Ev.now _)))
end Go.Proofs.Ythoiimhokkfeaaa.Pure
