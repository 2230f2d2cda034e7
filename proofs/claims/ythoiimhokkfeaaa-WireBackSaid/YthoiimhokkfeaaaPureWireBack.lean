/- The pure statement of the law WireBack: what is put, one behind the other, is cut off again as it was, whatever stands behind. -/
import Derived.Test.YthoiimhokkfeaaaBWire
import Derived.Test.YthoiimhokkfeaaaBRefNum
import Derived.Test.YthoiimhokkfeaaaBFew01
import Derived.KernelRfl
import Derived.Test.YthoiimhokkfeaaaXx20
namespace Go.Proofs.Ythoiimhokkfeaaa.Pure
open Go.RowKit Go.Proofs.Ythoiimhokkfeaaa.X Go.Proofs.Ythoiimhokkfeaaa.Pl Go.Proofs.YthoiimhokkfeaaaW.PrintWords Go.Proofs.YthoiimhokkfeaaaW.PrintLast
theorem awake : Ev (fun k => shardloglaw01_awake.f k) true := Ev.of (fun k => shardloglaw01_awake.mono k) (k := 50) (by kernel_rfl)
theorem back_true (a0 : Int) (a1 : ByteArray) (l2 : List ByteArray) (l3 : List Int) : Ev (fun k => shardloglaw01_WireBack.j0 k a0 a1 l2 l3 true) true :=
  Ev.step (f := fun k => (shardloglaw01_awake.f k).bind fun t => some t) (fun k => by simp only [shardloglaw01_WireBack.j0, if_true]) (Ev.bind awake (Ev.now _))
theorem WireBack : shardloglaw01_WireBack.Pure := by
  intro a0 a1 l2 l3 h0 h1 h2 h3
  obtain ⟨m1, m2, m3⟩ := h2
  obtain ⟨q1, q2, q3⟩ := h3
  have hb3 := Bytes.of_wf q3
  obtain ⟨n0, n1⟩ := wf_u32 h0
  refine Ev.rounds ?_
  unfold shardloglaw01_WireBack.f
  refine Ev.bind awake (Ev.pos rfl ?_)
  by_cases hs : (a1.size : Int) > 3000
  · exact Ev.pos hs (back_true _ _ _ _)
  refine Ev.neg hs ?_
  obtain ⟨r, he, hr⟩ := few01 m3 (by omega)
  refine Ev.bind he ?_
  cases r with
  | false => exact Ev.neg (by simp) (back_true _ _ _ _)
  | true =>
    refine Ev.pos rfl ?_
    by_cases hm : (l3.length : Int) > 500
    · rw [decide_eq_true hm]
      exact back_true _ _ _ _
    rw [decide_eq_false hm]
    obtain ⟨hr1, hr2⟩ := hr rfl
    have hb := texts_length_le l2
    have ht := text_length (s := a1) (by omega)
    have hn := num_length n0 (show a0 ≤ 4294967295 by omega)
    have hw : wrap64 a0 = a0 := w64 (by omega) (by omega)
    refine Ev.step (fun k => by simp only [shardloglaw01_WireBack.j0, Bool.false_eq_true, if_false]; rfl) ?_
    rw [hw]
    refine Ev.bind (Ev.now _) (Ev.bind (Ev.eq (wire_Num_eq a0)) (Ev.pos (by simp only [List.length_nil]; omega) ?_))
    refine Ev.bind (Ev.now _) (Ev.bind (Ev.eq (wire_Text_eq h1)) (Ev.pos (by simp only [List.nil_append]; omega) ?_))
    refine Ev.bind (Ev.now _) (Ev.bind (wire_Texts_ev m3 (by omega) (by omega)) (Ev.pos (by simp only [List.nil_append, List.length_append]; omega) ?_))
    refine Ev.bind (Ev.now _) (Ev.pos (by simp only [List.nil_append, List.length_append]; omega) ?_)
    have hall : Bytes ([] ++ num a0 ++ text a1 ++ texts l2 ++ l3) := (((Bytes.nil.append (bytes_num _)).append (bytes_text _)).append (bytes_texts _)).append hb3
    have hlen : ([] ++ num a0 ++ text a1 ++ texts l2 ++ l3).length ≤ 20000 := by simp only [List.nil_append, List.length_append]; omega
    refine Ev.bind (wire_CutNum_ev hall (by omega)) ?_
    rw [show ([] ++ num a0 ++ text a1 ++ texts l2 ++ l3) = num a0 ++ (text a1 ++ (texts l2 ++ l3)) by simp, cutNum_num n0 (by omega)]
    refine Ev.bind (wire_CutText_ev ((bytes_text _).append ((bytes_texts _).append hb3)) (by simp only [List.length_append]; omega)) ?_
    rw [cutText_text (by omega)]
    refine Ev.bind (wire_CutTexts_ev ((bytes_texts _).append hb3) (by simp only [List.length_append]; omega)) ?_
    rw [cutTexts_texts (by omega) (fun s hs' => by have := size_le_total hs'; omega)]
    refine Ev.pos rfl (Ev.pos rfl (Ev.pos rfl (Ev.pos rfl (Ev.pos rfl ?_))))
    exact Ev.bind (Strings_ev rfl (by show l2.length ≤ _; omega)) (Ev.pos rfl (Ev.bind (Ev.eq (Same_eq rfl)) (Ev.now _)))
end Go.Proofs.Ythoiimhokkfeaaa.Pure
