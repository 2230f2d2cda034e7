/- The pure statement of the law WireCut: no beginning of a text, or of a list, is one that is whole. -/
import Derived.Test.YthoiimhokkfeaaaBWire
import Derived.Test.YthoiimhokkfeaaaBFew01
import Derived.KernelRfl
import Derived.Test.YthoiimhokkfeaaaXx21
namespace Go.Proofs.Ythoiimhokkfeaaa.Pure
open Go.RowKit Go.Proofs.Ythoiimhokkfeaaa.X Go.Proofs.Ythoiimhokkfeaaa.Pl Go.Proofs.YthoiimhokkfeaaaW.PrintWords Go.Proofs.YthoiimhokkfeaaaW.PrintLast
theorem awake : Ev (fun k => shardloglaw01_awake.f k) true := Ev.of (fun k => shardloglaw01_awake.mono k) (k := 50) (by kernel_rfl)
theorem cut_true (l0 : List ByteArray) (a1 : Int) : Ev (fun k => shardloglaw01_WireCut.j0 k l0 a1 true) true :=
  Ev.step (f := fun k => (shardloglaw01_awake.f k).bind fun t => some t) (fun k => by simp only [shardloglaw01_WireCut.j0, if_true]) (Ev.bind awake (Ev.now _))
/-- A beginning of n texts' bytes, not all of them, has not n texts. -/
theorem cutN_short : ∀ (l : List ByteArray) (m : Nat), (∀ s ∈ l, s.size ≤ 4294967295) → m < (l.map text).flatten.length → cutN l.length ((l.map text).flatten.take m) = none
  | [], m, _, h => by simp at h
  | s :: l, m, hs, h => by
    have hl := text_length (hs s (by simp))
    simp only [List.map_cons, List.flatten_cons, List.length_append] at h
    simp only [List.length_cons, cutN, List.map_cons, List.flatten_cons]
    by_cases hm : m < (text s).length
    · have hc : (cutText ((text s ++ (l.map text).flatten).take m)).2.2 = false := by
        rw [List.take_append_of_le_length (by omega)]
        unfold cutText
        by_cases h4 : ((text s).take m).length < 4
        · rw [if_pos h4]
        · rw [if_neg h4]
          have hlt : ((text s).take m).length = m := by rw [List.length_take]; omega
          have hv : val4 ((text s).take m) = s.size := by
            have h0 := val4_num (n := (s.size : Int)) (by omega) (by have := hs s (by simp); omega) ((bytesOf s).take (m - 4))
            have h1 : (text s).take m = num s.size ++ (bytesOf s).take (m - 4) := by
              rw [text, List.take_append, num_length (by omega) (by have := hs s (by simp); omega), List.take_of_length_le (by rw [num_length (by omega) (by have := hs s (by simp); omega)]; omega)]
            rw [h1, h0]
          rw [hv, if_pos (by omega)]
      rw [hc]
      simp
    · have hc : cutText ((text s ++ (l.map text).flatten).take m) = (s, (l.map text).flatten.take (m - (text s).length), true) := by
        rw [List.take_append, List.take_of_length_le (by omega)]
        exact cutText_text (hs s (by simp)) _
      rw [hc]
      simp only [if_true]
      rw [cutN_short l (m - (text s).length) (fun s hs' => hs s (by simp [hs'])) (by omega)]
      rfl
theorem cutTexts_short {l : List ByteArray} {m : Nat} (hl : l.length ≤ 4294967295) (hs : ∀ s ∈ l, s.size ≤ 4294967295) (h : m < (texts l).length) : (cutTexts ((texts l).take m)).2.2 = false := by
  have hn := num_length (n := (l.length : Int)) (by omega) (by omega)
  unfold cutTexts
  by_cases h4 : ((texts l).take m).length < 4
  · rw [if_pos h4]
  · rw [if_neg h4]
    have hlt : ((texts l).take m).length = m := by rw [List.length_take]; omega
    have h1 : (texts l).take m = num l.length ++ (l.map text).flatten.take (m - 4) := by
      rw [texts, List.take_append, hn, List.take_of_length_le (by omega)]
    have hv : val4 ((texts l).take m) = l.length := by rw [h1, val4_num (by omega) (by omega)]
    have hd : ((texts l).take m).drop 4 = (l.map text).flatten.take (m - 4) := by rw [h1, ← hn, List.drop_left]
    have hlen : (texts l).length = 4 + (l.map text).flatten.length := by rw [texts, List.length_append, hn]
    rw [hv, hd, Int.toNat_natCast, cutN_short l _ hs (by omega)]
theorem WireCut : shardloglaw01_WireCut.Pure := by
  intro l0 a1 h0 h1
  obtain ⟨m1, m2, m3⟩ := h0
  obtain ⟨n0, n1⟩ := wf_u16 h1
  refine Ev.rounds ?_
  unfold shardloglaw01_WireCut.f
  refine Ev.bind awake (Ev.pos rfl ?_)
  obtain ⟨r, he, hr⟩ := few01 m3 (by omega)
  refine Ev.bind he ?_
  cases r with
  | false => exact cut_true _ _
  | true =>
    obtain ⟨hr1, hr2⟩ := hr rfl
    have hb := texts_length_le l0
    have hb4 : 4 ≤ (texts l0).length := by rw [texts, List.length_append, num_length (by omega) (by omega)]; omega
    have hw : wrap64 a1 = a1 := w64 (by omega) (by omega)
    refine Ev.step (g := fun k => shardloglaw01_WireCut.j0 k l0 a1 false) (fun k => by simp only [shardloglaw01_WireCut.j0, Bool.false_eq_true, if_false]; rfl) ?_
    rw [hw]
    refine Ev.bind (wire_Texts_ev m3 (by omega) (by omega)) ?_
    have t1 : Int.tmod a1 ((texts l0).length : Int) = a1 % ((texts l0).length : Int) := Int.tmod_eq_emod_of_nonneg n0
    have e0 : 0 ≤ a1 % ((texts l0).length : Int) := Int.emod_nonneg _ (by omega)
    have e1 : a1 % ((texts l0).length : Int) < ((texts l0).length : Int) := Int.emod_lt_of_pos _ (by omega)
    rw [t1]
    refine Ev.neg (by omega) (Ev.pos e0 (Ev.pos (by omega) ?_))
    refine Ev.bind (wire_CutTexts_ev ((bytes_texts l0).take _) (by rw [List.length_take]; omega)) ?_
    have hf : (⟨#[102, 111, 117, 114]⟩ : ByteArray).size = 4 := rfl
    have hf8 : (text ⟨#[102, 111, 117, 114]⟩).length = 8 := text_length (s := ⟨#[102, 111, 117, 114]⟩) (by rw [hf]; omega)
    refine Ev.bind (Ev.eq (wire_Text_eq (by rw [hf]; omega))) ?_
    rw [hf8]
    have t2 : Int.tmod a1 ((8 : Nat) : Int) = a1 % 8 := Int.tmod_eq_emod_of_nonneg n0
    rw [t2]
    refine Ev.neg (by omega) (Ev.pos (by omega) (Ev.pos (by omega) ?_))
    refine Ev.bind (wire_CutText_ev ((bytes_text _).take _) (by rw [List.length_take, hf8]; omega)) ?_
    rw [cutTexts_short (by omega) (fun s hs' => by have := size_le_total hs'; omega) (by omega)]
    refine Ev.neg (by simp) ?_
    have hc : (cutText ((text ⟨#[102, 111, 117, 114]⟩).take (a1 % 8).toNat)).2.2 = false := by
      have h8 : ∀ m, m < 8 → (cutText ((text ⟨#[102, 111, 117, 114]⟩).take m)).2.2 = false := by decide
      exact h8 _ (by omega)
    rw [hc]
    exact Ev.now _
end Go.Proofs.Ythoiimhokkfeaaa.Pure
