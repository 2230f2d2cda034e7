/- The reference's lists of texts. -/
import Derived.Test.YthoiimhokkfeaaaBRefText
import Derived.Test.YthoiimhokkfeaaaXx13
namespace Go.Proofs.Ythoiimhokkfeaaa.Pl
open Go.RowKit Go.Proofs.Ythoiimhokkfeaaa.X Go.Proofs.YthoiimhokkfeaaaW.PrintWords Go.Proofs.YthoiimhokkfeaaaW.PrintLast Go.Proofs.YthoiimhokkfeaaaW.PrintMore
theorem rdOf_lt' {α : Type} (d : α) (l : List α) (i : Nat) (h : i < l.length) : rdOf d l (i : Int) = l[i] := by
  simp [rdOf, List.getD_eq_getElem?_getD, List.getElem?_eq_getElem h]
theorem ref_Texts_l0 (l : List ByteArray) (hs : ∀ s ∈ l, s.size ≤ 140737488351232) (hl : l.length ≤ 140737488351232) (d : Nat) : ∀ (i : Nat) (acc : List Int), i ≤ l.length → l.length - i = d → acc.length + ((l.drop i).map text).flatten.length < 140737488355328 →
    Ev (fun k => shardlogref01_Texts.l0 k l acc (i : Int)) (acc ++ ((l.drop i).map text).flatten) := by
  induction d with
  | zero =>
    intro i acc hi hd hb
    have : i = l.length := by omega
    subst this
    refine Ev.step (f := fun _ => some acc) (fun k => ?_) ?_
    · simp only [shardlogref01_Texts.l0]
      rw [if_neg (by omega)]
    · simpa using Ev.now acc
  | succ d ih =>
    intro i acc hi hd hb
    have hlt : i < l.length := by omega
    have hdr : l.drop i = l[i] :: l.drop (i + 1) := List.drop_eq_getElem_cons hlt
    rw [hdr] at hb ⊢
    simp only [List.map_cons, List.flatten_cons, List.length_append] at hb
    refine Ev.step (f := fun k => shardlogref01_Texts.l0 k l (acc ++ text l[i]) ((i + 1 : Nat) : Int)) (fun k => ?_) ?_
    · simp only [shardlogref01_Texts.l0]
      rw [if_pos (by omega), if_pos (by omega), rdOf_lt' _ _ _ hlt, ref_Text_eq (hs _ (List.getElem_mem hlt))]
      simp only [Option.bind_some]
      rw [if_pos (by omega), w64 (by omega) (by omega)]
      rfl
    · have := ih (i + 1) (acc ++ text l[i]) (by omega) (by omega) (by rw [List.length_append]; omega)
      rw [List.append_assoc] at this
      exact this
theorem ref_Texts_ev {l : List ByteArray} (hs : ∀ s ∈ l, s.size ≤ 140737488351232) (hl : l.length ≤ 140737488351232) (hb : (texts l).length < 140737488355328) : Ev (fun k => shardlogref01_Texts.f k l) (texts l) := by
  unfold shardlogref01_Texts.f texts
  rw [ref_Num_eq]
  simp only [Option.bind_some]
  unfold texts at hb
  have := ref_Texts_l0 l hs hl l.length 0 (num l.length) (by omega) (by omega) (by simpa using hb)
  simpa using this
end Go.Proofs.Ythoiimhokkfeaaa.Pl
