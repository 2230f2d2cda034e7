/- A cell's bytes: the printed functions answer the plain ones. -/
import Derived.Test.YtpnbknhjnakehaaBCellOrder
import Derived.Test.YtpnbknhjnakehaaBWire
import Derived.Test.YtpnbknhjnakehaaBConcat
import Derived.Test.YtpnbknhjnakehaaXx4
import Derived.Test.YtpnbknhjnakehaaXx5
import Derived.Test.YtpnbknhjnakehaaXx6
import Derived.Test.YtpnbknhjnakehaaXx7
namespace Go.Proofs.Ytpnbknhjnakehaa.Pl
open Go.RowKit Go.Proofs.Ytpnbknhjnakehaa.X Go.Proofs.YtpnbknhjnakehaaW.PrintWords Go.Proofs.YtpnbknhjnakehaaW.PrintLast Go.Proofs.YtpnbknhjnakehaaW.PrintMore
def flagC (g : Bool) : Int := if g = true then 1 else 0
theorem flagC_in (g : Bool) : 0 ≤ flagC g ∧ flagC g ≤ 1 := by cases g <;> decide
/-- A cell's bytes. -/
def cellB (r c : ByteArray) (t : Int) (v : ByteArray) (g : Bool) : List Int := text r ++ (text c ++ (num t ++ ([flagC g] ++ text v)))
theorem bytes_cellB (r c : ByteArray) (t : Int) (v : ByteArray) (g : Bool) : Bytes (cellB r c t v g) := by
  obtain ⟨h0, h1⟩ := flagC_in g
  exact (bytes_text _).append ((bytes_text _).append ((bytes_num _).append ((Bytes.cons h0 (by omega) Bytes.nil).append (bytes_text _))))
theorem cellB_length (r c : ByteArray) (t : Int) (v : ByteArray) (g : Bool) : (cellB r c t v g).length ≤ 17 + r.size + c.size + v.size := by
  have h1 := text_length_le r
  have h2 := text_length_le c
  have h3 := text_length_le v
  have h4 := num_length_le t
  unfold cellB
  simp only [List.length_append, List.length_cons, List.length_nil]
  omega
theorem cell_Put_eq {r c : ByteArray} (t : Int) {v : ByteArray} (g : Bool) (hr : r.size ≤ 1000000) (hc : c.size ≤ 1000000) (hv : v.size ≤ 1000000) : cell_Put.f r c t v g = some (cellB r c t v g) := by
  unfold cell_Put.f
  have hf : cell_flag.f g = some (flagC g) := by unfold cell_flag.f flagC; cases g <;> rfl
  simp only [wire_Text_eq (s := r) (by omega), wire_Text_eq (s := c) (by omega), wire_Text_eq (s := v) (by omega), wire_Num_eq, hf, Option.bind_some]
  have hl := cellB_length r c t v g
  unfold cellB at hl
  simp only [List.length_append, List.length_cons, List.length_nil] at hl
  rw [concat_eq (by simp only [lenSum, List.map_cons, List.map_nil, List.sum_cons, List.sum_nil, List.length_cons, List.length_nil]; omega)]
  simp [cellB]
def cutFlag (b : List Int) : Bool × List Int × Bool := if b.length = 0 then (false, [], false) else if rd b 0 > 1 then (false, [], false) else (rd b 0 == 1, b.drop 1, true)
theorem cutFlag_eq (b : List Int) : cell_cutFlag.f b = some (cutFlag b) := by
  unfold cell_cutFlag.f cutFlag
  by_cases h : b.length = 0
  · rw [if_pos (by omega), if_pos h]
  · rw [if_neg (by omega), if_neg h, if_pos (by omega)]
    by_cases h1 : rd b 0 > 1
    · rw [if_pos h1, if_pos h1]
    · rw [if_neg h1, if_neg h1, if_pos (by omega)]
      rfl
theorem cutFlag_flag (g : Bool) (r : List Int) : cutFlag ([flagC g] ++ r) = (g, r, true) := by
  unfold cutFlag
  cases g <;> simp [flagC, rd]
abbrev Cut7 := ByteArray × ByteArray × Int × ByteArray × Bool × List Int × Bool
/-- A cell at the beginning. -/
def cutCell (b : List Int) : Cut7 :=
  let r := cutText b
  let c := cutText r.2.1
  let t := cutNum c.2.1
  let g := cutFlag t.2.1
  let v := cutText g.2.1
  if (r.2.2 && (c.2.2 && (t.2.2 && (g.2.2 && (v.2.2 && cellRight r.1 c.1 t.1 v.1 g.1))))) = true then (r.1, c.1, t.1, v.1, g.1, v.2.1, true) else (⟨#[]⟩, ⟨#[]⟩, 0, ⟨#[]⟩, false, [], false)
theorem cutFlag_bytes {b : List Int} (hb : Bytes b) : Bytes (cutFlag b).2.1 ∧ (cutFlag b).2.1.length ≤ b.length := by
  unfold cutFlag
  split
  · exact ⟨Bytes.nil, by simp⟩
  · split
    · exact ⟨Bytes.nil, by simp⟩
    · exact ⟨hb.drop 1, by simp only [List.length_drop]; omega⟩
theorem cutNum_bytes' {b : List Int} (hb : Bytes b) : Bytes (cutNum b).2.1 ∧ (cutNum b).2.1.length ≤ b.length := by
  unfold cutNum
  split
  · exact ⟨Bytes.nil, by simp⟩
  · exact ⟨hb.drop 4, by simp only [List.length_drop]; omega⟩
theorem cell_Cut_ev {b : List Int} (hb : Bytes b) (hl : b.length ≤ 140737488355328) : Ev (fun k => cell_Cut.f k b) (cutCell b) := by
  have b1 := cutText_rest_bytes hb
  have l1 := Nat.le_trans (cutText_rest_le (b := b)) hl
  have b2 := cutText_rest_bytes b1
  have l2 := Nat.le_trans (cutText_rest_le (b := (cutText b).2.1)) l1
  obtain ⟨b3, m3⟩ := cutNum_bytes' b2
  have l3 := Nat.le_trans m3 l2
  obtain ⟨b4, m4⟩ := cutFlag_bytes b3
  have l4 := Nat.le_trans m4 l3
  have jt : ∀ (x : List Int) (r c : ByteArray) (t : Int) (v : ByteArray) (g : Bool), Ev (fun k => cell_Cut.j0 k x true r c t v g) (⟨#[]⟩, ⟨#[]⟩, 0, ⟨#[]⟩, false, [], false) := fun x r c t v g => Ev.step (fun k => by simp only [cell_Cut.j0, if_true]) (Ev.now _)
  have jf : ∀ (x : List Int) (r c : ByteArray) (t : Int) (v : ByteArray) (g : Bool), Ev (fun k => cell_Cut.j0 k x false r c t v g) (r, c, t, v, g, x, true) := fun x r c t v g => Ev.step (fun k => by simp only [cell_Cut.j0, Bool.false_eq_true, if_false]) (Ev.now _)
  unfold cell_Cut.f cutCell
  refine Ev.bind (wire_CutText_ev hb hl) (Ev.bind (wire_CutText_ev b1 l1) (Ev.bind (wire_CutNum_ev b2 l2) (Ev.bind (Ev.eq (cutFlag_eq _)) (Ev.bind (wire_CutText_ev b4 l4) ?_))))
  simp only
  generalize cutText b = r
  generalize cutText r.2.1 = c
  generalize cutNum c.2.1 = t
  generalize cutFlag t.2.1 = g
  generalize cutText g.2.1 = v
  by_cases h : (!r.2.2 || (!c.2.2 || (!t.2.2 || (!g.2.2 || (!v.2.2))))) = true
  · refine Ev.pos h ?_
    have : (r.2.2 && (c.2.2 && (t.2.2 && (g.2.2 && (v.2.2 && cellRight r.1 c.1 t.1 v.1 g.1))))) = false := by
      revert h
      cases r.2.2 <;> cases c.2.2 <;> cases t.2.2 <;> cases g.2.2 <;> cases v.2.2 <;> simp
    rw [this]
    exact jt _ _ _ _ _ _
  · refine Ev.neg h (Ev.bind (Ev.eq (cell_Right_eq _ _ _ _ _)) ?_)
    have : (r.2.2 && (c.2.2 && (t.2.2 && (g.2.2 && (v.2.2 && cellRight r.1 c.1 t.1 v.1 g.1))))) = cellRight r.1 c.1 t.1 v.1 g.1 := by
      revert h
      cases r.2.2 <;> cases c.2.2 <;> cases t.2.2 <;> cases g.2.2 <;> cases v.2.2 <;> simp
    rw [this]
    cases hr : cellRight r.1 c.1 t.1 v.1 g.1 with
    | true => exact jf _ _ _ _ _ _
    | false => exact jt _ _ _ _ _ _
theorem cutCell_cellB {r c : ByteArray} {t : Int} {v : ByteArray} {g : Bool} (h : cellRight r c t v g = true) (x : List Int) : cutCell (cellB r c t v g ++ x) = (r, c, t, v, g, x, true) := by
  obtain ⟨h1, h2, h3, h4, h5, h6, h7, _⟩ := cellRight_iff.1 h
  have e1 : cutText (cellB r c t v g ++ x) = (r, text c ++ (num t ++ ([flagC g] ++ (text v ++ x))), true) := by
    rw [show cellB r c t v g ++ x = text r ++ (text c ++ (num t ++ ([flagC g] ++ (text v ++ x)))) by simp [cellB]]
    exact cutText_text (by omega) _
  have e2 : cutText (text c ++ (num t ++ ([flagC g] ++ (text v ++ x)))) = (c, num t ++ ([flagC g] ++ (text v ++ x)), true) := cutText_text (by omega) _
  have e3 : cutNum (num t ++ ([flagC g] ++ (text v ++ x))) = (t, [flagC g] ++ (text v ++ x), true) := cutNum_num h5 (by omega) _
  have e4 : cutText (text v ++ x) = (v, x, true) := cutText_text (by omega) _
  unfold cutCell
  simp only [e1, e2, e3, cutFlag_flag, e4, h, Bool.and_self, if_true]
end Go.Proofs.Ytpnbknhjnakehaa.Pl
