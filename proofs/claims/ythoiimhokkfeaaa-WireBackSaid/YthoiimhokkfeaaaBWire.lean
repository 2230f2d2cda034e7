/- The printed functions of wire and of its reference answer what the plain ones do. -/
import Derived.Test.YthoiimhokkfeaaaQWire
import Derived.Test.YthoiimhokkfeaaaXx2
import Derived.Test.YthoiimhokkfeaaaXx3
import Derived.Test.YthoiimhokkfeaaaXx4
import Derived.Test.YthoiimhokkfeaaaXx5
import Derived.Test.YthoiimhokkfeaaaXx6
import Derived.Test.YthoiimhokkfeaaaXx7
import Derived.Test.YthoiimhokkfeaaaXx8
namespace Go.Proofs.Ythoiimhokkfeaaa.Pl
open Go.RowKit Go.Proofs.Ythoiimhokkfeaaa.X Go.Proofs.YthoiimhokkfeaaaW.PrintWords Go.Proofs.YthoiimhokkfeaaaW.PrintLast Go.Proofs.YthoiimhokkfeaaaW.PrintMore

theorem wire_Num_eq (n : Int) : wire_Num.f n = some (num n) := by
  unfold wire_Num.f num
  split
  · rfl
  · split
    · rfl
    · rfl
theorem wire_Text_eq {s : ByteArray} (h : s.size ≤ 140737488351232) : wire_Text.f s = some (text s) := by
  unfold wire_Text.f
  rw [wire_Num_eq]
  simp only [Option.bind_some]
  rw [if_pos (by have := num_length_le s.size; omega)]
  rfl
theorem rdOf_lt {α : Type} (d : α) (l : List α) (i : Nat) (h : i < l.length) : rdOf d l (i : Int) = l[i] := by
  simp [rdOf, List.getD_eq_getElem?_getD, List.getElem?_eq_getElem h]
theorem wire_Texts_l0 (l : List ByteArray) (hs : ∀ s ∈ l, s.size ≤ 140737488351232) (hl : l.length ≤ 140737488351232) (d : Nat) : ∀ (i : Nat) (acc : List Int), i ≤ l.length → l.length - i = d → acc.length + ((l.drop i).map text).flatten.length < 140737488355328 →
    Ev (fun k => wire_Texts.l0 k acc l (l.length : Int) (i : Int)) (acc ++ ((l.drop i).map text).flatten) := by
  induction d with
  | zero =>
    intro i acc hi hd hb
    have : i = l.length := by omega
    subst this
    refine Ev.step (f := fun _ => some acc) (fun k => ?_) ?_
    · simp only [wire_Texts.l0]
      rw [if_neg (by omega)]
    · simpa using Ev.now acc
  | succ d ih =>
    intro i acc hi hd hb
    have hlt : i < l.length := by omega
    have hdr : l.drop i = l[i] :: l.drop (i + 1) := List.drop_eq_getElem_cons hlt
    rw [hdr] at hb ⊢
    simp only [List.map_cons, List.flatten_cons, List.length_append] at hb
    refine Ev.step (f := fun k => wire_Texts.l0 k (acc ++ text l[i]) l (l.length : Int) ((i + 1 : Nat) : Int)) (fun k => ?_) ?_
    · simp only [wire_Texts.l0]
      rw [if_pos (by omega), if_pos (by omega), if_pos (by omega), rdOf_lt _ _ _ hlt, wire_Text_eq (hs _ (List.getElem_mem hlt))]
      simp only [Option.bind_some]
      rw [if_pos (by omega), w64 (by omega) (by omega)]
      rfl
    · have := ih (i + 1) (acc ++ text l[i]) (by omega) (by omega) (by rw [List.length_append]; omega)
      rw [List.append_assoc] at this
      exact this
theorem wire_Texts_ev {l : List ByteArray} (hs : ∀ s ∈ l, s.size ≤ 140737488351232) (hl : l.length ≤ 140737488351232) (hb : (texts l).length < 140737488355328) : Ev (fun k => wire_Texts.f k l) (texts l) := by
  unfold wire_Texts.f texts
  rw [wire_Num_eq]
  simp only [Option.bind_some]
  unfold texts at hb
  have := wire_Texts_l0 l hs hl l.length 0 (num l.length) (by omega) (by omega) (by simpa using hb)
  simpa using this
theorem clone_eq {l : List Int} (h : l.length ≤ 140737488355328) : slices_Clone_byte_byte.f l = some l := by
  unfold slices_Clone_byte_byte.f
  rw [if_pos (by omega)]
theorem or8 {x c : Int} (h0 : 0 ≤ x) (h1 : x < 16777216) (h2 : 0 ≤ c) (h3 : c < 256) : Go.bits .or .i64 (wrap64 (x * 256)) (wrap64 c) = x * 256 + c := by
  rw [w64 (by omega) (by omega), w64 (by omega) (by omega)]
  have hw : ∀ n : Int, 0 ≤ n → n < 2 ^ 32 → IntKind.i64.wrap n = n := by
    intro n h4 h5
    rw [IntKind.wrap_i64]
    omega
  exact bits_join .i64 32 (by decide) hw 8 (x * 256) c (by omega) (by omega) (by omega) h2 (by omega) (by omega)
theorem wire_CutNum_ev {b : List Int} (hb : Bytes b) (hl : b.length ≤ 140737488355328) : Ev (fun k => wire_CutNum.f k b) (cutNum b) := by
  unfold wire_CutNum.f cutNum
  by_cases h4 : b.length < 4
  · rw [if_pos h4]
    exact Ev.pos (by omega) (Ev.now _)
  · rw [if_neg h4]
    refine Ev.neg (by omega) (Ev.pos (by omega) (Ev.bind (Ev.now _) ?_))
    obtain ⟨x0, x1, x2, x3, r, rfl⟩ := four_form (b := b) (by omega)
    · clear h4
      obtain ⟨a0, b0⟩ := hb x0 (by simp)
      obtain ⟨a1, b1⟩ := hb x1 (by simp)
      obtain ⟨a2, b2⟩ := hb x2 (by simp)
      obtain ⟨a3, b3⟩ := hb x3 (by simp)
      simp only [List.take_succ_cons, List.take_zero]
      have hlen : (([x0, x1, x2, x3] : List Int).length : Int) = 4 := rfl
      rw [hlen]
      refine Ev.step (f := fun k => wire_CutNum.l0 k (x0 :: x1 :: x2 :: x3 :: r) x0 [x0, x1, x2, x3] 4 1) (fun k => ?_) ?_
      · simp only [wire_CutNum.l0]
        rw [if_pos (by omega), if_pos (by omega), if_pos (by rw [hlen]; omega)]
        rw [show rd [x0, x1, x2, x3] 0 = x0 from rfl, or8 (by omega) (by omega) a0 b0, w64 (by omega) (by omega)]
        simp
      refine Ev.step (f := fun k => wire_CutNum.l0 k (x0 :: x1 :: x2 :: x3 :: r) (x0 * 256 + x1) [x0, x1, x2, x3] 4 2) (fun k => ?_) ?_
      · simp only [wire_CutNum.l0]
        rw [if_pos (by omega), if_pos (by omega), if_pos (by rw [hlen]; omega)]
        rw [show rd [x0, x1, x2, x3] 1 = x1 from rfl, or8 (by omega) (by omega) a1 b1, w64 (by omega) (by omega)]
        rfl
      refine Ev.step (f := fun k => wire_CutNum.l0 k (x0 :: x1 :: x2 :: x3 :: r) ((x0 * 256 + x1) * 256 + x2) [x0, x1, x2, x3] 4 3) (fun k => ?_) ?_
      · simp only [wire_CutNum.l0]
        rw [if_pos (by omega), if_pos (by omega), if_pos (by rw [hlen]; omega)]
        rw [show rd [x0, x1, x2, x3] 2 = x2 from rfl, or8 (by omega) (by omega) a2 b2, w64 (by omega) (by omega)]
        rfl
      refine Ev.step (f := fun k => wire_CutNum.l0 k (x0 :: x1 :: x2 :: x3 :: r) (((x0 * 256 + x1) * 256 + x2) * 256 + x3) [x0, x1, x2, x3] 4 4) (fun k => ?_) ?_
      · simp only [wire_CutNum.l0]
        rw [if_pos (by omega), if_pos (by omega), if_pos (by rw [hlen]; omega)]
        rw [show rd [x0, x1, x2, x3] 3 = x3 from rfl, or8 (by omega) (by omega) a3 b3, w64 (by omega) (by omega)]
        rfl
      refine Ev.step (f := fun _ => some (val4 (x0 :: x1 :: x2 :: x3 :: r), r, true)) (fun k => ?_) (Ev.now _)
      simp only [wire_CutNum.l0]
      rw [if_neg (by omega), if_pos (by simp only [List.length_cons]; omega)]
      rw [show (x0 :: x1 :: x2 :: x3 :: r).drop 4 = r from rfl, clone_eq (by simp only [List.length_cons] at hl; omega)]
      simp only [Option.bind_some, Option.some.injEq, Prod.mk.injEq, and_true]
      simp [val4, rd]
      omega
theorem wire_CutText_ev {b : List Int} (hb : Bytes b) (hl : b.length ≤ 140737488355328) : Ev (fun k => wire_CutText.f k b) (cutText b) := by
  unfold wire_CutText.f
  refine Ev.bind (wire_CutNum_ev hb hl) ?_
  unfold cutNum cutText
  by_cases h4 : b.length < 4
  · simp only [if_pos h4]
    exact Ev.now _
  · simp only [if_neg h4, if_true]
    obtain ⟨g0, g1⟩ := val4_nonneg hb (by omega)
    by_cases hv : val4 b > ((b.length - 4 : Nat) : Int)
    · rw [if_pos hv]
      exact Ev.pos (by rw [List.length_drop]; exact hv) (Ev.now _)
    · rw [if_neg hv]
      exact Ev.neg (by rw [List.length_drop]; exact hv) (Ev.pos g0 (Ev.pos (by rw [List.length_drop]; omega) (Ev.now _)))
theorem cutText_rest_le {b : List Int} : (cutText b).2.1.length ≤ b.length := by
  unfold cutText
  split
  · simp
  · split
    · simp
    · simp only [List.length_drop]; omega
theorem wire_CutTexts_l0 : ∀ (n : Nat) (b : List Int) (acc : List ByteArray), Bytes b → b.length ≤ 140737488355328 → n ≤ 4294967295 → acc.length + b.length < 4398046511104 →
    Ev (fun k => wire_CutTexts.l0 k (n : Int) b true acc) (match cutN n b with | some x => (acc ++ x.1, x.2, true) | none => ([], [], false))
  | 0, b, acc, hb, hl, hn, ha => by
    refine Ev.step (f := fun k => wire_CutTexts.j1 k 0 b true acc false) (fun k => ?_) ?_
    · simp only [wire_CutTexts.l0, if_true]
      rfl
    refine Ev.step (f := fun _ => some (acc, b, true)) (fun k => ?_) (by simpa [cutN] using Ev.now (acc, b, true))
    simp [wire_CutTexts.j1]
  | n + 1, b, acc, hb, hl, hn, ha => by
    refine Ev.step (f := fun k => wire_CutTexts.j1 k ((n + 1 : Nat) : Int) b true acc true) (fun k => ?_) ?_
    · simp only [wire_CutTexts.l0, if_true]
      rw [decide_eq_true (by omega)]
    refine Ev.step (f := fun k => (wire_CutText.f k b).bind fun bt => (if bt.2.2 = true then (if acc.length < 8796093022208 then (wire_CutTexts.l0 k (n : Int) bt.2.1 bt.2.2 (acc ++ [bt.1])) else none) else (wire_CutTexts.l0 k (n : Int) bt.2.1 bt.2.2 acc))) (fun k => ?_) ?_
    · simp only [wire_CutTexts.j1, if_true]
      rw [show wrap64 (((n + 1 : Nat) : Int) - 1) = (n : Int) by rw [w64 (by omega) (by omega)]; omega]
    refine Ev.bind (wire_CutText_ev hb hl) ?_
    by_cases hc : (cutText b).2.2 = true
    · have hlen := cutText_rest_length hc
      have h1 := wire_CutTexts_l0 n (cutText b).2.1 (acc ++ [(cutText b).1]) (cutText_rest_bytes hb) (by omega) (by omega) (by rw [List.length_append]; simp only [List.length_cons, List.length_nil]; omega)
      simp only [hc, if_true, cutN] at h1 ⊢
      refine Ev.pos (by omega) ?_
      cases hq : cutN n (cutText b).2.1 with
      | none => rw [hq] at h1; simpa using h1
      | some x => rw [hq] at h1; simpa using h1
    · simp only [hc, cutN]
      simp only [Bool.false_eq_true, if_false]
      refine Ev.step (f := fun k => wire_CutTexts.j1 k (n : Int) (cutText b).2.1 false acc false) (fun k => ?_) ?_
      · simp [wire_CutTexts.l0]
      refine Ev.step (f := fun _ => some (([] : List ByteArray), ([] : List Int), false)) (fun k => ?_) (Ev.now _)
      simp [wire_CutTexts.j1]
theorem wire_CutTexts_ev {b : List Int} (hb : Bytes b) (hl : b.length < 4398046511104) : Ev (fun k => wire_CutTexts.f k b) (cutTexts b) := by
  unfold wire_CutTexts.f
  refine Ev.bind (wire_CutNum_ev hb (by omega)) ?_
  unfold cutNum cutTexts
  by_cases h4 : b.length < 4
  · simp only [if_pos h4]
    refine Ev.step (f := fun k => wire_CutTexts.j1 k 0 [] false [] false) (fun k => ?_) ?_
    · simp [wire_CutTexts.l0]
    refine Ev.step (f := fun _ => some (([] : List ByteArray), ([] : List Int), false)) (fun k => ?_) (Ev.now _)
    simp [wire_CutTexts.j1]
  · simp only [if_neg h4]
    obtain ⟨g0, g1⟩ := val4_nonneg hb (by omega)
    have h1 := wire_CutTexts_l0 (val4 b).toNat (b.drop 4) [] (hb.drop 4) (by rw [List.length_drop]; omega) (by omega) (by rw [List.length_drop]; simp only [List.length_nil]; omega)
    rw [show (((val4 b).toNat : Nat) : Int) = val4 b by omega] at h1
    cases hq : cutN (val4 b).toNat (b.drop 4) with
    | none => rw [hq] at h1; simpa using h1
    | some x => rw [hq] at h1; simpa using h1
end Go.Proofs.Ythoiimhokkfeaaa.Pl
