/- The pure statement of the law WireLists: of whatever bytes wire cuts off the list of texts that the reference finds at their beginning. -/
import Derived.Test.YthoiimhokkfeaaaBWire
import Derived.Test.YthoiimhokkfeaaaBRefAt
import Derived.Test.YthoiimhokkfeaaaBRefNum
import Derived.Test.YthoiimhokkfeaaaBFew01
import Derived.KernelRfl
import Derived.Test.YthoiimhokkfeaaaXx19
namespace Go.Proofs.Ythoiimhokkfeaaa.Pure
open Go.RowKit Go.Proofs.Ythoiimhokkfeaaa.X Go.Proofs.Ythoiimhokkfeaaa.Pl Go.Proofs.YthoiimhokkfeaaaW.PrintWords Go.Proofs.YthoiimhokkfeaaaW.PrintLast
theorem awake : Ev (fun k => shardloglaw01_awake.f k) true := Ev.of (fun k => shardloglaw01_awake.mono k) (k := 50) (by kernel_rfl)
theorem lists_true (l0 : List Int) : Ev (fun k => shardloglaw01_WireLists.j0 k l0 true) true :=
  Ev.step (f := fun k => (shardloglaw01_awake.f k).bind fun t => some t) (fun k => by simp only [shardloglaw01_WireLists.j0, if_true]) (Ev.bind awake (Ev.now _))
/-- The reference's loop, at place p, behind i texts: n more are asked for. -/
theorem lists_l0 {b : List Int} (hb : Bytes b) (hl : b.length ≤ 3000) (x : List ByteArray) (y : List Int) (ok : Bool) : ∀ (n p i : Nat) (w : List ByteArray), p ≤ b.length → 4 * i ≤ p → w.length = i → n + i ≤ 4294967295 →
    (match cutN n (b.drop p) with | some z => ok = true ∧ x = w ++ z.1 ∧ y = z.2 | none => ok = false ∧ x = [] ∧ y = []) →
    Ev (fun k => shardloglaw01_WireLists.l0 k b x y ok ((n + i : Nat) : Int) (p : Int) w (i : Int)) true
  | 0, p, i, w, hp, hi, hw, hn, h => by
    obtain ⟨rfl, rfl, rfl⟩ := h
    refine Ev.step (f := fun k => shardloglaw01_WireLists.j2 k b (w ++ []) (b.drop p) true ((0 + i : Nat) : Int) (p : Int) w (i : Int) false) (fun k => ?_) ?_
    · simp only [shardloglaw01_WireLists.l0]
      rw [if_neg (by omega)]
    refine Ev.step (fun k => by simp only [shardloglaw01_WireLists.j2, Bool.false_eq_true, if_false, if_true]; rfl) ?_
    refine Ev.neg (by omega) (Ev.bind (Strings_ev (by simp) (by simp; omega)) (Ev.pos rfl (Ev.pos (by omega) (Ev.pos (by omega) ?_))))
    exact Ev.bind (Ev.eq (Same_eq (by simp))) (Ev.now _)
  | n + 1, p, i, w, hp, hi, hw, hn, h => by
    have h1000 : i < 1000 := by omega
    refine Ev.step (f := fun k => shardloglaw01_WireLists.j2 k b x y ok ((n + 1 + i : Nat) : Int) (p : Int) w (i : Int) true) (fun k => ?_) ?_
    · simp only [shardloglaw01_WireLists.l0]
      rw [if_pos (by omega), decide_eq_true (by omega)]
    refine Ev.step (fun k => by simp only [shardloglaw01_WireLists.j2, if_true]; rfl) ?_
    refine Ev.bind (Ev.eq (TextAt_eq (i := p) hb (by omega) (by omega))) ?_
    simp only [cutN] at h
    by_cases hc : (cutText (b.drop p)).2.2 = true
    · have ht : textAt b p = ((cutText (b.drop p)).1, 4 + ((cutText (b.drop p)).1.size : Int)) := by unfold textAt; rw [if_pos hc]
      have hlen := cutText_rest_length hc
      rw [List.length_drop] at hlen
      rw [ht]
      refine Ev.neg (by simp only; omega) (Ev.pos (by omega) ?_)
      have hw64 : wrap64 ((p : Int) + (4 + ((cutText (b.drop p)).1.size : Int))) = ((p + 4 + (cutText (b.drop p)).1.size : Nat) : Int) := by rw [w64 (by omega) (by omega)]; omega
      have hw65 : wrap64 ((i : Int) + 1) = ((i + 1 : Nat) : Int) := by rw [w64 (by omega) (by omega)]; omega
      simp only [hw64, hw65]
      have hrest : b.drop (p + 4 + (cutText (b.drop p)).1.size) = (cutText (b.drop p)).2.1 := by
        obtain ⟨e1, e2, e3⟩ := cutText_back (hb.drop p) hc
        have e4 := text_length e3
        have e5 : (b.drop p).drop (text (cutText (b.drop p)).1).length = (cutText (b.drop p)).2.1 := by
          have e6 := congrArg (List.drop (text (cutText (b.drop p)).1).length) e1
          rw [List.drop_left] at e6
          exact e6
        rw [e4, List.drop_drop] at e5
        rw [← e5]
        congr 1
        omega
      rw [if_pos hc] at h
      have := lists_l0 hb hl x y ok n (p + 4 + (cutText (b.drop p)).1.size) (i + 1) (w ++ [(cutText (b.drop p)).1]) (by omega) (by omega) (by simp [hw]) (by omega) (by
        rw [hrest]
        cases hq : cutN n (cutText (b.drop p)).2.1 with
        | none => rw [hq] at h; exact h
        | some z =>
          rw [hq] at h
          obtain ⟨h1, h2, h3⟩ := h
          exact ⟨h1, by rw [h2]; simp, h3⟩)
      rw [show n + (i + 1) = n + 1 + i by omega] at this
      exact this
    · have ht : textAt b p = (⟨#[]⟩, 0) := by unfold textAt; rw [if_neg hc]
      rw [ht]
      rw [if_neg hc] at h
      obtain ⟨rfl, rfl, rfl⟩ := h
      refine Ev.pos rfl (Ev.neg (by simp) (Ev.pos (by simp) ?_))
      exact Ev.now _
theorem WireLists : shardloglaw01_WireLists.Pure := by
  intro b h0
  obtain ⟨m1, m2, m3⟩ := h0
  have hb := Bytes.of_wf m3
  refine Ev.rounds ?_
  unfold shardloglaw01_WireLists.f
  refine Ev.bind awake (Ev.pos rfl ?_)
  by_cases hs : (b.length : Int) > 3000
  · rw [decide_eq_true hs]
    exact lists_true _
  · rw [decide_eq_false hs]
    refine Ev.step (fun k => by simp only [shardloglaw01_WireLists.j0, Bool.false_eq_true, if_false]; rfl) ?_
    refine Ev.bind (wire_CutTexts_ev hb (by omega)) (Ev.bind (Ev.eq (At_eq (i := 0) hb (by omega) (by omega))) ?_)
    unfold numAt cutTexts
    by_cases h4 : b.length < 4
    · rw [if_pos h4, if_pos (by omega)]
      refine Ev.step (f := fun k => shardloglaw01_WireLists.j2 k b [] [] false (-1) 4 [] 0 false) (fun k => ?_) ?_
      · simp only [shardloglaw01_WireLists.l0]
        rw [if_neg (by omega)]
      refine Ev.step (f := fun _ => some true) (fun k => ?_) (Ev.now _)
      simp [shardloglaw01_WireLists.j2]
    · rw [if_neg h4, if_neg (by omega), List.drop_zero]
      obtain ⟨g0, g1⟩ := val4_nonneg hb (by omega)
      have key := fun x y ok h => lists_l0 hb (by omega) x y ok (val4 b).toNat 4 0 [] (by omega) (by omega) rfl (by omega) h
      rw [show (((val4 b).toNat + 0 : Nat) : Int) = val4 b by omega] at key
      cases hq : cutN (val4 b).toNat (b.drop 4) with
      | none => exact key [] [] false (by rw [hq]; exact ⟨rfl, rfl, rfl⟩)
      | some z => exact key z.1 z.2 true (by rw [hq]; exact ⟨rfl, rfl, rfl⟩)
end Go.Proofs.Ythoiimhokkfeaaa.Pure
