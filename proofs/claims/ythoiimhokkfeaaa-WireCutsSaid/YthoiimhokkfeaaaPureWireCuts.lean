/- The pure statement of the law WireCuts: of whatever bytes wire cuts off the number and the text that the reference finds at their beginning. -/
import Derived.Test.YthoiimhokkfeaaaBWire
import Derived.Test.YthoiimhokkfeaaaBRefAt
import Derived.Test.YthoiimhokkfeaaaBRefNum
import Derived.KernelRfl
import Derived.Test.YthoiimhokkfeaaaXx17
namespace Go.Proofs.Ythoiimhokkfeaaa.Pure
open Go.RowKit Go.Proofs.Ythoiimhokkfeaaa.X Go.Proofs.Ythoiimhokkfeaaa.Pl Go.Proofs.YthoiimhokkfeaaaW.PrintWords Go.Proofs.YthoiimhokkfeaaaW.PrintLast
theorem awake : Ev (fun k => shardloglaw01_awake.f k) true := Ev.of (fun k => shardloglaw01_awake.mono k) (k := 50) (by kernel_rfl)
theorem cuts_true (l0 : List Int) : Ev (fun k => shardloglaw01_WireCuts.j0 k l0 true) true :=
  Ev.step (f := fun k => (shardloglaw01_awake.f k).bind fun t => some t) (fun k => by simp only [shardloglaw01_WireCuts.j0, if_true]) (Ev.bind awake (Ev.now _))
/-- What is asked of the text. -/
theorem cuts_text {b : List Int} : Ev (fun k => shardloglaw01_WireCuts.j1 k b (cutText b).1 (cutText b).2.1 (cutText b).2.2 (textAt b 0).1 (textAt b 0).2 false) true := by
  have hn : (cutText b).2.1.length ≤ b.length := cutText_rest_le
  by_cases hc : (cutText b).2.2 = true
  · have ht : textAt b 0 = ((cutText b).1, 4 + ((cutText b).1.size : Int)) := by
      unfold textAt
      rw [List.drop_zero, if_pos hc]
    have hrest : (cutText b).2.1 = b.drop (4 + ((cutText b).1.size : Int)).toNat := by
      have h1 := cutText_rest_length hc
      unfold cutText at hc h1 ⊢
      by_cases h4 : b.length < 4
      · rw [if_pos h4] at hc; cases hc
      · rw [if_neg h4] at hc h1 ⊢
        by_cases hv : val4 b > ((b.length - 4 : Nat) : Int)
        · rw [if_pos hv] at hc; cases hc
        · rw [if_neg hv]
          show (b.drop 4).drop (val4 b).toNat = _
          rw [strOf_size, List.length_take, List.length_drop, List.drop_drop]
          congr 1
          omega
    rw [ht, hc]
    refine Ev.step (fun k => by simp only [shardloglaw01_WireCuts.j1, Bool.false_eq_true, if_false, if_true]; rfl) ?_
    have hlen := cutText_rest_length hc
    refine Ev.pos (by simp; omega) (Ev.pos (by omega) (Ev.pos (by omega) ?_))
    exact Ev.bind (Ev.eq (Same_eq hrest)) (Ev.pos rfl (Ev.now _))
  · have hc' : (cutText b).2.2 = false := by simpa using hc
    have ht : textAt b 0 = (⟨#[]⟩, 0) := by
      unfold textAt
      rw [List.drop_zero, if_neg hc]
    obtain ⟨e1, e2⟩ := cutText_no hc'
    rw [ht, hc', e1, e2]
    refine Ev.step (f := fun _ => some true) (fun k => ?_) (Ev.now _)
    simp [shardloglaw01_WireCuts.j1]
theorem WireCuts : shardloglaw01_WireCuts.Pure := by
  intro b h0
  obtain ⟨m1, m2, m3⟩ := h0
  have hb := Bytes.of_wf m3
  refine Ev.rounds ?_
  unfold shardloglaw01_WireCuts.f
  refine Ev.bind awake (Ev.pos rfl ?_)
  by_cases hs : (b.length : Int) > 3000
  · rw [decide_eq_true hs]
    exact cuts_true _
  · rw [decide_eq_false hs]
    refine Ev.step (fun k => by simp only [shardloglaw01_WireCuts.j0, Bool.false_eq_true, if_false]; rfl) ?_
    refine Ev.bind (wire_CutNum_ev hb (by omega)) (Ev.bind (wire_CutText_ev hb (by omega)) (Ev.bind (Ev.eq (TextAt_eq (i := 0) hb (by omega) (by omega))) ?_))
    unfold cutNum
    by_cases h4 : b.length < 4
    · simp only [if_pos h4]
      refine Ev.neg (by simp; omega) (Ev.neg (by simp) (Ev.pos (by trivial) ?_))
      exact cuts_text
    · simp only [if_neg h4]
      refine Ev.neg (by simp; omega) (Ev.pos (by trivial) ?_)
      refine Ev.bind (Ev.eq (At_eq (i := 0) hb (by omega) (by omega))) ?_
      unfold numAt
      rw [if_neg (by omega), List.drop_zero]
      refine Ev.pos rfl (Ev.pos (by omega) ?_)
      exact Ev.bind (Ev.eq (Same_eq rfl)) (Ev.pos rfl (cuts_text))
end Go.Proofs.Ythoiimhokkfeaaa.Pure
