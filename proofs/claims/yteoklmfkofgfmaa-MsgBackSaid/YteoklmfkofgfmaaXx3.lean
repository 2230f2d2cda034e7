-- written by a program of this session's, over the kit's print
import Derived.Test.YteoklmfkofgfmaaXx0
import Derived.Test.YteoklmfkofgfmaaXx2
namespace Go.Proofs.Yteoklmfkofgfmaa.X
open Go.RowKit Go.Proofs.YteoklmfkofgfmaaW.PrintWords Go.Proofs.YteoklmfkofgfmaaW.PrintLast Go.Proofs.YteoklmfkofgfmaaW.PrintMore
attribute [local go_sem] max2_int min2_int max_two min_two max_three min_three max_four min_four gtr_str   -- for this text's walks alone
set_option linter.unusedVariables false
set_option linter.unusedSimpArgs false

/-! ### msg_Right: function 10 -/
def msg_Right.j0 : Nat → Bool → Int → Int → Int → Int → Int → Int → Int → Int → Bool → ByteArray → List (S23) → Option (Bool)
 | 0, _, _, _, _, _, _, _, _, _, _, _, _ => none
 | k + 1, x40, x110000, x110001, x110002, x110003, x110004, x110005, x110006, x110007, x110008, x110009, x110010 => if x40 = true then (some false) else (if x110000 = 3 then ((slot_Right.f x110005 x110006 x110007 x110008 x110009).bind fun t113 => (if t113 = true then (some (x110006 == x110003)) else (some false))) else (if x110000 = 4 then ((msg_Right_1.f x110004 64).bind fun t114 => (some t114)) else ((msg_rising.f k x110010 x110003).bind fun t115 => (some t115))))
def msg_Right.f (k : Nat) (a0_0 : Int) (a0_1 : Int) (a0_2 : Int) (a0_3 : Int) (a0_4 : Int) (a0_5 : Int) (a0_6 : Int) (a0_7 : Int) (a0_8 : Bool) (a0_9 : ByteArray) (l0_10 : List (S23)) : Option (Bool) := if a0_0 < 1 then (msg_Right.j0 k true a0_0 a0_1 a0_2 a0_3 a0_4 a0_5 a0_6 a0_7 a0_8 a0_9 l0_10) else (if a0_0 > 5 then (msg_Right.j0 k true a0_0 a0_1 a0_2 a0_3 a0_4 a0_5 a0_6 a0_7 a0_8 a0_9 l0_10) else ((msg_Right_1.f a0_1 7).bind fun t110 => (if t110 = true then ((msg_Right_1.f a0_2 7).bind fun t111 => (if t111 = true then (if a0_3 < 1 then (msg_Right.j0 k true a0_0 a0_1 a0_2 a0_3 a0_4 a0_5 a0_6 a0_7 a0_8 a0_9 l0_10) else (if a0_3 > 2147483647 then (msg_Right.j0 k true a0_0 a0_1 a0_2 a0_3 a0_4 a0_5 a0_6 a0_7 a0_8 a0_9 l0_10) else ((msg_bare.f a0_0 a0_1 a0_2 a0_3 a0_4 a0_5 a0_6 a0_7 a0_8 a0_9 l0_10).bind fun t112 => (msg_Right.j0 k (!t112) a0_0 a0_1 a0_2 a0_3 a0_4 a0_5 a0_6 a0_7 a0_8 a0_9 l0_10)))) else (msg_Right.j0 k true a0_0 a0_1 a0_2 a0_3 a0_4 a0_5 a0_6 a0_7 a0_8 a0_9 l0_10))) else (msg_Right.j0 k true a0_0 a0_1 a0_2 a0_3 a0_4 a0_5 a0_6 a0_7 a0_8 a0_9 l0_10))))
theorem msg_Right.mono_l : ∀ k, (∀ y0 y1 y2 y3 y4 y5 y6 y7 y8 y9 y10 y11, LeO (msg_Right.j0 k y0 y1 y2 y3 y4 y5 y6 y7 y8 y9 y10 y11) (msg_Right.j0 (k + 1) y0 y1 y2 y3 y4 y5 y6 y7 y8 y9 y10 y11))
 | 0 => fun _ _ _ _ _ _ _ _ _ _ _ _ r h => by simp [msg_Right.j0] at h
 | k + 1 => by
  have ih0 := msg_Right.mono_l k
  ·
   intro y0 y1 y2 y3 y4 y5 y6 y7 y8 y9 y10 y11
   unfold msg_Right.j0
   repeat' first
   | (with_reducible exact ih0 _ _ _ _ _ _ _ _ _ _ _ _)
   | (with_reducible exact msg_rising.mono _ _ _)
   | (with_reducible exact LeO.refl _)
   | (with_reducible exact LeO.none _)
   | (with_reducible refine LeO.ite ?_ ?_)
   | (with_reducible refine LeO.bind ?_ (fun _ => ?_))
   | exact LeO.none _
   | refine LeO.ite ?_ ?_
   | refine LeO.bind ?_ (fun _ => ?_)
theorem msg_Right.mono : ∀ a0 a1 a2 a3 a4 a5 a6 a7 a8 a9 a10 k, LeO (msg_Right.f k a0 a1 a2 a3 a4 a5 a6 a7 a8 a9 a10) (msg_Right.f (k + 1) a0 a1 a2 a3 a4 a5 a6 a7 a8 a9 a10) := by
 intro a0 a1 a2 a3 a4 a5 a6 a7 a8 a9 a10 k
 have ih0 := msg_Right.mono_l k
 unfold msg_Right.f
 repeat' first
   | (with_reducible exact ih0 _ _ _ _ _ _ _ _ _ _ _ _)
   | (with_reducible exact msg_rising.mono _ _ _)
   | (with_reducible exact LeO.refl _)
   | (with_reducible exact LeO.none _)
   | (with_reducible refine LeO.ite ?_ ?_)
   | (with_reducible refine LeO.bind ?_ (fun _ => ?_))
   | exact LeO.none _
   | refine LeO.ite ?_ ?_
   | refine LeO.bind ?_ (fun _ => ?_)
set_option maxHeartbeats 8000000 in
set_option maxRecDepth 100000 in
theorem msg_Right.calls (k : Nat) (a0_0 : Int) (a0_1 : Int) (a0_2 : Int) (a0_3 : Int) (a0_4 : Int) (a0_5 : Int) (a0_6 : Int) (a0_7 : Int) (a0_8 : Bool) (a0_9 : ByteArray) (A0_10 : Option Addr) (c0_10 : Nat) (l0_10 : List (S23)) (r : Bool) (w : World) (hr0_10 : Kd.C k23 w A0_10 l0_10.length l0_10) (hc0_10 : l0_10.length ≤ c0_10) (h : msg_Right.f k a0_0 a0_1 a0_2 a0_3 a0_4 a0_5 a0_6 a0_7 a0_8 a0_9 l0_10 = some r) :
  Calls Try.prog 10 #[.agg #[.int .i64 a0_0, .int .i64 a0_1, .int .i64 a0_2, .int .i64 a0_3, .int .i64 a0_4, .int .i64 a0_5, .int .i64 a0_6, .int .i64 a0_7, .bool a0_8, .string a0_9, .slice A0_10 l0_10.length c0_10]] w fun e w' => e = .returned (.bool r) ∧ Below w.heap.size w w' := by
 have hu26 := Try.underlying26; have hu23 := Try.underlying23
 have HR0_10 := aS hr0_10
 have HC0_10 := aS hc0_10
 clear hr0_10 hc0_10
 have HB := aS (Below.refl w.heap.size w)
 have H : (if a0_0 < 1 then (msg_Right.j0 k true a0_0 a0_1 a0_2 a0_3 a0_4 a0_5 a0_6 a0_7 a0_8 a0_9 l0_10) else (if a0_0 > 5 then (msg_Right.j0 k true a0_0 a0_1 a0_2 a0_3 a0_4 a0_5 a0_6 a0_7 a0_8 a0_9 l0_10) else ((msg_Right_1.f a0_1 7).bind fun t110 => (if t110 = true then ((msg_Right_1.f a0_2 7).bind fun t111 => (if t111 = true then (if a0_3 < 1 then (msg_Right.j0 k true a0_0 a0_1 a0_2 a0_3 a0_4 a0_5 a0_6 a0_7 a0_8 a0_9 l0_10) else (if a0_3 > 2147483647 then (msg_Right.j0 k true a0_0 a0_1 a0_2 a0_3 a0_4 a0_5 a0_6 a0_7 a0_8 a0_9 l0_10) else ((msg_bare.f a0_0 a0_1 a0_2 a0_3 a0_4 a0_5 a0_6 a0_7 a0_8 a0_9 l0_10).bind fun t112 => (msg_Right.j0 k (!t112) a0_0 a0_1 a0_2 a0_3 a0_4 a0_5 a0_6 a0_7 a0_8 a0_9 l0_10)))) else (msg_Right.j0 k true a0_0 a0_1 a0_2 a0_3 a0_4 a0_5 a0_6 a0_7 a0_8 a0_9 l0_10))) else (msg_Right.j0 k true a0_0 a0_1 a0_2 a0_3 a0_4 a0_5 a0_6 a0_7 a0_8 a0_9 l0_10))))) = some r := h
 clear h
 have HC2 := aS H
 clear H
 go_enter Try.func10, Try.ntmps10
 go_upto_region 2 with (first | ((with_reducible refine gate_dst (N := 1) rfl ?_); refine box_event ?hg (N := 1) ?hd (cs := #[.int .i64 a0_0, .int .i64 a0_1, .int .i64 a0_2, .int .i64 a0_3, .int .i64 a0_4, .int .i64 a0_5, .int .i64 a0_6, .int .i64 a0_7, .bool a0_8, .string a0_9, .slice A0_10 l0_10.length c0_10]) (t := 26) ?hr ?_; (case hd => rfl); (case hg => rfl); (case hr => first | (go_simp; done) | (go_simp; rfl)); intro gb109 hg w3 hbox hb; have n0_ := bstep hb; have n1_ := aS (hbox); have n2_ := bsize hg; have n3_ := bsize hg; clear HB; have HB := n0_; have BK109 := n1_; have GW109 := n2_; have GE109 := n3_; clear n0_ n1_ n2_ n3_; clear hb hbox hg))
 (try simp only [Act.put, lsa, lsz, lss])
 go_cut [40] (fun v40 wc => ∃ (kq : Nat) (x40_1 : Bool), v40 = .bool x40_1 ∧ Aside0 (msg_Right.j0 kq x40_1 a0_0 a0_1 a0_2 a0_3 a0_4 a0_5 a0_6 a0_7 a0_8 a0_9 l0_10 = some r) ∧ Aside0 (kq ≤ k) ∧ Aside0 (wc.heap[gb109]? = some (.cells #[.int .i64 a0_0, .int .i64 a0_1, .int .i64 a0_2, .int .i64 a0_3, .int .i64 a0_4, .int .i64 a0_5, .int .i64 a0_6, .int .i64 a0_7, .bool a0_8, .string a0_9, (.slice A0_10 l0_10.length c0_10)] 26 (0, 0))) ∧ Aside0 (Below w.heap.size w wc))
 case first =>
  have H := HC2.out; clear HC2
  by_cases c4 : a0_0 < 1
  ·
   rw [if_pos c4] at H
   have c4b0 : decide (a0_0 < 1) = true := decide_eq_true c4
   clear c4
   (first | rw [c4b0] | (simp only [i64_w, i32_w]; rw [c4b0]) | skip)
   have H' := aS H
   clear H
   have hcz5 := cK11 BK109
   go_wp2
   go_meet
   case rel => exact ⟨_, (true), (by first | rfl | (simp; done) | (simp [*]; done) | (simp; exact (by decide : ∀ a_ b_ : Bool, (a_ == b_) = (!a_ != b_)) _ _)), H', ⟨by first | omega | exact Nat.le_refl _⟩, ⟨by (with_reducible repeat (first | refine blk_drewN ?_ _ | refine blk_drew ?_ | refine blk_alloc ?_ _)); exact BK109.out⟩, ⟨bel⟩⟩
  ·
   rw [if_neg c4] at H
   have c4b0 : decide (a0_0 < 1) = false := decide_eq_false c4
   clear c4
   (first | rw [c4b0] | (simp only [i64_w, i32_w]; rw [c4b0]) | skip)
   by_cases c6 : a0_0 > 5
   ·
    rw [if_pos c6] at H
    have c6b0 : decide (5 < a0_0) = true := decide_eq_true c6
    clear c6
    have H' := aS H
    clear H
    have hcz7 := cK11 BK109
    go_wp2
    go_meet
    case rel => exact ⟨_, (true), (by first | rfl | (simp; done) | (simp [*]; done) | (simp; exact (by decide : ∀ a_ b_ : Bool, (a_ == b_) = (!a_ != b_)) _ _)), H', ⟨by first | omega | exact Nat.le_refl _⟩, ⟨by (with_reducible repeat (first | refine blk_drewN ?_ _ | refine blk_drew ?_ | refine blk_alloc ?_ _)); exact BK109.out⟩, ⟨bel⟩⟩
   ·
    rw [if_neg c6] at H
    have c6b0 : decide (5 < a0_0) = false := decide_eq_false c6
    clear c6
    replace H := obm H
    obtain ⟨t110, A80, H⟩ := H
    replace H : (if t110 = true then ((msg_Right_1.f a0_2 7).bind fun t111 => (if t111 = true then (if a0_3 < 1 then (msg_Right.j0 k true a0_0 a0_1 a0_2 a0_3 a0_4 a0_5 a0_6 a0_7 a0_8 a0_9 l0_10) else (if a0_3 > 2147483647 then (msg_Right.j0 k true a0_0 a0_1 a0_2 a0_3 a0_4 a0_5 a0_6 a0_7 a0_8 a0_9 l0_10) else ((msg_bare.f a0_0 a0_1 a0_2 a0_3 a0_4 a0_5 a0_6 a0_7 a0_8 a0_9 l0_10).bind fun t112 => (msg_Right.j0 k (!t112) a0_0 a0_1 a0_2 a0_3 a0_4 a0_5 a0_6 a0_7 a0_8 a0_9 l0_10)))) else (msg_Right.j0 k true a0_0 a0_1 a0_2 a0_3 a0_4 a0_5 a0_6 a0_7 a0_8 a0_9 l0_10))) else (msg_Right.j0 k true a0_0 a0_1 a0_2 a0_3 a0_4 a0_5 a0_6 a0_7 a0_8 a0_9 l0_10)) = some r := H
    have A8 := aS A80
    clear A80
    by_cases c9 : t110 = true
    ·
     subst c9
     have H1 : ((msg_Right_1.f a0_2 7).bind fun t111 => (if t111 = true then (if a0_3 < 1 then (msg_Right.j0 k true a0_0 a0_1 a0_2 a0_3 a0_4 a0_5 a0_6 a0_7 a0_8 a0_9 l0_10) else (if a0_3 > 2147483647 then (msg_Right.j0 k true a0_0 a0_1 a0_2 a0_3 a0_4 a0_5 a0_6 a0_7 a0_8 a0_9 l0_10) else ((msg_bare.f a0_0 a0_1 a0_2 a0_3 a0_4 a0_5 a0_6 a0_7 a0_8 a0_9 l0_10).bind fun t112 => (msg_Right.j0 k (!t112) a0_0 a0_1 a0_2 a0_3 a0_4 a0_5 a0_6 a0_7 a0_8 a0_9 l0_10)))) else (msg_Right.j0 k true a0_0 a0_1 a0_2 a0_3 a0_4 a0_5 a0_6 a0_7 a0_8 a0_9 l0_10))) = some r := by rw [if_pos rfl] at H; exact H
     clear H; have H := H1; clear H1
     replace H := obm H
     obtain ⟨t111, A100, H⟩ := H
     replace H : (if t111 = true then (if a0_3 < 1 then (msg_Right.j0 k true a0_0 a0_1 a0_2 a0_3 a0_4 a0_5 a0_6 a0_7 a0_8 a0_9 l0_10) else (if a0_3 > 2147483647 then (msg_Right.j0 k true a0_0 a0_1 a0_2 a0_3 a0_4 a0_5 a0_6 a0_7 a0_8 a0_9 l0_10) else ((msg_bare.f a0_0 a0_1 a0_2 a0_3 a0_4 a0_5 a0_6 a0_7 a0_8 a0_9 l0_10).bind fun t112 => (msg_Right.j0 k (!t112) a0_0 a0_1 a0_2 a0_3 a0_4 a0_5 a0_6 a0_7 a0_8 a0_9 l0_10)))) else (msg_Right.j0 k true a0_0 a0_1 a0_2 a0_3 a0_4 a0_5 a0_6 a0_7 a0_8 a0_9 l0_10)) = some r := H
     have A10 := aS A100
     clear A100
     by_cases c11 : t111 = true
     ·
      subst c11
      have H1 : (if a0_3 < 1 then (msg_Right.j0 k true a0_0 a0_1 a0_2 a0_3 a0_4 a0_5 a0_6 a0_7 a0_8 a0_9 l0_10) else (if a0_3 > 2147483647 then (msg_Right.j0 k true a0_0 a0_1 a0_2 a0_3 a0_4 a0_5 a0_6 a0_7 a0_8 a0_9 l0_10) else ((msg_bare.f a0_0 a0_1 a0_2 a0_3 a0_4 a0_5 a0_6 a0_7 a0_8 a0_9 l0_10).bind fun t112 => (msg_Right.j0 k (!t112) a0_0 a0_1 a0_2 a0_3 a0_4 a0_5 a0_6 a0_7 a0_8 a0_9 l0_10)))) = some r := by rw [if_pos rfl] at H; exact H
      clear H; have H := H1; clear H1
      by_cases c12 : a0_3 < 1
      ·
       rw [if_pos c12] at H
       have c12b0 : decide (a0_3 < 1) = true := decide_eq_true c12
       clear c12
       have H' := aS H
       clear H
       have hcz13 := cK11 BK109
       go_wp2_with (first | (go_at_call 22; (with_reducible refine (msg_Right_1.calls a0_1 7 true _ A8.out).mono ?_); rintro e w' ⟨rfl, ⟨nd, rfl⟩⟩) | (go_at_call 22; (with_reducible refine (msg_Right_1.calls a0_2 7 true _ A10.out).mono ?_); rintro e w' ⟨rfl, ⟨nd, rfl⟩⟩))
       go_meet
       case rel => exact ⟨_, (true), (by first | rfl | (simp; done) | (simp [*]; done) | (simp; exact (by decide : ∀ a_ b_ : Bool, (a_ == b_) = (!a_ != b_)) _ _)), H', ⟨by first | omega | exact Nat.le_refl _⟩, ⟨by (with_reducible repeat (first | refine blk_drewN ?_ _ | refine blk_drew ?_ | refine blk_alloc ?_ _)); exact BK109.out⟩, ⟨bel⟩⟩
      ·
       rw [if_neg c12] at H
       have c12b0 : decide (a0_3 < 1) = false := decide_eq_false c12
       clear c12
       by_cases c14 : a0_3 > 2147483647
       ·
        rw [if_pos c14] at H
        have c14b0 : decide (2147483647 < a0_3) = true := decide_eq_true c14
        clear c14
        have H' := aS H
        clear H
        have hcz15 := cK11 BK109
        go_wp2_with (first | (go_at_call 22; (with_reducible refine (msg_Right_1.calls a0_1 7 true _ A8.out).mono ?_); rintro e w' ⟨rfl, ⟨nd, rfl⟩⟩) | (go_at_call 22; (with_reducible refine (msg_Right_1.calls a0_2 7 true _ A10.out).mono ?_); rintro e w' ⟨rfl, ⟨nd, rfl⟩⟩))
        go_meet
        case rel => exact ⟨_, (true), (by first | rfl | (simp; done) | (simp [*]; done) | (simp; exact (by decide : ∀ a_ b_ : Bool, (a_ == b_) = (!a_ != b_)) _ _)), H', ⟨by first | omega | exact Nat.le_refl _⟩, ⟨by (with_reducible repeat (first | refine blk_drewN ?_ _ | refine blk_drew ?_ | refine blk_alloc ?_ _)); exact BK109.out⟩, ⟨bel⟩⟩
       ·
        rw [if_neg c14] at H
        have c14b0 : decide (2147483647 < a0_3) = false := decide_eq_false c14
        clear c14
        replace H := obm H
        obtain ⟨t112, A160, H⟩ := H
        replace H : (msg_Right.j0 k (!t112) a0_0 a0_1 a0_2 a0_3 a0_4 a0_5 a0_6 a0_7 a0_8 a0_9 l0_10) = some r := H
        have A16 := aS A160
        clear A160
        have H' := aS H
        clear H
        have hcz17 := cK11 BK109
        go_wp2_with (first | (go_at_call 22; (with_reducible refine (msg_Right_1.calls a0_1 7 true _ A8.out).mono ?_); rintro e w' ⟨rfl, ⟨nd, rfl⟩⟩) | (go_at_call 22; (with_reducible refine (msg_Right_1.calls a0_2 7 true _ A10.out).mono ?_); rintro e w' ⟨rfl, ⟨nd, rfl⟩⟩) | (go_at_call 23; (with_reducible refine (msg_bare.calls a0_0 a0_1 a0_2 a0_3 a0_4 a0_5 a0_6 a0_7 a0_8 a0_9 _ _ l0_10 t112 _ ?side1 ?side2 A16.out).mono ?_); (case side1 => exact cel (Kd.C_below HR0_10.out bel)); (case side2 => exact HC0_10.out); rintro e w18 ⟨rfl, hb⟩; have n0_ := aS (blk_below (g := gb109) (o := .cells #[.int .i64 a0_0, .int .i64 a0_1, .int .i64 a0_2, .int .i64 a0_3, .int .i64 a0_4, .int .i64 a0_5, .int .i64 a0_6, .int .i64 a0_7, .bool a0_8, .string a0_9, .slice A0_10 l0_10.length c0_10] 26 (0, 0)) (bkl BK109.out) hb); have n1_ := bstep hb; clear BK109; clear HB; have BK109 := n0_; have HB := n1_; clear n0_ n1_; (try clear hb); (try clear hb2); (try clear hk); (try clear hi)))
        go_meet
        case rel => exact ⟨_, (!t112), (by first | rfl | (simp; done) | (simp [*]; done) | (simp; exact (by decide : ∀ a_ b_ : Bool, (a_ == b_) = (!a_ != b_)) _ _)), H', ⟨by first | omega | exact Nat.le_refl _⟩, ⟨by (with_reducible repeat (first | refine blk_drewN ?_ _ | refine blk_drew ?_ | refine blk_alloc ?_ _)); exact BK109.out⟩, ⟨bel⟩⟩
     ·
      replace c11 := Bool.eq_false_iff.mpr c11
      subst c11
      have H1 : (msg_Right.j0 k true a0_0 a0_1 a0_2 a0_3 a0_4 a0_5 a0_6 a0_7 a0_8 a0_9 l0_10) = some r := by rw [if_neg (show ¬ (false = true) by decide)] at H; exact H
      clear H; have H := H1; clear H1
      have H' := aS H
      clear H
      have hcz19 := cK11 BK109
      go_wp2_with (first | (go_at_call 22; (with_reducible refine (msg_Right_1.calls a0_1 7 true _ A8.out).mono ?_); rintro e w' ⟨rfl, ⟨nd, rfl⟩⟩) | (go_at_call 22; (with_reducible refine (msg_Right_1.calls a0_2 7 false _ A10.out).mono ?_); rintro e w' ⟨rfl, ⟨nd, rfl⟩⟩))
      go_meet
      case rel => exact ⟨_, (true), (by first | rfl | (simp; done) | (simp [*]; done) | (simp; exact (by decide : ∀ a_ b_ : Bool, (a_ == b_) = (!a_ != b_)) _ _)), H', ⟨by first | omega | exact Nat.le_refl _⟩, ⟨by (with_reducible repeat (first | refine blk_drewN ?_ _ | refine blk_drew ?_ | refine blk_alloc ?_ _)); exact BK109.out⟩, ⟨bel⟩⟩
    ·
     replace c9 := Bool.eq_false_iff.mpr c9
     subst c9
     have H1 : (msg_Right.j0 k true a0_0 a0_1 a0_2 a0_3 a0_4 a0_5 a0_6 a0_7 a0_8 a0_9 l0_10) = some r := by rw [if_neg (show ¬ (false = true) by decide)] at H; exact H
     clear H; have H := H1; clear H1
     have H' := aS H
     clear H
     have hcz20 := cK11 BK109
     go_wp2_with (first | (go_at_call 22; (with_reducible refine (msg_Right_1.calls a0_1 7 false _ A8.out).mono ?_); rintro e w' ⟨rfl, ⟨nd, rfl⟩⟩))
     go_meet
     case rel => exact ⟨_, (true), (by first | rfl | (simp; done) | (simp [*]; done) | (simp; exact (by decide : ∀ a_ b_ : Bool, (a_ == b_) = (!a_ != b_)) _ _)), H', ⟨by first | omega | exact Nat.le_refl _⟩, ⟨by (with_reducible repeat (first | refine blk_drewN ?_ _ | refine blk_drew ?_ | refine blk_alloc ?_ _)); exact BK109.out⟩, ⟨bel⟩⟩
 case rest =>
  clear HC2; (try clear c1); (try clear p2); (try clear c4); (try clear c4b0); (try clear c6); (try clear c6b0); (try clear c9); (try clear c10); (try clear c11); (try clear c12); (try clear c12b0); (try clear c14); (try clear c14b0); (try clear hcz13); (try clear hcz15); (try clear hcz17); (try clear hcz19); (try clear hcz20); (try clear hcz5); (try clear hcz7)
  obtain ⟨kq, x40_1, rfl, HA, HJ1, BK109, HB⟩ := hcut
  cases kq with
  | zero => exact absurd HA.out (by simp [msg_Right.j0])
  | succ kj1 =>
   have H := HA.out; clear HA
   simp only [msg_Right.j0] at H
   by_cases c21 : x40_1 = true
   ·
    subst c21
    have H1 : (some false) = some r := by rw [if_pos rfl] at H; exact H
    clear H; have H := H1; clear H1
    obtain rfl := Option.some.inj H
    go_wp2
    go_ret
    exact ⟨rf3, bel⟩
   ·
    replace c21 := Bool.eq_false_iff.mpr c21
    subst c21
    have H1 : (if a0_0 = 3 then ((slot_Right.f a0_5 a0_6 a0_7 a0_8 a0_9).bind fun t113 => (if t113 = true then (some (a0_6 == a0_3)) else (some false))) else (if a0_0 = 4 then ((msg_Right_1.f a0_4 64).bind fun t114 => (some t114)) else ((msg_rising.f kj1 l0_10 a0_3).bind fun t115 => (some t115)))) = some r := by rw [if_neg (show ¬ (false = true) by decide)] at H; exact H
    clear H; have H := H1; clear H1
    by_cases c22 : a0_0 = 3
    ·
     rw [if_pos c22] at H
     obtain ⟨c22b0, c22b1⟩ := eqT c22
     clear c22
     replace H := obm H
     obtain ⟨t113, A230, H⟩ := H
     replace H : (if t113 = true then (some (a0_6 == a0_3)) else (some false)) = some r := H
     have A23 := aS A230
     clear A230
     by_cases c24 : t113 = true
     ·
      subst c24
      have H1 : (some (a0_6 == a0_3)) = some r := by rw [if_pos rfl] at H; exact H
      clear H; have H := H1; clear H1
      obtain rfl := Option.some.inj H
      have hcz25 := cK11 BK109
      go_wp2_with (first | ((with_reducible refine gate_callee (f := 24) rfl ?_); refine goesL_ (some 47) rfl rfl Try.func24 (by kernel_rfl) rfl #[.agg #[.int .i64 a0_5, .int .i64 a0_6, .int .i64 a0_7, .bool a0_8, .string a0_9]] rfl agn ?_; (with_reducible refine (slot_Right.calls a0_5 a0_6 a0_7 a0_8 a0_9 true _ A23.out).mono ?_); rintro e w26 ⟨rfl, hb⟩; refine ⟨_, rfl, ?_⟩; have n0_ := aS (blk_below (g := gb109) (o := .cells #[.int .i64 a0_0, .int .i64 a0_1, .int .i64 a0_2, .int .i64 a0_3, .int .i64 a0_4, .int .i64 a0_5, .int .i64 a0_6, .int .i64 a0_7, .bool a0_8, .string a0_9, .slice A0_10 l0_10.length c0_10] 26 (0, 0)) (bkl BK109.out) hb); have n1_ := bstep hb; clear BK109; clear HB; have BK109 := n0_; have HB := n1_; clear n0_ n1_; (try clear hb); (try clear hb2); (try clear hk); (try clear hi); have hcz27 := cK11 BK109))
      go_ret
      exact ⟨rf3, bel⟩
     ·
      replace c24 := Bool.eq_false_iff.mpr c24
      subst c24
      have H1 : (some false) = some r := by rw [if_neg (show ¬ (false = true) by decide)] at H; exact H
      clear H; have H := H1; clear H1
      obtain rfl := Option.some.inj H
      have hcz28 := cK11 BK109
      go_wp2_with (first | ((with_reducible refine gate_callee (f := 24) rfl ?_); refine goesL_ (some 47) rfl rfl Try.func24 (by kernel_rfl) rfl #[.agg #[.int .i64 a0_5, .int .i64 a0_6, .int .i64 a0_7, .bool a0_8, .string a0_9]] rfl agn ?_; (with_reducible refine (slot_Right.calls a0_5 a0_6 a0_7 a0_8 a0_9 false _ A23.out).mono ?_); rintro e w29 ⟨rfl, hb⟩; refine ⟨_, rfl, ?_⟩; have n0_ := aS (blk_below (g := gb109) (o := .cells #[.int .i64 a0_0, .int .i64 a0_1, .int .i64 a0_2, .int .i64 a0_3, .int .i64 a0_4, .int .i64 a0_5, .int .i64 a0_6, .int .i64 a0_7, .bool a0_8, .string a0_9, .slice A0_10 l0_10.length c0_10] 26 (0, 0)) (bkl BK109.out) hb); have n1_ := bstep hb; clear BK109; clear HB; have BK109 := n0_; have HB := n1_; clear n0_ n1_; (try clear hb); (try clear hb2); (try clear hk); (try clear hi)))
      go_ret
      exact ⟨rf3, bel⟩
    ·
     rw [if_neg c22] at H
     obtain ⟨c22b0, c22b1⟩ := eqF c22
     by_cases c30 : a0_0 = 4
     ·
      rw [if_pos c30] at H
      obtain ⟨c30b0, c30b1⟩ := eqT c30
      clear c30
      replace H := obm H
      obtain ⟨t114, A310, H⟩ := H
      replace H : (some t114) = some r := H
      have A31 := aS A310
      clear A310
      obtain rfl := Option.some.inj H
      have hcz32 := cK11 BK109
      go_wp2_with (first | (go_at_call 22; (with_reducible refine (msg_Right_1.calls a0_4 64 t114 _ A31.out).mono ?_); rintro e w' ⟨rfl, ⟨nd, rfl⟩⟩))
      go_ret
      exact ⟨rf3, bel⟩
     ·
      rw [if_neg c30] at H
      obtain ⟨c30b0, c30b1⟩ := eqF c30
      replace H := obm H
      obtain ⟨t115, A330, H⟩ := H
      replace H : (some t115) = some r := H
      have A33 := aS A330
      clear A330
      obtain rfl := Option.some.inj H
      have hcz34 := cK11 BK109
      go_wp2_with (first | ((with_reducible refine gate_callee (f := 25) rfl ?_); refine goesL_ (some 66) rfl rfl Try.func25 (by kernel_rfl) rfl #[.slice A0_10 l0_10.length c0_10, .int .i64 a0_3] rfl agn ?_; (with_reducible refine (msg_rising.calls kj1 _ _ l0_10 a0_3 t115 _ ?side1 ?side2 A33.out).mono ?_); (case side1 => exact cel (Kd.C_below HR0_10.out HB.out)); (case side2 => exact HC0_10.out); rintro e w35 ⟨rfl, hb⟩; refine ⟨_, rfl, ?_⟩; have n0_ := aS (blk_below (g := gb109) (o := .cells #[.int .i64 a0_0, .int .i64 a0_1, .int .i64 a0_2, .int .i64 a0_3, .int .i64 a0_4, .int .i64 a0_5, .int .i64 a0_6, .int .i64 a0_7, .bool a0_8, .string a0_9, .slice A0_10 l0_10.length c0_10] 26 (0, 0)) (bkl BK109.out) hb); have n1_ := bstep hb; clear BK109; clear HB; have BK109 := n0_; have HB := n1_; clear n0_ n1_; (try clear hb); (try clear hb2); (try clear hk); (try clear hi)))
      go_ret
      exact ⟨rf3, bel⟩

/-! ### wire_Num: function 17 -/
def wire_Num.f (a0 : Int) : Option (List Int) := if a0 < 0 then (some ([] : List Int)) else (if a0 > 4294967295 then (some ([] : List Int)) else (some (([(a0 / 16777216) % 256, (a0 / 65536) % 256, (a0 / 256) % 256, (a0) % 256] : List Int))))
set_option maxHeartbeats 8000000 in
set_option maxRecDepth 100000 in
theorem wire_Num.calls (a0 : Int) (r : List Int) (w : World) (h : wire_Num.f a0 = some r) :
  Calls Try.prog 17 #[.int .i64 a0] w fun e w' => ∃ v0_ : Value, e = .returned (v0_) ∧ Kd.R (Kd.int .u8) 5 w' w.heap.size (fun _ => True) v0_ r ∧ Below w.heap.size w w' := by
 have HB := aS (Below.refl w.heap.size w)
 have H : (if a0 < 0 then (some ([] : List Int)) else (if a0 > 4294967295 then (some ([] : List Int)) else (some (([(a0 / 16777216) % 256, (a0 / 65536) % 256, (a0 / 256) % 256, (a0) % 256] : List Int))))) = some r := h
 clear h
 by_cases c2 : a0 < 0
 ·
  rw [if_pos c2] at H
  have c2b0 : decide (a0 < 0) = true := decide_eq_true c2
  clear c2
  obtain rfl := Option.some.inj H
  go_enter Try.func17, Try.ntmps17
  go_wp2
  go_ret
  exact ⟨_, rf3, by first | exact Kd.R_nil _ _ _ _ _ | exact Kd.N_nil _ _ _ _ _ | exact Kd.V_nil _ _ _ _ _ | exact Kd.Q_nil _ _ _ _ _ | exact Kd.S_nil _ _ _ _ _, bel⟩
 ·
  rw [if_neg c2] at H
  have c2b0 : decide (a0 < 0) = false := decide_eq_false c2
  clear c2
  by_cases c3 : a0 > 4294967295
  ·
   rw [if_pos c3] at H
   have c3b0 : decide (4294967295 < a0) = true := decide_eq_true c3
   clear c3
   obtain rfl := Option.some.inj H
   go_enter Try.func17, Try.ntmps17
   go_wp2
   go_ret
   exact ⟨_, rf3, by first | exact Kd.R_nil _ _ _ _ _ | exact Kd.N_nil _ _ _ _ _ | exact Kd.V_nil _ _ _ _ _ | exact Kd.Q_nil _ _ _ _ _ | exact Kd.S_nil _ _ _ _ _, bel⟩
  ·
   rw [if_neg c3] at H
   have c3b0 : decide (4294967295 < a0) = false := decide_eq_false c3
   clear c3
   obtain ⟨y116, hy116⟩ : ∃ y_ : List Int, y_ = (([(a0 / 16777216) % 256, (a0 / 65536) % 256, (a0 / 256) % 256, (a0) % 256] : List Int)) := ⟨_, rfl⟩
   replace H : (some y116) = some r := by first | (rw [hy116]; with_reducible exact H) | (have H2_ := (Option.bind_some _ _).symm.trans H; rw [hy116]; with_reducible exact H2_) | (have H2_ := (Option.bind_some _ _).symm.trans H; with_reducible exact H2_) | with_reducible exact H | (rw [hy116]; exact H) | exact H
   have Ny116 := aS hy116
   clear hy116
   obtain rfl := Option.some.inj H
   go_enter Try.func17, Try.ntmps17
   go_wp2_with (first | ((with_reducible refine gate_dst (N := 20) rfl ?_); refine Kd.R_lit (Kd.int .u8) _ 5 ?hg (N := 20) ?hd (xs := ([(a0 / 16777216) % 256, (a0 / 65536) % 256, (a0 / 256) % 256, (a0) % 256] : List Int)) (inner := [.int .u8 ((a0 / 16777216) % 256), .int .u8 ((a0 / 65536) % 256), .int .u8 ((a0 / 256) % 256), .int .u8 ((a0) % 256)]) (ok := fun _ => True) (okp := fun _ => True) ?hr ?hp (fun _ hk => hk) trivial (Below.refl _ _) (Nat.le_refl _) (by simp) ?_; (case hd => rfl); (case hg => rfl); (case hr => first | (go_simp; done) | (go_simp; rfl)); (case hp => exact (Reps.one (show Kd.M (Kd.int .u8) _ _ _ ((a0 / 16777216) % 256) [.int .u8 ((a0 / 16777216) % 256)] from rfl) (Reps.one (show Kd.M (Kd.int .u8) _ _ _ ((a0 / 65536) % 256) [.int .u8 ((a0 / 65536) % 256)] from rfl) (Reps.one (show Kd.M (Kd.int .u8) _ _ _ ((a0 / 256) % 256) [.int .u8 ((a0 / 256) % 256)] from rfl) (Reps.one (show Kd.M (Kd.int .u8) _ _ _ ((a0) % 256) [.int .u8 ((a0) % 256)] from rfl) (Reps.none _ _)))))); intro v117 w4 ho5 hb hg_ hnew_; clear hg_ hnew_; (first | rw [← Ny116.out] at ho5 | (simp only [Int.reduceToNat] at ho5; rw [← Ny116.out] at ho5)); have n0_ := aS (Kd.R_lower ho5 (below_size bel)); have n1_ := bstep hb; clear HB; have HO118 := n0_; have HB := n1_; clear n0_ n1_; clear hb ho5))
   go_ret
   exact ⟨_, rf3, by (with_reducible repeat (first | apply Kd.R_alloc | apply Kd.R_drewN | apply Kd.R_drew)); exact HO118.out, bel⟩

/-! ### wire_Text: function 19 -/
def wire_Text.f (a0 : ByteArray) : Option (List Int) := (wire_Num.f (a0.size : Int)).bind fun t119 => (if t119.length + a0.size < 140737488355328 then (some (t119 ++ bytesOf a0)) else (none))
set_option maxHeartbeats 8000000 in
set_option maxRecDepth 100000 in
theorem wire_Text.calls (a0 : ByteArray) (r : List Int) (w : World) (h : wire_Text.f a0 = some r) :
  Calls Try.prog 19 #[.string a0] w fun e w' => ∃ v0_ : Value, e = .returned (v0_) ∧ Kd.R (Kd.int .u8) 5 w' w.heap.size (fun _ => True) v0_ r ∧ Below w.heap.size w w' := by
 have HB := aS (Below.refl w.heap.size w)
 have H : ((wire_Num.f (a0.size : Int)).bind fun t119 => (if t119.length + a0.size < 140737488355328 then (some (t119 ++ bytesOf a0)) else (none))) = some r := h
 clear h
 replace H := obm H
 obtain ⟨t119, A20, H⟩ := H
 replace H : (if t119.length + a0.size < 140737488355328 then (some (t119 ++ bytesOf a0)) else (none)) = some r := H
 have A2 := aS A20
 clear A20
 by_cases c3 : t119.length + a0.size < 140737488355328
 ·
  rw [if_pos c3] at H
  have LMc3 := aS c3
  clear c3
  obtain ⟨y122, hy122⟩ : ∃ y_ : List Int, y_ = (t119 ++ bytesOf a0) := ⟨_, rfl⟩
  replace H : (some y122) = some r := by first | (rw [hy122]; with_reducible exact H) | (have H2_ := (Option.bind_some _ _).symm.trans H; rw [hy122]; with_reducible exact H2_) | (have H2_ := (Option.bind_some _ _).symm.trans H; with_reducible exact H2_) | with_reducible exact H | (rw [hy122]; exact H) | exact H
  have Ny122 := aS hy122
  clear hy122
  obtain rfl := Option.some.inj H
  go_enter Try.func19, Try.ntmps19
  go_wp2_with (first | ((with_reducible refine gate_callee (f := 17) rfl ?_); refine goesL_ (some 5) rfl rfl Try.func17 (by kernel_rfl) rfl #[.int .i64 (a0.size : Int)] rfl agn ?_; (with_reducible refine (wire_Num.calls (a0.size : Int) t119 _ A2.out).mono ?_); rintro e w4 ⟨v120, rfl, ho0, hb⟩; refine ⟨_, rfl, ?_⟩; have n0_ := aS (Kd.R_lower ho0 (below_size bel)); have n1_ := bstep hb; clear HB; have HO121 := n0_; have HB := n1_; clear n0_ n1_; (try clear hb); (try clear hb2); (try clear hk); (try clear hi); (try clear ho0)) | (at_builtin; refine print_append_str (w0 := w) w.heap.size rfl (.tmp 5) _ 29 9 5 rfl Try.underlying29 Try.underlying9 info5 v120 t119 a0 rfl rfl ?aO ?aB ?aS ?aL ?_; (case aB => exact bel); (case aO => exact (Kd.own_of_R (rel HO121.out))); (case aS => exact (below_size bel)); (case aL => have := LMc3.out; omega); intro v123 w5 ho0 hb hg; have ho := Kd.R_of_own (h1 := fun _ => rfl) (ok := fun _ => True) ho0 (fun _ _ => trivial); clear ho0; have hat := True.intro; rw [← Ny122.out] at ho; change Kd.R (Kd.int .u8) 5 w5 w.heap.size (fun _ => True) v123 y122 at ho; have n0_ := aS (hb); have n1_ := aS (ho); clear HB; clear HO121; have HB := n0_; have HO124 := n1_; clear n0_ n1_; clear ho hb hg hat))
  go_ret
  exact ⟨_, rf3, by (with_reducible repeat (first | apply Kd.R_alloc | apply Kd.R_drewN | apply Kd.R_drew)); exact HO124.out, bel⟩
 ·
  rw [if_neg c3] at H
  exact absurd H (by simp)

/-! ### slices_Grow_byte_byte: function 49 -/
-- its contract stands with slices.Concat's

/-! ### slices_Concat_byte_byte: function 42 -/
theorem slices_Concat_byte_byte_g0 (w : World) : Calls Try.prog 49 #[.slice none 0 0, .int .i64 0] w fun e w' => e = .returned (.slice none 0 0) ∧ w = w' := by
 go_enter Try.func49, Try.ntmps49
 go_wp2
 go_ret
 exact ⟨rfl, rfl⟩
theorem slices_Concat_byte_byte_g1 (n : Int) (w : World) (h0 : 0 < n) (hn : n ≤ 140737488355328) : Calls Try.prog 49 #[.slice none 0 0, .int .i64 n] w fun e w' => ∃ v0_ : Value, e = .returned v0_ ∧ Kd.R (Kd.int .u8) 5 w' w.heap.size (fun _ => True) v0_ [] ∧ Below w.heap.size w w' := by
 have p1 : ¬ n < 0 := by omega
 have p3 : 0 ≤ n := by omega
 obtain ⟨i0, hi0, _, _, _⟩ := info_parts info5
 have hcut0 := cut_to (P := Try.prog) 29 5 .i64 Try.underlying29 hi0 none 0 0 0 (by omega) (by omega) (by omega)
 go_enter Try.func49, Try.ntmps49
 go_wp2_with (first
  | (at_builtin; refine Kd.R_append_zeros (Kd.int .u8) (w0 := w) w.heap.size rfl (.tmp 20) (.tmp 21) 29 3 5 (.int .u8 0) 1 rfl Try.underlying29 Try.underlying3 info5 rfl (by decide) (by omega) (.slice none 0 0) [] 0 (n : Int) (fun _ => True) rfl rfl rfl (fun _ _ => trivial) (Kd.R_nil _ _ _ _ _) p3 (Below.refl _ _) (Nat.le_refl _) (by simp; omega) ?_; intro v1 w1 ho hb hg hat; clear hg hat; obtain ⟨A1, c1, rfl⟩ := Kd.R_slice ho; have ht := Kd.R_take (m := 0) ho (Nat.zero_le _); have HO := aS ht; have HB := aS hb; have hcut1 := cut_to (P := Try.prog) 29 5 .i64 Try.underlying29 hi0 A1 ([] ++ List.replicate n.toNat (0 : Int)).length c1 0 (by omega) (by omega) (Kd.R_reads' ho).2.1; clear ho hb ht))
 go_ret
 exact ⟨_, rfl, HO.out, HB.out⟩
def slices_Concat_byte_byte.f (l0 : List (List Int)) : Option (List Int) := if lenSum l0 ≤ 140737488355328 then some l0.flatten else none
set_option maxHeartbeats 2000000 in
theorem slices_Concat_byte_byte.calls (A0 : Option Addr) (c0 : Nat) (l0 : List (List Int)) (r : List Int) (w : World) (hr0 : Kd.C (Kd.slice 5 (Kd.int .u8)) w A0 l0.length l0) (hc0 : l0.length ≤ c0) (h : slices_Concat_byte_byte.f l0 = some r) :
  Calls Try.prog 42 #[.slice A0 l0.length c0] w fun e w' => ∃ v0_ : Value, e = .returned (v0_) ∧ Kd.R (Kd.int .u8) 5 w' w.heap.size (fun _ => True) v0_ r ∧ Below w.heap.size w w' := by
 unfold slices_Concat_byte_byte.f at h
 split at h
 rotate_left
 ·
  cases h
 rename_i hlim
 obtain rfl := Option.some.inj h
 clear h
 have HL := aS hlim
 have HR := aS hr0
 have HM := aS (Kd.C_max hr0)
 clear hlim hr0 hc0
 go_enter Try.func42, Try.ntmps42
 go_wp2
 go_loop [3, 11] (fun s i => ∃ k : Nat, i = .int .i64 (k : Int) ∧ s = .int .i64 ((lenSum (l0.take k) : Nat) : Int) ∧ Aside0 (k ≤ l0.length)) (fun _ i => l0.length - (intOf i).toNat)
 case atStart => exact ⟨0, rfl, by simp [lenSum], ⟨Nat.zero_le _⟩⟩
 case round =>
  obtain ⟨k, rfl, rfl, hk⟩ := hrel
  by_cases hlt : k < l0.length
  ·
   obtain ⟨ad, A1, c1, rfl, hcell, hl1, hC1⟩ := at_L5 HR.out (k : Int) (by omega) (by omega)
   rw [Int.toNat_natCast] at hcell
   have b1 : lenSum (l0.take (k + 1)) = lenSum (l0.take k) + (rd_L5 l0 (k : Int)).length := lenSum_take l0 k hlt
   have b2 := lenSum_le l0 (k + 1)
   have b3 := HL.out
   have b4 : ((lenSum (l0.take k) : Nat) : Int) + ((rd_L5 l0 (k : Int)).length : Int) ≤ 140737488355328 := by omega
   have e1 : ((lenSum (l0.take k) : Nat) : Int) + ((rd_L5 l0 (k : Int)).length : Int) = ((lenSum (l0.take (k + 1)) : Nat) : Int) := by omega
   have E1 := aS e1
   have b5 := HM.out; clear b1 b2 b3 e1 hl1 hC1
   go_wp2
   go_round
   case rel => exact ⟨k + 1, by go_num, by rw [E1.out], ⟨by omega⟩⟩
   case measure => simp [intOf]; omega
  ·
   have hkl : k = l0.length := by have := hk.out; omega
   subst hkl
   rw [List.take_length]
   have b0 := HL.out
   by_cases hz : lenSum l0 = 0
   all_goals
    go_wp2_with (first
     | (go_at_call 49; rw [hz]; refine (slices_Concat_byte_byte_g0 _).mono ?_; rintro e w1 ⟨rfl, rfl⟩; have HB := aS (Below.refl w.heap.size w); have HO := aS (Kd.R_nil (Kd.int .u8) 5 w w.heap.size (fun _ => True)))
     | (go_at_call 49; refine (slices_Concat_byte_byte_g1 _ _ (by omega) (by omega)).mono ?_; rintro e w1 ⟨v0, rfl, ho, hb⟩; have HO := aS ho; have HB := aS hb; clear ho hb))
    go_loopw [6, 27] (fun v i w2 => ∃ k : Nat, i = .int .i64 (k : Int) ∧ Aside0 (k ≤ l0.length) ∧ Aside0 (Kd.R (Kd.int .u8) 5 w2 w.heap.size (fun _ => True) v (l0.take k).flatten) ∧ Aside0 (Below w.heap.size w w2)) (fun _ i _ => l0.length - (intOf i).toNat)
    case atStart => exact ⟨0, rfl, ⟨Nat.zero_le _⟩, HO, HB⟩
    case round =>
     clear HO HB
     obtain ⟨k, rfl, hk1, HO1, HB1⟩ := hrel
     by_cases hlt : k < l0.length
     ·
      obtain ⟨ad, A1, c1, rfl, hcell, hl1, hC1⟩ := at_L5 (Kd.C_below HR.out HB1.out) (k : Int) (by omega) (by omega)
      rw [Int.toNat_natCast] at hcell
      have b1 : lenSum (l0.take (k + 1)) = lenSum (l0.take k) + (rd_L5 l0 (k : Int)).length := lenSum_take l0 k hlt
      have b2 := lenSum_le l0 (k + 1)
      have b3 : lenSum (l0.take k) + (rd_L5 l0 (k : Int)).length ≤ 140737488355328 := by omega
      have B3 := aS b3
      have F3 := aS (show (l0.take (k + 1)).flatten = (l0.take k).flatten ++ rd_L5 l0 (k : Int) from flat_take l0 k hlt)
      have HC1 := aS hC1
      have b5 := HM.out; clear b1 b2 hl1 hC1 b0 b3
      go_wp2_with (first
       | (at_builtin; refine Kd.R_append_row (Value.int .u8) (0 : Int) (h1 := fun _ => rfl) (w0 := w) w.heap.size rfl (.tmp 31) (.tmp 32) 29 5 _ 1 rfl Try.underlying29 info5 rfl (by decide) _ (l0.take k).flatten (rd_L5 l0 (k : Int)) A1 (rd_L5 l0 (k : Int)).length c1 (fun _ => True) rfl rfl (fun _ _ => trivial) HO1.out HC1.out HB1.out HB1.out.size (by rw [flat_length]; have := B3.out; omega) ?_; intro v2 w3 ho hb hg hat; clear hg hat; rw [← F3.out] at ho; have HO2 := aS ho; have HB2 := aS hb; clear ho hb))
      go_roundw
      case rel => exact ⟨k + 1, by go_num, ⟨by omega⟩, HO2, HB2⟩
      case measure => simp [intOf]; omega
     ·
      have hkl : k = l0.length := by have := hk1.out; omega
      subst hkl
      rw [List.take_length] at HO1
      go_wp2
      go_ret
      exact ⟨_, rfl, HO1.out, HB1.out⟩

/-! ### slot_full: function 43 -/
def slot_full.f (a0 : Bool) : Option (Int) := if a0 = true then (some 1) else (some 0)
set_option maxHeartbeats 8000000 in
set_option maxRecDepth 100000 in
theorem slot_full.calls (a0 : Bool) (r : Int) (w : World) (h : slot_full.f a0 = some r) :
  Calls Try.prog 43 #[.bool a0] w fun e w' => e = .returned (.int .i64 r) ∧ Drawn0 w w' := by
 have H : (if a0 = true then (some 1) else (some 0)) = some r := h
 clear h
 by_cases c2 : a0 = true
 ·
  subst c2
  have H1 : (some 1) = some r := by rw [if_pos rfl] at H; exact H
  clear H; have H := H1; clear H1
  obtain rfl := Option.some.inj H
  go_enter Try.func43, Try.ntmps43
  go_wp2
  go_ret
  exact ⟨by first | rfl | (simp; done) | (simp [*]; done) | (simp; exact (by decide : ∀ a_ b_ : Bool, (a_ == b_) = (!a_ != b_)) _ _), by repeat (first | exact Drawn0.refl _ | apply Drawn0.step)⟩
 ·
  replace c2 := Bool.eq_false_iff.mpr c2
  subst c2
  have H1 : (some 0) = some r := by rw [if_neg (show ¬ (false = true) by decide)] at H; exact H
  clear H; have H := H1; clear H1
  obtain rfl := Option.some.inj H
  go_enter Try.func43, Try.ntmps43
  go_wp2
  go_ret
  exact ⟨by first | rfl | (simp; done) | (simp [*]; done) | (simp; exact (by decide : ∀ a_ b_ : Bool, (a_ == b_) = (!a_ != b_)) _ _), by repeat (first | exact Drawn0.refl _ | apply Drawn0.step)⟩

/-! ### slot_Put: function 18 -/
def slot_Put.f (a0_0 : Int) (a0_1 : Int) (a0_2 : Int) (a0_3 : Bool) (a0_4 : ByteArray) : Option (List Int × Int) := (slot_Right.f a0_0 a0_1 a0_2 a0_3 a0_4).bind fun t126 => (if t126 = true then ((wire_Num.f 2).bind fun t127 => ((wire_Num.f a0_0).bind fun t130 => ((wire_Num.f a0_1).bind fun t133 => ((wire_Num.f a0_2).bind fun t136 => ((slot_full.f a0_3).bind fun t139 => ((wire_Num.f t139).bind fun t140 => ((wire_Text.f a0_4).bind fun t143 => ((slices_Concat_byte_byte.f (([t127, t130, t133, t136, t140, t143] : List (List Int)))).bind fun t149 => (some (t149, 0)))))))))) else (some (([] : List Int), 1)))
def slot_Put.T3 : Bool × List (List Nat × List Nat) := (true, [([], []), ([], []), ([1], [1]), ([2, 0], [2]), ([], []), ([4], [4]), ([5, 3], [5]), ([], []), ([7], [7]), ([8, 6], [8]), ([], []), ([10], [10]), ([11, 9], [11]), ([12, 12], [12]), ([], []), ([14], [14]), ([15, 13], [15]), ([0, 3, 6, 9, 13, 16], [0, 3, 6, 9, 13, 16]), ([17, 16], [17]), ([18, 18, 0, 1, 2, 3, 4, 5, 6, 7, 8, 9, 10, 11, 12, 13, 14, 15, 16, 17, 18], [18]), ([19, 0, 1, 2, 3, 4, 5, 6, 7, 8, 9, 10, 11, 12, 13, 14, 15, 16, 17, 18, 19], [])])
def slot_Put.B3 : List Nat := [0, 0, 2, 7, 0, 16, 63, 0, 128, 511, 0, 1024, 4095, 8191, 0, 16384, 65535, 131071, 262143, 524287, 1048575]
theorem slot_Put.tab3 : rtab .any (opsOf Try.f18 3) = slot_Put.T3 := by kernel_rfl
theorem slot_Put.bits3 : waitsOk slot_Put.T3.2 slot_Put.B3 = true := by kernel_rfl
set_option maxHeartbeats 8000000 in
set_option maxRecDepth 100000 in
theorem slot_Put.calls (a0_0 : Int) (a0_1 : Int) (a0_2 : Int) (a0_3 : Bool) (a0_4 : ByteArray) (r1 : List Int) (r2 : Int) (w : World) (h : slot_Put.f a0_0 a0_1 a0_2 a0_3 a0_4 = some (r1, r2)) :
  Calls Try.prog 18 #[.agg #[.int .i64 a0_0, .int .i64 a0_1, .int .i64 a0_2, .bool a0_3, .string a0_4]] w fun e w' => ∃ v0_ : Value, e = .returned (.tuple #[v0_, .int .i64 r2]) ∧ Kd.R (Kd.int .u8) 5 w' w.heap.size (fun _ => True) v0_ r1 ∧ Below w.heap.size w w' := by
 have hu23 := Try.underlying23
 have HB := aS (Below.refl w.heap.size w)
 have H : ((slot_Right.f a0_0 a0_1 a0_2 a0_3 a0_4).bind fun t126 => (if t126 = true then ((wire_Num.f 2).bind fun t127 => ((wire_Num.f a0_0).bind fun t130 => ((wire_Num.f a0_1).bind fun t133 => ((wire_Num.f a0_2).bind fun t136 => ((slot_full.f a0_3).bind fun t139 => ((wire_Num.f t139).bind fun t140 => ((wire_Text.f a0_4).bind fun t143 => ((slices_Concat_byte_byte.f (([t127, t130, t133, t136, t140, t143] : List (List Int)))).bind fun t149 => (some (t149, 0)))))))))) else (some (([] : List Int), 1)))) = some (r1, r2) := h
 clear h
 replace H := obm H
 obtain ⟨t126, A20, H⟩ := H
 replace H : (if t126 = true then ((wire_Num.f 2).bind fun t127 => ((wire_Num.f a0_0).bind fun t130 => ((wire_Num.f a0_1).bind fun t133 => ((wire_Num.f a0_2).bind fun t136 => ((slot_full.f a0_3).bind fun t139 => ((wire_Num.f t139).bind fun t140 => ((wire_Text.f a0_4).bind fun t143 => ((slices_Concat_byte_byte.f (([t127, t130, t133, t136, t140, t143] : List (List Int)))).bind fun t149 => (some (t149, 0)))))))))) else (some (([] : List Int), 1))) = some (r1, r2) := H
 have A2 := aS A20
 clear A20
 by_cases c3 : t126 = true
 ·
  subst c3
  have H1 : ((wire_Num.f 2).bind fun t127 => ((wire_Num.f a0_0).bind fun t130 => ((wire_Num.f a0_1).bind fun t133 => ((wire_Num.f a0_2).bind fun t136 => ((slot_full.f a0_3).bind fun t139 => ((wire_Num.f t139).bind fun t140 => ((wire_Text.f a0_4).bind fun t143 => ((slices_Concat_byte_byte.f (([t127, t130, t133, t136, t140, t143] : List (List Int)))).bind fun t149 => (some (t149, 0)))))))))) = some (r1, r2) := by rw [if_pos rfl] at H; exact H
  clear H; have H := H1; clear H1
  replace H := obm H
  obtain ⟨t127, A40, H⟩ := H
  replace H : ((wire_Num.f a0_0).bind fun t130 => ((wire_Num.f a0_1).bind fun t133 => ((wire_Num.f a0_2).bind fun t136 => ((slot_full.f a0_3).bind fun t139 => ((wire_Num.f t139).bind fun t140 => ((wire_Text.f a0_4).bind fun t143 => ((slices_Concat_byte_byte.f (([t127, t130, t133, t136, t140, t143] : List (List Int)))).bind fun t149 => (some (t149, 0))))))))) = some (r1, r2) := H
  have A4 := aS A40
  clear A40
  replace H := obm H
  obtain ⟨t130, A50, H⟩ := H
  replace H : ((wire_Num.f a0_1).bind fun t133 => ((wire_Num.f a0_2).bind fun t136 => ((slot_full.f a0_3).bind fun t139 => ((wire_Num.f t139).bind fun t140 => ((wire_Text.f a0_4).bind fun t143 => ((slices_Concat_byte_byte.f (([t127, t130, t133, t136, t140, t143] : List (List Int)))).bind fun t149 => (some (t149, 0)))))))) = some (r1, r2) := H
  have A5 := aS A50
  clear A50
  replace H := obm H
  obtain ⟨t133, A60, H⟩ := H
  replace H : ((wire_Num.f a0_2).bind fun t136 => ((slot_full.f a0_3).bind fun t139 => ((wire_Num.f t139).bind fun t140 => ((wire_Text.f a0_4).bind fun t143 => ((slices_Concat_byte_byte.f (([t127, t130, t133, t136, t140, t143] : List (List Int)))).bind fun t149 => (some (t149, 0))))))) = some (r1, r2) := H
  have A6 := aS A60
  clear A60
  replace H := obm H
  obtain ⟨t136, A70, H⟩ := H
  replace H : ((slot_full.f a0_3).bind fun t139 => ((wire_Num.f t139).bind fun t140 => ((wire_Text.f a0_4).bind fun t143 => ((slices_Concat_byte_byte.f (([t127, t130, t133, t136, t140, t143] : List (List Int)))).bind fun t149 => (some (t149, 0)))))) = some (r1, r2) := H
  have A7 := aS A70
  clear A70
  replace H := obm H
  obtain ⟨t139, A80, H⟩ := H
  replace H : ((wire_Num.f t139).bind fun t140 => ((wire_Text.f a0_4).bind fun t143 => ((slices_Concat_byte_byte.f (([t127, t130, t133, t136, t140, t143] : List (List Int)))).bind fun t149 => (some (t149, 0))))) = some (r1, r2) := H
  have A8 := aS A80
  clear A80
  replace H := obm H
  obtain ⟨t140, A90, H⟩ := H
  replace H : ((wire_Text.f a0_4).bind fun t143 => ((slices_Concat_byte_byte.f (([t127, t130, t133, t136, t140, t143] : List (List Int)))).bind fun t149 => (some (t149, 0)))) = some (r1, r2) := H
  have A9 := aS A90
  clear A90
  replace H := obm H
  obtain ⟨t143, A100, H⟩ := H
  replace H : ((slices_Concat_byte_byte.f (([t127, t130, t133, t136, t140, t143] : List (List Int)))).bind fun t149 => (some (t149, 0))) = some (r1, r2) := H
  have A10 := aS A100
  clear A100
  obtain ⟨y146, hy146⟩ : ∃ y_ : List (List Int), y_ = (([t127, t130, t133, t136, t140, t143] : List (List Int))) := ⟨_, rfl⟩
  replace H : ((slices_Concat_byte_byte.f y146).bind fun t149 => (some (t149, 0))) = some (r1, r2) := by first | (rw [hy146]; with_reducible exact H) | (have H2_ := (Option.bind_some _ _).symm.trans H; rw [hy146]; with_reducible exact H2_) | (have H2_ := (Option.bind_some _ _).symm.trans H; with_reducible exact H2_) | with_reducible exact H | (rw [hy146]; exact H) | exact H
  have Ny146 := aS hy146
  clear hy146
  replace H := obm H
  obtain ⟨t149, A110, H⟩ := H
  replace H : (some (t149, 0)) = some (r1, r2) := H
  have A11 := aS A110
  clear A110
  simp only [Option.some.injEq, Prod.mk.injEq] at H
  obtain ⟨rfl, rfl⟩ := H
  go_enter Try.func18, Try.ntmps18
  try go_wp2_with (first | ((with_reducible refine gate_dst (N := 1) rfl ?_); refine box_event ?hg (N := 1) ?hd (cs := #[.int .i64 a0_0, .int .i64 a0_1, .int .i64 a0_2, .bool a0_3, .string a0_4]) (t := 23) ?hr ?_; (case hd => rfl); (case hg => rfl); (case hr => first | (go_simp; done) | (go_simp; rfl)); intro gb125 hg w12 hbox hb; have n0_ := bstep hb; have n1_ := aS (hbox); have n2_ := bsize hg; have n3_ := bsize hg; clear HB; have HB := n0_; have BK125 := n1_; have GW125 := n2_; have GE125 := n3_; clear n0_ n1_ n2_ n3_; clear hb hbox hg; have hcz13 := cK5 BK125) | ((with_reducible refine gate_callee (f := 24) rfl ?_); refine goesL_ (some 5) rfl rfl Try.func24 (by kernel_rfl) rfl #[.agg #[.int .i64 a0_0, .int .i64 a0_1, .int .i64 a0_2, .bool a0_3, .string a0_4]] rfl agn ?_; (with_reducible refine (slot_Right.calls a0_0 a0_1 a0_2 a0_3 a0_4 true _ A2.out).mono ?_); rintro e w14 ⟨rfl, hb⟩; refine ⟨_, rfl, ?_⟩; have n0_ := aS (blk_below (g := gb125) (o := .cells #[.int .i64 a0_0, .int .i64 a0_1, .int .i64 a0_2, .bool a0_3, .string a0_4] 23 (0, 0)) (bkl BK125.out) hb); have n1_ := bstep hb; clear BK125; clear HB; have BK125 := n0_; have HB := n1_; clear n0_ n1_; (try clear hb); (try clear hb2); (try clear hk); (try clear hi)))
  have n0_ := aS (blk_drew BK125.out)
  have n1_ := aS (bdo HB.out)
  clear BK125; clear HB
  have BK125 := n0_
  have HB := n1_
  clear n0_ n1_
  refine start_ (n := 21) (S := fun w' => w'.cell? ⟨gb125, 0, none⟩ = some (.int .i64 a0_0) ∧ w'.cell? ⟨gb125, 1, none⟩ = some (.int .i64 a0_1) ∧ w'.cell? ⟨gb125, 2, none⟩ = some (.int .i64 a0_2) ∧ w'.cell? ⟨gb125, 3, none⟩ = some (.bool a0_3) ∧ w'.cell? ⟨gb125, 4, none⟩ = some (.string a0_4)) (ds := []) #[false, false, false, false, false, false, false, false, false, false, false, false, false, false, false, false, false, false, false, false, false] (by kernel_rfl) rfl rfl ⟨(blk_cell BK125.out 0).trans rfl, (blk_cell BK125.out 1).trans rfl, (blk_cell BK125.out 2).trans rfl, (blk_cell BK125.out 3).trans rfl, (blk_cell BK125.out 4).trans rfl⟩ (fun hHeld => ?_); refine with_tabW slot_Put.tab3 slot_Put.bits3 (fun HT_ HW_ => ?_)
  generalize w14.drew = w15 at BK125 HB hHeld ⊢
  refine along_ [(1, 8), (4, 11), (7, 14), (10, 17), (14, 21), (2, 9), (5, 12), (8, 15), (11, 18), (15, 22)] ?_
  iterate 10 (first | (apply pure1 HT_; (case hi => rfl); (case hN => rfl); (case hw => rfl); (case hc => kernel_rfl); (case hQ => exact fun _ _ _ h => h); (case hy => intro w'; go_simp; with_reducible rfl); (case ha => simp only [Act.put, lsa, lsz, lss, i64_w, i32_w]; rfl)) | (apply take1 HT_ HW_ hHeld; (case hi => rfl); (case hN => rfl); (case hw => rfl); (case hc => kernel_rfl); (case hQ => exact fun _ _ _ h => h); (case hy => intro w' hs_; go_simp; with_reducible rfl); (case ha => simp only [Act.put, lsa, lsz, lss, i64_w, i32_w]; rfl)))
  refine lay_ #[false, true, true, false, true, true, false, true, true, false, true, true, false, false, true, true, false, false, false, false, false] (by kernel_rfl) ?_
  refine one_ (i := 0) (N := some 7) #[true, true, true, false, true, true, false, true, true, false, true, true, false, false, true, true, false, false, false, false, false] rfl rfl (one_of HT_.out (by kernel_rfl)) (by decide) (fun K hK => ?_)
  refine goes_ Try.func17 (by kernel_rfl) rfl #[.int .i64 2] (by rfl) rfl rfl agn ?_
  with_reducible refine (wire_Num.calls 2 t127 _ A4.out).mono ?_
  rintro e w16 ⟨v128, rfl, ho0, hb⟩
  refine ⟨_, rfl, ?_⟩
  have n0_ := aS (Kd.R_lower ho0 (below_size bel))
  have n1_ := aS (blk_below (g := gb125) (o := .cells #[.int .i64 a0_0, .int .i64 a0_1, .int .i64 a0_2, .bool a0_3, .string a0_4] 23 (0, 0)) (bkl BK125.out) hb)
  have n2_ := bstep hb
  clear BK125; clear HB
  have HO129 := n0_
  have BK125 := n1_
  have HB := n2_
  clear n0_ n1_ n2_; (try clear hb); (try clear hb2); (try clear hk); (try clear hi); (try clear ho0)
  refine hK.out _ _ ⟨(blk_cell BK125.out 0).trans rfl, (blk_cell BK125.out 1).trans rfl, (blk_cell BK125.out 2).trans rfl, (blk_cell BK125.out 3).trans rfl, (blk_cell BK125.out 4).trans rfl⟩ (fun hHeld => ?_)
  clear hK K
  refine norm_ (a' := ?_) ?_ ?_
  rotate_left
  ·
   show Act.put _ (some 7) _ = _
   simp only [Act.put, lsa, lsz, lss, i64_w, i32_w]
   rfl
  refine one_ (i := 3) (N := some 10) #[true, true, true, true, true, true, false, true, true, false, true, true, false, false, true, true, false, false, false, false, false] rfl rfl (one_of HT_.out (by kernel_rfl)) (by decide) (fun K hK => ?_)
  refine goes_ Try.func17 (by kernel_rfl) rfl #[.int .i64 a0_0] (by rfl) rfl rfl agn ?_
  with_reducible refine (wire_Num.calls a0_0 t130 _ A5.out).mono ?_
  rintro e w17 ⟨v131, rfl, ho0, hb⟩
  refine ⟨_, rfl, ?_⟩
  have n0_ := aS (Kd.R_elder' (rel HO129.out) (by first | exact Kd.R_base ho0 | exact Kd.S_base ho0 | exact Kd.R_base ho0 | exact Kd.V_base ho0) hb)
  have n1_ := aS (Kd.R_lower (Kd.R_new' ho0 (Kd.R_lt (rel HO129.out))) (below_size bel))
  have n2_ := aS (blk_below (g := gb125) (o := .cells #[.int .i64 a0_0, .int .i64 a0_1, .int .i64 a0_2, .bool a0_3, .string a0_4] 23 (0, 0)) (bkl BK125.out) hb)
  have n3_ := bstep hb
  clear HO129; clear BK125; clear HB
  have HO129 := n0_
  have HO132 := n1_
  have BK125 := n2_
  have HB := n3_
  clear n0_ n1_ n2_ n3_; (try clear hb); (try clear hb2); (try clear hk); (try clear hi); (try clear ho0)
  refine hK.out _ _ ⟨(blk_cell BK125.out 0).trans rfl, (blk_cell BK125.out 1).trans rfl, (blk_cell BK125.out 2).trans rfl, (blk_cell BK125.out 3).trans rfl, (blk_cell BK125.out 4).trans rfl⟩ (fun hHeld => ?_)
  clear hK K
  refine norm_ (a' := ?_) ?_ ?_
  rotate_left
  ·
   show Act.put _ (some 10) _ = _
   simp only [Act.put, lsa, lsz, lss, i64_w, i32_w]
   rfl
  refine one_ (i := 6) (N := some 13) #[true, true, true, true, true, true, true, true, true, false, true, true, false, false, true, true, false, false, false, false, false] rfl rfl (one_of HT_.out (by kernel_rfl)) (by decide) (fun K hK => ?_)
  refine goes_ Try.func17 (by kernel_rfl) rfl #[.int .i64 a0_1] (by rfl) rfl rfl agn ?_
  with_reducible refine (wire_Num.calls a0_1 t133 _ A6.out).mono ?_
  rintro e w18 ⟨v134, rfl, ho0, hb⟩
  refine ⟨_, rfl, ?_⟩
  have n0_ := aS (Kd.R_elder' (rel HO129.out) (by first | exact Kd.R_base ho0 | exact Kd.S_base ho0 | exact Kd.R_base ho0 | exact Kd.V_base ho0) hb)
  have n1_ := aS (Kd.R_elder' (rel HO132.out) (by first | exact Kd.R_base ho0 | exact Kd.S_base ho0 | exact Kd.R_base ho0 | exact Kd.V_base ho0) hb)
  have n2_ := aS (Kd.R_lower (Kd.R_new' (Kd.R_new' ho0 (Kd.R_lt (rel HO129.out))) (Kd.R_lt (rel HO132.out))) (below_size bel))
  have n3_ := aS (blk_below (g := gb125) (o := .cells #[.int .i64 a0_0, .int .i64 a0_1, .int .i64 a0_2, .bool a0_3, .string a0_4] 23 (0, 0)) (bkl BK125.out) hb)
  have n4_ := bstep hb
  clear HO129; clear HO132; clear BK125; clear HB
  have HO129 := n0_
  have HO132 := n1_
  have HO135 := n2_
  have BK125 := n3_
  have HB := n4_
  clear n0_ n1_ n2_ n3_ n4_; (try clear hb); (try clear hb2); (try clear hk); (try clear hi); (try clear ho0)
  refine hK.out _ _ ⟨(blk_cell BK125.out 0).trans rfl, (blk_cell BK125.out 1).trans rfl, (blk_cell BK125.out 2).trans rfl, (blk_cell BK125.out 3).trans rfl, (blk_cell BK125.out 4).trans rfl⟩ (fun hHeld => ?_)
  clear hK K
  refine norm_ (a' := ?_) ?_ ?_
  rotate_left
  ·
   show Act.put _ (some 13) _ = _
   simp only [Act.put, lsa, lsz, lss, i64_w, i32_w]
   rfl
  refine one_ (i := 9) (N := some 16) #[true, true, true, true, true, true, true, true, true, true, true, true, false, false, true, true, false, false, false, false, false] rfl rfl (one_of HT_.out (by kernel_rfl)) (by decide) (fun K hK => ?_)
  refine goes_ Try.func17 (by kernel_rfl) rfl #[.int .i64 a0_2] (by rfl) rfl rfl agn ?_
  with_reducible refine (wire_Num.calls a0_2 t136 _ A7.out).mono ?_
  rintro e w19 ⟨v137, rfl, ho0, hb⟩
  refine ⟨_, rfl, ?_⟩
  have n0_ := aS (Kd.R_elder' (rel HO129.out) (by first | exact Kd.R_base ho0 | exact Kd.S_base ho0 | exact Kd.R_base ho0 | exact Kd.V_base ho0) hb)
  have n1_ := aS (Kd.R_elder' (rel HO132.out) (by first | exact Kd.R_base ho0 | exact Kd.S_base ho0 | exact Kd.R_base ho0 | exact Kd.V_base ho0) hb)
  have n2_ := aS (Kd.R_elder' (rel HO135.out) (by first | exact Kd.R_base ho0 | exact Kd.S_base ho0 | exact Kd.R_base ho0 | exact Kd.V_base ho0) hb)
  have n3_ := aS (Kd.R_lower (Kd.R_new' (Kd.R_new' (Kd.R_new' ho0 (Kd.R_lt (rel HO129.out))) (Kd.R_lt (rel HO132.out))) (Kd.R_lt (rel HO135.out))) (below_size bel))
  have n4_ := aS (blk_below (g := gb125) (o := .cells #[.int .i64 a0_0, .int .i64 a0_1, .int .i64 a0_2, .bool a0_3, .string a0_4] 23 (0, 0)) (bkl BK125.out) hb)
  have n5_ := bstep hb
  clear HO129; clear HO132; clear HO135; clear BK125; clear HB
  have HO129 := n0_
  have HO132 := n1_
  have HO135 := n2_
  have HO138 := n3_
  have BK125 := n4_
  have HB := n5_
  clear n0_ n1_ n2_ n3_ n4_ n5_; (try clear hb); (try clear hb2); (try clear hk); (try clear hi); (try clear ho0)
  refine hK.out _ _ ⟨(blk_cell BK125.out 0).trans rfl, (blk_cell BK125.out 1).trans rfl, (blk_cell BK125.out 2).trans rfl, (blk_cell BK125.out 3).trans rfl, (blk_cell BK125.out 4).trans rfl⟩ (fun hHeld => ?_)
  clear hK K
  refine norm_ (a' := ?_) ?_ ?_
  rotate_left
  ·
   show Act.put _ (some 16) _ = _
   simp only [Act.put, lsa, lsz, lss, i64_w, i32_w]
   rfl
  refine one_ (i := 12) (N := some 19) #[true, true, true, true, true, true, true, true, true, true, true, true, true, false, true, true, false, false, false, false, false] rfl rfl (one_of HT_.out (by kernel_rfl)) (by decide) (fun K hK => ?_)
  refine goes_ Try.func43 (by kernel_rfl) rfl #[.bool a0_3] (by rfl) rfl rfl agn ?_
  with_reducible refine (slot_full.calls a0_3 t139 _ A8.out).mono ?_
  rintro e w' ⟨rfl, ⟨nd, rfl⟩⟩
  refine ⟨_, rfl, ?_⟩
  refine hK.out _ _ ⟨(blk_cell BK125.out 0).trans rfl, (blk_cell BK125.out 1).trans rfl, (blk_cell BK125.out 2).trans rfl, (blk_cell BK125.out 3).trans rfl, (blk_cell BK125.out 4).trans rfl⟩ (fun hHeld => ?_)
  clear hK K
  refine norm_ (a' := ?_) ?_ ?_
  rotate_left
  ·
   show Act.put _ (some 19) _ = _
   simp only [Act.put, lsa, lsz, lss, i64_w, i32_w]
   rfl
  refine one_ (i := 13) (N := some 20) #[true, true, true, true, true, true, true, true, true, true, true, true, true, true, true, true, false, false, false, false, false] rfl rfl (one_of HT_.out (by kernel_rfl)) (by decide) (fun K hK => ?_)
  refine goes_ Try.func17 (by kernel_rfl) rfl #[.int .i64 t139] (by rfl) rfl rfl agn ?_
  with_reducible refine (wire_Num.calls t139 t140 _ A9.out).mono ?_
  rintro e w20 ⟨v141, rfl, ho0, hb⟩
  refine ⟨_, rfl, ?_⟩
  have n0_ := aS (Kd.R_elder' (rel HO129.out) (by first | exact Kd.R_base ho0 | exact Kd.S_base ho0 | exact Kd.R_base ho0 | exact Kd.V_base ho0) hb)
  have n1_ := aS (Kd.R_elder' (rel HO132.out) (by first | exact Kd.R_base ho0 | exact Kd.S_base ho0 | exact Kd.R_base ho0 | exact Kd.V_base ho0) hb)
  have n2_ := aS (Kd.R_elder' (rel HO135.out) (by first | exact Kd.R_base ho0 | exact Kd.S_base ho0 | exact Kd.R_base ho0 | exact Kd.V_base ho0) hb)
  have n3_ := aS (Kd.R_elder' (rel HO138.out) (by first | exact Kd.R_base ho0 | exact Kd.S_base ho0 | exact Kd.R_base ho0 | exact Kd.V_base ho0) hb)
  have n4_ := aS (Kd.R_lower (Kd.R_new' (Kd.R_new' (Kd.R_new' (Kd.R_new' ho0 (Kd.R_lt (rel HO129.out))) (Kd.R_lt (rel HO132.out))) (Kd.R_lt (rel HO135.out))) (Kd.R_lt (rel HO138.out))) (below_size bel))
  have n5_ := aS (blk_below (g := gb125) (o := .cells #[.int .i64 a0_0, .int .i64 a0_1, .int .i64 a0_2, .bool a0_3, .string a0_4] 23 (0, 0)) (bkl BK125.out) hb)
  have n6_ := bstep hb
  clear HO129; clear HO132; clear HO135; clear HO138; clear BK125; clear HB
  have HO129 := n0_
  have HO132 := n1_
  have HO135 := n2_
  have HO138 := n3_
  have HO142 := n4_
  have BK125 := n5_
  have HB := n6_
  clear n0_ n1_ n2_ n3_ n4_ n5_ n6_; (try clear hb); (try clear hb2); (try clear hk); (try clear hi); (try clear ho0)
  refine hK.out _ _ ⟨(blk_cell BK125.out 0).trans rfl, (blk_cell BK125.out 1).trans rfl, (blk_cell BK125.out 2).trans rfl, (blk_cell BK125.out 3).trans rfl, (blk_cell BK125.out 4).trans rfl⟩ (fun hHeld => ?_)
  clear hK K
  refine norm_ (a' := ?_) ?_ ?_
  rotate_left
  ·
   show Act.put _ (some 20) _ = _
   simp only [Act.put, lsa, lsz, lss, i64_w, i32_w]
   rfl
  refine one_ (i := 16) (N := some 23) #[true, true, true, true, true, true, true, true, true, true, true, true, true, true, true, true, true, false, false, false, false] rfl rfl (one_of HT_.out (by kernel_rfl)) (by decide) (fun K hK => ?_)
  refine goes_ Try.func19 (by kernel_rfl) rfl #[.string a0_4] (by rfl) rfl rfl agn ?_
  with_reducible refine (wire_Text.calls a0_4 t143 _ A10.out).mono ?_
  rintro e w21 ⟨v144, rfl, ho0, hb⟩
  refine ⟨_, rfl, ?_⟩
  have n0_ := aS (Kd.R_elder' (rel HO129.out) (by first | exact Kd.R_base ho0 | exact Kd.S_base ho0 | exact Kd.R_base ho0 | exact Kd.V_base ho0) hb)
  have n1_ := aS (Kd.R_elder' (rel HO132.out) (by first | exact Kd.R_base ho0 | exact Kd.S_base ho0 | exact Kd.R_base ho0 | exact Kd.V_base ho0) hb)
  have n2_ := aS (Kd.R_elder' (rel HO135.out) (by first | exact Kd.R_base ho0 | exact Kd.S_base ho0 | exact Kd.R_base ho0 | exact Kd.V_base ho0) hb)
  have n3_ := aS (Kd.R_elder' (rel HO138.out) (by first | exact Kd.R_base ho0 | exact Kd.S_base ho0 | exact Kd.R_base ho0 | exact Kd.V_base ho0) hb)
  have n4_ := aS (Kd.R_elder' (rel HO142.out) (by first | exact Kd.R_base ho0 | exact Kd.S_base ho0 | exact Kd.R_base ho0 | exact Kd.V_base ho0) hb)
  have n5_ := aS (Kd.R_lower (Kd.R_new' (Kd.R_new' (Kd.R_new' (Kd.R_new' (Kd.R_new' ho0 (Kd.R_lt (rel HO129.out))) (Kd.R_lt (rel HO132.out))) (Kd.R_lt (rel HO135.out))) (Kd.R_lt (rel HO138.out))) (Kd.R_lt (rel HO142.out))) (below_size bel))
  have n6_ := aS (blk_below (g := gb125) (o := .cells #[.int .i64 a0_0, .int .i64 a0_1, .int .i64 a0_2, .bool a0_3, .string a0_4] 23 (0, 0)) (bkl BK125.out) hb)
  have n7_ := bstep hb
  clear HO129; clear HO132; clear HO135; clear HO138; clear HO142; clear BK125; clear HB
  have HO129 := n0_
  have HO132 := n1_
  have HO135 := n2_
  have HO138 := n3_
  have HO142 := n4_
  have HO145 := n5_
  have BK125 := n6_
  have HB := n7_
  clear n0_ n1_ n2_ n3_ n4_ n5_ n6_ n7_; (try clear hb); (try clear hb2); (try clear hk); (try clear hi); (try clear ho0)
  obtain ⟨Ao22, co22, eo22⟩ := Kd.R_slice HO129.out
  (first | subst eo22 | (injection eo22 with f1_ f2_ f3_; have f4_ := f1_.symm; have f5_ := f3_.symm; clear f1_ f2_ f3_; subst f4_; subst f5_))
  obtain ⟨Ao23, co23, eo23⟩ := Kd.R_slice HO132.out
  (first | subst eo23 | (injection eo23 with f1_ f2_ f3_; have f4_ := f1_.symm; have f5_ := f3_.symm; clear f1_ f2_ f3_; subst f4_; subst f5_))
  obtain ⟨Ao24, co24, eo24⟩ := Kd.R_slice HO135.out
  (first | subst eo24 | (injection eo24 with f1_ f2_ f3_; have f4_ := f1_.symm; have f5_ := f3_.symm; clear f1_ f2_ f3_; subst f4_; subst f5_))
  obtain ⟨Ao25, co25, eo25⟩ := Kd.R_slice HO138.out
  (first | subst eo25 | (injection eo25 with f1_ f2_ f3_; have f4_ := f1_.symm; have f5_ := f3_.symm; clear f1_ f2_ f3_; subst f4_; subst f5_))
  obtain ⟨Ao26, co26, eo26⟩ := Kd.R_slice HO142.out
  (first | subst eo26 | (injection eo26 with f1_ f2_ f3_; have f4_ := f1_.symm; have f5_ := f3_.symm; clear f1_ f2_ f3_; subst f4_; subst f5_))
  obtain ⟨Ao27, co27, eo27⟩ := Kd.R_slice HO145.out
  (first | subst eo27 | (injection eo27 with f1_ f2_ f3_; have f4_ := f1_.symm; have f5_ := f3_.symm; clear f1_ f2_ f3_; subst f4_; subst f5_))
  refine hK.out _ _ ⟨(blk_cell BK125.out 0).trans rfl, (blk_cell BK125.out 1).trans rfl, (blk_cell BK125.out 2).trans rfl, (blk_cell BK125.out 3).trans rfl, (blk_cell BK125.out 4).trans rfl⟩ (fun hHeld => ?_)
  clear hK K
  refine norm_ (a' := ?_) ?_ ?_
  rotate_left
  ·
   show Act.put _ (some 23) _ = _
   simp only [Act.put, lsa, lsz, lss, i64_w, i32_w]
   rfl
  refine one_ (i := 17) (N := some 24) #[true, true, true, true, true, true, true, true, true, true, true, true, true, true, true, true, true, true, false, false, false] rfl rfl (one_of HT_.out (by kernel_rfl)) (by decide) (fun K hK => ?_)
  refine Kd.N_lit_step (Kd.slice 5 (Kd.int .u8)) _ 29 ?hg (N' := 24) ?hd (xs := ([t127, t130, t133, t136, t140, t143] : List (List Int))) (inner := [.slice Ao22 t127.length co22, .slice Ao23 t130.length co23, .slice Ao24 t133.length co24, .slice Ao25 t136.length co25, .slice Ao26 t140.length co26, .slice Ao27 t143.length co27]) (ok := (fun k_ => k_ ≠ gb125)) (okp := (fun k_ => k_ ≠ gb125)) ?hr ?hp (fun _ hk => hk) ((show ∀ k_, w21.heap.size ≤ k_ → (fun k_ => k_ ≠ gb125) k_ from fun k_ hk => Kd.freshB (g := gb125) (o := .cells #[.int .i64 a0_0, .int .i64 a0_1, .int .i64 a0_2, .bool a0_3, .string a0_4] 23 (0, 0)) (bkl BK125.out) k_ hk) _ (Nat.le_refl _)) (Below.refl _ _) (Nat.le_refl _) (by simp) ?_; (case hd => rfl); (case hg => rfl); (case hr => first | (go_simp; done) | (go_simp; rfl)); (case hp => exact (Reps.one (show Kd.FK (Kd.slice 5 (Kd.int .u8)) _ _ t127 [.slice Ao22 t127.length co22] from (Kd.FK_slice_mk (Kd.R_reads' (Kd.R_mono (ok' := (fun k_ => k_ ≠ gb125)) (Kd.R_types (HO129.out) BK125.out (by decide)) (fun k_ hk => hk.2))).2.1 (Kd.R_F (Kd.R_mono (ok' := (fun k_ => k_ ≠ gb125)) (Kd.R_types (HO129.out) BK125.out (by decide)) (fun k_ hk => hk.2))))) (Reps.one (show Kd.FK (Kd.slice 5 (Kd.int .u8)) _ _ t130 [.slice Ao23 t130.length co23] from (Kd.FK_slice_mk (Kd.R_reads' (Kd.R_mono (ok' := (fun k_ => k_ ≠ gb125)) (Kd.R_types (HO132.out) BK125.out (by decide)) (fun k_ hk => hk.2))).2.1 (Kd.R_F (Kd.R_mono (ok' := (fun k_ => k_ ≠ gb125)) (Kd.R_types (HO132.out) BK125.out (by decide)) (fun k_ hk => hk.2))))) (Reps.one (show Kd.FK (Kd.slice 5 (Kd.int .u8)) _ _ t133 [.slice Ao24 t133.length co24] from (Kd.FK_slice_mk (Kd.R_reads' (Kd.R_mono (ok' := (fun k_ => k_ ≠ gb125)) (Kd.R_types (HO135.out) BK125.out (by decide)) (fun k_ hk => hk.2))).2.1 (Kd.R_F (Kd.R_mono (ok' := (fun k_ => k_ ≠ gb125)) (Kd.R_types (HO135.out) BK125.out (by decide)) (fun k_ hk => hk.2))))) (Reps.one (show Kd.FK (Kd.slice 5 (Kd.int .u8)) _ _ t136 [.slice Ao25 t136.length co25] from (Kd.FK_slice_mk (Kd.R_reads' (Kd.R_mono (ok' := (fun k_ => k_ ≠ gb125)) (Kd.R_types (HO138.out) BK125.out (by decide)) (fun k_ hk => hk.2))).2.1 (Kd.R_F (Kd.R_mono (ok' := (fun k_ => k_ ≠ gb125)) (Kd.R_types (HO138.out) BK125.out (by decide)) (fun k_ hk => hk.2))))) (Reps.one (show Kd.FK (Kd.slice 5 (Kd.int .u8)) _ _ t140 [.slice Ao26 t140.length co26] from (Kd.FK_slice_mk (Kd.R_reads' (Kd.R_mono (ok' := (fun k_ => k_ ≠ gb125)) (Kd.R_types (HO142.out) BK125.out (by decide)) (fun k_ hk => hk.2))).2.1 (Kd.R_F (Kd.R_mono (ok' := (fun k_ => k_ ≠ gb125)) (Kd.R_types (HO142.out) BK125.out (by decide)) (fun k_ hk => hk.2))))) (Reps.one (show Kd.FK (Kd.slice 5 (Kd.int .u8)) _ _ t143 [.slice Ao27 t143.length co27] from (Kd.FK_slice_mk (Kd.R_reads' (Kd.R_mono (ok' := (fun k_ => k_ ≠ gb125)) (Kd.R_types (HO145.out) BK125.out (by decide)) (fun k_ hk => hk.2))).2.1 (Kd.R_F (Kd.R_mono (ok' := (fun k_ => k_ ≠ gb125)) (Kd.R_types (HO145.out) BK125.out (by decide)) (fun k_ hk => hk.2))))) (Reps.none _ _))))))))
  intro v147 w28 ho29 hb hg_ hnew_
  clear hg_ hnew_
  (first | rw [← Ny146.out] at ho29 | (simp only [Int.reduceToNat] at ho29; rw [← Ny146.out] at ho29))
  have n0_ := aS (Kd.N_lower ho29 (below_size bel))
  have n1_ := aS (blk_below (g := gb125) (o := .cells #[.int .i64 a0_0, .int .i64 a0_1, .int .i64 a0_2, .bool a0_3, .string a0_4] 23 (0, 0)) (bkl BK125.out) hb)
  have n2_ := bstep hb
  clear BK125; clear HB; clear HO129; clear HO132; clear HO135; clear HO138; clear HO142; clear HO145
  have HO148 := n0_
  have BK125 := n1_
  have HB := n2_
  clear n0_ n1_ n2_; clear hb ho29
  obtain ⟨Ao30, co30, eo30⟩ := Kd.N_slice HO148.out
  (first | subst eo30 | (injection eo30 with f1_ f2_ f3_; have f4_ := f1_.symm; have f5_ := f3_.symm; clear f1_ f2_ f3_; subst f4_; subst f5_))
  refine hK.out _ _ ⟨(blk_cell BK125.out 0).trans rfl, (blk_cell BK125.out 1).trans rfl, (blk_cell BK125.out 2).trans rfl, (blk_cell BK125.out 3).trans rfl, (blk_cell BK125.out 4).trans rfl⟩ (fun hHeld => ?_)
  clear hK K
  refine norm_ (a' := ?_) ?_ ?_
  rotate_left
  ·
   show Act.put _ (some 24) _ = _
   simp only [Act.put, lsa, lsz, lss, i64_w, i32_w]
   rfl
  refine one_ (i := 18) (N := some 25) #[true, true, true, true, true, true, true, true, true, true, true, true, true, true, true, true, true, true, true, false, false] rfl rfl (one_of HT_.out (by kernel_rfl)) (by decide) (fun K hK => ?_)
  refine goes_ Try.func42 (by kernel_rfl) rfl #[.slice Ao30 y146.length co30] (by rfl) rfl rfl agn ?_
  with_reducible refine (slices_Concat_byte_byte.calls _ _ y146 t149 _ ?side1 ?side2 A11.out).mono ?_
  (case side1 => exact cel ((Kd.N_reads' HO148.out).2.2))
  (case side2 => exact (Kd.N_reads' HO148.out).2.1)
  rintro e w31 ⟨v150, rfl, ho0, hb⟩
  refine ⟨_, rfl, ?_⟩
  have n0_ := aS (Kd.N_elder' (by (with_reducible repeat (first | apply Kd.N_alloc | apply Kd.N_drewN | apply Kd.N_drew)); exact HO148.out) (by first | exact Kd.R_base ho0 | exact Kd.S_base ho0 | exact Kd.R_base ho0 | exact Kd.V_base ho0) hb)
  have n1_ := aS (Kd.R_lower ho0 (below_size bel))
  have n2_ := aS (blk_below (g := gb125) (o := .cells #[.int .i64 a0_0, .int .i64 a0_1, .int .i64 a0_2, .bool a0_3, .string a0_4] 23 (0, 0)) (bkl BK125.out) hb)
  have n3_ := bstep hb
  clear HO148; clear BK125; clear HB
  have HO148 := n0_
  have HO151 := n1_
  have BK125 := n2_
  have HB := n3_
  clear n0_ n1_ n2_ n3_; (try clear hb); (try clear hb2); (try clear hk); (try clear hi); (try clear ho0)
  refine hK.out _ _ ⟨(blk_cell BK125.out 0).trans rfl, (blk_cell BK125.out 1).trans rfl, (blk_cell BK125.out 2).trans rfl, (blk_cell BK125.out 3).trans rfl, (blk_cell BK125.out 4).trans rfl⟩ (fun hHeld => ?_)
  clear hK K
  refine norm_ (a' := ?_) ?_ ?_
  rotate_left
  ·
   show Act.put _ (some 25) _ = _
   simp only [Act.put, lsa, lsz, lss, i64_w, i32_w]
   rfl
  refine along_ [(19, 2), (20, 3)] ?_
  iterate 2 (apply pure1 HT_; (case hi => rfl); (case hN => rfl); (case hw => rfl); (case hc => kernel_rfl); (case hQ => exact fun _ _ _ h => h); (case hy => intro w'; go_simp; with_reducible rfl); (case ha => simp only [Act.put, lsa, lsz, lss, i64_w, i32_w]; rfl))
  refine lay_ #[true, true, true, true, true, true, true, true, true, true, true, true, true, true, true, true, true, true, true, true, true] (by kernel_rfl) ?_
  refine done_ (done_of HT_.out (by kernel_rfl)) ?_
  try go_wp2
  go_ret2
  exact ⟨_, rf3, by (with_reducible repeat (first | apply Kd.R_alloc | apply Kd.R_drewN | apply Kd.R_drew)); exact HO151.out, bel⟩
 ·
  replace c3 := Bool.eq_false_iff.mpr c3
  subst c3
  have H1 : (some (([] : List Int), 1)) = some (r1, r2) := by rw [if_neg (show ¬ (false = true) by decide)] at H; exact H
  clear H; have H := H1; clear H1
  simp only [Option.some.injEq, Prod.mk.injEq] at H
  obtain ⟨rfl, rfl⟩ := H
  go_enter Try.func18, Try.ntmps18
  go_wp2_with (first | ((with_reducible refine gate_dst (N := 1) rfl ?_); refine box_event ?hg (N := 1) ?hd (cs := #[.int .i64 a0_0, .int .i64 a0_1, .int .i64 a0_2, .bool a0_3, .string a0_4]) (t := 23) ?hr ?_; (case hd => rfl); (case hg => rfl); (case hr => first | (go_simp; done) | (go_simp; rfl)); intro gb125 hg w32 hbox hb; have n0_ := bstep hb; have n1_ := aS (hbox); have n2_ := bsize hg; have n3_ := bsize hg; clear HB; have HB := n0_; have BK125 := n1_; have GW125 := n2_; have GE125 := n3_; clear n0_ n1_ n2_ n3_; clear hb hbox hg; have hcz33 := cK5 BK125) | ((with_reducible refine gate_callee (f := 24) rfl ?_); refine goesL_ (some 5) rfl rfl Try.func24 (by kernel_rfl) rfl #[.agg #[.int .i64 a0_0, .int .i64 a0_1, .int .i64 a0_2, .bool a0_3, .string a0_4]] rfl agn ?_; (with_reducible refine (slot_Right.calls a0_0 a0_1 a0_2 a0_3 a0_4 false _ A2.out).mono ?_); rintro e w34 ⟨rfl, hb⟩; refine ⟨_, rfl, ?_⟩; have n0_ := aS (blk_below (g := gb125) (o := .cells #[.int .i64 a0_0, .int .i64 a0_1, .int .i64 a0_2, .bool a0_3, .string a0_4] 23 (0, 0)) (bkl BK125.out) hb); have n1_ := bstep hb; clear BK125; clear HB; have BK125 := n0_; have HB := n1_; clear n0_ n1_; (try clear hb); (try clear hb2); (try clear hk); (try clear hi)))
  go_ret2
  exact ⟨_, rf3, by first | exact Kd.R_nil _ _ _ _ _ | exact Kd.N_nil _ _ _ _ _ | exact Kd.V_nil _ _ _ _ _ | exact Kd.Q_nil _ _ _ _ _ | exact Kd.S_nil _ _ _ _ _, bel⟩

/-! ### check_word_eight: function 54 -/
def check_word_eight.bit (w : Int) : Int := if Go.bits .and .u32 w 1 = 1 then Go.bits .xor .u32 (w / 2) 2197175160 else w / 2
def check_word_eight.go : Nat → Int → Int
 | 0, w => w
 | m + 1, w => check_word_eight.go m (check_word_eight.bit w)
def check_word_eight.f (a0 a1 : Int) : Option Int := some (check_word_eight.go 8 (Go.bits .xor .u32 a0 (a1 % 4294967296)))
set_option maxHeartbeats 2000000 in
set_option maxRecDepth 100000 in
theorem check_word_eight.bit_calls (a0 : Int) (w : World) : Calls Try.prog 55 #[.int .u32 a0] w fun e w' => e = .returned (.int .u32 (check_word_eight.bit a0)) ∧ Below w.heap.size w w' := by
 go_enter Try.func55, Try.ntmps55
 go_wp2_with fail
 ·
  rename_i h
  refine bodyPost_ret (results_single rfl (.tmp .nil)) rfl ⟨?_, Below.refl _ _⟩
  rw [check_word_eight.bit, if_pos (by simpa using h)]
  rfl
 ·
  rename_i h
  refine bodyPost_ret (results_single rfl (.tmp .nil)) rfl ⟨?_, Below.refl _ _⟩
  rw [check_word_eight.bit, if_neg (by simpa using h)]
  rfl
set_option maxHeartbeats 2000000 in
set_option maxRecDepth 100000 in
theorem check_word_eight.calls (a0 a1 : Int) (r : Int) (w : World) (h : check_word_eight.f a0 a1 = some r) :
  Calls Try.prog 54 #[.int .u32 a0, .int .u8 a1] w fun e w' => e = .returned (.int .u32 r) ∧ Below w.heap.size w w' := by
 obtain rfl := Option.some.inj h
 clear h
 go_enter Try.func54, Try.ntmps54
 go_wp2_with fail
 go_loopw [0, 10] (fun v0 v10 w2 => ∃ (i : Nat) (x : Int), v10 = .int .i64 (i : Int) ∧ v0 = .int .u32 x ∧ Aside0 (i ≤ 8) ∧ Aside0 (check_word_eight.go (8 - i) x = check_word_eight.go 8 (Go.bits .xor .u32 a0 (a1 % 4294967296))) ∧ Aside0 (Below w.heap.size w w2)) (fun _ i _ => 8 - (intOf i).toNat)
 case atStart => exact ⟨0, _, rfl, rfl, ⟨by omega⟩, ⟨rfl⟩, ⟨Below.refl _ _⟩⟩
 case round =>
  obtain ⟨i, x, rfl, rfl, hi, HA, HB⟩ := hrel
  have hi8 := hi.out
  by_cases hlt : i < 8
  ·
   obtain ⟨m, hm⟩ : ∃ m, 8 - i = m + 1 := ⟨7 - i, by omega⟩
   have ha := HA.out
   rw [hm, check_word_eight.go] at ha
   have HA2 := aS ha
   have HM := aS hm
   clear ha HA hm
   go_wp2_with (first
    | (go_at_call 55; (with_reducible refine (check_word_eight.bit_calls _ _).mono ?_); rintro e w3 ⟨rfl, hb⟩; have HB2 := aS hb; clear hb))
   go_roundw
   case rel =>
    have hm := HM.out
    exact ⟨i + 1, _, by go_num, rfl, ⟨by omega⟩, ⟨by rw [show 8 - (i + 1) = m by omega]; exact HA2.out⟩, ⟨below_step HB.out HB2.out⟩⟩
   case measure => simp [intOf]; omega
  ·
   have hd : 8 - i = 0 := by omega
   have ha := HA.out
   rw [hd, check_word_eight.go] at ha
   have HA2 := aS ha
   clear ha HA hd
   go_wp2_with fail
   refine bodyPost_ret (results_single rfl (.tmp .nil)) rfl ⟨?_, HB.out⟩
   rw [← HA2.out]
   rfl

/-! ### check_More: function 53 -/
def check_More.l0 : Nat → Int → List Int → Int → Int → Option (Int)
 | 0, _, _, _, _ => none
 | k + 1, x5, x10, x11, x12 => if x12 < x11 then (if 0 ≤ x12 then (if x12 < (x10.length : Int) then ((check_word_eight.f x5 (rd x10 x12)).bind fun t153 => (check_More.l0 k t153 x10 x11 (wrap64 (x12 + 1)))) else (none)) else (none)) else (some (Go.bits .xor .u32 x5 4294967295))
def check_More.f (k : Nat) (a0 : Int) (l1 : List Int) : Option (Int) := check_More.l0 k (Go.bits .xor .u32 a0 4294967295) l1 (l1.length : Int) 0
theorem check_More.mono_l : ∀ k, (∀ y0 y1 y2 y3, LeO (check_More.l0 k y0 y1 y2 y3) (check_More.l0 (k + 1) y0 y1 y2 y3))
 | 0 => fun _ _ _ _ r h => by simp [check_More.l0] at h
 | k + 1 => by
  have ih0 := check_More.mono_l k
  ·
   intro y0 y1 y2 y3
   unfold check_More.l0
   repeat' first
   | (with_reducible exact ih0 _ _ _ _)
   | (with_reducible exact LeO.refl _)
   | (with_reducible exact LeO.none _)
   | (with_reducible refine LeO.ite ?_ ?_)
   | (with_reducible refine LeO.bind ?_ (fun _ => ?_))
   | exact LeO.none _
   | refine LeO.ite ?_ ?_
   | refine LeO.bind ?_ (fun _ => ?_)
theorem check_More.mono : ∀ a0 a1 k, LeO (check_More.f k a0 a1) (check_More.f (k + 1) a0 a1) := by
 intro a0 a1 k
 have ih0 := check_More.mono_l k
 unfold check_More.f
 repeat' first
   | (with_reducible exact ih0 _ _ _ _)
   | (with_reducible exact LeO.refl _)
   | (with_reducible exact LeO.none _)
   | (with_reducible refine LeO.ite ?_ ?_)
   | (with_reducible refine LeO.bind ?_ (fun _ => ?_))
   | exact LeO.none _
   | refine LeO.ite ?_ ?_
   | refine LeO.bind ?_ (fun _ => ?_)
set_option maxHeartbeats 8000000 in
set_option maxRecDepth 100000 in
theorem check_More.calls (k : Nat) (a0 : Int) (A1 : Option Addr) (c1 : Nat) (l1 : List Int) (r : Int) (w : World) (hr1 : Kd.C (Kd.int .u8) w A1 l1.length l1) (hc1 : l1.length ≤ c1) (h : check_More.f k a0 l1 = some r) :
  Calls Try.prog 53 #[.int .u32 a0, .slice A1 l1.length c1] w fun e w' => e = .returned (.int .u32 r) ∧ Below w.heap.size w w' := by
 have HR1 := aS hr1
 have HC1 := aS hc1
 clear hr1 hc1
 have HB := aS (Below.refl w.heap.size w)
 have H : (check_More.l0 k (Go.bits .xor .u32 a0 4294967295) l1 (l1.length : Int) 0) = some r := h
 clear h
 have H' := aS H
 clear H
 go_enter Try.func53, Try.ntmps53
 go_wp2
 go_loopg [5, 12] k (fun kq v5 v12 w' => ∃ (x5_1 : Int) (x12_1 : Int), v5 = .int .u32 x5_1 ∧ v12 = .int .i64 x12_1 ∧ Aside0 (check_More.l0 kq x5_1 l1 (l1.length : Int) x12_1 = some r) ∧ Aside0 (kq ≤ k) ∧ Aside0 (Below w.heap.size w w'))
 case atStart => exact ⟨(Go.bits .xor .u32 a0 4294967295), (0), (by first | rfl | (simp; done) | (simp [*]; done) | (simp; exact (by decide : ∀ a_ b_ : Bool, (a_ == b_) = (!a_ != b_)) _ _)), (by first | rfl | (simp; done) | (simp [*]; done) | (simp; exact (by decide : ∀ a_ b_ : Bool, (a_ == b_) = (!a_ != b_)) _ _)), H', ⟨Nat.le_refl _⟩, ⟨bel⟩⟩
 case round =>
  clear H'; (try clear c1); (try clear p2)
  obtain ⟨x5_1, x12_1, rfl, rfl, HA, HK1, HB⟩ := hrel
  cases gk with
  | zero => exact absurd HA.out (by simp [check_More.l0])
  | succ k1 =>
   have H := HA.out; clear HA
   simp only [check_More.l0] at H
   by_cases c3 : x12_1 < (l1.length : Int)
   ·
    rw [if_pos c3] at H
    have c3b0 : decide (x12_1 < (l1.length : Int)) = true := decide_eq_true c3
    clear c3
    by_cases c4 : 0 ≤ x12_1
    ·
     rw [if_pos c4] at H
     have c4b0 : decide (0 ≤ x12_1) = true := decide_eq_true c4
     clear c4
     by_cases c5 : x12_1 < (l1.length : Int)
     ·
      rw [if_pos c5] at H
      have c5b0 : decide (x12_1 < (l1.length : Int)) = true := decide_eq_true c5
      clear c5
      replace H := obm H
      obtain ⟨t153, A60, H⟩ := H
      replace H : (check_More.l0 k1 t153 l1 (l1.length : Int) (wrap64 (x12_1 + 1))) = some r := H
      have A6 := aS A60
      clear A60
      have H' := aS H
      clear H
      have p152 : 0 ≤ (x12_1 : Int) := odt (by first | (with_reducible assumption) | assumption)
      have q152 : x12_1 < (l1.length : Int) := odt (by first | (with_reducible assumption) | assumption)
      obtain ⟨ad152, e152, hx152_0⟩ := Kd.at_int HR1.out x12_1 p152 q152
      cases e152
      replace hx152_0 := (HB.out.cell (wbl w _ hx152_0)).trans hx152_0
      replace p152 := eq_true p152
      replace q152 := eq_true q152
      go_wp2_with (first | ((with_reducible refine gate_callee (f := 54) rfl ?_); refine goesL_ (some 18) rfl rfl Try.func54 (by kernel_rfl) rfl #[.int .u32 x5_1, .int .u8 (rd l1 x12_1)] rfl agn ?_; (with_reducible refine (check_word_eight.calls x5_1 (rd l1 x12_1) t153 _ A6.out).mono ?_); rintro e w7 ⟨rfl, hb⟩; refine ⟨_, rfl, ?_⟩; have n0_ := bstep hb; clear HB; have HB := n0_; clear n0_; (try clear hb); (try clear hb2); (try clear hk); (try clear hi)))
      go_roundg k1
      case measure => have := HK1.out; omega
      case rel => exact ⟨(t153), (wrap64 (x12_1 + 1)), (by first | rfl | (simp; done) | (simp [*]; done) | (simp; exact (by decide : ∀ a_ b_ : Bool, (a_ == b_) = (!a_ != b_)) _ _)), (by first | rfl | (simp; done) | (simp [*]; done) | (simp; exact (by decide : ∀ a_ b_ : Bool, (a_ == b_) = (!a_ != b_)) _ _)), H', ⟨by have := HK1.out; omega⟩, ⟨bel⟩⟩
     ·
      rw [if_neg c5] at H
      exact absurd H (by simp)
    ·
     rw [if_neg c4] at H
     exact absurd H (by simp)
   ·
    rw [if_neg c3] at H
    have c3b0 : decide (x12_1 < (l1.length : Int)) = false := decide_eq_false c3
    clear c3
    obtain rfl := Option.some.inj H
    go_wp2
    go_ret
    exact ⟨rf3, bel⟩

end Go.Proofs.Yteoklmfkofgfmaa.X
