-- written by a program of this session's, over the kit's print
import Derived.Test.YthoiimhokkfeaaaXx0
import Derived.Test.YthoiimhokkfeaaaXx1
import Derived.Test.YthoiimhokkfeaaaXx2
import Derived.Test.YthoiimhokkfeaaaXx3
import Derived.Test.YthoiimhokkfeaaaXx4
import Derived.Test.YthoiimhokkfeaaaXx6
import Derived.Test.YthoiimhokkfeaaaXx7
import Derived.Test.YthoiimhokkfeaaaXx8
import Derived.Test.YthoiimhokkfeaaaXx9
import Derived.Test.YthoiimhokkfeaaaXx10
import Derived.Test.YthoiimhokkfeaaaXx18
namespace Go.Proofs.Ythoiimhokkfeaaa.X
open Go.RowKit Go.Proofs.YthoiimhokkfeaaaW.PrintWords Go.Proofs.YthoiimhokkfeaaaW.PrintLast Go.Proofs.YthoiimhokkfeaaaW.PrintMore
attribute [local go_sem] max2_int min2_int max_two min_two max_three min_three max_four min_four   -- for this text's walks alone
set_option linter.unusedVariables false
set_option linter.unusedSimpArgs false

/-! ### shardloglaw01_WireBack: function 6 -/
def shardloglaw01_WireBack.j0 : Nat → Int → ByteArray → List ByteArray → List Int → Bool → Option (Bool)
  | 0, _, _, _, _, _ => none
  | k + 1, x0, x1, x2, x3, x35 => if x35 = true then ((shardloglaw01_awake.f k).bind fun t302 => (some t302)) else ((some (([] : List Int) : List Int)).bind fun y303 => ((wire_Num.f (wrap64 (x0))).bind fun t306 => (if y303.length + t306.length < 140737488355328 then ((some (y303 ++ t306 : List Int)).bind fun y309 => ((wire_Text.f x1).bind fun t312 => (if y309.length + t312.length < 140737488355328 then ((some (y309 ++ t312 : List Int)).bind fun y315 => ((wire_Texts.f k x2).bind fun t318 => (if y315.length + t318.length < 140737488355328 then ((some (y315 ++ t318 : List Int)).bind fun y321 => (if y321.length + x3.length < 140737488355328 then ((wire_CutNum.f k (y321 ++ x3)).bind fun bt327 => ((wire_CutText.f k bt327.2.1).bind fun bt332 => ((wire_CutTexts.f k bt332.2.1).bind fun bt337 => (if bt327.2.2 = true then (if bt332.2.2 = true then (if bt337.2.2 = true then (if bt327.1 = (wrap64 (x0)) then (if bt332.1.toList = x1.toList then ((shardlogref01_Strings.f k bt337.1 x2).bind fun t344 => (if t344 = true then ((shardlogref01_Same.f bt337.2.1 x3).bind fun t345 => (some t345)) else (none))) else (none)) else (none)) else (none)) else (none)) else (none))))) else (none))) else (none)))) else (none)))) else (none))))
def shardloglaw01_WireBack.f (k : Nat) (a0 : Int) (a1 : ByteArray) (l2 : List ByteArray) (l3 : List Int) : Option (Bool) := (shardloglaw01_awake.f k).bind fun t300 => (if t300 = true then (if (a1.size : Int) > 3000 then (shardloglaw01_WireBack.j0 k a0 a1 l2 l3 true) else ((shardlogref01_Few.f k l2).bind fun t301 => (if t301 = true then (shardloglaw01_WireBack.j0 k a0 a1 l2 l3 (decide ((l3.length : Int) > 500))) else (shardloglaw01_WireBack.j0 k a0 a1 l2 l3 true)))) else (shardloglaw01_WireBack.j0 k a0 a1 l2 l3 true))
theorem shardloglaw01_WireBack.mono_l : ∀ k, (∀ y0 y1 y2 y3 y4, LeO (shardloglaw01_WireBack.j0 k y0 y1 y2 y3 y4) (shardloglaw01_WireBack.j0 (k + 1) y0 y1 y2 y3 y4))
  | 0 => fun _ _ _ _ _ r h => by simp [shardloglaw01_WireBack.j0] at h
  | k + 1 => by
    have ih0 := shardloglaw01_WireBack.mono_l k
    · intro y0 y1 y2 y3 y4
      unfold shardloglaw01_WireBack.j0
      repeat' first
      | (with_reducible exact ih0 _ _ _ _ _)
      | (with_reducible exact shardloglaw01_awake.mono _)
      | (with_reducible exact shardlogref01_Few.mono _ _)
      | (with_reducible exact shardlogref01_Strings.mono _ _ _)
      | (with_reducible exact wire_CutNum.mono _ _)
      | (with_reducible exact wire_CutText.mono _ _)
      | (with_reducible exact wire_CutTexts.mono _ _)
      | (with_reducible exact wire_Texts.mono _ _)
      | (with_reducible exact LeO.refl _)
      | (with_reducible exact LeO.none _)
      | (with_reducible refine LeO.ite ?_ ?_)
      | (with_reducible refine LeO.bind ?_ (fun _ => ?_))
      | exact ih0 _ _ _ _ _
      | exact shardloglaw01_awake.mono _
      | exact shardlogref01_Few.mono _ _
      | exact shardlogref01_Strings.mono _ _ _
      | exact wire_CutNum.mono _ _
      | exact wire_CutText.mono _ _
      | exact wire_CutTexts.mono _ _
      | exact wire_Texts.mono _ _
      | exact LeO.none _
      | refine LeO.ite ?_ ?_
      | refine LeO.bind ?_ (fun _ => ?_)
theorem shardloglaw01_WireBack.mono : ∀ a0 a1 a2 a3 k, LeO (shardloglaw01_WireBack.f k a0 a1 a2 a3) (shardloglaw01_WireBack.f (k + 1) a0 a1 a2 a3) := by
  intro a0 a1 a2 a3 k
  have ih0 := shardloglaw01_WireBack.mono_l k
  unfold shardloglaw01_WireBack.f
  repeat' first
      | (with_reducible exact ih0 _ _ _ _ _)
      | (with_reducible exact shardloglaw01_awake.mono _)
      | (with_reducible exact shardlogref01_Few.mono _ _)
      | (with_reducible exact shardlogref01_Strings.mono _ _ _)
      | (with_reducible exact wire_CutNum.mono _ _)
      | (with_reducible exact wire_CutText.mono _ _)
      | (with_reducible exact wire_CutTexts.mono _ _)
      | (with_reducible exact wire_Texts.mono _ _)
      | (with_reducible exact LeO.refl _)
      | (with_reducible exact LeO.none _)
      | (with_reducible refine LeO.ite ?_ ?_)
      | (with_reducible refine LeO.bind ?_ (fun _ => ?_))
      | exact ih0 _ _ _ _ _
      | exact shardloglaw01_awake.mono _
      | exact shardlogref01_Few.mono _ _
      | exact shardlogref01_Strings.mono _ _ _
      | exact wire_CutNum.mono _ _
      | exact wire_CutText.mono _ _
      | exact wire_CutTexts.mono _ _
      | exact wire_Texts.mono _ _
      | exact LeO.none _
      | refine LeO.ite ?_ ?_
      | refine LeO.bind ?_ (fun _ => ?_)
set_option maxHeartbeats 8000000 in
set_option maxRecDepth 100000 in
theorem shardloglaw01_WireBack.calls (k : Nat) (a0 : Int) (a1 : ByteArray) (A2 : Option Addr) (c2 : Nat) (l2 : List ByteArray) (A3 : Option Addr) (c3 : Nat) (l3 : List Int) (r : Bool) (w : World) (hr2 : Kd.C Kd.string w A2 l2.length l2) (hc2 : l2.length ≤ c2) (hr3 : Kd.C (Kd.int .u8) w A3 l3.length l3) (hc3 : l3.length ≤ c3) (h : shardloglaw01_WireBack.f k a0 a1 l2 l3 = some r) :
    Calls Try.prog 6 #[.int .u32 a0, .string a1, .slice A2 l2.length c2, .slice A3 l3.length c3] w fun e w' => e = .returned (.bool r) ∧ Below w.heap.size w w' := by
  have HR2 := Aside0.mk hr2
  have HC2 := Aside0.mk hc2
  clear hr2 hc2
  have HR3 := Aside0.mk hr3
  have HC3 := Aside0.mk hc3
  clear hr3 hc3
  have HB := Aside0.mk (Below.refl w.heap.size w)
  have H : ((shardloglaw01_awake.f k).bind fun t300 => (if t300 = true then (if (a1.size : Int) > 3000 then (shardloglaw01_WireBack.j0 k a0 a1 l2 l3 true) else ((shardlogref01_Few.f k l2).bind fun t301 => (if t301 = true then (shardloglaw01_WireBack.j0 k a0 a1 l2 l3 (decide ((l3.length : Int) > 500))) else (shardloglaw01_WireBack.j0 k a0 a1 l2 l3 true)))) else (shardloglaw01_WireBack.j0 k a0 a1 l2 l3 true))) = some r := h
  clear h
  have HC5 := Aside0.mk H
  clear H
  go_enter Try.func6, Try.ntmps6
  go_upto_region 1 with (fail)
  go_cut [35] (fun v35 wc => ∃ (kq : Nat) (x35_4 : Bool), v35 = .bool x35_4 ∧ Aside0 (shardloglaw01_WireBack.j0 kq a0 a1 l2 l3 x35_4 = some r) ∧ Aside0 (kq ≤ k) ∧ Aside0 (Below w.heap.size w wc))
  case first =>
    have H := HC5.out
    clear HC5
    replace H := Option.bind_eq_some_iff.mp H
    obtain ⟨t300, A60, H⟩ := H
    replace H : (if t300 = true then (if (a1.size : Int) > 3000 then (shardloglaw01_WireBack.j0 k a0 a1 l2 l3 true) else ((shardlogref01_Few.f k l2).bind fun t301 => (if t301 = true then (shardloglaw01_WireBack.j0 k a0 a1 l2 l3 (decide ((l3.length : Int) > 500))) else (shardloglaw01_WireBack.j0 k a0 a1 l2 l3 true)))) else (shardloglaw01_WireBack.j0 k a0 a1 l2 l3 true)) = some r := H
    have A6 := Aside0.mk A60
    clear A60
    by_cases c7 : t300 = true
    · subst c7
      have H1 : (if (a1.size : Int) > 3000 then (shardloglaw01_WireBack.j0 k a0 a1 l2 l3 true) else ((shardlogref01_Few.f k l2).bind fun t301 => (if t301 = true then (shardloglaw01_WireBack.j0 k a0 a1 l2 l3 (decide ((l3.length : Int) > 500))) else (shardloglaw01_WireBack.j0 k a0 a1 l2 l3 true)))) = some r := by rw [if_pos rfl] at H; exact H
      clear H
      have H := H1
      clear H1
      by_cases c8 : (a1.size : Int) > 3000
      · rw [if_pos c8] at H
        have c8b0 : decide (3000 < (a1.size : Int)) = true := decide_eq_true c8
        have c8b1 : decide (3000 < a1.size) = true := decide_eq_true (by omega)
        clear c8
        (first | rw [c8b0] | (simp only [i64_w, i32_w]; rw [c8b0]) | skip)
        have H' := Aside0.mk H
        clear H
        go_wp2_with (first | ((with_reducible refine gate_callee (f := 9) rfl ?_); refine goesL_ (some 19) rfl rfl Try.func9 (by kernel_rfl) rfl #[] rfl (by (try simp only [List.map_toArray, List.map_cons, List.map_nil]); first | done | rfl | (simp only [List.length_drop, List.length_take]; rfl)) ?_; (with_reducible refine (shardloglaw01_awake.calls k  true _ A6.out).mono ?_); rintro e w9 ⟨rfl, hb⟩; refine ⟨_, rfl, ?_⟩; have n0_ := Aside0.mk (below_step (by repeat (first | (with_reducible first | exact HB.out | apply below_alloc | apply pw_below_drewN | apply below_drew1) | exact HB.out)) hb); clear HB; have HB := n0_; clear n0_; (try clear hb); (try clear hb2); (try clear hk); (try clear hi)))
        go_meet
        case rel => exact ⟨_, (true), (by first | rfl | (simp; done) | (simp [*]; done)), H', ⟨by first | omega | exact Nat.le_refl _⟩, ⟨by repeat (first | (with_reducible first | exact HB.out | apply below_alloc | apply pw_below_drewN | apply below_drew1) | exact HB.out)⟩⟩
      · rw [if_neg c8] at H
        have c8b0 : decide (3000 < (a1.size : Int)) = false := decide_eq_false c8
        have c8b1 : decide (3000 < a1.size) = false := decide_eq_false (by omega)
        clear c8
        (first | rw [c8b0] | (simp only [i64_w, i32_w]; rw [c8b0]) | skip)
        replace H := Option.bind_eq_some_iff.mp H
        obtain ⟨t301, A100, H⟩ := H
        replace H : (if t301 = true then (shardloglaw01_WireBack.j0 k a0 a1 l2 l3 (decide ((l3.length : Int) > 500))) else (shardloglaw01_WireBack.j0 k a0 a1 l2 l3 true)) = some r := H
        have A10 := Aside0.mk A100
        clear A100
        by_cases c11 : t301 = true
        · subst c11
          have H1 : (shardloglaw01_WireBack.j0 k a0 a1 l2 l3 (decide ((l3.length : Int) > 500))) = some r := by rw [if_pos rfl] at H; exact H
          clear H
          have H := H1
          clear H1
          have H' := Aside0.mk H
          clear H
          go_wp2_with (first | ((with_reducible refine gate_callee (f := 9) rfl ?_); refine goesL_ (some 19) rfl rfl Try.func9 (by kernel_rfl) rfl #[] rfl (by (try simp only [List.map_toArray, List.map_cons, List.map_nil]); first | done | rfl | (simp only [List.length_drop, List.length_take]; rfl)) ?_; (with_reducible refine (shardloglaw01_awake.calls k  true _ A6.out).mono ?_); rintro e w12 ⟨rfl, hb⟩; refine ⟨_, rfl, ?_⟩; have n0_ := Aside0.mk (below_step (by repeat (first | (with_reducible first | exact HB.out | apply below_alloc | apply pw_below_drewN | apply below_drew1) | exact HB.out)) hb); clear HB; have HB := n0_; clear n0_; (try clear hb); (try clear hb2); (try clear hk); (try clear hi)) | (go_at_call 10; (with_reducible refine (shardlogref01_Few.calls k _ _ l2 true _ ?side1 ?side2 A10.out).mono ?_); (case side1 => repeat (first | exact (Kd.C_below HR2.out HB.out) | (with_reducible refine Kd.C_alloc ?_ _) | (with_reducible refine Kd.C_drewN ?_ _) | (with_reducible refine Kd.C_drew ?_))); (case side2 => exact HC2.out); rintro e w' ⟨rfl, ⟨nd, rfl⟩⟩))
          go_meet
          case rel => exact ⟨_, (decide ((l3.length : Int) > 500)), (by first | rfl | (simp; done) | (simp [*]; done)), H', ⟨by first | omega | exact Nat.le_refl _⟩, ⟨by repeat (first | (with_reducible first | exact HB.out | apply below_alloc | apply pw_below_drewN | apply below_drew1) | exact HB.out)⟩⟩
        · replace c11 := Bool.eq_false_iff.mpr c11
          subst c11
          have H1 : (shardloglaw01_WireBack.j0 k a0 a1 l2 l3 true) = some r := by rw [if_neg (show ¬ (false = true) by decide)] at H; exact H
          clear H
          have H := H1
          clear H1
          have H' := Aside0.mk H
          clear H
          go_wp2_with (first | ((with_reducible refine gate_callee (f := 9) rfl ?_); refine goesL_ (some 19) rfl rfl Try.func9 (by kernel_rfl) rfl #[] rfl (by (try simp only [List.map_toArray, List.map_cons, List.map_nil]); first | done | rfl | (simp only [List.length_drop, List.length_take]; rfl)) ?_; (with_reducible refine (shardloglaw01_awake.calls k  true _ A6.out).mono ?_); rintro e w13 ⟨rfl, hb⟩; refine ⟨_, rfl, ?_⟩; have n0_ := Aside0.mk (below_step (by repeat (first | (with_reducible first | exact HB.out | apply below_alloc | apply pw_below_drewN | apply below_drew1) | exact HB.out)) hb); clear HB; have HB := n0_; clear n0_; (try clear hb); (try clear hb2); (try clear hk); (try clear hi)) | (go_at_call 10; (with_reducible refine (shardlogref01_Few.calls k _ _ l2 false _ ?side1 ?side2 A10.out).mono ?_); (case side1 => repeat (first | exact (Kd.C_below HR2.out HB.out) | (with_reducible refine Kd.C_alloc ?_ _) | (with_reducible refine Kd.C_drewN ?_ _) | (with_reducible refine Kd.C_drew ?_))); (case side2 => exact HC2.out); rintro e w' ⟨rfl, ⟨nd, rfl⟩⟩))
          go_meet
          case rel => exact ⟨_, (true), (by first | rfl | (simp; done) | (simp [*]; done)), H', ⟨by first | omega | exact Nat.le_refl _⟩, ⟨by repeat (first | (with_reducible first | exact HB.out | apply below_alloc | apply pw_below_drewN | apply below_drew1) | exact HB.out)⟩⟩
    · replace c7 := Bool.eq_false_iff.mpr c7
      subst c7
      have H1 : (shardloglaw01_WireBack.j0 k a0 a1 l2 l3 true) = some r := by rw [if_neg (show ¬ (false = true) by decide)] at H; exact H
      clear H
      have H := H1
      clear H1
      have H' := Aside0.mk H
      clear H
      go_wp2_with (first | ((with_reducible refine gate_callee (f := 9) rfl ?_); refine goesL_ (some 19) rfl rfl Try.func9 (by kernel_rfl) rfl #[] rfl (by (try simp only [List.map_toArray, List.map_cons, List.map_nil]); first | done | rfl | (simp only [List.length_drop, List.length_take]; rfl)) ?_; (with_reducible refine (shardloglaw01_awake.calls k  false _ A6.out).mono ?_); rintro e w14 ⟨rfl, hb⟩; refine ⟨_, rfl, ?_⟩; have n0_ := Aside0.mk (below_step (by repeat (first | (with_reducible first | exact HB.out | apply below_alloc | apply pw_below_drewN | apply below_drew1) | exact HB.out)) hb); clear HB; have HB := n0_; clear n0_; (try clear hb); (try clear hb2); (try clear hk); (try clear hi)))
      go_meet
      case rel => exact ⟨_, (true), (by first | rfl | (simp; done) | (simp [*]; done)), H', ⟨by first | omega | exact Nat.le_refl _⟩, ⟨by repeat (first | (with_reducible first | exact HB.out | apply below_alloc | apply pw_below_drewN | apply below_drew1) | exact HB.out)⟩⟩
  case rest =>
    clear HC5
    try clear c1
    try clear c2
    try clear p2
    try clear c3
    try clear c6
    try clear c7
    try clear c8
    try clear c8b0
    try clear c8b1
    try clear c9
    try clear c11
    obtain ⟨kq, x35_4, rfl, HA, HJ4, HB⟩ := hcut
    cases kq with
    | zero => exact absurd HA.out (by simp [shardloglaw01_WireBack.j0])
    | succ kj4 =>
      have H := HA.out
      clear HA
      simp only [shardloglaw01_WireBack.j0] at H
      by_cases c15 : x35_4 = true
      · subst c15
        have H1 : ((shardloglaw01_awake.f kj4).bind fun t302 => (some t302)) = some r := by rw [if_pos rfl] at H; exact H
        clear H
        have H := H1
        clear H1
        replace H := Option.bind_eq_some_iff.mp H
        obtain ⟨t302, A160, H⟩ := H
        replace H : (some t302) = some r := H
        have A16 := Aside0.mk A160
        clear A160
        obtain rfl := Option.some.inj H
        go_wp2_with (first | ((with_reducible refine gate_callee (f := 9) rfl ?_); refine goesL_ (some 36) rfl rfl Try.func9 (by kernel_rfl) rfl #[] rfl (by (try simp only [List.map_toArray, List.map_cons, List.map_nil]); first | done | rfl | (simp only [List.length_drop, List.length_take]; rfl)) ?_; (with_reducible refine (shardloglaw01_awake.calls kj4  t302 _ A16.out).mono ?_); rintro e w17 ⟨rfl, hb⟩; refine ⟨_, rfl, ?_⟩; have n0_ := Aside0.mk (below_step (by repeat (first | (with_reducible first | exact HB.out | apply below_alloc | apply pw_below_drewN | apply below_drew1) | exact HB.out)) hb); clear HB; have HB := n0_; clear n0_; (try clear hb); (try clear hb2); (try clear hk); (try clear hi)))
        go_ret
        exact ⟨by first | rfl | (simp [errW_none, errW_some] <;> rfl) | (simp [*, errW_none, errW_some] <;> rfl), by repeat (first | (with_reducible first | exact HB.out | apply below_alloc | apply pw_below_drewN | apply below_drew1) | exact HB.out)⟩
      · replace c15 := Bool.eq_false_iff.mpr c15
        subst c15
        have H1 : ((some (([] : List Int) : List Int)).bind fun y303 => ((wire_Num.f (wrap64 (a0))).bind fun t306 => (if y303.length + t306.length < 140737488355328 then ((some (y303 ++ t306 : List Int)).bind fun y309 => ((wire_Text.f a1).bind fun t312 => (if y309.length + t312.length < 140737488355328 then ((some (y309 ++ t312 : List Int)).bind fun y315 => ((wire_Texts.f kj4 l2).bind fun t318 => (if y315.length + t318.length < 140737488355328 then ((some (y315 ++ t318 : List Int)).bind fun y321 => (if y321.length + l3.length < 140737488355328 then ((wire_CutNum.f kj4 (y321 ++ l3)).bind fun bt327 => ((wire_CutText.f kj4 bt327.2.1).bind fun bt332 => ((wire_CutTexts.f kj4 bt332.2.1).bind fun bt337 => (if bt327.2.2 = true then (if bt332.2.2 = true then (if bt337.2.2 = true then (if bt327.1 = (wrap64 (a0)) then (if bt332.1.toList = a1.toList then ((shardlogref01_Strings.f kj4 bt337.1 l2).bind fun t344 => (if t344 = true then ((shardlogref01_Same.f bt337.2.1 l3).bind fun t345 => (some t345)) else (none))) else (none)) else (none)) else (none)) else (none)) else (none))))) else (none))) else (none)))) else (none)))) else (none)))) = some r := by rw [if_neg (show ¬ (false = true) by decide)] at H; exact H
        clear H
        have H := H1
        clear H1
        obtain ⟨y303, hy303⟩ : ∃ y_ : List Int, y_ = (([] : List Int)) := ⟨_, rfl⟩
        replace H : ((wire_Num.f (wrap64 (a0))).bind fun t306 => (if y303.length + t306.length < 140737488355328 then ((some (y303 ++ t306 : List Int)).bind fun y309 => ((wire_Text.f a1).bind fun t312 => (if y309.length + t312.length < 140737488355328 then ((some (y309 ++ t312 : List Int)).bind fun y315 => ((wire_Texts.f kj4 l2).bind fun t318 => (if y315.length + t318.length < 140737488355328 then ((some (y315 ++ t318 : List Int)).bind fun y321 => (if y321.length + l3.length < 140737488355328 then ((wire_CutNum.f kj4 (y321 ++ l3)).bind fun bt327 => ((wire_CutText.f kj4 bt327.2.1).bind fun bt332 => ((wire_CutTexts.f kj4 bt332.2.1).bind fun bt337 => (if bt327.2.2 = true then (if bt332.2.2 = true then (if bt337.2.2 = true then (if bt327.1 = (wrap64 (a0)) then (if bt332.1.toList = a1.toList then ((shardlogref01_Strings.f kj4 bt337.1 l2).bind fun t344 => (if t344 = true then ((shardlogref01_Same.f bt337.2.1 l3).bind fun t345 => (some t345)) else (none))) else (none)) else (none)) else (none)) else (none)) else (none))))) else (none))) else (none)))) else (none)))) else (none))) = some r := by first | (rw [hy303]; with_reducible exact H) | (have H2_ := (Option.bind_some _ _).symm.trans H; rw [hy303]; with_reducible exact H2_) | (have H2_ := (Option.bind_some _ _).symm.trans H; with_reducible exact H2_) | with_reducible exact H | (rw [hy303]; exact H) | exact H
        have Ny303 := Aside0.mk hy303
        clear hy303
        replace H := Option.bind_eq_some_iff.mp H
        obtain ⟨t306, A180, H⟩ := H
        replace H : (if y303.length + t306.length < 140737488355328 then ((some (y303 ++ t306 : List Int)).bind fun y309 => ((wire_Text.f a1).bind fun t312 => (if y309.length + t312.length < 140737488355328 then ((some (y309 ++ t312 : List Int)).bind fun y315 => ((wire_Texts.f kj4 l2).bind fun t318 => (if y315.length + t318.length < 140737488355328 then ((some (y315 ++ t318 : List Int)).bind fun y321 => (if y321.length + l3.length < 140737488355328 then ((wire_CutNum.f kj4 (y321 ++ l3)).bind fun bt327 => ((wire_CutText.f kj4 bt327.2.1).bind fun bt332 => ((wire_CutTexts.f kj4 bt332.2.1).bind fun bt337 => (if bt327.2.2 = true then (if bt332.2.2 = true then (if bt337.2.2 = true then (if bt327.1 = (wrap64 (a0)) then (if bt332.1.toList = a1.toList then ((shardlogref01_Strings.f kj4 bt337.1 l2).bind fun t344 => (if t344 = true then ((shardlogref01_Same.f bt337.2.1 l3).bind fun t345 => (some t345)) else (none))) else (none)) else (none)) else (none)) else (none)) else (none))))) else (none))) else (none)))) else (none)))) else (none)) = some r := H
        have A18 := Aside0.mk A180
        clear A180
        by_cases c19 : y303.length + t306.length < 140737488355328
        · rw [if_pos c19] at H
          have LMc19 := Aside0.mk c19
          clear c19
          obtain ⟨y309, hy309⟩ : ∃ y_ : List Int, y_ = (y303 ++ t306) := ⟨_, rfl⟩
          replace H : ((wire_Text.f a1).bind fun t312 => (if y309.length + t312.length < 140737488355328 then ((some (y309 ++ t312 : List Int)).bind fun y315 => ((wire_Texts.f kj4 l2).bind fun t318 => (if y315.length + t318.length < 140737488355328 then ((some (y315 ++ t318 : List Int)).bind fun y321 => (if y321.length + l3.length < 140737488355328 then ((wire_CutNum.f kj4 (y321 ++ l3)).bind fun bt327 => ((wire_CutText.f kj4 bt327.2.1).bind fun bt332 => ((wire_CutTexts.f kj4 bt332.2.1).bind fun bt337 => (if bt327.2.2 = true then (if bt332.2.2 = true then (if bt337.2.2 = true then (if bt327.1 = (wrap64 (a0)) then (if bt332.1.toList = a1.toList then ((shardlogref01_Strings.f kj4 bt337.1 l2).bind fun t344 => (if t344 = true then ((shardlogref01_Same.f bt337.2.1 l3).bind fun t345 => (some t345)) else (none))) else (none)) else (none)) else (none)) else (none)) else (none))))) else (none))) else (none)))) else (none))) = some r := by first | (rw [hy309]; with_reducible exact H) | (have H2_ := (Option.bind_some _ _).symm.trans H; rw [hy309]; with_reducible exact H2_) | (have H2_ := (Option.bind_some _ _).symm.trans H; with_reducible exact H2_) | with_reducible exact H | (rw [hy309]; exact H) | exact H
          have Ny309 := Aside0.mk hy309
          clear hy309
          replace H := Option.bind_eq_some_iff.mp H
          obtain ⟨t312, A200, H⟩ := H
          replace H : (if y309.length + t312.length < 140737488355328 then ((some (y309 ++ t312 : List Int)).bind fun y315 => ((wire_Texts.f kj4 l2).bind fun t318 => (if y315.length + t318.length < 140737488355328 then ((some (y315 ++ t318 : List Int)).bind fun y321 => (if y321.length + l3.length < 140737488355328 then ((wire_CutNum.f kj4 (y321 ++ l3)).bind fun bt327 => ((wire_CutText.f kj4 bt327.2.1).bind fun bt332 => ((wire_CutTexts.f kj4 bt332.2.1).bind fun bt337 => (if bt327.2.2 = true then (if bt332.2.2 = true then (if bt337.2.2 = true then (if bt327.1 = (wrap64 (a0)) then (if bt332.1.toList = a1.toList then ((shardlogref01_Strings.f kj4 bt337.1 l2).bind fun t344 => (if t344 = true then ((shardlogref01_Same.f bt337.2.1 l3).bind fun t345 => (some t345)) else (none))) else (none)) else (none)) else (none)) else (none)) else (none))))) else (none))) else (none)))) else (none)) = some r := H
          have A20 := Aside0.mk A200
          clear A200
          by_cases c21 : y309.length + t312.length < 140737488355328
          · rw [if_pos c21] at H
            have LMc21 := Aside0.mk c21
            clear c21
            obtain ⟨y315, hy315⟩ : ∃ y_ : List Int, y_ = (y309 ++ t312) := ⟨_, rfl⟩
            replace H : ((wire_Texts.f kj4 l2).bind fun t318 => (if y315.length + t318.length < 140737488355328 then ((some (y315 ++ t318 : List Int)).bind fun y321 => (if y321.length + l3.length < 140737488355328 then ((wire_CutNum.f kj4 (y321 ++ l3)).bind fun bt327 => ((wire_CutText.f kj4 bt327.2.1).bind fun bt332 => ((wire_CutTexts.f kj4 bt332.2.1).bind fun bt337 => (if bt327.2.2 = true then (if bt332.2.2 = true then (if bt337.2.2 = true then (if bt327.1 = (wrap64 (a0)) then (if bt332.1.toList = a1.toList then ((shardlogref01_Strings.f kj4 bt337.1 l2).bind fun t344 => (if t344 = true then ((shardlogref01_Same.f bt337.2.1 l3).bind fun t345 => (some t345)) else (none))) else (none)) else (none)) else (none)) else (none)) else (none))))) else (none))) else (none))) = some r := by first | (rw [hy315]; with_reducible exact H) | (have H2_ := (Option.bind_some _ _).symm.trans H; rw [hy315]; with_reducible exact H2_) | (have H2_ := (Option.bind_some _ _).symm.trans H; with_reducible exact H2_) | with_reducible exact H | (rw [hy315]; exact H) | exact H
            have Ny315 := Aside0.mk hy315
            clear hy315
            replace H := Option.bind_eq_some_iff.mp H
            obtain ⟨t318, A220, H⟩ := H
            replace H : (if y315.length + t318.length < 140737488355328 then ((some (y315 ++ t318 : List Int)).bind fun y321 => (if y321.length + l3.length < 140737488355328 then ((wire_CutNum.f kj4 (y321 ++ l3)).bind fun bt327 => ((wire_CutText.f kj4 bt327.2.1).bind fun bt332 => ((wire_CutTexts.f kj4 bt332.2.1).bind fun bt337 => (if bt327.2.2 = true then (if bt332.2.2 = true then (if bt337.2.2 = true then (if bt327.1 = (wrap64 (a0)) then (if bt332.1.toList = a1.toList then ((shardlogref01_Strings.f kj4 bt337.1 l2).bind fun t344 => (if t344 = true then ((shardlogref01_Same.f bt337.2.1 l3).bind fun t345 => (some t345)) else (none))) else (none)) else (none)) else (none)) else (none)) else (none))))) else (none))) else (none)) = some r := H
            have A22 := Aside0.mk A220
            clear A220
            by_cases c23 : y315.length + t318.length < 140737488355328
            · rw [if_pos c23] at H
              have LMc23 := Aside0.mk c23
              clear c23
              obtain ⟨y321, hy321⟩ : ∃ y_ : List Int, y_ = (y315 ++ t318) := ⟨_, rfl⟩
              replace H : (if y321.length + l3.length < 140737488355328 then ((wire_CutNum.f kj4 (y321 ++ l3)).bind fun bt327 => ((wire_CutText.f kj4 bt327.2.1).bind fun bt332 => ((wire_CutTexts.f kj4 bt332.2.1).bind fun bt337 => (if bt327.2.2 = true then (if bt332.2.2 = true then (if bt337.2.2 = true then (if bt327.1 = (wrap64 (a0)) then (if bt332.1.toList = a1.toList then ((shardlogref01_Strings.f kj4 bt337.1 l2).bind fun t344 => (if t344 = true then ((shardlogref01_Same.f bt337.2.1 l3).bind fun t345 => (some t345)) else (none))) else (none)) else (none)) else (none)) else (none)) else (none))))) else (none)) = some r := by first | (rw [hy321]; with_reducible exact H) | (have H2_ := (Option.bind_some _ _).symm.trans H; rw [hy321]; with_reducible exact H2_) | (have H2_ := (Option.bind_some _ _).symm.trans H; with_reducible exact H2_) | with_reducible exact H | (rw [hy321]; exact H) | exact H
              have Ny321 := Aside0.mk hy321
              clear hy321
              by_cases c24 : y321.length + l3.length < 140737488355328
              · rw [if_pos c24] at H
                have LMc24 := Aside0.mk c24
                clear c24
                obtain ⟨y324, hy324⟩ : ∃ y_ : List Int, y_ = (y321 ++ l3) := ⟨_, rfl⟩
                replace H : ((wire_CutNum.f kj4 y324).bind fun bt327 => ((wire_CutText.f kj4 bt327.2.1).bind fun bt332 => ((wire_CutTexts.f kj4 bt332.2.1).bind fun bt337 => (if bt327.2.2 = true then (if bt332.2.2 = true then (if bt337.2.2 = true then (if bt327.1 = (wrap64 (a0)) then (if bt332.1.toList = a1.toList then ((shardlogref01_Strings.f kj4 bt337.1 l2).bind fun t344 => (if t344 = true then ((shardlogref01_Same.f bt337.2.1 l3).bind fun t345 => (some t345)) else (none))) else (none)) else (none)) else (none)) else (none)) else (none))))) = some r := by first | (rw [hy324]; with_reducible exact H) | (have H2_ := (Option.bind_some _ _).symm.trans H; rw [hy324]; with_reducible exact H2_) | (have H2_ := (Option.bind_some _ _).symm.trans H; with_reducible exact H2_) | with_reducible exact H | (rw [hy324]; exact H) | exact H
                have Ny324 := Aside0.mk hy324
                clear hy324
                replace H := Option.bind_eq_some_iff.mp H
                obtain ⟨⟨t327, t328, t329⟩, A250, H⟩ := H
                replace H : ((wire_CutText.f kj4 t328).bind fun bt332 => ((wire_CutTexts.f kj4 bt332.2.1).bind fun bt337 => (if t329 = true then (if bt332.2.2 = true then (if bt337.2.2 = true then (if t327 = (wrap64 (a0)) then (if bt332.1.toList = a1.toList then ((shardlogref01_Strings.f kj4 bt337.1 l2).bind fun t344 => (if t344 = true then ((shardlogref01_Same.f bt337.2.1 l3).bind fun t345 => (some t345)) else (none))) else (none)) else (none)) else (none)) else (none)) else (none)))) = some r := H
                have A25 := Aside0.mk A250
                clear A250
                replace H := Option.bind_eq_some_iff.mp H
                obtain ⟨⟨t332, t333, t334⟩, A260, H⟩ := H
                replace H : ((wire_CutTexts.f kj4 t333).bind fun bt337 => (if t329 = true then (if t334 = true then (if bt337.2.2 = true then (if t327 = (wrap64 (a0)) then (if t332.toList = a1.toList then ((shardlogref01_Strings.f kj4 bt337.1 l2).bind fun t344 => (if t344 = true then ((shardlogref01_Same.f bt337.2.1 l3).bind fun t345 => (some t345)) else (none))) else (none)) else (none)) else (none)) else (none)) else (none))) = some r := H
                have A26 := Aside0.mk A260
                clear A260
                replace H := Option.bind_eq_some_iff.mp H
                obtain ⟨⟨t337, t338, t339⟩, A270, H⟩ := H
                replace H : (if t329 = true then (if t334 = true then (if t339 = true then (if t327 = (wrap64 (a0)) then (if t332.toList = a1.toList then ((shardlogref01_Strings.f kj4 t337 l2).bind fun t344 => (if t344 = true then ((shardlogref01_Same.f t338 l3).bind fun t345 => (some t345)) else (none))) else (none)) else (none)) else (none)) else (none)) else (none)) = some r := H
                have A27 := Aside0.mk A270
                clear A270
                by_cases c28 : t329 = true
                · subst c28
                  have H1 : (if t334 = true then (if t339 = true then (if t327 = (wrap64 (a0)) then (if t332.toList = a1.toList then ((shardlogref01_Strings.f kj4 t337 l2).bind fun t344 => (if t344 = true then ((shardlogref01_Same.f t338 l3).bind fun t345 => (some t345)) else (none))) else (none)) else (none)) else (none)) else (none)) = some r := by rw [if_pos rfl] at H; exact H
                  clear H
                  have H := H1
                  clear H1
                  by_cases c29 : t334 = true
                  · subst c29
                    have H1 : (if t339 = true then (if t327 = (wrap64 (a0)) then (if t332.toList = a1.toList then ((shardlogref01_Strings.f kj4 t337 l2).bind fun t344 => (if t344 = true then ((shardlogref01_Same.f t338 l3).bind fun t345 => (some t345)) else (none))) else (none)) else (none)) else (none)) = some r := by rw [if_pos rfl] at H; exact H
                    clear H
                    have H := H1
                    clear H1
                    by_cases c30 : t339 = true
                    · subst c30
                      have H1 : (if t327 = (wrap64 (a0)) then (if t332.toList = a1.toList then ((shardlogref01_Strings.f kj4 t337 l2).bind fun t344 => (if t344 = true then ((shardlogref01_Same.f t338 l3).bind fun t345 => (some t345)) else (none))) else (none)) else (none)) = some r := by rw [if_pos rfl] at H; exact H
                      clear H
                      have H := H1
                      clear H1
                      by_cases c31 : t327 = (wrap64 (a0))
                      · rw [if_pos c31] at H
                        have c31b0 : (t327 == (wrap64 (a0))) = true := beq_iff_eq.mpr c31
                        have c31b1 : (t327 != (wrap64 (a0))) = false := bne_eq_false_iff_eq.mpr c31
                        clear c31
                        by_cases c32 : t332.toList = a1.toList
                        · rw [if_pos c32] at H
                          have c32b0 : (t332.toList == a1.toList) = true := beq_iff_eq.mpr c32
                          have c32b1 : (t332.toList != a1.toList) = false := bne_eq_false_iff_eq.mpr c32
                          clear c32
                          replace H := Option.bind_eq_some_iff.mp H
                          obtain ⟨t344, A330, H⟩ := H
                          replace H : (if t344 = true then ((shardlogref01_Same.f t338 l3).bind fun t345 => (some t345)) else (none)) = some r := H
                          have A33 := Aside0.mk A330
                          clear A330
                          by_cases c34 : t344 = true
                          · subst c34
                            have H1 : ((shardlogref01_Same.f t338 l3).bind fun t345 => (some t345)) = some r := by rw [if_pos rfl] at H; exact H
                            clear H
                            have H := H1
                            clear H1
                            replace H := Option.bind_eq_some_iff.mp H
                            obtain ⟨t345, A350, H⟩ := H
                            replace H : (some t345) = some r := H
                            have A35 := Aside0.mk A350
                            clear A350
                            obtain rfl := Option.some.inj H
                            go_wp2_with (first | ((with_reducible refine gate_dst (N := 37) rfl ?_); (try (refine gate_guard (by rfl) ?_; dsimp only)); refine Kd.R_lit (Kd.int .u8) _ 5 ?hg (N := 37) ?hd (xs := ([] : List Int)) (inner := []) (ok := fun _ => True) (okp := fun _ => True) ?hr ?hp (fun _ hk => hk) trivial (Below.refl _ _) (Nat.le_refl _) (by simp) ?_; (case hd => rfl); (case hg => rfl); (case hr => first | (go_simp; done) | (go_simp; rfl)); (case hp => exact (Reps.none _ _)); intro v304 w36 ho37 hb hg_ hnew_; clear hg_ hnew_; (first | rw [← Ny303.out] at ho37 | (simp only [Int.reduceToNat] at ho37; rw [← Ny303.out] at ho37)); have n0_ := Aside0.mk (Kd.R_lower ho37 (below_size (by repeat (first | (with_reducible first | exact HB.out | apply below_alloc | apply pw_below_drewN | apply below_drew1) | exact HB.out)))); have n1_ := Aside0.mk (below_step (by repeat (first | (with_reducible first | exact HB.out | apply below_alloc | apply pw_below_drewN | apply below_drew1) | exact HB.out)) hb); clear HB; have HO305 := n0_; have HB := n1_; clear n0_ n1_; clear hb ho37) | ((with_reducible refine gate_callee (f := 12) rfl ?_); refine goesL_ (some 40) rfl rfl Try.func12 (by kernel_rfl) rfl #[.int .i64 (wrap64 (a0))] rfl (by (try simp only [List.map_toArray, List.map_cons, List.map_nil]); first | done | rfl | (simp only [List.length_drop, List.length_take]; rfl)) ?_; (with_reducible refine (wire_Num.calls (wrap64 (a0)) t306 _ A18.out).mono ?_); rintro e w38 ⟨v307, rfl, ho0, hb⟩; refine ⟨_, rfl, ?_⟩; have n0_ := Aside0.mk (Kd.R_elder' (by (with_reducible repeat (first | apply Kd.R_alloc | apply Kd.R_drewN | apply Kd.R_drew)); exact HO305.out) (Kd.R_base ho0) hb); have n1_ := Aside0.mk (Kd.R_lower (Kd.R_new' ho0 (Kd.R_lt (by (with_reducible repeat (first | apply Kd.R_alloc | apply Kd.R_drewN | apply Kd.R_drew)); exact HO305.out))) (below_size (by repeat (first | (with_reducible first | exact HB.out | apply below_alloc | apply pw_below_drewN | apply below_drew1) | exact HB.out)))); have n2_ := Aside0.mk (below_step (by repeat (first | (with_reducible first | exact HB.out | apply below_alloc | apply pw_below_drewN | apply below_drew1) | exact HB.out)) hb); clear HO305; clear HB; have HO305 := n0_; have HO308 := n1_; have HB := n2_; clear n0_ n1_ n2_; (try clear hb); (try clear hb2); (try clear hk); (try clear hi); (try clear ho0); obtain ⟨Ao40, co40, eo40⟩ := Kd.R_slice HO308.out; subst eo40) | ((with_reducible refine gate_builtin (b := .append) (xs := #[.tmp 37, .tmp 40]) rfl ?_); (try (refine gate_guard (by rfl) ?_; dsimp only)); at_builtin; refine Kd.R_append_rows (Kd.int .u8) (w0 := w) w.heap.size rfl (.tmp 37) (.tmp 40) 26 5 (.int .u8 0) 1 rfl Try.underlying26 info5 rfl (by decide) (by omega) v304 y303 t306 _ _ _ (fun k_ => some k_ ≠ (.slice Ao40 t306.length co40 : Value).ownBlock) (fun _ => False) rfl rfl ?aO ?aR (fun _ _ h => h) (fun _ h => h.elim) ?aF ?aB ?aS ?aL ?_; (case aR => repeat (first | exact (Kd.R_reads' HO308.out).2.2 | (with_reducible refine Kd.C_alloc ?_ _) | (with_reducible refine Kd.C_drewN ?_ _) | (with_reducible refine Kd.C_drew ?_))); (case aB => exact (by repeat (first | (with_reducible first | exact HB.out | apply below_alloc | apply pw_below_drewN | apply below_drew1) | exact HB.out))); (case aF => exact (fun k_ hk => Kd.fresh' (Kd.R_lt (by (with_reducible repeat (first | apply Kd.R_alloc | apply Kd.R_drewN | apply Kd.R_drew)); exact HO308.out)) k_ hk)); (case aO => exact (by (with_reducible repeat (first | apply Kd.R_alloc | apply Kd.R_drewN | apply Kd.R_drew)); exact Kd.R_mono HO305.out (fun _ hk => hk.2))); (case aS => exact (below_size (by repeat (first | (with_reducible first | exact HB.out | apply below_alloc | apply pw_below_drewN | apply below_drew1) | exact HB.out)))); (case aL => have := LMc19.out; omega); intro v310 w39 ho hb hg hat; rw [← Ny309.out] at ho; have n0_ := Aside0.mk (Kd.R_after (ok := (fun _ => True)) (by (with_reducible repeat (first | apply Kd.R_alloc | apply Kd.R_drewN | apply Kd.R_drew)); exact HO308.out) hg hat); have n1_ := Aside0.mk (hb); have n2_ := Aside0.mk (ho); clear HO308; clear HB; clear HO305; have HO308 := n0_; have HB := n1_; have HO311 := n2_; clear n0_ n1_ n2_; clear ho hb hg hat) | ((with_reducible refine gate_callee (f := 14) rfl ?_); refine goesL_ (some 43) rfl rfl Try.func14 (by kernel_rfl) rfl #[.string a1] rfl (by (try simp only [List.map_toArray, List.map_cons, List.map_nil]); first | done | rfl | (simp only [List.length_drop, List.length_take]; rfl)) ?_; (with_reducible refine (wire_Text.calls a1 t312 _ A20.out).mono ?_); rintro e w41 ⟨v313, rfl, ho0, hb⟩; refine ⟨_, rfl, ?_⟩; have n0_ := Aside0.mk (Kd.R_elder' (by (with_reducible repeat (first | apply Kd.R_alloc | apply Kd.R_drewN | apply Kd.R_drew)); exact HO308.out) (Kd.R_base ho0) hb); have n1_ := Aside0.mk (Kd.R_elder' (by (with_reducible repeat (first | apply Kd.R_alloc | apply Kd.R_drewN | apply Kd.R_drew)); exact HO311.out) (Kd.R_base ho0) hb); have n2_ := Aside0.mk (Kd.R_lower (Kd.R_new' (Kd.R_new' ho0 (Kd.R_lt (by (with_reducible repeat (first | apply Kd.R_alloc | apply Kd.R_drewN | apply Kd.R_drew)); exact HO308.out))) (Kd.R_lt (by (with_reducible repeat (first | apply Kd.R_alloc | apply Kd.R_drewN | apply Kd.R_drew)); exact HO311.out))) (below_size (by repeat (first | (with_reducible first | exact HB.out | apply below_alloc | apply pw_below_drewN | apply below_drew1) | exact HB.out)))); have n3_ := Aside0.mk (below_step (by repeat (first | (with_reducible first | exact HB.out | apply below_alloc | apply pw_below_drewN | apply below_drew1) | exact HB.out)) hb); clear HO308; clear HO311; clear HB; have HO308 := n0_; have HO311 := n1_; have HO314 := n2_; have HB := n3_; clear n0_ n1_ n2_ n3_; (try clear hb); (try clear hb2); (try clear hk); (try clear hi); (try clear ho0); obtain ⟨Ao43, co43, eo43⟩ := Kd.R_slice HO314.out; subst eo43) | ((with_reducible refine gate_builtin (b := .append) (xs := #[.tmp 41, .tmp 43]) rfl ?_); (try (refine gate_guard (by rfl) ?_; dsimp only)); at_builtin; refine Kd.R_append_rows (Kd.int .u8) (w0 := w) w.heap.size rfl (.tmp 41) (.tmp 43) 26 5 (.int .u8 0) 1 rfl Try.underlying26 info5 rfl (by decide) (by omega) v310 y309 t312 _ _ _ (fun k_ => some k_ ≠ (.slice Ao40 t306.length co40 : Value).ownBlock ∧ some k_ ≠ (.slice Ao43 t312.length co43 : Value).ownBlock) (fun _ => False) rfl rfl ?aO ?aR (fun _ _ h => h) (fun _ h => h.elim) ?aF ?aB ?aS ?aL ?_; (case aR => repeat (first | exact (Kd.R_reads' HO314.out).2.2 | (with_reducible refine Kd.C_alloc ?_ _) | (with_reducible refine Kd.C_drewN ?_ _) | (with_reducible refine Kd.C_drew ?_))); (case aB => exact (by repeat (first | (with_reducible first | exact HB.out | apply below_alloc | apply pw_below_drewN | apply below_drew1) | exact HB.out))); (case aF => exact (fun k_ hk => ⟨Kd.fresh' (Kd.R_lt (by (with_reducible repeat (first | apply Kd.R_alloc | apply Kd.R_drewN | apply Kd.R_drew)); exact HO308.out)) k_ hk, Kd.fresh' (Kd.R_lt (by (with_reducible repeat (first | apply Kd.R_alloc | apply Kd.R_drewN | apply Kd.R_drew)); exact HO314.out)) k_ hk⟩)); (case aO => exact (by (with_reducible repeat (first | apply Kd.R_alloc | apply Kd.R_drewN | apply Kd.R_drew)); exact HO311.out)); (case aS => exact (below_size (by repeat (first | (with_reducible first | exact HB.out | apply below_alloc | apply pw_below_drewN | apply below_drew1) | exact HB.out)))); (case aL => have := LMc21.out; omega); intro v316 w42 ho hb hg hat; rw [← Ny315.out] at ho; have n0_ := Aside0.mk (Kd.R_after (ok := (fun k_ => some k_ ≠ (.slice Ao43 t312.length co43 : Value).ownBlock)) (by (with_reducible repeat (first | apply Kd.R_alloc | apply Kd.R_drewN | apply Kd.R_drew)); exact Kd.R_mono HO308.out (fun _ hk => ⟨hk.2, hk.1.2⟩)) hg hat); have n1_ := Aside0.mk (Kd.R_after (ok := (fun k_ => some k_ ≠ (.slice Ao40 t306.length co40 : Value).ownBlock)) (by (with_reducible repeat (first | apply Kd.R_alloc | apply Kd.R_drewN | apply Kd.R_drew)); exact Kd.R_mono HO314.out (fun _ hk => ⟨hk.1.2, hk.2⟩)) hg hat); have n2_ := Aside0.mk (hb); have n3_ := Aside0.mk (ho); clear HO308; clear HO314; clear HB; clear HO311; have HO308 := n0_; have HO314 := n1_; have HB := n2_; have HO317 := n3_; clear n0_ n1_ n2_ n3_; clear ho hb hg hat) | ((with_reducible refine gate_callee (f := 16) rfl ?_); refine goesL_ (some 46) rfl rfl Try.func16 (by kernel_rfl) rfl #[.slice A2 l2.length c2] rfl (by (try simp only [List.map_toArray, List.map_cons, List.map_nil]); first | done | rfl | (simp only [List.length_drop, List.length_take]; rfl)) ?_; (with_reducible refine (wire_Texts.calls kj4 _ _ l2 t318 _ ?side1 ?side2 A22.out).mono ?_); (case side1 => repeat (first | exact (Kd.C_below HR2.out HB.out) | (with_reducible refine Kd.C_alloc ?_ _) | (with_reducible refine Kd.C_drewN ?_ _) | (with_reducible refine Kd.C_drew ?_))); (case side2 => exact HC2.out); rintro e w44 ⟨v319, rfl, ho0, hb⟩; refine ⟨_, rfl, ?_⟩; have n0_ := Aside0.mk (Kd.R_elder' (by (with_reducible repeat (first | apply Kd.R_alloc | apply Kd.R_drewN | apply Kd.R_drew)); exact HO308.out) (Kd.R_base ho0) hb); have n1_ := Aside0.mk (Kd.R_elder' (by (with_reducible repeat (first | apply Kd.R_alloc | apply Kd.R_drewN | apply Kd.R_drew)); exact HO314.out) (Kd.R_base ho0) hb); have n2_ := Aside0.mk (Kd.R_elder' (by (with_reducible repeat (first | apply Kd.R_alloc | apply Kd.R_drewN | apply Kd.R_drew)); exact HO317.out) (Kd.R_base ho0) hb); have n3_ := Aside0.mk (Kd.R_lower (Kd.R_new' (Kd.R_new' (Kd.R_new' ho0 (Kd.R_lt (by (with_reducible repeat (first | apply Kd.R_alloc | apply Kd.R_drewN | apply Kd.R_drew)); exact HO308.out))) (Kd.R_lt (by (with_reducible repeat (first | apply Kd.R_alloc | apply Kd.R_drewN | apply Kd.R_drew)); exact HO314.out))) (Kd.R_lt (by (with_reducible repeat (first | apply Kd.R_alloc | apply Kd.R_drewN | apply Kd.R_drew)); exact HO317.out))) (below_size (by repeat (first | (with_reducible first | exact HB.out | apply below_alloc | apply pw_below_drewN | apply below_drew1) | exact HB.out)))); have n4_ := Aside0.mk (below_step (by repeat (first | (with_reducible first | exact HB.out | apply below_alloc | apply pw_below_drewN | apply below_drew1) | exact HB.out)) hb); clear HO308; clear HO314; clear HO317; clear HB; have HO308 := n0_; have HO314 := n1_; have HO317 := n2_; have HO320 := n3_; have HB := n4_; clear n0_ n1_ n2_ n3_ n4_; (try clear hb); (try clear hb2); (try clear hk); (try clear hi); (try clear ho0); obtain ⟨Ao46, co46, eo46⟩ := Kd.R_slice HO320.out; subst eo46) | ((with_reducible refine gate_builtin (b := .append) (xs := #[.tmp 44, .tmp 46]) rfl ?_); (try (refine gate_guard (by rfl) ?_; dsimp only)); at_builtin; refine Kd.R_append_rows (Kd.int .u8) (w0 := w) w.heap.size rfl (.tmp 44) (.tmp 46) 26 5 (.int .u8 0) 1 rfl Try.underlying26 info5 rfl (by decide) (by omega) v316 y315 t318 _ _ _ (fun k_ => some k_ ≠ (.slice Ao40 t306.length co40 : Value).ownBlock ∧ some k_ ≠ (.slice Ao43 t312.length co43 : Value).ownBlock ∧ some k_ ≠ (.slice Ao46 t318.length co46 : Value).ownBlock) (fun _ => False) rfl rfl ?aO ?aR (fun _ _ h => h) (fun _ h => h.elim) ?aF ?aB ?aS ?aL ?_; (case aR => repeat (first | exact (Kd.R_reads' HO320.out).2.2 | (with_reducible refine Kd.C_alloc ?_ _) | (with_reducible refine Kd.C_drewN ?_ _) | (with_reducible refine Kd.C_drew ?_))); (case aB => exact (by repeat (first | (with_reducible first | exact HB.out | apply below_alloc | apply pw_below_drewN | apply below_drew1) | exact HB.out))); (case aF => exact (fun k_ hk => ⟨Kd.fresh' (Kd.R_lt (by (with_reducible repeat (first | apply Kd.R_alloc | apply Kd.R_drewN | apply Kd.R_drew)); exact HO308.out)) k_ hk, Kd.fresh' (Kd.R_lt (by (with_reducible repeat (first | apply Kd.R_alloc | apply Kd.R_drewN | apply Kd.R_drew)); exact HO314.out)) k_ hk, Kd.fresh' (Kd.R_lt (by (with_reducible repeat (first | apply Kd.R_alloc | apply Kd.R_drewN | apply Kd.R_drew)); exact HO320.out)) k_ hk⟩)); (case aO => exact (by (with_reducible repeat (first | apply Kd.R_alloc | apply Kd.R_drewN | apply Kd.R_drew)); exact Kd.R_mono HO317.out (fun _ hk => ⟨hk.1.1, ⟨hk.1.2, hk.2⟩⟩))); (case aS => exact (below_size (by repeat (first | (with_reducible first | exact HB.out | apply below_alloc | apply pw_below_drewN | apply below_drew1) | exact HB.out)))); (case aL => have := LMc23.out; omega); intro v322 w45 ho hb hg hat; rw [← Ny321.out] at ho; have n0_ := Aside0.mk (Kd.R_after (ok := (fun k_ => some k_ ≠ (.slice Ao43 t312.length co43 : Value).ownBlock ∧ some k_ ≠ (.slice Ao46 t318.length co46 : Value).ownBlock)) (by (with_reducible repeat (first | apply Kd.R_alloc | apply Kd.R_drewN | apply Kd.R_drew)); exact Kd.R_mono HO308.out (fun _ hk => ⟨⟨hk.1.1, hk.2⟩, hk.1.2⟩)) hg hat); have n1_ := Aside0.mk (Kd.R_after (ok := (fun k_ => some k_ ≠ (.slice Ao40 t306.length co40 : Value).ownBlock ∧ some k_ ≠ (.slice Ao46 t318.length co46 : Value).ownBlock)) (by (with_reducible repeat (first | apply Kd.R_alloc | apply Kd.R_drewN | apply Kd.R_drew)); exact Kd.R_mono HO314.out (fun _ hk => ⟨⟨hk.1.1, hk.2⟩, hk.1.2⟩)) hg hat); have n2_ := Aside0.mk (Kd.R_after (ok := (fun k_ => some k_ ≠ (.slice Ao40 t306.length co40 : Value).ownBlock ∧ some k_ ≠ (.slice Ao43 t312.length co43 : Value).ownBlock)) (by (with_reducible repeat (first | apply Kd.R_alloc | apply Kd.R_drewN | apply Kd.R_drew)); exact Kd.R_mono HO320.out (fun _ hk => ⟨⟨hk.1.1.2, hk.1.2⟩, hk.2⟩)) hg hat); have n3_ := Aside0.mk (hb); have n4_ := Aside0.mk (ho); clear HO308; clear HO314; clear HO320; clear HB; clear HO317; have HO308 := n0_; have HO314 := n1_; have HO320 := n2_; have HB := n3_; have HO323 := n4_; clear n0_ n1_ n2_ n3_ n4_; clear ho hb hg hat) | ((with_reducible refine gate_builtin (b := .append) (xs := #[.tmp 47, .tmp 48]) rfl ?_); (try (refine gate_guard (by rfl) ?_; dsimp only)); at_builtin; refine Kd.R_append_rows (Kd.int .u8) (w0 := w) w.heap.size rfl (.tmp 47) (.tmp 48) 26 5 (.int .u8 0) 1 rfl Try.underlying26 info5 rfl (by decide) (by omega) v322 y321 l3 _ _ _ (fun k_ => some k_ ≠ (.slice Ao40 t306.length co40 : Value).ownBlock ∧ some k_ ≠ (.slice Ao43 t312.length co43 : Value).ownBlock ∧ some k_ ≠ (.slice Ao46 t318.length co46 : Value).ownBlock) (fun _ => False) rfl rfl ?aO ?aR (fun _ _ h => h) (fun _ h => h.elim) ?aF ?aB ?aS ?aL ?_; (case aR => repeat (first | exact (Kd.C_below HR3.out HB.out) | (with_reducible refine Kd.C_alloc ?_ _) | (with_reducible refine Kd.C_drewN ?_ _) | (with_reducible refine Kd.C_drew ?_))); (case aB => exact (by repeat (first | (with_reducible first | exact HB.out | apply below_alloc | apply pw_below_drewN | apply below_drew1) | exact HB.out))); (case aF => exact (fun k_ hk => ⟨Kd.fresh' (Kd.R_lt (by (with_reducible repeat (first | apply Kd.R_alloc | apply Kd.R_drewN | apply Kd.R_drew)); exact HO308.out)) k_ hk, Kd.fresh' (Kd.R_lt (by (with_reducible repeat (first | apply Kd.R_alloc | apply Kd.R_drewN | apply Kd.R_drew)); exact HO314.out)) k_ hk, Kd.fresh' (Kd.R_lt (by (with_reducible repeat (first | apply Kd.R_alloc | apply Kd.R_drewN | apply Kd.R_drew)); exact HO320.out)) k_ hk⟩)); (case aO => exact (by (with_reducible repeat (first | apply Kd.R_alloc | apply Kd.R_drewN | apply Kd.R_drew)); exact HO323.out)); (case aS => exact (below_size (by repeat (first | (with_reducible first | exact HB.out | apply below_alloc | apply pw_below_drewN | apply below_drew1) | exact HB.out)))); (case aL => have := LMc24.out; omega); intro v325 w47 ho hb hg hat; rw [← Ny324.out] at ho; have n0_ := Aside0.mk (Kd.R_after (ok := (fun k_ => some k_ ≠ (.slice Ao43 t312.length co43 : Value).ownBlock ∧ some k_ ≠ (.slice Ao46 t318.length co46 : Value).ownBlock)) (by (with_reducible repeat (first | apply Kd.R_alloc | apply Kd.R_drewN | apply Kd.R_drew)); exact HO308.out) hg hat); have n1_ := Aside0.mk (Kd.R_after (ok := (fun k_ => some k_ ≠ (.slice Ao40 t306.length co40 : Value).ownBlock ∧ some k_ ≠ (.slice Ao46 t318.length co46 : Value).ownBlock)) (by (with_reducible repeat (first | apply Kd.R_alloc | apply Kd.R_drewN | apply Kd.R_drew)); exact HO314.out) hg hat); have n2_ := Aside0.mk (Kd.R_after (ok := (fun k_ => some k_ ≠ (.slice Ao40 t306.length co40 : Value).ownBlock ∧ some k_ ≠ (.slice Ao43 t312.length co43 : Value).ownBlock)) (by (with_reducible repeat (first | apply Kd.R_alloc | apply Kd.R_drewN | apply Kd.R_drew)); exact HO320.out) hg hat); have n3_ := Aside0.mk (hb); have n4_ := Aside0.mk (ho); clear HO308; clear HO314; clear HO320; clear HB; clear HO323; have HO308 := n0_; have HO314 := n1_; have HO320 := n2_; have HB := n3_; have HO326 := n4_; clear n0_ n1_ n2_ n3_ n4_; clear ho hb hg hat; obtain ⟨Ao48, co48, eo48⟩ := Kd.R_slice HO326.out; subst eo48) | ((with_reducible refine gate_callee (f := 18) rfl ?_); refine goesL_ (some 52) rfl rfl Try.func18 (by kernel_rfl) rfl #[.slice Ao48 y324.length co48] rfl (by (try simp only [List.map_toArray, List.map_cons, List.map_nil]); first | done | rfl | (simp only [List.length_drop, List.length_take]; rfl)) ?_; (with_reducible refine (wire_CutNum.calls kj4 _ _ y324 t327 t328 true _ ?side1 ?side2 A25.out).mono ?_); (case side1 => repeat (first | exact (Kd.R_reads' HO326.out).2.2 | (with_reducible refine Kd.C_alloc ?_ _) | (with_reducible refine Kd.C_drewN ?_ _) | (with_reducible refine Kd.C_drew ?_))); (case side2 => exact (Kd.R_reads' HO326.out).2.1); rintro e w49 ⟨v330, rfl, ho0, hb⟩; refine ⟨_, rfl, ?_⟩; have n0_ := Aside0.mk (Kd.R_elder' (by (with_reducible repeat (first | apply Kd.R_alloc | apply Kd.R_drewN | apply Kd.R_drew)); exact HO308.out) (Kd.R_base ho0) hb); have n1_ := Aside0.mk (Kd.R_elder' (by (with_reducible repeat (first | apply Kd.R_alloc | apply Kd.R_drewN | apply Kd.R_drew)); exact HO314.out) (Kd.R_base ho0) hb); have n2_ := Aside0.mk (Kd.R_elder' (by (with_reducible repeat (first | apply Kd.R_alloc | apply Kd.R_drewN | apply Kd.R_drew)); exact HO320.out) (Kd.R_base ho0) hb); have n3_ := Aside0.mk (Kd.R_elder' (by (with_reducible repeat (first | apply Kd.R_alloc | apply Kd.R_drewN | apply Kd.R_drew)); exact HO326.out) (Kd.R_base ho0) hb); have n4_ := Aside0.mk (Kd.R_lower (Kd.R_new' (Kd.R_new' (Kd.R_new' (Kd.R_new' ho0 (Kd.R_lt (by (with_reducible repeat (first | apply Kd.R_alloc | apply Kd.R_drewN | apply Kd.R_drew)); exact HO308.out))) (Kd.R_lt (by (with_reducible repeat (first | apply Kd.R_alloc | apply Kd.R_drewN | apply Kd.R_drew)); exact HO314.out))) (Kd.R_lt (by (with_reducible repeat (first | apply Kd.R_alloc | apply Kd.R_drewN | apply Kd.R_drew)); exact HO320.out))) (Kd.R_lt (by (with_reducible repeat (first | apply Kd.R_alloc | apply Kd.R_drewN | apply Kd.R_drew)); exact HO326.out))) (below_size (by repeat (first | (with_reducible first | exact HB.out | apply below_alloc | apply pw_below_drewN | apply below_drew1) | exact HB.out)))); have n5_ := Aside0.mk (below_step (by repeat (first | (with_reducible first | exact HB.out | apply below_alloc | apply pw_below_drewN | apply below_drew1) | exact HB.out)) hb); clear HO308; clear HO314; clear HO320; clear HO326; clear HB; have HO308 := n0_; have HO314 := n1_; have HO320 := n2_; have HO326 := n3_; have HO331 := n4_; have HB := n5_; clear n0_ n1_ n2_ n3_ n4_ n5_; (try clear hb); (try clear hb2); (try clear hk); (try clear hi); (try clear ho0); obtain ⟨Ao50, co50, eo50⟩ := Kd.R_slice HO331.out; subst eo50) | ((with_reducible refine gate_callee (f := 19) rfl ?_); refine goesL_ (some 58) rfl rfl Try.func19 (by kernel_rfl) rfl #[.slice Ao50 t328.length co50] rfl (by (try simp only [List.map_toArray, List.map_cons, List.map_nil]); first | done | rfl | (simp only [List.length_drop, List.length_take]; rfl)) ?_; (with_reducible refine (wire_CutText.calls kj4 _ _ t328 t332 t333 true _ ?side1 ?side2 A26.out).mono ?_); (case side1 => repeat (first | exact (Kd.R_reads' HO331.out).2.2 | (with_reducible refine Kd.C_alloc ?_ _) | (with_reducible refine Kd.C_drewN ?_ _) | (with_reducible refine Kd.C_drew ?_))); (case side2 => exact (Kd.R_reads' HO331.out).2.1); rintro e w51 ⟨v335, rfl, ho0, hb⟩; refine ⟨_, rfl, ?_⟩; have n0_ := Aside0.mk (Kd.R_elder' (by (with_reducible repeat (first | apply Kd.R_alloc | apply Kd.R_drewN | apply Kd.R_drew)); exact HO308.out) (Kd.Q_base ho0) hb); have n1_ := Aside0.mk (Kd.R_elder' (by (with_reducible repeat (first | apply Kd.R_alloc | apply Kd.R_drewN | apply Kd.R_drew)); exact HO314.out) (Kd.Q_base ho0) hb); have n2_ := Aside0.mk (Kd.R_elder' (by (with_reducible repeat (first | apply Kd.R_alloc | apply Kd.R_drewN | apply Kd.R_drew)); exact HO320.out) (Kd.Q_base ho0) hb); have n3_ := Aside0.mk (Kd.R_elder' (by (with_reducible repeat (first | apply Kd.R_alloc | apply Kd.R_drewN | apply Kd.R_drew)); exact HO326.out) (Kd.Q_base ho0) hb); have n4_ := Aside0.mk (Kd.R_elder' (by (with_reducible repeat (first | apply Kd.R_alloc | apply Kd.R_drewN | apply Kd.R_drew)); exact HO331.out) (Kd.Q_base ho0) hb); have n5_ := Aside0.mk (Kd.Q_lower (Kd.Q_new' (Kd.Q_new' (Kd.Q_new' (Kd.Q_new' (Kd.Q_new' ho0 (Kd.R_lt (by (with_reducible repeat (first | apply Kd.R_alloc | apply Kd.R_drewN | apply Kd.R_drew)); exact HO308.out))) (Kd.R_lt (by (with_reducible repeat (first | apply Kd.R_alloc | apply Kd.R_drewN | apply Kd.R_drew)); exact HO314.out))) (Kd.R_lt (by (with_reducible repeat (first | apply Kd.R_alloc | apply Kd.R_drewN | apply Kd.R_drew)); exact HO320.out))) (Kd.R_lt (by (with_reducible repeat (first | apply Kd.R_alloc | apply Kd.R_drewN | apply Kd.R_drew)); exact HO326.out))) (Kd.R_lt (by (with_reducible repeat (first | apply Kd.R_alloc | apply Kd.R_drewN | apply Kd.R_drew)); exact HO331.out))) (below_size (by repeat (first | (with_reducible first | exact HB.out | apply below_alloc | apply pw_below_drewN | apply below_drew1) | exact HB.out)))); have n6_ := Aside0.mk (below_step (by repeat (first | (with_reducible first | exact HB.out | apply below_alloc | apply pw_below_drewN | apply below_drew1) | exact HB.out)) hb); clear HO308; clear HO314; clear HO320; clear HO326; clear HO331; clear HB; have HO308 := n0_; have HO314 := n1_; have HO320 := n2_; have HO326 := n3_; have HO331 := n4_; have HO336 := n5_; have HB := n6_; clear n0_ n1_ n2_ n3_ n4_ n5_ n6_; (try clear hb); (try clear hb2); (try clear hk); (try clear hi); (try clear ho0); obtain ⟨Ao52, co52, eo52, _⟩ := Kd.Q_slice HO336.out; subst eo52) | ((with_reducible refine gate_callee (f := 22) rfl ?_); refine goesL_ (some 64) rfl rfl Try.func22 (by kernel_rfl) rfl #[.slice Ao52 t333.length co52] rfl (by (try simp only [List.map_toArray, List.map_cons, List.map_nil]); first | done | rfl | (simp only [List.length_drop, List.length_take]; rfl)) ?_; (with_reducible refine (wire_CutTexts.calls kj4 _ _ t333 t337 t338 true _ ?side1 ?side2 A27.out).mono ?_); (case side1 => repeat (first | exact (Kd.Q_reads' HO336.out).2.2 | (with_reducible refine Kd.C_alloc ?_ _) | (with_reducible refine Kd.C_drewN ?_ _) | (with_reducible refine Kd.C_drew ?_))); (case side2 => exact (Kd.Q_reads' HO336.out).2.1); rintro e w53 ⟨v340, v342, rfl, ho0, ho1, hb⟩; refine ⟨_, rfl, ?_⟩; have n0_ := Aside0.mk (Kd.R_elder' (by (with_reducible repeat (first | apply Kd.R_alloc | apply Kd.R_drewN | apply Kd.R_drew)); exact HO308.out) (Kd.Q_base ho1) hb); have n1_ := Aside0.mk (Kd.R_elder' (by (with_reducible repeat (first | apply Kd.R_alloc | apply Kd.R_drewN | apply Kd.R_drew)); exact HO314.out) (Kd.Q_base ho1) hb); have n2_ := Aside0.mk (Kd.R_elder' (by (with_reducible repeat (first | apply Kd.R_alloc | apply Kd.R_drewN | apply Kd.R_drew)); exact HO320.out) (Kd.Q_base ho1) hb); have n3_ := Aside0.mk (Kd.R_elder' (by (with_reducible repeat (first | apply Kd.R_alloc | apply Kd.R_drewN | apply Kd.R_drew)); exact HO326.out) (Kd.Q_base ho1) hb); have n4_ := Aside0.mk (Kd.R_elder' (by (with_reducible repeat (first | apply Kd.R_alloc | apply Kd.R_drewN | apply Kd.R_drew)); exact HO331.out) (Kd.Q_base ho1) hb); have n5_ := Aside0.mk (Kd.Q_elder' (by (with_reducible repeat (first | apply Kd.Q_alloc | apply Kd.Q_drewN | apply Kd.Q_drew)); exact HO336.out) (Kd.Q_base ho1) hb); have n6_ := Aside0.mk (Kd.R_lower ho0 (below_size (by repeat (first | (with_reducible first | exact HB.out | apply below_alloc | apply pw_below_drewN | apply below_drew1) | exact HB.out)))); have n7_ := Aside0.mk (Kd.Q_lower (Kd.Q_new' (Kd.Q_new' (Kd.Q_new' (Kd.Q_new' (Kd.Q_new' (Kd.Q_new' ho1 (Kd.R_lt (by (with_reducible repeat (first | apply Kd.R_alloc | apply Kd.R_drewN | apply Kd.R_drew)); exact HO308.out))) (Kd.R_lt (by (with_reducible repeat (first | apply Kd.R_alloc | apply Kd.R_drewN | apply Kd.R_drew)); exact HO314.out))) (Kd.R_lt (by (with_reducible repeat (first | apply Kd.R_alloc | apply Kd.R_drewN | apply Kd.R_drew)); exact HO320.out))) (Kd.R_lt (by (with_reducible repeat (first | apply Kd.R_alloc | apply Kd.R_drewN | apply Kd.R_drew)); exact HO326.out))) (Kd.R_lt (by (with_reducible repeat (first | apply Kd.R_alloc | apply Kd.R_drewN | apply Kd.R_drew)); exact HO331.out))) (Kd.Q_lt (by (with_reducible repeat (first | apply Kd.Q_alloc | apply Kd.Q_drewN | apply Kd.Q_drew)); exact HO336.out))) (below_size (by repeat (first | (with_reducible first | exact HB.out | apply below_alloc | apply pw_below_drewN | apply below_drew1) | exact HB.out)))); have n8_ := Aside0.mk (below_step (by repeat (first | (with_reducible first | exact HB.out | apply below_alloc | apply pw_below_drewN | apply below_drew1) | exact HB.out)) hb); clear HO308; clear HO314; clear HO320; clear HO326; clear HO331; clear HO336; clear HB; have HO308 := n0_; have HO314 := n1_; have HO320 := n2_; have HO326 := n3_; have HO331 := n4_; have HO336 := n5_; have HO341 := n6_; have HO343 := n7_; have HB := n8_; clear n0_ n1_ n2_ n3_ n4_ n5_ n6_ n7_ n8_; (try clear hb); (try clear hb2); (try clear hk); (try clear hi); (try clear ho0); (try clear ho1); obtain ⟨Ao54, co54, eo54⟩ := Kd.R_slice HO341.out; subst eo54) | (go_at_call 23; (with_reducible refine (shardlogref01_Strings.calls kj4 _ _ t337 _ _ l2 true _ ?side1 ?side2 ?side3 ?side4 A33.out).mono ?_); (case side1 => repeat (first | exact (Kd.R_reads' HO341.out).2.2 | (with_reducible refine Kd.C_alloc ?_ _) | (with_reducible refine Kd.C_drewN ?_ _) | (with_reducible refine Kd.C_drew ?_))); (case side2 => exact (Kd.R_reads' HO341.out).2.1); (case side3 => repeat (first | exact (Kd.C_below HR2.out HB.out) | (with_reducible refine Kd.C_alloc ?_ _) | (with_reducible refine Kd.C_drewN ?_ _) | (with_reducible refine Kd.C_drew ?_))); (case side4 => exact HC2.out); rintro e w' ⟨rfl, ⟨nd, rfl⟩⟩; obtain ⟨Ao55, co55, eo55, _⟩ := Kd.Q_slice HO343.out; subst eo55) | (go_at_call 11; (with_reducible refine (shardlogref01_Same.calls _ _ t338 _ _ l3 t345 _ ?side1 ?side2 ?side3 ?side4 A35.out).mono ?_); (case side1 => repeat (first | exact (Kd.Q_reads' HO343.out).2.2 | (with_reducible refine Kd.C_alloc ?_ _) | (with_reducible refine Kd.C_drewN ?_ _) | (with_reducible refine Kd.C_drew ?_))); (case side2 => exact (Kd.Q_reads' HO343.out).2.1); (case side3 => repeat (first | exact (Kd.C_below HR3.out (by repeat (first | (with_reducible first | exact HB.out | apply below_alloc | apply pw_below_drewN | apply below_drew1) | exact HB.out))) | (with_reducible refine Kd.C_alloc ?_ _) | (with_reducible refine Kd.C_drewN ?_ _) | (with_reducible refine Kd.C_drew ?_))); (case side4 => exact HC3.out); rintro e w' ⟨rfl, ⟨nd, rfl⟩⟩))
                            go_ret
                            exact ⟨by first | rfl | (simp [errW_none, errW_some] <;> rfl) | (simp [*, errW_none, errW_some] <;> rfl), by repeat (first | (with_reducible first | exact HB.out | apply below_alloc | apply pw_below_drewN | apply below_drew1) | exact HB.out)⟩
                          · replace c34 := Bool.eq_false_iff.mpr c34
                            subst c34
                            have H1 : (none) = some r := by rw [if_neg (show ¬ (false = true) by decide)] at H; exact H
                            clear H
                            have H := H1
                            clear H1
                            exact absurd H (by simp)
                        · rw [if_neg c32] at H
                          exact absurd H (by simp)
                      · rw [if_neg c31] at H
                        exact absurd H (by simp)
                    · replace c30 := Bool.eq_false_iff.mpr c30
                      subst c30
                      have H1 : (none) = some r := by rw [if_neg (show ¬ (false = true) by decide)] at H; exact H
                      clear H
                      have H := H1
                      clear H1
                      exact absurd H (by simp)
                  · replace c29 := Bool.eq_false_iff.mpr c29
                    subst c29
                    have H1 : (none) = some r := by rw [if_neg (show ¬ (false = true) by decide)] at H; exact H
                    clear H
                    have H := H1
                    clear H1
                    exact absurd H (by simp)
                · replace c28 := Bool.eq_false_iff.mpr c28
                  subst c28
                  have H1 : (none) = some r := by rw [if_neg (show ¬ (false = true) by decide)] at H; exact H
                  clear H
                  have H := H1
                  clear H1
                  exact absurd H (by simp)
              · rw [if_neg c24] at H
                exact absurd H (by simp)
            · rw [if_neg c23] at H
              exact absurd H (by simp)
          · rw [if_neg c21] at H
            exact absurd H (by simp)
        · rw [if_neg c19] at H
          exact absurd H (by simp)

/-- THE ONE PURE STATEMENT of shardloglaw01_WireBack. -/
def shardloglaw01_WireBack.Pure : Prop := ∀ (a0 : Int) (a1 : ByteArray) (l2 : List ByteArray) (l3 : List Int), (Lit.int .u32 a0).wf = true → a1.size ≤ 140737488351232 → (l2.length ≤ maxLen ∧ l2.length * 16 ≤ 140737488351232 ∧ ∀ y0_ ∈ l2, y0_.size ≤ 140737488351232) → (l3.length ≤ maxLen ∧ l3.length * 1 ≤ 140737488351232 ∧ ∀ y0_ ∈ l3, (Lit.int .u8 y0_).wf = true) → ∃ k, shardloglaw01_WireBack.f k a0 a1 l2 l3 = some true
theorem shardloglaw01_WireBack.walk (P : shardloglaw01_WireBack.Pure) (a0 : Int) (a1 : ByteArray) (A2 : Option Addr) (c2 : Nat) (l2 : List ByteArray) (A3 : Option Addr) (c3 : Nat) (l3 : List Int) (w : World) (wf0 : (Lit.int .u32 a0).wf = true) (wf1 : a1.size ≤ 140737488351232) (wf2 : (l2.length ≤ maxLen ∧ l2.length * 16 ≤ 140737488351232 ∧ ∀ y0_ ∈ l2, y0_.size ≤ 140737488351232)) (hr2 : Kd.C Kd.string w A2 l2.length l2) (hc2 : l2.length ≤ c2) (wf3 : (l3.length ≤ maxLen ∧ l3.length * 1 ≤ 140737488351232 ∧ ∀ y0_ ∈ l3, (Lit.int .u8 y0_).wf = true)) (hr3 : Kd.C (Kd.int .u8) w A3 l3.length l3) (hc3 : l3.length ≤ c3) :
    Calls Try.prog 6 #[.int .u32 a0, .string a1, .slice A2 l2.length c2, .slice A3 l3.length c3] w fun e w' => e = .returned (.bool true) ∧ Below w.heap.size w w' := by
  obtain ⟨k, h⟩ := P a0 a1 l2 l3 wf0 wf1 wf2 wf3
  refine (shardloglaw01_WireBack.calls k a0 a1 A2 c2 l2 A3 c3 l3 true w hr2 hc2 hr3 hc3 h).mono ?_
  rintro e w' ⟨rfl, hd⟩
  exact ⟨rfl, hd⟩

end Go.Proofs.Ythoiimhokkfeaaa.X
