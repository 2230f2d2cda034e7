-- written by a program of this session's, over the kit's print
import Derived.Test.YtinhpolmanccgaaXx0
namespace Go.Proofs.Ytinhpolmanccgaa.X
open Go.RowKit Go.Proofs.YtinhpolmanccgaaW.PrintWords Go.Proofs.YtinhpolmanccgaaW.PrintLast Go.Proofs.YtinhpolmanccgaaW.PrintMore
attribute [local go_sem] max2_int min2_int max_two min_two max_three min_three max_four min_four gtr_str   -- for this text's walks alone
set_option linter.unusedVariables false
set_option linter.unusedSimpArgs false

/-! ### cmp_Or_int: function 62 -/
def cmp_Or_int.l0 : Nat → Int → List Int → Int → Int → Option (Int)
 | 0, _, _, _, _ => none
 | k + 1, x3, x6, x7, x8 => if x8 < x7 then (if 0 ≤ x8 then (if x8 < (x6.length : Int) then (if (rd x6 x8) = x3 then (cmp_Or_int.l0 k x3 x6 x7 (wrap64 (x8 + 1))) else (some (rd x6 x8))) else (none)) else (none)) else (some x3)
def cmp_Or_int.f (k : Nat) (l0 : List Int) : Option (Int) := cmp_Or_int.l0 k 0 l0 (l0.length : Int) 0
theorem cmp_Or_int.mono_l : ∀ k, (∀ y0 y1 y2 y3, LeO (cmp_Or_int.l0 k y0 y1 y2 y3) (cmp_Or_int.l0 (k + 1) y0 y1 y2 y3))
 | 0 => fun _ _ _ _ r h => by simp [cmp_Or_int.l0] at h
 | k + 1 => by
  have ih0 := cmp_Or_int.mono_l k
  ·
   intro y0 y1 y2 y3
   unfold cmp_Or_int.l0
   exact lmo
theorem cmp_Or_int.mono : ∀ a0 k, LeO (cmp_Or_int.f k a0) (cmp_Or_int.f (k + 1) a0) := by
 intro a0 k
 have ih0 := cmp_Or_int.mono_l k
 unfold cmp_Or_int.f
 exact lmo
set_option maxHeartbeats 8000000 in
set_option maxRecDepth 100000 in
theorem cmp_Or_int.calls (k : Nat) (A0 : Option Addr) (c0 : Nat) (l0 : List Int) (r : Int) (w : World) (hr0 : Kd.C (Kd.int .i64) w A0 l0.length l0) (hc0 : l0.length ≤ c0) (h : cmp_Or_int.f k l0 = some r) :
  Calls Try.prog 62 #[.slice A0 l0.length c0] w fun e w' => e = .returned (.int .i64 r) ∧ Drawn0 w w' := by
 have HR0 := aS hr0; have HC0 := aS hc0; clear hr0 hc0; have H : (cmp_Or_int.l0 k 0 l0 (l0.length : Int) 0) = some r := h; clear h
 have H' := aS H
 clear H
 go_enter Try.func62, Try.ntmps62
 go_wp2
 go_loopg [8] k (fun kq v8 w' => ∃ (x8_1 : Int), v8 = .int .i64 x8_1 ∧ Aside0 (cmp_Or_int.l0 kq 0 l0 (l0.length : Int) x8_1 = some r) ∧ Aside0 (kq ≤ k) ∧ Drawn0 w w')
 case atStart => exact ⟨(0), srf, H', ⟨Nat.le_refl _⟩, by repeat (first | exact Drawn0.refl _ | apply Drawn0.step)⟩
 case round =>
  clear H'; obtain ⟨x8_1, rfl, HA, HK1, ⟨m1, rfl⟩⟩ := hrel
  cases gk with
  | zero => exact absurd HA.out (by simp [cmp_Or_int.l0])
  | succ k1 =>
   have H := HA.out; clear HA
   simp only [cmp_Or_int.l0] at H
   by_cases c2 : x8_1 < (l0.length : Int)
   ·
    rw [if_pos c2] at H; have c2b0 : decide (x8_1 < (l0.length : Int)) = true := decide_eq_true c2; clear c2
    by_cases c3 : 0 ≤ x8_1
    ·
     rw [if_pos c3] at H; have c3b0 : decide (0 ≤ x8_1) = true := decide_eq_true c3; clear c3
     by_cases c4 : x8_1 < (l0.length : Int)
     ·
      rw [if_pos c4] at H; have c4b0 : decide (x8_1 < (l0.length : Int)) = true := decide_eq_true c4; clear c4
      by_cases c5 : (rd l0 x8_1) = 0
      ·
       rw [if_pos c5] at H; obtain ⟨c5b0, c5b1⟩ := eqT c5; clear c5
       have H' := aS H
       clear H; have p101 : 0 ≤ (x8_1 : Int) := oda; have q101 : x8_1 < (l0.length : Int) := oda; obtain ⟨ad101, e101, hx101_0⟩ := Kd.at_int HR0.out x8_1 p101 q101; cases e101; replace p101 := eq_true p101; replace q101 := eq_true q101
       go_wp2
       go_roundg k1
       case measure => have := HK1.out; omega
       case rel => exact ⟨(wrap64 (x8_1 + 1)), srf, H', ⟨by have := HK1.out; omega⟩, by repeat (first | exact Drawn0.refl _ | apply Drawn0.step)⟩
      ·
       rw [if_neg c5] at H; obtain ⟨c5b0, c5b1⟩ := eqF c5
       obtain rfl := Option.some.inj H
       have p101 : 0 ≤ (x8_1 : Int) := oda; have q101 : x8_1 < (l0.length : Int) := oda; obtain ⟨ad101, e101, hx101_0⟩ := Kd.at_int HR0.out x8_1 p101 q101; cases e101; replace p101 := eq_true p101; replace q101 := eq_true q101
       go_wp2
       go_ret
       exact ⟨by first | rfl | (simp; done) | (simp [*]; done) | (simp; exact (by decide : ∀ a_ b_ : Bool, (a_ == b_) = (!a_ != b_)) _ _), by repeat (first | exact Drawn0.refl _ | apply Drawn0.step)⟩
     ·
      rw [if_neg c4] at H; exact absurd H (by simp)
    ·
     rw [if_neg c3] at H; exact absurd H (by simp)
   ·
    rw [if_neg c2] at H; have c2b0 : decide (x8_1 < (l0.length : Int)) = false := decide_eq_false c2; clear c2
    obtain rfl := Option.some.inj H
    go_wp2
    go_ret
    exact ⟨by first | rfl | (simp; done) | (simp [*]; done) | (simp; exact (by decide : ∀ a_ b_ : Bool, (a_ == b_) = (!a_ != b_)) _ _), by repeat (first | exact Drawn0.refl _ | apply Drawn0.step)⟩

/-! ### cmp_isNaN_string: function 76 -/
def cmp_isNaN_string.f (a0 : ByteArray) : Option (Bool) := some (a0.toList != a0.toList)
set_option maxHeartbeats 8000000 in
set_option maxRecDepth 100000 in
theorem cmp_isNaN_string.calls (a0 : ByteArray) (r : Bool) (w : World) (h : cmp_isNaN_string.f a0 = some r) :
  Calls Try.prog 76 #[.string a0] w fun e w' => e = .returned (.bool r) ∧ Drawn0 w w' := by
 have H : (some (a0.toList != a0.toList)) = some r := h; clear h
 obtain rfl := Option.some.inj H
 go_enter Try.func76, Try.ntmps76
 go_wp2
 go_ret
 exact ⟨by first | rfl | (simp; done) | (simp [*]; done) | (simp; exact (by decide : ∀ a_ b_ : Bool, (a_ == b_) = (!a_ != b_)) _ _), by repeat (first | exact Drawn0.refl _ | apply Drawn0.step)⟩

/-! ### cmp_Compare_string: function 63 -/
def cmp_Compare_string.f (a0 : ByteArray) (a1 : ByteArray) : Option (Int) := (cmp_isNaN_string.f a0).bind fun t102 => ((cmp_isNaN_string.f a1).bind fun t103 => (if t102 = true then (if t103 = true then (some 0) else (some (-1))) else (if t103 = true then (some 1) else (if (Op.bytesLess a0.toList a1.toList) = true then (some (-1)) else (if (Op.bytesLess a1.toList a0.toList) = true then (some 1) else (some 0))))))
set_option maxHeartbeats 8000000 in
set_option maxRecDepth 100000 in
theorem cmp_Compare_string.calls (a0 : ByteArray) (a1 : ByteArray) (r : Int) (w : World) (h : cmp_Compare_string.f a0 a1 = some r) :
  Calls Try.prog 63 #[.string a0, .string a1] w fun e w' => e = .returned (.int .i64 r) ∧ Drawn0 w w' := by
 have H : ((cmp_isNaN_string.f a0).bind fun t102 => ((cmp_isNaN_string.f a1).bind fun t103 => (if t102 = true then (if t103 = true then (some 0) else (some (-1))) else (if t103 = true then (some 1) else (if (Op.bytesLess a0.toList a1.toList) = true then (some (-1)) else (if (Op.bytesLess a1.toList a0.toList) = true then (some 1) else (some 0))))))) = some r := h; clear h; replace H := obm H; obtain ⟨t102, A30, H⟩ := H; have A3 := aS A30; clear A30; replace H := obm H; obtain ⟨t103, A40, H⟩ := H; have A4 := aS A40; clear A40
 by_cases c5 : t102 = true
 ·
  subst c5
  replace H := ifT H
  by_cases c6 : t103 = true
  ·
   subst c6
   replace H := ifT H
   obtain rfl := Option.some.inj H
   go_enter Try.func63, Try.ntmps63
   go_wp2_with (first | ((with_reducible refine gate_callee (f := 76) rfl ?_); refine goesL_ (some 8) rfl rfl Try.func76 (by kernel_rfl) rfl #[.string a0] rfl agn ?_; (with_reducible refine (cmp_isNaN_string.calls a0 true _ A3.out).mono ?_); rintro e w' ⟨rfl, ⟨nd, rfl⟩⟩; refine ⟨_, rfl, ?_⟩) | ((with_reducible refine gate_callee (f := 76) rfl ?_); refine goesL_ (some 10) rfl rfl Try.func76 (by kernel_rfl) rfl #[.string a1] rfl agn ?_; (with_reducible refine (cmp_isNaN_string.calls a1 true _ A4.out).mono ?_); rintro e w' ⟨rfl, ⟨nd, rfl⟩⟩; refine ⟨_, rfl, ?_⟩))
   go_ret
   exact ⟨by first | rfl | (simp; done) | (simp [*]; done) | (simp; exact (by decide : ∀ a_ b_ : Bool, (a_ == b_) = (!a_ != b_)) _ _), by repeat (first | exact Drawn0.refl _ | apply Drawn0.step)⟩
  ·
   replace c6 := Bool.eq_false_iff.mpr c6; subst c6
   replace H := ifF H
   obtain rfl := Option.some.inj H
   go_enter Try.func63, Try.ntmps63
   go_wp2_with (first | ((with_reducible refine gate_callee (f := 76) rfl ?_); refine goesL_ (some 8) rfl rfl Try.func76 (by kernel_rfl) rfl #[.string a0] rfl agn ?_; (with_reducible refine (cmp_isNaN_string.calls a0 true _ A3.out).mono ?_); rintro e w' ⟨rfl, ⟨nd, rfl⟩⟩; refine ⟨_, rfl, ?_⟩) | ((with_reducible refine gate_callee (f := 76) rfl ?_); refine goesL_ (some 10) rfl rfl Try.func76 (by kernel_rfl) rfl #[.string a1] rfl agn ?_; (with_reducible refine (cmp_isNaN_string.calls a1 false _ A4.out).mono ?_); rintro e w' ⟨rfl, ⟨nd, rfl⟩⟩; refine ⟨_, rfl, ?_⟩))
   go_ret
   exact ⟨by first | rfl | (simp; done) | (simp [*]; done) | (simp; exact (by decide : ∀ a_ b_ : Bool, (a_ == b_) = (!a_ != b_)) _ _), by repeat (first | exact Drawn0.refl _ | apply Drawn0.step)⟩
 ·
  replace c5 := Bool.eq_false_iff.mpr c5; subst c5
  replace H := ifF H
  by_cases c7 : t103 = true
  ·
   subst c7
   replace H := ifT H
   obtain rfl := Option.some.inj H
   go_enter Try.func63, Try.ntmps63
   go_wp2_with (first | ((with_reducible refine gate_callee (f := 76) rfl ?_); refine goesL_ (some 8) rfl rfl Try.func76 (by kernel_rfl) rfl #[.string a0] rfl agn ?_; (with_reducible refine (cmp_isNaN_string.calls a0 false _ A3.out).mono ?_); rintro e w' ⟨rfl, ⟨nd, rfl⟩⟩; refine ⟨_, rfl, ?_⟩) | ((with_reducible refine gate_callee (f := 76) rfl ?_); refine goesL_ (some 10) rfl rfl Try.func76 (by kernel_rfl) rfl #[.string a1] rfl agn ?_; (with_reducible refine (cmp_isNaN_string.calls a1 true _ A4.out).mono ?_); rintro e w' ⟨rfl, ⟨nd, rfl⟩⟩; refine ⟨_, rfl, ?_⟩))
   go_ret
   exact ⟨by first | rfl | (simp; done) | (simp [*]; done) | (simp; exact (by decide : ∀ a_ b_ : Bool, (a_ == b_) = (!a_ != b_)) _ _), by repeat (first | exact Drawn0.refl _ | apply Drawn0.step)⟩
  ·
   replace c7 := Bool.eq_false_iff.mpr c7; subst c7
   replace H := ifF H
   by_cases c8 : (Op.bytesLess a0.toList a1.toList) = true
   ·
    rw [if_pos c8] at H; have c8b0 : (Op.bytesLess a0.toList a1.toList) = true := c8; clear c8
    obtain rfl := Option.some.inj H
    go_enter Try.func63, Try.ntmps63
    go_wp2_with (first | ((with_reducible refine gate_callee (f := 76) rfl ?_); refine goesL_ (some 8) rfl rfl Try.func76 (by kernel_rfl) rfl #[.string a0] rfl agn ?_; (with_reducible refine (cmp_isNaN_string.calls a0 false _ A3.out).mono ?_); rintro e w' ⟨rfl, ⟨nd, rfl⟩⟩; refine ⟨_, rfl, ?_⟩) | ((with_reducible refine gate_callee (f := 76) rfl ?_); refine goesL_ (some 10) rfl rfl Try.func76 (by kernel_rfl) rfl #[.string a1] rfl agn ?_; (with_reducible refine (cmp_isNaN_string.calls a1 false _ A4.out).mono ?_); rintro e w' ⟨rfl, ⟨nd, rfl⟩⟩; refine ⟨_, rfl, ?_⟩))
    go_ret
    exact ⟨by first | rfl | (simp; done) | (simp [*]; done) | (simp; exact (by decide : ∀ a_ b_ : Bool, (a_ == b_) = (!a_ != b_)) _ _), by repeat (first | exact Drawn0.refl _ | apply Drawn0.step)⟩
   ·
    rw [if_neg c8] at H
    have c8b0 : (Op.bytesLess a0.toList a1.toList) = false := by simpa using c8
    clear c8
    by_cases c9 : (Op.bytesLess a1.toList a0.toList) = true
    ·
     rw [if_pos c9] at H; have c9b0 : (Op.bytesLess a1.toList a0.toList) = true := c9; clear c9
     obtain rfl := Option.some.inj H
     go_enter Try.func63, Try.ntmps63
     go_wp2_with (first | ((with_reducible refine gate_callee (f := 76) rfl ?_); refine goesL_ (some 8) rfl rfl Try.func76 (by kernel_rfl) rfl #[.string a0] rfl agn ?_; (with_reducible refine (cmp_isNaN_string.calls a0 false _ A3.out).mono ?_); rintro e w' ⟨rfl, ⟨nd, rfl⟩⟩; refine ⟨_, rfl, ?_⟩) | ((with_reducible refine gate_callee (f := 76) rfl ?_); refine goesL_ (some 10) rfl rfl Try.func76 (by kernel_rfl) rfl #[.string a1] rfl agn ?_; (with_reducible refine (cmp_isNaN_string.calls a1 false _ A4.out).mono ?_); rintro e w' ⟨rfl, ⟨nd, rfl⟩⟩; refine ⟨_, rfl, ?_⟩))
     go_ret
     exact ⟨by first | rfl | (simp; done) | (simp [*]; done) | (simp; exact (by decide : ∀ a_ b_ : Bool, (a_ == b_) = (!a_ != b_)) _ _), by repeat (first | exact Drawn0.refl _ | apply Drawn0.step)⟩
    ·
     rw [if_neg c9] at H
     have c9b0 : (Op.bytesLess a1.toList a0.toList) = false := by simpa using c9
     clear c9
     obtain rfl := Option.some.inj H
     go_enter Try.func63, Try.ntmps63
     go_wp2_with (first | ((with_reducible refine gate_callee (f := 76) rfl ?_); refine goesL_ (some 8) rfl rfl Try.func76 (by kernel_rfl) rfl #[.string a0] rfl agn ?_; (with_reducible refine (cmp_isNaN_string.calls a0 false _ A3.out).mono ?_); rintro e w' ⟨rfl, ⟨nd, rfl⟩⟩; refine ⟨_, rfl, ?_⟩) | ((with_reducible refine gate_callee (f := 76) rfl ?_); refine goesL_ (some 10) rfl rfl Try.func76 (by kernel_rfl) rfl #[.string a1] rfl agn ?_; (with_reducible refine (cmp_isNaN_string.calls a1 false _ A4.out).mono ?_); rintro e w' ⟨rfl, ⟨nd, rfl⟩⟩; refine ⟨_, rfl, ?_⟩))
     go_ret
     exact ⟨by first | rfl | (simp; done) | (simp [*]; done) | (simp; exact (by decide : ∀ a_ b_ : Bool, (a_ == b_) = (!a_ != b_)) _ _), by repeat (first | exact Drawn0.refl _ | apply Drawn0.step)⟩

/-! ### cmp_isNaN_int: function 77 -/
def cmp_isNaN_int.f (a0 : Int) : Option (Bool) := some (a0 != a0)
set_option maxHeartbeats 8000000 in
set_option maxRecDepth 100000 in
theorem cmp_isNaN_int.calls (a0 : Int) (r : Bool) (w : World) (h : cmp_isNaN_int.f a0 = some r) :
  Calls Try.prog 77 #[.int .i64 a0] w fun e w' => e = .returned (.bool r) ∧ Drawn0 w w' := by
 have H : (some (a0 != a0)) = some r := h; clear h
 obtain rfl := Option.some.inj H
 go_enter Try.func77, Try.ntmps77
 go_wp2
 go_ret
 exact ⟨by first | rfl | (simp; done) | (simp [*]; done) | (simp; exact (by decide : ∀ a_ b_ : Bool, (a_ == b_) = (!a_ != b_)) _ _), by repeat (first | exact Drawn0.refl _ | apply Drawn0.step)⟩

/-! ### cmp_Compare_int: function 64 -/
def cmp_Compare_int.f (a0 : Int) (a1 : Int) : Option (Int) := (cmp_isNaN_int.f a0).bind fun t104 => ((cmp_isNaN_int.f a1).bind fun t105 => (if t104 = true then (if t105 = true then (some 0) else (some (-1))) else (if t105 = true then (some 1) else (if a0 < a1 then (some (-1)) else (if a0 > a1 then (some 1) else (some 0))))))
set_option maxHeartbeats 8000000 in
set_option maxRecDepth 100000 in
theorem cmp_Compare_int.calls (a0 : Int) (a1 : Int) (r : Int) (w : World) (h : cmp_Compare_int.f a0 a1 = some r) :
  Calls Try.prog 64 #[.int .i64 a0, .int .i64 a1] w fun e w' => e = .returned (.int .i64 r) ∧ Drawn0 w w' := by
 have H : ((cmp_isNaN_int.f a0).bind fun t104 => ((cmp_isNaN_int.f a1).bind fun t105 => (if t104 = true then (if t105 = true then (some 0) else (some (-1))) else (if t105 = true then (some 1) else (if a0 < a1 then (some (-1)) else (if a0 > a1 then (some 1) else (some 0))))))) = some r := h; clear h; replace H := obm H; obtain ⟨t104, A30, H⟩ := H; have A3 := aS A30; clear A30; replace H := obm H; obtain ⟨t105, A40, H⟩ := H; have A4 := aS A40; clear A40
 by_cases c5 : t104 = true
 ·
  subst c5
  replace H := ifT H
  by_cases c6 : t105 = true
  ·
   subst c6
   replace H := ifT H
   obtain rfl := Option.some.inj H
   go_enter Try.func64, Try.ntmps64
   go_wp2_with (first | ((with_reducible refine gate_callee (f := 77) rfl ?_); refine goesL_ (some 8) rfl rfl Try.func77 (by kernel_rfl) rfl #[.int .i64 a0] rfl agn ?_; (with_reducible refine (cmp_isNaN_int.calls a0 true _ A3.out).mono ?_); rintro e w' ⟨rfl, ⟨nd, rfl⟩⟩; refine ⟨_, rfl, ?_⟩) | ((with_reducible refine gate_callee (f := 77) rfl ?_); refine goesL_ (some 10) rfl rfl Try.func77 (by kernel_rfl) rfl #[.int .i64 a1] rfl agn ?_; (with_reducible refine (cmp_isNaN_int.calls a1 true _ A4.out).mono ?_); rintro e w' ⟨rfl, ⟨nd, rfl⟩⟩; refine ⟨_, rfl, ?_⟩))
   go_ret
   exact ⟨by first | rfl | (simp; done) | (simp [*]; done) | (simp; exact (by decide : ∀ a_ b_ : Bool, (a_ == b_) = (!a_ != b_)) _ _), by repeat (first | exact Drawn0.refl _ | apply Drawn0.step)⟩
  ·
   replace c6 := Bool.eq_false_iff.mpr c6; subst c6
   replace H := ifF H
   obtain rfl := Option.some.inj H
   go_enter Try.func64, Try.ntmps64
   go_wp2_with (first | ((with_reducible refine gate_callee (f := 77) rfl ?_); refine goesL_ (some 8) rfl rfl Try.func77 (by kernel_rfl) rfl #[.int .i64 a0] rfl agn ?_; (with_reducible refine (cmp_isNaN_int.calls a0 true _ A3.out).mono ?_); rintro e w' ⟨rfl, ⟨nd, rfl⟩⟩; refine ⟨_, rfl, ?_⟩) | ((with_reducible refine gate_callee (f := 77) rfl ?_); refine goesL_ (some 10) rfl rfl Try.func77 (by kernel_rfl) rfl #[.int .i64 a1] rfl agn ?_; (with_reducible refine (cmp_isNaN_int.calls a1 false _ A4.out).mono ?_); rintro e w' ⟨rfl, ⟨nd, rfl⟩⟩; refine ⟨_, rfl, ?_⟩))
   go_ret
   exact ⟨by first | rfl | (simp; done) | (simp [*]; done) | (simp; exact (by decide : ∀ a_ b_ : Bool, (a_ == b_) = (!a_ != b_)) _ _), by repeat (first | exact Drawn0.refl _ | apply Drawn0.step)⟩
 ·
  replace c5 := Bool.eq_false_iff.mpr c5; subst c5
  replace H := ifF H
  by_cases c7 : t105 = true
  ·
   subst c7
   replace H := ifT H
   obtain rfl := Option.some.inj H
   go_enter Try.func64, Try.ntmps64
   go_wp2_with (first | ((with_reducible refine gate_callee (f := 77) rfl ?_); refine goesL_ (some 8) rfl rfl Try.func77 (by kernel_rfl) rfl #[.int .i64 a0] rfl agn ?_; (with_reducible refine (cmp_isNaN_int.calls a0 false _ A3.out).mono ?_); rintro e w' ⟨rfl, ⟨nd, rfl⟩⟩; refine ⟨_, rfl, ?_⟩) | ((with_reducible refine gate_callee (f := 77) rfl ?_); refine goesL_ (some 10) rfl rfl Try.func77 (by kernel_rfl) rfl #[.int .i64 a1] rfl agn ?_; (with_reducible refine (cmp_isNaN_int.calls a1 true _ A4.out).mono ?_); rintro e w' ⟨rfl, ⟨nd, rfl⟩⟩; refine ⟨_, rfl, ?_⟩))
   go_ret
   exact ⟨by first | rfl | (simp; done) | (simp [*]; done) | (simp; exact (by decide : ∀ a_ b_ : Bool, (a_ == b_) = (!a_ != b_)) _ _), by repeat (first | exact Drawn0.refl _ | apply Drawn0.step)⟩
  ·
   replace c7 := Bool.eq_false_iff.mpr c7; subst c7
   replace H := ifF H
   by_cases c8 : a0 < a1
   ·
    rw [if_pos c8] at H; have c8b0 : decide (a0 < a1) = true := decide_eq_true c8; clear c8
    obtain rfl := Option.some.inj H
    go_enter Try.func64, Try.ntmps64
    go_wp2_with (first | ((with_reducible refine gate_callee (f := 77) rfl ?_); refine goesL_ (some 8) rfl rfl Try.func77 (by kernel_rfl) rfl #[.int .i64 a0] rfl agn ?_; (with_reducible refine (cmp_isNaN_int.calls a0 false _ A3.out).mono ?_); rintro e w' ⟨rfl, ⟨nd, rfl⟩⟩; refine ⟨_, rfl, ?_⟩) | ((with_reducible refine gate_callee (f := 77) rfl ?_); refine goesL_ (some 10) rfl rfl Try.func77 (by kernel_rfl) rfl #[.int .i64 a1] rfl agn ?_; (with_reducible refine (cmp_isNaN_int.calls a1 false _ A4.out).mono ?_); rintro e w' ⟨rfl, ⟨nd, rfl⟩⟩; refine ⟨_, rfl, ?_⟩))
    go_ret
    exact ⟨by first | rfl | (simp; done) | (simp [*]; done) | (simp; exact (by decide : ∀ a_ b_ : Bool, (a_ == b_) = (!a_ != b_)) _ _), by repeat (first | exact Drawn0.refl _ | apply Drawn0.step)⟩
   ·
    rw [if_neg c8] at H; have c8b0 : decide (a0 < a1) = false := decide_eq_false c8; clear c8
    by_cases c9 : a0 > a1
    ·
     rw [if_pos c9] at H; have c9b0 : decide (a1 < a0) = true := decide_eq_true c9; clear c9
     obtain rfl := Option.some.inj H
     go_enter Try.func64, Try.ntmps64
     go_wp2_with (first | ((with_reducible refine gate_callee (f := 77) rfl ?_); refine goesL_ (some 8) rfl rfl Try.func77 (by kernel_rfl) rfl #[.int .i64 a0] rfl agn ?_; (with_reducible refine (cmp_isNaN_int.calls a0 false _ A3.out).mono ?_); rintro e w' ⟨rfl, ⟨nd, rfl⟩⟩; refine ⟨_, rfl, ?_⟩) | ((with_reducible refine gate_callee (f := 77) rfl ?_); refine goesL_ (some 10) rfl rfl Try.func77 (by kernel_rfl) rfl #[.int .i64 a1] rfl agn ?_; (with_reducible refine (cmp_isNaN_int.calls a1 false _ A4.out).mono ?_); rintro e w' ⟨rfl, ⟨nd, rfl⟩⟩; refine ⟨_, rfl, ?_⟩))
     go_ret
     exact ⟨by first | rfl | (simp; done) | (simp [*]; done) | (simp; exact (by decide : ∀ a_ b_ : Bool, (a_ == b_) = (!a_ != b_)) _ _), by repeat (first | exact Drawn0.refl _ | apply Drawn0.step)⟩
    ·
     rw [if_neg c9] at H; have c9b0 : decide (a1 < a0) = false := decide_eq_false c9; clear c9
     obtain rfl := Option.some.inj H
     go_enter Try.func64, Try.ntmps64
     go_wp2_with (first | ((with_reducible refine gate_callee (f := 77) rfl ?_); refine goesL_ (some 8) rfl rfl Try.func77 (by kernel_rfl) rfl #[.int .i64 a0] rfl agn ?_; (with_reducible refine (cmp_isNaN_int.calls a0 false _ A3.out).mono ?_); rintro e w' ⟨rfl, ⟨nd, rfl⟩⟩; refine ⟨_, rfl, ?_⟩) | ((with_reducible refine gate_callee (f := 77) rfl ?_); refine goesL_ (some 10) rfl rfl Try.func77 (by kernel_rfl) rfl #[.int .i64 a1] rfl agn ?_; (with_reducible refine (cmp_isNaN_int.calls a1 false _ A4.out).mono ?_); rintro e w' ⟨rfl, ⟨nd, rfl⟩⟩; refine ⟨_, rfl, ?_⟩))
     go_ret
     exact ⟨by first | rfl | (simp; done) | (simp [*]; done) | (simp; exact (by decide : ∀ a_ b_ : Bool, (a_ == b_) = (!a_ != b_)) _ _), by repeat (first | exact Drawn0.refl _ | apply Drawn0.step)⟩

/-! ### cell_Compare: function 46 -/
def cell_Compare.f (k : Nat) (a0_0 : ByteArray) (a0_1 : ByteArray) (a0_2 : Int) (a0_3 : ByteArray) (a0_4 : Bool) (a1_0 : ByteArray) (a1_1 : ByteArray) (a1_2 : Int) (a1_3 : ByteArray) (a1_4 : Bool) : Option (Int) := (cmp_Compare_string.f a0_0 a1_0).bind fun t108 => ((cmp_Compare_string.f a0_1 a1_1).bind fun t109 => ((cmp_Compare_int.f a1_2 a0_2).bind fun t110 => ((cmp_Or_int.f k (([t108, t109, t110] : List Int))).bind fun t114 => (some t114))))
theorem cell_Compare.mono : ∀ a0 a1 a2 a3 a4 a5 a6 a7 a8 a9 k, LeO (cell_Compare.f k a0 a1 a2 a3 a4 a5 a6 a7 a8 a9) (cell_Compare.f (k + 1) a0 a1 a2 a3 a4 a5 a6 a7 a8 a9) := by
 intro a0 a1 a2 a3 a4 a5 a6 a7 a8 a9 k
 unfold cell_Compare.f
 have m0 := @cmp_Or_int.mono; exact lmo
def cell_Compare.T1 : Bool × List (List Nat × List Nat) := (true, [([], []), ([0], [0]), ([], []), ([2], [2]), ([1, 3], [1, 3]), ([], []), ([5], [5]), ([], []), ([7], [7]), ([6, 8, 4], [6, 8]), ([], []), ([10], [10]), ([], []), ([12], [12]), ([11, 13, 9], [11, 13]), ([4, 9, 14], [4, 9, 14]), ([15, 14], [15]), ([16, 16, 0, 1, 2, 3, 4, 5, 6, 7, 8, 9, 10, 11, 12, 13, 14, 15, 16], [16])])
def cell_Compare.B1 : List Nat := [0, 1, 0, 4, 15, 0, 32, 0, 128, 511, 0, 1024, 0, 4096, 16383, 32767, 65535, 131071]
theorem cell_Compare.tab1 : rtab .any (opsOf Try.f46 1) = cell_Compare.T1 := by kernel_rfl
theorem cell_Compare.bits1 : waitsOk cell_Compare.T1.2 cell_Compare.B1 = true := by kernel_rfl
set_option maxHeartbeats 8000000 in
set_option maxRecDepth 100000 in
theorem cell_Compare.calls (k : Nat) (a0_0 : ByteArray) (a0_1 : ByteArray) (a0_2 : Int) (a0_3 : ByteArray) (a0_4 : Bool) (a1_0 : ByteArray) (a1_1 : ByteArray) (a1_2 : Int) (a1_3 : ByteArray) (a1_4 : Bool) (r : Int) (w : World) (h : cell_Compare.f k a0_0 a0_1 a0_2 a0_3 a0_4 a1_0 a1_1 a1_2 a1_3 a1_4 = some r) :
  Calls Try.prog 46 #[.agg #[.string a0_0, .string a0_1, .int .i64 a0_2, .string a0_3, .bool a0_4], .agg #[.string a1_0, .string a1_1, .int .i64 a1_2, .string a1_3, .bool a1_4]] w fun e w' => e = .returned (.int .i64 r) ∧ Below w.heap.size w w' := by
 have hu42 := Try.underlying42; have HB := aS (Below.refl w.heap.size w); have H : ((cmp_Compare_string.f a0_0 a1_0).bind fun t108 => ((cmp_Compare_string.f a0_1 a1_1).bind fun t109 => ((cmp_Compare_int.f a1_2 a0_2).bind fun t110 => ((cmp_Or_int.f k (([t108, t109, t110] : List Int))).bind fun t114 => (some t114))))) = some r := h; clear h; replace H := obm H; obtain ⟨t108, A30, H⟩ := H; have A3 := aS A30; clear A30; replace H := obm H; obtain ⟨t109, A40, H⟩ := H; have A4 := aS A40; clear A40; replace H := obm H; obtain ⟨t110, A50, H⟩ := H; have A5 := aS A50; clear A50
 obtain ⟨y111, hy111⟩ : ∃ y_ : List Int, y_ = (([t108, t109, t110] : List Int)) := ⟨_, rfl⟩
 (first | replace H := hyn hy111 H | rw [← hy111] at H); have Ny111 := aS hy111; clear hy111; replace H := obm H; obtain ⟨t114, A60, H⟩ := H; have A6 := aS A60; clear A60
 obtain rfl := Option.some.inj H
 go_enter Try.func46, Try.ntmps46
 try go_wp2_with (first | ((with_reducible refine gate_dst (N := 2) rfl ?_); refine box_event ?hg (N := 2) ?hd (cs := #[.string a0_0, .string a0_1, .int .i64 a0_2, .string a0_3, .bool a0_4]) (t := 42) ?hr ?_; (case hd => rfl); (case hg => rfl); (case hr => first | (go_simp; done) | (go_simp; rfl)); intro gb106 hg w7 hbox hb; have BK106 := aS (hbox); have GW106 := bsize hg; have GE106 := bsize hg; replace HB := bstep hb; clear hb hbox hg) | ((with_reducible refine gate_dst (N := 3) rfl ?_); refine box_event ?hg (N := 3) ?hd (cs := #[.string a1_0, .string a1_1, .int .i64 a1_2, .string a1_3, .bool a1_4]) (t := 42) ?hr ?_; (case hd => rfl); (case hg => rfl); (case hr => first | (go_simp; done) | (go_simp; rfl)); intro gb107 hg w8 hbox hb; have BK107 := aS (hbox); have GW107 := bsize hg; have GE107 := bsize hg; replace HB := bstep hb; have NB106_107 := aS ((by rw [hg]; exact Nat.ne_of_lt (blk_lt (g := gb106) (o := .cells #[.string a0_0, .string a0_1, .int .i64 a0_2, .string a0_3, .bool a0_4] 42 (0, 0)) (bkl BK106.out)) : gb106 ≠ gb107)); have NB107_106 := aS ((by rw [hg]; exact Nat.ne_of_gt (blk_lt (g := gb106) (o := .cells #[.string a0_0, .string a0_1, .int .i64 a0_2, .string a0_3, .bool a0_4] 42 (0, 0)) (bkl BK106.out)) : gb107 ≠ gb106)); replace BK106 := bbl BK106 hb; clear hb hbox hg))
 replace BK106 := aS (blk_drew BK106.out); replace BK107 := aS (blk_drew BK107.out); replace HB := aS (bdo HB.out); refine start_ (n := 18) (S := fun w' => w'.cell? ⟨gb106, 0, none⟩ = some (.string a0_0) ∧ w'.cell? ⟨gb106, 1, none⟩ = some (.string a0_1) ∧ w'.cell? ⟨gb106, 2, none⟩ = some (.int .i64 a0_2) ∧ w'.cell? ⟨gb106, 3, none⟩ = some (.string a0_3) ∧ w'.cell? ⟨gb106, 4, none⟩ = some (.bool a0_4) ∧ w'.cell? ⟨gb107, 0, none⟩ = some (.string a1_0) ∧ w'.cell? ⟨gb107, 1, none⟩ = some (.string a1_1) ∧ w'.cell? ⟨gb107, 2, none⟩ = some (.int .i64 a1_2) ∧ w'.cell? ⟨gb107, 3, none⟩ = some (.string a1_3) ∧ w'.cell? ⟨gb107, 4, none⟩ = some (.bool a1_4)) (ds := []) (bA 18 0) (by kernel_rfl) rfl rfl ⟨bc BK106 0, bc BK106 1, bc BK106 2, bc BK106 3, bc BK106 4, bc BK107 0, bc BK107 1, bc BK107 2, bc BK107 3, bc BK107 4⟩ (fun hHeld => ?_); refine with_tabW cell_Compare.tab1 cell_Compare.bits1 (fun HT_ HW_ => ?_)
 generalize w8.drew = w9 at BK106 BK107 HB hHeld ⊢
 refine along_ [(0, 5), (2, 7), (5, 10), (7, 12), (10, 15), (12, 17), (1, 6), (3, 8), (6, 11), (8, 13), (11, 16), (13, 18)] ?_
 iterate 12 (first | (refine pure3 HT_ ?_) | (refine take3 HT_ HW_ hHeld ?_))
 refine lay_ (bA 18 15855) (by kernel_rfl) ?_; refine one3 4 (N := some 9) (bA 18 15871) HT_ (fun K hK => ?_); refine goes_ Try.func63 (by kernel_rfl) rfl #[.string a0_0, .string a1_0] (by rfl) rfl rfl agn ?_
 with_reducible refine (cmp_Compare_string.calls a0_0 a1_0 t108 _ A3.out).mono ?_
 rintro e w' ⟨rfl, ⟨nd, rfl⟩⟩
 refine ⟨_, rfl, ?_⟩; refine hK.out _ _ ⟨bc BK106 0, bc BK106 1, bc BK106 2, bc BK106 3, bc BK106 4, bc BK107 0, bc BK107 1, bc BK107 2, bc BK107 3, bc BK107 4⟩ (fun hHeld => ?_); clear hK K; refine nm 9 ?_; refine one3 9 (N := some 14) (bA 18 16383) HT_ (fun K hK => ?_); refine goes_ Try.func63 (by kernel_rfl) rfl #[.string a0_1, .string a1_1] (by rfl) rfl rfl agn ?_
 with_reducible refine (cmp_Compare_string.calls a0_1 a1_1 t109 _ A4.out).mono ?_
 rintro e w' ⟨rfl, ⟨nd, rfl⟩⟩
 refine ⟨_, rfl, ?_⟩; refine hK.out _ _ ⟨bc BK106 0, bc BK106 1, bc BK106 2, bc BK106 3, bc BK106 4, bc BK107 0, bc BK107 1, bc BK107 2, bc BK107 3, bc BK107 4⟩ (fun hHeld => ?_); clear hK K; refine nm 14 ?_; refine one3 14 (N := some 19) (bA 18 32767) HT_ (fun K hK => ?_); refine goes_ Try.func64 (by kernel_rfl) rfl #[.int .i64 a1_2, .int .i64 a0_2] (by rfl) rfl rfl agn ?_
 with_reducible refine (cmp_Compare_int.calls a1_2 a0_2 t110 _ A5.out).mono ?_
 rintro e w' ⟨rfl, ⟨nd, rfl⟩⟩
 refine ⟨_, rfl, ?_⟩; refine hK.out _ _ ⟨bc BK106 0, bc BK106 1, bc BK106 2, bc BK106 3, bc BK106 4, bc BK107 0, bc BK107 1, bc BK107 2, bc BK107 3, bc BK107 4⟩ (fun hHeld => ?_); clear hK K; refine nm 19 ?_; refine one3 15 (N := some 20) (bA 18 65535) HT_ (fun K hK => ?_)
 refine Kd.R_lit_step (Kd.int .i64) _ 3 ?hg (N := 20) ?hd (xs := ([t108, t109, t110] : List Int)) (inner := [.int .i64 t108, .int .i64 t109, .int .i64 t110]) (ok := fun _ => True) (okp := fun _ => True) ?hr ?hp (fun _ hk => hk) trivial (Below.refl _ _) (Nat.le_refl _) (by simp) ?_; (case hd => rfl); (case hg => rfl); (case hr => first | (go_simp; done) | (go_simp; rfl)); (case hp => exact (Reps.one (show Kd.M (Kd.int .i64) _ _ _ t108 [.int .i64 t108] from rfl) (Reps.one (show Kd.M (Kd.int .i64) _ _ _ t109 [.int .i64 t109] from rfl) (Reps.one (show Kd.M (Kd.int .i64) _ _ _ t110 [.int .i64 t110] from rfl) (Reps.none _ _)))))
 intro v112 w10 ho11 hb hg_ hnew_
 clear hg_ hnew_
 (first | rw [← Ny111.out] at ho11 | (simp only [Int.reduceToNat] at ho11; rw [← Ny111.out] at ho11))
 have HO113 := aS (Kd.R_lower ho11 (below_size bel)); replace BK106 := bbl BK106 hb; replace BK107 := bbl BK107 hb; replace HB := bstep hb; clear hb ho11; obtain ⟨Ao12, co12, eo12⟩ := Kd.R_slice HO113.out
 (first | subst eo12 | (injection eo12 with f1_ f2_ f3_; have f4_ := f1_.symm; have f5_ := f3_.symm; clear f1_ f2_ f3_; subst f4_; subst f5_))
 refine hK.out _ _ ⟨bc BK106 0, bc BK106 1, bc BK106 2, bc BK106 3, bc BK106 4, bc BK107 0, bc BK107 1, bc BK107 2, bc BK107 3, bc BK107 4⟩ (fun hHeld => ?_); clear hK K; refine nm 20 ?_; refine one3 16 (N := some 21) (bA 18 131071) HT_ (fun K hK => ?_); refine goes_ Try.func62 (by kernel_rfl) rfl #[.slice Ao12 y111.length co12] (by rfl) rfl rfl agn ?_
 with_reducible refine (cmp_Or_int.calls k _ _ y111 t114 _ ?side1 ?side2 A6.out).mono ?_
 (case side1 => exact cel ((Kd.R_reads' HO113.out).2.2))
 (case side2 => exact (Kd.R_reads' HO113.out).2.1)
 rintro e w' ⟨rfl, ⟨nd, rfl⟩⟩
 refine ⟨_, rfl, ?_⟩; refine hK.out _ _ ⟨bc BK106 0, bc BK106 1, bc BK106 2, bc BK106 3, bc BK106 4, bc BK107 0, bc BK107 1, bc BK107 2, bc BK107 3, bc BK107 4⟩ (fun hHeld => ?_); clear hK K; refine nm 21 ?_; refine pure_ (i := 17) (N := some 4) (v := ?_) (a' := ?_) (bA 18 262143) rfl rfl (any_of HT_.out (by kernel_rfl)) (fun _ _ _ h => h) (Or.inl ⟨by rfl, ?_⟩) ?_ ?_
 rotate_left
 ·
  intro w'
  go_simp
  with_reducible rfl
 rotate_left
 ·
  simp only [Act.put, lsa, lsz, lss, i64_w, i32_w]
  rfl
 refine done_ (done_of HT_.out (by kernel_rfl)) ?_
 try go_wp2
 go_ret
 exact ⟨rf3, bel⟩

/-! ### cell_name: function 75 -/
def cell_name.f (a0 : ByteArray) : Option (Bool) := if (a0.size : Int) ≥ 1 then (some (decide ((a0.size : Int) ≤ 64))) else (some false)
set_option maxHeartbeats 8000000 in
set_option maxRecDepth 100000 in
theorem cell_name.calls (a0 : ByteArray) (r : Bool) (w : World) (h : cell_name.f a0 = some r) :
  Calls Try.prog 75 #[.string a0] w fun e w' => e = .returned (.bool r) ∧ Drawn0 w w' := by
 have H : (if (a0.size : Int) ≥ 1 then (some (decide ((a0.size : Int) ≤ 64))) else (some false)) = some r := h; clear h
 by_cases c2 : (a0.size : Int) ≥ 1
 ·
  rw [if_pos c2] at H; have c2b0 : decide (1 ≤ (a0.size : Int)) = true := decide_eq_true c2; have c2b1 : decide (1 ≤ a0.size) = true := decide_eq_true (by omega); clear c2
  obtain rfl := Option.some.inj H
  go_enter Try.func75, Try.ntmps75
  go_wp2
  go_ret
  exact ⟨by first | rfl | (simp; done) | (simp [*]; done) | (simp; exact (by decide : ∀ a_ b_ : Bool, (a_ == b_) = (!a_ != b_)) _ _), by repeat (first | exact Drawn0.refl _ | apply Drawn0.step)⟩
 ·
  rw [if_neg c2] at H; have c2b0 : decide (1 ≤ (a0.size : Int)) = false := decide_eq_false c2; have c2b1 : decide (1 ≤ a0.size) = false := decide_eq_false (by omega); clear c2
  obtain rfl := Option.some.inj H
  go_enter Try.func75, Try.ntmps75
  go_wp2
  go_ret
  exact ⟨by first | rfl | (simp; done) | (simp [*]; done) | (simp; exact (by decide : ∀ a_ b_ : Bool, (a_ == b_) = (!a_ != b_)) _ _), by repeat (first | exact Drawn0.refl _ | apply Drawn0.step)⟩

/-! ### cell_Right: function 61 -/
def cell_Right.f (a0_0 : ByteArray) (a0_1 : ByteArray) (a0_2 : Int) (a0_3 : ByteArray) (a0_4 : Bool) : Option (Bool) := (cell_name.f a0_0).bind fun t116 => (if t116 = true then ((cell_name.f a0_1).bind fun t117 => (if t117 = true then (if a0_2 ≥ 0 then (if a0_2 ≤ 4294967295 then (if (a0_3.size : Int) ≤ 256 then (if a0_4 = true then (some (a0_3.toList == ([] : List UInt8))) else (some true)) else (some false)) else (some false)) else (some false)) else (some false))) else (some false))
set_option maxHeartbeats 8000000 in
set_option maxRecDepth 100000 in
theorem cell_Right.calls (a0_0 : ByteArray) (a0_1 : ByteArray) (a0_2 : Int) (a0_3 : ByteArray) (a0_4 : Bool) (r : Bool) (w : World) (h : cell_Right.f a0_0 a0_1 a0_2 a0_3 a0_4 = some r) :
  Calls Try.prog 61 #[.agg #[.string a0_0, .string a0_1, .int .i64 a0_2, .string a0_3, .bool a0_4]] w fun e w' => e = .returned (.bool r) ∧ Below w.heap.size w w' := by
 have hu42 := Try.underlying42; have HB := aS (Below.refl w.heap.size w); have H : ((cell_name.f a0_0).bind fun t116 => (if t116 = true then ((cell_name.f a0_1).bind fun t117 => (if t117 = true then (if a0_2 ≥ 0 then (if a0_2 ≤ 4294967295 then (if (a0_3.size : Int) ≤ 256 then (if a0_4 = true then (some (a0_3.toList == ([] : List UInt8))) else (some true)) else (some false)) else (some false)) else (some false)) else (some false))) else (some false))) = some r := h; clear h; replace H := obm H; obtain ⟨t116, A20, H⟩ := H; have A2 := aS A20; clear A20
 by_cases c3 : t116 = true
 ·
  subst c3
  replace H := ifT H; replace H := obm H; obtain ⟨t117, A40, H⟩ := H; have A4 := aS A40; clear A40
  by_cases c5 : t117 = true
  ·
   subst c5
   replace H := ifT H
   by_cases c6 : a0_2 ≥ 0
   ·
    rw [if_pos c6] at H; have c6b0 : decide (0 ≤ a0_2) = true := decide_eq_true c6; clear c6
    by_cases c7 : a0_2 ≤ 4294967295
    ·
     rw [if_pos c7] at H; have c7b0 : decide (a0_2 ≤ 4294967295) = true := decide_eq_true c7; clear c7
     by_cases c8 : (a0_3.size : Int) ≤ 256
     ·
      rw [if_pos c8] at H; have c8b0 : decide ((a0_3.size : Int) ≤ 256) = true := decide_eq_true c8; have c8b1 : decide (a0_3.size ≤ 256) = true := decide_eq_true (by omega); clear c8
      by_cases c9 : a0_4 = true
      ·
       subst c9
       replace H := ifT H
       obtain rfl := Option.some.inj H
       go_enter Try.func61, Try.ntmps61
       go_wp2_with (first | ((with_reducible refine gate_dst (N := 1) rfl ?_); (try (refine gate_guard (by rfl) ?_; dsimp only)); refine box_event ?hg (N := 1) ?hd (cs := #[.string a0_0, .string a0_1, .int .i64 a0_2, .string a0_3, .bool true]) (t := 42) ?hr ?_; (case hd => rfl); (case hg => rfl); (case hr => first | (go_simp; done) | (go_simp; rfl)); intro gb115 hg w10 hbox hb; have BK115 := aS (hbox); have GW115 := bsize hg; have GE115 := bsize hg; replace HB := bstep hb; clear hb hbox hg; have hcz11 := cK5 BK115) | ((with_reducible refine gate_callee (f := 75) rfl ?_); refine goesL_ (some 5) rfl rfl Try.func75 (by kernel_rfl) rfl #[.string a0_0] rfl agn ?_; (with_reducible refine (cell_name.calls a0_0 true _ A2.out).mono ?_); rintro e w' ⟨rfl, ⟨nd, rfl⟩⟩; refine ⟨_, rfl, ?_⟩) | (go_at_call 75; (with_reducible refine (cell_name.calls a0_1 true _ A4.out).mono ?_); rintro e w' ⟨rfl, ⟨nd, rfl⟩⟩))
       go_ret
       exact ⟨rf3, bel⟩
      ·
       replace c9 := Bool.eq_false_iff.mpr c9; subst c9
       replace H := ifF H
       obtain rfl := Option.some.inj H
       go_enter Try.func61, Try.ntmps61
       go_wp2_with (first | ((with_reducible refine gate_dst (N := 1) rfl ?_); (try (refine gate_guard (by rfl) ?_; dsimp only)); refine box_event ?hg (N := 1) ?hd (cs := #[.string a0_0, .string a0_1, .int .i64 a0_2, .string a0_3, .bool false]) (t := 42) ?hr ?_; (case hd => rfl); (case hg => rfl); (case hr => first | (go_simp; done) | (go_simp; rfl)); intro gb115 hg w12 hbox hb; have BK115 := aS (hbox); have GW115 := bsize hg; have GE115 := bsize hg; replace HB := bstep hb; clear hb hbox hg; have hcz13 := cK5 BK115) | ((with_reducible refine gate_callee (f := 75) rfl ?_); refine goesL_ (some 5) rfl rfl Try.func75 (by kernel_rfl) rfl #[.string a0_0] rfl agn ?_; (with_reducible refine (cell_name.calls a0_0 true _ A2.out).mono ?_); rintro e w' ⟨rfl, ⟨nd, rfl⟩⟩; refine ⟨_, rfl, ?_⟩) | (go_at_call 75; (with_reducible refine (cell_name.calls a0_1 true _ A4.out).mono ?_); rintro e w' ⟨rfl, ⟨nd, rfl⟩⟩))
       go_ret
       exact ⟨rf3, bel⟩
     ·
      rw [if_neg c8] at H; have c8b0 : decide ((a0_3.size : Int) ≤ 256) = false := decide_eq_false c8; have c8b1 : decide (a0_3.size ≤ 256) = false := decide_eq_false (by omega); clear c8
      obtain rfl := Option.some.inj H
      go_enter Try.func61, Try.ntmps61
      go_wp2_with (first | ((with_reducible refine gate_dst (N := 1) rfl ?_); (try (refine gate_guard (by rfl) ?_; dsimp only)); refine box_event ?hg (N := 1) ?hd (cs := #[.string a0_0, .string a0_1, .int .i64 a0_2, .string a0_3, .bool a0_4]) (t := 42) ?hr ?_; (case hd => rfl); (case hg => rfl); (case hr => first | (go_simp; done) | (go_simp; rfl)); intro gb115 hg w14 hbox hb; have BK115 := aS (hbox); have GW115 := bsize hg; have GE115 := bsize hg; replace HB := bstep hb; clear hb hbox hg; have hcz15 := cK5 BK115) | ((with_reducible refine gate_callee (f := 75) rfl ?_); refine goesL_ (some 5) rfl rfl Try.func75 (by kernel_rfl) rfl #[.string a0_0] rfl agn ?_; (with_reducible refine (cell_name.calls a0_0 true _ A2.out).mono ?_); rintro e w' ⟨rfl, ⟨nd, rfl⟩⟩; refine ⟨_, rfl, ?_⟩) | (go_at_call 75; (with_reducible refine (cell_name.calls a0_1 true _ A4.out).mono ?_); rintro e w' ⟨rfl, ⟨nd, rfl⟩⟩))
      go_ret
      exact ⟨rf3, bel⟩
    ·
     rw [if_neg c7] at H; have c7b0 : decide (a0_2 ≤ 4294967295) = false := decide_eq_false c7; clear c7
     obtain rfl := Option.some.inj H
     go_enter Try.func61, Try.ntmps61
     go_wp2_with (first | ((with_reducible refine gate_dst (N := 1) rfl ?_); (try (refine gate_guard (by rfl) ?_; dsimp only)); refine box_event ?hg (N := 1) ?hd (cs := #[.string a0_0, .string a0_1, .int .i64 a0_2, .string a0_3, .bool a0_4]) (t := 42) ?hr ?_; (case hd => rfl); (case hg => rfl); (case hr => first | (go_simp; done) | (go_simp; rfl)); intro gb115 hg w16 hbox hb; have BK115 := aS (hbox); have GW115 := bsize hg; have GE115 := bsize hg; replace HB := bstep hb; clear hb hbox hg; have hcz17 := cK5 BK115) | ((with_reducible refine gate_callee (f := 75) rfl ?_); refine goesL_ (some 5) rfl rfl Try.func75 (by kernel_rfl) rfl #[.string a0_0] rfl agn ?_; (with_reducible refine (cell_name.calls a0_0 true _ A2.out).mono ?_); rintro e w' ⟨rfl, ⟨nd, rfl⟩⟩; refine ⟨_, rfl, ?_⟩) | (go_at_call 75; (with_reducible refine (cell_name.calls a0_1 true _ A4.out).mono ?_); rintro e w' ⟨rfl, ⟨nd, rfl⟩⟩))
     go_ret
     exact ⟨rf3, bel⟩
   ·
    rw [if_neg c6] at H; have c6b0 : decide (0 ≤ a0_2) = false := decide_eq_false c6; clear c6
    obtain rfl := Option.some.inj H
    go_enter Try.func61, Try.ntmps61
    go_wp2_with (first | ((with_reducible refine gate_dst (N := 1) rfl ?_); (try (refine gate_guard (by rfl) ?_; dsimp only)); refine box_event ?hg (N := 1) ?hd (cs := #[.string a0_0, .string a0_1, .int .i64 a0_2, .string a0_3, .bool a0_4]) (t := 42) ?hr ?_; (case hd => rfl); (case hg => rfl); (case hr => first | (go_simp; done) | (go_simp; rfl)); intro gb115 hg w18 hbox hb; have BK115 := aS (hbox); have GW115 := bsize hg; have GE115 := bsize hg; replace HB := bstep hb; clear hb hbox hg; have hcz19 := cK5 BK115) | ((with_reducible refine gate_callee (f := 75) rfl ?_); refine goesL_ (some 5) rfl rfl Try.func75 (by kernel_rfl) rfl #[.string a0_0] rfl agn ?_; (with_reducible refine (cell_name.calls a0_0 true _ A2.out).mono ?_); rintro e w' ⟨rfl, ⟨nd, rfl⟩⟩; refine ⟨_, rfl, ?_⟩) | (go_at_call 75; (with_reducible refine (cell_name.calls a0_1 true _ A4.out).mono ?_); rintro e w' ⟨rfl, ⟨nd, rfl⟩⟩))
    go_ret
    exact ⟨rf3, bel⟩
  ·
   replace c5 := Bool.eq_false_iff.mpr c5; subst c5
   replace H := ifF H
   obtain rfl := Option.some.inj H
   go_enter Try.func61, Try.ntmps61
   go_wp2_with (first | ((with_reducible refine gate_dst (N := 1) rfl ?_); (try (refine gate_guard (by rfl) ?_; dsimp only)); refine box_event ?hg (N := 1) ?hd (cs := #[.string a0_0, .string a0_1, .int .i64 a0_2, .string a0_3, .bool a0_4]) (t := 42) ?hr ?_; (case hd => rfl); (case hg => rfl); (case hr => first | (go_simp; done) | (go_simp; rfl)); intro gb115 hg w20 hbox hb; have BK115 := aS (hbox); have GW115 := bsize hg; have GE115 := bsize hg; replace HB := bstep hb; clear hb hbox hg; have hcz21 := cK5 BK115) | ((with_reducible refine gate_callee (f := 75) rfl ?_); refine goesL_ (some 5) rfl rfl Try.func75 (by kernel_rfl) rfl #[.string a0_0] rfl agn ?_; (with_reducible refine (cell_name.calls a0_0 true _ A2.out).mono ?_); rintro e w' ⟨rfl, ⟨nd, rfl⟩⟩; refine ⟨_, rfl, ?_⟩) | (go_at_call 75; (with_reducible refine (cell_name.calls a0_1 false _ A4.out).mono ?_); rintro e w' ⟨rfl, ⟨nd, rfl⟩⟩))
   go_ret
   exact ⟨rf3, bel⟩
 ·
  replace c3 := Bool.eq_false_iff.mpr c3; subst c3
  replace H := ifF H
  obtain rfl := Option.some.inj H
  go_enter Try.func61, Try.ntmps61
  go_wp2_with (first | ((with_reducible refine gate_dst (N := 1) rfl ?_); (try (refine gate_guard (by rfl) ?_; dsimp only)); refine box_event ?hg (N := 1) ?hd (cs := #[.string a0_0, .string a0_1, .int .i64 a0_2, .string a0_3, .bool a0_4]) (t := 42) ?hr ?_; (case hd => rfl); (case hg => rfl); (case hr => first | (go_simp; done) | (go_simp; rfl)); intro gb115 hg w22 hbox hb; have BK115 := aS (hbox); have GW115 := bsize hg; have GE115 := bsize hg; replace HB := bstep hb; clear hb hbox hg; have hcz23 := cK5 BK115) | ((with_reducible refine gate_callee (f := 75) rfl ?_); refine goesL_ (some 5) rfl rfl Try.func75 (by kernel_rfl) rfl #[.string a0_0] rfl agn ?_; (with_reducible refine (cell_name.calls a0_0 false _ A2.out).mono ?_); rintro e w' ⟨rfl, ⟨nd, rfl⟩⟩; refine ⟨_, rfl, ?_⟩))
  go_ret
  exact ⟨rf3, bel⟩

/-! ### cell_Sorted: function 40 -/
mutual
def cell_Sorted.l0 : Nat → List (S42) → List (S42) → Int → Int → Option (Bool)
 | 0, _, _, _, _ => none
 | k + 1, x0, x5, x6, x7 => if x7 < x6 then (if 0 ≤ x7 then (if x7 < (x5.length : Int) then ((cell_Right.f ((rd_T42 x5 x7).f0) ((rd_T42 x5 x7).f1) ((rd_T42 x5 x7).f2) ((rd_T42 x5 x7).f3) ((rd_T42 x5 x7).f4)).bind fun t120 => (if t120 = true then (if x7 > 0 then (if 0 ≤ (wrap64 (x7 - 1)) then (if (wrap64 (x7 - 1)) < (x0.length : Int) then ((cell_Compare.f k ((rd_T42 x0 (wrap64 (x7 - 1))).f0) ((rd_T42 x0 (wrap64 (x7 - 1))).f1) ((rd_T42 x0 (wrap64 (x7 - 1))).f2) ((rd_T42 x0 (wrap64 (x7 - 1))).f3) ((rd_T42 x0 (wrap64 (x7 - 1))).f4) ((rd_T42 x5 x7).f0) ((rd_T42 x5 x7).f1) ((rd_T42 x5 x7).f2) ((rd_T42 x5 x7).f3) ((rd_T42 x5 x7).f4)).bind fun t122 => (cell_Sorted.j1 k x0 x5 x6 x7 (decide (t122 ≥ 0)))) else (none)) else (none)) else (cell_Sorted.j1 k x0 x5 x6 x7 false)) else (cell_Sorted.j1 k x0 x5 x6 x7 true))) else (none)) else (none)) else (some true)
def cell_Sorted.j1 : Nat → List (S42) → List (S42) → Int → Int → Bool → Option (Bool)
 | 0, _, _, _, _, _ => none
 | k + 1, x0, x5, x6, x7, x28 => if x28 = true then (some false) else (cell_Sorted.l0 k x0 x5 x6 (wrap64 (x7 + 1)))
end
def cell_Sorted.f (k : Nat) (l0 : List (S42)) : Option (Bool) := cell_Sorted.l0 k l0 l0 (l0.length : Int) 0
theorem cell_Sorted.mono_l : ∀ k, (∀ y0 y1 y2 y3, LeO (cell_Sorted.l0 k y0 y1 y2 y3) (cell_Sorted.l0 (k + 1) y0 y1 y2 y3)) ∧ (∀ y0 y1 y2 y3 y4, LeO (cell_Sorted.j1 k y0 y1 y2 y3 y4) (cell_Sorted.j1 (k + 1) y0 y1 y2 y3 y4))
 | 0 => ⟨fun _ _ _ _ r h => by simp [cell_Sorted.l0] at h, fun _ _ _ _ _ r h => by simp [cell_Sorted.j1] at h⟩
 | k + 1 => by
  obtain ⟨ih0, ih1⟩ := cell_Sorted.mono_l k; refine ⟨?_, ?_⟩
  ·
   intro y0 y1 y2 y3
   unfold cell_Sorted.l0
   have m0 := @cell_Compare.mono; exact lmo
  ·
   intro y0 y1 y2 y3 y4
   unfold cell_Sorted.j1
   have m0 := @cell_Compare.mono; exact lmo
theorem cell_Sorted.mono : ∀ a0 k, LeO (cell_Sorted.f k a0) (cell_Sorted.f (k + 1) a0) := by
 intro a0 k
 obtain ⟨ih0, ih1⟩ := cell_Sorted.mono_l k
 unfold cell_Sorted.f
 have m0 := @cell_Compare.mono; exact lmo
def cell_Sorted.T4 : Bool × List (List Nat × List Nat) := (true, [([], []), ([0], [0]), ([1], [1]), ([2, 1], [2]), ([3], [3]), ([4, 3], [3, 4]), ([5, 3, 3], [3, 5]), ([6], [6]), ([6], [6]), ([8, 6], [6, 8]), ([7, 9, 6], [6, 7, 9]), ([10, 6], [6, 10]), ([6], [6]), ([11, 12, 6, 6], [6, 11, 12]), ([13, 6], [6, 13]), ([6, 14, 3], [3, 6, 14]), ([3, 15], [3, 15])])
def cell_Sorted.B4 : List Nat := [0, 1, 3, 7, 15, 31, 63, 127, 127, 383, 1023, 2047, 127, 8191, 16383, 32767, 65535]
theorem cell_Sorted.tab4 : rtab .any (opsOf Try.f40 4) = cell_Sorted.T4 := by kernel_rfl
theorem cell_Sorted.bits4 : waitsOk cell_Sorted.T4.2 cell_Sorted.B4 = true := by kernel_rfl
set_option maxHeartbeats 8000000 in
set_option maxRecDepth 100000 in
theorem cell_Sorted.calls (k : Nat) (A0 : Option Addr) (c0 : Nat) (l0 : List (S42)) (r : Bool) (w : World) (hr0 : Kd.C k42 w A0 l0.length l0) (hc0 : l0.length ≤ c0) (h : cell_Sorted.f k l0 = some r) :
  Calls Try.prog 40 #[.slice A0 l0.length c0] w fun e w' => e = .returned (.bool r) ∧ Below w.heap.size w w' := by
 have hu42 := Try.underlying42; have HR0 := aS hr0; have HC0 := aS hc0; clear hr0 hc0; have HB := aS (Below.refl w.heap.size w); have H : (cell_Sorted.l0 k l0 l0 (l0.length : Int) 0) = some r := h; clear h
 have H' := aS H
 clear H
 go_enter Try.func40, Try.ntmps40
 go_wp2
 go_loopg [7] k (fun kq v7 w' => ∃ (x7_1 : Int), v7 = .int .i64 x7_1 ∧ Aside0 (cell_Sorted.l0 kq l0 l0 (l0.length : Int) x7_1 = some r) ∧ Aside0 (kq ≤ k) ∧ Aside0 (Below w.heap.size w w'))
 case atStart => exact ⟨(0), srf, H', ⟨Nat.le_refl _⟩, ⟨bel⟩⟩
 case round =>
  clear H'; obtain ⟨x7_1, rfl, HA, HK1, HB⟩ := hrel
  cases gk with
  | zero => exact absurd HA.out (by simp [cell_Sorted.l0])
  | succ k1 =>
   have H := HA.out; clear HA
   simp only [cell_Sorted.l0] at H
   by_cases c2 : x7_1 < (l0.length : Int)
   ·
    rw [if_pos c2] at H; have c2b0 : decide (x7_1 < (l0.length : Int)) = true := decide_eq_true c2; clear c2
    by_cases c3 : 0 ≤ x7_1
    ·
     rw [if_pos c3] at H; have c3b0 : decide (0 ≤ x7_1) = true := decide_eq_true c3; clear c3
     by_cases c4 : x7_1 < (l0.length : Int)
     ·
      rw [if_pos c4] at H; have c4b0 : decide (x7_1 < (l0.length : Int)) = true := decide_eq_true c4; clear c4; have HC5 := aS H; clear H; have p118 : 0 ≤ (x7_1 : Int) := oda; have q118 : x7_1 < (l0.length : Int) := oda; obtain ⟨ad118, e118, hx118_0, hx118_1, hx118_2, hx118_3, hx118_4⟩ := at_T42 HR0.out x7_1 p118 q118; cases e118; replace hx118_0 := bx bel hx118_0; replace hx118_1 := bx bel hx118_1; replace hx118_2 := bx bel hx118_2; replace hx118_3 := bx bel hx118_3; replace hx118_4 := bx bel hx118_4; replace p118 := eq_true p118; replace q118 := eq_true q118
      go_upto_region 4 with (first | ((with_reducible refine gate_dst (N := 4) rfl ?_); refine box_event ?hg (N := 4) ?hd (cs := #[.string (⟨#[]⟩ : ByteArray), .string (⟨#[]⟩ : ByteArray), .int .i64 0, .string (⟨#[]⟩ : ByteArray), .bool false]) (t := 42) ?hr ?_; (case hd => rfl); (case hg => rfl); (case hr => first | (go_simp; done) | (go_simp; rfl)); intro gb119 hg w6 hbox hb; have BK119 := aS (hbox); have GW119 := bsize hg; have GE119 := bsize hg; replace HB := bstep hb; clear hb hbox hg; have hcz7 := cK5 BK119))
      (try simp only [Act.put, lsa, lsz, lss])
      go_cut [28] (fun v28 wc => ∃ (kq : Nat) (x28_4 : Bool), v28 = .bool x28_4 ∧ Aside0 (cell_Sorted.j1 kq l0 l0 (l0.length : Int) x7_1 x28_4 = some r) ∧ Aside0 (kq ≤ k1) ∧ Aside0 (wc.heap[gb119]? = some (.cells #[.string ((rd_T42 l0 x7_1).f0), .string ((rd_T42 l0 x7_1).f1), .int .i64 ((rd_T42 l0 x7_1).f2), .string ((rd_T42 l0 x7_1).f3), .bool ((rd_T42 l0 x7_1).f4)] 42 (0, 0))) ∧ Aside0 (Below w.heap.size w wc))
      case first =>
       have H := HC5.out; clear HC5; replace H := obm H; obtain ⟨t120, A80, H⟩ := H; have A8 := aS A80; clear A80
       by_cases c9 : t120 = true
       ·
        subst c9
        replace H := ifT H
        by_cases c10 : x7_1 > 0
        ·
         rw [if_pos c10] at H; have c10b0 : decide (0 < x7_1) = true := decide_eq_true c10; clear c10
         (first | rw [c10b0] | (simp only [i64_w, i32_w]; rw [c10b0]) | skip)
         obtain ⟨ji11, hji11⟩ : ∃ j_ : Int, (wrap64 (x7_1 - 1)) = j_ := ⟨_, rfl⟩
         replace H : (if 0 ≤ (ji11) then (if (ji11) < (l0.length : Int) then ((cell_Compare.f k1 ((rd_T42 l0 (ji11)).f0) ((rd_T42 l0 (ji11)).f1) ((rd_T42 l0 (ji11)).f2) ((rd_T42 l0 (ji11)).f3) ((rd_T42 l0 (ji11)).f4) ((rd_T42 l0 x7_1).f0) ((rd_T42 l0 x7_1).f1) ((rd_T42 l0 x7_1).f2) ((rd_T42 l0 x7_1).f3) ((rd_T42 l0 x7_1).f4)).bind fun t122 => (cell_Sorted.j1 k1 l0 l0 (l0.length : Int) x7_1 (decide (t122 ≥ 0)))) else (none)) else (none)) = some r := by first | (rw [hji11] at H; exact H) | (simp only [hji11] at H ⊢; exact H)
         (try rw [hji11] at A8)
         have hji11w : (IntKind.i64.wrap (x7_1 - 1)) = ji11 := (i64_w _).trans hji11
         by_cases c12 : 0 ≤ (ji11)
         ·
          rw [if_pos c12] at H; have c12b0 : decide (0 ≤ (ji11)) = true := decide_eq_true c12; clear c12
          by_cases c13 : (ji11) < (l0.length : Int)
          ·
           rw [if_pos c13] at H; have c13b0 : decide ((ji11) < (l0.length : Int)) = true := decide_eq_true c13; clear c13; replace H := obm H; obtain ⟨t122, A140, H⟩ := H; have A14 := aS A140; clear A140
           have H' := aS H
           clear H
           try go_wp2
           have n0_ : Aside0 ((((((w6.setCell ⟨gb119, 0, none⟩ (.string ((rd_T42 l0 x7_1).f0))).setCell ⟨gb119, 1, none⟩ (.string ((rd_T42 l0 x7_1).f1))).setCell ⟨gb119, 2, none⟩ (.int .i64 ((rd_T42 l0 x7_1).f2))).setCell ⟨gb119, 3, none⟩ (.string ((rd_T42 l0 x7_1).f3))).setCell ⟨gb119, 4, none⟩ (.bool ((rd_T42 l0 x7_1).f4))).heap[gb119]? = some (.cells #[.string ((rd_T42 l0 x7_1).f0), .string ((rd_T42 l0 x7_1).f1), .int .i64 ((rd_T42 l0 x7_1).f2), .string ((rd_T42 l0 x7_1).f3), .bool ((rd_T42 l0 x7_1).f4)] 42 (0, 0))) := ⟨by (with_reducible repeat (first | refine blk_drewN ?_ _ | refine blk_drew ?_ | refine blk_alloc ?_ _)); refine blk_put (cs := #[.string ((rd_T42 l0 x7_1).f0), .string ((rd_T42 l0 x7_1).f1), .int .i64 ((rd_T42 l0 x7_1).f2), .string ((rd_T42 l0 x7_1).f3), .bool false]) ?_ 4 _ rfl; (with_reducible repeat (first | refine blk_drewN ?_ _ | refine blk_drew ?_ | refine blk_alloc ?_ _)); refine blk_put (cs := #[.string ((rd_T42 l0 x7_1).f0), .string ((rd_T42 l0 x7_1).f1), .int .i64 ((rd_T42 l0 x7_1).f2), .string (⟨#[]⟩ : ByteArray), .bool false]) ?_ 3 _ rfl; (with_reducible repeat (first | refine blk_drewN ?_ _ | refine blk_drew ?_ | refine blk_alloc ?_ _)); refine blk_put (cs := #[.string ((rd_T42 l0 x7_1).f0), .string ((rd_T42 l0 x7_1).f1), .int .i64 0, .string (⟨#[]⟩ : ByteArray), .bool false]) ?_ 2 _ rfl; (with_reducible repeat (first | refine blk_drewN ?_ _ | refine blk_drew ?_ | refine blk_alloc ?_ _)); refine blk_put (cs := #[.string ((rd_T42 l0 x7_1).f0), .string (⟨#[]⟩ : ByteArray), .int .i64 0, .string (⟨#[]⟩ : ByteArray), .bool false]) ?_ 1 _ rfl; (with_reducible repeat (first | refine blk_drewN ?_ _ | refine blk_drew ?_ | refine blk_alloc ?_ _)); refine blk_put (cs := #[.string (⟨#[]⟩ : ByteArray), .string (⟨#[]⟩ : ByteArray), .int .i64 0, .string (⟨#[]⟩ : ByteArray), .bool false]) ?_ 0 _ rfl; (with_reducible repeat (first | refine blk_drewN ?_ _ | refine blk_drew ?_ | refine blk_alloc ?_ _)); exact BK119.out⟩; have n1_ : Aside0 (Below w.heap.size w (((((w6.setCell ⟨gb119, 0, none⟩ (.string ((rd_T42 l0 x7_1).f0))).setCell ⟨gb119, 1, none⟩ (.string ((rd_T42 l0 x7_1).f1))).setCell ⟨gb119, 2, none⟩ (.int .i64 ((rd_T42 l0 x7_1).f2))).setCell ⟨gb119, 3, none⟩ (.string ((rd_T42 l0 x7_1).f3))).setCell ⟨gb119, 4, none⟩ (.bool ((rd_T42 l0 x7_1).f4)))) := ⟨bel⟩; (try clear BK119); (try clear HB)
           generalize (((((w6.setCell ⟨gb119, 0, none⟩ (.string ((rd_T42 l0 x7_1).f0))).setCell ⟨gb119, 1, none⟩ (.string ((rd_T42 l0 x7_1).f1))).setCell ⟨gb119, 2, none⟩ (.int .i64 ((rd_T42 l0 x7_1).f2))).setCell ⟨gb119, 3, none⟩ (.string ((rd_T42 l0 x7_1).f3))).setCell ⟨gb119, 4, none⟩ (.bool ((rd_T42 l0 x7_1).f4))) = w15 at n0_ n1_ ⊢
           have BK119 := n0_; have HB := n1_; clear n0_ n1_; replace BK119 := aS (blk_drew BK119.out); replace HB := aS (bdo HB.out); have p121 : 0 ≤ ((ji11) : Int) := oda; have q121 : (ji11) < (l0.length : Int) := oda; obtain ⟨ad121, e121, hx121_0, hx121_1, hx121_2, hx121_3, hx121_4⟩ := at_T42 HR0.out (ji11) p121 q121; have hw121_4 := hx121_4; have hw121_3 := hx121_3; have hw121_2 := hx121_2; have hw121_1 := hx121_1; have hw121_0 := hx121_0
           obtain rfl : ad118 = ad121 := (by injection e121)
           replace hx121_0 := bx bel hx121_0; replace hx121_1 := bx bel hx121_1; replace hx121_2 := bx bel hx121_2; replace hx121_3 := bx bel hx121_3; replace hx121_4 := bx bel hx121_4; replace p121 := eq_true p121; replace q121 := eq_true q121; refine start_ (n := 17) (S := fun w' => w'.cell? ⟨gb119, 0, none⟩ = some (.string ((rd_T42 l0 x7_1).f0)) ∧ w'.cell? ⟨gb119, 1, none⟩ = some (.string ((rd_T42 l0 x7_1).f1)) ∧ w'.cell? ⟨gb119, 2, none⟩ = some (.int .i64 ((rd_T42 l0 x7_1).f2)) ∧ w'.cell? ⟨gb119, 3, none⟩ = some (.string ((rd_T42 l0 x7_1).f3)) ∧ w'.cell? ⟨gb119, 4, none⟩ = some (.bool ((rd_T42 l0 x7_1).f4)) ∧ w'.cell? (ad118.add (((ji11)).toNat * 5)) = some (.string ((rd_T42 l0 (ji11)).f0)) ∧ w'.cell? ⟨(ad118.add (((ji11)).toNat * 5)).block, (ad118.add (((ji11)).toNat * 5)).off + 1, none⟩ = some (.string ((rd_T42 l0 (ji11)).f1)) ∧ w'.cell? ⟨(ad118.add (((ji11)).toNat * 5)).block, (ad118.add (((ji11)).toNat * 5)).off + 2, none⟩ = some (.int .i64 ((rd_T42 l0 (ji11)).f2)) ∧ w'.cell? ⟨(ad118.add (((ji11)).toNat * 5)).block, (ad118.add (((ji11)).toNat * 5)).off + 3, none⟩ = some (.string ((rd_T42 l0 (ji11)).f3)) ∧ w'.cell? ⟨(ad118.add (((ji11)).toNat * 5)).block, (ad118.add (((ji11)).toNat * 5)).off + 4, none⟩ = some (.bool ((rd_T42 l0 (ji11)).f4))) (ds := []) (bA 17 0) (by kernel_rfl) rfl rfl ⟨bc BK119 0, bc BK119 1, bc BK119 2, bc BK119 3, bc BK119 4, (bx bel hw121_0), (bx bel hw121_1), (bx bel hw121_2), (bx bel hw121_3), (bx bel hw121_4)⟩ (fun hHeld => ?_); refine with_tabW cell_Sorted.tab4 cell_Sorted.bits4 (fun HT_ HW_ => ?_)
           generalize w15.drew = w16 at BK119 HB hx121_0 hx121_1 hx121_2 hx121_3 hx121_4 hHeld ⊢
           refine take_ (i := 0) (N := some 12) (v := ?_) (a' := ?_) (bA 17 1) rfl rfl (take_ofW HT_.out HW_.out (by kernel_rfl)) (fun _ _ _ h => h) (Or.inl ⟨by rfl, ?_⟩) hHeld ?_ ?_
           rotate_left
           ·
            rintro w' ⟨s0, s1, s2, s3, s4, s5, s6, s7, s8, s9⟩
            go_simp
            with_reducible rfl
           rotate_left
           ·
            simp only [Act.put, lsa, lsz, lss, i64_w, i32_w]
            rfl
           refine one3 1 (N := some 13) (bA 17 3) HT_ (fun K hK => ?_); refine goes_ Try.func61 (by kernel_rfl) rfl #[.agg #[.string ((rd_T42 l0 x7_1).f0), .string ((rd_T42 l0 x7_1).f1), .int .i64 ((rd_T42 l0 x7_1).f2), .string ((rd_T42 l0 x7_1).f3), .bool ((rd_T42 l0 x7_1).f4)]] (by rfl) rfl rfl agn ?_
           with_reducible refine (cell_Right.calls ((rd_T42 l0 x7_1).f0) ((rd_T42 l0 x7_1).f1) ((rd_T42 l0 x7_1).f2) ((rd_T42 l0 x7_1).f3) ((rd_T42 l0 x7_1).f4) true _ A8.out).mono ?_
           rintro e w17 ⟨rfl, hb⟩
           refine ⟨_, rfl, ?_⟩; replace BK119 := bbl BK119 hb; replace HB := bstep hb; (try clear hb); (try clear hk); (try clear hi); refine hK.out _ _ ⟨bc BK119 0, bc BK119 1, bc BK119 2, bc BK119 3, bc BK119 4, (bx bel hw121_0), (bx bel hw121_1), (bx bel hw121_2), (bx bel hw121_3), (bx bel hw121_4)⟩ (fun hHeld => ?_); clear hK K; refine nm 13 ?_; refine along_ [(2, 14), (3, 15), (4, 16), (5, 17), (6, 18), (7, 19), (8, 20), (9, 21), (10, 22), (11, 23), (12, 24)] ?_
           iterate 11 (first | (refine pure3 HT_ ?_) | (refine take3 HT_ HW_ hHeld ?_))
           refine lay_ (bA 17 8191) (by kernel_rfl) ?_; refine one3 13 (N := some 25) (bA 17 16383) HT_ (fun K hK => ?_); refine goes_ Try.func46 (by kernel_rfl) rfl #[.agg #[.string ((rd_T42 l0 (ji11)).f0), .string ((rd_T42 l0 (ji11)).f1), .int .i64 ((rd_T42 l0 (ji11)).f2), .string ((rd_T42 l0 (ji11)).f3), .bool ((rd_T42 l0 (ji11)).f4)], .agg #[.string ((rd_T42 l0 x7_1).f0), .string ((rd_T42 l0 x7_1).f1), .int .i64 ((rd_T42 l0 x7_1).f2), .string ((rd_T42 l0 x7_1).f3), .bool ((rd_T42 l0 x7_1).f4)]] (by rfl) rfl rfl (by (try simp only [List.map_toArray, List.map_cons, List.map_nil]); first | done | (simp only [hji11]; rfl) | rfl | (simp only [lld, llt]; rfl)) ?_
           with_reducible refine (cell_Compare.calls k1 ((rd_T42 l0 (ji11)).f0) ((rd_T42 l0 (ji11)).f1) ((rd_T42 l0 (ji11)).f2) ((rd_T42 l0 (ji11)).f3) ((rd_T42 l0 (ji11)).f4) ((rd_T42 l0 x7_1).f0) ((rd_T42 l0 x7_1).f1) ((rd_T42 l0 x7_1).f2) ((rd_T42 l0 x7_1).f3) ((rd_T42 l0 x7_1).f4) t122 _ A14.out).mono ?_
           rintro e w18 ⟨rfl, hb⟩
           refine ⟨_, rfl, ?_⟩; replace BK119 := bbl BK119 hb; replace HB := bstep hb; (try clear hb); (try clear hk); (try clear hi); refine hK.out _ _ ⟨bc BK119 0, bc BK119 1, bc BK119 2, bc BK119 3, bc BK119 4, (bx bel hw121_0), (bx bel hw121_1), (bx bel hw121_2), (bx bel hw121_3), (bx bel hw121_4)⟩ (fun hHeld => ?_); clear hK K; refine nm 25 ?_; refine along_ [(14, 26), (15, 27), (16, 28)] ?_
           iterate 3 (refine pure3 HT_ ?_)
           refine lay_ (bA 17 131071) (by kernel_rfl) ?_; refine done_ (done_of HT_.out (by kernel_rfl)) ?_
           try go_wp2
           go_meet
           case rel => exact ⟨_, (decide (t122 ≥ 0)), srf, H', ⟨by have := HK1.out; first | omega | exact Nat.le_refl _⟩, ⟨bkl BK119.out⟩, ⟨bel⟩⟩
          ·
           rw [if_neg c13] at H; exact absurd H (by simp)
         ·
          rw [if_neg c12] at H; exact absurd H (by simp)
        ·
         rw [if_neg c10] at H; have c10b0 : decide (0 < x7_1) = false := decide_eq_false c10; clear c10
         (first | rw [c10b0] | (simp only [i64_w, i32_w]; rw [c10b0]) | skip)
         have H' := aS H
         clear H
         try go_wp2
         have n0_ : Aside0 ((((((w6.setCell ⟨gb119, 0, none⟩ (.string ((rd_T42 l0 x7_1).f0))).setCell ⟨gb119, 1, none⟩ (.string ((rd_T42 l0 x7_1).f1))).setCell ⟨gb119, 2, none⟩ (.int .i64 ((rd_T42 l0 x7_1).f2))).setCell ⟨gb119, 3, none⟩ (.string ((rd_T42 l0 x7_1).f3))).setCell ⟨gb119, 4, none⟩ (.bool ((rd_T42 l0 x7_1).f4))).heap[gb119]? = some (.cells #[.string ((rd_T42 l0 x7_1).f0), .string ((rd_T42 l0 x7_1).f1), .int .i64 ((rd_T42 l0 x7_1).f2), .string ((rd_T42 l0 x7_1).f3), .bool ((rd_T42 l0 x7_1).f4)] 42 (0, 0))) := ⟨by (with_reducible repeat (first | refine blk_drewN ?_ _ | refine blk_drew ?_ | refine blk_alloc ?_ _)); refine blk_put (cs := #[.string ((rd_T42 l0 x7_1).f0), .string ((rd_T42 l0 x7_1).f1), .int .i64 ((rd_T42 l0 x7_1).f2), .string ((rd_T42 l0 x7_1).f3), .bool false]) ?_ 4 _ rfl; (with_reducible repeat (first | refine blk_drewN ?_ _ | refine blk_drew ?_ | refine blk_alloc ?_ _)); refine blk_put (cs := #[.string ((rd_T42 l0 x7_1).f0), .string ((rd_T42 l0 x7_1).f1), .int .i64 ((rd_T42 l0 x7_1).f2), .string (⟨#[]⟩ : ByteArray), .bool false]) ?_ 3 _ rfl; (with_reducible repeat (first | refine blk_drewN ?_ _ | refine blk_drew ?_ | refine blk_alloc ?_ _)); refine blk_put (cs := #[.string ((rd_T42 l0 x7_1).f0), .string ((rd_T42 l0 x7_1).f1), .int .i64 0, .string (⟨#[]⟩ : ByteArray), .bool false]) ?_ 2 _ rfl; (with_reducible repeat (first | refine blk_drewN ?_ _ | refine blk_drew ?_ | refine blk_alloc ?_ _)); refine blk_put (cs := #[.string ((rd_T42 l0 x7_1).f0), .string (⟨#[]⟩ : ByteArray), .int .i64 0, .string (⟨#[]⟩ : ByteArray), .bool false]) ?_ 1 _ rfl; (with_reducible repeat (first | refine blk_drewN ?_ _ | refine blk_drew ?_ | refine blk_alloc ?_ _)); refine blk_put (cs := #[.string (⟨#[]⟩ : ByteArray), .string (⟨#[]⟩ : ByteArray), .int .i64 0, .string (⟨#[]⟩ : ByteArray), .bool false]) ?_ 0 _ rfl; (with_reducible repeat (first | refine blk_drewN ?_ _ | refine blk_drew ?_ | refine blk_alloc ?_ _)); exact BK119.out⟩; have n1_ : Aside0 (Below w.heap.size w (((((w6.setCell ⟨gb119, 0, none⟩ (.string ((rd_T42 l0 x7_1).f0))).setCell ⟨gb119, 1, none⟩ (.string ((rd_T42 l0 x7_1).f1))).setCell ⟨gb119, 2, none⟩ (.int .i64 ((rd_T42 l0 x7_1).f2))).setCell ⟨gb119, 3, none⟩ (.string ((rd_T42 l0 x7_1).f3))).setCell ⟨gb119, 4, none⟩ (.bool ((rd_T42 l0 x7_1).f4)))) := ⟨bel⟩; (try clear BK119); (try clear HB)
         generalize (((((w6.setCell ⟨gb119, 0, none⟩ (.string ((rd_T42 l0 x7_1).f0))).setCell ⟨gb119, 1, none⟩ (.string ((rd_T42 l0 x7_1).f1))).setCell ⟨gb119, 2, none⟩ (.int .i64 ((rd_T42 l0 x7_1).f2))).setCell ⟨gb119, 3, none⟩ (.string ((rd_T42 l0 x7_1).f3))).setCell ⟨gb119, 4, none⟩ (.bool ((rd_T42 l0 x7_1).f4))) = w19 at n0_ n1_ ⊢
         have BK119 := n0_; have HB := n1_; clear n0_ n1_; replace BK119 := aS (blk_drew BK119.out); replace HB := aS (bdo HB.out); refine start_ (n := 17) (S := fun w' => w'.cell? ⟨gb119, 0, none⟩ = some (.string ((rd_T42 l0 x7_1).f0)) ∧ w'.cell? ⟨gb119, 1, none⟩ = some (.string ((rd_T42 l0 x7_1).f1)) ∧ w'.cell? ⟨gb119, 2, none⟩ = some (.int .i64 ((rd_T42 l0 x7_1).f2)) ∧ w'.cell? ⟨gb119, 3, none⟩ = some (.string ((rd_T42 l0 x7_1).f3)) ∧ w'.cell? ⟨gb119, 4, none⟩ = some (.bool ((rd_T42 l0 x7_1).f4))) (ds := []) (bA 17 0) (by kernel_rfl) rfl rfl ⟨bc BK119 0, bc BK119 1, bc BK119 2, bc BK119 3, bc BK119 4⟩ (fun hHeld => ?_); refine with_tabW cell_Sorted.tab4 cell_Sorted.bits4 (fun HT_ HW_ => ?_)
         generalize w19.drew = w20 at BK119 HB hHeld ⊢
         refine take_ (i := 0) (N := some 12) (v := ?_) (a' := ?_) (bA 17 1) rfl rfl (take_ofW HT_.out HW_.out (by kernel_rfl)) (fun _ _ _ h => h) (Or.inl ⟨by rfl, ?_⟩) hHeld ?_ ?_
         rotate_left
         ·
          rintro w' ⟨s0, s1, s2, s3, s4⟩
          go_simp
          with_reducible rfl
         rotate_left
         ·
          simp only [Act.put, lsa, lsz, lss, i64_w, i32_w]
          rfl
         refine one3 1 (N := some 13) (bA 17 3) HT_ (fun K hK => ?_); refine goes_ Try.func61 (by kernel_rfl) rfl #[.agg #[.string ((rd_T42 l0 x7_1).f0), .string ((rd_T42 l0 x7_1).f1), .int .i64 ((rd_T42 l0 x7_1).f2), .string ((rd_T42 l0 x7_1).f3), .bool ((rd_T42 l0 x7_1).f4)]] (by rfl) rfl rfl agn ?_
         with_reducible refine (cell_Right.calls ((rd_T42 l0 x7_1).f0) ((rd_T42 l0 x7_1).f1) ((rd_T42 l0 x7_1).f2) ((rd_T42 l0 x7_1).f3) ((rd_T42 l0 x7_1).f4) true _ A8.out).mono ?_
         rintro e w21 ⟨rfl, hb⟩
         refine ⟨_, rfl, ?_⟩; replace BK119 := bbl BK119 hb; replace HB := bstep hb; (try clear hb); (try clear hk); (try clear hi); refine hK.out _ _ ⟨bc BK119 0, bc BK119 1, bc BK119 2, bc BK119 3, bc BK119 4⟩ (fun hHeld => ?_); clear hK K; refine nm 13 ?_; refine along_ [(2, 14), (3, 15), (4, 16), (5, 17), (6, 18), (7, 19), (8, 20), (9, 21), (10, 22), (11, 23), (12, 24), (13, 25), (14, 26), (15, 27), (16, 28)] ?_
         iterate 15 (first | (refine skip3 HT_ ?_) | (refine pure3 HT_ ?_))
         refine lay_ (bA 17 131071) (by kernel_rfl) ?_; refine done_ (done_of HT_.out (by kernel_rfl)) ?_
         try go_wp2
         go_meet
         case rel => exact ⟨_, (false), srf, H', ⟨by have := HK1.out; first | omega | exact Nat.le_refl _⟩, ⟨bkl BK119.out⟩, ⟨bel⟩⟩
       ·
        replace c9 := Bool.eq_false_iff.mpr c9; subst c9
        replace H := ifF H
        have H' := aS H
        clear H
        try go_wp2
        have n0_ : Aside0 ((((((w6.setCell ⟨gb119, 0, none⟩ (.string ((rd_T42 l0 x7_1).f0))).setCell ⟨gb119, 1, none⟩ (.string ((rd_T42 l0 x7_1).f1))).setCell ⟨gb119, 2, none⟩ (.int .i64 ((rd_T42 l0 x7_1).f2))).setCell ⟨gb119, 3, none⟩ (.string ((rd_T42 l0 x7_1).f3))).setCell ⟨gb119, 4, none⟩ (.bool ((rd_T42 l0 x7_1).f4))).heap[gb119]? = some (.cells #[.string ((rd_T42 l0 x7_1).f0), .string ((rd_T42 l0 x7_1).f1), .int .i64 ((rd_T42 l0 x7_1).f2), .string ((rd_T42 l0 x7_1).f3), .bool ((rd_T42 l0 x7_1).f4)] 42 (0, 0))) := ⟨by (with_reducible repeat (first | refine blk_drewN ?_ _ | refine blk_drew ?_ | refine blk_alloc ?_ _)); refine blk_put (cs := #[.string ((rd_T42 l0 x7_1).f0), .string ((rd_T42 l0 x7_1).f1), .int .i64 ((rd_T42 l0 x7_1).f2), .string ((rd_T42 l0 x7_1).f3), .bool false]) ?_ 4 _ rfl; (with_reducible repeat (first | refine blk_drewN ?_ _ | refine blk_drew ?_ | refine blk_alloc ?_ _)); refine blk_put (cs := #[.string ((rd_T42 l0 x7_1).f0), .string ((rd_T42 l0 x7_1).f1), .int .i64 ((rd_T42 l0 x7_1).f2), .string (⟨#[]⟩ : ByteArray), .bool false]) ?_ 3 _ rfl; (with_reducible repeat (first | refine blk_drewN ?_ _ | refine blk_drew ?_ | refine blk_alloc ?_ _)); refine blk_put (cs := #[.string ((rd_T42 l0 x7_1).f0), .string ((rd_T42 l0 x7_1).f1), .int .i64 0, .string (⟨#[]⟩ : ByteArray), .bool false]) ?_ 2 _ rfl; (with_reducible repeat (first | refine blk_drewN ?_ _ | refine blk_drew ?_ | refine blk_alloc ?_ _)); refine blk_put (cs := #[.string ((rd_T42 l0 x7_1).f0), .string (⟨#[]⟩ : ByteArray), .int .i64 0, .string (⟨#[]⟩ : ByteArray), .bool false]) ?_ 1 _ rfl; (with_reducible repeat (first | refine blk_drewN ?_ _ | refine blk_drew ?_ | refine blk_alloc ?_ _)); refine blk_put (cs := #[.string (⟨#[]⟩ : ByteArray), .string (⟨#[]⟩ : ByteArray), .int .i64 0, .string (⟨#[]⟩ : ByteArray), .bool false]) ?_ 0 _ rfl; (with_reducible repeat (first | refine blk_drewN ?_ _ | refine blk_drew ?_ | refine blk_alloc ?_ _)); exact BK119.out⟩; have n1_ : Aside0 (Below w.heap.size w (((((w6.setCell ⟨gb119, 0, none⟩ (.string ((rd_T42 l0 x7_1).f0))).setCell ⟨gb119, 1, none⟩ (.string ((rd_T42 l0 x7_1).f1))).setCell ⟨gb119, 2, none⟩ (.int .i64 ((rd_T42 l0 x7_1).f2))).setCell ⟨gb119, 3, none⟩ (.string ((rd_T42 l0 x7_1).f3))).setCell ⟨gb119, 4, none⟩ (.bool ((rd_T42 l0 x7_1).f4)))) := ⟨bel⟩; (try clear BK119); (try clear HB)
        generalize (((((w6.setCell ⟨gb119, 0, none⟩ (.string ((rd_T42 l0 x7_1).f0))).setCell ⟨gb119, 1, none⟩ (.string ((rd_T42 l0 x7_1).f1))).setCell ⟨gb119, 2, none⟩ (.int .i64 ((rd_T42 l0 x7_1).f2))).setCell ⟨gb119, 3, none⟩ (.string ((rd_T42 l0 x7_1).f3))).setCell ⟨gb119, 4, none⟩ (.bool ((rd_T42 l0 x7_1).f4))) = w22 at n0_ n1_ ⊢
        have BK119 := n0_; have HB := n1_; clear n0_ n1_; replace BK119 := aS (blk_drew BK119.out); replace HB := aS (bdo HB.out); refine start_ (n := 17) (S := fun w' => w'.cell? ⟨gb119, 0, none⟩ = some (.string ((rd_T42 l0 x7_1).f0)) ∧ w'.cell? ⟨gb119, 1, none⟩ = some (.string ((rd_T42 l0 x7_1).f1)) ∧ w'.cell? ⟨gb119, 2, none⟩ = some (.int .i64 ((rd_T42 l0 x7_1).f2)) ∧ w'.cell? ⟨gb119, 3, none⟩ = some (.string ((rd_T42 l0 x7_1).f3)) ∧ w'.cell? ⟨gb119, 4, none⟩ = some (.bool ((rd_T42 l0 x7_1).f4))) (ds := []) (bA 17 0) (by kernel_rfl) rfl rfl ⟨bc BK119 0, bc BK119 1, bc BK119 2, bc BK119 3, bc BK119 4⟩ (fun hHeld => ?_); refine with_tabW cell_Sorted.tab4 cell_Sorted.bits4 (fun HT_ HW_ => ?_)
        generalize w22.drew = w23 at BK119 HB hHeld ⊢
        refine take_ (i := 0) (N := some 12) (v := ?_) (a' := ?_) (bA 17 1) rfl rfl (take_ofW HT_.out HW_.out (by kernel_rfl)) (fun _ _ _ h => h) (Or.inl ⟨by rfl, ?_⟩) hHeld ?_ ?_
        rotate_left
        ·
         rintro w' ⟨s0, s1, s2, s3, s4⟩
         go_simp
         with_reducible rfl
        rotate_left
        ·
         simp only [Act.put, lsa, lsz, lss, i64_w, i32_w]
         rfl
        refine one3 1 (N := some 13) (bA 17 3) HT_ (fun K hK => ?_); refine goes_ Try.func61 (by kernel_rfl) rfl #[.agg #[.string ((rd_T42 l0 x7_1).f0), .string ((rd_T42 l0 x7_1).f1), .int .i64 ((rd_T42 l0 x7_1).f2), .string ((rd_T42 l0 x7_1).f3), .bool ((rd_T42 l0 x7_1).f4)]] (by rfl) rfl rfl agn ?_
        with_reducible refine (cell_Right.calls ((rd_T42 l0 x7_1).f0) ((rd_T42 l0 x7_1).f1) ((rd_T42 l0 x7_1).f2) ((rd_T42 l0 x7_1).f3) ((rd_T42 l0 x7_1).f4) false _ A8.out).mono ?_
        rintro e w24 ⟨rfl, hb⟩
        refine ⟨_, rfl, ?_⟩; replace BK119 := bbl BK119 hb; replace HB := bstep hb; (try clear hb); (try clear hk); (try clear hi); refine hK.out _ _ ⟨bc BK119 0, bc BK119 1, bc BK119 2, bc BK119 3, bc BK119 4⟩ (fun hHeld => ?_); clear hK K; refine nm 13 ?_; refine along_ [(2, 14), (3, 15), (4, 16), (5, 17), (6, 18), (7, 19), (8, 20), (9, 21), (10, 22), (11, 23), (12, 24), (13, 25), (14, 26), (15, 27), (16, 28)] ?_
        iterate 15 (first | (refine skip3 HT_ ?_) | (refine pure3 HT_ ?_))
        refine lay_ (bA 17 131071) (by kernel_rfl) ?_; refine done_ (done_of HT_.out (by kernel_rfl)) ?_
        try go_wp2
        go_meet
        case rel => exact ⟨_, (true), srf, H', ⟨by have := HK1.out; first | omega | exact Nat.le_refl _⟩, ⟨bkl BK119.out⟩, ⟨bel⟩⟩
      case rest =>
       clear HC5; (try clear c2); (try clear c2b0); (try clear c3); (try clear c3b0); (try clear c4); (try clear c4b0); (try clear hcz7); (try clear hx118_0); (try clear hx118_1); (try clear hx118_2); (try clear hx118_3); (try clear hx118_4); (try clear p118); (try clear q118); obtain ⟨kq, x28_4, rfl, HA, HJ4, BK119, HB⟩ := hcut
       cases kq with
       | zero => exact absurd HA.out (by simp [cell_Sorted.j1])
       | succ kj4 =>
        have H := HA.out; clear HA
        simp only [cell_Sorted.j1] at H
        by_cases c25 : x28_4 = true
        ·
         subst c25
         replace H := ifT H
         obtain rfl := Option.some.inj H
         go_wp2
         go_ret
         exact ⟨rf3, bel⟩
        ·
         replace c25 := Bool.eq_false_iff.mpr c25; subst c25
         replace H := ifF H
         have H' := aS H
         clear H
         go_wp2
         go_roundg kj4
         case measure => have := HK1.out; have := HJ4.out; omega
         case rel => exact ⟨(wrap64 (x7_1 + 1)), srf, H', ⟨by have := HK1.out; have := HJ4.out; omega⟩, ⟨bel⟩⟩
     ·
      rw [if_neg c4] at H; exact absurd H (by simp)
    ·
     rw [if_neg c3] at H; exact absurd H (by simp)
   ·
    rw [if_neg c2] at H; have c2b0 : decide (x7_1 < (l0.length : Int)) = false := decide_eq_false c2; clear c2
    obtain rfl := Option.some.inj H
    go_wp2
    go_ret
    exact ⟨rf3, bel⟩

end Go.Proofs.Ytinhpolmanccgaa.X
