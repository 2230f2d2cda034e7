-- written by a program of this session's, over the kit's print
import Derived.Test.YthoiimhokkfeaaaXx0
import Derived.Test.YthoiimhokkfeaaaXx3
import Derived.Test.YthoiimhokkfeaaaXx4
import Derived.Test.YthoiimhokkfeaaaXx7
import Derived.Test.YthoiimhokkfeaaaXx8
import Derived.Test.YthoiimhokkfeaaaXx9
import Derived.Test.YthoiimhokkfeaaaXx10
namespace Go.Proofs.Ythoiimhokkfeaaa.X
open Go.RowKit Go.Proofs.YthoiimhokkfeaaaW.PrintWords Go.Proofs.YthoiimhokkfeaaaW.PrintLast Go.Proofs.YthoiimhokkfeaaaW.PrintMore
attribute [local go_sem] max2_int min2_int max_two min_two max_three min_three max_four min_four   -- for this text's walks alone
set_option linter.unusedVariables false
set_option linter.unusedSimpArgs false

/-! ### shardloglaw01_WireCut: function 7 -/
def shardloglaw01_WireCut.j0 : Nat → List ByteArray → Int → Bool → Option (Bool)
  | 0, _, _, _ => none
  | k + 1, x0, x1, x19 => if x19 = true then ((shardloglaw01_awake.f k).bind fun t348 => (some t348)) else ((wire_Texts.f k x0).bind fun t349 => (if (t349.length : Int) = 0 then (none) else (if 0 ≤ (Int.tmod (wrap64 (x1)) (t349.length : Int)) then (if (Int.tmod (wrap64 (x1)) (t349.length : Int)) ≤ (t349.length : Int) then ((wire_CutTexts.f k (t349.take ((Int.tmod (wrap64 (x1)) (t349.length : Int)) : Int).toNat)).bind fun bt356 => ((wire_Text.f (⟨#[102, 111, 117, 114]⟩ : ByteArray)).bind fun t363 => (if (t363.length : Int) = 0 then (none) else (if 0 ≤ (Int.tmod (wrap64 (x1)) (t363.length : Int)) then (if (Int.tmod (wrap64 (x1)) (t363.length : Int)) ≤ (t363.length : Int) then ((wire_CutText.f k (t363.take ((Int.tmod (wrap64 (x1)) (t363.length : Int)) : Int).toNat)).bind fun bt370 => (if bt356.2.2 = true then (none) else (some (!bt370.2.2)))) else (none)) else (none))))) else (none)) else (none))))
def shardloglaw01_WireCut.f (k : Nat) (l0 : List ByteArray) (a1 : Int) : Option (Bool) := (shardloglaw01_awake.f k).bind fun t346 => (if t346 = true then ((shardlogref01_Few.f k l0).bind fun t347 => (shardloglaw01_WireCut.j0 k l0 a1 (!t347))) else (shardloglaw01_WireCut.j0 k l0 a1 true))
theorem shardloglaw01_WireCut.mono_l : ∀ k, (∀ y0 y1 y2, LeO (shardloglaw01_WireCut.j0 k y0 y1 y2) (shardloglaw01_WireCut.j0 (k + 1) y0 y1 y2))
  | 0 => fun _ _ _ r h => by simp [shardloglaw01_WireCut.j0] at h
  | k + 1 => by
    have ih0 := shardloglaw01_WireCut.mono_l k
    · intro y0 y1 y2
      unfold shardloglaw01_WireCut.j0
      repeat' first
      | (with_reducible exact ih0 _ _ _)
      | (with_reducible exact shardloglaw01_awake.mono _)
      | (with_reducible exact shardlogref01_Few.mono _ _)
      | (with_reducible exact wire_CutText.mono _ _)
      | (with_reducible exact wire_CutTexts.mono _ _)
      | (with_reducible exact wire_Texts.mono _ _)
      | (with_reducible exact LeO.refl _)
      | (with_reducible exact LeO.none _)
      | (with_reducible refine LeO.ite ?_ ?_)
      | (with_reducible refine LeO.bind ?_ (fun _ => ?_))
      | exact ih0 _ _ _
      | exact shardloglaw01_awake.mono _
      | exact shardlogref01_Few.mono _ _
      | exact wire_CutText.mono _ _
      | exact wire_CutTexts.mono _ _
      | exact wire_Texts.mono _ _
      | exact LeO.none _
      | refine LeO.ite ?_ ?_
      | refine LeO.bind ?_ (fun _ => ?_)
theorem shardloglaw01_WireCut.mono : ∀ a0 a1 k, LeO (shardloglaw01_WireCut.f k a0 a1) (shardloglaw01_WireCut.f (k + 1) a0 a1) := by
  intro a0 a1 k
  have ih0 := shardloglaw01_WireCut.mono_l k
  unfold shardloglaw01_WireCut.f
  repeat' first
      | (with_reducible exact ih0 _ _ _)
      | (with_reducible exact shardloglaw01_awake.mono _)
      | (with_reducible exact shardlogref01_Few.mono _ _)
      | (with_reducible exact wire_CutText.mono _ _)
      | (with_reducible exact wire_CutTexts.mono _ _)
      | (with_reducible exact wire_Texts.mono _ _)
      | (with_reducible exact LeO.refl _)
      | (with_reducible exact LeO.none _)
      | (with_reducible refine LeO.ite ?_ ?_)
      | (with_reducible refine LeO.bind ?_ (fun _ => ?_))
      | exact ih0 _ _ _
      | exact shardloglaw01_awake.mono _
      | exact shardlogref01_Few.mono _ _
      | exact wire_CutText.mono _ _
      | exact wire_CutTexts.mono _ _
      | exact wire_Texts.mono _ _
      | exact LeO.none _
      | refine LeO.ite ?_ ?_
      | refine LeO.bind ?_ (fun _ => ?_)
set_option maxHeartbeats 8000000 in
set_option maxRecDepth 100000 in
theorem shardloglaw01_WireCut.calls (k : Nat) (A0 : Option Addr) (c0 : Nat) (l0 : List ByteArray) (a1 : Int) (r : Bool) (w : World) (hr0 : Kd.C Kd.string w A0 l0.length l0) (hc0 : l0.length ≤ c0) (h : shardloglaw01_WireCut.f k l0 a1 = some r) :
    Calls Try.prog 7 #[.slice A0 l0.length c0, .int .u16 a1] w fun e w' => e = .returned (.bool r) ∧ Below w.heap.size w w' := by
  have HR0 := Aside0.mk hr0
  have HC0 := Aside0.mk hc0
  clear hr0 hc0
  have HB := Aside0.mk (Below.refl w.heap.size w)
  have H : ((shardloglaw01_awake.f k).bind fun t346 => (if t346 = true then ((shardlogref01_Few.f k l0).bind fun t347 => (shardloglaw01_WireCut.j0 k l0 a1 (!t347))) else (shardloglaw01_WireCut.j0 k l0 a1 true))) = some r := h
  clear h
  have HC3 := Aside0.mk H
  clear H
  go_enter Try.func7, Try.ntmps7
  go_upto_region 1 with (fail)
  go_cut [19] (fun v19 wc => ∃ (kq : Nat) (x19_2 : Bool), v19 = .bool x19_2 ∧ Aside0 (shardloglaw01_WireCut.j0 kq l0 a1 x19_2 = some r) ∧ Aside0 (kq ≤ k) ∧ Aside0 (Below w.heap.size w wc))
  case first =>
    have H := HC3.out
    clear HC3
    replace H := Option.bind_eq_some_iff.mp H
    obtain ⟨t346, A40, H⟩ := H
    replace H : (if t346 = true then ((shardlogref01_Few.f k l0).bind fun t347 => (shardloglaw01_WireCut.j0 k l0 a1 (!t347))) else (shardloglaw01_WireCut.j0 k l0 a1 true)) = some r := H
    have A4 := Aside0.mk A40
    clear A40
    by_cases c5 : t346 = true
    · subst c5
      have H1 : ((shardlogref01_Few.f k l0).bind fun t347 => (shardloglaw01_WireCut.j0 k l0 a1 (!t347))) = some r := by rw [if_pos rfl] at H; exact H
      clear H
      have H := H1
      clear H1
      replace H := Option.bind_eq_some_iff.mp H
      obtain ⟨t347, A60, H⟩ := H
      replace H : (shardloglaw01_WireCut.j0 k l0 a1 (!t347)) = some r := H
      have A6 := Aside0.mk A60
      clear A60
      have H' := Aside0.mk H
      clear H
      go_wp2_with (first | ((with_reducible refine gate_callee (f := 9) rfl ?_); refine goesL_ (some 13) rfl rfl Try.func9 (by kernel_rfl) rfl #[] rfl (by (try simp only [List.map_toArray, List.map_cons, List.map_nil]); first | done | rfl | (simp only [List.length_drop, List.length_take]; rfl)) ?_; (with_reducible refine (shardloglaw01_awake.calls k  true _ A4.out).mono ?_); rintro e w7 ⟨rfl, hb⟩; refine ⟨_, rfl, ?_⟩; have n0_ := Aside0.mk (below_step (by repeat (first | (with_reducible first | exact HB.out | apply below_alloc | apply pw_below_drewN | apply below_drew1) | exact HB.out)) hb); clear HB; have HB := n0_; clear n0_; (try clear hb); (try clear hb2); (try clear hk); (try clear hi)) | (go_at_call 10; (with_reducible refine (shardlogref01_Few.calls k _ _ l0 t347 _ ?side1 ?side2 A6.out).mono ?_); (case side1 => repeat (first | exact (Kd.C_below HR0.out HB.out) | (with_reducible refine Kd.C_alloc ?_ _) | (with_reducible refine Kd.C_drewN ?_ _) | (with_reducible refine Kd.C_drew ?_))); (case side2 => exact HC0.out); rintro e w' ⟨rfl, ⟨nd, rfl⟩⟩))
      go_meet
      case rel => exact ⟨_, (!t347), (by first | rfl | (simp; done) | (simp [*]; done)), H', ⟨by first | omega | exact Nat.le_refl _⟩, ⟨by repeat (first | (with_reducible first | exact HB.out | apply below_alloc | apply pw_below_drewN | apply below_drew1) | exact HB.out)⟩⟩
    · replace c5 := Bool.eq_false_iff.mpr c5
      subst c5
      have H1 : (shardloglaw01_WireCut.j0 k l0 a1 true) = some r := by rw [if_neg (show ¬ (false = true) by decide)] at H; exact H
      clear H
      have H := H1
      clear H1
      have H' := Aside0.mk H
      clear H
      go_wp2_with (first | ((with_reducible refine gate_callee (f := 9) rfl ?_); refine goesL_ (some 13) rfl rfl Try.func9 (by kernel_rfl) rfl #[] rfl (by (try simp only [List.map_toArray, List.map_cons, List.map_nil]); first | done | rfl | (simp only [List.length_drop, List.length_take]; rfl)) ?_; (with_reducible refine (shardloglaw01_awake.calls k  false _ A4.out).mono ?_); rintro e w8 ⟨rfl, hb⟩; refine ⟨_, rfl, ?_⟩; have n0_ := Aside0.mk (below_step (by repeat (first | (with_reducible first | exact HB.out | apply below_alloc | apply pw_below_drewN | apply below_drew1) | exact HB.out)) hb); clear HB; have HB := n0_; clear n0_; (try clear hb); (try clear hb2); (try clear hk); (try clear hi)))
      go_meet
      case rel => exact ⟨_, (true), (by first | rfl | (simp; done) | (simp [*]; done)), H', ⟨by first | omega | exact Nat.le_refl _⟩, ⟨by repeat (first | (with_reducible first | exact HB.out | apply below_alloc | apply pw_below_drewN | apply below_drew1) | exact HB.out)⟩⟩
  case rest =>
    clear HC3
    try clear p2
    try clear c5
    try clear c7
    obtain ⟨kq, x19_2, rfl, HA, HJ2, HB⟩ := hcut
    cases kq with
    | zero => exact absurd HA.out (by simp [shardloglaw01_WireCut.j0])
    | succ kj2 =>
      have H := HA.out
      clear HA
      simp only [shardloglaw01_WireCut.j0] at H
      by_cases c9 : x19_2 = true
      · subst c9
        have H1 : ((shardloglaw01_awake.f kj2).bind fun t348 => (some t348)) = some r := by rw [if_pos rfl] at H; exact H
        clear H
        have H := H1
        clear H1
        replace H := Option.bind_eq_some_iff.mp H
        obtain ⟨t348, A100, H⟩ := H
        replace H : (some t348) = some r := H
        have A10 := Aside0.mk A100
        clear A100
        obtain rfl := Option.some.inj H
        go_wp2_with (first | ((with_reducible refine gate_callee (f := 9) rfl ?_); refine goesL_ (some 20) rfl rfl Try.func9 (by kernel_rfl) rfl #[] rfl (by (try simp only [List.map_toArray, List.map_cons, List.map_nil]); first | done | rfl | (simp only [List.length_drop, List.length_take]; rfl)) ?_; (with_reducible refine (shardloglaw01_awake.calls kj2  t348 _ A10.out).mono ?_); rintro e w11 ⟨rfl, hb⟩; refine ⟨_, rfl, ?_⟩; have n0_ := Aside0.mk (below_step (by repeat (first | (with_reducible first | exact HB.out | apply below_alloc | apply pw_below_drewN | apply below_drew1) | exact HB.out)) hb); clear HB; have HB := n0_; clear n0_; (try clear hb); (try clear hb2); (try clear hk); (try clear hi)))
        go_ret
        exact ⟨by first | rfl | (simp [errW_none, errW_some] <;> rfl) | (simp [*, errW_none, errW_some] <;> rfl), by repeat (first | (with_reducible first | exact HB.out | apply below_alloc | apply pw_below_drewN | apply below_drew1) | exact HB.out)⟩
      · replace c9 := Bool.eq_false_iff.mpr c9
        subst c9
        have H1 : ((wire_Texts.f kj2 l0).bind fun t349 => (if (t349.length : Int) = 0 then (none) else (if 0 ≤ (Int.tmod (wrap64 (a1)) (t349.length : Int)) then (if (Int.tmod (wrap64 (a1)) (t349.length : Int)) ≤ (t349.length : Int) then ((wire_CutTexts.f kj2 (t349.take ((Int.tmod (wrap64 (a1)) (t349.length : Int)) : Int).toNat)).bind fun bt356 => ((wire_Text.f (⟨#[102, 111, 117, 114]⟩ : ByteArray)).bind fun t363 => (if (t363.length : Int) = 0 then (none) else (if 0 ≤ (Int.tmod (wrap64 (a1)) (t363.length : Int)) then (if (Int.tmod (wrap64 (a1)) (t363.length : Int)) ≤ (t363.length : Int) then ((wire_CutText.f kj2 (t363.take ((Int.tmod (wrap64 (a1)) (t363.length : Int)) : Int).toNat)).bind fun bt370 => (if bt356.2.2 = true then (none) else (some (!bt370.2.2)))) else (none)) else (none))))) else (none)) else (none)))) = some r := by rw [if_neg (show ¬ (false = true) by decide)] at H; exact H
        clear H
        have H := H1
        clear H1
        replace H := Option.bind_eq_some_iff.mp H
        obtain ⟨t349, A120, H⟩ := H
        replace H : (if (t349.length : Int) = 0 then (none) else (if 0 ≤ (Int.tmod (wrap64 (a1)) (t349.length : Int)) then (if (Int.tmod (wrap64 (a1)) (t349.length : Int)) ≤ (t349.length : Int) then ((wire_CutTexts.f kj2 (t349.take ((Int.tmod (wrap64 (a1)) (t349.length : Int)) : Int).toNat)).bind fun bt356 => ((wire_Text.f (⟨#[102, 111, 117, 114]⟩ : ByteArray)).bind fun t363 => (if (t363.length : Int) = 0 then (none) else (if 0 ≤ (Int.tmod (wrap64 (a1)) (t363.length : Int)) then (if (Int.tmod (wrap64 (a1)) (t363.length : Int)) ≤ (t363.length : Int) then ((wire_CutText.f kj2 (t363.take ((Int.tmod (wrap64 (a1)) (t363.length : Int)) : Int).toNat)).bind fun bt370 => (if bt356.2.2 = true then (none) else (some (!bt370.2.2)))) else (none)) else (none))))) else (none)) else (none))) = some r := H
        have A12 := Aside0.mk A120
        clear A120
        by_cases c13 : (t349.length : Int) = 0
        · rw [if_pos c13] at H
          exact absurd H (by simp)
        · rw [if_neg c13] at H
          have c13b0 : ((t349.length : Int) == 0) = false := beq_eq_false_iff_ne.mpr c13
          have c13b1 : ((t349.length : Int) != 0) = true := bne_iff_ne.mpr c13
          have c13b2 : ¬ (t349 = []) := fun h_ => c13 (by rw [h_]; rfl)
          obtain ⟨ji14, hji14⟩ : ∃ j_ : Int, (Int.tmod (wrap64 (a1)) (t349.length : Int)) = j_ := ⟨_, rfl⟩
          replace H : (if 0 ≤ (ji14) then (if (ji14) ≤ (t349.length : Int) then ((wire_CutTexts.f kj2 (t349.take ((ji14) : Int).toNat)).bind fun bt356 => ((wire_Text.f (⟨#[102, 111, 117, 114]⟩ : ByteArray)).bind fun t363 => (if (t363.length : Int) = 0 then (none) else (if 0 ≤ (Int.tmod (wrap64 (a1)) (t363.length : Int)) then (if (Int.tmod (wrap64 (a1)) (t363.length : Int)) ≤ (t363.length : Int) then ((wire_CutText.f kj2 (t363.take ((Int.tmod (wrap64 (a1)) (t363.length : Int)) : Int).toNat)).bind fun bt370 => (if bt356.2.2 = true then (none) else (some (!bt370.2.2)))) else (none)) else (none))))) else (none)) else (none)) = some r := by first | (rw [hji14] at H; exact H) | (simp only [hji14] at H ⊢; exact H)
          (try rw [hji14] at A12)
          by_cases c15 : 0 ≤ (ji14)
          · rw [if_pos c15] at H
            have c15b0 := eq_true c15
            have c15b1 : decide (0 ≤ (ji14)) = true := decide_eq_true c15
            clear c15
            by_cases c16 : (ji14) ≤ (t349.length : Int)
            · rw [if_pos c16] at H
              have c16b0 := eq_true c16
              have c16b1 : decide ((ji14) ≤ (t349.length : Int)) = true := decide_eq_true c16
              clear c16
              obtain ⟨y352, hy352⟩ : ∃ y_ : List Int, y_ = (t349.take ((ji14) : Int).toNat) := ⟨_, rfl⟩
              replace H : ((wire_CutTexts.f kj2 y352).bind fun bt356 => ((wire_Text.f (⟨#[102, 111, 117, 114]⟩ : ByteArray)).bind fun t363 => (if (t363.length : Int) = 0 then (none) else (if 0 ≤ (Int.tmod (wrap64 (a1)) (t363.length : Int)) then (if (Int.tmod (wrap64 (a1)) (t363.length : Int)) ≤ (t363.length : Int) then ((wire_CutText.f kj2 (t363.take ((Int.tmod (wrap64 (a1)) (t363.length : Int)) : Int).toNat)).bind fun bt370 => (if bt356.2.2 = true then (none) else (some (!bt370.2.2)))) else (none)) else (none))))) = some r := by first | (rw [hy352]; with_reducible exact H) | (have H2_ := (Option.bind_some _ _).symm.trans H; rw [hy352]; with_reducible exact H2_) | (have H2_ := (Option.bind_some _ _).symm.trans H; with_reducible exact H2_) | with_reducible exact H | (rw [hy352]; exact H) | exact H
              have Ny352 := Aside0.mk hy352
              clear hy352
              replace H := Option.bind_eq_some_iff.mp H
              obtain ⟨⟨t356, t357, t358⟩, A170, H⟩ := H
              replace H : ((wire_Text.f (⟨#[102, 111, 117, 114]⟩ : ByteArray)).bind fun t363 => (if (t363.length : Int) = 0 then (none) else (if 0 ≤ (Int.tmod (wrap64 (a1)) (t363.length : Int)) then (if (Int.tmod (wrap64 (a1)) (t363.length : Int)) ≤ (t363.length : Int) then ((wire_CutText.f kj2 (t363.take ((Int.tmod (wrap64 (a1)) (t363.length : Int)) : Int).toNat)).bind fun bt370 => (if t358 = true then (none) else (some (!bt370.2.2)))) else (none)) else (none)))) = some r := H
              have A17 := Aside0.mk A170
              clear A170
              replace H := Option.bind_eq_some_iff.mp H
              obtain ⟨t363, A180, H⟩ := H
              replace H : (if (t363.length : Int) = 0 then (none) else (if 0 ≤ (Int.tmod (wrap64 (a1)) (t363.length : Int)) then (if (Int.tmod (wrap64 (a1)) (t363.length : Int)) ≤ (t363.length : Int) then ((wire_CutText.f kj2 (t363.take ((Int.tmod (wrap64 (a1)) (t363.length : Int)) : Int).toNat)).bind fun bt370 => (if t358 = true then (none) else (some (!bt370.2.2)))) else (none)) else (none))) = some r := H
              have A18 := Aside0.mk A180
              clear A180
              by_cases c19 : (t363.length : Int) = 0
              · rw [if_pos c19] at H
                exact absurd H (by simp)
              · rw [if_neg c19] at H
                have c19b0 : ((t363.length : Int) == 0) = false := beq_eq_false_iff_ne.mpr c19
                have c19b1 : ((t363.length : Int) != 0) = true := bne_iff_ne.mpr c19
                have c19b2 : ¬ (t363 = []) := fun h_ => c19 (by rw [h_]; rfl)
                obtain ⟨ji20, hji20⟩ : ∃ j_ : Int, (Int.tmod (wrap64 (a1)) (t363.length : Int)) = j_ := ⟨_, rfl⟩
                replace H : (if 0 ≤ (ji20) then (if (ji20) ≤ (t363.length : Int) then ((wire_CutText.f kj2 (t363.take ((ji20) : Int).toNat)).bind fun bt370 => (if t358 = true then (none) else (some (!bt370.2.2)))) else (none)) else (none)) = some r := by first | (rw [hji20] at H; exact H) | (simp only [hji20] at H ⊢; exact H)
                (try rw [hji20] at A12)
                (try rw [hji20] at A17)
                (try rw [hji20] at A18)
                by_cases c21 : 0 ≤ (ji20)
                · rw [if_pos c21] at H
                  have c21b0 := eq_true c21
                  have c21b1 : decide (0 ≤ (ji20)) = true := decide_eq_true c21
                  clear c21
                  by_cases c22 : (ji20) ≤ (t363.length : Int)
                  · rw [if_pos c22] at H
                    have c22b0 := eq_true c22
                    have c22b1 : decide ((ji20) ≤ (t363.length : Int)) = true := decide_eq_true c22
                    clear c22
                    obtain ⟨y366, hy366⟩ : ∃ y_ : List Int, y_ = (t363.take ((ji20) : Int).toNat) := ⟨_, rfl⟩
                    replace H : ((wire_CutText.f kj2 y366).bind fun bt370 => (if t358 = true then (none) else (some (!bt370.2.2)))) = some r := by first | (rw [hy366]; with_reducible exact H) | (have H2_ := (Option.bind_some _ _).symm.trans H; rw [hy366]; with_reducible exact H2_) | (have H2_ := (Option.bind_some _ _).symm.trans H; with_reducible exact H2_) | with_reducible exact H | (rw [hy366]; exact H) | exact H
                    have Ny366 := Aside0.mk hy366
                    clear hy366
                    replace H := Option.bind_eq_some_iff.mp H
                    obtain ⟨⟨t370, t371, t372⟩, A230, H⟩ := H
                    replace H : (if t358 = true then (none) else (some (!t372))) = some r := H
                    have A23 := Aside0.mk A230
                    clear A230
                    by_cases c24 : t358 = true
                    · subst c24
                      have H1 : (none) = some r := by rw [if_pos rfl] at H; exact H
                      clear H
                      have H := H1
                      clear H1
                      exact absurd H (by simp)
                    · replace c24 := Bool.eq_false_iff.mpr c24
                      subst c24
                      have H1 : (some (!t372)) = some r := by rw [if_neg (show ¬ (false = true) by decide)] at H; exact H
                      clear H
                      have H := H1
                      clear H1
                      obtain rfl := Option.some.inj H
                      go_wp2_with (first | ((with_reducible refine gate_callee (f := 16) rfl ?_); refine goesL_ (some 22) rfl rfl Try.func16 (by kernel_rfl) rfl #[.slice A0 l0.length c0] rfl (by (try simp only [List.map_toArray, List.map_cons, List.map_nil]); first | done | rfl | (simp only [List.length_drop, List.length_take]; rfl)) ?_; (with_reducible refine (wire_Texts.calls kj2 _ _ l0 t349 _ ?side1 ?side2 A12.out).mono ?_); (case side1 => repeat (first | exact (Kd.C_below HR0.out HB.out) | (with_reducible refine Kd.C_alloc ?_ _) | (with_reducible refine Kd.C_drewN ?_ _) | (with_reducible refine Kd.C_drew ?_))); (case side2 => exact HC0.out); rintro e w25 ⟨v350, rfl, ho0, hb⟩; refine ⟨_, rfl, ?_⟩; have n0_ := Aside0.mk (Kd.R_lower ho0 (below_size (by repeat (first | (with_reducible first | exact HB.out | apply below_alloc | apply pw_below_drewN | apply below_drew1) | exact HB.out)))); have n1_ := Aside0.mk (below_step (by repeat (first | (with_reducible first | exact HB.out | apply below_alloc | apply pw_below_drewN | apply below_drew1) | exact HB.out)) hb); clear HB; have HO351 := n0_; have HB := n1_; clear n0_ n1_; (try clear hb); (try clear hb2); (try clear hk); (try clear hi); (try clear ho0); obtain ⟨Ao26, co26, eo26⟩ := Kd.R_slice HO351.out; subst eo26; have q27 : ((ji14) : Int) ≤ ((t349.length : Int) : Int) := of_decide_eq_true (by first | (with_reducible assumption) | assumption); obtain ⟨i027, hi027, _, hsz27, _⟩ := info_parts info5; have hroom27 : t349.length ≤ co26 := (Kd.R_reads' HO351.out).2.1; have hC27 : Kd.C (Kd.int .u8) _ Ao26 t349.length t349 := (Kd.R_reads' HO351.out).2.2; have hcut27 := cut_to (P := Try.prog) 26 5 .i64 Try.underlying26 hi027 Ao26 t349.length co26 (ji14) (of_decide_eq_true (by first | (with_reducible assumption) | assumption)) q27 hroom27; have hr27 := Kd.C_take (m := ((ji14) : Int).toNat) hC27 (by omega); have hy27 : y352.length = ((ji14) : Int).toNat := (by rw [Ny352.out, List.length_take]; omega); rw [← Ny352.out] at hr27; rw [← hy27] at hcut27; have HR355 := Aside0.mk hr27; have HC355 := Aside0.mk (show y352.length ≤ co26 from by omega); clear hr27 hC27 hroom27 hi027 hsz27; have KY27 := Aside0.mk hy27; clear hy27; have KL27 := Aside0.mk (show ((ji14) : Int).toNat ≤ t349.length from by omega); replace q27 := eq_true q27) | ((with_reducible refine gate_callee (f := 22) rfl ?_); refine goesL_ (some 31) rfl rfl Try.func22 (by kernel_rfl) rfl #[.slice Ao26 y352.length co26] rfl (by (try simp only [List.map_toArray, List.map_cons, List.map_nil]); first | done | rfl | (simp only [List.length_drop, List.length_take]; rfl)) ?_; (with_reducible refine (wire_CutTexts.calls kj2 _ _ y352 t356 t357 false _ ?side1 ?side2 A17.out).mono ?_); (case side1 => repeat (first | exact (by repeat (first | (with_reducible exact HR355.out) | (with_reducible refine Kd.C_alloc ?_ _) | (with_reducible refine Kd.C_drewN ?_ _) | (with_reducible refine Kd.C_drew ?_) | exact HR355.out)) | (with_reducible refine Kd.C_alloc ?_ _) | (with_reducible refine Kd.C_drewN ?_ _) | (with_reducible refine Kd.C_drew ?_))); (case side2 => exact HC355.out); rintro e w28 ⟨v359, v361, rfl, ho0, ho1, hb⟩; refine ⟨_, rfl, ?_⟩; have n0_ := Aside0.mk (Kd.R_elder' (by (with_reducible repeat (first | apply Kd.R_alloc | apply Kd.R_drewN | apply Kd.R_drew)); exact HO351.out) (Kd.Q_base ho1) hb); have n1_ := Aside0.mk (Kd.R_lower ho0 (below_size (by repeat (first | (with_reducible first | exact HB.out | apply below_alloc | apply pw_below_drewN | apply below_drew1) | exact HB.out)))); have n2_ := Aside0.mk (Kd.Q_lower (Kd.Q_new' ho1 (Kd.R_lt (by (with_reducible repeat (first | apply Kd.R_alloc | apply Kd.R_drewN | apply Kd.R_drew)); exact HO351.out))) (below_size (by repeat (first | (with_reducible first | exact HB.out | apply below_alloc | apply pw_below_drewN | apply below_drew1) | exact HB.out)))); have n3_ := Aside0.mk (Kd.C_below (by repeat (first | (with_reducible exact HR355.out) | (with_reducible refine Kd.C_alloc ?_ _) | (with_reducible refine Kd.C_drewN ?_ _) | (with_reducible refine Kd.C_drew ?_) | exact HR355.out)) hb); have n4_ := Aside0.mk (below_step (by repeat (first | (with_reducible first | exact HB.out | apply below_alloc | apply pw_below_drewN | apply below_drew1) | exact HB.out)) hb); clear HO351; clear HR355; clear HB; have HO351 := n0_; have HO360 := n1_; have HO362 := n2_; have HR355 := n3_; have HB := n4_; clear n0_ n1_ n2_ n3_ n4_; (try clear hb); (try clear hb2); (try clear hk); (try clear hi); (try clear ho0); (try clear ho1)) | ((with_reducible refine gate_callee (f := 14) rfl ?_); refine goesL_ (some 35) rfl rfl Try.func14 (by kernel_rfl) rfl #[.string (⟨#[102, 111, 117, 114]⟩ : ByteArray)] rfl (by (try simp only [List.map_toArray, List.map_cons, List.map_nil]); first | done | rfl | (simp only [List.length_drop, List.length_take]; rfl)) ?_; (with_reducible refine (wire_Text.calls (⟨#[102, 111, 117, 114]⟩ : ByteArray) t363 _ A18.out).mono ?_); rintro e w29 ⟨v364, rfl, ho0, hb⟩; refine ⟨_, rfl, ?_⟩; have n0_ := Aside0.mk (Kd.R_elder' (by (with_reducible repeat (first | apply Kd.R_alloc | apply Kd.R_drewN | apply Kd.R_drew)); exact HO351.out) (Kd.R_base ho0) hb); have n1_ := Aside0.mk (Kd.R_below (by (with_reducible repeat (first | apply Kd.R_alloc | apply Kd.R_drewN | apply Kd.R_drew)); exact HO360.out) hb); have n2_ := Aside0.mk (Kd.Q_elder' (by (with_reducible repeat (first | apply Kd.Q_alloc | apply Kd.Q_drewN | apply Kd.Q_drew)); exact HO362.out) (Kd.R_base ho0) hb); have n3_ := Aside0.mk (Kd.R_lower (Kd.R_new' (Kd.R_new' ho0 (Kd.R_lt (by (with_reducible repeat (first | apply Kd.R_alloc | apply Kd.R_drewN | apply Kd.R_drew)); exact HO351.out))) (Kd.Q_lt (by (with_reducible repeat (first | apply Kd.Q_alloc | apply Kd.Q_drewN | apply Kd.Q_drew)); exact HO362.out))) (below_size (by repeat (first | (with_reducible first | exact HB.out | apply below_alloc | apply pw_below_drewN | apply below_drew1) | exact HB.out)))); have n4_ := Aside0.mk (Kd.C_below (by repeat (first | (with_reducible exact HR355.out) | (with_reducible refine Kd.C_alloc ?_ _) | (with_reducible refine Kd.C_drewN ?_ _) | (with_reducible refine Kd.C_drew ?_) | exact HR355.out)) hb); have n5_ := Aside0.mk (below_step (by repeat (first | (with_reducible first | exact HB.out | apply below_alloc | apply pw_below_drewN | apply below_drew1) | exact HB.out)) hb); clear HO351; clear HO360; clear HO362; clear HR355; clear HB; have HO351 := n0_; have HO360 := n1_; have HO362 := n2_; have HO365 := n3_; have HR355 := n4_; have HB := n5_; clear n0_ n1_ n2_ n3_ n4_ n5_; (try clear hb); (try clear hb2); (try clear hk); (try clear hi); (try clear ho0); obtain ⟨Ao30, co30, eo30⟩ := Kd.R_slice HO365.out; subst eo30; have q31 : ((ji20) : Int) ≤ ((t363.length : Int) : Int) := of_decide_eq_true (by first | (with_reducible assumption) | assumption); obtain ⟨i031, hi031, _, hsz31, _⟩ := info_parts info5; have hroom31 : t363.length ≤ co30 := (Kd.R_reads' HO365.out).2.1; have hC31 : Kd.C (Kd.int .u8) _ Ao30 t363.length t363 := (Kd.R_reads' HO365.out).2.2; have hcut31 := cut_to (P := Try.prog) 26 5 .i64 Try.underlying26 hi031 Ao30 t363.length co30 (ji20) (of_decide_eq_true (by first | (with_reducible assumption) | assumption)) q31 hroom31; have hr31 := Kd.C_take (m := ((ji20) : Int).toNat) hC31 (by omega); have hy31 : y366.length = ((ji20) : Int).toNat := (by rw [Ny366.out, List.length_take]; omega); rw [← Ny366.out] at hr31; rw [← hy31] at hcut31; have HR369 := Aside0.mk hr31; have HC369 := Aside0.mk (show y366.length ≤ co30 from by omega); clear hr31 hC31 hroom31 hi031 hsz31; have KY31 := Aside0.mk hy31; clear hy31; have KL31 := Aside0.mk (show ((ji20) : Int).toNat ≤ t363.length from by omega); replace q31 := eq_true q31) | ((with_reducible refine gate_callee (f := 19) rfl ?_); refine goesL_ (some 44) rfl rfl Try.func19 (by kernel_rfl) rfl #[.slice Ao30 y366.length co30] rfl (by (try simp only [List.map_toArray, List.map_cons, List.map_nil]); first | done | rfl | (simp only [List.length_drop, List.length_take]; rfl)) ?_; (with_reducible refine (wire_CutText.calls kj2 _ _ y366 t370 t371 t372 _ ?side1 ?side2 A23.out).mono ?_); (case side1 => repeat (first | exact (by repeat (first | (with_reducible exact HR369.out) | (with_reducible refine Kd.C_alloc ?_ _) | (with_reducible refine Kd.C_drewN ?_ _) | (with_reducible refine Kd.C_drew ?_) | exact HR369.out)) | (with_reducible refine Kd.C_alloc ?_ _) | (with_reducible refine Kd.C_drewN ?_ _) | (with_reducible refine Kd.C_drew ?_))); (case side2 => exact HC369.out); rintro e w32 ⟨v373, rfl, ho0, hb⟩; refine ⟨_, rfl, ?_⟩; have n0_ := Aside0.mk (Kd.R_elder' (by (with_reducible repeat (first | apply Kd.R_alloc | apply Kd.R_drewN | apply Kd.R_drew)); exact HO351.out) (Kd.Q_base ho0) hb); have n1_ := Aside0.mk (Kd.R_below (by (with_reducible repeat (first | apply Kd.R_alloc | apply Kd.R_drewN | apply Kd.R_drew)); exact HO360.out) hb); have n2_ := Aside0.mk (Kd.Q_elder' (by (with_reducible repeat (first | apply Kd.Q_alloc | apply Kd.Q_drewN | apply Kd.Q_drew)); exact HO362.out) (Kd.Q_base ho0) hb); have n3_ := Aside0.mk (Kd.R_elder' (by (with_reducible repeat (first | apply Kd.R_alloc | apply Kd.R_drewN | apply Kd.R_drew)); exact HO365.out) (Kd.Q_base ho0) hb); have n4_ := Aside0.mk (Kd.Q_lower (Kd.Q_new' (Kd.Q_new' (Kd.Q_new' ho0 (Kd.R_lt (by (with_reducible repeat (first | apply Kd.R_alloc | apply Kd.R_drewN | apply Kd.R_drew)); exact HO351.out))) (Kd.Q_lt (by (with_reducible repeat (first | apply Kd.Q_alloc | apply Kd.Q_drewN | apply Kd.Q_drew)); exact HO362.out))) (Kd.R_lt (by (with_reducible repeat (first | apply Kd.R_alloc | apply Kd.R_drewN | apply Kd.R_drew)); exact HO365.out))) (below_size (by repeat (first | (with_reducible first | exact HB.out | apply below_alloc | apply pw_below_drewN | apply below_drew1) | exact HB.out)))); have n5_ := Aside0.mk (Kd.C_below (by repeat (first | (with_reducible exact HR355.out) | (with_reducible refine Kd.C_alloc ?_ _) | (with_reducible refine Kd.C_drewN ?_ _) | (with_reducible refine Kd.C_drew ?_) | exact HR355.out)) hb); have n6_ := Aside0.mk (Kd.C_below (by repeat (first | (with_reducible exact HR369.out) | (with_reducible refine Kd.C_alloc ?_ _) | (with_reducible refine Kd.C_drewN ?_ _) | (with_reducible refine Kd.C_drew ?_) | exact HR369.out)) hb); have n7_ := Aside0.mk (below_step (by repeat (first | (with_reducible first | exact HB.out | apply below_alloc | apply pw_below_drewN | apply below_drew1) | exact HB.out)) hb); clear HO351; clear HO360; clear HO362; clear HO365; clear HR355; clear HR369; clear HB; have HO351 := n0_; have HO360 := n1_; have HO362 := n2_; have HO365 := n3_; have HO374 := n4_; have HR355 := n5_; have HR369 := n6_; have HB := n7_; clear n0_ n1_ n2_ n3_ n4_ n5_ n6_ n7_; (try clear hb); (try clear hb2); (try clear hk); (try clear hi); (try clear ho0)))
                      go_ret
                      exact ⟨by first | rfl | (simp [errW_none, errW_some] <;> rfl) | (simp only [← hji14, ← hji20]; first | rfl | (simp [errW_none, errW_some] <;> rfl)) | (simp [*, errW_none, errW_some] <;> rfl), by repeat (first | (with_reducible first | exact HB.out | apply below_alloc | apply pw_below_drewN | apply below_drew1) | exact HB.out)⟩
                  · rw [if_neg c22] at H
                    exact absurd H (by simp)
                · rw [if_neg c21] at H
                  exact absurd H (by simp)
            · rw [if_neg c16] at H
              exact absurd H (by simp)
          · rw [if_neg c15] at H
            exact absurd H (by simp)

/-- THE ONE PURE STATEMENT of shardloglaw01_WireCut. -/
def shardloglaw01_WireCut.Pure : Prop := ∀ (l0 : List ByteArray) (a1 : Int), (l0.length ≤ maxLen ∧ l0.length * 16 ≤ 140737488351232 ∧ ∀ y0_ ∈ l0, y0_.size ≤ 140737488351232) → (Lit.int .u16 a1).wf = true → ∃ k, shardloglaw01_WireCut.f k l0 a1 = some true
theorem shardloglaw01_WireCut.walk (P : shardloglaw01_WireCut.Pure) (A0 : Option Addr) (c0 : Nat) (l0 : List ByteArray) (a1 : Int) (w : World) (wf0 : (l0.length ≤ maxLen ∧ l0.length * 16 ≤ 140737488351232 ∧ ∀ y0_ ∈ l0, y0_.size ≤ 140737488351232)) (hr0 : Kd.C Kd.string w A0 l0.length l0) (hc0 : l0.length ≤ c0) (wf1 : (Lit.int .u16 a1).wf = true) :
    Calls Try.prog 7 #[.slice A0 l0.length c0, .int .u16 a1] w fun e w' => e = .returned (.bool true) ∧ Below w.heap.size w w' := by
  obtain ⟨k, h⟩ := P l0 a1 wf0 wf1
  refine (shardloglaw01_WireCut.calls k A0 c0 l0 a1 true w hr0 hc0 h).mono ?_
  rintro e w' ⟨rfl, hd⟩
  exact ⟨rfl, hd⟩

end Go.Proofs.Ythoiimhokkfeaaa.X
