-- written by a program of this session's, over the kit's print
import Derived.Test.YtpnbknhjnakehaaXx0
import Derived.Test.YtpnbknhjnakehaaXx1
import Derived.Test.YtpnbknhjnakehaaXx9
import Derived.Test.YtpnbknhjnakehaaXx10
import Derived.Test.YtpnbknhjnakehaaXx11
import Derived.Test.YtpnbknhjnakehaaXx15
import Derived.Test.YtpnbknhjnakehaaXx17
import Derived.Test.YtpnbknhjnakehaaXx18
namespace Go.Proofs.Ytpnbknhjnakehaa.X
open Go.RowKit Go.Proofs.YtpnbknhjnakehaaW.PrintWords Go.Proofs.YtpnbknhjnakehaaW.PrintLast Go.Proofs.YtpnbknhjnakehaaW.PrintMore
attribute [local go_sem] max2_int min2_int max_two min_two max_three min_three max_four min_four gtr_str   -- for this text's walks alone
set_option linter.unusedVariables false
set_option linter.unusedSimpArgs false

attribute [local go_sem high] eqA23
/-! ### shardloglaw08_CellNewest: function 6 -/
def shardloglaw08_CellNewest.j0 : Nat → List (S23) → ByteArray → ByteArray → Int → Bool → Option (Bool)
  | 0, _, _, _, _, _ => none
  | k + 1, x0, x1, x2, x3, x30 => if x30 = true then ((shardloglaw08_awake.f k).bind fun t456 => (some t456)) else ((shardlogref08_Sort.f k x0).bind fun t457 => ((cell_Newest.f k t457 x1 x2 x3).bind fun bt460 => ((shardlogref08_Newest.f k t457 x1 x2 x3).bind fun bt467 => ((cell_Sorted.f k x0).bind fun t474 => ((shardlogref08_Sorted.f k x0).bind fun t475 => (if (t474 == t475) = true then ((cell_Sorted.f k t457).bind fun t476 => (if t476 = true then (if (bt460.2.2.2.2.2 == bt467.2.2.2.2.2) = true then (some (bt460.1.toList == bt467.1.toList && (bt460.2.1.toList == bt467.2.1.toList && (bt460.2.2.1 == bt467.2.2.1 && (bt460.2.2.2.1.toList == bt467.2.2.2.1.toList && (bt460.2.2.2.2.1 == bt467.2.2.2.2.1)))))) else (none)) else (none))) else (none)))))))
def shardloglaw08_CellNewest.f (k : Nat) (l0 : List (S23)) (a1 : ByteArray) (a2 : ByteArray) (a3 : Int) : Option (Bool) := (shardloglaw08_awake.f k).bind fun t454 => (if t454 = true then ((shardlogref08_Few.f k l0).bind fun t455 => (if t455 = true then (if (a1.size : Int) > 100 then (shardloglaw08_CellNewest.j0 k l0 a1 a2 a3 true) else (shardloglaw08_CellNewest.j0 k l0 a1 a2 a3 (decide ((a2.size : Int) > 100)))) else (shardloglaw08_CellNewest.j0 k l0 a1 a2 a3 true))) else (shardloglaw08_CellNewest.j0 k l0 a1 a2 a3 true))
theorem shardloglaw08_CellNewest.mono_l : ∀ k, (∀ y0 y1 y2 y3 y4, LeO (shardloglaw08_CellNewest.j0 k y0 y1 y2 y3 y4) (shardloglaw08_CellNewest.j0 (k + 1) y0 y1 y2 y3 y4))
  | 0 => fun _ _ _ _ _ r h => by simp [shardloglaw08_CellNewest.j0] at h
  | k + 1 => by
    have ih0 := shardloglaw08_CellNewest.mono_l k
    · intro y0 y1 y2 y3 y4
      unfold shardloglaw08_CellNewest.j0
      repeat' first
      | (with_reducible exact ih0 _ _ _ _ _)
      | (with_reducible exact cell_Newest.mono _ _ _ _ _)
      | (with_reducible exact cell_Sorted.mono _ _)
      | (with_reducible exact shardloglaw08_awake.mono _)
      | (with_reducible exact shardlogref08_Few.mono _ _)
      | (with_reducible exact shardlogref08_Newest.mono _ _ _ _ _)
      | (with_reducible exact shardlogref08_Sort.mono _ _)
      | (with_reducible exact shardlogref08_Sorted.mono _ _)
      | (with_reducible exact LeO.refl _)
      | (with_reducible exact LeO.none _)
      | (with_reducible refine LeO.ite ?_ ?_)
      | (with_reducible refine LeO.bind ?_ (fun _ => ?_))
      | exact ih0 _ _ _ _ _
      | exact cell_Newest.mono _ _ _ _ _
      | exact cell_Sorted.mono _ _
      | exact shardloglaw08_awake.mono _
      | exact shardlogref08_Few.mono _ _
      | exact shardlogref08_Newest.mono _ _ _ _ _
      | exact shardlogref08_Sort.mono _ _
      | exact shardlogref08_Sorted.mono _ _
      | exact LeO.none _
      | refine LeO.ite ?_ ?_
      | refine LeO.bind ?_ (fun _ => ?_)
theorem shardloglaw08_CellNewest.mono : ∀ a0 a1 a2 a3 k, LeO (shardloglaw08_CellNewest.f k a0 a1 a2 a3) (shardloglaw08_CellNewest.f (k + 1) a0 a1 a2 a3) := by
  intro a0 a1 a2 a3 k
  have ih0 := shardloglaw08_CellNewest.mono_l k
  unfold shardloglaw08_CellNewest.f
  repeat' first
      | (with_reducible exact ih0 _ _ _ _ _)
      | (with_reducible exact cell_Newest.mono _ _ _ _ _)
      | (with_reducible exact cell_Sorted.mono _ _)
      | (with_reducible exact shardloglaw08_awake.mono _)
      | (with_reducible exact shardlogref08_Few.mono _ _)
      | (with_reducible exact shardlogref08_Newest.mono _ _ _ _ _)
      | (with_reducible exact shardlogref08_Sort.mono _ _)
      | (with_reducible exact shardlogref08_Sorted.mono _ _)
      | (with_reducible exact LeO.refl _)
      | (with_reducible exact LeO.none _)
      | (with_reducible refine LeO.ite ?_ ?_)
      | (with_reducible refine LeO.bind ?_ (fun _ => ?_))
      | exact ih0 _ _ _ _ _
      | exact cell_Newest.mono _ _ _ _ _
      | exact cell_Sorted.mono _ _
      | exact shardloglaw08_awake.mono _
      | exact shardlogref08_Few.mono _ _
      | exact shardlogref08_Newest.mono _ _ _ _ _
      | exact shardlogref08_Sort.mono _ _
      | exact shardlogref08_Sorted.mono _ _
      | exact LeO.none _
      | refine LeO.ite ?_ ?_
      | refine LeO.bind ?_ (fun _ => ?_)
set_option maxHeartbeats 8000000 in
set_option maxRecDepth 100000 in
theorem shardloglaw08_CellNewest.calls (k : Nat) (A0 : Option Addr) (c0 : Nat) (l0 : List (S23)) (a1 : ByteArray) (a2 : ByteArray) (a3 : Int) (r : Bool) (w : World) (hr0 : Kd.C k23 w A0 l0.length l0) (hc0 : l0.length ≤ c0) (h : shardloglaw08_CellNewest.f k l0 a1 a2 a3 = some r) :
    Calls Try.prog 6 #[.slice A0 l0.length c0, .string a1, .string a2, .int .i64 a3] w fun e w' => e = .returned (.bool r) ∧ Below w.heap.size w w' := by
  have hu23 := Try.underlying23
  have HR0 := Aside0.mk hr0
  have HC0 := Aside0.mk hc0
  clear hr0 hc0
  have HB := Aside0.mk (Below.refl w.heap.size w)
  have H : ((shardloglaw08_awake.f k).bind fun t454 => (if t454 = true then ((shardlogref08_Few.f k l0).bind fun t455 => (if t455 = true then (if (a1.size : Int) > 100 then (shardloglaw08_CellNewest.j0 k l0 a1 a2 a3 true) else (shardloglaw08_CellNewest.j0 k l0 a1 a2 a3 (decide ((a2.size : Int) > 100)))) else (shardloglaw08_CellNewest.j0 k l0 a1 a2 a3 true))) else (shardloglaw08_CellNewest.j0 k l0 a1 a2 a3 true))) = some r := h
  clear h
  have HC5 := Aside0.mk H
  clear H
  go_enter Try.func6, Try.ntmps6
  go_upto_region 1 with (fail)
  go_cut [30] (fun v30 wc => ∃ (kq : Nat) (x30_4 : Bool), v30 = .bool x30_4 ∧ Aside0 (shardloglaw08_CellNewest.j0 kq l0 a1 a2 a3 x30_4 = some r) ∧ Aside0 (kq ≤ k) ∧ Aside0 (Below w.heap.size w wc))
  case first =>
    have H := HC5.out
    clear HC5
    replace H := Option.bind_eq_some_iff.mp H
    obtain ⟨t454, A60, H⟩ := H
    replace H : (if t454 = true then ((shardlogref08_Few.f k l0).bind fun t455 => (if t455 = true then (if (a1.size : Int) > 100 then (shardloglaw08_CellNewest.j0 k l0 a1 a2 a3 true) else (shardloglaw08_CellNewest.j0 k l0 a1 a2 a3 (decide ((a2.size : Int) > 100)))) else (shardloglaw08_CellNewest.j0 k l0 a1 a2 a3 true))) else (shardloglaw08_CellNewest.j0 k l0 a1 a2 a3 true)) = some r := H
    have A6 := Aside0.mk A60
    clear A60
    by_cases c7 : t454 = true
    · subst c7
      have H1 : ((shardlogref08_Few.f k l0).bind fun t455 => (if t455 = true then (if (a1.size : Int) > 100 then (shardloglaw08_CellNewest.j0 k l0 a1 a2 a3 true) else (shardloglaw08_CellNewest.j0 k l0 a1 a2 a3 (decide ((a2.size : Int) > 100)))) else (shardloglaw08_CellNewest.j0 k l0 a1 a2 a3 true))) = some r := by rw [if_pos rfl] at H; exact H
      clear H
      have H := H1
      clear H1
      replace H := Option.bind_eq_some_iff.mp H
      obtain ⟨t455, A80, H⟩ := H
      replace H : (if t455 = true then (if (a1.size : Int) > 100 then (shardloglaw08_CellNewest.j0 k l0 a1 a2 a3 true) else (shardloglaw08_CellNewest.j0 k l0 a1 a2 a3 (decide ((a2.size : Int) > 100)))) else (shardloglaw08_CellNewest.j0 k l0 a1 a2 a3 true)) = some r := H
      have A8 := Aside0.mk A80
      clear A80
      by_cases c9 : t455 = true
      · subst c9
        have H1 : (if (a1.size : Int) > 100 then (shardloglaw08_CellNewest.j0 k l0 a1 a2 a3 true) else (shardloglaw08_CellNewest.j0 k l0 a1 a2 a3 (decide ((a2.size : Int) > 100)))) = some r := by rw [if_pos rfl] at H; exact H
        clear H
        have H := H1
        clear H1
        by_cases c10 : (a1.size : Int) > 100
        · rw [if_pos c10] at H
          have c10b0 : decide (100 < (a1.size : Int)) = true := decide_eq_true c10
          have c10b1 : decide (100 < a1.size) = true := decide_eq_true (by omega)
          clear c10
          (first | rw [c10b0] | (simp only [i64_w, i32_w]; rw [c10b0]) | skip)
          have H' := Aside0.mk H
          clear H
          go_wp2_with (first | ((with_reducible refine gate_callee (f := 8) rfl ?_); refine goesL_ (some 14) rfl rfl Try.func8 (by kernel_rfl) rfl #[] rfl (by (try simp only [List.map_toArray, List.map_cons, List.map_nil]); first | done | rfl | (simp only [List.length_drop, List.length_take]; rfl)) ?_; (with_reducible refine (shardloglaw08_awake.calls k  true _ A6.out).mono ?_); rintro e w11 ⟨rfl, hb⟩; refine ⟨_, rfl, ?_⟩; have n0_ := Aside0.mk (below_step (by repeat (first | (with_reducible first | exact HB.out | apply below_alloc | apply pw_below_drewN | apply below_drew1) | exact HB.out)) hb); clear HB; have HB := n0_; clear n0_; (try clear hb); (try clear hb2); (try clear hk); (try clear hi)) | (go_at_call 19; (with_reducible refine (shardlogref08_Few.calls k _ _ l0 true _ ?side1 ?side2 A8.out).mono ?_); (case side1 => repeat (first | exact (Kd.C_below HR0.out HB.out) | (with_reducible refine Kd.C_alloc ?_ _) | (with_reducible refine Kd.C_drewN ?_ _) | (with_reducible refine Kd.C_drew ?_))); (case side2 => exact HC0.out); rintro e w12 ⟨rfl, hb⟩; have n0_ := Aside0.mk (below_step (by repeat (first | (with_reducible first | exact HB.out | apply below_alloc | apply pw_below_drewN | apply below_drew1) | exact HB.out)) hb); clear HB; have HB := n0_; clear n0_; (try clear hb); (try clear hb2); (try clear hk); (try clear hi)))
          go_meet
          case rel => exact ⟨_, (true), (by first | rfl | (simp; done) | (simp [*]; done) | (simp; exact (by decide : ∀ a_ b_ : Bool, (a_ == b_) = (!a_ != b_)) _ _)), H', ⟨by first | omega | exact Nat.le_refl _⟩, ⟨by repeat (first | (with_reducible first | exact HB.out | apply below_alloc | apply pw_below_drewN | apply below_drew1) | exact HB.out)⟩⟩
        · rw [if_neg c10] at H
          have c10b0 : decide (100 < (a1.size : Int)) = false := decide_eq_false c10
          have c10b1 : decide (100 < a1.size) = false := decide_eq_false (by omega)
          clear c10
          (first | rw [c10b0] | (simp only [i64_w, i32_w]; rw [c10b0]) | skip)
          have H' := Aside0.mk H
          clear H
          go_wp2_with (first | ((with_reducible refine gate_callee (f := 8) rfl ?_); refine goesL_ (some 14) rfl rfl Try.func8 (by kernel_rfl) rfl #[] rfl (by (try simp only [List.map_toArray, List.map_cons, List.map_nil]); first | done | rfl | (simp only [List.length_drop, List.length_take]; rfl)) ?_; (with_reducible refine (shardloglaw08_awake.calls k  true _ A6.out).mono ?_); rintro e w13 ⟨rfl, hb⟩; refine ⟨_, rfl, ?_⟩; have n0_ := Aside0.mk (below_step (by repeat (first | (with_reducible first | exact HB.out | apply below_alloc | apply pw_below_drewN | apply below_drew1) | exact HB.out)) hb); clear HB; have HB := n0_; clear n0_; (try clear hb); (try clear hb2); (try clear hk); (try clear hi)) | (go_at_call 19; (with_reducible refine (shardlogref08_Few.calls k _ _ l0 true _ ?side1 ?side2 A8.out).mono ?_); (case side1 => repeat (first | exact (Kd.C_below HR0.out HB.out) | (with_reducible refine Kd.C_alloc ?_ _) | (with_reducible refine Kd.C_drewN ?_ _) | (with_reducible refine Kd.C_drew ?_))); (case side2 => exact HC0.out); rintro e w14 ⟨rfl, hb⟩; have n0_ := Aside0.mk (below_step (by repeat (first | (with_reducible first | exact HB.out | apply below_alloc | apply pw_below_drewN | apply below_drew1) | exact HB.out)) hb); clear HB; have HB := n0_; clear n0_; (try clear hb); (try clear hb2); (try clear hk); (try clear hi)))
          go_meet
          case rel => exact ⟨_, (decide ((a2.size : Int) > 100)), (by first | rfl | (simp; done) | (simp [*]; done) | (simp; exact (by decide : ∀ a_ b_ : Bool, (a_ == b_) = (!a_ != b_)) _ _)), H', ⟨by first | omega | exact Nat.le_refl _⟩, ⟨by repeat (first | (with_reducible first | exact HB.out | apply below_alloc | apply pw_below_drewN | apply below_drew1) | exact HB.out)⟩⟩
      · replace c9 := Bool.eq_false_iff.mpr c9
        subst c9
        have H1 : (shardloglaw08_CellNewest.j0 k l0 a1 a2 a3 true) = some r := by rw [if_neg (show ¬ (false = true) by decide)] at H; exact H
        clear H
        have H := H1
        clear H1
        have H' := Aside0.mk H
        clear H
        go_wp2_with (first | ((with_reducible refine gate_callee (f := 8) rfl ?_); refine goesL_ (some 14) rfl rfl Try.func8 (by kernel_rfl) rfl #[] rfl (by (try simp only [List.map_toArray, List.map_cons, List.map_nil]); first | done | rfl | (simp only [List.length_drop, List.length_take]; rfl)) ?_; (with_reducible refine (shardloglaw08_awake.calls k  true _ A6.out).mono ?_); rintro e w15 ⟨rfl, hb⟩; refine ⟨_, rfl, ?_⟩; have n0_ := Aside0.mk (below_step (by repeat (first | (with_reducible first | exact HB.out | apply below_alloc | apply pw_below_drewN | apply below_drew1) | exact HB.out)) hb); clear HB; have HB := n0_; clear n0_; (try clear hb); (try clear hb2); (try clear hk); (try clear hi)) | (go_at_call 19; (with_reducible refine (shardlogref08_Few.calls k _ _ l0 false _ ?side1 ?side2 A8.out).mono ?_); (case side1 => repeat (first | exact (Kd.C_below HR0.out HB.out) | (with_reducible refine Kd.C_alloc ?_ _) | (with_reducible refine Kd.C_drewN ?_ _) | (with_reducible refine Kd.C_drew ?_))); (case side2 => exact HC0.out); rintro e w16 ⟨rfl, hb⟩; have n0_ := Aside0.mk (below_step (by repeat (first | (with_reducible first | exact HB.out | apply below_alloc | apply pw_below_drewN | apply below_drew1) | exact HB.out)) hb); clear HB; have HB := n0_; clear n0_; (try clear hb); (try clear hb2); (try clear hk); (try clear hi)))
        go_meet
        case rel => exact ⟨_, (true), (by first | rfl | (simp; done) | (simp [*]; done) | (simp; exact (by decide : ∀ a_ b_ : Bool, (a_ == b_) = (!a_ != b_)) _ _)), H', ⟨by first | omega | exact Nat.le_refl _⟩, ⟨by repeat (first | (with_reducible first | exact HB.out | apply below_alloc | apply pw_below_drewN | apply below_drew1) | exact HB.out)⟩⟩
    · replace c7 := Bool.eq_false_iff.mpr c7
      subst c7
      have H1 : (shardloglaw08_CellNewest.j0 k l0 a1 a2 a3 true) = some r := by rw [if_neg (show ¬ (false = true) by decide)] at H; exact H
      clear H
      have H := H1
      clear H1
      have H' := Aside0.mk H
      clear H
      go_wp2_with (first | ((with_reducible refine gate_callee (f := 8) rfl ?_); refine goesL_ (some 14) rfl rfl Try.func8 (by kernel_rfl) rfl #[] rfl (by (try simp only [List.map_toArray, List.map_cons, List.map_nil]); first | done | rfl | (simp only [List.length_drop, List.length_take]; rfl)) ?_; (with_reducible refine (shardloglaw08_awake.calls k  false _ A6.out).mono ?_); rintro e w17 ⟨rfl, hb⟩; refine ⟨_, rfl, ?_⟩; have n0_ := Aside0.mk (below_step (by repeat (first | (with_reducible first | exact HB.out | apply below_alloc | apply pw_below_drewN | apply below_drew1) | exact HB.out)) hb); clear HB; have HB := n0_; clear n0_; (try clear hb); (try clear hb2); (try clear hk); (try clear hi)))
      go_meet
      case rel => exact ⟨_, (true), (by first | rfl | (simp; done) | (simp [*]; done) | (simp; exact (by decide : ∀ a_ b_ : Bool, (a_ == b_) = (!a_ != b_)) _ _)), H', ⟨by first | omega | exact Nat.le_refl _⟩, ⟨by repeat (first | (with_reducible first | exact HB.out | apply below_alloc | apply pw_below_drewN | apply below_drew1) | exact HB.out)⟩⟩
  case rest =>
    clear HC5
    try clear c1
    try clear p2
    try clear c6
    try clear c7
    try clear c8
    try clear c9
    try clear c10
    try clear c10b0
    try clear c10b1
    obtain ⟨kq, x30_4, rfl, HA, HJ4, HB⟩ := hcut
    cases kq with
    | zero => exact absurd HA.out (by simp [shardloglaw08_CellNewest.j0])
    | succ kj4 =>
      have H := HA.out
      clear HA
      simp only [shardloglaw08_CellNewest.j0] at H
      by_cases c18 : x30_4 = true
      · subst c18
        have H1 : ((shardloglaw08_awake.f kj4).bind fun t456 => (some t456)) = some r := by rw [if_pos rfl] at H; exact H
        clear H
        have H := H1
        clear H1
        replace H := Option.bind_eq_some_iff.mp H
        obtain ⟨t456, A190, H⟩ := H
        replace H : (some t456) = some r := H
        have A19 := Aside0.mk A190
        clear A190
        obtain rfl := Option.some.inj H
        go_wp2_with (first | ((with_reducible refine gate_callee (f := 8) rfl ?_); refine goesL_ (some 31) rfl rfl Try.func8 (by kernel_rfl) rfl #[] rfl (by (try simp only [List.map_toArray, List.map_cons, List.map_nil]); first | done | rfl | (simp only [List.length_drop, List.length_take]; rfl)) ?_; (with_reducible refine (shardloglaw08_awake.calls kj4  t456 _ A19.out).mono ?_); rintro e w20 ⟨rfl, hb⟩; refine ⟨_, rfl, ?_⟩; have n0_ := Aside0.mk (below_step (by repeat (first | (with_reducible first | exact HB.out | apply below_alloc | apply pw_below_drewN | apply below_drew1) | exact HB.out)) hb); clear HB; have HB := n0_; clear n0_; (try clear hb); (try clear hb2); (try clear hk); (try clear hi)))
        go_ret
        exact ⟨by first | rfl | (simp [errW_none, errW_some] <;> rfl) | (simp [*, errW_none, errW_some] <;> rfl), by repeat (first | (with_reducible first | exact HB.out | apply below_alloc | apply pw_below_drewN | apply below_drew1) | exact HB.out)⟩
      · replace c18 := Bool.eq_false_iff.mpr c18
        subst c18
        have H1 : ((shardlogref08_Sort.f kj4 l0).bind fun t457 => ((cell_Newest.f kj4 t457 a1 a2 a3).bind fun bt460 => ((shardlogref08_Newest.f kj4 t457 a1 a2 a3).bind fun bt467 => ((cell_Sorted.f kj4 l0).bind fun t474 => ((shardlogref08_Sorted.f kj4 l0).bind fun t475 => (if (t474 == t475) = true then ((cell_Sorted.f kj4 t457).bind fun t476 => (if t476 = true then (if (bt460.2.2.2.2.2 == bt467.2.2.2.2.2) = true then (some (bt460.1.toList == bt467.1.toList && (bt460.2.1.toList == bt467.2.1.toList && (bt460.2.2.1 == bt467.2.2.1 && (bt460.2.2.2.1.toList == bt467.2.2.2.1.toList && (bt460.2.2.2.2.1 == bt467.2.2.2.2.1)))))) else (none)) else (none))) else (none))))))) = some r := by rw [if_neg (show ¬ (false = true) by decide)] at H; exact H
        clear H
        have H := H1
        clear H1
        replace H := Option.bind_eq_some_iff.mp H
        obtain ⟨t457, A210, H⟩ := H
        replace H : ((cell_Newest.f kj4 t457 a1 a2 a3).bind fun bt460 => ((shardlogref08_Newest.f kj4 t457 a1 a2 a3).bind fun bt467 => ((cell_Sorted.f kj4 l0).bind fun t474 => ((shardlogref08_Sorted.f kj4 l0).bind fun t475 => (if (t474 == t475) = true then ((cell_Sorted.f kj4 t457).bind fun t476 => (if t476 = true then (if (bt460.2.2.2.2.2 == bt467.2.2.2.2.2) = true then (some (bt460.1.toList == bt467.1.toList && (bt460.2.1.toList == bt467.2.1.toList && (bt460.2.2.1 == bt467.2.2.1 && (bt460.2.2.2.1.toList == bt467.2.2.2.1.toList && (bt460.2.2.2.2.1 == bt467.2.2.2.2.1)))))) else (none)) else (none))) else (none)))))) = some r := H
        have A21 := Aside0.mk A210
        clear A210
        replace H := Option.bind_eq_some_iff.mp H
        obtain ⟨⟨t460, t461, t462, t463, t464, t465⟩, A220, H⟩ := H
        replace H : ((shardlogref08_Newest.f kj4 t457 a1 a2 a3).bind fun bt467 => ((cell_Sorted.f kj4 l0).bind fun t474 => ((shardlogref08_Sorted.f kj4 l0).bind fun t475 => (if (t474 == t475) = true then ((cell_Sorted.f kj4 t457).bind fun t476 => (if t476 = true then (if (t465 == bt467.2.2.2.2.2) = true then (some (t460.toList == bt467.1.toList && (t461.toList == bt467.2.1.toList && (t462 == bt467.2.2.1 && (t463.toList == bt467.2.2.2.1.toList && (t464 == bt467.2.2.2.2.1)))))) else (none)) else (none))) else (none))))) = some r := H
        have A22 := Aside0.mk A220
        clear A220
        replace H := Option.bind_eq_some_iff.mp H
        obtain ⟨⟨t467, t468, t469, t470, t471, t472⟩, A230, H⟩ := H
        replace H : ((cell_Sorted.f kj4 l0).bind fun t474 => ((shardlogref08_Sorted.f kj4 l0).bind fun t475 => (if (t474 == t475) = true then ((cell_Sorted.f kj4 t457).bind fun t476 => (if t476 = true then (if (t465 == t472) = true then (some (t460.toList == t467.toList && (t461.toList == t468.toList && (t462 == t469 && (t463.toList == t470.toList && (t464 == t471)))))) else (none)) else (none))) else (none)))) = some r := H
        have A23 := Aside0.mk A230
        clear A230
        replace H := Option.bind_eq_some_iff.mp H
        obtain ⟨t474, A240, H⟩ := H
        replace H : ((shardlogref08_Sorted.f kj4 l0).bind fun t475 => (if (t474 == t475) = true then ((cell_Sorted.f kj4 t457).bind fun t476 => (if t476 = true then (if (t465 == t472) = true then (some (t460.toList == t467.toList && (t461.toList == t468.toList && (t462 == t469 && (t463.toList == t470.toList && (t464 == t471)))))) else (none)) else (none))) else (none))) = some r := H
        have A24 := Aside0.mk A240
        clear A240
        replace H := Option.bind_eq_some_iff.mp H
        obtain ⟨t475, A250, H⟩ := H
        replace H : (if (t474 == t475) = true then ((cell_Sorted.f kj4 t457).bind fun t476 => (if t476 = true then (if (t465 == t472) = true then (some (t460.toList == t467.toList && (t461.toList == t468.toList && (t462 == t469 && (t463.toList == t470.toList && (t464 == t471)))))) else (none)) else (none))) else (none)) = some r := H
        have A25 := Aside0.mk A250
        clear A250
        by_cases c26 : (t474 == t475) = true
        · rw [if_pos c26] at H
          have c26b0 : (t474 == t475) = true := c26
          (try (have c26b1 : decide (t474 = t475) = true := by simpa using c26))
          (try (have c26b2 : (t474 == t475) = true := by simpa using c26))
          clear c26
          replace H := Option.bind_eq_some_iff.mp H
          obtain ⟨t476, A270, H⟩ := H
          replace H : (if t476 = true then (if (t465 == t472) = true then (some (t460.toList == t467.toList && (t461.toList == t468.toList && (t462 == t469 && (t463.toList == t470.toList && (t464 == t471)))))) else (none)) else (none)) = some r := H
          have A27 := Aside0.mk A270
          clear A270
          by_cases c28 : t476 = true
          · subst c28
            have H1 : (if (t465 == t472) = true then (some (t460.toList == t467.toList && (t461.toList == t468.toList && (t462 == t469 && (t463.toList == t470.toList && (t464 == t471)))))) else (none)) = some r := by rw [if_pos rfl] at H; exact H
            clear H
            have H := H1
            clear H1
            by_cases c29 : (t465 == t472) = true
            · rw [if_pos c29] at H
              have c29b0 : (t465 == t472) = true := c29
              (try (have c29b1 : decide (t465 = t472) = true := by simpa using c29))
              (try (have c29b2 : (t465 == t472) = true := by simpa using c29))
              clear c29
              obtain rfl := Option.some.inj H
              go_wp2_with (first | ((with_reducible refine gate_callee (f := 20) rfl ?_); refine goesL_ (some 33) rfl rfl Try.func20 (by kernel_rfl) rfl #[.slice A0 l0.length c0] rfl (by (try simp only [List.map_toArray, List.map_cons, List.map_nil]); first | done | rfl | (simp only [List.length_drop, List.length_take]; rfl)) ?_; (with_reducible refine (shardlogref08_Sort.calls kj4 _ _ l0 t457 _ ?side1 ?side2 A21.out).mono ?_); (case side1 => repeat (first | exact (Kd.C_below HR0.out HB.out) | (with_reducible refine Kd.C_alloc ?_ _) | (with_reducible refine Kd.C_drewN ?_ _) | (with_reducible refine Kd.C_drew ?_))); (case side2 => exact HC0.out); rintro e w30 ⟨v458, rfl, ho0, hb⟩; refine ⟨_, rfl, ?_⟩; have n0_ := Aside0.mk (Kd.R_lower ho0 (below_size (by repeat (first | (with_reducible first | exact HB.out | apply below_alloc | apply pw_below_drewN | apply below_drew1) | exact HB.out)))); have n1_ := Aside0.mk (below_step (by repeat (first | (with_reducible first | exact HB.out | apply below_alloc | apply pw_below_drewN | apply below_drew1) | exact HB.out)) hb); clear HB; have HO459 := n0_; have HB := n1_; clear n0_ n1_; (try clear hb); (try clear hb2); (try clear hk); (try clear hi); (try clear ho0); obtain ⟨Ao31, co31, eo31⟩ := Kd.R_slice HO459.out; subst eo31) | ((with_reducible refine gate_callee (f := 21) rfl ?_); refine goesL_ (some 39) rfl rfl Try.func21 (by kernel_rfl) rfl #[.slice Ao31 t457.length co31, .string a1, .string a2, .int .i64 a3] rfl (by (try simp only [List.map_toArray, List.map_cons, List.map_nil]); first | done | rfl | (simp only [List.length_drop, List.length_take]; rfl)) ?_; (with_reducible refine (cell_Newest.calls kj4 _ _ t457 a1 a2 a3 t460 t461 t462 t463 t464 t465 _ ?side1 ?side2 A22.out).mono ?_); (case side1 => repeat (first | exact (Kd.R_reads' HO459.out).2.2 | (with_reducible refine Kd.C_alloc ?_ _) | (with_reducible refine Kd.C_drewN ?_ _) | (with_reducible refine Kd.C_drew ?_))); (case side2 => exact (Kd.R_reads' HO459.out).2.1); rintro e w32 ⟨rfl, hb⟩; refine ⟨_, rfl, ?_⟩; have n0_ := Aside0.mk (Kd.R_below (by (with_reducible repeat (first | apply Kd.R_alloc | apply Kd.R_drewN | apply Kd.R_drew)); exact HO459.out) hb); have n1_ := Aside0.mk (below_step (by repeat (first | (with_reducible first | exact HB.out | apply below_alloc | apply pw_below_drewN | apply below_drew1) | exact HB.out)) hb); clear HO459; clear HB; have HO459 := n0_; have HB := n1_; clear n0_ n1_; (try clear hb); (try clear hb2); (try clear hk); (try clear hi)) | ((with_reducible refine gate_dst (N := 10) rfl ?_); (try (refine gate_guard (by rfl) ?_; dsimp only)); refine box_event ?hg (N := 10) ?hd (cs := #[.string (⟨#[]⟩ : ByteArray), .string (⟨#[]⟩ : ByteArray), .int .i64 0, .string (⟨#[]⟩ : ByteArray), .bool false]) (t := 23) ?hr ?_; (case hd => rfl); (case hg => rfl); (case hr => first | (go_simp; done) | (go_simp; rfl)); intro gb466 hg w33 hbox hb; have n0_ := Aside0.mk (Kd.R_below (Kd.R_elderB (by (with_reducible repeat (first | apply Kd.R_alloc | apply Kd.R_drewN | apply Kd.R_drew)); exact HO459.out) gb466 (Nat.le_of_eq hg.symm)) hb); have n1_ := Aside0.mk (below_step (by repeat (first | (with_reducible first | exact HB.out | apply below_alloc | apply pw_below_drewN | apply below_drew1) | exact HB.out)) hb); have n2_ := Aside0.mk (hbox); have n3_ := Aside0.mk ((by rw [hg]; exact (below_size (by repeat (first | (with_reducible first | exact HB.out | apply below_alloc | apply pw_below_drewN | apply below_drew1) | exact HB.out))) : w.heap.size ≤ gb466)); have n4_ := Aside0.mk ((by rw [hg]; exact (below_size (by repeat (first | (with_reducible first | exact HB.out | apply below_alloc | apply pw_below_drewN | apply below_drew1) | exact HB.out))) : w.heap.size ≤ gb466)); clear HO459; clear HB; have HO459 := n0_; have HB := n1_; have BK466 := n2_; have GW466 := n3_; have GE466 := n4_; clear n0_ n1_ n2_ n3_ n4_; clear hb hbox hg; have hcz34_0 : w33.cell? ⟨gb466, 0, none⟩ = some (.string (⟨#[]⟩ : ByteArray)) := (blk_cell BK466.out 0).trans rfl; have hcz34_1 : w33.cell? ⟨gb466, 1, none⟩ = some (.string (⟨#[]⟩ : ByteArray)) := (blk_cell BK466.out 1).trans rfl; have hcz34_2 : w33.cell? ⟨gb466, 2, none⟩ = some (.int .i64 0) := (blk_cell BK466.out 2).trans rfl; have hcz34_3 : w33.cell? ⟨gb466, 3, none⟩ = some (.string (⟨#[]⟩ : ByteArray)) := (blk_cell BK466.out 3).trans rfl; have hcz34_4 : w33.cell? ⟨gb466, 4, none⟩ = some (.bool false) := (blk_cell BK466.out 4).trans rfl; have hfz34_0 := blk_frozen BK466.out 0; have hfz34_1 := blk_frozen BK466.out 1; have hfz34_2 := blk_frozen BK466.out 2; have hfz34_3 := blk_frozen BK466.out 3; have hfz34_4 := blk_frozen BK466.out 4) | ((with_reducible refine gate_callee (f := 22) rfl ?_); refine goesL_ (some 47) rfl rfl Try.func22 (by kernel_rfl) rfl #[.slice Ao31 t457.length co31, .string a1, .string a2, .int .i64 a3] rfl (by (try simp only [List.map_toArray, List.map_cons, List.map_nil]); first | done | rfl | (simp only [List.length_drop, List.length_take]; rfl)) ?_; (with_reducible refine (shardlogref08_Newest.calls kj4 _ _ t457 a1 a2 a3 t467 t468 t469 t470 t471 t472 _ ?side1 ?side2 A23.out).mono ?_); (case side1 => refine (Kd.R_reads' (e := 23) (base := w.heap.size) (ok := fun k_ => (True ∧ k_ ≠ gb466)) (n := t457.length) (c := co31) ?_).2.2; exact (by (with_reducible repeat (first | apply Kd.R_alloc | apply Kd.R_drewN | apply Kd.R_drew)); exact (Kd.R_mono (Kd.R_far (p := ⟨gb466, 4, none⟩) (Kd.R_far (p := ⟨gb466, 3, none⟩) (Kd.R_far (p := ⟨gb466, 2, none⟩) (Kd.R_far (p := ⟨gb466, 1, none⟩) (Kd.R_far (p := ⟨gb466, 0, none⟩) (Kd.R_mono HO459.out (fun k_ hk => (⟨hk, hk.2⟩ : _ ∧ k_ ≠ gb466))) (fun _ hk => hk.2) (.string t460)) (fun _ hk => hk.2) (.string t461)) (fun _ hk => hk.2) (.int .i64 t462)) (fun _ hk => hk.2) (.string t463)) (fun _ hk => hk.2) (.bool t464)) (fun _ h_ => h_.1)))); (case side2 => exact (Kd.R_reads' HO459.out).2.1); rintro e w35 ⟨rfl, hb⟩; refine ⟨_, rfl, ?_⟩; have n0_ := Aside0.mk (Kd.R_below (by (with_reducible repeat (first | apply Kd.R_alloc | apply Kd.R_drewN | apply Kd.R_drew)); exact (Kd.R_mono (Kd.R_far (p := ⟨gb466, 4, none⟩) (Kd.R_far (p := ⟨gb466, 3, none⟩) (Kd.R_far (p := ⟨gb466, 2, none⟩) (Kd.R_far (p := ⟨gb466, 1, none⟩) (Kd.R_far (p := ⟨gb466, 0, none⟩) (Kd.R_mono HO459.out (fun k_ hk => (⟨hk, hk.2⟩ : _ ∧ k_ ≠ gb466))) (fun _ hk => hk.2) (.string t460)) (fun _ hk => hk.2) (.string t461)) (fun _ hk => hk.2) (.int .i64 t462)) (fun _ hk => hk.2) (.string t463)) (fun _ hk => hk.2) (.bool t464)) (fun _ h_ => h_.1))) hb); have n1_ := Aside0.mk (blk_below (g := gb466) (o := .cells #[.string t460, .string t461, .int .i64 t462, .string t463, .bool t464] 23 (0, 0)) (by (with_reducible repeat (first | refine blk_drewN ?_ _ | refine blk_drew ?_ | refine blk_alloc ?_ _)); refine blk_put (cs := #[.string t460, .string t461, .int .i64 t462, .string t463, .bool false]) ?_ 4 _ rfl; (with_reducible repeat (first | refine blk_drewN ?_ _ | refine blk_drew ?_ | refine blk_alloc ?_ _)); refine blk_put (cs := #[.string t460, .string t461, .int .i64 t462, .string (⟨#[]⟩ : ByteArray), .bool false]) ?_ 3 _ rfl; (with_reducible repeat (first | refine blk_drewN ?_ _ | refine blk_drew ?_ | refine blk_alloc ?_ _)); refine blk_put (cs := #[.string t460, .string t461, .int .i64 0, .string (⟨#[]⟩ : ByteArray), .bool false]) ?_ 2 _ rfl; (with_reducible repeat (first | refine blk_drewN ?_ _ | refine blk_drew ?_ | refine blk_alloc ?_ _)); refine blk_put (cs := #[.string t460, .string (⟨#[]⟩ : ByteArray), .int .i64 0, .string (⟨#[]⟩ : ByteArray), .bool false]) ?_ 1 _ rfl; (with_reducible repeat (first | refine blk_drewN ?_ _ | refine blk_drew ?_ | refine blk_alloc ?_ _)); refine blk_put (cs := #[.string (⟨#[]⟩ : ByteArray), .string (⟨#[]⟩ : ByteArray), .int .i64 0, .string (⟨#[]⟩ : ByteArray), .bool false]) ?_ 0 _ rfl; (with_reducible repeat (first | refine blk_drewN ?_ _ | refine blk_drew ?_ | refine blk_alloc ?_ _)); exact BK466.out) hb); have n2_ := Aside0.mk (below_step (by repeat (first | (with_reducible first | exact HB.out | apply below_alloc | apply pw_below_drewN | apply below_drew1 | refine below_set ?_ GE466.out) | exact HB.out)) hb); clear HO459; clear BK466; clear HB; have HO459 := n0_; have BK466 := n1_; have HB := n2_; clear n0_ n1_ n2_; (try clear hb); (try clear hb2); (try clear hk); (try clear hi)) | ((with_reducible refine gate_dst (N := 12) rfl ?_); (try (refine gate_guard (by rfl) ?_; dsimp only)); refine box_event ?hg (N := 12) ?hd (cs := #[.string (⟨#[]⟩ : ByteArray), .string (⟨#[]⟩ : ByteArray), .int .i64 0, .string (⟨#[]⟩ : ByteArray), .bool false]) (t := 23) ?hr ?_; (case hd => rfl); (case hg => rfl); (case hr => first | (go_simp; done) | (go_simp; rfl)); intro gb473 hg w36 hbox hb; have n0_ := Aside0.mk (Kd.R_below (Kd.R_elderB (by (with_reducible repeat (first | apply Kd.R_alloc | apply Kd.R_drewN | apply Kd.R_drew)); exact HO459.out) gb473 (Nat.le_of_eq hg.symm)) hb); have n1_ := Aside0.mk (blk_below (g := gb466) (o := .cells #[.string t460, .string t461, .int .i64 t462, .string t463, .bool t464] 23 (0, 0)) (by (with_reducible repeat (first | refine blk_drewN ?_ _ | refine blk_drew ?_ | refine blk_alloc ?_ _)); exact BK466.out) hb); have n2_ := Aside0.mk (below_step (by repeat (first | (with_reducible first | exact HB.out | apply below_alloc | apply pw_below_drewN | apply below_drew1 | refine below_set ?_ GE466.out) | exact HB.out)) hb); have n3_ := Aside0.mk (hbox); have n4_ := Aside0.mk ((by rw [hg]; exact (below_size (by repeat (first | (with_reducible first | exact HB.out | apply below_alloc | apply pw_below_drewN | apply below_drew1 | refine below_set ?_ GE466.out) | exact HB.out))) : w.heap.size ≤ gb473)); have n5_ := Aside0.mk ((by rw [hg]; exact (below_size (by repeat (first | (with_reducible first | exact HB.out | apply below_alloc | apply pw_below_drewN | apply below_drew1 | refine below_set ?_ GE466.out) | exact HB.out))) : w.heap.size ≤ gb473)); have n6_ := Aside0.mk ((by rw [hg]; exact Nat.ne_of_lt (blk_lt (g := gb466) (o := .cells #[.string t460, .string t461, .int .i64 t462, .string t463, .bool t464] 23 (0, 0)) (by (with_reducible repeat (first | refine blk_drewN ?_ _ | refine blk_drew ?_ | refine blk_alloc ?_ _)); exact BK466.out)) : gb466 ≠ gb473)); have n7_ := Aside0.mk ((by rw [hg]; exact Nat.ne_of_gt (blk_lt (g := gb466) (o := .cells #[.string t460, .string t461, .int .i64 t462, .string t463, .bool t464] 23 (0, 0)) (by (with_reducible repeat (first | refine blk_drewN ?_ _ | refine blk_drew ?_ | refine blk_alloc ?_ _)); exact BK466.out)) : gb473 ≠ gb466)); clear HO459; clear BK466; clear HB; have HO459 := n0_; have BK466 := n1_; have HB := n2_; have BK473 := n3_; have GW473 := n4_; have GE473 := n5_; have NB466_473 := n6_; have NB473_466 := n7_; clear n0_ n1_ n2_ n3_ n4_ n5_ n6_ n7_; clear hb hbox hg; have hnb37 := NB473_466.out; have hnc37 := NB466_473.out; have hcz38_0 : w36.cell? ⟨gb473, 0, none⟩ = some (.string (⟨#[]⟩ : ByteArray)) := (blk_cell BK473.out 0).trans rfl; have hcz38_1 : w36.cell? ⟨gb473, 1, none⟩ = some (.string (⟨#[]⟩ : ByteArray)) := (blk_cell BK473.out 1).trans rfl; have hcz38_2 : w36.cell? ⟨gb473, 2, none⟩ = some (.int .i64 0) := (blk_cell BK473.out 2).trans rfl; have hcz38_3 : w36.cell? ⟨gb473, 3, none⟩ = some (.string (⟨#[]⟩ : ByteArray)) := (blk_cell BK473.out 3).trans rfl; have hcz38_4 : w36.cell? ⟨gb473, 4, none⟩ = some (.bool false) := (blk_cell BK473.out 4).trans rfl; have hfz38_0 := blk_frozen BK473.out 0; have hfz38_1 := blk_frozen BK473.out 1; have hfz38_2 := blk_frozen BK473.out 2; have hfz38_3 := blk_frozen BK473.out 3; have hfz38_4 := blk_frozen BK473.out 4) | ((with_reducible refine gate_callee (f := 23) rfl ?_); refine goesL_ (some 51) rfl rfl Try.func23 (by kernel_rfl) rfl #[.slice A0 l0.length c0] rfl (by (try simp only [List.map_toArray, List.map_cons, List.map_nil]); first | done | rfl | (simp only [List.length_drop, List.length_take]; rfl)) ?_; (with_reducible refine (cell_Sorted.calls kj4 _ _ l0 t474 _ ?side1 ?side2 A24.out).mono ?_); (case side1 => exact Kd.C_below HR0.out (by repeat (first | (with_reducible first | exact HB.out | apply below_alloc | apply pw_below_drewN | apply below_drew1 | refine below_set ?_ GE466.out | refine below_set ?_ GE473.out) | exact HB.out))); (case side2 => exact HC0.out); rintro e w39 ⟨rfl, hb⟩; refine ⟨_, rfl, ?_⟩; have n0_ := Aside0.mk (Kd.R_below (by (with_reducible repeat (first | apply Kd.R_alloc | apply Kd.R_drewN | apply Kd.R_drew)); exact (Kd.R_mono (Kd.R_far (p := ⟨gb473, 4, none⟩) (Kd.R_far (p := ⟨gb473, 3, none⟩) (Kd.R_far (p := ⟨gb473, 2, none⟩) (Kd.R_far (p := ⟨gb473, 1, none⟩) (Kd.R_far (p := ⟨gb473, 0, none⟩) (Kd.R_mono HO459.out (fun k_ hk => (⟨hk, hk.2⟩ : _ ∧ k_ ≠ gb473))) (fun _ hk => hk.2) (.string t467)) (fun _ hk => hk.2) (.string t468)) (fun _ hk => hk.2) (.int .i64 t469)) (fun _ hk => hk.2) (.string t470)) (fun _ hk => hk.2) (.bool t471)) (fun _ h_ => h_.1))) hb); have n1_ := Aside0.mk (blk_below (g := gb466) (o := .cells #[.string t460, .string t461, .int .i64 t462, .string t463, .bool t464] 23 (0, 0)) (by (with_reducible repeat (first | refine blk_drewN ?_ _ | refine blk_drew ?_ | refine blk_alloc ?_ _)); refine blk_far ?_ NB466_473.out _; (with_reducible repeat (first | refine blk_drewN ?_ _ | refine blk_drew ?_ | refine blk_alloc ?_ _)); refine blk_far ?_ NB466_473.out _; (with_reducible repeat (first | refine blk_drewN ?_ _ | refine blk_drew ?_ | refine blk_alloc ?_ _)); refine blk_far ?_ NB466_473.out _; (with_reducible repeat (first | refine blk_drewN ?_ _ | refine blk_drew ?_ | refine blk_alloc ?_ _)); refine blk_far ?_ NB466_473.out _; (with_reducible repeat (first | refine blk_drewN ?_ _ | refine blk_drew ?_ | refine blk_alloc ?_ _)); refine blk_far ?_ NB466_473.out _; (with_reducible repeat (first | refine blk_drewN ?_ _ | refine blk_drew ?_ | refine blk_alloc ?_ _)); exact BK466.out) hb); have n2_ := Aside0.mk (blk_below (g := gb473) (o := .cells #[.string t467, .string t468, .int .i64 t469, .string t470, .bool t471] 23 (0, 0)) (by (with_reducible repeat (first | refine blk_drewN ?_ _ | refine blk_drew ?_ | refine blk_alloc ?_ _)); refine blk_put (cs := #[.string t467, .string t468, .int .i64 t469, .string t470, .bool false]) ?_ 4 _ rfl; (with_reducible repeat (first | refine blk_drewN ?_ _ | refine blk_drew ?_ | refine blk_alloc ?_ _)); refine blk_put (cs := #[.string t467, .string t468, .int .i64 t469, .string (⟨#[]⟩ : ByteArray), .bool false]) ?_ 3 _ rfl; (with_reducible repeat (first | refine blk_drewN ?_ _ | refine blk_drew ?_ | refine blk_alloc ?_ _)); refine blk_put (cs := #[.string t467, .string t468, .int .i64 0, .string (⟨#[]⟩ : ByteArray), .bool false]) ?_ 2 _ rfl; (with_reducible repeat (first | refine blk_drewN ?_ _ | refine blk_drew ?_ | refine blk_alloc ?_ _)); refine blk_put (cs := #[.string t467, .string (⟨#[]⟩ : ByteArray), .int .i64 0, .string (⟨#[]⟩ : ByteArray), .bool false]) ?_ 1 _ rfl; (with_reducible repeat (first | refine blk_drewN ?_ _ | refine blk_drew ?_ | refine blk_alloc ?_ _)); refine blk_put (cs := #[.string (⟨#[]⟩ : ByteArray), .string (⟨#[]⟩ : ByteArray), .int .i64 0, .string (⟨#[]⟩ : ByteArray), .bool false]) ?_ 0 _ rfl; (with_reducible repeat (first | refine blk_drewN ?_ _ | refine blk_drew ?_ | refine blk_alloc ?_ _)); exact BK473.out) hb); have n3_ := Aside0.mk (below_step (by repeat (first | (with_reducible first | exact HB.out | apply below_alloc | apply pw_below_drewN | apply below_drew1 | refine below_set ?_ GE466.out | refine below_set ?_ GE473.out) | exact HB.out)) hb); clear HO459; clear BK466; clear BK473; clear HB; have HO459 := n0_; have BK466 := n1_; have BK473 := n2_; have HB := n3_; clear n0_ n1_ n2_ n3_; (try clear hb); (try clear hb2); (try clear hk); (try clear hi)) | ((with_reducible refine gate_callee (f := 24) rfl ?_); refine goesL_ (some 53) rfl rfl Try.func24 (by kernel_rfl) rfl #[.slice A0 l0.length c0] rfl (by (try simp only [List.map_toArray, List.map_cons, List.map_nil]); first | done | rfl | (simp only [List.length_drop, List.length_take]; rfl)) ?_; (with_reducible refine (shardlogref08_Sorted.calls kj4 _ _ l0 t475 _ ?side1 ?side2 A25.out).mono ?_); (case side1 => repeat (first | exact (Kd.C_below HR0.out HB.out) | (with_reducible refine Kd.C_alloc ?_ _) | (with_reducible refine Kd.C_drewN ?_ _) | (with_reducible refine Kd.C_drew ?_))); (case side2 => exact HC0.out); rintro e w40 ⟨rfl, hb⟩; refine ⟨_, rfl, ?_⟩; have n0_ := Aside0.mk (Kd.R_below (by (with_reducible repeat (first | apply Kd.R_alloc | apply Kd.R_drewN | apply Kd.R_drew)); exact HO459.out) hb); have n1_ := Aside0.mk (blk_below (g := gb466) (o := .cells #[.string t460, .string t461, .int .i64 t462, .string t463, .bool t464] 23 (0, 0)) (by (with_reducible repeat (first | refine blk_drewN ?_ _ | refine blk_drew ?_ | refine blk_alloc ?_ _)); exact BK466.out) hb); have n2_ := Aside0.mk (blk_below (g := gb473) (o := .cells #[.string t467, .string t468, .int .i64 t469, .string t470, .bool t471] 23 (0, 0)) (by (with_reducible repeat (first | refine blk_drewN ?_ _ | refine blk_drew ?_ | refine blk_alloc ?_ _)); exact BK473.out) hb); have n3_ := Aside0.mk (below_step (by repeat (first | (with_reducible first | exact HB.out | apply below_alloc | apply pw_below_drewN | apply below_drew1 | refine below_set ?_ GE466.out | refine below_set ?_ GE473.out) | exact HB.out)) hb); clear HO459; clear BK466; clear BK473; clear HB; have HO459 := n0_; have BK466 := n1_; have BK473 := n2_; have HB := n3_; clear n0_ n1_ n2_ n3_; (try clear hb); (try clear hb2); (try clear hk); (try clear hi)) | (go_at_call 23; (with_reducible refine (cell_Sorted.calls kj4 _ _ t457 true _ ?side1 ?side2 A27.out).mono ?_); (case side1 => repeat (first | exact (Kd.R_reads' HO459.out).2.2 | (with_reducible refine Kd.C_alloc ?_ _) | (with_reducible refine Kd.C_drewN ?_ _) | (with_reducible refine Kd.C_drew ?_))); (case side2 => exact (Kd.R_reads' HO459.out).2.1); rintro e w41 ⟨rfl, hb⟩; have n0_ := Aside0.mk (Kd.R_below (by (with_reducible repeat (first | apply Kd.R_alloc | apply Kd.R_drewN | apply Kd.R_drew)); exact HO459.out) hb); have n1_ := Aside0.mk (blk_below (g := gb466) (o := .cells #[.string t460, .string t461, .int .i64 t462, .string t463, .bool t464] 23 (0, 0)) (by (with_reducible repeat (first | refine blk_drewN ?_ _ | refine blk_drew ?_ | refine blk_alloc ?_ _)); exact BK466.out) hb); have n2_ := Aside0.mk (blk_below (g := gb473) (o := .cells #[.string t467, .string t468, .int .i64 t469, .string t470, .bool t471] 23 (0, 0)) (by (with_reducible repeat (first | refine blk_drewN ?_ _ | refine blk_drew ?_ | refine blk_alloc ?_ _)); exact BK473.out) hb); have n3_ := Aside0.mk (below_step (by repeat (first | (with_reducible first | exact HB.out | apply below_alloc | apply pw_below_drewN | apply below_drew1 | refine below_set ?_ GE466.out | refine below_set ?_ GE473.out) | exact HB.out)) hb); clear HO459; clear BK466; clear BK473; clear HB; have HO459 := n0_; have BK466 := n1_; have BK473 := n2_; have HB := n3_; clear n0_ n1_ n2_ n3_; (try clear hb); (try clear hb2); (try clear hk); (try clear hi); have hcz42_0 : w41.cell? ⟨gb466, 0, none⟩ = some (.string t460) := (blk_cell BK466.out 0).trans rfl; have hcz42_1 : w41.cell? ⟨gb466, 1, none⟩ = some (.string t461) := (blk_cell BK466.out 1).trans rfl; have hcz42_2 : w41.cell? ⟨gb466, 2, none⟩ = some (.int .i64 t462) := (blk_cell BK466.out 2).trans rfl; have hcz42_3 : w41.cell? ⟨gb466, 3, none⟩ = some (.string t463) := (blk_cell BK466.out 3).trans rfl; have hcz42_4 : w41.cell? ⟨gb466, 4, none⟩ = some (.bool t464) := (blk_cell BK466.out 4).trans rfl; have hfz42_0 := blk_frozen BK466.out 0; have hfz42_1 := blk_frozen BK466.out 1; have hfz42_2 := blk_frozen BK466.out 2; have hfz42_3 := blk_frozen BK466.out 3; have hfz42_4 := blk_frozen BK466.out 4; have hcz43_0 : w41.cell? ⟨gb473, 0, none⟩ = some (.string t467) := (blk_cell BK473.out 0).trans rfl; have hcz43_1 : w41.cell? ⟨gb473, 1, none⟩ = some (.string t468) := (blk_cell BK473.out 1).trans rfl; have hcz43_2 : w41.cell? ⟨gb473, 2, none⟩ = some (.int .i64 t469) := (blk_cell BK473.out 2).trans rfl; have hcz43_3 : w41.cell? ⟨gb473, 3, none⟩ = some (.string t470) := (blk_cell BK473.out 3).trans rfl; have hcz43_4 : w41.cell? ⟨gb473, 4, none⟩ = some (.bool t471) := (blk_cell BK473.out 4).trans rfl; have hfz43_0 := blk_frozen BK473.out 0; have hfz43_1 := blk_frozen BK473.out 1; have hfz43_2 := blk_frozen BK473.out 2; have hfz43_3 := blk_frozen BK473.out 3; have hfz43_4 := blk_frozen BK473.out 4))
              go_ret
              exact ⟨by first | rfl | (simp [errW_none, errW_some] <;> rfl) | (simp [*, errW_none, errW_some] <;> rfl), by repeat (first | (with_reducible first | exact HB.out | apply below_alloc | apply pw_below_drewN | apply below_drew1 | refine below_set ?_ GE466.out | refine below_set ?_ GE473.out) | exact HB.out)⟩
            · rw [if_neg c29] at H
              exact absurd H (by simp)
          · replace c28 := Bool.eq_false_iff.mpr c28
            subst c28
            have H1 : (none) = some r := by rw [if_neg (show ¬ (false = true) by decide)] at H; exact H
            clear H
            have H := H1
            clear H1
            exact absurd H (by simp)
        · rw [if_neg c26] at H
          exact absurd H (by simp)

/-- THE ONE PURE STATEMENT of shardloglaw08_CellNewest. -/
def shardloglaw08_CellNewest.Pure : Prop := ∀ (l0 : List (S23)) (a1 : ByteArray) (a2 : ByteArray) (a3 : Int), (l0.length ≤ maxLen ∧ l0.length * 64 ≤ 140737488351232 ∧ ∀ y0_ ∈ l0, (y0_.f0.size ≤ 140737488351232 ∧ y0_.f1.size ≤ 140737488351232 ∧ (Lit.int .i64 y0_.f2).wf = true ∧ y0_.f3.size ≤ 140737488351232 ∧ True)) → a1.size ≤ 140737488351232 → a2.size ≤ 140737488351232 → (Lit.int .i64 a3).wf = true → ∃ k, shardloglaw08_CellNewest.f k l0 a1 a2 a3 = some true
theorem shardloglaw08_CellNewest.walk (P : shardloglaw08_CellNewest.Pure) (A0 : Option Addr) (c0 : Nat) (l0 : List (S23)) (a1 : ByteArray) (a2 : ByteArray) (a3 : Int) (w : World) (wf0 : (l0.length ≤ maxLen ∧ l0.length * 64 ≤ 140737488351232 ∧ ∀ y0_ ∈ l0, (y0_.f0.size ≤ 140737488351232 ∧ y0_.f1.size ≤ 140737488351232 ∧ (Lit.int .i64 y0_.f2).wf = true ∧ y0_.f3.size ≤ 140737488351232 ∧ True))) (hr0 : Kd.C k23 w A0 l0.length l0) (hc0 : l0.length ≤ c0) (wf1 : a1.size ≤ 140737488351232) (wf2 : a2.size ≤ 140737488351232) (wf3 : (Lit.int .i64 a3).wf = true) :
    Calls Try.prog 6 #[.slice A0 l0.length c0, .string a1, .string a2, .int .i64 a3] w fun e w' => e = .returned (.bool true) ∧ Below w.heap.size w w' := by
  obtain ⟨k, h⟩ := P l0 a1 a2 a3 wf0 wf1 wf2 wf3
  refine (shardloglaw08_CellNewest.calls k A0 c0 l0 a1 a2 a3 true w hr0 hc0 h).mono ?_
  rintro e w' ⟨rfl, hd⟩
  exact ⟨rfl, hd⟩

end Go.Proofs.Ytpnbknhjnakehaa.X
