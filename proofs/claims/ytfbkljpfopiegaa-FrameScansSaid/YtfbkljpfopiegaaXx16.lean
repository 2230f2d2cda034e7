-- written by a program of this session's, over the kit's print
import Derived.Test.YtfbkljpfopiegaaXx0
import Derived.Test.YtfbkljpfopiegaaXx6
import Derived.Test.YtfbkljpfopiegaaXx7
import Derived.Test.YtfbkljpfopiegaaXx8
import Derived.Test.YtfbkljpfopiegaaXx9
import Derived.Test.YtfbkljpfopiegaaXx14
import Derived.Test.YtfbkljpfopiegaaXx15
namespace Go.Proofs.Ytfbkljpfopiegaa.X
open Go.RowKit Go.Proofs.YtfbkljpfopiegaaW.PrintWords Go.Proofs.YtfbkljpfopiegaaW.PrintLast Go.Proofs.YtfbkljpfopiegaaW.PrintMore
attribute [local go_sem] max2_int min2_int max_two min_two max_three min_three max_four min_four   -- for this text's walks alone
set_option linter.unusedVariables false
set_option linter.unusedSimpArgs false

/-! ### shardloglaw06_FrameScans: function 4 -/
mutual
def shardloglaw06_FrameScans.j0 : Nat → List Int → Bool → Option (Bool)
  | 0, _, _ => none
  | k + 1, x0, x16 => if x16 = true then ((shardloglaw06_awake.f k).bind fun t346 => (some t346)) else ((frame_Scan.f k x0).bind fun bt347 => ((shardlogref06_Scan.f k x0).bind fun bt351 => ((frame_Cut.f k x0).bind fun bt355 => ((shardlogref06_Same.f k bt347.1 bt351.1).bind fun t362 => (if t362 = true then (if bt347.2 = bt351.2 then (shardloglaw06_FrameScans.j1 k x0 bt351.1 bt355.1 bt355.2.1 bt355.2.2 (bt355.2.2 != (decide ((bt351.1.length : Int) > 0)))) else (shardloglaw06_FrameScans.j1 k x0 bt351.1 bt355.1 bt355.2.1 bt355.2.2 true)) else (shardloglaw06_FrameScans.j1 k x0 bt351.1 bt355.1 bt355.2.1 bt355.2.2 true))))))
def shardloglaw06_FrameScans.j1 : Nat → List Int → List (List Int) → List Int → List Int → Bool → Bool → Option (Bool)
  | 0, _, _, _, _, _, _ => none
  | k + 1, x0, x5, x7, x8, x9, x49 => if x49 = true then (none) else (if x9 = true then (if 0 < (x5.length : Int) then ((shardlogref01_Same.f x7 (rd_L1 x5 0)).bind fun t364 => (if t364 = true then (if 0 ≤ (wrap64 (12 + (x7.length : Int))) then (if (wrap64 (12 + (x7.length : Int))) ≤ (x0.length : Int) then ((shardlogref01_Same.f x8 (x0.drop ((wrap64 (12 + (x7.length : Int))) : Int).toNat)).bind fun t369 => (some t369)) else (none)) else (none)) else (none))) else (none)) else (if (x7.length : Int) = 0 then (if (x8.length : Int) = 0 then (some true) else (none)) else (none)))
end
def shardloglaw06_FrameScans.f (k : Nat) (l0 : List Int) : Option (Bool) := (shardloglaw06_awake.f k).bind fun t345 => (if t345 = true then (shardloglaw06_FrameScans.j0 k l0 (decide ((l0.length : Int) > 5000))) else (shardloglaw06_FrameScans.j0 k l0 true))
theorem shardloglaw06_FrameScans.mono_l : ∀ k, (∀ y0 y1, LeO (shardloglaw06_FrameScans.j0 k y0 y1) (shardloglaw06_FrameScans.j0 (k + 1) y0 y1)) ∧ (∀ y0 y1 y2 y3 y4 y5, LeO (shardloglaw06_FrameScans.j1 k y0 y1 y2 y3 y4 y5) (shardloglaw06_FrameScans.j1 (k + 1) y0 y1 y2 y3 y4 y5))
  | 0 => ⟨fun _ _ r h => by simp [shardloglaw06_FrameScans.j0] at h, fun _ _ _ _ _ _ r h => by simp [shardloglaw06_FrameScans.j1] at h⟩
  | k + 1 => by
    obtain ⟨ih0, ih1⟩ := shardloglaw06_FrameScans.mono_l k
    refine ⟨?_, ?_⟩
    · intro y0 y1
      unfold shardloglaw06_FrameScans.j0
      repeat' first
      | (with_reducible exact ih0 _ _)
      | (with_reducible exact ih1 _ _ _ _ _ _)
      | (with_reducible exact frame_Cut.mono _ _)
      | (with_reducible exact frame_Scan.mono _ _)
      | (with_reducible exact shardloglaw06_awake.mono _)
      | (with_reducible exact shardlogref06_Same.mono _ _ _)
      | (with_reducible exact shardlogref06_Scan.mono _ _)
      | (with_reducible exact LeO.refl _)
      | (with_reducible exact LeO.none _)
      | (with_reducible refine LeO.ite ?_ ?_)
      | (with_reducible refine LeO.bind ?_ (fun _ => ?_))
      | exact ih0 _ _
      | exact ih1 _ _ _ _ _ _
      | exact frame_Cut.mono _ _
      | exact frame_Scan.mono _ _
      | exact shardloglaw06_awake.mono _
      | exact shardlogref06_Same.mono _ _ _
      | exact shardlogref06_Scan.mono _ _
      | exact LeO.none _
      | refine LeO.ite ?_ ?_
      | refine LeO.bind ?_ (fun _ => ?_)
    · intro y0 y1 y2 y3 y4 y5
      unfold shardloglaw06_FrameScans.j1
      repeat' first
      | (with_reducible exact ih0 _ _)
      | (with_reducible exact ih1 _ _ _ _ _ _)
      | (with_reducible exact frame_Cut.mono _ _)
      | (with_reducible exact frame_Scan.mono _ _)
      | (with_reducible exact shardloglaw06_awake.mono _)
      | (with_reducible exact shardlogref06_Same.mono _ _ _)
      | (with_reducible exact shardlogref06_Scan.mono _ _)
      | (with_reducible exact LeO.refl _)
      | (with_reducible exact LeO.none _)
      | (with_reducible refine LeO.ite ?_ ?_)
      | (with_reducible refine LeO.bind ?_ (fun _ => ?_))
      | exact ih0 _ _
      | exact ih1 _ _ _ _ _ _
      | exact frame_Cut.mono _ _
      | exact frame_Scan.mono _ _
      | exact shardloglaw06_awake.mono _
      | exact shardlogref06_Same.mono _ _ _
      | exact shardlogref06_Scan.mono _ _
      | exact LeO.none _
      | refine LeO.ite ?_ ?_
      | refine LeO.bind ?_ (fun _ => ?_)
theorem shardloglaw06_FrameScans.mono : ∀ a0 k, LeO (shardloglaw06_FrameScans.f k a0) (shardloglaw06_FrameScans.f (k + 1) a0) := by
  intro a0 k
  obtain ⟨ih0, ih1⟩ := shardloglaw06_FrameScans.mono_l k
  unfold shardloglaw06_FrameScans.f
  repeat' first
      | (with_reducible exact ih0 _ _)
      | (with_reducible exact ih1 _ _ _ _ _ _)
      | (with_reducible exact frame_Cut.mono _ _)
      | (with_reducible exact frame_Scan.mono _ _)
      | (with_reducible exact shardloglaw06_awake.mono _)
      | (with_reducible exact shardlogref06_Same.mono _ _ _)
      | (with_reducible exact shardlogref06_Scan.mono _ _)
      | (with_reducible exact LeO.refl _)
      | (with_reducible exact LeO.none _)
      | (with_reducible refine LeO.ite ?_ ?_)
      | (with_reducible refine LeO.bind ?_ (fun _ => ?_))
      | exact ih0 _ _
      | exact ih1 _ _ _ _ _ _
      | exact frame_Cut.mono _ _
      | exact frame_Scan.mono _ _
      | exact shardloglaw06_awake.mono _
      | exact shardlogref06_Same.mono _ _ _
      | exact shardlogref06_Scan.mono _ _
      | exact LeO.none _
      | refine LeO.ite ?_ ?_
      | refine LeO.bind ?_ (fun _ => ?_)
set_option maxHeartbeats 8000000 in
set_option maxRecDepth 100000 in
theorem shardloglaw06_FrameScans.calls (k : Nat) (A0 : Option Addr) (c0 : Nat) (l0 : List Int) (r : Bool) (w : World) (hr0 : Kd.C (Kd.int .u8) w A0 l0.length l0) (hc0 : l0.length ≤ c0) (h : shardloglaw06_FrameScans.f k l0 = some r) :
    Calls Try.prog 4 #[.slice A0 l0.length c0] w fun e w' => e = .returned (.bool r) ∧ Below w.heap.size w w' := by
  have HR0 := Aside0.mk hr0
  have HC0 := Aside0.mk hc0
  clear hr0 hc0
  have HB := Aside0.mk (Below.refl w.heap.size w)
  have H : ((shardloglaw06_awake.f k).bind fun t345 => (if t345 = true then (shardloglaw06_FrameScans.j0 k l0 (decide ((l0.length : Int) > 5000))) else (shardloglaw06_FrameScans.j0 k l0 true))) = some r := h
  clear h
  have HC2 := Aside0.mk H
  clear H
  go_enter Try.func4, Try.ntmps4
  go_upto_region 1 with (fail)
  go_cut [16] (fun v16 wc => ∃ (kq : Nat) (x16_1 : Bool), v16 = .bool x16_1 ∧ Aside0 (shardloglaw06_FrameScans.j0 kq l0 x16_1 = some r) ∧ Aside0 (kq ≤ k) ∧ Aside0 (Below w.heap.size w wc))
  case first =>
    have H := HC2.out
    clear HC2
    replace H := Option.bind_eq_some_iff.mp H
    obtain ⟨t345, A30, H⟩ := H
    replace H : (if t345 = true then (shardloglaw06_FrameScans.j0 k l0 (decide ((l0.length : Int) > 5000))) else (shardloglaw06_FrameScans.j0 k l0 true)) = some r := H
    have A3 := Aside0.mk A30
    clear A30
    by_cases c4 : t345 = true
    · subst c4
      have H1 : (shardloglaw06_FrameScans.j0 k l0 (decide ((l0.length : Int) > 5000))) = some r := by rw [if_pos rfl] at H; exact H
      clear H
      have H := H1
      clear H1
      have H' := Aside0.mk H
      clear H
      go_wp2_with (first | ((with_reducible refine gate_callee (f := 9) rfl ?_); refine goesL_ (some 10) rfl rfl Try.func9 (by kernel_rfl) rfl #[] rfl (by (try simp only [List.map_toArray, List.map_cons, List.map_nil]); first | done | rfl | (simp only [List.length_drop, List.length_take]; rfl)) ?_; (with_reducible refine (shardloglaw06_awake.calls k  true _ A3.out).mono ?_); rintro e w5 ⟨rfl, hb⟩; refine ⟨_, rfl, ?_⟩; have n0_ := Aside0.mk (below_step (by repeat (first | (with_reducible first | exact HB.out | apply below_alloc | apply pw_below_drewN | apply below_drew1) | exact HB.out)) hb); clear HB; have HB := n0_; clear n0_; (try clear hb); (try clear hb2); (try clear hk); (try clear hi)))
      go_meet
      case rel => exact ⟨_, (decide ((l0.length : Int) > 5000)), (by first | rfl | (simp; done) | (simp [*]; done) | (simp; exact (by decide : ∀ a_ b_ : Bool, (a_ == b_) = (!a_ != b_)) _ _)), H', ⟨by first | omega | exact Nat.le_refl _⟩, ⟨by repeat (first | (with_reducible first | exact HB.out | apply below_alloc | apply pw_below_drewN | apply below_drew1) | exact HB.out)⟩⟩
    · replace c4 := Bool.eq_false_iff.mpr c4
      subst c4
      have H1 : (shardloglaw06_FrameScans.j0 k l0 true) = some r := by rw [if_neg (show ¬ (false = true) by decide)] at H; exact H
      clear H
      have H := H1
      clear H1
      have H' := Aside0.mk H
      clear H
      go_wp2_with (first | ((with_reducible refine gate_callee (f := 9) rfl ?_); refine goesL_ (some 10) rfl rfl Try.func9 (by kernel_rfl) rfl #[] rfl (by (try simp only [List.map_toArray, List.map_cons, List.map_nil]); first | done | rfl | (simp only [List.length_drop, List.length_take]; rfl)) ?_; (with_reducible refine (shardloglaw06_awake.calls k  false _ A3.out).mono ?_); rintro e w6 ⟨rfl, hb⟩; refine ⟨_, rfl, ?_⟩; have n0_ := Aside0.mk (below_step (by repeat (first | (with_reducible first | exact HB.out | apply below_alloc | apply pw_below_drewN | apply below_drew1) | exact HB.out)) hb); clear HB; have HB := n0_; clear n0_; (try clear hb); (try clear hb2); (try clear hk); (try clear hi)))
      go_meet
      case rel => exact ⟨_, (true), (by first | rfl | (simp; done) | (simp [*]; done) | (simp; exact (by decide : ∀ a_ b_ : Bool, (a_ == b_) = (!a_ != b_)) _ _)), H', ⟨by first | omega | exact Nat.le_refl _⟩, ⟨by repeat (first | (with_reducible first | exact HB.out | apply below_alloc | apply pw_below_drewN | apply below_drew1) | exact HB.out)⟩⟩
  case rest =>
    clear HC2
    try clear p2
    try clear c4
    obtain ⟨kq, x16_1, rfl, HA, HJ1, HB⟩ := hcut
    cases kq with
    | zero => exact absurd HA.out (by simp [shardloglaw06_FrameScans.j0])
    | succ kj1 =>
      have H := HA.out
      clear HA
      simp only [shardloglaw06_FrameScans.j0] at H
      by_cases c7 : x16_1 = true
      · subst c7
        have H1 : ((shardloglaw06_awake.f kj1).bind fun t346 => (some t346)) = some r := by rw [if_pos rfl] at H; exact H
        clear H
        have H := H1
        clear H1
        replace H := Option.bind_eq_some_iff.mp H
        obtain ⟨t346, A80, H⟩ := H
        replace H : (some t346) = some r := H
        have A8 := Aside0.mk A80
        clear A80
        obtain rfl := Option.some.inj H
        go_wp2_with (first | ((with_reducible refine gate_callee (f := 9) rfl ?_); refine goesL_ (some 17) rfl rfl Try.func9 (by kernel_rfl) rfl #[] rfl (by (try simp only [List.map_toArray, List.map_cons, List.map_nil]); first | done | rfl | (simp only [List.length_drop, List.length_take]; rfl)) ?_; (with_reducible refine (shardloglaw06_awake.calls kj1  t346 _ A8.out).mono ?_); rintro e w9 ⟨rfl, hb⟩; refine ⟨_, rfl, ?_⟩; have n0_ := Aside0.mk (below_step (by repeat (first | (with_reducible first | exact HB.out | apply below_alloc | apply pw_below_drewN | apply below_drew1) | exact HB.out)) hb); clear HB; have HB := n0_; clear n0_; (try clear hb); (try clear hb2); (try clear hk); (try clear hi)))
        go_ret
        exact ⟨by first | rfl | (simp [errW_none, errW_some] <;> rfl) | (simp [*, errW_none, errW_some] <;> rfl), by repeat (first | (with_reducible first | exact HB.out | apply below_alloc | apply pw_below_drewN | apply below_drew1) | exact HB.out)⟩
      · replace c7 := Bool.eq_false_iff.mpr c7
        subst c7
        have H1 : ((frame_Scan.f kj1 l0).bind fun bt347 => ((shardlogref06_Scan.f kj1 l0).bind fun bt351 => ((frame_Cut.f kj1 l0).bind fun bt355 => ((shardlogref06_Same.f kj1 bt347.1 bt351.1).bind fun t362 => (if t362 = true then (if bt347.2 = bt351.2 then (shardloglaw06_FrameScans.j1 kj1 l0 bt351.1 bt355.1 bt355.2.1 bt355.2.2 (bt355.2.2 != (decide ((bt351.1.length : Int) > 0)))) else (shardloglaw06_FrameScans.j1 kj1 l0 bt351.1 bt355.1 bt355.2.1 bt355.2.2 true)) else (shardloglaw06_FrameScans.j1 kj1 l0 bt351.1 bt355.1 bt355.2.1 bt355.2.2 true)))))) = some r := by rw [if_neg (show ¬ (false = true) by decide)] at H; exact H
        clear H
        have H := H1
        clear H1
        replace H := Option.bind_eq_some_iff.mp H
        obtain ⟨⟨t347, t350⟩, A100, H⟩ := H
        replace H : ((shardlogref06_Scan.f kj1 l0).bind fun bt351 => ((frame_Cut.f kj1 l0).bind fun bt355 => ((shardlogref06_Same.f kj1 t347 bt351.1).bind fun t362 => (if t362 = true then (if t350 = bt351.2 then (shardloglaw06_FrameScans.j1 kj1 l0 bt351.1 bt355.1 bt355.2.1 bt355.2.2 (bt355.2.2 != (decide ((bt351.1.length : Int) > 0)))) else (shardloglaw06_FrameScans.j1 kj1 l0 bt351.1 bt355.1 bt355.2.1 bt355.2.2 true)) else (shardloglaw06_FrameScans.j1 kj1 l0 bt351.1 bt355.1 bt355.2.1 bt355.2.2 true))))) = some r := H
        have A10 := Aside0.mk A100
        clear A100
        replace H := Option.bind_eq_some_iff.mp H
        obtain ⟨⟨t351, t352⟩, A110, H⟩ := H
        replace H : ((frame_Cut.f kj1 l0).bind fun bt355 => ((shardlogref06_Same.f kj1 t347 t351).bind fun t362 => (if t362 = true then (if t350 = t352 then (shardloglaw06_FrameScans.j1 kj1 l0 t351 bt355.1 bt355.2.1 bt355.2.2 (bt355.2.2 != (decide ((t351.length : Int) > 0)))) else (shardloglaw06_FrameScans.j1 kj1 l0 t351 bt355.1 bt355.2.1 bt355.2.2 true)) else (shardloglaw06_FrameScans.j1 kj1 l0 t351 bt355.1 bt355.2.1 bt355.2.2 true)))) = some r := H
        have A11 := Aside0.mk A110
        clear A110
        replace H := Option.bind_eq_some_iff.mp H
        obtain ⟨⟨t355, t358, t361⟩, A120, H⟩ := H
        replace H : ((shardlogref06_Same.f kj1 t347 t351).bind fun t362 => (if t362 = true then (if t350 = t352 then (shardloglaw06_FrameScans.j1 kj1 l0 t351 t355 t358 t361 (t361 != (decide ((t351.length : Int) > 0)))) else (shardloglaw06_FrameScans.j1 kj1 l0 t351 t355 t358 t361 true)) else (shardloglaw06_FrameScans.j1 kj1 l0 t351 t355 t358 t361 true))) = some r := H
        have A12 := Aside0.mk A120
        clear A120
        have HC13 := Aside0.mk H
        clear H
        go_upto_region 6 with (first | ((with_reducible refine gate_callee (f := 15) rfl ?_); refine goesL_ (some 20) rfl rfl Try.func15 (by kernel_rfl) rfl #[.slice A0 l0.length c0] rfl (by (try simp only [List.map_toArray, List.map_cons, List.map_nil]); first | done | rfl | (simp only [List.length_drop, List.length_take]; rfl)) ?_; (with_reducible refine (frame_Scan.calls kj1 (fun k_ => k_ < w.heap.size) _ _ l0 t347 t350 _ ?side1 A10.out).mono ?_); (case side1 => exact Kd.V_mk HC0.out (Kd.F_below (Kd.C_F (Kd.heap_int .u8) HR0.out) (by repeat (first | (with_reducible first | exact HB.out | apply below_alloc | apply pw_below_drewN | apply below_drew1) | exact HB.out)))); rintro e w14 ⟨v348, rfl, ho0, hb⟩; refine ⟨_, rfl, ?_⟩; have n0_ := Aside0.mk (Kd.N_lower (Kd.N_mono (ok' := fun k_ => True) ho0 (fun k_ hk_ => trivial)) (below_size (by repeat (first | (with_reducible first | exact HB.out | apply below_alloc | apply pw_below_drewN | apply below_drew1) | exact HB.out)))); have n1_ := Aside0.mk (below_step (by repeat (first | (with_reducible first | exact HB.out | apply below_alloc | apply pw_below_drewN | apply below_drew1) | exact HB.out)) hb); clear HB; have HO349 := n0_; have HB := n1_; clear n0_ n1_; (try clear hb); (try clear hb2); (try clear hk); (try clear hi); (try clear ho0)) | ((with_reducible refine gate_callee (f := 16) rfl ?_); refine goesL_ (some 25) rfl rfl Try.func16 (by kernel_rfl) rfl #[.slice A0 l0.length c0] rfl (by (try simp only [List.map_toArray, List.map_cons, List.map_nil]); first | done | rfl | (simp only [List.length_drop, List.length_take]; rfl)) ?_; (with_reducible refine (shardlogref06_Scan.calls kj1 _ _ l0 t351 t352 _ ?side1 ?side2 A11.out).mono ?_); (case side1 => repeat (first | exact (Kd.C_below HR0.out HB.out) | (with_reducible refine Kd.C_alloc ?_ _) | (with_reducible refine Kd.C_drewN ?_ _) | (with_reducible refine Kd.C_drew ?_))); (case side2 => exact HC0.out); rintro e w15 ⟨v353, rfl, ho0, hb⟩; refine ⟨_, rfl, ?_⟩; have n0_ := Aside0.mk (Kd.N_elder' (by (with_reducible repeat (first | apply Kd.N_alloc | apply Kd.N_drewN | apply Kd.N_drew)); exact HO349.out) (by first | exact Kd.N_base ho0 | exact Kd.S_base ho0 | exact Kd.R_base ho0 | exact Kd.V_base ho0) hb); have n1_ := Aside0.mk (Kd.N_lower (Kd.N_mono (ok' := fun k_ => some k_ ≠ (v348 : Value).ownBlock) (Kd.S_N (Kd.S_bound ho0)) (fun k_ hk_ => (Kd.fresh' (Kd.N_lt (by (with_reducible repeat (first | apply Kd.N_alloc | apply Kd.N_drewN | apply Kd.N_drew)); exact HO349.out)) k_ hk_.2.1))) (below_size (by repeat (first | (with_reducible first | exact HB.out | apply below_alloc | apply pw_below_drewN | apply below_drew1) | exact HB.out)))); have n2_ := Aside0.mk (below_step (by repeat (first | (with_reducible first | exact HB.out | apply below_alloc | apply pw_below_drewN | apply below_drew1) | exact HB.out)) hb); clear HO349; clear HB; have HO349 := n0_; have HO354 := n1_; have HB := n2_; clear n0_ n1_ n2_; (try clear hb); (try clear hb2); (try clear hk); (try clear hi); (try clear ho0)) | ((with_reducible refine gate_callee (f := 17) rfl ?_); refine goesL_ (some 30) rfl rfl Try.func17 (by kernel_rfl) rfl #[.slice A0 l0.length c0] rfl (by (try simp only [List.map_toArray, List.map_cons, List.map_nil]); first | done | rfl | (simp only [List.length_drop, List.length_take]; rfl)) ?_; (with_reducible refine (frame_Cut.calls kj1 (fun k_ => k_ < w.heap.size) _ _ l0 t355 t358 t361 _ ?side1 A12.out).mono ?_); (case side1 => exact Kd.V_mk HC0.out (Kd.F_below (Kd.C_F (Kd.heap_int .u8) HR0.out) (by repeat (first | (with_reducible first | exact HB.out | apply below_alloc | apply pw_below_drewN | apply below_drew1) | exact HB.out)))); rintro e w16 ⟨v356, v359, rfl, ho0, ho1, hb⟩; refine ⟨_, rfl, ?_⟩; have n0_ := Aside0.mk (Kd.N_below (by (with_reducible repeat (first | apply Kd.N_alloc | apply Kd.N_drewN | apply Kd.N_drew)); exact HO349.out) hb); have n1_ := Aside0.mk (Kd.N_below (by (with_reducible repeat (first | apply Kd.N_alloc | apply Kd.N_drewN | apply Kd.N_drew)); exact HO354.out) hb); have n2_ := Aside0.mk (Kd.V_lower (Kd.V_mono (ok' := fun k_ => some k_ ≠ (v348 : Value).ownBlock ∧ some k_ ≠ (v353 : Value).ownBlock) ho0 (fun k_ hk_ => ⟨Or.elim hk_ (fun hs_ => fun e_ => Nat.not_le.2 hs_ (Kd.N_base HO349.out k_ e_.symm)) (fun hn_ => (Kd.fresh' (Kd.N_lt (by (with_reducible repeat (first | apply Kd.N_alloc | apply Kd.N_drewN | apply Kd.N_drew)); exact HO349.out)) k_ hn_)), Or.elim hk_ (fun hs_ => fun e_ => Nat.not_le.2 hs_ (Kd.N_base HO354.out k_ e_.symm)) (fun hn_ => (Kd.fresh' (Kd.N_lt (by (with_reducible repeat (first | apply Kd.N_alloc | apply Kd.N_drewN | apply Kd.N_drew)); exact HO354.out)) k_ hn_))⟩)) (below_size (by repeat (first | (with_reducible first | exact HB.out | apply below_alloc | apply pw_below_drewN | apply below_drew1) | exact HB.out)))); have n3_ := Aside0.mk (Kd.V_lower (Kd.V_mono (ok' := fun k_ => some k_ ≠ (v348 : Value).ownBlock ∧ some k_ ≠ (v353 : Value).ownBlock) ho1 (fun k_ hk_ => ⟨Or.elim hk_ (fun hs_ => fun e_ => Nat.not_le.2 hs_ (Kd.N_base HO349.out k_ e_.symm)) (fun hn_ => (Kd.fresh' (Kd.N_lt (by (with_reducible repeat (first | apply Kd.N_alloc | apply Kd.N_drewN | apply Kd.N_drew)); exact HO349.out)) k_ hn_)), Or.elim hk_ (fun hs_ => fun e_ => Nat.not_le.2 hs_ (Kd.N_base HO354.out k_ e_.symm)) (fun hn_ => (Kd.fresh' (Kd.N_lt (by (with_reducible repeat (first | apply Kd.N_alloc | apply Kd.N_drewN | apply Kd.N_drew)); exact HO354.out)) k_ hn_))⟩)) (below_size (by repeat (first | (with_reducible first | exact HB.out | apply below_alloc | apply pw_below_drewN | apply below_drew1) | exact HB.out)))); have n4_ := Aside0.mk (below_step (by repeat (first | (with_reducible first | exact HB.out | apply below_alloc | apply pw_below_drewN | apply below_drew1) | exact HB.out)) hb); clear HO349; clear HO354; clear HB; have HO349 := n0_; have HO354 := n1_; have HO357 := n2_; have HO360 := n3_; have HB := n4_; clear n0_ n1_ n2_ n3_ n4_; (try clear hb); (try clear hb2); (try clear hk); (try clear hi); (try clear ho0); (try clear ho1)))
        (try simp only [Act.put, List.setIfInBounds_toArray, List.set_cons_zero, List.set_cons_succ])
        go_cut [49] (fun v49 wc => ∃ (kq : Nat) (x49_12 : Bool), v49 = .bool x49_12 ∧ Aside0 (shardloglaw06_FrameScans.j1 kq l0 t351 t355 t358 t361 x49_12 = some r) ∧ Aside0 (kq ≤ kj1) ∧ Aside0 (Kd.N (Kd.slice 5 (Kd.int .u8)) 25 wc w.heap.size (fun _ => True) v353 t351) ∧ Aside0 (Kd.V (Kd.int .u8) 5 wc w.heap.size (fun k_ => some k_ ≠ (v353 : Value).ownBlock) v356 t355) ∧ Aside0 (Kd.V (Kd.int .u8) 5 wc w.heap.size (fun k_ => some k_ ≠ (v353 : Value).ownBlock) v359 t358) ∧ Aside0 (Below w.heap.size w wc))
        case first =>
          have H := HC13.out
          clear HC13
          replace H := Option.bind_eq_some_iff.mp H
          obtain ⟨t362, A170, H⟩ := H
          replace H : (if t362 = true then (if t350 = t352 then (shardloglaw06_FrameScans.j1 kj1 l0 t351 t355 t358 t361 (t361 != (decide ((t351.length : Int) > 0)))) else (shardloglaw06_FrameScans.j1 kj1 l0 t351 t355 t358 t361 true)) else (shardloglaw06_FrameScans.j1 kj1 l0 t351 t355 t358 t361 true)) = some r := H
          have A17 := Aside0.mk A170
          clear A170
          by_cases c18 : t362 = true
          · subst c18
            have H1 : (if t350 = t352 then (shardloglaw06_FrameScans.j1 kj1 l0 t351 t355 t358 t361 (t361 != (decide ((t351.length : Int) > 0)))) else (shardloglaw06_FrameScans.j1 kj1 l0 t351 t355 t358 t361 true)) = some r := by rw [if_pos rfl] at H; exact H
            clear H
            have H := H1
            clear H1
            by_cases c19 : t350 = t352
            · rw [if_pos c19] at H
              have c19b0 : (t350 == t352) = true := beq_iff_eq.mpr c19
              have c19b1 : (t350 != t352) = false := bne_eq_false_iff_eq.mpr c19
              clear c19
              (first | rw [c19b0] | (simp only [i64_w, i32_w]; rw [c19b0]) | skip)
              have H' := Aside0.mk H
              clear H
              obtain ⟨Ao20, co20, eo20⟩ := Kd.N_slice HO349.out
              subst eo20
              obtain ⟨Ao21, co21, eo21⟩ := Kd.N_slice HO354.out
              subst eo21
              go_wp2_with (first | ((with_reducible refine gate_callee (f := 18) rfl ?_); refine goesL_ (some 36) rfl rfl Try.func18 (by kernel_rfl) rfl #[.slice Ao20 t347.length co20, .slice Ao21 t351.length co21] rfl (by (try simp only [List.map_toArray, List.map_cons, List.map_nil]); first | done | rfl | (simp only [List.length_drop, List.length_take]; rfl)) ?_; (with_reducible refine (shardlogref06_Same.calls kj1 _ _ t347 _ _ t351 true _ ?side1 ?side2 ?side3 ?side4 A17.out).mono ?_); (case side1 => repeat (first | exact (Kd.N_reads' HO349.out).2.2 | (with_reducible refine Kd.C_alloc ?_ _) | (with_reducible refine Kd.C_drewN ?_ _) | (with_reducible refine Kd.C_drew ?_))); (case side2 => exact (Kd.N_reads' HO349.out).2.1); (case side3 => repeat (first | exact (Kd.N_reads' HO354.out).2.2 | (with_reducible refine Kd.C_alloc ?_ _) | (with_reducible refine Kd.C_drewN ?_ _) | (with_reducible refine Kd.C_drew ?_))); (case side4 => exact (Kd.N_reads' HO354.out).2.1); rintro e w' ⟨rfl, ⟨nd, rfl⟩⟩; refine ⟨_, rfl, ?_⟩))
              go_meet
              case rel => exact ⟨_, ((t361 != (decide ((t351.length : Int) > 0)))), (by first | rfl | (simp; done) | (simp [*]; done) | (simp; exact (by decide : ∀ a_ b_ : Bool, (a_ == b_) = (!a_ != b_)) _ _)), H', ⟨by have := HJ1.out; first | omega | exact Nat.le_refl _⟩, ⟨by (with_reducible repeat (first | apply Kd.N_alloc | apply Kd.N_drewN | apply Kd.N_drew)); exact Kd.N_mono HO354.out (fun _ hk => trivial)⟩, ⟨by (with_reducible repeat (first | apply Kd.V_alloc | apply Kd.V_drewN | apply Kd.V_drew)); exact Kd.V_mono HO357.out (fun _ hk => hk.2)⟩, ⟨by (with_reducible repeat (first | apply Kd.V_alloc | apply Kd.V_drewN | apply Kd.V_drew)); exact Kd.V_mono HO360.out (fun _ hk => hk.2)⟩, ⟨by repeat (first | (with_reducible first | exact HB.out | apply below_alloc | apply pw_below_drewN | apply below_drew1) | exact HB.out)⟩⟩
            · rw [if_neg c19] at H
              have c19b0 : (t350 == t352) = false := beq_eq_false_iff_ne.mpr c19
              have c19b1 : (t350 != t352) = true := bne_iff_ne.mpr c19
              (first | rw [c19b0] | (simp only [i64_w, i32_w]; rw [c19b0]) | skip)
              have H' := Aside0.mk H
              clear H
              obtain ⟨Ao22, co22, eo22⟩ := Kd.N_slice HO349.out
              subst eo22
              obtain ⟨Ao23, co23, eo23⟩ := Kd.N_slice HO354.out
              subst eo23
              go_wp2_with (first | ((with_reducible refine gate_callee (f := 18) rfl ?_); refine goesL_ (some 36) rfl rfl Try.func18 (by kernel_rfl) rfl #[.slice Ao22 t347.length co22, .slice Ao23 t351.length co23] rfl (by (try simp only [List.map_toArray, List.map_cons, List.map_nil]); first | done | rfl | (simp only [List.length_drop, List.length_take]; rfl)) ?_; (with_reducible refine (shardlogref06_Same.calls kj1 _ _ t347 _ _ t351 true _ ?side1 ?side2 ?side3 ?side4 A17.out).mono ?_); (case side1 => repeat (first | exact (Kd.N_reads' HO349.out).2.2 | (with_reducible refine Kd.C_alloc ?_ _) | (with_reducible refine Kd.C_drewN ?_ _) | (with_reducible refine Kd.C_drew ?_))); (case side2 => exact (Kd.N_reads' HO349.out).2.1); (case side3 => repeat (first | exact (Kd.N_reads' HO354.out).2.2 | (with_reducible refine Kd.C_alloc ?_ _) | (with_reducible refine Kd.C_drewN ?_ _) | (with_reducible refine Kd.C_drew ?_))); (case side4 => exact (Kd.N_reads' HO354.out).2.1); rintro e w' ⟨rfl, ⟨nd, rfl⟩⟩; refine ⟨_, rfl, ?_⟩))
              go_meet
              case rel => exact ⟨_, (true), (by first | rfl | (simp; done) | (simp [*]; done) | (simp; exact (by decide : ∀ a_ b_ : Bool, (a_ == b_) = (!a_ != b_)) _ _)), H', ⟨by have := HJ1.out; first | omega | exact Nat.le_refl _⟩, ⟨by (with_reducible repeat (first | apply Kd.N_alloc | apply Kd.N_drewN | apply Kd.N_drew)); exact Kd.N_mono HO354.out (fun _ hk => trivial)⟩, ⟨by (with_reducible repeat (first | apply Kd.V_alloc | apply Kd.V_drewN | apply Kd.V_drew)); exact Kd.V_mono HO357.out (fun _ hk => hk.2)⟩, ⟨by (with_reducible repeat (first | apply Kd.V_alloc | apply Kd.V_drewN | apply Kd.V_drew)); exact Kd.V_mono HO360.out (fun _ hk => hk.2)⟩, ⟨by repeat (first | (with_reducible first | exact HB.out | apply below_alloc | apply pw_below_drewN | apply below_drew1) | exact HB.out)⟩⟩
          · replace c18 := Bool.eq_false_iff.mpr c18
            subst c18
            have H1 : (shardloglaw06_FrameScans.j1 kj1 l0 t351 t355 t358 t361 true) = some r := by rw [if_neg (show ¬ (false = true) by decide)] at H; exact H
            clear H
            have H := H1
            clear H1
            have H' := Aside0.mk H
            clear H
            obtain ⟨Ao24, co24, eo24⟩ := Kd.N_slice HO349.out
            subst eo24
            obtain ⟨Ao25, co25, eo25⟩ := Kd.N_slice HO354.out
            subst eo25
            go_wp2_with (first | ((with_reducible refine gate_callee (f := 18) rfl ?_); refine goesL_ (some 36) rfl rfl Try.func18 (by kernel_rfl) rfl #[.slice Ao24 t347.length co24, .slice Ao25 t351.length co25] rfl (by (try simp only [List.map_toArray, List.map_cons, List.map_nil]); first | done | rfl | (simp only [List.length_drop, List.length_take]; rfl)) ?_; (with_reducible refine (shardlogref06_Same.calls kj1 _ _ t347 _ _ t351 false _ ?side1 ?side2 ?side3 ?side4 A17.out).mono ?_); (case side1 => repeat (first | exact (Kd.N_reads' HO349.out).2.2 | (with_reducible refine Kd.C_alloc ?_ _) | (with_reducible refine Kd.C_drewN ?_ _) | (with_reducible refine Kd.C_drew ?_))); (case side2 => exact (Kd.N_reads' HO349.out).2.1); (case side3 => repeat (first | exact (Kd.N_reads' HO354.out).2.2 | (with_reducible refine Kd.C_alloc ?_ _) | (with_reducible refine Kd.C_drewN ?_ _) | (with_reducible refine Kd.C_drew ?_))); (case side4 => exact (Kd.N_reads' HO354.out).2.1); rintro e w' ⟨rfl, ⟨nd, rfl⟩⟩; refine ⟨_, rfl, ?_⟩))
            go_meet
            case rel => exact ⟨_, (true), (by first | rfl | (simp; done) | (simp [*]; done) | (simp; exact (by decide : ∀ a_ b_ : Bool, (a_ == b_) = (!a_ != b_)) _ _)), H', ⟨by have := HJ1.out; first | omega | exact Nat.le_refl _⟩, ⟨by (with_reducible repeat (first | apply Kd.N_alloc | apply Kd.N_drewN | apply Kd.N_drew)); exact Kd.N_mono HO354.out (fun _ hk => trivial)⟩, ⟨by (with_reducible repeat (first | apply Kd.V_alloc | apply Kd.V_drewN | apply Kd.V_drew)); exact Kd.V_mono HO357.out (fun _ hk => hk.2)⟩, ⟨by (with_reducible repeat (first | apply Kd.V_alloc | apply Kd.V_drewN | apply Kd.V_drew)); exact Kd.V_mono HO360.out (fun _ hk => hk.2)⟩, ⟨by repeat (first | (with_reducible first | exact HB.out | apply below_alloc | apply pw_below_drewN | apply below_drew1) | exact HB.out)⟩⟩
        case rest =>
          clear HC13
          try clear c1
          try clear p2
          try clear c4
          try clear c7
          try clear c9
          try clear c15
          try clear c16
          try clear c17
          try clear c18
          try clear c19
          try clear c19b0
          try clear c19b1
          try clear p2
          obtain ⟨kq, x49_12, rfl, HA, HJ12, HO_5, HO_7, HO_8, HB⟩ := hcut
          cases kq with
          | zero => exact absurd HA.out (by simp [shardloglaw06_FrameScans.j1])
          | succ kj12 =>
            have H := HA.out
            clear HA
            simp only [shardloglaw06_FrameScans.j1] at H
            by_cases c26 : x49_12 = true
            · subst c26
              have H1 : (none) = some r := by rw [if_pos rfl] at H; exact H
              clear H
              have H := H1
              clear H1
              exact absurd H (by simp)
            · replace c26 := Bool.eq_false_iff.mpr c26
              subst c26
              have H1 : (if t361 = true then (if 0 < (t351.length : Int) then ((shardlogref01_Same.f t355 (rd_L1 t351 0)).bind fun t364 => (if t364 = true then (if 0 ≤ (wrap64 (12 + (t355.length : Int))) then (if (wrap64 (12 + (t355.length : Int))) ≤ (l0.length : Int) then ((shardlogref01_Same.f t358 (l0.drop ((wrap64 (12 + (t355.length : Int))) : Int).toNat)).bind fun t369 => (some t369)) else (none)) else (none)) else (none))) else (none)) else (if (t355.length : Int) = 0 then (if (t358.length : Int) = 0 then (some true) else (none)) else (none))) = some r := by rw [if_neg (show ¬ (false = true) by decide)] at H; exact H
              clear H
              have H := H1
              clear H1
              by_cases c27 : t361 = true
              · subst c27
                have H1 : (if 0 < (t351.length : Int) then ((shardlogref01_Same.f t355 (rd_L1 t351 0)).bind fun t364 => (if t364 = true then (if 0 ≤ (wrap64 (12 + (t355.length : Int))) then (if (wrap64 (12 + (t355.length : Int))) ≤ (l0.length : Int) then ((shardlogref01_Same.f t358 (l0.drop ((wrap64 (12 + (t355.length : Int))) : Int).toNat)).bind fun t369 => (some t369)) else (none)) else (none)) else (none))) else (none)) = some r := by rw [if_pos rfl] at H; exact H
                clear H
                have H := H1
                clear H1
                by_cases c28 : 0 < (t351.length : Int)
                · rw [if_pos c28] at H
                  have c28b0 : decide (0 < (t351.length : Int)) = true := decide_eq_true c28
                  have c28b1 : decide (0 < t351.length) = true := decide_eq_true (by omega)
                  clear c28
                  replace H := Option.bind_eq_some_iff.mp H
                  obtain ⟨t364, A290, H⟩ := H
                  replace H : (if t364 = true then (if 0 ≤ (wrap64 (12 + (t355.length : Int))) then (if (wrap64 (12 + (t355.length : Int))) ≤ (l0.length : Int) then ((shardlogref01_Same.f t358 (l0.drop ((wrap64 (12 + (t355.length : Int))) : Int).toNat)).bind fun t369 => (some t369)) else (none)) else (none)) else (none)) = some r := H
                  have A29 := Aside0.mk A290
                  clear A290
                  by_cases c30 : t364 = true
                  · subst c30
                    have H1 : (if 0 ≤ (wrap64 (12 + (t355.length : Int))) then (if (wrap64 (12 + (t355.length : Int))) ≤ (l0.length : Int) then ((shardlogref01_Same.f t358 (l0.drop ((wrap64 (12 + (t355.length : Int))) : Int).toNat)).bind fun t369 => (some t369)) else (none)) else (none)) = some r := by rw [if_pos rfl] at H; exact H
                    clear H
                    have H := H1
                    clear H1
                    obtain ⟨ji31, hji31⟩ : ∃ j_ : Int, (wrap64 (12 + (t355.length : Int))) = j_ := ⟨_, rfl⟩
                    replace H : (if 0 ≤ (ji31) then (if (ji31) ≤ (l0.length : Int) then ((shardlogref01_Same.f t358 (l0.drop ((ji31) : Int).toNat)).bind fun t369 => (some t369)) else (none)) else (none)) = some r := by first | (rw [hji31] at H; exact H) | (simp only [hji31] at H ⊢; exact H)
                    (try rw [hji31] at A29)
                    have hji31w : (IntKind.i64.wrap (12 + (t355.length : Int))) = ji31 := (i64_w _).trans hji31
                    by_cases c32 : 0 ≤ (ji31)
                    · rw [if_pos c32] at H
                      have c32b0 := eq_true c32
                      have c32b1 : decide (0 ≤ (ji31)) = true := decide_eq_true c32
                      clear c32
                      by_cases c33 : (ji31) ≤ (l0.length : Int)
                      · rw [if_pos c33] at H
                        have c33b0 := eq_true c33
                        have c33b1 : decide ((ji31) ≤ (l0.length : Int)) = true := decide_eq_true c33
                        clear c33
                        obtain ⟨y365, hy365⟩ : ∃ y_ : List Int, y_ = (l0.drop ((ji31) : Int).toNat) := ⟨_, rfl⟩
                        replace H : ((shardlogref01_Same.f t358 y365).bind fun t369 => (some t369)) = some r := by first | (rw [hy365]; with_reducible exact H) | (have H2_ := (Option.bind_some _ _).symm.trans H; rw [hy365]; with_reducible exact H2_) | (have H2_ := (Option.bind_some _ _).symm.trans H; with_reducible exact H2_) | with_reducible exact H | (rw [hy365]; exact H) | exact H
                        have Ny365 := Aside0.mk hy365
                        clear hy365
                        replace H := Option.bind_eq_some_iff.mp H
                        obtain ⟨t369, A340, H⟩ := H
                        replace H : (some t369) = some r := H
                        have A34 := Aside0.mk A340
                        clear A340
                        obtain rfl := Option.some.inj H
                        obtain ⟨Ao35, co35, eo35⟩ := Kd.N_slice HO_5.out
                        subst eo35
                        have p363 : 0 ≤ (0 : Int) := (by omega)
                        have q363 : 0 < (t351.length : Int) := of_decide_eq_true (by first | (with_reducible assumption) | assumption)
                        obtain ⟨ad363, A363_0, c363_0, e363, hx363_0, hl363_0, hi363_0⟩ := at_L1 (Kd.N_reads' HO_5.out).2.2 0 p363 q363
                        cases e363
                        obtain ⟨ce363, hce363, hMe363, hcc363⟩ := Kd.N_get HO_5.out [] 0 p363 (by first | exact q363 | exact of_decide_eq_true (by first | (with_reducible assumption) | assumption) | (have e_ := (Kd.N_reads' HO_5.out).1; omega))
                        obtain ⟨ua363_0, uc363_0, rfl, ul363_0, ge363_0⟩ := Kd.FK_slice_open hMe363
                        have hv363_0 := hcc363 0 _ rfl
                        rw [Nat.add_zero, show ((Kd.slice 5 (Kd.int .u8))).sz = 1 from rfl, Nat.mul_one] at hv363_0
                        replace hv363_0 := Option.some.inj (hv363_0.symm.trans hx363_0)
                        injection hv363_0 with hva_ hvn_ hvc_
                        rw [hva_] at ge363_0
                        rw [hvc_] at ul363_0
                        have HL363_0 := Aside0.mk (show Kd.V (Kd.int .u8) 5 _ w.heap.size _ _ (rd_L1 t351 0) from Kd.V_mk ul363_0 ge363_0)
                        clear hva_ hvn_ hvc_ ge363_0 ul363_0
                        clear hcc363 hce363
                        have qi363 : (0 < t351.length) = True := eq_true (by omega)
                        (try rw [show ((0 : Int)).toNat = 0 from rfl] at hx363_0)
                        (try rw [Addr.add_zero'] at hx363_0)
                        have HR363_0 := Aside0.mk hi363_0
                        have HC363_0 := Aside0.mk hl363_0
                        clear hi363_0 hl363_0
                        replace p363 := eq_true p363
                        replace q363 := eq_true q363
                        obtain ⟨Ao36, co36, eo36⟩ := Kd.V_slice HO_7.out
                        subst eo36
                        go_wp2_with (first | (go_at_call 11; (with_reducible refine (shardlogref01_Same.calls _ _ t355 _ _ (rd_L1 t351 0) true _ ?side1 ?side2 ?side3 ?side4 A29.out).mono ?_); (case side1 => repeat (first | exact (Kd.V_reads' HO_7.out).2.2 | (with_reducible refine Kd.C_alloc ?_ _) | (with_reducible refine Kd.C_drewN ?_ _) | (with_reducible refine Kd.C_drew ?_))); (case side2 => exact (Kd.V_reads' HO_7.out).2.1); (case side3 => repeat (first | exact (by repeat (first | (with_reducible exact HR363_0.out) | (with_reducible refine Kd.C_alloc ?_ _) | (with_reducible refine Kd.C_drewN ?_ _) | (with_reducible refine Kd.C_drew ?_) | exact HR363_0.out)) | (with_reducible refine Kd.C_alloc ?_ _) | (with_reducible refine Kd.C_drewN ?_ _) | (with_reducible refine Kd.C_drew ?_))); (case side4 => exact HC363_0.out); rintro e w' ⟨rfl, ⟨nd, rfl⟩⟩; have q37 : ((ji31) : Int) ≤ ((l0.length : Int) : Int) := of_decide_eq_true (by first | (with_reducible assumption) | assumption); obtain ⟨i037, hi037, _, hsz37, _⟩ := info_parts info5; have hroom37 : l0.length ≤ c0 := HC0.out; have hC37 : Kd.C (Kd.int .u8) _ A0 l0.length l0 := HR0.out; have q037 : (0 : Int) ≤ ((ji31) : Int) := of_decide_eq_true (by first | (with_reducible assumption) | assumption); have hcut37 := cut_from (P := Try.prog) 25 5 .i64 Try.underlying25 hi037 1 hsz37 A0 l0.length c0 (ji31) q037 q37; have hr37 := Kd.C_drop (m := ((ji31) : Int).toNat) (c := c0) hC37 (by omega) hroom37; obtain ⟨A37, hA37⟩ : ∃ A1, A1 = (if c0 = ((ji31) : Int).toNat then A0 else (A0 : Option Addr).map (·.add (((ji31) : Int).toNat * 1))) := ⟨_, rfl⟩; obtain ⟨c37, hc37⟩ : ∃ c1, c1 = c0 - ((ji31) : Int).toNat := ⟨_, rfl⟩; have hy37 : y365.length = l0.length - ((ji31) : Int).toNat := (by rw [Ny365.out, List.length_drop] <;> omega); rw [show (l0).drop ((ji31) : Int).toNat = y365 from Ny365.out.symm] at hr37; replace hr37 : Kd.C (Kd.int .u8) _ A37 y365.length y365 := (by rw [hA37]; exact hr37); rw [← hy37, ← hA37, ← hc37] at hcut37; have HR368 := Aside0.mk hr37; have HC368 := Aside0.mk (show y365.length ≤ c37 from by rw [hy37, hc37]; exact Nat.sub_le_sub_right hroom37 _); clear hr37 hC37 hroom37 hi037 hsz37 hc37; have KY37 := Aside0.mk hy37; have KA37 := Aside0.mk hA37; clear hy37 hA37; replace q37 := eq_true q37; obtain ⟨Ao38, co38, eo38⟩ := Kd.V_slice HO_8.out; subst eo38) | (go_at_call 11; (with_reducible refine (shardlogref01_Same.calls _ _ t358 _ _ y365 t369 _ ?side1 ?side2 ?side3 ?side4 A34.out).mono ?_); (case side1 => repeat (first | exact (Kd.V_reads' HO_8.out).2.2 | (with_reducible refine Kd.C_alloc ?_ _) | (with_reducible refine Kd.C_drewN ?_ _) | (with_reducible refine Kd.C_drew ?_))); (case side2 => exact (Kd.V_reads' HO_8.out).2.1); (case side3 => repeat (first | exact (Kd.C_below HR368.out (by repeat (first | (with_reducible first | exact HB.out | apply below_alloc | apply pw_below_drewN | apply below_drew1) | exact HB.out))) | (with_reducible refine Kd.C_alloc ?_ _) | (with_reducible refine Kd.C_drewN ?_ _) | (with_reducible refine Kd.C_drew ?_))); (case side4 => exact HC368.out); rintro e w' ⟨rfl, ⟨nd, rfl⟩⟩))
                        go_ret
                        exact ⟨by first | rfl | (simp [errW_none, errW_some] <;> rfl) | (simp only [← hji31]; first | rfl | (simp [errW_none, errW_some] <;> rfl)) | (simp [*, errW_none, errW_some] <;> rfl), by repeat (first | (with_reducible first | exact HB.out | apply below_alloc | apply pw_below_drewN | apply below_drew1) | exact HB.out)⟩
                      · rw [if_neg c33] at H
                        exact absurd H (by simp)
                    · rw [if_neg c32] at H
                      exact absurd H (by simp)
                  · replace c30 := Bool.eq_false_iff.mpr c30
                    subst c30
                    have H1 : (none) = some r := by rw [if_neg (show ¬ (false = true) by decide)] at H; exact H
                    clear H
                    have H := H1
                    clear H1
                    exact absurd H (by simp)
                · rw [if_neg c28] at H
                  exact absurd H (by simp)
              · replace c27 := Bool.eq_false_iff.mpr c27
                subst c27
                have H1 : (if (t355.length : Int) = 0 then (if (t358.length : Int) = 0 then (some true) else (none)) else (none)) = some r := by rw [if_neg (show ¬ (false = true) by decide)] at H; exact H
                clear H
                have H := H1
                clear H1
                by_cases c39 : (t355.length : Int) = 0
                · rw [if_pos c39] at H
                  have c39b0 : ((t355.length : Int) == 0) = true := beq_iff_eq.mpr c39
                  have c39b1 : ((t355.length : Int) != 0) = false := bne_eq_false_iff_eq.mpr c39
                  clear c39
                  by_cases c40 : (t358.length : Int) = 0
                  · rw [if_pos c40] at H
                    have c40b0 : ((t358.length : Int) == 0) = true := beq_iff_eq.mpr c40
                    have c40b1 : ((t358.length : Int) != 0) = false := bne_eq_false_iff_eq.mpr c40
                    clear c40
                    obtain rfl := Option.some.inj H
                    obtain ⟨Ao41, co41, eo41⟩ := Kd.V_slice HO_7.out
                    subst eo41
                    obtain ⟨Ao42, co42, eo42⟩ := Kd.V_slice HO_8.out
                    subst eo42
                    go_wp2
                    go_ret
                    exact ⟨by first | rfl | (simp [errW_none, errW_some] <;> rfl) | (simp [*, errW_none, errW_some] <;> rfl), by repeat (first | (with_reducible first | exact HB.out | apply below_alloc | apply pw_below_drewN | apply below_drew1) | exact HB.out)⟩
                  · rw [if_neg c40] at H
                    exact absurd H (by simp)
                · rw [if_neg c39] at H
                  exact absurd H (by simp)

/-- THE ONE PURE STATEMENT of shardloglaw06_FrameScans. -/
def shardloglaw06_FrameScans.Pure : Prop := ∀ (l0 : List Int), (l0.length ≤ maxLen ∧ l0.length * 1 ≤ 140737488351232 ∧ ∀ y0_ ∈ l0, (Lit.int .u8 y0_).wf = true) → ∃ k, shardloglaw06_FrameScans.f k l0 = some true
theorem shardloglaw06_FrameScans.walk (P : shardloglaw06_FrameScans.Pure) (A0 : Option Addr) (c0 : Nat) (l0 : List Int) (w : World) (wf0 : (l0.length ≤ maxLen ∧ l0.length * 1 ≤ 140737488351232 ∧ ∀ y0_ ∈ l0, (Lit.int .u8 y0_).wf = true)) (hr0 : Kd.C (Kd.int .u8) w A0 l0.length l0) (hc0 : l0.length ≤ c0) :
    Calls Try.prog 4 #[.slice A0 l0.length c0] w fun e w' => e = .returned (.bool true) ∧ Below w.heap.size w w' := by
  obtain ⟨k, h⟩ := P l0 wf0
  refine (shardloglaw06_FrameScans.calls k A0 c0 l0 true w hr0 hc0 h).mono ?_
  rintro e w' ⟨rfl, hd⟩
  exact ⟨rfl, hd⟩

end Go.Proofs.Ytfbkljpfopiegaa.X
