-- written by a program of this session's, over the kit's print
import Derived.Test.YtinhpolmanccgaaXx0
import Derived.Test.YtinhpolmanccgaaXx11
import Derived.Test.YtinhpolmanccgaaXx12
namespace Go.Proofs.Ytinhpolmanccgaa.X
open Go.RowKit Go.Proofs.YtinhpolmanccgaaW.PrintWords Go.Proofs.YtinhpolmanccgaaW.PrintLast Go.Proofs.YtinhpolmanccgaaW.PrintMore
attribute [local go_sem] max2_int min2_int max_two min_two max_three min_three max_four min_four gtr_str   -- for this text's walks alone
set_option linter.unusedVariables false
set_option linter.unusedSimpArgs false

/-! ### shardlogref08_Sort: function 11 -/
def shardlogref08_Sort.l0 : Nat → List (S42) → List (S42) → Int → Option ((List (S42)))
 | 0, _, _, _ => none
 | k + 1, x0, x3, x4 => if x4 < (x0.length : Int) then (if 0 ≤ x4 then ((shardlogref08_Put1.f k x3 ((rd_T42 x0 x4).f0) ((rd_T42 x0 x4).f1) ((rd_T42 x0 x4).f2) ((rd_T42 x0 x4).f3) ((rd_T42 x0 x4).f4)).bind fun t559 => (shardlogref08_Sort.l0 k x0 t559 (wrap64 (x4 + 1)))) else (none)) else (some x3)
def shardlogref08_Sort.f (k : Nat) (l0 : List (S42)) : Option ((List (S42))) := shardlogref08_Sort.l0 k l0 ([] : List (S42)) 0
theorem shardlogref08_Sort.mono_l : ∀ k, (∀ y0 y1 y2, LeO (shardlogref08_Sort.l0 k y0 y1 y2) (shardlogref08_Sort.l0 (k + 1) y0 y1 y2))
 | 0 => fun _ _ _ r h => by simp [shardlogref08_Sort.l0] at h
 | k + 1 => by
  have ih0 := shardlogref08_Sort.mono_l k
  ·
   intro y0 y1 y2
   unfold shardlogref08_Sort.l0
   repeat' first
   | (with_reducible exact ih0 _ _ _)
   | (with_reducible exact shardlogref08_Put1.mono _ _ _ _ _ _ _)
   | (with_reducible exact LeO.refl _)
   | (with_reducible exact LeO.none _)
   | (with_reducible refine LeO.ite ?_ ?_)
   | (with_reducible refine LeO.bind ?_ (fun _ => ?_))
   | exact LeO.none _
   | refine LeO.ite ?_ ?_
   | refine LeO.bind ?_ (fun _ => ?_)
theorem shardlogref08_Sort.mono : ∀ a0 k, LeO (shardlogref08_Sort.f k a0) (shardlogref08_Sort.f (k + 1) a0) := by
 intro a0 k
 have ih0 := shardlogref08_Sort.mono_l k
 unfold shardlogref08_Sort.f
 repeat' first
   | (with_reducible exact ih0 _ _ _)
   | (with_reducible exact shardlogref08_Put1.mono _ _ _ _ _ _ _)
   | (with_reducible exact LeO.refl _)
   | (with_reducible exact LeO.none _)
   | (with_reducible refine LeO.ite ?_ ?_)
   | (with_reducible refine LeO.bind ?_ (fun _ => ?_))
   | exact LeO.none _
   | refine LeO.ite ?_ ?_
   | refine LeO.bind ?_ (fun _ => ?_)
set_option maxHeartbeats 8000000 in
set_option maxRecDepth 100000 in
theorem shardlogref08_Sort.calls (k : Nat) (A0 : Option Addr) (c0 : Nat) (l0 : List (S42)) (r : List (S42)) (w : World) (hr0 : Kd.C k42 w A0 l0.length l0) (hc0 : l0.length ≤ c0) (h : shardlogref08_Sort.f k l0 = some r) :
  Calls Try.prog 11 #[.slice A0 l0.length c0] w fun e w' => ∃ v0_ : Value, e = .returned (v0_) ∧ Kd.R k42 42 w' w.heap.size (fun _ => True) v0_ r ∧ Below w.heap.size w w' := by
 have hu42 := Try.underlying42; have HR0 := aS hr0; have HC0 := aS hc0; clear hr0 hc0; have HB := aS (Below.refl w.heap.size w); have H : (shardlogref08_Sort.l0 k l0 ([] : List (S42)) 0) = some r := h; clear h
 have H' := aS H
 clear H
 go_enter Try.func11, Try.ntmps11
 go_wp2
 go_loopg [3, 4] k (fun kq v3 v4 w' => ∃ (x3_1 : List (S42)) (x4_1 : Int), v4 = .int .i64 x4_1 ∧ Aside0 (shardlogref08_Sort.l0 kq l0 x3_1 x4_1 = some r) ∧ Aside0 (kq ≤ k) ∧ Aside0 (Kd.R k42 42 w' w.heap.size (fun _ => True) v3 x3_1) ∧ Aside0 (Below w.heap.size w w'))
 case atStart => exact ⟨(([] : List (S42))), (0), srf, H', ⟨Nat.le_refl _⟩, ⟨by first | exact Kd.R_nil _ _ _ _ _ | exact Kd.N_nil _ _ _ _ _ | exact Kd.V_nil _ _ _ _ _ | exact Kd.Q_nil _ _ _ _ _ | exact Kd.S_nil _ _ _ _ _⟩, ⟨bel⟩⟩
 case round =>
  clear H'; obtain ⟨x3_1, x4_1, rfl, HA, HK1, HO_3, HB⟩ := hrel
  cases gk with
  | zero => exact absurd HA.out (by simp [shardlogref08_Sort.l0])
  | succ k1 =>
   have H := HA.out; clear HA
   simp only [shardlogref08_Sort.l0] at H
   by_cases c2 : x4_1 < (l0.length : Int)
   ·
    rw [if_pos c2] at H; have c2b0 : decide (x4_1 < (l0.length : Int)) = true := decide_eq_true c2; clear c2
    by_cases c3 : 0 ≤ x4_1
    ·
     rw [if_pos c3] at H; have c3b0 : decide (0 ≤ x4_1) = true := decide_eq_true c3; clear c3; replace H := obm H; obtain ⟨t559, A40, H⟩ := H; replace H : (shardlogref08_Sort.l0 k1 l0 t559 (wrap64 (x4_1 + 1))) = some r := H; have A4 := aS A40; clear A40
     have H' := aS H
     clear H; have p558 : 0 ≤ (x4_1 : Int) := oda; have q558 : x4_1 < (l0.length : Int) := oda; obtain ⟨ad558, e558, hx558_0, hx558_1, hx558_2, hx558_3, hx558_4⟩ := at_T42 HR0.out x4_1 p558 q558; cases e558; replace hx558_0 := bx bel hx558_0; replace hx558_1 := bx bel hx558_1; replace hx558_2 := bx bel hx558_2; replace hx558_3 := bx bel hx558_3; replace hx558_4 := bx bel hx558_4; replace p558 := eq_true p558; replace q558 := eq_true q558; obtain ⟨Ao5, co5, eo5⟩ := Kd.R_slice HO_3.out; subst eo5
     go_wp2_with (first | ((with_reducible refine gate_callee (f := 28) rfl ?_); refine goesL_ (some 16) rfl rfl Try.func28 (by kernel_rfl) rfl #[.slice Ao5 x3_1.length co5, .agg #[.string ((rd_T42 l0 x4_1).f0), .string ((rd_T42 l0 x4_1).f1), .int .i64 ((rd_T42 l0 x4_1).f2), .string ((rd_T42 l0 x4_1).f3), .bool ((rd_T42 l0 x4_1).f4)]] rfl agn ?_; (with_reducible refine (shardlogref08_Put1.calls k1 _ _ x3_1 ((rd_T42 l0 x4_1).f0) ((rd_T42 l0 x4_1).f1) ((rd_T42 l0 x4_1).f2) ((rd_T42 l0 x4_1).f3) ((rd_T42 l0 x4_1).f4) t559 _ ?side1 ?side2 A4.out).mono ?_); (case side1 => exact cel ((Kd.R_reads' HO_3.out).2.2)); (case side2 => exact (Kd.R_reads' HO_3.out).2.1); rintro e w6 ⟨v560, rfl, ho0, hb⟩; refine ⟨_, rfl, ?_⟩; have HO561 := aS (Kd.R_lower (Kd.R_new' ho0 (Kd.R_lt (rel HO_3.out))) (below_size bel)); replace HO_3 := aS (Kd.R_elder' (rel HO_3.out) (ebs ho0) hb); replace HB := bstep hb; (try clear hb); (try clear hk); (try clear hi); (try clear ho0)))
     go_roundg k1
     case measure => have := HK1.out; omega
     case rel => exact ⟨(t559), (wrap64 (x4_1 + 1)), srf, H', ⟨by have := HK1.out; omega⟩, ⟨by (with_reducible repeat (first | apply Kd.R_alloc | apply Kd.R_drewN | apply Kd.R_drew)); exact Kd.R_mono HO561.out (fun _ hk => trivial)⟩, ⟨bel⟩⟩
    ·
     rw [if_neg c3] at H; exact absurd H (by simp)
   ·
    rw [if_neg c2] at H; have c2b0 : decide (x4_1 < (l0.length : Int)) = false := decide_eq_false c2; clear c2
    obtain rfl := Option.some.inj H
    go_wp2
    go_ret
    exact ⟨_, rf3, by (with_reducible repeat (first | apply Kd.R_alloc | apply Kd.R_drewN | apply Kd.R_drew)); exact HO_3.out, bel⟩

/-! ### shardlogref08_Sorted: function 13 -/
mutual
def shardlogref08_Sorted.l0 : Nat → List (S42) → Int → Option (Bool)
 | 0, _, _ => none
 | k + 1, x0, x3 => if x3 < (x0.length : Int) then (if 0 ≤ x3 then ((shardlogref08_Right.f ((rd_T42 x0 x3).f0) ((rd_T42 x0 x3).f1) ((rd_T42 x0 x3).f2) ((rd_T42 x0 x3).f3) ((rd_T42 x0 x3).f4)).bind fun t563 => (if t563 = true then (if x3 > 0 then (if 0 ≤ (wrap64 (x3 - 1)) then (if (wrap64 (x3 - 1)) < (x0.length : Int) then ((shardlogref08_Compare.f k ((rd_T42 x0 (wrap64 (x3 - 1))).f0) ((rd_T42 x0 (wrap64 (x3 - 1))).f1) ((rd_T42 x0 (wrap64 (x3 - 1))).f2) ((rd_T42 x0 (wrap64 (x3 - 1))).f3) ((rd_T42 x0 (wrap64 (x3 - 1))).f4) ((rd_T42 x0 x3).f0) ((rd_T42 x0 x3).f1) ((rd_T42 x0 x3).f2) ((rd_T42 x0 x3).f3) ((rd_T42 x0 x3).f4)).bind fun t566 => (shardlogref08_Sorted.j1 k x0 x3 (t566 != (-1)))) else (none)) else (none)) else (shardlogref08_Sorted.j1 k x0 x3 false)) else (shardlogref08_Sorted.j1 k x0 x3 true))) else (none)) else (some true)
def shardlogref08_Sorted.j1 : Nat → List (S42) → Int → Bool → Option (Bool)
 | 0, _, _, _ => none
 | k + 1, x0, x3, x32 => if x32 = true then (some false) else (shardlogref08_Sorted.l0 k x0 (wrap64 (x3 + 1)))
end
def shardlogref08_Sorted.f (k : Nat) (l0 : List (S42)) : Option (Bool) := shardlogref08_Sorted.l0 k l0 0
theorem shardlogref08_Sorted.mono_l : ∀ k, (∀ y0 y1, LeO (shardlogref08_Sorted.l0 k y0 y1) (shardlogref08_Sorted.l0 (k + 1) y0 y1)) ∧ (∀ y0 y1 y2, LeO (shardlogref08_Sorted.j1 k y0 y1 y2) (shardlogref08_Sorted.j1 (k + 1) y0 y1 y2))
 | 0 => ⟨fun _ _ r h => by simp [shardlogref08_Sorted.l0] at h, fun _ _ _ r h => by simp [shardlogref08_Sorted.j1] at h⟩
 | k + 1 => by
  obtain ⟨ih0, ih1⟩ := shardlogref08_Sorted.mono_l k; refine ⟨?_, ?_⟩
  ·
   intro y0 y1
   unfold shardlogref08_Sorted.l0
   repeat' first
   | (with_reducible exact ih0 _ _)
   | (with_reducible exact ih1 _ _ _)
   | (with_reducible exact shardlogref08_Compare.mono _ _ _ _ _ _ _ _ _ _ _)
   | (with_reducible exact LeO.refl _)
   | (with_reducible exact LeO.none _)
   | (with_reducible refine LeO.ite ?_ ?_)
   | (with_reducible refine LeO.bind ?_ (fun _ => ?_))
   | exact LeO.none _
   | refine LeO.ite ?_ ?_
   | refine LeO.bind ?_ (fun _ => ?_)
  ·
   intro y0 y1 y2
   unfold shardlogref08_Sorted.j1
   repeat' first
   | (with_reducible exact ih0 _ _)
   | (with_reducible exact ih1 _ _ _)
   | (with_reducible exact shardlogref08_Compare.mono _ _ _ _ _ _ _ _ _ _ _)
   | (with_reducible exact LeO.refl _)
   | (with_reducible exact LeO.none _)
   | (with_reducible refine LeO.ite ?_ ?_)
   | (with_reducible refine LeO.bind ?_ (fun _ => ?_))
   | exact LeO.none _
   | refine LeO.ite ?_ ?_
   | refine LeO.bind ?_ (fun _ => ?_)
theorem shardlogref08_Sorted.mono : ∀ a0 k, LeO (shardlogref08_Sorted.f k a0) (shardlogref08_Sorted.f (k + 1) a0) := by
 intro a0 k
 obtain ⟨ih0, ih1⟩ := shardlogref08_Sorted.mono_l k
 unfold shardlogref08_Sorted.f
 repeat' first
   | (with_reducible exact ih0 _ _)
   | (with_reducible exact ih1 _ _ _)
   | (with_reducible exact shardlogref08_Compare.mono _ _ _ _ _ _ _ _ _ _ _)
   | (with_reducible exact LeO.refl _)
   | (with_reducible exact LeO.none _)
   | (with_reducible refine LeO.ite ?_ ?_)
   | (with_reducible refine LeO.bind ?_ (fun _ => ?_))
   | exact LeO.none _
   | refine LeO.ite ?_ ?_
   | refine LeO.bind ?_ (fun _ => ?_)
def shardlogref08_Sorted.T4 : Bool × List (List Nat × List Nat) := (true, [([], []), ([], []), ([0, 1], [0, 1]), ([2], [2]), ([3], [3]), ([4], [4]), ([5, 4], [5]), ([6], [6]), ([7, 6], [6, 7]), ([8, 6, 6], [6, 8]), ([9], [9]), ([9], [9]), ([11, 9], [9, 11]), ([10, 12, 9], [9, 10, 12]), ([13, 9], [9, 13]), ([9], [9]), ([9], [9]), ([15, 16, 9], [9, 15, 16]), ([17, 9], [9, 17]), ([14, 18, 9, 9], [9, 14, 18]), ([19, 9], [9, 19]), ([9, 20, 6], [6, 9, 20]), ([6, 21], [6, 21])])
def shardlogref08_Sorted.B4 : List Nat := [0, 0, 3, 7, 15, 31, 63, 127, 255, 511, 1023, 1023, 3071, 8191, 16383, 1023, 1023, 99327, 230399, 524287, 1048575, 2097151, 4194303]
theorem shardlogref08_Sorted.tab4 : rtab .any (opsOf Try.f13 4) = shardlogref08_Sorted.T4 := by kernel_rfl
theorem shardlogref08_Sorted.bits4 : waitsOk shardlogref08_Sorted.T4.2 shardlogref08_Sorted.B4 = true := by kernel_rfl
set_option maxHeartbeats 8000000 in
set_option maxRecDepth 100000 in
theorem shardlogref08_Sorted.calls (k : Nat) (A0 : Option Addr) (c0 : Nat) (l0 : List (S42)) (r : Bool) (w : World) (hr0 : Kd.C k42 w A0 l0.length l0) (hc0 : l0.length ≤ c0) (h : shardlogref08_Sorted.f k l0 = some r) :
  Calls Try.prog 13 #[.slice A0 l0.length c0] w fun e w' => e = .returned (.bool r) ∧ Below w.heap.size w w' := by
 have hu42 := Try.underlying42; have HR0 := aS hr0; have HC0 := aS hc0; clear hr0 hc0; have HB := aS (Below.refl w.heap.size w); have H : (shardlogref08_Sorted.l0 k l0 0) = some r := h; clear h
 have H' := aS H
 clear H
 go_enter Try.func13, Try.ntmps13
 go_wp2
 go_loopg [3] k (fun kq v3 w' => ∃ (x3_1 : Int), v3 = .int .i64 x3_1 ∧ Aside0 (shardlogref08_Sorted.l0 kq l0 x3_1 = some r) ∧ Aside0 (kq ≤ k) ∧ Aside0 (Below w.heap.size w w'))
 case atStart => exact ⟨(0), srf, H', ⟨Nat.le_refl _⟩, ⟨bel⟩⟩
 case round =>
  clear H'; obtain ⟨x3_1, rfl, HA, HK1, HB⟩ := hrel
  cases gk with
  | zero => exact absurd HA.out (by simp [shardlogref08_Sorted.l0])
  | succ k1 =>
   have H := HA.out; clear HA
   simp only [shardlogref08_Sorted.l0] at H
   by_cases c2 : x3_1 < (l0.length : Int)
   ·
    rw [if_pos c2] at H; have c2b0 : decide (x3_1 < (l0.length : Int)) = true := decide_eq_true c2; clear c2; have HC3 := aS H; clear H
    go_upto_region 4 with (fail)
    go_cut [32] (fun v32 wc => ∃ (kq : Nat) (x32_2 : Bool), v32 = .bool x32_2 ∧ Aside0 (shardlogref08_Sorted.j1 kq l0 x3_1 x32_2 = some r) ∧ Aside0 (kq ≤ k1) ∧ Aside0 (Below w.heap.size w wc))
    case first =>
     have H := HC3.out; clear HC3
     by_cases c4 : 0 ≤ x3_1
     ·
      rw [if_pos c4] at H; have c4b0 : decide (0 ≤ x3_1) = true := decide_eq_true c4; clear c4
      (first | rw [c4b0] | (simp only [i64_w, i32_w]; rw [c4b0]) | skip)
      replace H := obm H; obtain ⟨t563, A50, H⟩ := H; replace H : (if t563 = true then (if x3_1 > 0 then (if 0 ≤ (wrap64 (x3_1 - 1)) then (if (wrap64 (x3_1 - 1)) < (l0.length : Int) then ((shardlogref08_Compare.f k1 ((rd_T42 l0 (wrap64 (x3_1 - 1))).f0) ((rd_T42 l0 (wrap64 (x3_1 - 1))).f1) ((rd_T42 l0 (wrap64 (x3_1 - 1))).f2) ((rd_T42 l0 (wrap64 (x3_1 - 1))).f3) ((rd_T42 l0 (wrap64 (x3_1 - 1))).f4) ((rd_T42 l0 x3_1).f0) ((rd_T42 l0 x3_1).f1) ((rd_T42 l0 x3_1).f2) ((rd_T42 l0 x3_1).f3) ((rd_T42 l0 x3_1).f4)).bind fun t566 => (shardlogref08_Sorted.j1 k1 l0 x3_1 (t566 != (-1)))) else (none)) else (none)) else (shardlogref08_Sorted.j1 k1 l0 x3_1 false)) else (shardlogref08_Sorted.j1 k1 l0 x3_1 true)) = some r := H; have A5 := aS A50; clear A50
      by_cases c6 : t563 = true
      ·
       subst c6
       have H1 : (if x3_1 > 0 then (if 0 ≤ (wrap64 (x3_1 - 1)) then (if (wrap64 (x3_1 - 1)) < (l0.length : Int) then ((shardlogref08_Compare.f k1 ((rd_T42 l0 (wrap64 (x3_1 - 1))).f0) ((rd_T42 l0 (wrap64 (x3_1 - 1))).f1) ((rd_T42 l0 (wrap64 (x3_1 - 1))).f2) ((rd_T42 l0 (wrap64 (x3_1 - 1))).f3) ((rd_T42 l0 (wrap64 (x3_1 - 1))).f4) ((rd_T42 l0 x3_1).f0) ((rd_T42 l0 x3_1).f1) ((rd_T42 l0 x3_1).f2) ((rd_T42 l0 x3_1).f3) ((rd_T42 l0 x3_1).f4)).bind fun t566 => (shardlogref08_Sorted.j1 k1 l0 x3_1 (t566 != (-1)))) else (none)) else (none)) else (shardlogref08_Sorted.j1 k1 l0 x3_1 false)) = some r := by rw [if_pos rfl] at H; exact H
       clear H; have H := H1; clear H1
       by_cases c7 : x3_1 > 0
       ·
        rw [if_pos c7] at H; have c7b0 : decide (0 < x3_1) = true := decide_eq_true c7; clear c7
        obtain ⟨ji8, hji8⟩ : ∃ j_ : Int, (wrap64 (x3_1 - 1)) = j_ := ⟨_, rfl⟩
        replace H : (if 0 ≤ (ji8) then (if (ji8) < (l0.length : Int) then ((shardlogref08_Compare.f k1 ((rd_T42 l0 (ji8)).f0) ((rd_T42 l0 (ji8)).f1) ((rd_T42 l0 (ji8)).f2) ((rd_T42 l0 (ji8)).f3) ((rd_T42 l0 (ji8)).f4) ((rd_T42 l0 x3_1).f0) ((rd_T42 l0 x3_1).f1) ((rd_T42 l0 x3_1).f2) ((rd_T42 l0 x3_1).f3) ((rd_T42 l0 x3_1).f4)).bind fun t566 => (shardlogref08_Sorted.j1 k1 l0 x3_1 (t566 != (-1)))) else (none)) else (none)) = some r := by first | (rw [hji8] at H; exact H) | (simp only [hji8] at H ⊢; exact H)
        (try rw [hji8] at A5)
        have hji8w : (IntKind.i64.wrap (x3_1 - 1)) = ji8 := (i64_w _).trans hji8
        by_cases c9 : 0 ≤ (ji8)
        ·
         rw [if_pos c9] at H; have c9b0 : decide (0 ≤ (ji8)) = true := decide_eq_true c9; clear c9
         by_cases c10 : (ji8) < (l0.length : Int)
         ·
          rw [if_pos c10] at H; have c10b0 : decide ((ji8) < (l0.length : Int)) = true := decide_eq_true c10; clear c10; replace H := obm H; obtain ⟨t566, A110, H⟩ := H; replace H : (shardlogref08_Sorted.j1 k1 l0 x3_1 (t566 != (-1))) = some r := H; have A11 := aS A110; clear A110
          have H' := aS H
          clear H
          try go_wp2
          replace HB := aS (bdo HB.out); have p562 : 0 ≤ (x3_1 : Int) := oda; have q562 : x3_1 < (l0.length : Int) := oda; obtain ⟨ad562, e562, hx562_0, hx562_1, hx562_2, hx562_3, hx562_4⟩ := at_T42 HR0.out x3_1 p562 q562; have hw562_4 := hx562_4; have hw562_3 := hx562_3; have hw562_2 := hx562_2; have hw562_1 := hx562_1; have hw562_0 := hx562_0; cases e562; replace hx562_0 := bx bel hx562_0; replace hx562_1 := bx bel hx562_1; replace hx562_2 := bx bel hx562_2; replace hx562_3 := bx bel hx562_3; replace hx562_4 := bx bel hx562_4; replace p562 := eq_true p562; replace q562 := eq_true q562; have p564 : 0 ≤ ((ji8) : Int) := oda; have q564 : (ji8) < (l0.length : Int) := oda; obtain ⟨ad564, e564, hx564_0, hx564_1, hx564_2, hx564_3, hx564_4⟩ := at_T42 HR0.out (ji8) p564 q564; have hw564_4 := hx564_4; have hw564_3 := hx564_3; have hw564_2 := hx564_2; have hw564_1 := hx564_1; have hw564_0 := hx564_0
          obtain rfl : ad562 = ad564 := (by injection e564)
          replace hx564_0 := bx bel hx564_0; replace hx564_1 := bx bel hx564_1; replace hx564_2 := bx bel hx564_2; replace hx564_3 := bx bel hx564_3; replace hx564_4 := bx bel hx564_4; replace p564 := eq_true p564; replace q564 := eq_true q564; have p565 : 0 ≤ (x3_1 : Int) := oda; have q565 : x3_1 < (l0.length : Int) := oda; obtain ⟨ad565, e565, hx565_0, hx565_1, hx565_2, hx565_3, hx565_4⟩ := at_T42 HR0.out x3_1 p565 q565; have hw565_4 := hx565_4; have hw565_3 := hx565_3; have hw565_2 := hx565_2; have hw565_1 := hx565_1; have hw565_0 := hx565_0
          obtain rfl : ad562 = ad565 := (by injection e565)
          replace hx565_0 := bx bel hx565_0; replace hx565_1 := bx bel hx565_1; replace hx565_2 := bx bel hx565_2; replace hx565_3 := bx bel hx565_3; replace hx565_4 := bx bel hx565_4; replace p565 := eq_true p565; replace q565 := eq_true q565; refine start_ (n := 23) (S := fun w' => w'.cell? (ad562.add ((x3_1).toNat * 5)) = some (.string ((rd_T42 l0 x3_1).f0)) ∧ w'.cell? ⟨(ad562.add ((x3_1).toNat * 5)).block, (ad562.add ((x3_1).toNat * 5)).off + 1, none⟩ = some (.string ((rd_T42 l0 x3_1).f1)) ∧ w'.cell? ⟨(ad562.add ((x3_1).toNat * 5)).block, (ad562.add ((x3_1).toNat * 5)).off + 2, none⟩ = some (.int .i64 ((rd_T42 l0 x3_1).f2)) ∧ w'.cell? ⟨(ad562.add ((x3_1).toNat * 5)).block, (ad562.add ((x3_1).toNat * 5)).off + 3, none⟩ = some (.string ((rd_T42 l0 x3_1).f3)) ∧ w'.cell? ⟨(ad562.add ((x3_1).toNat * 5)).block, (ad562.add ((x3_1).toNat * 5)).off + 4, none⟩ = some (.bool ((rd_T42 l0 x3_1).f4)) ∧ w'.cell? (ad562.add (((ji8)).toNat * 5)) = some (.string ((rd_T42 l0 (ji8)).f0)) ∧ w'.cell? ⟨(ad562.add (((ji8)).toNat * 5)).block, (ad562.add (((ji8)).toNat * 5)).off + 1, none⟩ = some (.string ((rd_T42 l0 (ji8)).f1)) ∧ w'.cell? ⟨(ad562.add (((ji8)).toNat * 5)).block, (ad562.add (((ji8)).toNat * 5)).off + 2, none⟩ = some (.int .i64 ((rd_T42 l0 (ji8)).f2)) ∧ w'.cell? ⟨(ad562.add (((ji8)).toNat * 5)).block, (ad562.add (((ji8)).toNat * 5)).off + 3, none⟩ = some (.string ((rd_T42 l0 (ji8)).f3)) ∧ w'.cell? ⟨(ad562.add (((ji8)).toNat * 5)).block, (ad562.add (((ji8)).toNat * 5)).off + 4, none⟩ = some (.bool ((rd_T42 l0 (ji8)).f4)) ∧ w'.cell? (ad562.add ((x3_1).toNat * 5)) = some (.string ((rd_T42 l0 x3_1).f0)) ∧ w'.cell? ⟨(ad562.add ((x3_1).toNat * 5)).block, (ad562.add ((x3_1).toNat * 5)).off + 1, none⟩ = some (.string ((rd_T42 l0 x3_1).f1)) ∧ w'.cell? ⟨(ad562.add ((x3_1).toNat * 5)).block, (ad562.add ((x3_1).toNat * 5)).off + 2, none⟩ = some (.int .i64 ((rd_T42 l0 x3_1).f2)) ∧ w'.cell? ⟨(ad562.add ((x3_1).toNat * 5)).block, (ad562.add ((x3_1).toNat * 5)).off + 3, none⟩ = some (.string ((rd_T42 l0 x3_1).f3)) ∧ w'.cell? ⟨(ad562.add ((x3_1).toNat * 5)).block, (ad562.add ((x3_1).toNat * 5)).off + 4, none⟩ = some (.bool ((rd_T42 l0 x3_1).f4))) (ds := []) (bA 23 0) (by kernel_rfl) rfl rfl ⟨(bx bel hw562_0), (bx bel hw562_1), (bx bel hw562_2), (bx bel hw562_3), (bx bel hw562_4), (bx bel hw564_0), (bx bel hw564_1), (bx bel hw564_2), (bx bel hw564_3), (bx bel hw564_4), (bx bel hw565_0), (bx bel hw565_1), (bx bel hw565_2), (bx bel hw565_3), (bx bel hw565_4)⟩ (fun hHeld => ?_); refine with_tabW shardlogref08_Sorted.tab4 shardlogref08_Sorted.bits4 (fun HT_ HW_ => ?_)
          generalize wr.drew = w12 at HB hx562_0 hx562_1 hx562_2 hx562_3 hx562_4 hx564_0 hx564_1 hx564_2 hx564_3 hx564_4 hx565_0 hx565_1 hx565_2 hx565_3 hx565_4 hHeld ⊢
          refine along_ [(0, 10), (1, 11), (2, 12), (3, 13)] ?_
          iterate 4 (first | (refine pure3 HT_ ?_) | (refine take3 HT_ HW_ hHeld ?_))
          refine lay_ (bA 23 15) (by kernel_rfl) ?_; refine one3 4 (N := some 14) (bA 23 31) HT_ (fun K hK => ?_); refine goes_ Try.func27 (by kernel_rfl) rfl #[.agg #[.string ((rd_T42 l0 x3_1).f0), .string ((rd_T42 l0 x3_1).f1), .int .i64 ((rd_T42 l0 x3_1).f2), .string ((rd_T42 l0 x3_1).f3), .bool ((rd_T42 l0 x3_1).f4)]] (by rfl) rfl rfl agn ?_
          with_reducible refine (shardlogref08_Right.calls ((rd_T42 l0 x3_1).f0) ((rd_T42 l0 x3_1).f1) ((rd_T42 l0 x3_1).f2) ((rd_T42 l0 x3_1).f3) ((rd_T42 l0 x3_1).f4) true _ A5.out).mono ?_
          rintro e w13 ⟨rfl, hb⟩
          refine ⟨_, rfl, ?_⟩; replace HB := bstep hb; (try clear hb); (try clear hk); (try clear hi); refine hK.out _ _ ⟨(bx bel hw562_0), (bx bel hw562_1), (bx bel hw562_2), (bx bel hw562_3), (bx bel hw562_4), (bx bel hw564_0), (bx bel hw564_1), (bx bel hw564_2), (bx bel hw564_3), (bx bel hw564_4), (bx bel hw565_0), (bx bel hw565_1), (bx bel hw565_2), (bx bel hw565_3), (bx bel hw565_4)⟩ (fun hHeld => ?_); clear hK K; refine nm 14 ?_; refine along_ [(5, 15), (6, 16), (7, 17), (8, 18), (9, 19), (10, 20), (11, 21), (12, 22), (13, 23), (15, 25), (16, 26), (17, 27), (14, 24), (18, 28)] ?_
          iterate 14 (first | (refine pure3 HT_ ?_) | (refine take3 HT_ HW_ hHeld ?_))
          refine lay_ (bA 23 524287) (by kernel_rfl) ?_; refine one3 19 (N := some 29) (bA 23 1048575) HT_ (fun K hK => ?_); refine goes_ Try.func32 (by kernel_rfl) rfl #[.agg #[.string ((rd_T42 l0 (ji8)).f0), .string ((rd_T42 l0 (ji8)).f1), .int .i64 ((rd_T42 l0 (ji8)).f2), .string ((rd_T42 l0 (ji8)).f3), .bool ((rd_T42 l0 (ji8)).f4)], .agg #[.string ((rd_T42 l0 x3_1).f0), .string ((rd_T42 l0 x3_1).f1), .int .i64 ((rd_T42 l0 x3_1).f2), .string ((rd_T42 l0 x3_1).f3), .bool ((rd_T42 l0 x3_1).f4)]] (by rfl) rfl rfl (by (try simp only [List.map_toArray, List.map_cons, List.map_nil]); first | done | (simp only [hji8]; rfl) | rfl | (simp only [lld, llt]; rfl)) ?_
          with_reducible refine (shardlogref08_Compare.calls k1 ((rd_T42 l0 (ji8)).f0) ((rd_T42 l0 (ji8)).f1) ((rd_T42 l0 (ji8)).f2) ((rd_T42 l0 (ji8)).f3) ((rd_T42 l0 (ji8)).f4) ((rd_T42 l0 x3_1).f0) ((rd_T42 l0 x3_1).f1) ((rd_T42 l0 x3_1).f2) ((rd_T42 l0 x3_1).f3) ((rd_T42 l0 x3_1).f4) t566 _ A11.out).mono ?_
          rintro e w14 ⟨rfl, hb⟩
          refine ⟨_, rfl, ?_⟩; replace HB := bstep hb; (try clear hb); (try clear hk); (try clear hi); refine hK.out _ _ ⟨(bx bel hw562_0), (bx bel hw562_1), (bx bel hw562_2), (bx bel hw562_3), (bx bel hw562_4), (bx bel hw564_0), (bx bel hw564_1), (bx bel hw564_2), (bx bel hw564_3), (bx bel hw564_4), (bx bel hw565_0), (bx bel hw565_1), (bx bel hw565_2), (bx bel hw565_3), (bx bel hw565_4)⟩ (fun hHeld => ?_); clear hK K; refine nm 29 ?_; refine along_ [(20, 30), (21, 31), (22, 32)] ?_
          iterate 3 (refine pure3 HT_ ?_)
          refine lay_ (bA 23 8388607) (by kernel_rfl) ?_; refine done_ (done_of HT_.out (by kernel_rfl)) ?_
          try go_wp2
          go_meet
          case rel => exact ⟨_, ((t566 != (-1))), srf, H', ⟨by have := HK1.out; first | omega | exact Nat.le_refl _⟩, ⟨bel⟩⟩
         ·
          rw [if_neg c10] at H; exact absurd H (by simp)
        ·
         rw [if_neg c9] at H; exact absurd H (by simp)
       ·
        rw [if_neg c7] at H; have c7b0 : decide (0 < x3_1) = false := decide_eq_false c7; clear c7
        have H' := aS H
        clear H
        try go_wp2
        replace HB := aS (bdo HB.out); have p562 : 0 ≤ (x3_1 : Int) := oda; have q562 : x3_1 < (l0.length : Int) := oda; obtain ⟨ad562, e562, hx562_0, hx562_1, hx562_2, hx562_3, hx562_4⟩ := at_T42 HR0.out x3_1 p562 q562; have hw562_4 := hx562_4; have hw562_3 := hx562_3; have hw562_2 := hx562_2; have hw562_1 := hx562_1; have hw562_0 := hx562_0; cases e562; replace hx562_0 := bx bel hx562_0; replace hx562_1 := bx bel hx562_1; replace hx562_2 := bx bel hx562_2; replace hx562_3 := bx bel hx562_3; replace hx562_4 := bx bel hx562_4; replace p562 := eq_true p562; replace q562 := eq_true q562; refine start_ (n := 23) (S := fun w' => w'.cell? (ad562.add ((x3_1).toNat * 5)) = some (.string ((rd_T42 l0 x3_1).f0)) ∧ w'.cell? ⟨(ad562.add ((x3_1).toNat * 5)).block, (ad562.add ((x3_1).toNat * 5)).off + 1, none⟩ = some (.string ((rd_T42 l0 x3_1).f1)) ∧ w'.cell? ⟨(ad562.add ((x3_1).toNat * 5)).block, (ad562.add ((x3_1).toNat * 5)).off + 2, none⟩ = some (.int .i64 ((rd_T42 l0 x3_1).f2)) ∧ w'.cell? ⟨(ad562.add ((x3_1).toNat * 5)).block, (ad562.add ((x3_1).toNat * 5)).off + 3, none⟩ = some (.string ((rd_T42 l0 x3_1).f3)) ∧ w'.cell? ⟨(ad562.add ((x3_1).toNat * 5)).block, (ad562.add ((x3_1).toNat * 5)).off + 4, none⟩ = some (.bool ((rd_T42 l0 x3_1).f4))) (ds := []) (bA 23 0) (by kernel_rfl) rfl rfl ⟨(bx bel hw562_0), (bx bel hw562_1), (bx bel hw562_2), (bx bel hw562_3), (bx bel hw562_4)⟩ (fun hHeld => ?_); refine with_tabW shardlogref08_Sorted.tab4 shardlogref08_Sorted.bits4 (fun HT_ HW_ => ?_)
        generalize wr.drew = w15 at HB hx562_0 hx562_1 hx562_2 hx562_3 hx562_4 hHeld ⊢
        refine along_ [(0, 10), (1, 11), (2, 12), (3, 13)] ?_
        iterate 4 (first | (refine pure3 HT_ ?_) | (refine take3 HT_ HW_ hHeld ?_))
        refine lay_ (bA 23 15) (by kernel_rfl) ?_; refine one3 4 (N := some 14) (bA 23 31) HT_ (fun K hK => ?_); refine goes_ Try.func27 (by kernel_rfl) rfl #[.agg #[.string ((rd_T42 l0 x3_1).f0), .string ((rd_T42 l0 x3_1).f1), .int .i64 ((rd_T42 l0 x3_1).f2), .string ((rd_T42 l0 x3_1).f3), .bool ((rd_T42 l0 x3_1).f4)]] (by rfl) rfl rfl agn ?_
        with_reducible refine (shardlogref08_Right.calls ((rd_T42 l0 x3_1).f0) ((rd_T42 l0 x3_1).f1) ((rd_T42 l0 x3_1).f2) ((rd_T42 l0 x3_1).f3) ((rd_T42 l0 x3_1).f4) true _ A5.out).mono ?_
        rintro e w16 ⟨rfl, hb⟩
        refine ⟨_, rfl, ?_⟩; replace HB := bstep hb; (try clear hb); (try clear hk); (try clear hi); refine hK.out _ _ ⟨(bx bel hw562_0), (bx bel hw562_1), (bx bel hw562_2), (bx bel hw562_3), (bx bel hw562_4)⟩ (fun hHeld => ?_); clear hK K; refine nm 14 ?_; refine along_ [(5, 15), (6, 16), (7, 17), (8, 18), (9, 19), (10, 20), (11, 21), (12, 22), (13, 23), (14, 24), (15, 25), (16, 26), (17, 27), (18, 28), (19, 29), (20, 30), (21, 31), (22, 32)] ?_
        iterate 18 (first | (refine skip3 HT_ ?_) | (refine pure3 HT_ ?_))
        refine lay_ (bA 23 8388607) (by kernel_rfl) ?_; refine done_ (done_of HT_.out (by kernel_rfl)) ?_
        try go_wp2
        go_meet
        case rel => exact ⟨_, (false), srf, H', ⟨by have := HK1.out; first | omega | exact Nat.le_refl _⟩, ⟨bel⟩⟩
      ·
       replace c6 := Bool.eq_false_iff.mpr c6; subst c6
       have H1 : (shardlogref08_Sorted.j1 k1 l0 x3_1 true) = some r := by rw [if_neg (show ¬ (false = true) by decide)] at H; exact H
       clear H; have H := H1; clear H1
       have H' := aS H
       clear H
       try go_wp2
       replace HB := aS (bdo HB.out); have p562 : 0 ≤ (x3_1 : Int) := oda; have q562 : x3_1 < (l0.length : Int) := oda; obtain ⟨ad562, e562, hx562_0, hx562_1, hx562_2, hx562_3, hx562_4⟩ := at_T42 HR0.out x3_1 p562 q562; have hw562_4 := hx562_4; have hw562_3 := hx562_3; have hw562_2 := hx562_2; have hw562_1 := hx562_1; have hw562_0 := hx562_0; cases e562; replace hx562_0 := bx bel hx562_0; replace hx562_1 := bx bel hx562_1; replace hx562_2 := bx bel hx562_2; replace hx562_3 := bx bel hx562_3; replace hx562_4 := bx bel hx562_4; replace p562 := eq_true p562; replace q562 := eq_true q562; refine start_ (n := 23) (S := fun w' => w'.cell? (ad562.add ((x3_1).toNat * 5)) = some (.string ((rd_T42 l0 x3_1).f0)) ∧ w'.cell? ⟨(ad562.add ((x3_1).toNat * 5)).block, (ad562.add ((x3_1).toNat * 5)).off + 1, none⟩ = some (.string ((rd_T42 l0 x3_1).f1)) ∧ w'.cell? ⟨(ad562.add ((x3_1).toNat * 5)).block, (ad562.add ((x3_1).toNat * 5)).off + 2, none⟩ = some (.int .i64 ((rd_T42 l0 x3_1).f2)) ∧ w'.cell? ⟨(ad562.add ((x3_1).toNat * 5)).block, (ad562.add ((x3_1).toNat * 5)).off + 3, none⟩ = some (.string ((rd_T42 l0 x3_1).f3)) ∧ w'.cell? ⟨(ad562.add ((x3_1).toNat * 5)).block, (ad562.add ((x3_1).toNat * 5)).off + 4, none⟩ = some (.bool ((rd_T42 l0 x3_1).f4))) (ds := []) (bA 23 0) (by kernel_rfl) rfl rfl ⟨(bx bel hw562_0), (bx bel hw562_1), (bx bel hw562_2), (bx bel hw562_3), (bx bel hw562_4)⟩ (fun hHeld => ?_); refine with_tabW shardlogref08_Sorted.tab4 shardlogref08_Sorted.bits4 (fun HT_ HW_ => ?_)
       generalize wr.drew = w17 at HB hx562_0 hx562_1 hx562_2 hx562_3 hx562_4 hHeld ⊢
       refine along_ [(0, 10), (1, 11), (2, 12), (3, 13)] ?_
       iterate 4 (first | (refine pure3 HT_ ?_) | (refine take3 HT_ HW_ hHeld ?_))
       refine lay_ (bA 23 15) (by kernel_rfl) ?_; refine one3 4 (N := some 14) (bA 23 31) HT_ (fun K hK => ?_); refine goes_ Try.func27 (by kernel_rfl) rfl #[.agg #[.string ((rd_T42 l0 x3_1).f0), .string ((rd_T42 l0 x3_1).f1), .int .i64 ((rd_T42 l0 x3_1).f2), .string ((rd_T42 l0 x3_1).f3), .bool ((rd_T42 l0 x3_1).f4)]] (by rfl) rfl rfl agn ?_
       with_reducible refine (shardlogref08_Right.calls ((rd_T42 l0 x3_1).f0) ((rd_T42 l0 x3_1).f1) ((rd_T42 l0 x3_1).f2) ((rd_T42 l0 x3_1).f3) ((rd_T42 l0 x3_1).f4) false _ A5.out).mono ?_
       rintro e w18 ⟨rfl, hb⟩
       refine ⟨_, rfl, ?_⟩; replace HB := bstep hb; (try clear hb); (try clear hk); (try clear hi); refine hK.out _ _ ⟨(bx bel hw562_0), (bx bel hw562_1), (bx bel hw562_2), (bx bel hw562_3), (bx bel hw562_4)⟩ (fun hHeld => ?_); clear hK K; refine nm 14 ?_; refine along_ [(5, 15), (6, 16), (7, 17), (8, 18), (9, 19), (10, 20), (11, 21), (12, 22), (13, 23), (14, 24), (15, 25), (16, 26), (17, 27), (18, 28), (19, 29), (20, 30), (21, 31), (22, 32)] ?_
       iterate 18 (first | (refine skip3 HT_ ?_) | (refine pure3 HT_ ?_))
       refine lay_ (bA 23 8388607) (by kernel_rfl) ?_; refine done_ (done_of HT_.out (by kernel_rfl)) ?_
       try go_wp2
       go_meet
       case rel => exact ⟨_, (true), srf, H', ⟨by have := HK1.out; first | omega | exact Nat.le_refl _⟩, ⟨bel⟩⟩
     ·
      rw [if_neg c4] at H; exact absurd H (by simp)
    case rest =>
     clear HC3; (try clear c2); obtain ⟨kq, x32_2, rfl, HA, HJ2, HB⟩ := hcut
     cases kq with
     | zero => exact absurd HA.out (by simp [shardlogref08_Sorted.j1])
     | succ kj2 =>
      have H := HA.out; clear HA
      simp only [shardlogref08_Sorted.j1] at H
      by_cases c19 : x32_2 = true
      ·
       subst c19
       have H1 : (some false) = some r := by rw [if_pos rfl] at H; exact H
       clear H; have H := H1; clear H1
       obtain rfl := Option.some.inj H
       go_wp2
       go_ret
       exact ⟨rf3, bel⟩
      ·
       replace c19 := Bool.eq_false_iff.mpr c19; subst c19
       have H1 : (shardlogref08_Sorted.l0 kj2 l0 (wrap64 (x3_1 + 1))) = some r := by rw [if_neg (show ¬ (false = true) by decide)] at H; exact H
       clear H; have H := H1; clear H1
       have H' := aS H
       clear H
       go_wp2
       go_roundg kj2
       case measure => have := HK1.out; have := HJ2.out; omega
       case rel => exact ⟨(wrap64 (x3_1 + 1)), srf, H', ⟨by have := HK1.out; have := HJ2.out; omega⟩, ⟨bel⟩⟩
   ·
    rw [if_neg c2] at H; have c2b0 : decide (x3_1 < (l0.length : Int)) = false := decide_eq_false c2; clear c2
    obtain rfl := Option.some.inj H
    go_wp2
    go_ret
    exact ⟨rf3, bel⟩

/-! ### shardlogref01_Same: function 14 -/
def shardlogref01_Same.f (l0 : List Int) (l1 : List Int) : Option (Bool) := some ((strOfNums l0).toList == (strOfNums l1).toList)
set_option maxHeartbeats 8000000 in
set_option maxRecDepth 100000 in
theorem shardlogref01_Same.calls (A0 : Option Addr) (c0 : Nat) (l0 : List Int) (A1 : Option Addr) (c1 : Nat) (l1 : List Int) (r : Bool) (w : World) (hr0 : Kd.C (Kd.int .u8) w A0 l0.length l0) (hc0 : l0.length ≤ c0) (hr1 : Kd.C (Kd.int .u8) w A1 l1.length l1) (hc1 : l1.length ≤ c1) (h : shardlogref01_Same.f l0 l1 = some r) :
  Calls Try.prog 14 #[.slice A0 l0.length c0, .slice A1 l1.length c1] w fun e w' => e = .returned (.bool r) ∧ Drawn0 w w' := by
 have HR0 := aS hr0; have HC0 := aS hc0; clear hr0 hc0; have HR1 := aS hr1; have HC1 := aS hc1; clear hr1 hc1; have H : (some ((strOfNums l0).toList == (strOfNums l1).toList)) = some r := h; clear h
 obtain rfl := Option.some.inj H
 have hcv3 := Kd.C_string (P := Try.prog) (A := A0) (c := c0) Try.underlying26 Try.underlying5 Try.underlying9 HR0.out
 have hcv4 := fun (m_ : Nat) => Kd.C_string (P := Try.prog) (A := A0) (c := c0) Try.underlying26 Try.underlying5 Try.underlying9 (Kd.C_drewN (HR0.out) m_)
 have hcv5 := Kd.C_string (P := Try.prog) (A := A1) (c := c1) Try.underlying26 Try.underlying5 Try.underlying9 HR1.out
 have hcv6 := fun (m_ : Nat) => Kd.C_string (P := Try.prog) (A := A1) (c := c1) Try.underlying26 Try.underlying5 Try.underlying9 (Kd.C_drewN (HR1.out) m_)
 go_enter Try.func14, Try.ntmps14
 go_wp2
 go_ret
 exact ⟨by first | rfl | (simp; done) | (simp [*]; done) | (simp; exact (by decide : ∀ a_ b_ : Bool, (a_ == b_) = (!a_ != b_)) _ _), by repeat (first | exact Drawn0.refl _ | apply Drawn0.step)⟩

/-! ### shardlogref01_Num: function 33 -/
def shardlogref01_Num.f (a0 : Int) : Option (List Int) := if a0 < 0 then (some ([] : List Int)) else (if a0 > 4294967295 then (some ([] : List Int)) else (some (([(wrap64 (Int.tdiv a0 16777216)) % 256, (Int.tmod (wrap64 (Int.tdiv a0 65536)) 256) % 256, (Int.tmod (wrap64 (Int.tdiv a0 256)) 256) % 256, (Int.tmod a0 256) % 256] : List Int))))
set_option maxHeartbeats 8000000 in
set_option maxRecDepth 100000 in
theorem shardlogref01_Num.calls (a0 : Int) (r : List Int) (w : World) (h : shardlogref01_Num.f a0 = some r) :
  Calls Try.prog 33 #[.int .i64 a0] w fun e w' => ∃ v0_ : Value, e = .returned (v0_) ∧ Kd.R (Kd.int .u8) 5 w' w.heap.size (fun _ => True) v0_ r ∧ Below w.heap.size w w' := by
 have HB := aS (Below.refl w.heap.size w); have H : (if a0 < 0 then (some ([] : List Int)) else (if a0 > 4294967295 then (some ([] : List Int)) else (some (([(wrap64 (Int.tdiv a0 16777216)) % 256, (Int.tmod (wrap64 (Int.tdiv a0 65536)) 256) % 256, (Int.tmod (wrap64 (Int.tdiv a0 256)) 256) % 256, (Int.tmod a0 256) % 256] : List Int))))) = some r := h; clear h
 by_cases c2 : a0 < 0
 ·
  rw [if_pos c2] at H; have c2b0 : decide (a0 < 0) = true := decide_eq_true c2; clear c2
  obtain rfl := Option.some.inj H
  go_enter Try.func33, Try.ntmps33
  go_wp2
  go_ret
  exact ⟨_, rf3, by first | exact Kd.R_nil _ _ _ _ _ | exact Kd.N_nil _ _ _ _ _ | exact Kd.V_nil _ _ _ _ _ | exact Kd.Q_nil _ _ _ _ _ | exact Kd.S_nil _ _ _ _ _, bel⟩
 ·
  rw [if_neg c2] at H; have c2b0 : decide (a0 < 0) = false := decide_eq_false c2; clear c2
  by_cases c3 : a0 > 4294967295
  ·
   rw [if_pos c3] at H; have c3b0 : decide (4294967295 < a0) = true := decide_eq_true c3; clear c3
   obtain rfl := Option.some.inj H
   go_enter Try.func33, Try.ntmps33
   go_wp2
   go_ret
   exact ⟨_, rf3, by first | exact Kd.R_nil _ _ _ _ _ | exact Kd.N_nil _ _ _ _ _ | exact Kd.V_nil _ _ _ _ _ | exact Kd.Q_nil _ _ _ _ _ | exact Kd.S_nil _ _ _ _ _, bel⟩
  ·
   rw [if_neg c3] at H; have c3b0 : decide (4294967295 < a0) = false := decide_eq_false c3; clear c3
   obtain ⟨y567, hy567⟩ : ∃ y_ : List Int, y_ = (([(wrap64 (Int.tdiv a0 16777216)) % 256, (Int.tmod (wrap64 (Int.tdiv a0 65536)) 256) % 256, (Int.tmod (wrap64 (Int.tdiv a0 256)) 256) % 256, (Int.tmod a0 256) % 256] : List Int)) := ⟨_, rfl⟩
   replace H : (some y567) = some r := hyr hy567 H; have Ny567 := aS hy567; clear hy567
   obtain rfl := Option.some.inj H
   go_enter Try.func33, Try.ntmps33
   go_wp2_with (first | ((with_reducible refine gate_dst (N := 23) rfl ?_); refine Kd.R_lit (Kd.int .u8) _ 5 ?hg (N := 23) ?hd (xs := ([(wrap64 (Int.tdiv a0 16777216)) % 256, (Int.tmod (wrap64 (Int.tdiv a0 65536)) 256) % 256, (Int.tmod (wrap64 (Int.tdiv a0 256)) 256) % 256, (Int.tmod a0 256) % 256] : List Int)) (inner := [.int .u8 ((wrap64 (Int.tdiv a0 16777216)) % 256), .int .u8 ((Int.tmod (wrap64 (Int.tdiv a0 65536)) 256) % 256), .int .u8 ((Int.tmod (wrap64 (Int.tdiv a0 256)) 256) % 256), .int .u8 ((Int.tmod a0 256) % 256)]) (ok := fun _ => True) (okp := fun _ => True) ?hr ?hp (fun _ hk => hk) trivial (Below.refl _ _) (Nat.le_refl _) (by simp) ?_; (case hd => rfl); (case hg => rfl); (case hr => first | (go_simp; done) | (go_simp; rfl)); (case hp => exact (Reps.one (show Kd.M (Kd.int .u8) _ _ _ ((wrap64 (Int.tdiv a0 16777216)) % 256) [.int .u8 ((wrap64 (Int.tdiv a0 16777216)) % 256)] from rfl) (Reps.one (show Kd.M (Kd.int .u8) _ _ _ ((Int.tmod (wrap64 (Int.tdiv a0 65536)) 256) % 256) [.int .u8 ((Int.tmod (wrap64 (Int.tdiv a0 65536)) 256) % 256)] from rfl) (Reps.one (show Kd.M (Kd.int .u8) _ _ _ ((Int.tmod (wrap64 (Int.tdiv a0 256)) 256) % 256) [.int .u8 ((Int.tmod (wrap64 (Int.tdiv a0 256)) 256) % 256)] from rfl) (Reps.one (show Kd.M (Kd.int .u8) _ _ _ ((Int.tmod a0 256) % 256) [.int .u8 ((Int.tmod a0 256) % 256)] from rfl) (Reps.none _ _)))))); intro v568 w4 ho5 hb hg_ hnew_; clear hg_ hnew_; (first | rw [← Ny567.out] at ho5 | (simp only [Int.reduceToNat] at ho5; rw [← Ny567.out] at ho5)); have HO569 := aS (Kd.R_lower ho5 (below_size bel)); replace HB := bstep hb; clear hb ho5))
   go_ret
   exact ⟨_, rf3, by (with_reducible repeat (first | apply Kd.R_alloc | apply Kd.R_drewN | apply Kd.R_drew)); exact HO569.out, bel⟩

/-! ### shardlogref01_Text: function 37 -/
def shardlogref01_Text.f (a0 : ByteArray) : Option (List Int) := (shardlogref01_Num.f (a0.size : Int)).bind fun t570 => (if a0.size ≤ 9223372036854775807 then ((some (bytesOf a0 : List Int)).bind fun y573 => (if t570.length + y573.length < 140737488355328 then (some (t570 ++ y573)) else (none))) else (none))
set_option maxHeartbeats 8000000 in
set_option maxRecDepth 100000 in
theorem shardlogref01_Text.calls (a0 : ByteArray) (r : List Int) (w : World) (h : shardlogref01_Text.f a0 = some r) :
  Calls Try.prog 37 #[.string a0] w fun e w' => ∃ v0_ : Value, e = .returned (v0_) ∧ Kd.R (Kd.int .u8) 5 w' w.heap.size (fun _ => True) v0_ r ∧ Below w.heap.size w w' := by
 have HB := aS (Below.refl w.heap.size w); have H : ((shardlogref01_Num.f (a0.size : Int)).bind fun t570 => (if a0.size ≤ 9223372036854775807 then ((some (bytesOf a0 : List Int)).bind fun y573 => (if t570.length + y573.length < 140737488355328 then (some (t570 ++ y573)) else (none))) else (none))) = some r := h; clear h; replace H := obm H; obtain ⟨t570, A20, H⟩ := H; replace H : (if a0.size ≤ 9223372036854775807 then ((some (bytesOf a0 : List Int)).bind fun y573 => (if t570.length + y573.length < 140737488355328 then (some (t570 ++ y573)) else (none))) else (none)) = some r := H; have A2 := aS A20; clear A20
 by_cases c3 : a0.size ≤ 9223372036854775807
 ·
  rw [if_pos c3] at H; have c3b0 := eq_true c3; have c3b1 : decide (a0.size ≤ 9223372036854775807) = true := decide_eq_true c3
  try have c3b2 : (9223372036854775807 < a0.size) = False := eq_false (Nat.not_lt.2 c3)
  clear c3
  obtain ⟨y573, hy573⟩ : ∃ y_ : List Int, y_ = (bytesOf a0) := ⟨_, rfl⟩
  replace H : (if t570.length + y573.length < 140737488355328 then (some (t570 ++ y573)) else (none)) = some r := hyr hy573 H; have Ny573 := aS hy573; clear hy573
  by_cases c4 : t570.length + y573.length < 140737488355328
  ·
   rw [if_pos c4] at H; have LMc4 := aS c4; clear c4
   obtain ⟨y576, hy576⟩ : ∃ y_ : List Int, y_ = (t570 ++ y573) := ⟨_, rfl⟩
   replace H : (some y576) = some r := hyr hy576 H; have Ny576 := aS hy576; clear hy576
   obtain rfl := Option.some.inj H
   go_enter Try.func37, Try.ntmps37
   go_wp2_with (first | ((with_reducible refine gate_callee (f := 33) rfl ?_); refine goesL_ (some 5) rfl rfl Try.func33 (by kernel_rfl) rfl #[.int .i64 (a0.size : Int)] rfl agn ?_; (with_reducible refine (shardlogref01_Num.calls (a0.size : Int) t570 _ A2.out).mono ?_); rintro e w5 ⟨v571, rfl, ho0, hb⟩; refine ⟨_, rfl, ?_⟩; have HO572 := aS (Kd.R_lower ho0 (below_size bel)); replace HB := bstep hb; (try clear hb); (try clear hk); (try clear hi); (try clear ho0)) | ((with_reducible refine gate_dst (N := 7) rfl ?_); refine Kd.V_bytes rfl (N := 7) rfl 9 26 5 _ a0 rfl rfl Try.underlying9 Try.underlying26 Try.underlying5 (oda) ?_; intro v574 w6 ho7 hb; rw [← Ny573.out] at ho7; have HO575 := aS (Kd.V_lower (Kd.V_mono (ok' := fun k_ => some k_ ≠ (v571 : Value).ownBlock) ho7 (fun k_ hk_ => (Kd.fresh' (Kd.R_lt (rel HO572.out)) k_ hk_))) (below_size bel)); replace HO572 := aS (Kd.R_below (rel HO572.out) hb); replace HB := bstep hb; clear hb ho7; obtain ⟨Ao9, co9, eo9⟩ := Kd.V_slice HO575.out; subst eo9) | ((with_reducible refine gate_builtin (b := .append) (xs := #[.tmp 5, .tmp 7]) rfl ?_); at_builtin; refine Kd.R_append_rows (Kd.int .u8) (w0 := w) w.heap.size rfl (.tmp 5) (.tmp 7) 26 5 (.int .u8 0) 1 rfl Try.underlying26 info5 rfl (by decide) (by omega) v571 t570 y573 _ _ _ (fun _ => True) (fun _ => False) rfl rfl ?aO ?aR (fun _ _ h => h) (fun _ h => h.elim) ?aF ?aB ?aS ?aL ?_; (case aR => exact cel ((Kd.V_reads' HO575.out).2.2)); (case aB => exact bel); (case aF => exact (fun _ _ => trivial)); (case aO => exact (rel HO572.out)); (case aS => exact (below_size bel)); (case aL => have := LMc4.out; omega); intro v577 w8 ho hb hg hat; rw [← Ny576.out] at ho; have n0_ := aS (Kd.V_afterv (ok := (fun _ => True)) (by (with_reducible repeat (first | apply Kd.V_alloc | apply Kd.V_drewN | apply Kd.V_drew)); exact Kd.V_mono HO575.out (fun _ hk => ⟨trivial, hk⟩)) hg hat); have n1_ := aS (hb); have n2_ := aS (ho); clear HO575; clear HB; clear HO572; have HO575 := n0_; have HB := n1_; have HO578 := n2_; clear n0_ n1_ n2_; clear ho hb hg hat))
   go_ret
   exact ⟨_, rf3, by (with_reducible repeat (first | apply Kd.R_alloc | apply Kd.R_drewN | apply Kd.R_drew)); exact HO578.out, bel⟩
  ·
   rw [if_neg c4] at H; exact absurd H (by simp)
 ·
  rw [if_neg c3] at H; exact absurd H (by simp)

/-! ### shardlogref08_Put: function 34 -/
mutual
def shardlogref08_Put.j0 : Nat → List Int → ByteArray → ByteArray → Int → ByteArray → Bool → Option (List Int)
 | 0, _, _, _, _, _, _ => none
 | k + 1, x3, x580000, x580001, x580002, x580003, x580004 => (shardlogref01_Num.f x580002).bind fun t589 => (if x3.length + t589.length < 140737488355328 then (shardlogref08_Put.j1 k (x3 ++ t589) x580000 x580001 x580002 x580003 x580004) else (none))
def shardlogref08_Put.j1 : Nat → List Int → ByteArray → ByteArray → Int → ByteArray → Bool → Option (List Int)
 | 0, _, _, _, _, _, _ => none
 | k + 1, x3, x580000, x580001, x580002, x580003, x580004 => if x580004 = true then (if x3.length < 140737488355328 then ((some (x3 ++ [1] : List Int)).bind fun y595 => ((shardlogref01_Text.f x580003).bind fun t598 => (if y595.length + t598.length < 140737488355328 then (some (y595 ++ t598)) else (none)))) else (none)) else (if x3.length < 140737488355328 then ((some (x3 ++ [0] : List Int)).bind fun y604 => ((shardlogref01_Text.f x580003).bind fun t607 => (if y604.length + t607.length < 140737488355328 then (some (y604 ++ t607)) else (none)))) else (none))
end
def shardlogref08_Put.f (k : Nat) (a0_0 : ByteArray) (a0_1 : ByteArray) (a0_2 : Int) (a0_3 : ByteArray) (a0_4 : Bool) : Option (List Int) := (shardlogref01_Text.f a0_0).bind fun t580 => ((shardlogref01_Text.f a0_1).bind fun t583 => (if t580.length + t583.length < 140737488355328 then (shardlogref08_Put.j0 k (t580 ++ t583) a0_0 a0_1 a0_2 a0_3 a0_4) else (none)))
theorem shardlogref08_Put.mono_l : ∀ k, (∀ y0 y1 y2 y3 y4 y5, LeO (shardlogref08_Put.j0 k y0 y1 y2 y3 y4 y5) (shardlogref08_Put.j0 (k + 1) y0 y1 y2 y3 y4 y5)) ∧ (∀ y0 y1 y2 y3 y4 y5, LeO (shardlogref08_Put.j1 k y0 y1 y2 y3 y4 y5) (shardlogref08_Put.j1 (k + 1) y0 y1 y2 y3 y4 y5))
 | 0 => ⟨fun _ _ _ _ _ _ r h => by simp [shardlogref08_Put.j0] at h, fun _ _ _ _ _ _ r h => by simp [shardlogref08_Put.j1] at h⟩
 | k + 1 => by
  obtain ⟨ih0, ih1⟩ := shardlogref08_Put.mono_l k; refine ⟨?_, ?_⟩
  ·
   intro y0 y1 y2 y3 y4 y5
   unfold shardlogref08_Put.j0
   repeat' first
   | (with_reducible exact ih0 _ _ _ _ _ _)
   | (with_reducible exact ih1 _ _ _ _ _ _)
   | (with_reducible exact LeO.refl _)
   | (with_reducible exact LeO.none _)
   | (with_reducible refine LeO.ite ?_ ?_)
   | (with_reducible refine LeO.bind ?_ (fun _ => ?_))
   | exact LeO.none _
   | refine LeO.ite ?_ ?_
   | refine LeO.bind ?_ (fun _ => ?_)
  ·
   intro y0 y1 y2 y3 y4 y5
   unfold shardlogref08_Put.j1
   repeat' first
   | (with_reducible exact ih0 _ _ _ _ _ _)
   | (with_reducible exact ih1 _ _ _ _ _ _)
   | (with_reducible exact LeO.refl _)
   | (with_reducible exact LeO.none _)
   | (with_reducible refine LeO.ite ?_ ?_)
   | (with_reducible refine LeO.bind ?_ (fun _ => ?_))
   | exact LeO.none _
   | refine LeO.ite ?_ ?_
   | refine LeO.bind ?_ (fun _ => ?_)
theorem shardlogref08_Put.mono : ∀ a0 a1 a2 a3 a4 k, LeO (shardlogref08_Put.f k a0 a1 a2 a3 a4) (shardlogref08_Put.f (k + 1) a0 a1 a2 a3 a4) := by
 intro a0 a1 a2 a3 a4 k
 obtain ⟨ih0, ih1⟩ := shardlogref08_Put.mono_l k
 unfold shardlogref08_Put.f
 repeat' first
   | (with_reducible exact ih0 _ _ _ _ _ _)
   | (with_reducible exact ih1 _ _ _ _ _ _)
   | (with_reducible exact LeO.refl _)
   | (with_reducible exact LeO.none _)
   | (with_reducible refine LeO.ite ?_ ?_)
   | (with_reducible refine LeO.bind ?_ (fun _ => ?_))
   | exact LeO.none _
   | refine LeO.ite ?_ ?_
   | refine LeO.bind ?_ (fun _ => ?_)
def shardlogref08_Put.T1 : Bool × List (List Nat × List Nat) := (true, [([], []), ([0], [0]), ([1], [1]), ([], []), ([3], [3]), ([4, 2], [4]), ([2, 5, 5], [2, 5]), ([6, 6, 0, 1, 2, 3, 4, 5, 6], [6])])
def shardlogref08_Put.B1 : List Nat := [0, 1, 3, 0, 8, 31, 63, 127]
theorem shardlogref08_Put.tab1 : rtab .any (opsOf Try.f34 1) = shardlogref08_Put.T1 := by kernel_rfl
theorem shardlogref08_Put.bits1 : waitsOk shardlogref08_Put.T1.2 shardlogref08_Put.B1 = true := by kernel_rfl
set_option maxHeartbeats 8000000 in
set_option maxRecDepth 100000 in
theorem shardlogref08_Put.calls (k : Nat) (a0_0 : ByteArray) (a0_1 : ByteArray) (a0_2 : Int) (a0_3 : ByteArray) (a0_4 : Bool) (r : List Int) (w : World) (h : shardlogref08_Put.f k a0_0 a0_1 a0_2 a0_3 a0_4 = some r) :
  Calls Try.prog 34 #[.agg #[.string a0_0, .string a0_1, .int .i64 a0_2, .string a0_3, .bool a0_4]] w fun e w' => ∃ v0_ : Value, e = .returned (v0_) ∧ Kd.R (Kd.int .u8) 5 w' w.heap.size (fun _ => True) v0_ r ∧ Below w.heap.size w w' := by
 have hu42 := Try.underlying42; have HB := aS (Below.refl w.heap.size w); have H : ((shardlogref01_Text.f a0_0).bind fun t580 => ((shardlogref01_Text.f a0_1).bind fun t583 => (if t580.length + t583.length < 140737488355328 then (shardlogref08_Put.j0 k (t580 ++ t583) a0_0 a0_1 a0_2 a0_3 a0_4) else (none)))) = some r := h; clear h; have HC2 := aS H; clear H
 go_enter Try.func34, Try.ntmps34
 go_upto_region 1 with (first | ((with_reducible refine gate_dst (N := 1) rfl ?_); refine box_event ?hg (N := 1) ?hd (cs := #[.string a0_0, .string a0_1, .int .i64 a0_2, .string a0_3, .bool a0_4]) (t := 42) ?hr ?_; (case hd => rfl); (case hg => rfl); (case hr => first | (go_simp; done) | (go_simp; rfl)); intro gb579 hg w3 hbox hb; have BK579 := aS (hbox); have GW579 := bsize hg; have GE579 := bsize hg; replace HB := bstep hb; clear hb hbox hg))
 (try simp only [Act.put, lsa, lsz, lss])
 go_cut [3] (fun v3 wc => ∃ (kq : Nat) (x3_1 : List Int), Aside0 (shardlogref08_Put.j0 kq x3_1 a0_0 a0_1 a0_2 a0_3 a0_4 = some r) ∧ Aside0 (kq ≤ k) ∧ Aside0 (Kd.R (Kd.int .u8) 5 wc w.heap.size (fun _ => True) v3 x3_1) ∧ Aside0 (wc.heap[gb579]? = some (.cells #[.string a0_0, .string a0_1, .int .i64 a0_2, .string a0_3, .bool a0_4] 42 (0, 0))) ∧ Aside0 (Below w.heap.size w wc))
 case first =>
  have H := HC2.out; clear HC2; replace H := obm H; obtain ⟨t580, A40, H⟩ := H; replace H : ((shardlogref01_Text.f a0_1).bind fun t583 => (if t580.length + t583.length < 140737488355328 then (shardlogref08_Put.j0 k (t580 ++ t583) a0_0 a0_1 a0_2 a0_3 a0_4) else (none))) = some r := H; have A4 := aS A40; clear A40; replace H := obm H; obtain ⟨t583, A50, H⟩ := H; replace H : (if t580.length + t583.length < 140737488355328 then (shardlogref08_Put.j0 k (t580 ++ t583) a0_0 a0_1 a0_2 a0_3 a0_4) else (none)) = some r := H; have A5 := aS A50; clear A50
  by_cases c6 : t580.length + t583.length < 140737488355328
  ·
   rw [if_pos c6] at H; have LMc6 := aS c6; clear c6
   obtain ⟨y586, hy586⟩ : ∃ y_ : List Int, y_ = (t580 ++ t583) := ⟨_, rfl⟩
   replace H : (shardlogref08_Put.j0 k y586 a0_0 a0_1 a0_2 a0_3 a0_4) = some r := hyr hy586 H; have Ny586 := aS hy586; clear hy586
   have H' := aS H
   clear H
   try go_wp2
   replace BK579 := aS (blk_drew BK579.out); replace HB := aS (bdo HB.out); refine start_ (n := 8) (S := fun w' => w'.cell? ⟨gb579, 0, none⟩ = some (.string a0_0) ∧ w'.cell? ⟨gb579, 1, none⟩ = some (.string a0_1) ∧ w'.cell? ⟨gb579, 2, none⟩ = some (.int .i64 a0_2) ∧ w'.cell? ⟨gb579, 3, none⟩ = some (.string a0_3) ∧ w'.cell? ⟨gb579, 4, none⟩ = some (.bool a0_4)) (ds := []) (bA 8 0) (by kernel_rfl) rfl rfl ⟨bc BK579 0, bc BK579 1, bc BK579 2, bc BK579 3, bc BK579 4⟩ (fun hHeld => ?_); refine with_tabW shardlogref08_Put.tab1 shardlogref08_Put.bits1 (fun HT_ HW_ => ?_)
   generalize w3.drew = w7 at BK579 HB hHeld ⊢
   refine along_ [(0, 4), (3, 7), (1, 5), (4, 8)] ?_
   iterate 4 (first | (refine pure3 HT_ ?_) | (refine take3 HT_ HW_ hHeld ?_))
   refine lay_ (bA 8 27) (by kernel_rfl) ?_; refine one3 2 (N := some 6) (bA 8 31) HT_ (fun K hK => ?_); refine goes_ Try.func37 (by kernel_rfl) rfl #[.string a0_0] (by rfl) rfl rfl agn ?_
   with_reducible refine (shardlogref01_Text.calls a0_0 t580 _ A4.out).mono ?_
   rintro e w8 ⟨v581, rfl, ho0, hb⟩
   refine ⟨_, rfl, ?_⟩; have HO582 := aS (Kd.R_lower ho0 (below_size bel)); replace BK579 := bbl BK579 hb; replace HB := bstep hb; (try clear hb); (try clear hk); (try clear hi); (try clear ho0); refine hK.out _ _ ⟨bc BK579 0, bc BK579 1, bc BK579 2, bc BK579 3, bc BK579 4⟩ (fun hHeld => ?_); clear hK K; refine nm 6 ?_; refine one3 5 (N := some 9) (bA 8 63) HT_ (fun K hK => ?_); refine goes_ Try.func37 (by kernel_rfl) rfl #[.string a0_1] (by rfl) rfl rfl agn ?_
   with_reducible refine (shardlogref01_Text.calls a0_1 t583 _ A5.out).mono ?_
   rintro e w9 ⟨v584, rfl, ho0, hb⟩
   refine ⟨_, rfl, ?_⟩; have HO585 := aS (Kd.R_lower (Kd.R_new' ho0 (Kd.R_lt (rel HO582.out))) (below_size bel)); replace HO582 := aS (Kd.R_elder' (rel HO582.out) (ebs ho0) hb); replace BK579 := bbl BK579 hb; replace HB := bstep hb; (try clear hb); (try clear hk); (try clear hi); (try clear ho0); obtain ⟨Ao11, co11, eo11⟩ := Kd.R_slice HO585.out
   (first | subst eo11 | (injection eo11 with f1_ f2_ f3_; have f4_ := f1_.symm; have f5_ := f3_.symm; clear f1_ f2_ f3_; subst f4_; subst f5_))
   refine hK.out _ _ ⟨bc BK579 0, bc BK579 1, bc BK579 2, bc BK579 3, bc BK579 4⟩ (fun hHeld => ?_); clear hK K; refine nm 9 ?_; refine one3 6 (N := some 10) (bA 8 127) HT_ (fun K hK => ?_); refine Kd.R_append_rows_step (Kd.int .u8) (w0 := w) w.heap.size (by rfl) (.tmp 6) (.tmp 9) 26 5 (.int .u8 0) 1 rfl Try.underlying26 info5 rfl (by decide) (by omega) v581 t580 t583 _ _ _ (fun k_ => some k_ ≠ (.slice Ao11 t583.length co11 : Value).ownBlock) (fun _ => False) rfl rfl ?aO ?aR (fun _ _ h => h) (fun _ h => h.elim) ?aF ?aB ?aS ?aL ?_
   (case aR => exact cel ((Kd.R_reads' HO585.out).2.2))
   (case aB => exact bel)
   (case aF => exact (fun k_ hk => Kd.fresh' (Kd.R_lt (rel HO585.out)) k_ hk))
   (case aO => exact (rel (Kd.R_mono HO582.out (fun _ hk => hk.2))))
   (case aS => exact (below_size bel))
   (case aL => have := LMc6.out; omega)
   intro v587 w10 ho hb hg hat
   rw [← Ny586.out] at ho; have n0_ := aS (blk_grown (g := gb579) (o := .cells #[.string a0_0, .string a0_1, .int .i64 a0_2, .string a0_3, .bool a0_4] 42 (0, 0)) (bkl BK579.out) hg (Kd.R_ne HO582.out BK579.out (by decide))); have n1_ := aS (Kd.R_after (ok := (fun _ => True)) (rel HO585.out) hg hat); have n2_ := aS (hb); have n3_ := aS (ho); clear BK579; clear HO585; clear HB; clear HO582; have BK579 := n0_; have HO585 := n1_; have HB := n2_; have HO588 := n3_; clear n0_ n1_ n2_ n3_; clear ho hb hg hat; refine hK.out _ _ ⟨bc BK579 0, bc BK579 1, bc BK579 2, bc BK579 3, bc BK579 4⟩ (fun hHeld => ?_); clear hK K; refine nm 10 ?_; refine pure_ (i := 7) (N := some 3) (v := ?_) (a' := ?_) (bA 8 255) rfl rfl (any_of HT_.out (by kernel_rfl)) (fun _ _ _ h => h) (Or.inl ⟨by rfl, ?_⟩) ?_ ?_
   rotate_left
   ·
    intro w'
    go_simp
    with_reducible rfl
   rotate_left
   ·
    simp only [Act.put, lsa, lsz, lss, i64_w, i32_w]
    rfl
   refine done_ (done_of HT_.out (by kernel_rfl)) ?_
   try go_wp2
   go_meet
   case rel => exact ⟨_, (y586), H', ⟨by first | omega | exact Nat.le_refl _⟩, ⟨by (with_reducible repeat (first | apply Kd.R_alloc | apply Kd.R_drewN | apply Kd.R_drew)); exact Kd.R_mono HO588.out (fun _ hk => trivial)⟩, ⟨bkl BK579.out⟩, ⟨bel⟩⟩
  ·
   rw [if_neg c6] at H; exact absurd H (by simp)
 case rest =>
  clear HC2; obtain ⟨kq, x3_1, HA, HJ1, HO_3, BK579, HB⟩ := hcut
  cases kq with
  | zero => exact absurd HA.out (by simp [shardlogref08_Put.j0])
  | succ kj1 =>
   have H := HA.out; clear HA
   simp only [shardlogref08_Put.j0] at H
   have HC12 := aS H; clear H
   go_upto_region 2 with (fail)
   go_cut [3] (fun v3 wc => ∃ (kq : Nat) (x3_11 : List Int), Aside0 (shardlogref08_Put.j1 kq x3_11 a0_0 a0_1 a0_2 a0_3 a0_4 = some r) ∧ Aside0 (kq ≤ kj1) ∧ Aside0 (Kd.R (Kd.int .u8) 5 wc w.heap.size (fun _ => True) v3 x3_11) ∧ Aside0 (wc.heap[gb579]? = some (.cells #[.string a0_0, .string a0_1, .int .i64 a0_2, .string a0_3, .bool a0_4] 42 (0, 0))) ∧ Aside0 (Below w.heap.size w wc))
   case first =>
    have H := HC12.out; clear HC12; replace H := obm H; obtain ⟨t589, A130, H⟩ := H; replace H : (if x3_1.length + t589.length < 140737488355328 then (shardlogref08_Put.j1 kj1 (x3_1 ++ t589) a0_0 a0_1 a0_2 a0_3 a0_4) else (none)) = some r := H; have A13 := aS A130; clear A130
    by_cases c14 : x3_1.length + t589.length < 140737488355328
    ·
     rw [if_pos c14] at H; have LMc14 := aS c14; clear c14
     obtain ⟨y592, hy592⟩ : ∃ y_ : List Int, y_ = (x3_1 ++ t589) := ⟨_, rfl⟩
     replace H : (shardlogref08_Put.j1 kj1 y592 a0_0 a0_1 a0_2 a0_3 a0_4) = some r := hyr hy592 H; have Ny592 := aS hy592; clear hy592
     have H' := aS H
     clear H; have hcz15 := cK5 BK579
     go_wp2_with (first | ((with_reducible refine gate_callee (f := 33) rfl ?_); refine goesL_ (some 14) rfl rfl Try.func33 (by kernel_rfl) rfl #[.int .i64 a0_2] rfl agn ?_; (with_reducible refine (shardlogref01_Num.calls a0_2 t589 _ A13.out).mono ?_); rintro e w16 ⟨v590, rfl, ho0, hb⟩; refine ⟨_, rfl, ?_⟩; have HO591 := aS (Kd.R_lower (Kd.R_new' ho0 (Kd.R_lt (rel HO_3.out))) (below_size bel)); replace HO_3 := aS (Kd.R_elder' (rel HO_3.out) (ebs ho0) hb); replace BK579 := bbl BK579 hb; replace HB := bstep hb; (try clear hb); (try clear hk); (try clear hi); (try clear ho0); obtain ⟨Ao18, co18, eo18⟩ := Kd.R_slice HO591.out; subst eo18) | ((with_reducible refine gate_builtin (b := .append) (xs := #[.tmp 11, .tmp 14]) rfl ?_); at_builtin; refine Kd.R_append_rows (Kd.int .u8) (w0 := w) w.heap.size rfl (.tmp 11) (.tmp 14) 26 5 (.int .u8 0) 1 rfl Try.underlying26 info5 rfl (by decide) (by omega) u3 x3_1 t589 _ _ _ (fun k_ => some k_ ≠ (.slice Ao18 t589.length co18 : Value).ownBlock) (fun _ => False) rfl rfl ?aO ?aR (fun _ _ h => h) (fun _ h => h.elim) ?aF ?aB ?aS ?aL ?_; (case aR => exact cel ((Kd.R_reads' HO591.out).2.2)); (case aB => exact bel); (case aF => exact (fun k_ hk => Kd.fresh' (Kd.R_lt (rel HO591.out)) k_ hk)); (case aO => exact (rel (Kd.R_mono HO_3.out (fun _ hk => hk.2)))); (case aS => exact (below_size bel)); (case aL => have := LMc14.out; omega); intro v593 w17 ho hb hg hat; rw [← Ny592.out] at ho; have n0_ := aS (blk_grown (g := gb579) (o := .cells #[.string a0_0, .string a0_1, .int .i64 a0_2, .string a0_3, .bool a0_4] 42 (0, 0)) (bkl BK579.out) hg (Kd.R_ne HO_3.out BK579.out (by decide))); have n1_ := aS (Kd.R_after (ok := (fun _ => True)) (rel HO591.out) hg hat); have n2_ := aS (hb); have n3_ := aS (ho); clear BK579; clear HO591; clear HB; clear HO_3; have BK579 := n0_; have HO591 := n1_; have HB := n2_; have HO594 := n3_; clear n0_ n1_ n2_ n3_; clear ho hb hg hat))
     go_meet
     case rel => exact ⟨_, (y592), H', ⟨by have := HJ1.out; first | omega | exact Nat.le_refl _⟩, ⟨by (with_reducible repeat (first | apply Kd.R_alloc | apply Kd.R_drewN | apply Kd.R_drew)); exact Kd.R_mono HO594.out (fun _ hk => trivial)⟩, ⟨bkl BK579.out⟩, ⟨bel⟩⟩
    ·
     rw [if_neg c14] at H; exact absurd H (by simp)
   case rest =>
    clear HC12; obtain ⟨kq, x3_11, HA, HJ11, HO_3, BK579, HB⟩ := hcut
    cases kq with
    | zero => exact absurd HA.out (by simp [shardlogref08_Put.j1])
    | succ kj11 =>
     have H := HA.out; clear HA
     simp only [shardlogref08_Put.j1] at H
     by_cases c19 : a0_4 = true
     ·
      subst c19
      have H1 : (if x3_11.length < 140737488355328 then ((some (x3_11 ++ [1] : List Int)).bind fun y595 => ((shardlogref01_Text.f a0_3).bind fun t598 => (if y595.length + t598.length < 140737488355328 then (some (y595 ++ t598)) else (none)))) else (none)) = some r := by rw [if_pos rfl] at H; exact H
      clear H; have H := H1; clear H1
      by_cases c20 : x3_11.length < 140737488355328
      ·
       rw [if_pos c20] at H; have LMc20 := aS c20; clear c20
       obtain ⟨y595, hy595⟩ : ∃ y_ : List Int, y_ = (x3_11 ++ [1]) := ⟨_, rfl⟩
       replace H : ((shardlogref01_Text.f a0_3).bind fun t598 => (if y595.length + t598.length < 140737488355328 then (some (y595 ++ t598)) else (none))) = some r := hyr hy595 H; have Ny595 := aS hy595; clear hy595; replace H := obm H; obtain ⟨t598, A210, H⟩ := H; replace H : (if y595.length + t598.length < 140737488355328 then (some (y595 ++ t598)) else (none)) = some r := H; have A21 := aS A210; clear A210
       by_cases c22 : y595.length + t598.length < 140737488355328
       ·
        rw [if_pos c22] at H; have LMc22 := aS c22; clear c22
        obtain ⟨y601, hy601⟩ : ∃ y_ : List Int, y_ = (y595 ++ t598) := ⟨_, rfl⟩
        replace H : (some y601) = some r := hyr hy601 H; have Ny601 := aS hy601; clear hy601
        obtain rfl := Option.some.inj H
        have hcz23 := cK5 BK579
        go_wp2_with (first | ((with_reducible refine gate_builtin (b := .append) (xs := #[.tmp 18, .tmp 19]) rfl ?_); at_builtin; refine Kd.R_append (Kd.int .u8) (w0 := w) w.heap.size rfl (.tmp 18) (.tmp 19) 26 5 (.int .u8 0) 1 rfl Try.underlying26 info5 rfl (by decide) (by omega) u3 x3_11 1 [.int .u8 1] (fun _ => True) (fun _ => False) rfl rfl ?aP (fun _ hk => hk.elim) ?aF ?aO ?aB ?aS ?aL ?_; (case aP => exact rfl); (case aB => exact bel); (case aF => exact (fun _ _ => trivial)); (case aO => exact (rel HO_3.out)); (case aS => exact (below_size bel)); (case aL => have := LMc20.out; omega); intro v596 w24 ho hb hg hat; rw [← Ny595.out] at ho; have n0_ := aS (blk_grown (g := gb579) (o := .cells #[.string a0_0, .string a0_1, .int .i64 a0_2, .string a0_3, .bool true] 42 (0, 0)) (bkl BK579.out) hg (Kd.R_ne HO_3.out BK579.out (by decide))); have n1_ := aS (hb); have n2_ := aS (ho); clear BK579; clear HB; clear HO_3; have BK579 := n0_; have HB := n1_; have HO597 := n2_; clear n0_ n1_ n2_; clear ho hb hg hat; have hcz25 := cK5 BK579) | ((with_reducible refine gate_callee (f := 37) rfl ?_); refine goesL_ (some 27) rfl rfl Try.func37 (by kernel_rfl) rfl #[.string a0_3] rfl agn ?_; (with_reducible refine (shardlogref01_Text.calls a0_3 t598 _ A21.out).mono ?_); rintro e w26 ⟨v599, rfl, ho0, hb⟩; refine ⟨_, rfl, ?_⟩; have HO600 := aS (Kd.R_lower (Kd.R_new' ho0 (Kd.R_lt (rel HO597.out))) (below_size bel)); replace HO597 := aS (Kd.R_elder' (rel HO597.out) (ebs ho0) hb); replace BK579 := bbl BK579 hb; replace HB := bstep hb; (try clear hb); (try clear hk); (try clear hi); (try clear ho0); obtain ⟨Ao28, co28, eo28⟩ := Kd.R_slice HO600.out; subst eo28) | ((with_reducible refine gate_builtin (b := .append) (xs := #[.tmp 24, .tmp 27]) rfl ?_); at_builtin; refine Kd.R_append_rows (Kd.int .u8) (w0 := w) w.heap.size rfl (.tmp 24) (.tmp 27) 26 5 (.int .u8 0) 1 rfl Try.underlying26 info5 rfl (by decide) (by omega) v596 y595 t598 _ _ _ (fun k_ => some k_ ≠ (.slice Ao28 t598.length co28 : Value).ownBlock) (fun _ => False) rfl rfl ?aO ?aR (fun _ _ h => h) (fun _ h => h.elim) ?aF ?aB ?aS ?aL ?_; (case aR => exact cel ((Kd.R_reads' HO600.out).2.2)); (case aB => exact bel); (case aF => exact (fun k_ hk => Kd.fresh' (Kd.R_lt (rel HO600.out)) k_ hk)); (case aO => exact (rel (Kd.R_mono HO597.out (fun _ hk => hk.2)))); (case aS => exact (below_size bel)); (case aL => have := LMc22.out; omega); intro v602 w27 ho hb hg hat; rw [← Ny601.out] at ho; have n0_ := aS (blk_grown (g := gb579) (o := .cells #[.string a0_0, .string a0_1, .int .i64 a0_2, .string a0_3, .bool true] 42 (0, 0)) (bkl BK579.out) hg (Kd.R_ne HO597.out BK579.out (by decide))); have n1_ := aS (Kd.R_after (ok := (fun _ => True)) (rel HO600.out) hg hat); have n2_ := aS (hb); have n3_ := aS (ho); clear BK579; clear HO600; clear HB; clear HO597; have BK579 := n0_; have HO600 := n1_; have HB := n2_; have HO603 := n3_; clear n0_ n1_ n2_ n3_; clear ho hb hg hat))
        go_ret
        exact ⟨_, rf3, by (with_reducible repeat (first | apply Kd.R_alloc | apply Kd.R_drewN | apply Kd.R_drew)); exact Kd.R_mono HO603.out (fun _ hk => trivial), bel⟩
       ·
        rw [if_neg c22] at H; exact absurd H (by simp)
      ·
       rw [if_neg c20] at H; exact absurd H (by simp)
     ·
      replace c19 := Bool.eq_false_iff.mpr c19; subst c19
      have H1 : (if x3_11.length < 140737488355328 then ((some (x3_11 ++ [0] : List Int)).bind fun y604 => ((shardlogref01_Text.f a0_3).bind fun t607 => (if y604.length + t607.length < 140737488355328 then (some (y604 ++ t607)) else (none)))) else (none)) = some r := by rw [if_neg (show ¬ (false = true) by decide)] at H; exact H
      clear H; have H := H1; clear H1
      by_cases c29 : x3_11.length < 140737488355328
      ·
       rw [if_pos c29] at H; have LMc29 := aS c29; clear c29
       obtain ⟨y604, hy604⟩ : ∃ y_ : List Int, y_ = (x3_11 ++ [0]) := ⟨_, rfl⟩
       replace H : ((shardlogref01_Text.f a0_3).bind fun t607 => (if y604.length + t607.length < 140737488355328 then (some (y604 ++ t607)) else (none))) = some r := hyr hy604 H; have Ny604 := aS hy604; clear hy604; replace H := obm H; obtain ⟨t607, A300, H⟩ := H; replace H : (if y604.length + t607.length < 140737488355328 then (some (y604 ++ t607)) else (none)) = some r := H; have A30 := aS A300; clear A300
       by_cases c31 : y604.length + t607.length < 140737488355328
       ·
        rw [if_pos c31] at H; have LMc31 := aS c31; clear c31
        obtain ⟨y610, hy610⟩ : ∃ y_ : List Int, y_ = (y604 ++ t607) := ⟨_, rfl⟩
        replace H : (some y610) = some r := hyr hy610 H; have Ny610 := aS hy610; clear hy610
        obtain rfl := Option.some.inj H
        have hcz32 := cK5 BK579
        go_wp2_with (first | ((with_reducible refine gate_builtin (b := .append) (xs := #[.tmp 21, .tmp 22]) rfl ?_); at_builtin; refine Kd.R_append (Kd.int .u8) (w0 := w) w.heap.size rfl (.tmp 21) (.tmp 22) 26 5 (.int .u8 0) 1 rfl Try.underlying26 info5 rfl (by decide) (by omega) u3 x3_11 0 [.int .u8 0] (fun _ => True) (fun _ => False) rfl rfl ?aP (fun _ hk => hk.elim) ?aF ?aO ?aB ?aS ?aL ?_; (case aP => exact rfl); (case aB => exact bel); (case aF => exact (fun _ _ => trivial)); (case aO => exact (rel HO_3.out)); (case aS => exact (below_size bel)); (case aL => have := LMc29.out; omega); intro v605 w33 ho hb hg hat; rw [← Ny604.out] at ho; have n0_ := aS (blk_grown (g := gb579) (o := .cells #[.string a0_0, .string a0_1, .int .i64 a0_2, .string a0_3, .bool false] 42 (0, 0)) (bkl BK579.out) hg (Kd.R_ne HO_3.out BK579.out (by decide))); have n1_ := aS (hb); have n2_ := aS (ho); clear BK579; clear HB; clear HO_3; have BK579 := n0_; have HB := n1_; have HO606 := n2_; clear n0_ n1_ n2_; clear ho hb hg hat; have hcz34 := cK5 BK579) | ((with_reducible refine gate_callee (f := 37) rfl ?_); refine goesL_ (some 27) rfl rfl Try.func37 (by kernel_rfl) rfl #[.string a0_3] rfl agn ?_; (with_reducible refine (shardlogref01_Text.calls a0_3 t607 _ A30.out).mono ?_); rintro e w35 ⟨v608, rfl, ho0, hb⟩; refine ⟨_, rfl, ?_⟩; have HO609 := aS (Kd.R_lower (Kd.R_new' ho0 (Kd.R_lt (rel HO606.out))) (below_size bel)); replace HO606 := aS (Kd.R_elder' (rel HO606.out) (ebs ho0) hb); replace BK579 := bbl BK579 hb; replace HB := bstep hb; (try clear hb); (try clear hk); (try clear hi); (try clear ho0); obtain ⟨Ao37, co37, eo37⟩ := Kd.R_slice HO609.out; subst eo37) | ((with_reducible refine gate_builtin (b := .append) (xs := #[.tmp 24, .tmp 27]) rfl ?_); at_builtin; refine Kd.R_append_rows (Kd.int .u8) (w0 := w) w.heap.size rfl (.tmp 24) (.tmp 27) 26 5 (.int .u8 0) 1 rfl Try.underlying26 info5 rfl (by decide) (by omega) v605 y604 t607 _ _ _ (fun k_ => some k_ ≠ (.slice Ao37 t607.length co37 : Value).ownBlock) (fun _ => False) rfl rfl ?aO ?aR (fun _ _ h => h) (fun _ h => h.elim) ?aF ?aB ?aS ?aL ?_; (case aR => exact cel ((Kd.R_reads' HO609.out).2.2)); (case aB => exact bel); (case aF => exact (fun k_ hk => Kd.fresh' (Kd.R_lt (rel HO609.out)) k_ hk)); (case aO => exact (rel (Kd.R_mono HO606.out (fun _ hk => hk.2)))); (case aS => exact (below_size bel)); (case aL => have := LMc31.out; omega); intro v611 w36 ho hb hg hat; rw [← Ny610.out] at ho; have n0_ := aS (blk_grown (g := gb579) (o := .cells #[.string a0_0, .string a0_1, .int .i64 a0_2, .string a0_3, .bool false] 42 (0, 0)) (bkl BK579.out) hg (Kd.R_ne HO606.out BK579.out (by decide))); have n1_ := aS (Kd.R_after (ok := (fun _ => True)) (rel HO609.out) hg hat); have n2_ := aS (hb); have n3_ := aS (ho); clear BK579; clear HO609; clear HB; clear HO606; have BK579 := n0_; have HO609 := n1_; have HB := n2_; have HO612 := n3_; clear n0_ n1_ n2_ n3_; clear ho hb hg hat))
        go_ret
        exact ⟨_, rf3, by (with_reducible repeat (first | apply Kd.R_alloc | apply Kd.R_drewN | apply Kd.R_drew)); exact Kd.R_mono HO612.out (fun _ hk => trivial), bel⟩
       ·
        rw [if_neg c31] at H; exact absurd H (by simp)
      ·
       rw [if_neg c29] at H; exact absurd H (by simp)

end Go.Proofs.Ytinhpolmanccgaa.X
