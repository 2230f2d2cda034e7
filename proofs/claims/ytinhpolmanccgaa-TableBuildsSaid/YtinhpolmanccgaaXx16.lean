-- written by a program of this session's, over the kit's print
import Derived.Test.YtinhpolmanccgaaXx0
import Derived.Test.YtinhpolmanccgaaXx6
import Derived.Test.YtinhpolmanccgaaXx11
import Derived.Test.YtinhpolmanccgaaXx13
import Derived.Test.YtinhpolmanccgaaXx15
namespace Go.Proofs.Ytinhpolmanccgaa.X
open Go.RowKit Go.Proofs.YtinhpolmanccgaaW.PrintWords Go.Proofs.YtinhpolmanccgaaW.PrintLast Go.Proofs.YtinhpolmanccgaaW.PrintMore
attribute [local go_sem] max2_int min2_int max_two min_two max_three min_three max_four min_four gtr_str   -- for this text's walks alone
set_option linter.unusedVariables false
set_option linter.unusedSimpArgs false

/-! ### shardloglaw12_TableBuilds: function 3 -/
mutual
def shardloglaw12_TableBuilds.j0 : Nat → List (S42) → Int → Bool → Bool → Option (Bool)
 | 0, _, _, _, _ => none
 | k + 1, x0, x1, x2, x15 => if x15 = true then ((shardloglaw12_awake.f k).bind fun t757 => (some t757)) else (if x2 = true then ((shardlogref08_Sort.f k x0).bind fun t758 => (shardloglaw12_TableBuilds.j1 k t758 x1)) else (shardloglaw12_TableBuilds.j1 k x0 x1))
def shardloglaw12_TableBuilds.j1 : Nat → List (S42) → Int → Option (Bool)
 | 0, _, _ => none
 | k + 1, x0, x1 => (table_Build.f k x0 x1).bind fun bt761 => ((shardlogref08_Sorted.f k x0).bind fun t765 => (if t765 = true then (shardloglaw12_TableBuilds.j2 k x0 x1 bt761.1 bt761.2 (decide (x1 < 1))) else (shardloglaw12_TableBuilds.j2 k x0 x1 bt761.1 bt761.2 true)))
def shardloglaw12_TableBuilds.j2 : Nat → List (S42) → Int → List Int → Int → Bool → Option (Bool)
 | 0, _, _, _, _, _ => none
 | k + 1, x0, x1, x7, x8, x32 => if x32 = true then (if x8 = 1 then (some ((x7.length : Int) == 0)) else (none)) else (if x8 = 0 then ((shardlogref12_Build.f k x0 x1).bind fun t766 => ((shardlogref01_Same.f x7 t766).bind fun t769 => (some t769))) else (none))
end
def shardloglaw12_TableBuilds.f (k : Nat) (l0 : List (S42)) (a1 : Int) (a2 : Bool) : Option (Bool) := (shardloglaw12_awake.f k).bind fun t755 => (if t755 = true then ((shardlogref08_Few.f k l0).bind fun t756 => (shardloglaw12_TableBuilds.j0 k l0 a1 a2 (!t756))) else (shardloglaw12_TableBuilds.j0 k l0 a1 a2 true))
theorem shardloglaw12_TableBuilds.mono_l : ∀ k, (∀ y0 y1 y2 y3, LeO (shardloglaw12_TableBuilds.j0 k y0 y1 y2 y3) (shardloglaw12_TableBuilds.j0 (k + 1) y0 y1 y2 y3)) ∧ (∀ y0 y1, LeO (shardloglaw12_TableBuilds.j1 k y0 y1) (shardloglaw12_TableBuilds.j1 (k + 1) y0 y1)) ∧ (∀ y0 y1 y2 y3 y4, LeO (shardloglaw12_TableBuilds.j2 k y0 y1 y2 y3 y4) (shardloglaw12_TableBuilds.j2 (k + 1) y0 y1 y2 y3 y4))
 | 0 => ⟨fun _ _ _ _ r h => by simp [shardloglaw12_TableBuilds.j0] at h, fun _ _ r h => by simp [shardloglaw12_TableBuilds.j1] at h, fun _ _ _ _ _ r h => by simp [shardloglaw12_TableBuilds.j2] at h⟩
 | k + 1 => by
  obtain ⟨ih0, ih1, ih2⟩ := shardloglaw12_TableBuilds.mono_l k; refine ⟨?_, ?_, ?_⟩
  ·
   intro y0 y1 y2 y3
   unfold shardloglaw12_TableBuilds.j0
   repeat' first
   | (with_reducible exact ih0 _ _ _ _)
   | (with_reducible exact ih1 _ _)
   | (with_reducible exact ih2 _ _ _ _ _)
   | (with_reducible exact shardloglaw12_awake.mono _)
   | (with_reducible exact shardlogref08_Few.mono _ _)
   | (with_reducible exact shardlogref08_Sort.mono _ _)
   | (with_reducible exact shardlogref08_Sorted.mono _ _)
   | (with_reducible exact shardlogref12_Build.mono _ _ _)
   | (with_reducible exact table_Build.mono _ _ _)
   | (with_reducible exact LeO.refl _)
   | (with_reducible exact LeO.none _)
   | (with_reducible refine LeO.ite ?_ ?_)
   | (with_reducible refine LeO.bind ?_ (fun _ => ?_))
   | exact LeO.none _
   | refine LeO.ite ?_ ?_
   | refine LeO.bind ?_ (fun _ => ?_)
  ·
   intro y0 y1
   unfold shardloglaw12_TableBuilds.j1
   repeat' first
   | (with_reducible exact ih0 _ _ _ _)
   | (with_reducible exact ih1 _ _)
   | (with_reducible exact ih2 _ _ _ _ _)
   | (with_reducible exact shardloglaw12_awake.mono _)
   | (with_reducible exact shardlogref08_Few.mono _ _)
   | (with_reducible exact shardlogref08_Sort.mono _ _)
   | (with_reducible exact shardlogref08_Sorted.mono _ _)
   | (with_reducible exact shardlogref12_Build.mono _ _ _)
   | (with_reducible exact table_Build.mono _ _ _)
   | (with_reducible exact LeO.refl _)
   | (with_reducible exact LeO.none _)
   | (with_reducible refine LeO.ite ?_ ?_)
   | (with_reducible refine LeO.bind ?_ (fun _ => ?_))
   | exact LeO.none _
   | refine LeO.ite ?_ ?_
   | refine LeO.bind ?_ (fun _ => ?_)
  ·
   intro y0 y1 y2 y3 y4
   unfold shardloglaw12_TableBuilds.j2
   repeat' first
   | (with_reducible exact ih0 _ _ _ _)
   | (with_reducible exact ih1 _ _)
   | (with_reducible exact ih2 _ _ _ _ _)
   | (with_reducible exact shardloglaw12_awake.mono _)
   | (with_reducible exact shardlogref08_Few.mono _ _)
   | (with_reducible exact shardlogref08_Sort.mono _ _)
   | (with_reducible exact shardlogref08_Sorted.mono _ _)
   | (with_reducible exact shardlogref12_Build.mono _ _ _)
   | (with_reducible exact table_Build.mono _ _ _)
   | (with_reducible exact LeO.refl _)
   | (with_reducible exact LeO.none _)
   | (with_reducible refine LeO.ite ?_ ?_)
   | (with_reducible refine LeO.bind ?_ (fun _ => ?_))
   | exact LeO.none _
   | refine LeO.ite ?_ ?_
   | refine LeO.bind ?_ (fun _ => ?_)
theorem shardloglaw12_TableBuilds.mono : ∀ a0 a1 a2 k, LeO (shardloglaw12_TableBuilds.f k a0 a1 a2) (shardloglaw12_TableBuilds.f (k + 1) a0 a1 a2) := by
 intro a0 a1 a2 k
 obtain ⟨ih0, ih1, ih2⟩ := shardloglaw12_TableBuilds.mono_l k
 unfold shardloglaw12_TableBuilds.f
 repeat' first
   | (with_reducible exact ih0 _ _ _ _)
   | (with_reducible exact ih1 _ _)
   | (with_reducible exact ih2 _ _ _ _ _)
   | (with_reducible exact shardloglaw12_awake.mono _)
   | (with_reducible exact shardlogref08_Few.mono _ _)
   | (with_reducible exact shardlogref08_Sort.mono _ _)
   | (with_reducible exact shardlogref08_Sorted.mono _ _)
   | (with_reducible exact shardlogref12_Build.mono _ _ _)
   | (with_reducible exact table_Build.mono _ _ _)
   | (with_reducible exact LeO.refl _)
   | (with_reducible exact LeO.none _)
   | (with_reducible refine LeO.ite ?_ ?_)
   | (with_reducible refine LeO.bind ?_ (fun _ => ?_))
   | exact LeO.none _
   | refine LeO.ite ?_ ?_
   | refine LeO.bind ?_ (fun _ => ?_)
set_option maxHeartbeats 8000000 in
set_option maxRecDepth 100000 in
theorem shardloglaw12_TableBuilds.calls (k : Nat) (P0_ : Nat → Prop) (A0 : Option Addr) (c0 : Nat) (l0 : List (S42)) (a1 : Int) (a2 : Bool) (r : Bool) (w : World) (hs0 : Kd.V k42 42 w w.heap.size (fun k_ => P0_ k_) (.slice A0 l0.length c0) l0) (h : shardloglaw12_TableBuilds.f k l0 a1 a2 = some r) :
  Calls Try.prog 3 #[.slice A0 l0.length c0, .int .i64 a1, .bool a2] w fun e w' => e = .returned (.bool r) ∧ Below w.heap.size w w' := by
 have HO0 := aS (show Kd.V k42 42 w w.heap.size (fun k_ => (P0_ k_ ∨ w.heap.size ≤ k_)) (.slice A0 l0.length c0) l0 from Kd.V_mono hs0 (fun k_ hk => .inl hk)); have HB := aS (Below.refl w.heap.size w); have H : ((shardloglaw12_awake.f k).bind fun t755 => (if t755 = true then ((shardlogref08_Few.f k l0).bind fun t756 => (shardloglaw12_TableBuilds.j0 k l0 a1 a2 (!t756))) else (shardloglaw12_TableBuilds.j0 k l0 a1 a2 true))) = some r := h; clear h; have HC4 := aS H; clear H
 go_enter Try.func3, Try.ntmps3
 go_upto_region 1 with (fail)
 go_cut [15] (fun v15 wc => ∃ (kq : Nat) (x15_3 : Bool), v15 = .bool x15_3 ∧ Aside0 (shardloglaw12_TableBuilds.j0 kq l0 a1 a2 x15_3 = some r) ∧ Aside0 (kq ≤ k) ∧ Aside0 (Kd.V k42 42 wc w.heap.size (fun k_ => (P0_ k_ ∨ w.heap.size ≤ k_)) (.slice A0 l0.length c0) l0) ∧ Aside0 (Below w.heap.size w wc))
 case first =>
  have H := HC4.out; clear HC4; replace H := obm H; obtain ⟨t755, A50, H⟩ := H; replace H : (if t755 = true then ((shardlogref08_Few.f k l0).bind fun t756 => (shardloglaw12_TableBuilds.j0 k l0 a1 a2 (!t756))) else (shardloglaw12_TableBuilds.j0 k l0 a1 a2 true)) = some r := H; have A5 := aS A50; clear A50
  by_cases c6 : t755 = true
  ·
   subst c6
   have H1 : ((shardlogref08_Few.f k l0).bind fun t756 => (shardloglaw12_TableBuilds.j0 k l0 a1 a2 (!t756))) = some r := by rw [if_pos rfl] at H; exact H
   clear H; have H := H1; clear H1; replace H := obm H; obtain ⟨t756, A70, H⟩ := H; replace H : (shardloglaw12_TableBuilds.j0 k l0 a1 a2 (!t756)) = some r := H; have A7 := aS A70; clear A70
   have H' := aS H
   clear H
   go_wp2_with (first | ((with_reducible refine gate_callee (f := 9) rfl ?_); refine goesL_ (some 9) rfl rfl Try.func9 (by kernel_rfl) rfl #[] rfl agn ?_; (with_reducible refine (shardloglaw12_awake.calls k  true _ A5.out).mono ?_); rintro e w8 ⟨rfl, hb⟩; refine ⟨_, rfl, ?_⟩; replace HO0 := aS (Kd.V_below (sel HO0.out) hb); replace HB := bstep hb; (try clear hb); (try clear hk); (try clear hi)) | (go_at_call 10; (with_reducible refine (shardlogref08_Few.calls k _ _ l0 t756 _ ?side1 ?side2 A7.out).mono ?_); (case side1 => exact cel ((Kd.V_reads' HO0.out).2.2)); (case side2 => exact (Kd.V_reads' HO0.out).2.1); rintro e w9 ⟨rfl, hb⟩; replace HO0 := aS (Kd.V_below (sel HO0.out) hb); replace HB := bstep hb; (try clear hb); (try clear hk); (try clear hi)))
   go_meet
   case rel => exact ⟨_, (!t756), srf, H', ⟨by first | omega | exact Nat.le_refl _⟩, ⟨by (with_reducible repeat (first | apply Kd.V_alloc | apply Kd.V_drewN | apply Kd.V_drew)); exact HO0.out⟩, ⟨bel⟩⟩
  ·
   replace c6 := Bool.eq_false_iff.mpr c6; subst c6
   have H1 : (shardloglaw12_TableBuilds.j0 k l0 a1 a2 true) = some r := by rw [if_neg (show ¬ (false = true) by decide)] at H; exact H
   clear H; have H := H1; clear H1
   have H' := aS H
   clear H
   go_wp2_with (first | ((with_reducible refine gate_callee (f := 9) rfl ?_); refine goesL_ (some 9) rfl rfl Try.func9 (by kernel_rfl) rfl #[] rfl agn ?_; (with_reducible refine (shardloglaw12_awake.calls k  false _ A5.out).mono ?_); rintro e w10 ⟨rfl, hb⟩; refine ⟨_, rfl, ?_⟩; replace HO0 := aS (Kd.V_below (sel HO0.out) hb); replace HB := bstep hb; (try clear hb); (try clear hk); (try clear hi)))
   go_meet
   case rel => exact ⟨_, (true), srf, H', ⟨by first | omega | exact Nat.le_refl _⟩, ⟨by (with_reducible repeat (first | apply Kd.V_alloc | apply Kd.V_drewN | apply Kd.V_drew)); exact HO0.out⟩, ⟨bel⟩⟩
 case rest =>
  clear HC4; obtain ⟨kq, x15_3, rfl, HA, HJ3, HO_0, HB⟩ := hcut
  cases kq with
  | zero => exact absurd HA.out (by simp [shardloglaw12_TableBuilds.j0])
  | succ kj3 =>
   have H := HA.out; clear HA
   simp only [shardloglaw12_TableBuilds.j0] at H
   by_cases c11 : x15_3 = true
   ·
    subst c11
    have H1 : ((shardloglaw12_awake.f kj3).bind fun t757 => (some t757)) = some r := by rw [if_pos rfl] at H; exact H
    clear H; have H := H1; clear H1; replace H := obm H; obtain ⟨t757, A120, H⟩ := H; replace H : (some t757) = some r := H; have A12 := aS A120; clear A120
    obtain rfl := Option.some.inj H
    go_wp2_with (first | ((with_reducible refine gate_callee (f := 9) rfl ?_); refine goesL_ (some 16) rfl rfl Try.func9 (by kernel_rfl) rfl #[] rfl agn ?_; (with_reducible refine (shardloglaw12_awake.calls kj3  t757 _ A12.out).mono ?_); rintro e w13 ⟨rfl, hb⟩; refine ⟨_, rfl, ?_⟩; replace HO_0 := aS (Kd.V_below (sel HO_0.out) hb); replace HB := bstep hb; (try clear hb); (try clear hk); (try clear hi)))
    go_ret
    exact ⟨rf3, bel⟩
   ·
    replace c11 := Bool.eq_false_iff.mpr c11; subst c11
    have H1 : (if a2 = true then ((shardlogref08_Sort.f kj3 l0).bind fun t758 => (shardloglaw12_TableBuilds.j1 kj3 t758 a1)) else (shardloglaw12_TableBuilds.j1 kj3 l0 a1)) = some r := by rw [if_neg (show ¬ (false = true) by decide)] at H; exact H
    clear H; have H := H1; clear H1; have HC14 := aS H; clear H
    go_upto_if 17 with (fail)
    go_cut [0] (fun v0 wc => ∃ (kq : Nat) (x0_13 : List (S42)), Aside0 (shardloglaw12_TableBuilds.j1 kq x0_13 a1 = some r) ∧ Aside0 (kq ≤ kj3) ∧ Aside0 (Kd.V k42 42 wc w.heap.size (fun k_ => (P0_ k_ ∨ w.heap.size ≤ k_)) v0 x0_13) ∧ Aside0 (Below w.heap.size w wc))
    case first =>
     have H := HC14.out; clear HC14
     by_cases c15 : a2 = true
     ·
      subst c15
      have H1 : ((shardlogref08_Sort.f kj3 l0).bind fun t758 => (shardloglaw12_TableBuilds.j1 kj3 t758 a1)) = some r := by rw [if_pos rfl] at H; exact H
      clear H; have H := H1; clear H1; replace H := obm H; obtain ⟨t758, A160, H⟩ := H; replace H : (shardloglaw12_TableBuilds.j1 kj3 t758 a1) = some r := H; have A16 := aS A160; clear A160
      have H' := aS H
      clear H
      go_wp2_with (first | ((with_reducible refine gate_callee (f := 11) rfl ?_); refine goesL_ (some 19) rfl rfl Try.func11 (by kernel_rfl) rfl #[.slice A0 l0.length c0] rfl agn ?_; (with_reducible refine (shardlogref08_Sort.calls kj3 _ _ l0 t758 _ ?side1 ?side2 A16.out).mono ?_); (case side1 => exact cel ((Kd.V_reads' HO_0.out).2.2)); (case side2 => exact (Kd.V_reads' HO_0.out).2.1); rintro e w17 ⟨v759, rfl, ho0, hb⟩; refine ⟨_, rfl, ?_⟩; replace HO_0 := aS (Kd.V_elder' (sel HO_0.out) (ebs ho0) hb); have HO760 := aS (Kd.R_lower (Kd.R_newM (M := fun k_ => (w.heap.size ≤ k_)) ho0 (below_size bel) (fun k_ h_ => h_)) (below_size bel)); replace HB := bstep hb; (try clear hb); (try clear hk); (try clear hi); (try clear ho0)))
      go_meet
      case rel => exact ⟨_, (t758), H', ⟨by have := HJ3.out; first | omega | exact Nat.le_refl _⟩, ⟨Kd.V_mono (Kd.R_V (rel (Kd.R_mono HO760.out (fun _ hk => hk.1)))) (fun k_ hk => by first | exact ⟨(.inr (hk.1)), hk.2⟩ | exact (.inr (hk)))⟩, ⟨bel⟩⟩
     ·
      replace c15 := Bool.eq_false_iff.mpr c15; subst c15
      have H1 : (shardloglaw12_TableBuilds.j1 kj3 l0 a1) = some r := by rw [if_neg (show ¬ (false = true) by decide)] at H; exact H
      clear H; have H := H1; clear H1
      have H' := aS H
      clear H
      go_wp2
      go_meet
      case rel => exact ⟨_, (l0), H', ⟨by have := HJ3.out; first | omega | exact Nat.le_refl _⟩, ⟨by (with_reducible repeat (first | apply Kd.V_alloc | apply Kd.V_drewN | apply Kd.V_drew)); exact HO_0.out⟩, ⟨bel⟩⟩
    case rest =>
     clear HC14; (try clear c11); obtain ⟨kq, x0_13, HA, HJ13, HO_0, HB⟩ := hcut
     cases kq with
     | zero => exact absurd HA.out (by simp [shardloglaw12_TableBuilds.j1])
     | succ kj13 =>
      have H := HA.out; clear HA
      simp only [shardloglaw12_TableBuilds.j1] at H
      replace H := obm H; obtain ⟨⟨t761, t762⟩, A180, H⟩ := H; replace H : ((shardlogref08_Sorted.f kj13 x0_13).bind fun t765 => (if t765 = true then (shardloglaw12_TableBuilds.j2 kj13 x0_13 a1 t761 t762 (decide (a1 < 1))) else (shardloglaw12_TableBuilds.j2 kj13 x0_13 a1 t761 t762 true))) = some r := H; have A18 := aS A180; clear A180; have HC19 := aS H; clear H; obtain ⟨Ao20, co20, eo20⟩ := Kd.V_slice HO_0.out; subst eo20
      go_upto_region 6 with (first | ((with_reducible refine gate_callee (f := 12) rfl ?_); refine goesL_ (some 23) rfl rfl Try.func12 (by kernel_rfl) rfl #[.slice Ao20 x0_13.length co20, .int .i64 a1] rfl agn ?_; (with_reducible refine (table_Build.calls kj13 _ _ x0_13 a1 t761 t762 _ ?side1 ?side2 A18.out).mono ?_); (case side1 => exact cel ((Kd.V_reads' HO_0.out).2.2)); (case side2 => exact (Kd.V_reads' HO_0.out).2.1); rintro e w21 ⟨v763, rfl, ho0, hb⟩; refine ⟨_, rfl, ?_⟩; replace HO_0 := aS (Kd.V_elder' (sel HO_0.out) (ebs ho0) hb); have HO764 := aS (Kd.R_lower (Kd.R_newM (M := fun k_ => (w.heap.size ≤ k_)) ho0 (below_size bel) (fun k_ h_ => h_)) (below_size bel)); replace HB := bstep hb; (try clear hb); (try clear hk); (try clear hi); (try clear ho0)))
      (try simp only [Act.put, lsa, lsz, lss])
      go_cut [32] (fun v32 wc => ∃ (kq : Nat) (x32_18 : Bool), v32 = .bool x32_18 ∧ Aside0 (shardloglaw12_TableBuilds.j2 kq x0_13 a1 t761 t762 x32_18 = some r) ∧ Aside0 (kq ≤ kj13) ∧ Aside0 (Kd.V k42 42 wc w.heap.size (fun k_ => (P0_ k_ ∨ w.heap.size ≤ k_) ∧ some k_ ≠ (v763 : Value).ownBlock) (.slice Ao20 x0_13.length co20) x0_13) ∧ Aside0 (Kd.R (Kd.int .u8) 5 wc w.heap.size (fun k_ => (w.heap.size ≤ k_)) v763 t761) ∧ Aside0 (Below w.heap.size w wc))
      case first =>
       have H := HC19.out; clear HC19; replace H := obm H; obtain ⟨t765, A220, H⟩ := H; replace H : (if t765 = true then (shardloglaw12_TableBuilds.j2 kj13 x0_13 a1 t761 t762 (decide (a1 < 1))) else (shardloglaw12_TableBuilds.j2 kj13 x0_13 a1 t761 t762 true)) = some r := H; have A22 := aS A220; clear A220
       by_cases c23 : t765 = true
       ·
        subst c23
        have H1 : (shardloglaw12_TableBuilds.j2 kj13 x0_13 a1 t761 t762 (decide (a1 < 1))) = some r := by rw [if_pos rfl] at H; exact H
        clear H; have H := H1; clear H1
        have H' := aS H
        clear H
        go_wp2_with (first | ((with_reducible refine gate_callee (f := 13) rfl ?_); refine goesL_ (some 27) rfl rfl Try.func13 (by kernel_rfl) rfl #[.slice Ao20 x0_13.length co20] rfl agn ?_; (with_reducible refine (shardlogref08_Sorted.calls kj13 _ _ x0_13 true _ ?side1 ?side2 A22.out).mono ?_); (case side1 => exact cel ((Kd.V_reads' HO_0.out).2.2)); (case side2 => exact (Kd.V_reads' HO_0.out).2.1); rintro e w24 ⟨rfl, hb⟩; refine ⟨_, rfl, ?_⟩; replace HO_0 := aS (Kd.V_below (sel HO_0.out) hb); replace HO764 := aS (Kd.R_below (rel HO764.out) hb); replace HB := bstep hb; (try clear hb); (try clear hk); (try clear hi)))
        go_meet
        case rel => exact ⟨_, (decide (a1 < 1)), srf, H', ⟨by have := HJ3.out; have := HJ13.out; first | omega | exact Nat.le_refl _⟩, ⟨by (with_reducible repeat (first | apply Kd.V_alloc | apply Kd.V_drewN | apply Kd.V_drew)); exact HO_0.out⟩, ⟨by (with_reducible repeat (first | apply Kd.R_alloc | apply Kd.R_drewN | apply Kd.R_drew)); exact Kd.R_mono HO764.out (fun _ hk => hk.1)⟩, ⟨bel⟩⟩
       ·
        replace c23 := Bool.eq_false_iff.mpr c23; subst c23
        have H1 : (shardloglaw12_TableBuilds.j2 kj13 x0_13 a1 t761 t762 true) = some r := by rw [if_neg (show ¬ (false = true) by decide)] at H; exact H
        clear H; have H := H1; clear H1
        have H' := aS H
        clear H
        go_wp2_with (first | ((with_reducible refine gate_callee (f := 13) rfl ?_); refine goesL_ (some 27) rfl rfl Try.func13 (by kernel_rfl) rfl #[.slice Ao20 x0_13.length co20] rfl agn ?_; (with_reducible refine (shardlogref08_Sorted.calls kj13 _ _ x0_13 false _ ?side1 ?side2 A22.out).mono ?_); (case side1 => exact cel ((Kd.V_reads' HO_0.out).2.2)); (case side2 => exact (Kd.V_reads' HO_0.out).2.1); rintro e w25 ⟨rfl, hb⟩; refine ⟨_, rfl, ?_⟩; replace HO_0 := aS (Kd.V_below (sel HO_0.out) hb); replace HO764 := aS (Kd.R_below (rel HO764.out) hb); replace HB := bstep hb; (try clear hb); (try clear hk); (try clear hi)))
        go_meet
        case rel => exact ⟨_, (true), srf, H', ⟨by have := HJ3.out; have := HJ13.out; first | omega | exact Nat.le_refl _⟩, ⟨by (with_reducible repeat (first | apply Kd.V_alloc | apply Kd.V_drewN | apply Kd.V_drew)); exact HO_0.out⟩, ⟨by (with_reducible repeat (first | apply Kd.R_alloc | apply Kd.R_drewN | apply Kd.R_drew)); exact Kd.R_mono HO764.out (fun _ hk => hk.1)⟩, ⟨bel⟩⟩
      case rest =>
       clear HC19; (try clear c11); obtain ⟨kq, x32_18, rfl, HA, HJ18, HO_0, HO_7, HB⟩ := hcut
       cases kq with
       | zero => exact absurd HA.out (by simp [shardloglaw12_TableBuilds.j2])
       | succ kj18 =>
        have H := HA.out; clear HA
        simp only [shardloglaw12_TableBuilds.j2] at H
        by_cases c26 : x32_18 = true
        ·
         subst c26
         have H1 : (if t762 = 1 then (some ((t761.length : Int) == 0)) else (none)) = some r := by rw [if_pos rfl] at H; exact H
         clear H; have H := H1; clear H1
         by_cases c27 : t762 = 1
         ·
          rw [if_pos c27] at H; obtain ⟨c27b0, c27b1⟩ := eqT c27; clear c27
          obtain rfl := Option.some.inj H
          obtain ⟨Ao28, co28, eo28⟩ := Kd.R_slice HO_7.out; subst eo28
          go_wp2
          go_ret
          exact ⟨rf3, bel⟩
         ·
          rw [if_neg c27] at H; exact absurd H (by simp)
        ·
         replace c26 := Bool.eq_false_iff.mpr c26; subst c26
         have H1 : (if t762 = 0 then ((shardlogref12_Build.f kj18 x0_13 a1).bind fun t766 => ((shardlogref01_Same.f t761 t766).bind fun t769 => (some t769))) else (none)) = some r := by rw [if_neg (show ¬ (false = true) by decide)] at H; exact H
         clear H; have H := H1; clear H1
         by_cases c29 : t762 = 0
         ·
          rw [if_pos c29] at H; obtain ⟨c29b0, c29b1⟩ := eqT c29; clear c29; replace H := obm H; obtain ⟨t766, A300, H⟩ := H; replace H : ((shardlogref01_Same.f t761 t766).bind fun t769 => (some t769)) = some r := H; have A30 := aS A300; clear A300; replace H := obm H; obtain ⟨t769, A310, H⟩ := H; replace H : (some t769) = some r := H; have A31 := aS A310; clear A310
          obtain rfl := Option.some.inj H
          go_wp2_with (first | (go_at_call 15; (with_reducible refine (shardlogref12_Build.calls kj18 _ _ x0_13 a1 t766 _ ?side1 ?side2 A30.out).mono ?_); (case side1 => exact cel ((Kd.V_reads' HO_0.out).2.2)); (case side2 => exact (Kd.V_reads' HO_0.out).2.1); rintro e w32 ⟨v767, rfl, ho0, hb⟩; replace HO_0 := aS (Kd.V_elder' (sel HO_0.out) (ebs ho0) hb); have HO768 := aS (Kd.R_lower (Kd.R_new' (Kd.R_newM (M := fun k_ => (w.heap.size ≤ k_)) ho0 (below_size bel) (fun k_ h_ => h_)) (Kd.R_lt (rel HO_7.out))) (below_size bel)); replace HO_7 := aS (Kd.R_elder' (rel HO_7.out) (ebs ho0) hb); replace HB := bstep hb; (try clear hb); (try clear hk); (try clear hi); (try clear ho0); obtain ⟨Ao33, co33, eo33⟩ := Kd.R_slice HO_7.out; subst eo33; obtain ⟨Ao34, co34, eo34⟩ := Kd.R_slice HO768.out; subst eo34) | (go_at_call 14; (with_reducible refine (shardlogref01_Same.calls _ _ t761 _ _ t766 t769 _ ?side1 ?side2 ?side3 ?side4 A31.out).mono ?_); (case side1 => exact cel ((Kd.R_reads' HO_7.out).2.2)); (case side2 => exact (Kd.R_reads' HO_7.out).2.1); (case side3 => exact cel ((Kd.R_reads' HO768.out).2.2)); (case side4 => exact (Kd.R_reads' HO768.out).2.1); rintro e w' ⟨rfl, ⟨nd, rfl⟩⟩))
          go_ret
          exact ⟨rf3, bel⟩
         ·
          rw [if_neg c29] at H; exact absurd H (by simp)

/-- THE ONE PURE STATEMENT of shardloglaw12_TableBuilds. -/
def shardloglaw12_TableBuilds.Pure : Prop := ∀ (l0 : List (S42)) (a1 : Int) (a2 : Bool), (l0.length ≤ maxLen ∧ l0.length * 64 ≤ 140737488351232 ∧ ∀ y0_ ∈ l0, (y0_.f0.size ≤ 140737488351232 ∧ y0_.f1.size ≤ 140737488351232 ∧ (Lit.int .i64 y0_.f2).wf = true ∧ y0_.f3.size ≤ 140737488351232 ∧ True)) → (Lit.int .i64 a1).wf = true → ∃ k, shardloglaw12_TableBuilds.f k l0 a1 a2 = some true
theorem shardloglaw12_TableBuilds.walk (P : shardloglaw12_TableBuilds.Pure) (A0 : Option Addr) (c0 : Nat) (l0 : List (S42)) (a1 : Int) (a2 : Bool) (w : World) (wf0 : (l0.length ≤ maxLen ∧ l0.length * 64 ≤ 140737488351232 ∧ ∀ y0_ ∈ l0, (y0_.f0.size ≤ 140737488351232 ∧ y0_.f1.size ≤ 140737488351232 ∧ (Lit.int .i64 y0_.f2).wf = true ∧ y0_.f3.size ≤ 140737488351232 ∧ True))) (hr0 : Kd.C k42 w A0 l0.length l0) (hc0 : l0.length ≤ c0) (wf1 : (Lit.int .i64 a1).wf = true) :
  Calls Try.prog 3 #[.slice A0 l0.length c0, .int .i64 a1, .bool a2] w fun e w' => e = .returned (.bool true) ∧ Below w.heap.size w w' := by
 obtain ⟨k, h⟩ := P l0 a1 a2 wf0 wf1; refine (shardloglaw12_TableBuilds.calls k (fun _ => True) A0 c0 l0 a1 a2 true w (Kd.V_mk hc0 (fun W' hW => Kd.Heap.C k42_heap (fun k hk => hW k trivial hk) hr0)) h).mono ?_
 rintro e w' ⟨rfl, hd⟩
 exact ⟨rfl, hd⟩

end Go.Proofs.Ytinhpolmanccgaa.X
