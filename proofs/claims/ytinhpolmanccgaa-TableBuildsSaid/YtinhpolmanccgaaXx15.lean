-- written by a program of this session's, over the kit's print
import Derived.Test.YtinhpolmanccgaaXx0
import Derived.Test.YtinhpolmanccgaaXx13
import Derived.Test.YtinhpolmanccgaaXx14
namespace Go.Proofs.Ytinhpolmanccgaa.X
open Go.RowKit Go.Proofs.YtinhpolmanccgaaW.PrintWords Go.Proofs.YtinhpolmanccgaaW.PrintLast Go.Proofs.YtinhpolmanccgaaW.PrintMore
attribute [local go_sem] max2_int min2_int max_two min_two max_three min_three max_four min_four gtr_str   -- for this text's walks alone
set_option linter.unusedVariables false
set_option linter.unusedSimpArgs false

/-! ### shardlogref11_Make: function 26 -/
mutual
def shardlogref11_Make.j0 : Nat → List ByteArray → Int → Option (List Int)
 | 0, _, _ => none
 | k + 1, x0, x3 => if 0 ≤ (wrap64 (8 * x3)) then (if (wrap64 (8 * x3) : Int).toNat ≤ 281474976710656 then (shardlogref11_Make.l0 k x0 x3 (List.replicate (wrap64 (8 * x3) : Int).toNat false) 0) else (none)) else (none)
def shardlogref11_Make.l0 : Nat → List ByteArray → Int → List Bool → Int → Option (List Int)
 | 0, _, _, _, _ => none
 | k + 1, x0, x3, x4, x5 => if x5 < (x0.length : Int) then (if 0 ≤ x5 then ((shardlogref11_Bits.f k (rdOf ByteArray.empty x0 x5) (wrap64 (8 * x3))).bind fun t652 => (shardlogref11_Make.l1 k x0 x3 x4 x5 t652 0)) else (none)) else (shardlogref11_Make.l2 k x3 x4 ([] : List Int) 0)
def shardlogref11_Make.l1 : Nat → List ByteArray → Int → List Bool → Int → List Int → Int → Option (List Int)
 | 0, _, _, _, _, _, _ => none
 | k + 1, x0, x3, x4, x5, x6, x7 => if x7 < (x6.length : Int) then (if 0 ≤ x7 then (if 0 ≤ (rd x6 x7) then (if (rd x6 x7) < (x4.length : Int) then (shardlogref11_Make.l1 k x0 x3 (x4.set ((rd x6 x7) : Int).toNat true) x5 x6 (wrap64 (x7 + 1))) else (none)) else (none)) else (none)) else (shardlogref11_Make.l0 k x0 x3 x4 (wrap64 (x5 + 1)))
def shardlogref11_Make.l2 : Nat → Int → List Bool → List Int → Int → Option (List Int)
 | 0, _, _, _, _ => none
 | k + 1, x3, x4, x8, x9 => if x9 < x3 then (shardlogref11_Make.l3 k x3 x4 x8 x9 0 7) else (some x8)
def shardlogref11_Make.l3 : Nat → Int → List Bool → List Int → Int → Int → Int → Option (List Int)
 | 0, _, _, _, _, _, _ => none
 | k + 1, x3, x4, x8, x9, x10, x11 => if x11 ≥ 0 then (if 0 ≤ (wrap64 ((wrap64 (8 * x9)) + x11)) then (if (wrap64 ((wrap64 (8 * x9)) + x11)) < (x4.length : Int) then (if rdOf false x4 (wrap64 ((wrap64 (8 * x9)) + x11)) = true then (shardlogref11_Make.l3 k x3 x4 x8 x9 (wrap64 ((wrap64 (2 * x10)) + 1)) (wrap64 (x11 - 1))) else (shardlogref11_Make.l3 k x3 x4 x8 x9 (wrap64 (2 * x10)) (wrap64 (x11 - 1)))) else (none)) else (none)) else (if x8.length < 140737488355328 then (shardlogref11_Make.l2 k x3 x4 (x8 ++ [(x10) % 256]) (wrap64 (x9 + 1))) else (none))
end
def shardlogref11_Make.f (k : Nat) (l0 : List ByteArray) : Option (List Int) := if (l0.length : Int) = 0 then (shardlogref11_Make.j0 k l0 1) else (shardlogref11_Make.j0 k l0 (l0.length : Int))
theorem shardlogref11_Make.mono_l : ∀ k, (∀ y0 y1, LeO (shardlogref11_Make.j0 k y0 y1) (shardlogref11_Make.j0 (k + 1) y0 y1)) ∧ (∀ y0 y1 y2 y3, LeO (shardlogref11_Make.l0 k y0 y1 y2 y3) (shardlogref11_Make.l0 (k + 1) y0 y1 y2 y3)) ∧ (∀ y0 y1 y2 y3 y4 y5, LeO (shardlogref11_Make.l1 k y0 y1 y2 y3 y4 y5) (shardlogref11_Make.l1 (k + 1) y0 y1 y2 y3 y4 y5)) ∧ (∀ y0 y1 y2 y3, LeO (shardlogref11_Make.l2 k y0 y1 y2 y3) (shardlogref11_Make.l2 (k + 1) y0 y1 y2 y3)) ∧ (∀ y0 y1 y2 y3 y4 y5, LeO (shardlogref11_Make.l3 k y0 y1 y2 y3 y4 y5) (shardlogref11_Make.l3 (k + 1) y0 y1 y2 y3 y4 y5))
 | 0 => ⟨fun _ _ r h => by simp [shardlogref11_Make.j0] at h, fun _ _ _ _ r h => by simp [shardlogref11_Make.l0] at h, fun _ _ _ _ _ _ r h => by simp [shardlogref11_Make.l1] at h, fun _ _ _ _ r h => by simp [shardlogref11_Make.l2] at h, fun _ _ _ _ _ _ r h => by simp [shardlogref11_Make.l3] at h⟩
 | k + 1 => by
  obtain ⟨ih0, ih1, ih2, ih3, ih4⟩ := shardlogref11_Make.mono_l k; refine ⟨?_, ?_, ?_, ?_, ?_⟩
  ·
   intro y0 y1
   unfold shardlogref11_Make.j0
   repeat' first
   | (with_reducible exact ih0 _ _)
   | (with_reducible exact ih1 _ _ _ _)
   | (with_reducible exact ih2 _ _ _ _ _ _)
   | (with_reducible exact ih3 _ _ _ _)
   | (with_reducible exact ih4 _ _ _ _ _ _)
   | (with_reducible exact shardlogref11_Bits.mono _ _ _)
   | (with_reducible exact LeO.refl _)
   | (with_reducible exact LeO.none _)
   | (with_reducible refine LeO.ite ?_ ?_)
   | (with_reducible refine LeO.bind ?_ (fun _ => ?_))
   | exact LeO.none _
   | refine LeO.ite ?_ ?_
   | refine LeO.bind ?_ (fun _ => ?_)
  ·
   intro y0 y1 y2 y3
   unfold shardlogref11_Make.l0
   repeat' first
   | (with_reducible exact ih0 _ _)
   | (with_reducible exact ih1 _ _ _ _)
   | (with_reducible exact ih2 _ _ _ _ _ _)
   | (with_reducible exact ih3 _ _ _ _)
   | (with_reducible exact ih4 _ _ _ _ _ _)
   | (with_reducible exact shardlogref11_Bits.mono _ _ _)
   | (with_reducible exact LeO.refl _)
   | (with_reducible exact LeO.none _)
   | (with_reducible refine LeO.ite ?_ ?_)
   | (with_reducible refine LeO.bind ?_ (fun _ => ?_))
   | exact LeO.none _
   | refine LeO.ite ?_ ?_
   | refine LeO.bind ?_ (fun _ => ?_)
  ·
   intro y0 y1 y2 y3 y4 y5
   unfold shardlogref11_Make.l1
   repeat' first
   | (with_reducible exact ih0 _ _)
   | (with_reducible exact ih1 _ _ _ _)
   | (with_reducible exact ih2 _ _ _ _ _ _)
   | (with_reducible exact ih3 _ _ _ _)
   | (with_reducible exact ih4 _ _ _ _ _ _)
   | (with_reducible exact shardlogref11_Bits.mono _ _ _)
   | (with_reducible exact LeO.refl _)
   | (with_reducible exact LeO.none _)
   | (with_reducible refine LeO.ite ?_ ?_)
   | (with_reducible refine LeO.bind ?_ (fun _ => ?_))
   | exact LeO.none _
   | refine LeO.ite ?_ ?_
   | refine LeO.bind ?_ (fun _ => ?_)
  ·
   intro y0 y1 y2 y3
   unfold shardlogref11_Make.l2
   repeat' first
   | (with_reducible exact ih0 _ _)
   | (with_reducible exact ih1 _ _ _ _)
   | (with_reducible exact ih2 _ _ _ _ _ _)
   | (with_reducible exact ih3 _ _ _ _)
   | (with_reducible exact ih4 _ _ _ _ _ _)
   | (with_reducible exact shardlogref11_Bits.mono _ _ _)
   | (with_reducible exact LeO.refl _)
   | (with_reducible exact LeO.none _)
   | (with_reducible refine LeO.ite ?_ ?_)
   | (with_reducible refine LeO.bind ?_ (fun _ => ?_))
   | exact LeO.none _
   | refine LeO.ite ?_ ?_
   | refine LeO.bind ?_ (fun _ => ?_)
  ·
   intro y0 y1 y2 y3 y4 y5
   unfold shardlogref11_Make.l3
   repeat' first
   | (with_reducible exact ih0 _ _)
   | (with_reducible exact ih1 _ _ _ _)
   | (with_reducible exact ih2 _ _ _ _ _ _)
   | (with_reducible exact ih3 _ _ _ _)
   | (with_reducible exact ih4 _ _ _ _ _ _)
   | (with_reducible exact shardlogref11_Bits.mono _ _ _)
   | (with_reducible exact LeO.refl _)
   | (with_reducible exact LeO.none _)
   | (with_reducible refine LeO.ite ?_ ?_)
   | (with_reducible refine LeO.bind ?_ (fun _ => ?_))
   | exact LeO.none _
   | refine LeO.ite ?_ ?_
   | refine LeO.bind ?_ (fun _ => ?_)
theorem shardlogref11_Make.mono : ∀ a0 k, LeO (shardlogref11_Make.f k a0) (shardlogref11_Make.f (k + 1) a0) := by
 intro a0 k
 obtain ⟨ih0, ih1, ih2, ih3, ih4⟩ := shardlogref11_Make.mono_l k
 unfold shardlogref11_Make.f
 repeat' first
   | (with_reducible exact ih0 _ _)
   | (with_reducible exact ih1 _ _ _ _)
   | (with_reducible exact ih2 _ _ _ _ _ _)
   | (with_reducible exact ih3 _ _ _ _)
   | (with_reducible exact ih4 _ _ _ _ _ _)
   | (with_reducible exact shardlogref11_Bits.mono _ _ _)
   | (with_reducible exact LeO.refl _)
   | (with_reducible exact LeO.none _)
   | (with_reducible refine LeO.ite ?_ ?_)
   | (with_reducible refine LeO.bind ?_ (fun _ => ?_))
   | exact LeO.none _
   | refine LeO.ite ?_ ?_
   | refine LeO.bind ?_ (fun _ => ?_)
set_option maxHeartbeats 8000000 in
set_option maxRecDepth 100000 in
theorem shardlogref11_Make.calls (k : Nat) (A0 : Option Addr) (c0 : Nat) (l0 : List ByteArray) (r : List Int) (w : World) (hr0 : Kd.C Kd.string w A0 l0.length l0) (hc0 : l0.length ≤ c0) (h : shardlogref11_Make.f k l0 = some r) :
  Calls Try.prog 26 #[.slice A0 l0.length c0] w fun e w' => ∃ v0_ : Value, e = .returned (v0_) ∧ Kd.R (Kd.int .u8) 5 w' w.heap.size (fun _ => True) v0_ r ∧ Below w.heap.size w w' := by
 have HR0 := aS hr0; have HC0 := aS hc0; clear hr0 hc0; have HB := aS (Below.refl w.heap.size w); have H : (if (l0.length : Int) = 0 then (shardlogref11_Make.j0 k l0 1) else (shardlogref11_Make.j0 k l0 (l0.length : Int))) = some r := h; clear h; have HC2 := aS H; clear H
 go_enter Try.func26, Try.ntmps26
 go_upto_if 15 with (fail)
 go_cut [3] (fun v3 wc => ∃ (kq : Nat) (x3_1 : Int), v3 = .int .i64 x3_1 ∧ Aside0 (shardlogref11_Make.j0 kq l0 x3_1 = some r) ∧ Aside0 (kq ≤ k) ∧ Aside0 (Below w.heap.size w wc))
 case first =>
  have H := HC2.out; clear HC2
  by_cases c3 : (l0.length : Int) = 0
  ·
   rw [if_pos c3] at H; obtain ⟨c3b0, c3b1⟩ := eqT c3; clear c3
   (first | rw [c3b0] | (simp only [i64_w, i32_w]; rw [c3b0]) | skip)
   have H' := aS H
   clear H
   go_wp2
   go_meet
   case rel => exact ⟨_, (1), srf, H', ⟨by first | omega | exact Nat.le_refl _⟩, ⟨bel⟩⟩
  ·
   rw [if_neg c3] at H; obtain ⟨c3b0, c3b1⟩ := eqF c3
   have c3b2 : ¬ (l0 = []) := fun h_ => c3 (by rw [h_]; rfl)
   (first | rw [c3b0] | (simp only [i64_w, i32_w]; rw [c3b0]) | skip)
   have H' := aS H
   clear H
   go_wp2
   go_meet
   case rel => exact ⟨_, ((l0.length : Int)), srf, H', ⟨by first | omega | exact Nat.le_refl _⟩, ⟨bel⟩⟩
 case rest =>
  clear HC2; obtain ⟨kq, x3_1, rfl, HA, HJ1, HB⟩ := hcut
  cases kq with
  | zero => exact absurd HA.out (by simp [shardlogref11_Make.j0])
  | succ kj1 =>
   have H := HA.out; clear HA
   simp only [shardlogref11_Make.j0] at H
   obtain ⟨ji4, hji4⟩ : ∃ j_ : Int, (wrap64 (8 * x3_1)) = j_ := ⟨_, rfl⟩
   replace H : (if 0 ≤ (ji4) then (if (ji4 : Int).toNat ≤ 281474976710656 then (shardlogref11_Make.l0 kj1 l0 x3_1 (List.replicate (ji4 : Int).toNat false) 0) else (none)) else (none)) = some r := by first | (rw [hji4] at H; exact H) | (simp only [hji4] at H ⊢; exact H)
   have hji4w : (IntKind.i64.wrap (8 * x3_1)) = ji4 := (i64_w _).trans hji4
   by_cases c5 : 0 ≤ (ji4)
   ·
    rw [if_pos c5] at H; have c5b0 := eq_true c5; have c5b1 : decide (0 ≤ (ji4)) = true := decide_eq_true c5; clear c5
    by_cases c6 : (ji4 : Int).toNat ≤ 281474976710656
    ·
     rw [if_pos c6] at H; have c6b0 := eq_true c6; have c6b1 : decide ((ji4 : Int).toNat ≤ 281474976710656) = true := decide_eq_true c6; clear c6
     obtain ⟨y648, hy648⟩ : ∃ y_ : List Bool, y_ = (List.replicate (ji4 : Int).toNat false) := ⟨_, rfl⟩
     replace H : (shardlogref11_Make.l0 kj1 l0 x3_1 y648 0) = some r := hyr hy648 H; have Ny648 := aS hy648; clear hy648
     have H' := aS H
     clear H
     go_wp2_with (first | ((with_reducible refine gate_dst (N := 18) rfl ?_); refine Kd.R_make Kd.bool _ 4 rfl (N := 18) rfl 79 _ _ rfl ji4 rfl rfl Try.underlying79 (.bool false) 1 info4 rfl (by decide) (by omega) false (ok := fun _ => True) (okp := fun _ => True) rfl (fun _ hk => hk) trivial (oda) (Nat.le_trans (Nat.mul_le_mul_right _ (oda : ji4.toNat ≤ 281474976710656)) (by omega)) (Below.refl _ _) (Nat.le_refl _) ?_; intro v649 w7 ho8 hb hg_ hnew_; clear hg_ hnew_; (first | rw [← Ny648.out] at ho8 | (simp only [Int.reduceToNat] at ho8; rw [← Ny648.out] at ho8)); have HO650 := aS (Kd.R_lower ho8 (below_size bel)); replace HB := bstep hb; clear hb ho8))
     have HJ_ := aS hji4; clear hji4w hji4
     go_loopg [5] kj1 (fun kq v5 w' => ∃ (x4_2 : List Bool) (x5_2 : Int), v5 = .int .i64 x5_2 ∧ Aside0 (shardlogref11_Make.l0 kq l0 x3_1 x4_2 x5_2 = some r) ∧ Aside0 (kq ≤ kj1) ∧ Aside0 (Kd.R Kd.bool 4 w' w.heap.size (fun _ => True) v649 x4_2) ∧ Aside0 (Below w.heap.size w w'))
     case atStart => exact ⟨(y648), (0), srf, H', ⟨Nat.le_refl _⟩, ⟨by (with_reducible repeat (first | apply Kd.R_alloc | apply Kd.R_drewN | apply Kd.R_drew)); exact HO650.out⟩, ⟨bel⟩⟩
     case round =>
      clear H'; (try clear c5); (try clear c5b0); (try clear c5b1); (try clear c6); (try clear c6b0); (try clear c6b1); obtain ⟨x4_2, x5_2, rfl, HA, HK2, HO_4, HB⟩ := hrel
      cases gk with
      | zero => exact absurd HA.out (by simp [shardlogref11_Make.l0])
      | succ k2 =>
       have H := HA.out; clear HA
       simp only [shardlogref11_Make.l0] at H
       by_cases c9 : x5_2 < (l0.length : Int)
       ·
        rw [if_pos c9] at H; have c9b0 : decide (x5_2 < (l0.length : Int)) = true := decide_eq_true c9; clear c9
        by_cases c10 : 0 ≤ x5_2
        ·
         rw [if_pos c10] at H; have c10b0 : decide (0 ≤ x5_2) = true := decide_eq_true c10; clear c10; replace H := obm H; obtain ⟨t652, A110, H⟩ := H; replace H : (shardlogref11_Make.l1 k2 l0 x3_1 x4_2 x5_2 t652 0) = some r := H; have A11 := aS A110; clear A110
         have H' := aS H
         clear H; have p651 : 0 ≤ (x5_2 : Int) := oda; have q651 : x5_2 < (l0.length : Int) := oda; obtain ⟨ad651, e651, hx651_0⟩ := Kd.at_string HR0.out x5_2 p651 q651; cases e651; replace hx651_0 := bx bel hx651_0; replace p651 := eq_true p651; replace q651 := eq_true q651
         go_wp2_with (first | ((with_reducible refine gate_callee (f := 50) rfl ?_); refine goesL_ (some 31) rfl rfl Try.func50 (by kernel_rfl) rfl #[.string (rdOf ByteArray.empty l0 x5_2), .int .i64 (wrap64 (8 * x3_1))] rfl agn ?_; (with_reducible refine (shardlogref11_Bits.calls k2 (rdOf ByteArray.empty l0 x5_2) (wrap64 (8 * x3_1)) t652 _ A11.out).mono ?_); rintro e w12 ⟨v653, rfl, ho0, hb⟩; refine ⟨_, rfl, ?_⟩; replace HO_4 := aS (Kd.R_below (rel HO_4.out) hb); have HO654 := aS (Kd.R_lower ho0 (below_size bel)); replace HB := bstep hb; (try clear hb); (try clear hk); (try clear hi); (try clear ho0)))
         go_loopg [7] k2 (fun kq v7 w' => ∃ (x4_3 : List Bool) (x7_3 : Int), v7 = .int .i64 x7_3 ∧ Aside0 (shardlogref11_Make.l1 kq l0 x3_1 x4_3 x5_2 t652 x7_3 = some r) ∧ Aside0 (kq ≤ k2) ∧ Aside0 (Kd.R Kd.bool 4 w' w.heap.size (fun _ => True) v649 x4_3) ∧ Aside0 (Kd.R (Kd.int .i64) 3 w' w.heap.size (fun _ => True) v653 t652) ∧ Aside0 (Below w.heap.size w w'))
         case atStart => exact ⟨(x4_2), (0), srf, H', ⟨Nat.le_refl _⟩, ⟨by (with_reducible repeat (first | apply Kd.R_alloc | apply Kd.R_drewN | apply Kd.R_drew)); exact HO_4.out⟩, ⟨by (with_reducible repeat (first | apply Kd.R_alloc | apply Kd.R_drewN | apply Kd.R_drew)); exact HO654.out⟩, ⟨bel⟩⟩
         case round =>
          clear H'; (try clear c5); (try clear c5b0); (try clear c5b1); (try clear c6); (try clear c6b0); (try clear c6b1); (try clear c9); (try clear c9b0); (try clear c10); (try clear c10b0); (try clear hx651_0); (try clear p651); (try clear q651); obtain ⟨x4_3, x7_3, rfl, HA, HK3, HO_4, HO_6, HB⟩ := hrel
          cases gk with
          | zero => exact absurd HA.out (by simp [shardlogref11_Make.l1])
          | succ k3 =>
           have H := HA.out; clear HA
           simp only [shardlogref11_Make.l1] at H
           by_cases c13 : x7_3 < (t652.length : Int)
           ·
            rw [if_pos c13] at H; have c13b0 : decide (x7_3 < (t652.length : Int)) = true := decide_eq_true c13; clear c13
            by_cases c14 : 0 ≤ x7_3
            ·
             rw [if_pos c14] at H; have c14b0 : decide (0 ≤ x7_3) = true := decide_eq_true c14; clear c14
             by_cases c15 : 0 ≤ (rd t652 x7_3)
             ·
              rw [if_pos c15] at H; have c15b0 : decide (0 ≤ (rd t652 x7_3)) = true := decide_eq_true c15; clear c15
              by_cases c16 : (rd t652 x7_3) < (x4_3.length : Int)
              ·
               rw [if_pos c16] at H; have c16b0 : decide ((rd t652 x7_3) < (x4_3.length : Int)) = true := decide_eq_true c16; clear c16
               obtain ⟨y656, hy656⟩ : ∃ y_ : List Bool, y_ = (x4_3.set ((rd t652 x7_3) : Int).toNat true) := ⟨_, rfl⟩
               replace H : (shardlogref11_Make.l1 k3 l0 x3_1 y656 x5_2 t652 (wrap64 (x7_3 + 1))) = some r := hyr hy656 H; have Ny656 := aS hy656; clear hy656
               have H' := aS H
               clear H; obtain ⟨Ao18, co18, eo18⟩ := Kd.R_slice HO_6.out; subst eo18; have p655 : 0 ≤ (x7_3 : Int) := oda; have q655 : x7_3 < (t652.length : Int) := oda; obtain ⟨ad655, e655, hx655_0⟩ := Kd.at_int (Kd.R_reads' HO_6.out).2.2 x7_3 p655 q655; cases e655; replace p655 := eq_true p655; replace q655 := eq_true q655; have p17 : 0 ≤ ((rd t652 x7_3) : Int) := oda; have q17 : ((rd t652 x7_3) : Int) < ((x4_3.length : Int) : Int) := oda; obtain ⟨go17, co17, eo17, gb17, gl17, cl17, HG17⟩ := Kd.R_form HO_4.out (by omega)
               (first | cases eo17 | (injection eo17 with ea_ en_ ec_; (first | subst ea_ | (injection ea_ with ea_; subst ea_)); subst ec_; clear en_))
               have GB17 := aS gb17; have GG17 := aS HG17; clear gb17 gl17 HG17; obtain ⟨hx17_0, hf17_0⟩ := Kd.R_celln false HO_4.out ((rd t652 x7_3) : Int) p17 q17; replace p17 := eq_true p17; replace q17 := eq_true q17; have HP19 := Kd.R_putg HO_4.out ((rd t652 x7_3) : Int) true
               go_wp2_with (first | ((with_reducible refine gate_store (t := 4) (p := 43) rfl ?_); refine store_event (t := 4) (p := 43) (v := ?vo_w20) (w1 := (wr.setCell ⟨go17, ((rd t652 x7_3) : Int).toNat, none⟩ (.bool true))) ?hg ?ho ?hn ?hr ?_; (case ho => rfl); (case hg => rfl); (case hn => rfl); (case hr => first | (go_simp; done) | (go_simp; rfl)); intro w20 hw; have hg : wr.grownBy w20 (some go17) := (by rw [hw]; exact HP19.2); have hp_ : Kd.R Kd.bool 4 w20 w.heap.size (fun _ => True) (.slice (some ⟨go17, 0, none⟩) x4_3.length co17) y656 := (by rw [hw, Ny656.out]; exact HP19.1); clear HP19; replace HO_6 := aS (Kd.R_over' (v := (.slice (some ⟨go17, 0, none⟩) x4_3.length co17)) (rel HO_6.out) (Kd.R_typed HO_4.out) (by decide) hg); replace HO_4 := aS (hp_); replace HB := aS ((by rw [hw]; exact below_set (HB.out) GB17.out : Below w.heap.size w w20)); clear hg hw hp_))
               go_roundg k3
               case measure => have := HJ1.out; have := HK2.out; have := HK3.out; omega
               case rel => exact ⟨(y656), (wrap64 (x7_3 + 1)), srf, H', ⟨by have := HJ1.out; have := HK2.out; have := HK3.out; omega⟩, ⟨by (with_reducible repeat (first | apply Kd.R_alloc | apply Kd.R_drewN | apply Kd.R_drew)); exact HO_4.out⟩, ⟨by (with_reducible repeat (first | apply Kd.R_alloc | apply Kd.R_drewN | apply Kd.R_drew)); exact HO_6.out⟩, ⟨bel⟩⟩
              ·
               rw [if_neg c16] at H; exact absurd H (by simp)
             ·
              rw [if_neg c15] at H; exact absurd H (by simp)
            ·
             rw [if_neg c14] at H; exact absurd H (by simp)
           ·
            rw [if_neg c13] at H; have c13b0 : decide (x7_3 < (t652.length : Int)) = false := decide_eq_false c13; clear c13
            have H' := aS H
            clear H; obtain ⟨Ao21, co21, eo21⟩ := Kd.R_slice HO_6.out; subst eo21
            go_wp2
            go_roundg k3
            case measure => have := HJ1.out; have := HK2.out; have := HK3.out; omega
            case rel => exact ⟨(x4_3), (wrap64 (x5_2 + 1)), srf, H', ⟨by have := HJ1.out; have := HK2.out; have := HK3.out; omega⟩, ⟨by (with_reducible repeat (first | apply Kd.R_alloc | apply Kd.R_drewN | apply Kd.R_drew)); exact HO_4.out⟩, ⟨bel⟩⟩
        ·
         rw [if_neg c10] at H; exact absurd H (by simp)
       ·
        rw [if_neg c9] at H; have c9b0 : decide (x5_2 < (l0.length : Int)) = false := decide_eq_false c9; clear c9
        have H' := aS H
        clear H
        go_wp2
        go_loopg [8, 9] k2 (fun kq v8 v9 w' => ∃ (x8_3 : List Int) (x9_3 : Int), v9 = .int .i64 x9_3 ∧ Aside0 (shardlogref11_Make.l2 kq x3_1 x4_2 x8_3 x9_3 = some r) ∧ Aside0 (kq ≤ k2) ∧ Aside0 (Kd.R Kd.bool 4 w' w.heap.size (fun _ => True) v649 x4_2) ∧ Aside0 (Kd.R (Kd.int .u8) 5 w' w.heap.size (fun _ => True) v8 x8_3) ∧ Aside0 (Below w.heap.size w w'))
        case atStart => exact ⟨(([] : List Int)), (0), srf, H', ⟨Nat.le_refl _⟩, ⟨by (with_reducible repeat (first | apply Kd.R_alloc | apply Kd.R_drewN | apply Kd.R_drew)); exact HO_4.out⟩, ⟨by first | exact Kd.R_nil _ _ _ _ _ | exact Kd.N_nil _ _ _ _ _ | exact Kd.V_nil _ _ _ _ _ | exact Kd.Q_nil _ _ _ _ _ | exact Kd.S_nil _ _ _ _ _⟩, ⟨bel⟩⟩
        case round =>
         clear H'; (try clear c5); (try clear c5b0); (try clear c5b1); (try clear c6); (try clear c6b0); (try clear c6b1); (try clear c9); (try clear c9b0); obtain ⟨x8_3, x9_3, rfl, HA, HK3, HO_4, HO_8, HB⟩ := hrel
         cases gk with
         | zero => exact absurd HA.out (by simp [shardlogref11_Make.l2])
         | succ k3 =>
          have H := HA.out; clear HA
          simp only [shardlogref11_Make.l2] at H
          by_cases c22 : x9_3 < x3_1
          ·
           rw [if_pos c22] at H; have c22b0 : decide (x9_3 < x3_1) = true := decide_eq_true c22; clear c22
           have H' := aS H
           clear H
           go_wp2
           go_loopg [10, 11] k3 (fun kq v10 v11 w' => ∃ (x10_4 : Int) (x11_4 : Int), v10 = .int .i64 x10_4 ∧ v11 = .int .i64 x11_4 ∧ Aside0 (shardlogref11_Make.l3 kq x3_1 x4_2 x8_3 x9_3 x10_4 x11_4 = some r) ∧ Aside0 (kq ≤ k3) ∧ Aside0 (Kd.R Kd.bool 4 w' w.heap.size (fun _ => True) v649 x4_2) ∧ Aside0 (Kd.R (Kd.int .u8) 5 w' w.heap.size (fun _ => True) u8 x8_3) ∧ Aside0 (Below w.heap.size w w'))
           case atStart => exact ⟨(0), (7), srf, srf, H', ⟨Nat.le_refl _⟩, ⟨by (with_reducible repeat (first | apply Kd.R_alloc | apply Kd.R_drewN | apply Kd.R_drew)); exact HO_4.out⟩, ⟨by (with_reducible repeat (first | apply Kd.R_alloc | apply Kd.R_drewN | apply Kd.R_drew)); exact HO_8.out⟩, ⟨bel⟩⟩
           case round =>
            clear H'; (try clear c5); (try clear c5b0); (try clear c5b1); (try clear c6); (try clear c6b0); (try clear c6b1); (try clear c9); (try clear c9b0); (try clear c22); (try clear c22b0); obtain ⟨x10_4, x11_4, rfl, rfl, HA, HK4, HO_4, HO_8, HB⟩ := hrel
            cases gk with
            | zero => exact absurd HA.out (by simp [shardlogref11_Make.l3])
            | succ k4 =>
             have H := HA.out; clear HA
             simp only [shardlogref11_Make.l3] at H
             by_cases c23 : x11_4 ≥ 0
             ·
              rw [if_pos c23] at H; have c23b0 : decide (0 ≤ x11_4) = true := decide_eq_true c23; clear c23
              obtain ⟨ji24, hji24⟩ : ∃ j_ : Int, (wrap64 ((wrap64 (8 * x9_3)) + x11_4)) = j_ := ⟨_, rfl⟩
              replace H : (if 0 ≤ (ji24) then (if (ji24) < (x4_2.length : Int) then (if rdOf false x4_2 (ji24) = true then (shardlogref11_Make.l3 k4 x3_1 x4_2 x8_3 x9_3 (wrap64 ((wrap64 (2 * x10_4)) + 1)) (wrap64 (x11_4 - 1))) else (shardlogref11_Make.l3 k4 x3_1 x4_2 x8_3 x9_3 (wrap64 (2 * x10_4)) (wrap64 (x11_4 - 1)))) else (none)) else (none)) = some r := by first | (rw [hji24] at H; exact H) | (simp only [hji24] at H ⊢; exact H)
              have hji24w : (IntKind.i64.wrap ((wrap64 (8 * x9_3)) + x11_4)) = ji24 := (i64_w _).trans hji24
              by_cases c25 : 0 ≤ (ji24)
              ·
               rw [if_pos c25] at H; have c25b0 : decide (0 ≤ (ji24)) = true := decide_eq_true c25; clear c25
               by_cases c26 : (ji24) < (x4_2.length : Int)
               ·
                rw [if_pos c26] at H; have c26b0 : decide ((ji24) < (x4_2.length : Int)) = true := decide_eq_true c26; clear c26
                obtain ⟨bq27, hbq27⟩ : ∃ b_ : Bool, b_ = (rdOf false x4_2 (ji24)) := ⟨_, rfl⟩
                replace H : (if bq27 = true then (shardlogref11_Make.l3 k4 x3_1 x4_2 x8_3 x9_3 (wrap64 ((wrap64 (2 * x10_4)) + 1)) (wrap64 (x11_4 - 1))) else (shardlogref11_Make.l3 k4 x3_1 x4_2 x8_3 x9_3 (wrap64 (2 * x10_4)) (wrap64 (x11_4 - 1)))) = some r := by rw [← hbq27] at H; exact H
                have Nbq27 := aS hbq27; clear hbq27
                by_cases c28 : bq27 = true
                ·
                 subst c28
                 have H1 : (shardlogref11_Make.l3 k4 x3_1 x4_2 x8_3 x9_3 (wrap64 ((wrap64 (2 * x10_4)) + 1)) (wrap64 (x11_4 - 1))) = some r := by rw [if_pos rfl] at H; exact H
                 clear H; have H := H1; clear H1
                 have H' := aS H
                 clear H; obtain ⟨Ao29, co29, eo29⟩ := Kd.R_slice HO_4.out; subst eo29; have p657 : 0 ≤ ((ji24) : Int) := oda; have q657 : (ji24) < (x4_2.length : Int) := oda; obtain ⟨ad657, e657, hx657_0⟩ := Kd.at_bool (Kd.R_reads' HO_4.out).2.2 (ji24) p657 q657
                 (try rw [← Nbq27.out] at hx657_0)
                 cases e657; replace p657 := eq_true p657; replace q657 := eq_true q657
                 go_wp2
                 go_roundg k4
                 case measure => have := HJ1.out; have := HK2.out; have := HK3.out; have := HK4.out; omega
                 case rel => exact ⟨(wrap64 ((wrap64 (2 * x10_4)) + 1)), (wrap64 (x11_4 - 1)), srf, srf, H', ⟨by have := HJ1.out; have := HK2.out; have := HK3.out; have := HK4.out; omega⟩, ⟨by (with_reducible repeat (first | apply Kd.R_alloc | apply Kd.R_drewN | apply Kd.R_drew)); exact HO_4.out⟩, ⟨by (with_reducible repeat (first | apply Kd.R_alloc | apply Kd.R_drewN | apply Kd.R_drew)); exact HO_8.out⟩, ⟨bel⟩⟩
                ·
                 replace c28 := Bool.eq_false_iff.mpr c28; subst c28
                 have H1 : (shardlogref11_Make.l3 k4 x3_1 x4_2 x8_3 x9_3 (wrap64 (2 * x10_4)) (wrap64 (x11_4 - 1))) = some r := by rw [if_neg (show ¬ (false = true) by decide)] at H; exact H
                 clear H; have H := H1; clear H1
                 have H' := aS H
                 clear H; obtain ⟨Ao30, co30, eo30⟩ := Kd.R_slice HO_4.out; subst eo30; have p657 : 0 ≤ ((ji24) : Int) := oda; have q657 : (ji24) < (x4_2.length : Int) := oda; obtain ⟨ad657, e657, hx657_0⟩ := Kd.at_bool (Kd.R_reads' HO_4.out).2.2 (ji24) p657 q657
                 (try rw [← Nbq27.out] at hx657_0)
                 cases e657; replace p657 := eq_true p657; replace q657 := eq_true q657
                 go_wp2
                 go_roundg k4
                 case measure => have := HJ1.out; have := HK2.out; have := HK3.out; have := HK4.out; omega
                 case rel => exact ⟨(wrap64 (2 * x10_4)), (wrap64 (x11_4 - 1)), srf, srf, H', ⟨by have := HJ1.out; have := HK2.out; have := HK3.out; have := HK4.out; omega⟩, ⟨by (with_reducible repeat (first | apply Kd.R_alloc | apply Kd.R_drewN | apply Kd.R_drew)); exact HO_4.out⟩, ⟨by (with_reducible repeat (first | apply Kd.R_alloc | apply Kd.R_drewN | apply Kd.R_drew)); exact HO_8.out⟩, ⟨bel⟩⟩
               ·
                rw [if_neg c26] at H; exact absurd H (by simp)
              ·
               rw [if_neg c25] at H; exact absurd H (by simp)
             ·
              rw [if_neg c23] at H; have c23b0 : decide (0 ≤ x11_4) = false := decide_eq_false c23; clear c23
              by_cases c31 : x8_3.length < 140737488355328
              ·
               rw [if_pos c31] at H; have LMc31 := aS c31; clear c31
               obtain ⟨y658, hy658⟩ : ∃ y_ : List Int, y_ = (x8_3 ++ [(x10_4) % 256]) := ⟨_, rfl⟩
               replace H : (shardlogref11_Make.l2 k4 x3_1 x4_2 y658 (wrap64 (x9_3 + 1))) = some r := hyr hy658 H; have Ny658 := aS hy658; clear hy658
               have H' := aS H
               clear H
               go_wp2_with (first | ((with_reducible refine gate_builtin (b := .append) (xs := #[.tmp 64, .tmp 67]) rfl ?_); at_builtin; refine Kd.R_append (Kd.int .u8) (w0 := w) w.heap.size rfl (.tmp 64) (.tmp 67) 26 5 (.int .u8 0) 1 rfl Try.underlying26 info5 rfl (by decide) (by omega) u8 x8_3 ((x10_4) % 256) [.int .u8 ((x10_4) % 256)] (fun _ => True) (fun _ => False) rfl rfl ?aP (fun _ hk => hk.elim) ?aF ?aO ?aB ?aS ?aL ?_; (case aP => exact rfl); (case aB => exact bel); (case aF => exact (fun _ _ => trivial)); (case aO => exact (rel HO_8.out)); (case aS => exact (below_size bel)); (case aL => have := LMc31.out; omega); intro v659 w32 ho hb hg hat; rw [← Ny658.out] at ho; have n0_ := aS (Kd.R_over' (rel HO_4.out) (Kd.R_typed (rel HO_8.out)) (by decide) hg); have n1_ := aS (hb); have n2_ := aS (ho); clear HO_4; clear HB; clear HO_8; have HO_4 := n0_; have HB := n1_; have HO660 := n2_; clear n0_ n1_ n2_; clear ho hb hg hat))
               go_roundg k4
               case measure => have := HJ1.out; have := HK2.out; have := HK3.out; have := HK4.out; omega
               case rel => exact ⟨(y658), (wrap64 (x9_3 + 1)), srf, H', ⟨by have := HJ1.out; have := HK2.out; have := HK3.out; have := HK4.out; omega⟩, ⟨by (with_reducible repeat (first | apply Kd.R_alloc | apply Kd.R_drewN | apply Kd.R_drew)); exact HO_4.out⟩, ⟨by (with_reducible repeat (first | apply Kd.R_alloc | apply Kd.R_drewN | apply Kd.R_drew)); exact HO660.out⟩, ⟨bel⟩⟩
              ·
               rw [if_neg c31] at H; exact absurd H (by simp)
          ·
           rw [if_neg c22] at H; have c22b0 : decide (x9_3 < x3_1) = false := decide_eq_false c22; clear c22
           obtain rfl := Option.some.inj H
           go_wp2
           go_ret
           exact ⟨_, by first | rfl | (simp [errW_none, errW_some] <;> rfl) | (simp only [← HJ_.out]; first | rfl | (simp [errW_none, errW_some] <;> rfl)) | (simp [*, errW_none, errW_some] <;> rfl), by (with_reducible repeat (first | apply Kd.R_alloc | apply Kd.R_drewN | apply Kd.R_drew)); exact HO_8.out, bel⟩
    ·
     rw [if_neg c6] at H; exact absurd H (by simp)
   ·
    rw [if_neg c5] at H; exact absurd H (by simp)

/-! ### shardlogref06_Put: function 36 -/
def shardlogref06_Put.f (k : Nat) (l0 : List Int) : Option (List Int) := (shardlogref01_Num.f (l0.length : Int)).bind fun t661 => ((some (([] : List Int) : List Int)).bind fun y664 => (if y664.length + t661.length < 140737488355328 then ((some (y664 ++ t661 : List Int)).bind fun y667 => ((shardlogref02_Sum.f k t661).bind fun t670 => ((shardlogref01_Num.f (wrap64 (t670))).bind fun t671 => (if y667.length + t671.length < 140737488355328 then ((some (y667 ++ t671 : List Int)).bind fun y674 => ((shardlogref02_Sum.f k l0).bind fun t677 => ((shardlogref01_Num.f (wrap64 (t677))).bind fun t678 => (if y674.length + t678.length < 140737488355328 then ((some (y674 ++ t678 : List Int)).bind fun y681 => (if y681.length + l0.length < 140737488355328 then (some (y681 ++ l0)) else (none))) else (none))))) else (none))))) else (none)))
theorem shardlogref06_Put.mono : ∀ a0 k, LeO (shardlogref06_Put.f k a0) (shardlogref06_Put.f (k + 1) a0) := by
 intro a0 k
 unfold shardlogref06_Put.f
 repeat' first
   | (with_reducible exact shardlogref02_Sum.mono _ _)
   | (with_reducible exact LeO.refl _)
   | (with_reducible exact LeO.none _)
   | (with_reducible refine LeO.ite ?_ ?_)
   | (with_reducible refine LeO.bind ?_ (fun _ => ?_))
   | exact LeO.none _
   | refine LeO.ite ?_ ?_
   | refine LeO.bind ?_ (fun _ => ?_)
set_option maxHeartbeats 8000000 in
set_option maxRecDepth 100000 in
theorem shardlogref06_Put.calls (k : Nat) (A0 : Option Addr) (c0 : Nat) (l0 : List Int) (r : List Int) (w : World) (hr0 : Kd.C (Kd.int .u8) w A0 l0.length l0) (hc0 : l0.length ≤ c0) (h : shardlogref06_Put.f k l0 = some r) :
  Calls Try.prog 36 #[.slice A0 l0.length c0] w fun e w' => ∃ v0_ : Value, e = .returned (v0_) ∧ Kd.R (Kd.int .u8) 5 w' w.heap.size (fun _ => True) v0_ r ∧ Below w.heap.size w w' := by
 have HR0 := aS hr0; have HC0 := aS hc0; clear hr0 hc0; have HB := aS (Below.refl w.heap.size w); have H : ((shardlogref01_Num.f (l0.length : Int)).bind fun t661 => ((some (([] : List Int) : List Int)).bind fun y664 => (if y664.length + t661.length < 140737488355328 then ((some (y664 ++ t661 : List Int)).bind fun y667 => ((shardlogref02_Sum.f k t661).bind fun t670 => ((shardlogref01_Num.f (wrap64 (t670))).bind fun t671 => (if y667.length + t671.length < 140737488355328 then ((some (y667 ++ t671 : List Int)).bind fun y674 => ((shardlogref02_Sum.f k l0).bind fun t677 => ((shardlogref01_Num.f (wrap64 (t677))).bind fun t678 => (if y674.length + t678.length < 140737488355328 then ((some (y674 ++ t678 : List Int)).bind fun y681 => (if y681.length + l0.length < 140737488355328 then (some (y681 ++ l0)) else (none))) else (none))))) else (none))))) else (none)))) = some r := h; clear h; replace H := obm H; obtain ⟨t661, A20, H⟩ := H; replace H : ((some (([] : List Int) : List Int)).bind fun y664 => (if y664.length + t661.length < 140737488355328 then ((some (y664 ++ t661 : List Int)).bind fun y667 => ((shardlogref02_Sum.f k t661).bind fun t670 => ((shardlogref01_Num.f (wrap64 (t670))).bind fun t671 => (if y667.length + t671.length < 140737488355328 then ((some (y667 ++ t671 : List Int)).bind fun y674 => ((shardlogref02_Sum.f k l0).bind fun t677 => ((shardlogref01_Num.f (wrap64 (t677))).bind fun t678 => (if y674.length + t678.length < 140737488355328 then ((some (y674 ++ t678 : List Int)).bind fun y681 => (if y681.length + l0.length < 140737488355328 then (some (y681 ++ l0)) else (none))) else (none))))) else (none))))) else (none))) = some r := H; have A2 := aS A20; clear A20
 obtain ⟨y664, hy664⟩ : ∃ y_ : List Int, y_ = (([] : List Int)) := ⟨_, rfl⟩
 replace H : (if y664.length + t661.length < 140737488355328 then ((some (y664 ++ t661 : List Int)).bind fun y667 => ((shardlogref02_Sum.f k t661).bind fun t670 => ((shardlogref01_Num.f (wrap64 (t670))).bind fun t671 => (if y667.length + t671.length < 140737488355328 then ((some (y667 ++ t671 : List Int)).bind fun y674 => ((shardlogref02_Sum.f k l0).bind fun t677 => ((shardlogref01_Num.f (wrap64 (t677))).bind fun t678 => (if y674.length + t678.length < 140737488355328 then ((some (y674 ++ t678 : List Int)).bind fun y681 => (if y681.length + l0.length < 140737488355328 then (some (y681 ++ l0)) else (none))) else (none))))) else (none))))) else (none)) = some r := hyr hy664 H; have Ny664 := aS hy664; clear hy664
 by_cases c3 : y664.length + t661.length < 140737488355328
 ·
  rw [if_pos c3] at H; have LMc3 := aS c3; clear c3
  obtain ⟨y667, hy667⟩ : ∃ y_ : List Int, y_ = (y664 ++ t661) := ⟨_, rfl⟩
  replace H : ((shardlogref02_Sum.f k t661).bind fun t670 => ((shardlogref01_Num.f (wrap64 (t670))).bind fun t671 => (if y667.length + t671.length < 140737488355328 then ((some (y667 ++ t671 : List Int)).bind fun y674 => ((shardlogref02_Sum.f k l0).bind fun t677 => ((shardlogref01_Num.f (wrap64 (t677))).bind fun t678 => (if y674.length + t678.length < 140737488355328 then ((some (y674 ++ t678 : List Int)).bind fun y681 => (if y681.length + l0.length < 140737488355328 then (some (y681 ++ l0)) else (none))) else (none))))) else (none)))) = some r := hyr hy667 H; have Ny667 := aS hy667; clear hy667; replace H := obm H; obtain ⟨t670, A40, H⟩ := H; replace H : ((shardlogref01_Num.f (wrap64 (t670))).bind fun t671 => (if y667.length + t671.length < 140737488355328 then ((some (y667 ++ t671 : List Int)).bind fun y674 => ((shardlogref02_Sum.f k l0).bind fun t677 => ((shardlogref01_Num.f (wrap64 (t677))).bind fun t678 => (if y674.length + t678.length < 140737488355328 then ((some (y674 ++ t678 : List Int)).bind fun y681 => (if y681.length + l0.length < 140737488355328 then (some (y681 ++ l0)) else (none))) else (none))))) else (none))) = some r := H; have A4 := aS A40; clear A40; replace H := obm H; obtain ⟨t671, A50, H⟩ := H; replace H : (if y667.length + t671.length < 140737488355328 then ((some (y667 ++ t671 : List Int)).bind fun y674 => ((shardlogref02_Sum.f k l0).bind fun t677 => ((shardlogref01_Num.f (wrap64 (t677))).bind fun t678 => (if y674.length + t678.length < 140737488355328 then ((some (y674 ++ t678 : List Int)).bind fun y681 => (if y681.length + l0.length < 140737488355328 then (some (y681 ++ l0)) else (none))) else (none))))) else (none)) = some r := H; have A5 := aS A50; clear A50
  by_cases c6 : y667.length + t671.length < 140737488355328
  ·
   rw [if_pos c6] at H; have LMc6 := aS c6; clear c6
   obtain ⟨y674, hy674⟩ : ∃ y_ : List Int, y_ = (y667 ++ t671) := ⟨_, rfl⟩
   replace H : ((shardlogref02_Sum.f k l0).bind fun t677 => ((shardlogref01_Num.f (wrap64 (t677))).bind fun t678 => (if y674.length + t678.length < 140737488355328 then ((some (y674 ++ t678 : List Int)).bind fun y681 => (if y681.length + l0.length < 140737488355328 then (some (y681 ++ l0)) else (none))) else (none)))) = some r := hyr hy674 H; have Ny674 := aS hy674; clear hy674; replace H := obm H; obtain ⟨t677, A70, H⟩ := H; replace H : ((shardlogref01_Num.f (wrap64 (t677))).bind fun t678 => (if y674.length + t678.length < 140737488355328 then ((some (y674 ++ t678 : List Int)).bind fun y681 => (if y681.length + l0.length < 140737488355328 then (some (y681 ++ l0)) else (none))) else (none))) = some r := H; have A7 := aS A70; clear A70; replace H := obm H; obtain ⟨t678, A80, H⟩ := H; replace H : (if y674.length + t678.length < 140737488355328 then ((some (y674 ++ t678 : List Int)).bind fun y681 => (if y681.length + l0.length < 140737488355328 then (some (y681 ++ l0)) else (none))) else (none)) = some r := H; have A8 := aS A80; clear A80
   by_cases c9 : y674.length + t678.length < 140737488355328
   ·
    rw [if_pos c9] at H; have LMc9 := aS c9; clear c9
    obtain ⟨y681, hy681⟩ : ∃ y_ : List Int, y_ = (y674 ++ t678) := ⟨_, rfl⟩
    replace H : (if y681.length + l0.length < 140737488355328 then (some (y681 ++ l0)) else (none)) = some r := hyr hy681 H; have Ny681 := aS hy681; clear hy681
    by_cases c10 : y681.length + l0.length < 140737488355328
    ·
     rw [if_pos c10] at H; have LMc10 := aS c10; clear c10
     obtain ⟨y684, hy684⟩ : ∃ y_ : List Int, y_ = (y681 ++ l0) := ⟨_, rfl⟩
     replace H : (some y684) = some r := hyr hy684 H; have Ny684 := aS hy684; clear hy684
     obtain rfl := Option.some.inj H
     go_enter Try.func36, Try.ntmps36
     go_wp2_with (first | ((with_reducible refine gate_callee (f := 33) rfl ?_); refine goesL_ (some 7) rfl rfl Try.func33 (by kernel_rfl) rfl #[.int .i64 (l0.length : Int)] rfl agn ?_; (with_reducible refine (shardlogref01_Num.calls (l0.length : Int) t661 _ A2.out).mono ?_); rintro e w11 ⟨v662, rfl, ho0, hb⟩; refine ⟨_, rfl, ?_⟩; have HO663 := aS (Kd.R_lower ho0 (below_size bel)); replace HB := bstep hb; (try clear hb); (try clear hk); (try clear hi); (try clear ho0)) | ((with_reducible refine gate_dst (N := 8) rfl ?_); refine Kd.R_lit (Kd.int .u8) _ 5 ?hg (N := 8) ?hd (xs := ([] : List Int)) (inner := []) (ok := fun _ => True) (okp := fun _ => True) ?hr ?hp (fun _ hk => hk) trivial (Below.refl _ _) (Nat.le_refl _) (by simp) ?_; (case hd => rfl); (case hg => rfl); (case hr => first | (go_simp; done) | (go_simp; rfl)); (case hp => exact (Reps.none _ _)); intro v665 w12 ho13 hb hg_ hnew_; clear hg_ hnew_; (first | rw [← Ny664.out] at ho13 | (simp only [Int.reduceToNat] at ho13; rw [← Ny664.out] at ho13)); have HO666 := aS (Kd.R_lower (Kd.R_new' ho13 (Kd.R_lt (rel HO663.out))) (below_size bel)); replace HO663 := aS (Kd.R_elder' (rel HO663.out) (ebs ho13) hb); replace HB := bstep hb; clear hb ho13; obtain ⟨Ao15, co15, eo15⟩ := Kd.R_slice HO663.out; subst eo15) | ((with_reducible refine gate_builtin (b := .append) (xs := #[.tmp 8, .tmp 9]) rfl ?_); at_builtin; refine Kd.R_append_rows (Kd.int .u8) (w0 := w) w.heap.size rfl (.tmp 8) (.tmp 9) 26 5 (.int .u8 0) 1 rfl Try.underlying26 info5 rfl (by decide) (by omega) v665 y664 t661 _ _ _ (fun k_ => some k_ ≠ (.slice Ao15 t661.length co15 : Value).ownBlock) (fun _ => False) rfl rfl ?aO ?aR (fun _ _ h => h) (fun _ h => h.elim) ?aF ?aB ?aS ?aL ?_; (case aR => exact cel ((Kd.R_reads' HO663.out).2.2)); (case aB => exact bel); (case aF => exact (fun k_ hk => Kd.fresh' (Kd.R_lt (rel HO663.out)) k_ hk)); (case aO => exact (rel (Kd.R_mono HO666.out (fun _ hk => hk.2)))); (case aS => exact (below_size bel)); (case aL => have := LMc3.out; omega); intro v668 w14 ho hb hg hat; rw [← Ny667.out] at ho; have n0_ := aS (Kd.R_after (ok := (fun _ => True)) (rel HO663.out) hg hat); have n1_ := aS (hb); have n2_ := aS (ho); clear HO663; clear HB; clear HO666; have HO663 := n0_; have HB := n1_; have HO669 := n2_; clear n0_ n1_ n2_; clear ho hb hg hat) | ((with_reducible refine gate_callee (f := 57) rfl ?_); refine goesL_ (some 12) rfl rfl Try.func57 (by kernel_rfl) rfl #[.slice Ao15 t661.length co15] rfl agn ?_; (with_reducible refine (shardlogref02_Sum.calls k _ _ t661 t670 _ ?side1 ?side2 A4.out).mono ?_); (case side1 => exact cel ((Kd.R_reads' HO663.out).2.2)); (case side2 => exact (Kd.R_reads' HO663.out).2.1); rintro e w' ⟨rfl, ⟨nd, rfl⟩⟩; refine ⟨_, rfl, ?_⟩) | ((with_reducible refine gate_callee (f := 33) rfl ?_); refine goesL_ (some 14) rfl rfl Try.func33 (by kernel_rfl) rfl #[.int .i64 (wrap64 (t670))] rfl agn ?_; (with_reducible refine (shardlogref01_Num.calls (wrap64 (t670)) t671 _ A5.out).mono ?_); rintro e w16 ⟨v672, rfl, ho0, hb⟩; refine ⟨_, rfl, ?_⟩; have HO673 := aS (Kd.R_lower (Kd.R_new' (Kd.R_new' ho0 (Kd.R_lt (rel HO663.out))) (Kd.R_lt (rel HO669.out))) (below_size bel)); replace HO663 := aS (Kd.R_elder' (rel HO663.out) (ebs ho0) hb); replace HO669 := aS (Kd.R_elder' (rel HO669.out) (ebs ho0) hb); replace HB := bstep hb; (try clear hb); (try clear hk); (try clear hi); (try clear ho0); obtain ⟨Ao18, co18, eo18⟩ := Kd.R_slice HO673.out; subst eo18) | ((with_reducible refine gate_builtin (b := .append) (xs := #[.tmp 10, .tmp 14]) rfl ?_); at_builtin; refine Kd.R_append_rows (Kd.int .u8) (w0 := w) w.heap.size rfl (.tmp 10) (.tmp 14) 26 5 (.int .u8 0) 1 rfl Try.underlying26 info5 rfl (by decide) (by omega) v668 y667 t671 _ _ _ (fun k_ => some k_ ≠ (.slice Ao15 t661.length co15 : Value).ownBlock ∧ some k_ ≠ (.slice Ao18 t671.length co18 : Value).ownBlock) (fun _ => False) rfl rfl ?aO ?aR (fun _ _ h => h) (fun _ h => h.elim) ?aF ?aB ?aS ?aL ?_; (case aR => exact cel ((Kd.R_reads' HO673.out).2.2)); (case aB => exact bel); (case aF => exact (fun k_ hk => ⟨Kd.fresh' (Kd.R_lt (rel HO663.out)) k_ hk, Kd.fresh' (Kd.R_lt (rel HO673.out)) k_ hk⟩)); (case aO => exact (rel HO669.out)); (case aS => exact (below_size bel)); (case aL => have := LMc6.out; omega); intro v675 w17 ho hb hg hat; rw [← Ny674.out] at ho; have n0_ := aS (Kd.R_after (ok := (fun k_ => some k_ ≠ (.slice Ao18 t671.length co18 : Value).ownBlock)) (by (with_reducible repeat (first | apply Kd.R_alloc | apply Kd.R_drewN | apply Kd.R_drew)); exact Kd.R_mono HO663.out (fun _ hk => ⟨hk.2, hk.1.2⟩)) hg hat); have n1_ := aS (Kd.R_after (ok := (fun k_ => some k_ ≠ (.slice Ao15 t661.length co15 : Value).ownBlock)) (by (with_reducible repeat (first | apply Kd.R_alloc | apply Kd.R_drewN | apply Kd.R_drew)); exact Kd.R_mono HO673.out (fun _ hk => ⟨hk.1.2, hk.2⟩)) hg hat); have n2_ := aS (hb); have n3_ := aS (ho); clear HO663; clear HO673; clear HB; clear HO669; have HO663 := n0_; have HO673 := n1_; have HB := n2_; have HO676 := n3_; clear n0_ n1_ n2_ n3_; clear ho hb hg hat) | ((with_reducible refine gate_callee (f := 57) rfl ?_); refine goesL_ (some 18) rfl rfl Try.func57 (by kernel_rfl) rfl #[.slice A0 l0.length c0] rfl agn ?_; (with_reducible refine (shardlogref02_Sum.calls k _ _ l0 t677 _ ?side1 ?side2 A7.out).mono ?_); (case side1 => exact cel (Kd.C_below HR0.out HB.out)); (case side2 => exact HC0.out); rintro e w' ⟨rfl, ⟨nd, rfl⟩⟩; refine ⟨_, rfl, ?_⟩) | ((with_reducible refine gate_callee (f := 33) rfl ?_); refine goesL_ (some 20) rfl rfl Try.func33 (by kernel_rfl) rfl #[.int .i64 (wrap64 (t677))] rfl agn ?_; (with_reducible refine (shardlogref01_Num.calls (wrap64 (t677)) t678 _ A8.out).mono ?_); rintro e w19 ⟨v679, rfl, ho0, hb⟩; refine ⟨_, rfl, ?_⟩; have HO680 := aS (Kd.R_lower (Kd.R_new' (Kd.R_new' (Kd.R_new' ho0 (Kd.R_lt (rel HO663.out))) (Kd.R_lt (rel HO673.out))) (Kd.R_lt (rel HO676.out))) (below_size bel)); replace HO663 := aS (Kd.R_elder' (rel HO663.out) (ebs ho0) hb); replace HO673 := aS (Kd.R_elder' (rel HO673.out) (ebs ho0) hb); replace HO676 := aS (Kd.R_elder' (rel HO676.out) (ebs ho0) hb); replace HB := bstep hb; (try clear hb); (try clear hk); (try clear hi); (try clear ho0); obtain ⟨Ao21, co21, eo21⟩ := Kd.R_slice HO680.out; subst eo21) | ((with_reducible refine gate_builtin (b := .append) (xs := #[.tmp 16, .tmp 20]) rfl ?_); at_builtin; refine Kd.R_append_rows (Kd.int .u8) (w0 := w) w.heap.size rfl (.tmp 16) (.tmp 20) 26 5 (.int .u8 0) 1 rfl Try.underlying26 info5 rfl (by decide) (by omega) v675 y674 t678 _ _ _ (fun k_ => some k_ ≠ (.slice Ao15 t661.length co15 : Value).ownBlock ∧ some k_ ≠ (.slice Ao18 t671.length co18 : Value).ownBlock ∧ some k_ ≠ (.slice Ao21 t678.length co21 : Value).ownBlock) (fun _ => False) rfl rfl ?aO ?aR (fun _ _ h => h) (fun _ h => h.elim) ?aF ?aB ?aS ?aL ?_; (case aR => exact cel ((Kd.R_reads' HO680.out).2.2)); (case aB => exact bel); (case aF => exact (fun k_ hk => ⟨Kd.fresh' (Kd.R_lt (rel HO663.out)) k_ hk, Kd.fresh' (Kd.R_lt (rel HO673.out)) k_ hk, Kd.fresh' (Kd.R_lt (rel HO680.out)) k_ hk⟩)); (case aO => exact (by (with_reducible repeat (first | apply Kd.R_alloc | apply Kd.R_drewN | apply Kd.R_drew)); exact Kd.R_mono HO676.out (fun _ hk => ⟨hk.1.1, ⟨hk.1.2, hk.2⟩⟩))); (case aS => exact (below_size bel)); (case aL => have := LMc9.out; omega); intro v682 w20 ho hb hg hat; rw [← Ny681.out] at ho; have n0_ := aS (Kd.R_after (ok := (fun k_ => some k_ ≠ (.slice Ao18 t671.length co18 : Value).ownBlock ∧ some k_ ≠ (.slice Ao21 t678.length co21 : Value).ownBlock)) (by (with_reducible repeat (first | apply Kd.R_alloc | apply Kd.R_drewN | apply Kd.R_drew)); exact Kd.R_mono HO663.out (fun _ hk => ⟨⟨hk.1.1, hk.2⟩, hk.1.2⟩)) hg hat); have n1_ := aS (Kd.R_after (ok := (fun k_ => some k_ ≠ (.slice Ao15 t661.length co15 : Value).ownBlock ∧ some k_ ≠ (.slice Ao21 t678.length co21 : Value).ownBlock)) (by (with_reducible repeat (first | apply Kd.R_alloc | apply Kd.R_drewN | apply Kd.R_drew)); exact Kd.R_mono HO673.out (fun _ hk => ⟨⟨hk.1.1, hk.2⟩, hk.1.2⟩)) hg hat); have n2_ := aS (Kd.R_after (ok := (fun k_ => some k_ ≠ (.slice Ao15 t661.length co15 : Value).ownBlock ∧ some k_ ≠ (.slice Ao18 t671.length co18 : Value).ownBlock)) (by (with_reducible repeat (first | apply Kd.R_alloc | apply Kd.R_drewN | apply Kd.R_drew)); exact Kd.R_mono HO680.out (fun _ hk => ⟨⟨hk.1.1.2, hk.1.2⟩, hk.2⟩)) hg hat); have n3_ := aS (hb); have n4_ := aS (ho); clear HO663; clear HO673; clear HO680; clear HB; clear HO676; have HO663 := n0_; have HO673 := n1_; have HO680 := n2_; have HB := n3_; have HO683 := n4_; clear n0_ n1_ n2_ n3_ n4_; clear ho hb hg hat) | ((with_reducible refine gate_builtin (b := .append) (xs := #[.tmp 22, .tmp 23]) rfl ?_); at_builtin; refine Kd.R_append_rows (Kd.int .u8) (w0 := w) w.heap.size rfl (.tmp 22) (.tmp 23) 26 5 (.int .u8 0) 1 rfl Try.underlying26 info5 rfl (by decide) (by omega) v682 y681 l0 _ _ _ (fun k_ => some k_ ≠ (.slice Ao15 t661.length co15 : Value).ownBlock ∧ some k_ ≠ (.slice Ao18 t671.length co18 : Value).ownBlock ∧ some k_ ≠ (.slice Ao21 t678.length co21 : Value).ownBlock) (fun _ => False) rfl rfl ?aO ?aR (fun _ _ h => h) (fun _ h => h.elim) ?aF ?aB ?aS ?aL ?_; (case aR => exact cel (Kd.C_below HR0.out HB.out)); (case aB => exact bel); (case aF => exact (fun k_ hk => ⟨Kd.fresh' (Kd.R_lt (rel HO663.out)) k_ hk, Kd.fresh' (Kd.R_lt (rel HO673.out)) k_ hk, Kd.fresh' (Kd.R_lt (rel HO680.out)) k_ hk⟩)); (case aO => exact (rel HO683.out)); (case aS => exact (below_size bel)); (case aL => have := LMc10.out; omega); intro v685 w22 ho hb hg hat; rw [← Ny684.out] at ho; have n0_ := aS (Kd.R_after (ok := (fun k_ => some k_ ≠ (.slice Ao18 t671.length co18 : Value).ownBlock ∧ some k_ ≠ (.slice Ao21 t678.length co21 : Value).ownBlock)) (rel HO663.out) hg hat); have n1_ := aS (Kd.R_after (ok := (fun k_ => some k_ ≠ (.slice Ao15 t661.length co15 : Value).ownBlock ∧ some k_ ≠ (.slice Ao21 t678.length co21 : Value).ownBlock)) (rel HO673.out) hg hat); have n2_ := aS (Kd.R_after (ok := (fun k_ => some k_ ≠ (.slice Ao15 t661.length co15 : Value).ownBlock ∧ some k_ ≠ (.slice Ao18 t671.length co18 : Value).ownBlock)) (rel HO680.out) hg hat); have n3_ := aS (hb); have n4_ := aS (ho); clear HO663; clear HO673; clear HO680; clear HB; clear HO683; have HO663 := n0_; have HO673 := n1_; have HO680 := n2_; have HB := n3_; have HO686 := n4_; clear n0_ n1_ n2_ n3_ n4_; clear ho hb hg hat))
     go_ret
     exact ⟨_, rf3, by (with_reducible repeat (first | apply Kd.R_alloc | apply Kd.R_drewN | apply Kd.R_drew)); exact Kd.R_mono HO686.out (fun _ hk => trivial), bel⟩
    ·
     rw [if_neg c10] at H; exact absurd H (by simp)
   ·
    rw [if_neg c9] at H; exact absurd H (by simp)
  ·
   rw [if_neg c6] at H; exact absurd H (by simp)
 ·
  rw [if_neg c3] at H; exact absurd H (by simp)

/-! ### shardlogref10_Put: function 35 -/
def shardlogref10_Put.l0 : Nat → List (S42) → List Int → Int → Option (List Int)
 | 0, _, _, _ => none
 | k + 1, x0, x3, x4 => if x4 < (x0.length : Int) then (if 0 ≤ x4 then ((shardlogref08_Put.f k ((rd_T42 x0 x4).f0) ((rd_T42 x0 x4).f1) ((rd_T42 x0 x4).f2) ((rd_T42 x0 x4).f3) ((rd_T42 x0 x4).f4)).bind fun t691 => (if x3.length + t691.length < 140737488355328 then (shardlogref10_Put.l0 k x0 (x3 ++ t691) (wrap64 (x4 + 1))) else (none))) else (none)) else ((shardlogref06_Put.f k x3).bind fun t697 => (some t697))
def shardlogref10_Put.f (k : Nat) (l0 : List (S42)) : Option (List Int) := (shardlogref01_Num.f (l0.length : Int)).bind fun t687 => (shardlogref10_Put.l0 k l0 t687 0)
theorem shardlogref10_Put.mono_l : ∀ k, (∀ y0 y1 y2, LeO (shardlogref10_Put.l0 k y0 y1 y2) (shardlogref10_Put.l0 (k + 1) y0 y1 y2))
 | 0 => fun _ _ _ r h => by simp [shardlogref10_Put.l0] at h
 | k + 1 => by
  have ih0 := shardlogref10_Put.mono_l k
  ·
   intro y0 y1 y2
   unfold shardlogref10_Put.l0
   repeat' first
   | (with_reducible exact ih0 _ _ _)
   | (with_reducible exact shardlogref06_Put.mono _ _)
   | (with_reducible exact shardlogref08_Put.mono _ _ _ _ _ _)
   | (with_reducible exact LeO.refl _)
   | (with_reducible exact LeO.none _)
   | (with_reducible refine LeO.ite ?_ ?_)
   | (with_reducible refine LeO.bind ?_ (fun _ => ?_))
   | exact LeO.none _
   | refine LeO.ite ?_ ?_
   | refine LeO.bind ?_ (fun _ => ?_)
theorem shardlogref10_Put.mono : ∀ a0 k, LeO (shardlogref10_Put.f k a0) (shardlogref10_Put.f (k + 1) a0) := by
 intro a0 k
 have ih0 := shardlogref10_Put.mono_l k
 unfold shardlogref10_Put.f
 repeat' first
   | (with_reducible exact ih0 _ _ _)
   | (with_reducible exact shardlogref06_Put.mono _ _)
   | (with_reducible exact shardlogref08_Put.mono _ _ _ _ _ _)
   | (with_reducible exact LeO.refl _)
   | (with_reducible exact LeO.none _)
   | (with_reducible refine LeO.ite ?_ ?_)
   | (with_reducible refine LeO.bind ?_ (fun _ => ?_))
   | exact LeO.none _
   | refine LeO.ite ?_ ?_
   | refine LeO.bind ?_ (fun _ => ?_)
set_option maxHeartbeats 8000000 in
set_option maxRecDepth 100000 in
theorem shardlogref10_Put.calls (k : Nat) (A0 : Option Addr) (c0 : Nat) (l0 : List (S42)) (r : List Int) (w : World) (hr0 : Kd.C k42 w A0 l0.length l0) (hc0 : l0.length ≤ c0) (h : shardlogref10_Put.f k l0 = some r) :
  Calls Try.prog 35 #[.slice A0 l0.length c0] w fun e w' => ∃ v0_ : Value, e = .returned (v0_) ∧ Kd.R (Kd.int .u8) 5 w' w.heap.size (fun _ => True) v0_ r ∧ Below w.heap.size w w' := by
 have hu42 := Try.underlying42; have HR0 := aS hr0; have HC0 := aS hc0; clear hr0 hc0; have HB := aS (Below.refl w.heap.size w); have H : ((shardlogref01_Num.f (l0.length : Int)).bind fun t687 => (shardlogref10_Put.l0 k l0 t687 0)) = some r := h; clear h; replace H := obm H; obtain ⟨t687, A20, H⟩ := H; replace H : (shardlogref10_Put.l0 k l0 t687 0) = some r := H; have A2 := aS A20; clear A20
 have H' := aS H
 clear H
 go_enter Try.func35, Try.ntmps35
 go_wp2_with (first | ((with_reducible refine gate_callee (f := 33) rfl ?_); refine goesL_ (some 7) rfl rfl Try.func33 (by kernel_rfl) rfl #[.int .i64 (l0.length : Int)] rfl agn ?_; (with_reducible refine (shardlogref01_Num.calls (l0.length : Int) t687 _ A2.out).mono ?_); rintro e w3 ⟨v688, rfl, ho0, hb⟩; refine ⟨_, rfl, ?_⟩; have HO689 := aS (Kd.R_lower ho0 (below_size bel)); replace HB := bstep hb; (try clear hb); (try clear hk); (try clear hi); (try clear ho0)))
 go_loopg [3, 4] k (fun kq v3 v4 w' => ∃ (x3_1 : List Int) (x4_1 : Int), v4 = .int .i64 x4_1 ∧ Aside0 (shardlogref10_Put.l0 kq l0 x3_1 x4_1 = some r) ∧ Aside0 (kq ≤ k) ∧ Aside0 (Kd.R (Kd.int .u8) 5 w' w.heap.size (fun _ => True) v3 x3_1) ∧ Aside0 (Below w.heap.size w w'))
 case atStart => exact ⟨(t687), (0), srf, H', ⟨Nat.le_refl _⟩, ⟨by (with_reducible repeat (first | apply Kd.R_alloc | apply Kd.R_drewN | apply Kd.R_drew)); exact HO689.out⟩, ⟨bel⟩⟩
 case round =>
  clear H'; obtain ⟨x3_1, x4_1, rfl, HA, HK1, HO_3, HB⟩ := hrel
  cases gk with
  | zero => exact absurd HA.out (by simp [shardlogref10_Put.l0])
  | succ k1 =>
   have H := HA.out; clear HA
   simp only [shardlogref10_Put.l0] at H
   by_cases c4 : x4_1 < (l0.length : Int)
   ·
    rw [if_pos c4] at H; have c4b0 : decide (x4_1 < (l0.length : Int)) = true := decide_eq_true c4; clear c4
    by_cases c5 : 0 ≤ x4_1
    ·
     rw [if_pos c5] at H; have c5b0 : decide (0 ≤ x4_1) = true := decide_eq_true c5; clear c5; replace H := obm H; obtain ⟨t691, A60, H⟩ := H; replace H : (if x3_1.length + t691.length < 140737488355328 then (shardlogref10_Put.l0 k1 l0 (x3_1 ++ t691) (wrap64 (x4_1 + 1))) else (none)) = some r := H; have A6 := aS A60; clear A60
     by_cases c7 : x3_1.length + t691.length < 140737488355328
     ·
      rw [if_pos c7] at H; have LMc7 := aS c7; clear c7
      obtain ⟨y694, hy694⟩ : ∃ y_ : List Int, y_ = (x3_1 ++ t691) := ⟨_, rfl⟩
      replace H : (shardlogref10_Put.l0 k1 l0 y694 (wrap64 (x4_1 + 1))) = some r := hyr hy694 H; have Ny694 := aS hy694; clear hy694
      have H' := aS H
      clear H; have p690 : 0 ≤ (x4_1 : Int) := oda; have q690 : x4_1 < (l0.length : Int) := oda; obtain ⟨ad690, e690, hx690_0, hx690_1, hx690_2, hx690_3, hx690_4⟩ := at_T42 HR0.out x4_1 p690 q690; cases e690; replace hx690_0 := bx bel hx690_0; replace hx690_1 := bx bel hx690_1; replace hx690_2 := bx bel hx690_2; replace hx690_3 := bx bel hx690_3; replace hx690_4 := bx bel hx690_4; replace p690 := eq_true p690; replace q690 := eq_true q690
      go_wp2_with (first | ((with_reducible refine gate_callee (f := 34) rfl ?_); refine goesL_ (some 19) rfl rfl Try.func34 (by kernel_rfl) rfl #[.agg #[.string ((rd_T42 l0 x4_1).f0), .string ((rd_T42 l0 x4_1).f1), .int .i64 ((rd_T42 l0 x4_1).f2), .string ((rd_T42 l0 x4_1).f3), .bool ((rd_T42 l0 x4_1).f4)]] rfl agn ?_; (with_reducible refine (shardlogref08_Put.calls k1 ((rd_T42 l0 x4_1).f0) ((rd_T42 l0 x4_1).f1) ((rd_T42 l0 x4_1).f2) ((rd_T42 l0 x4_1).f3) ((rd_T42 l0 x4_1).f4) t691 _ A6.out).mono ?_); rintro e w8 ⟨v692, rfl, ho0, hb⟩; refine ⟨_, rfl, ?_⟩; have HO693 := aS (Kd.R_lower (Kd.R_new' ho0 (Kd.R_lt (rel HO_3.out))) (below_size bel)); replace HO_3 := aS (Kd.R_elder' (rel HO_3.out) (ebs ho0) hb); replace HB := bstep hb; (try clear hb); (try clear hk); (try clear hi); (try clear ho0); obtain ⟨Ao10, co10, eo10⟩ := Kd.R_slice HO693.out; subst eo10) | ((with_reducible refine gate_builtin (b := .append) (xs := #[.tmp 14, .tmp 19]) rfl ?_); at_builtin; refine Kd.R_append_rows (Kd.int .u8) (w0 := w) w.heap.size rfl (.tmp 14) (.tmp 19) 26 5 (.int .u8 0) 1 rfl Try.underlying26 info5 rfl (by decide) (by omega) u3 x3_1 t691 _ _ _ (fun k_ => some k_ ≠ (.slice Ao10 t691.length co10 : Value).ownBlock) (fun _ => False) rfl rfl ?aO ?aR (fun _ _ h => h) (fun _ h => h.elim) ?aF ?aB ?aS ?aL ?_; (case aR => exact cel ((Kd.R_reads' HO693.out).2.2)); (case aB => exact bel); (case aF => exact (fun k_ hk => Kd.fresh' (Kd.R_lt (rel HO693.out)) k_ hk)); (case aO => exact (rel (Kd.R_mono HO_3.out (fun _ hk => hk.2)))); (case aS => exact (below_size bel)); (case aL => have := LMc7.out; omega); intro v695 w9 ho hb hg hat; rw [← Ny694.out] at ho; have n0_ := aS (Kd.R_after (ok := (fun _ => True)) (rel HO693.out) hg hat); have n1_ := aS (hb); have n2_ := aS (ho); clear HO693; clear HB; clear HO_3; have HO693 := n0_; have HB := n1_; have HO696 := n2_; clear n0_ n1_ n2_; clear ho hb hg hat))
      go_roundg k1
      case measure => have := HK1.out; omega
      case rel => exact ⟨(y694), (wrap64 (x4_1 + 1)), srf, H', ⟨by have := HK1.out; omega⟩, ⟨by (with_reducible repeat (first | apply Kd.R_alloc | apply Kd.R_drewN | apply Kd.R_drew)); exact Kd.R_mono HO696.out (fun _ hk => trivial)⟩, ⟨bel⟩⟩
     ·
      rw [if_neg c7] at H; exact absurd H (by simp)
    ·
     rw [if_neg c5] at H; exact absurd H (by simp)
   ·
    rw [if_neg c4] at H; have c4b0 : decide (x4_1 < (l0.length : Int)) = false := decide_eq_false c4; clear c4; replace H := obm H; obtain ⟨t697, A110, H⟩ := H; replace H : (some t697) = some r := H; have A11 := aS A110; clear A110
    obtain rfl := Option.some.inj H
    obtain ⟨Ao12, co12, eo12⟩ := Kd.R_slice HO_3.out; subst eo12
    go_wp2_with (first | ((with_reducible refine gate_callee (f := 36) rfl ?_); refine goesL_ (some 22) rfl rfl Try.func36 (by kernel_rfl) rfl #[.slice Ao12 x3_1.length co12] rfl agn ?_; (with_reducible refine (shardlogref06_Put.calls k1 _ _ x3_1 t697 _ ?side1 ?side2 A11.out).mono ?_); (case side1 => exact cel ((Kd.R_reads' HO_3.out).2.2)); (case side2 => exact (Kd.R_reads' HO_3.out).2.1); rintro e w13 ⟨v698, rfl, ho0, hb⟩; refine ⟨_, rfl, ?_⟩; have HO699 := aS (Kd.R_lower (Kd.R_new' ho0 (Kd.R_lt (rel HO_3.out))) (below_size bel)); replace HO_3 := aS (Kd.R_elder' (rel HO_3.out) (ebs ho0) hb); replace HB := bstep hb; (try clear hb); (try clear hk); (try clear hi); (try clear ho0)))
    go_ret
    exact ⟨_, rf3, by (with_reducible repeat (first | apply Kd.R_alloc | apply Kd.R_drewN | apply Kd.R_drew)); exact Kd.R_mono HO699.out (fun _ hk => trivial), bel⟩

/-! ### shardlogref12_Build: function 15 -/
mutual
def shardlogref12_Build.l0 : Nat → List (S42) → List (List (S42)) → List Int → List Int → Int → Option (List Int)
 | 0, _, _, _, _, _ => none
 | k + 1, x0, x5, x6, x7, x8 => if x8 < (x5.length : Int) then (if 0 ≤ x8 then (if 0 < ((rd_L7 x5 x8).length : Int) then ((shardlogref08_Put.f k ((rd_T42 (rd_L7 x5 x8) 0).f0) ((rd_T42 (rd_L7 x5 x8) 0).f1) ((rd_T42 (rd_L7 x5 x8) 0).f2) (⟨#[]⟩ : ByteArray) false).bind fun t709 => (if x7.length + t709.length < 140737488355328 then ((some (x7 ++ t709 : List Int)).bind fun y712 => ((shardlogref01_Num.f (x6.length : Int)).bind fun t715 => (if y712.length + t715.length < 140737488355328 then ((shardlogref10_Put.f k (rd_L7 x5 x8)).bind fun t722 => (if x6.length + t722.length < 140737488355328 then (shardlogref12_Build.l0 k x0 x5 (x6 ++ t722) (y712 ++ t715) (wrap64 (x8 + 1))) else (none))) else (none)))) else (none))) else (none)) else (none)) else (shardlogref12_Build.l1 k x0 x6 x7 ([] : List ByteArray) 0)
def shardlogref12_Build.l1 : Nat → List (S42) → List Int → List Int → List ByteArray → Int → Option (List Int)
 | 0, _, _, _, _, _ => none
 | k + 1, x0, x6, x7, x10, x11 => if x11 < (x0.length : Int) then (if 0 ≤ x11 then ((shardlogref12_Key.f ((rd_T42 x0 x11).f0) ((rd_T42 x0 x11).f1)).bind fun t730 => (if x10.length < 8796093022208 then (shardlogref12_Build.l1 k x0 x6 x7 (x10 ++ [t730]) (wrap64 (x11 + 1))) else (none))) else (none)) else ((shardlogref11_Make.f k x10).bind fun t734 => ((shardlogref01_Text.f (strOfNums t734)).bind fun t737 => (if x7.length + t737.length < 140737488355328 then ((shardlogref06_Put.f k (x7 ++ t737)).bind fun t743 => (if x6.length + t743.length < 140737488355328 then ((some (x6 ++ t743 : List Int)).bind fun y746 => ((shardlogref01_Num.f (t743.length : Int)).bind fun t749 => (if y746.length + t749.length < 140737488355328 then (some (y746 ++ t749)) else (none)))) else (none))) else (none))))
end
def shardlogref12_Build.f (k : Nat) (l0 : List (S42)) (a1 : Int) : Option (List Int) := (shardlogref10_Cut.f k l0 a1).bind fun t700 => ((shardlogref01_Num.f (t700.length : Int)).bind fun t703 => (shardlogref12_Build.l0 k l0 t700 ([] : List Int) t703 0))
theorem shardlogref12_Build.mono_l : ∀ k, (∀ y0 y1 y2 y3 y4, LeO (shardlogref12_Build.l0 k y0 y1 y2 y3 y4) (shardlogref12_Build.l0 (k + 1) y0 y1 y2 y3 y4)) ∧ (∀ y0 y1 y2 y3 y4, LeO (shardlogref12_Build.l1 k y0 y1 y2 y3 y4) (shardlogref12_Build.l1 (k + 1) y0 y1 y2 y3 y4))
 | 0 => ⟨fun _ _ _ _ _ r h => by simp [shardlogref12_Build.l0] at h, fun _ _ _ _ _ r h => by simp [shardlogref12_Build.l1] at h⟩
 | k + 1 => by
  obtain ⟨ih0, ih1⟩ := shardlogref12_Build.mono_l k; refine ⟨?_, ?_⟩
  ·
   intro y0 y1 y2 y3 y4
   unfold shardlogref12_Build.l0
   repeat' first
   | (with_reducible exact ih0 _ _ _ _ _)
   | (with_reducible exact ih1 _ _ _ _ _)
   | (with_reducible exact shardlogref06_Put.mono _ _)
   | (with_reducible exact shardlogref08_Put.mono _ _ _ _ _ _)
   | (with_reducible exact shardlogref10_Cut.mono _ _ _)
   | (with_reducible exact shardlogref10_Put.mono _ _)
   | (with_reducible exact shardlogref11_Make.mono _ _)
   | (with_reducible exact LeO.refl _)
   | (with_reducible exact LeO.none _)
   | (with_reducible refine LeO.ite ?_ ?_)
   | (with_reducible refine LeO.bind ?_ (fun _ => ?_))
   | exact LeO.none _
   | refine LeO.ite ?_ ?_
   | refine LeO.bind ?_ (fun _ => ?_)
  ·
   intro y0 y1 y2 y3 y4
   unfold shardlogref12_Build.l1
   repeat' first
   | (with_reducible exact ih0 _ _ _ _ _)
   | (with_reducible exact ih1 _ _ _ _ _)
   | (with_reducible exact shardlogref06_Put.mono _ _)
   | (with_reducible exact shardlogref08_Put.mono _ _ _ _ _ _)
   | (with_reducible exact shardlogref10_Cut.mono _ _ _)
   | (with_reducible exact shardlogref10_Put.mono _ _)
   | (with_reducible exact shardlogref11_Make.mono _ _)
   | (with_reducible exact LeO.refl _)
   | (with_reducible exact LeO.none _)
   | (with_reducible refine LeO.ite ?_ ?_)
   | (with_reducible refine LeO.bind ?_ (fun _ => ?_))
   | exact LeO.none _
   | refine LeO.ite ?_ ?_
   | refine LeO.bind ?_ (fun _ => ?_)
theorem shardlogref12_Build.mono : ∀ a0 a1 k, LeO (shardlogref12_Build.f k a0 a1) (shardlogref12_Build.f (k + 1) a0 a1) := by
 intro a0 a1 k
 obtain ⟨ih0, ih1⟩ := shardlogref12_Build.mono_l k
 unfold shardlogref12_Build.f
 repeat' first
   | (with_reducible exact ih0 _ _ _ _ _)
   | (with_reducible exact ih1 _ _ _ _ _)
   | (with_reducible exact shardlogref06_Put.mono _ _)
   | (with_reducible exact shardlogref08_Put.mono _ _ _ _ _ _)
   | (with_reducible exact shardlogref10_Cut.mono _ _ _)
   | (with_reducible exact shardlogref10_Put.mono _ _)
   | (with_reducible exact shardlogref11_Make.mono _ _)
   | (with_reducible exact LeO.refl _)
   | (with_reducible exact LeO.none _)
   | (with_reducible refine LeO.ite ?_ ?_)
   | (with_reducible refine LeO.bind ?_ (fun _ => ?_))
   | exact LeO.none _
   | refine LeO.ite ?_ ?_
   | refine LeO.bind ?_ (fun _ => ?_)
def shardlogref12_Build.T15 : Bool × List (List Nat × List Nat) := (true, [([], []), ([], []), ([], []), ([1, 2], [1, 2]), ([3], [3]), ([4], [4]), ([], []), ([], []), ([6, 7], [6, 7]), ([8], [8]), ([9], [9]), ([5, 10], [5, 10]), ([11], [11]), ([0, 12, 11], [0, 12]), ([13, 13, 0, 1, 2, 3, 4, 5, 6, 7, 8, 9, 10, 11, 12, 13], [0, 13])])
def shardlogref12_Build.B15 : List Nat := [0, 0, 0, 6, 14, 30, 0, 0, 192, 448, 960, 2046, 4094, 8191, 16383]
theorem shardlogref12_Build.tab15 : rtab .any (opsOf Try.f15 15) = shardlogref12_Build.T15 := by kernel_rfl
theorem shardlogref12_Build.bits15 : waitsOk shardlogref12_Build.T15.2 shardlogref12_Build.B15 = true := by kernel_rfl
set_option maxHeartbeats 8000000 in
set_option maxRecDepth 100000 in
theorem shardlogref12_Build.calls (k : Nat) (A0 : Option Addr) (c0 : Nat) (l0 : List (S42)) (a1 : Int) (r : List Int) (w : World) (hr0 : Kd.C k42 w A0 l0.length l0) (hc0 : l0.length ≤ c0) (h : shardlogref12_Build.f k l0 a1 = some r) :
  Calls Try.prog 15 #[.slice A0 l0.length c0, .int .i64 a1] w fun e w' => ∃ v0_ : Value, e = .returned (v0_) ∧ Kd.R (Kd.int .u8) 5 w' w.heap.size (fun _ => True) v0_ r ∧ Below w.heap.size w w' := by
 have hu42 := Try.underlying42; have HR0 := aS hr0; have HC0 := aS hc0; clear hr0 hc0; have HB := aS (Below.refl w.heap.size w); have H : ((shardlogref10_Cut.f k l0 a1).bind fun t700 => ((shardlogref01_Num.f (t700.length : Int)).bind fun t703 => (shardlogref12_Build.l0 k l0 t700 ([] : List Int) t703 0))) = some r := h; clear h; replace H := obm H; obtain ⟨t700, A30, H⟩ := H; replace H : ((shardlogref01_Num.f (t700.length : Int)).bind fun t703 => (shardlogref12_Build.l0 k l0 t700 ([] : List Int) t703 0)) = some r := H; have A3 := aS A30; clear A30; replace H := obm H; obtain ⟨t703, A40, H⟩ := H; replace H : (shardlogref12_Build.l0 k l0 t700 ([] : List Int) t703 0) = some r := H; have A4 := aS A40; clear A40
 have H' := aS H
 clear H
 go_enter Try.func15, Try.ntmps15
 go_wp2_with (first | ((with_reducible refine gate_callee (f := 20) rfl ?_); refine goesL_ (some 14) rfl rfl Try.func20 (by kernel_rfl) rfl #[.slice A0 l0.length c0, .int .i64 a1] rfl agn ?_; (with_reducible refine (shardlogref10_Cut.calls k _ _ l0 a1 t700 _ ?side1 ?side2 A3.out).mono ?_); (case side1 => exact cel HR0.out); (case side2 => exact HC0.out); rintro e w5 ⟨v701, rfl, ho0, hb⟩; refine ⟨_, rfl, ?_⟩; have HO702 := aS (Kd.S_lower ho0 (below_size bel)); replace HB := bstep hb; (try clear hb); (try clear hk); (try clear hi); (try clear ho0); obtain ⟨Ao6, co6, eo6⟩ := Kd.S_slice HO702.out; subst eo6) | ((with_reducible refine gate_callee (f := 33) rfl ?_); refine goesL_ (some 17) rfl rfl Try.func33 (by kernel_rfl) rfl #[.int .i64 (t700.length : Int)] rfl agn ?_; (with_reducible refine (shardlogref01_Num.calls (t700.length : Int) t703 _ A4.out).mono ?_); rintro e w7 ⟨v704, rfl, ho0, hb⟩; refine ⟨_, rfl, ?_⟩; replace HO702 := aS (Kd.S_below (by (with_reducible repeat (first | apply Kd.S_alloc | apply Kd.S_drewN | apply Kd.S_drew)); exact HO702.out) hb); have HO705 := aS (Kd.R_lower ho0 (below_size bel)); replace HB := bstep hb; (try clear hb); (try clear hk); (try clear hi); (try clear ho0)))
 go_loopg [6, 7, 8] k (fun kq v6 v7 v8 w' => ∃ (x6_1 : List Int) (x7_1 : List Int) (x8_1 : Int), v8 = .int .i64 x8_1 ∧ Aside0 (shardlogref12_Build.l0 kq l0 t700 x6_1 x7_1 x8_1 = some r) ∧ Aside0 (kq ≤ k) ∧ Aside0 (Kd.S (Kd.slice 42 k42) 22 w' w.heap.size (fun _ => True) (.slice Ao6 t700.length co6) t700) ∧ Aside0 (Kd.R (Kd.int .u8) 5 w' w.heap.size (fun k_ => some k_ ≠ (v7 : Value).ownBlock) v6 x6_1) ∧ Aside0 (Kd.R (Kd.int .u8) 5 w' w.heap.size (fun k_ => some k_ ≠ (v6 : Value).ownBlock) v7 x7_1) ∧ Aside0 (Below w.heap.size w w'))
 case atStart => exact ⟨(([] : List Int)), (t703), (0), srf, H', ⟨Nat.le_refl _⟩, ⟨by (with_reducible repeat (first | apply Kd.S_alloc | apply Kd.S_drewN | apply Kd.S_drew)); exact HO702.out⟩, ⟨by first | exact Kd.R_nil _ _ _ _ _ | exact Kd.N_nil _ _ _ _ _ | exact Kd.V_nil _ _ _ _ _ | exact Kd.Q_nil _ _ _ _ _ | exact Kd.S_nil _ _ _ _ _⟩, ⟨by (with_reducible repeat (first | apply Kd.R_alloc | apply Kd.R_drewN | apply Kd.R_drew)); exact Kd.R_mono HO705.out (fun _ hk => (by simp [Value.ownBlock]))⟩, ⟨bel⟩⟩
 case round =>
  clear H'; obtain ⟨x6_1, x7_1, x8_1, rfl, HA, HK1, HO_5, HO_6, HO_7, HB⟩ := hrel
  cases gk with
  | zero => exact absurd HA.out (by simp [shardlogref12_Build.l0])
  | succ k1 =>
   have H := HA.out; clear HA
   simp only [shardlogref12_Build.l0] at H
   by_cases c8 : x8_1 < (t700.length : Int)
   ·
    rw [if_pos c8] at H; have c8b0 : decide (x8_1 < (t700.length : Int)) = true := decide_eq_true c8; clear c8
    by_cases c9 : 0 ≤ x8_1
    ·
     rw [if_pos c9] at H; have c9b0 : decide (0 ≤ x8_1) = true := decide_eq_true c9; clear c9
     by_cases c10 : 0 < ((rd_L7 t700 x8_1).length : Int)
     ·
      rw [if_pos c10] at H; have c10b0 : decide (0 < ((rd_L7 t700 x8_1).length : Int)) = true := decide_eq_true c10; have c10b1 : decide (0 < (rd_L7 t700 x8_1).length) = true := decide_eq_true (by omega); clear c10; replace H := obm H; obtain ⟨t709, A110, H⟩ := H; replace H : (if x7_1.length + t709.length < 140737488355328 then ((some (x7_1 ++ t709 : List Int)).bind fun y712 => ((shardlogref01_Num.f (x6_1.length : Int)).bind fun t715 => (if y712.length + t715.length < 140737488355328 then ((shardlogref10_Put.f k1 (rd_L7 t700 x8_1)).bind fun t722 => (if x6_1.length + t722.length < 140737488355328 then (shardlogref12_Build.l0 k1 l0 t700 (x6_1 ++ t722) (y712 ++ t715) (wrap64 (x8_1 + 1))) else (none))) else (none)))) else (none)) = some r := H; have A11 := aS A110; clear A110
      by_cases c12 : x7_1.length + t709.length < 140737488355328
      ·
       rw [if_pos c12] at H; have LMc12 := aS c12; clear c12
       obtain ⟨y712, hy712⟩ : ∃ y_ : List Int, y_ = (x7_1 ++ t709) := ⟨_, rfl⟩
       replace H : ((shardlogref01_Num.f (x6_1.length : Int)).bind fun t715 => (if y712.length + t715.length < 140737488355328 then ((shardlogref10_Put.f k1 (rd_L7 t700 x8_1)).bind fun t722 => (if x6_1.length + t722.length < 140737488355328 then (shardlogref12_Build.l0 k1 l0 t700 (x6_1 ++ t722) (y712 ++ t715) (wrap64 (x8_1 + 1))) else (none))) else (none))) = some r := hyr hy712 H; have Ny712 := aS hy712; clear hy712; replace H := obm H; obtain ⟨t715, A130, H⟩ := H; replace H : (if y712.length + t715.length < 140737488355328 then ((shardlogref10_Put.f k1 (rd_L7 t700 x8_1)).bind fun t722 => (if x6_1.length + t722.length < 140737488355328 then (shardlogref12_Build.l0 k1 l0 t700 (x6_1 ++ t722) (y712 ++ t715) (wrap64 (x8_1 + 1))) else (none))) else (none)) = some r := H; have A13 := aS A130; clear A130
       by_cases c14 : y712.length + t715.length < 140737488355328
       ·
        rw [if_pos c14] at H; have LMc14 := aS c14; clear c14
        obtain ⟨y718, hy718⟩ : ∃ y_ : List Int, y_ = (y712 ++ t715) := ⟨_, rfl⟩
        replace H : ((shardlogref10_Put.f k1 (rd_L7 t700 x8_1)).bind fun t722 => (if x6_1.length + t722.length < 140737488355328 then (shardlogref12_Build.l0 k1 l0 t700 (x6_1 ++ t722) y718 (wrap64 (x8_1 + 1))) else (none))) = some r := hyr hy718 H; have Ny718 := aS hy718; clear hy718; replace H := obm H; obtain ⟨t722, A150, H⟩ := H; replace H : (if x6_1.length + t722.length < 140737488355328 then (shardlogref12_Build.l0 k1 l0 t700 (x6_1 ++ t722) y718 (wrap64 (x8_1 + 1))) else (none)) = some r := H; have A15 := aS A150; clear A150
        by_cases c16 : x6_1.length + t722.length < 140737488355328
        ·
         rw [if_pos c16] at H; have LMc16 := aS c16; clear c16
         obtain ⟨y725, hy725⟩ : ∃ y_ : List Int, y_ = (x6_1 ++ t722) := ⟨_, rfl⟩
         replace H : (shardlogref12_Build.l0 k1 l0 t700 y725 y718 (wrap64 (x8_1 + 1))) = some r := hyr hy725 H; have Ny725 := aS hy725; clear hy725
         have H' := aS H
         clear H; have p706 : 0 ≤ (x8_1 : Int) := oda; have q706 : x8_1 < (t700.length : Int) := oda; obtain ⟨ad706, A706_0, c706_0, e706, hx706_0, hl706_0, hi706_0⟩ := at_L7 (Kd.S_reads' HO_5.out).2.2 x8_1 p706 q706; cases e706; obtain ⟨ce706, hce706, hMe706, hcc706⟩ := Kd.S_get HO_5.out [] x8_1 p706 (by first | exact q706 | exact oda | (have e_ := (Kd.S_reads' HO_5.out).1; omega)); obtain ⟨ve706_0, rfl, ge706_0⟩ := hMe706; have hv706_0 := hcc706 0 _ rfl; rw [Nat.add_zero, show ((Kd.slice 42 k42)).sz = 1 from rfl, Nat.mul_one] at hv706_0; replace hv706_0 := Option.some.inj (hv706_0.symm.trans hx706_0); rw [hv706_0] at ge706_0; have HL706_0 := aS (show Kd.R k42 42 _ _ _ _ (rd_L7 t700 x8_1) from ge706_0); clear hv706_0 ge706_0; clear hcc706 hce706; have HR706_0 := aS hi706_0; have HC706_0 := aS hl706_0; clear hi706_0 hl706_0; replace p706 := eq_true p706; replace q706 := eq_true q706; have p707 : 0 ≤ (0 : Int) := (by omega); have q707 : 0 < ((rd_L7 t700 x8_1).length : Int) := oda; obtain ⟨ad707, e707, hx707_0, hx707_1, hx707_2, hx707_3, hx707_4⟩ := at_T42 (by repeat (first | (with_reducible exact HR706_0.out) | (with_reducible refine Kd.C_alloc ?_ _) | (with_reducible refine Kd.C_drewN ?_ _) | (with_reducible refine Kd.C_drew ?_) | exact HR706_0.out)) 0 p707 q707; cases e707; have qi707 : (0 < (rd_L7 t700 x8_1).length) = True := eq_true (by omega)
         (try rw [show ((0 : Int)).toNat = 0 from rfl] at hx707_0)
         (try rw [show 0 * 5 = 0 from rfl] at hx707_0)
         (try rw [Addr.add_zero'] at hx707_0)
         (try rw [show ((0 : Int)).toNat = 0 from rfl] at hx707_1)
         (try rw [show 0 * 5 = 0 from rfl] at hx707_1)
         (try rw [Addr.add_zero'] at hx707_1)
         (try rw [show ((0 : Int)).toNat = 0 from rfl] at hx707_2)
         (try rw [show 0 * 5 = 0 from rfl] at hx707_2)
         (try rw [Addr.add_zero'] at hx707_2)
         (try rw [show ((0 : Int)).toNat = 0 from rfl] at hx707_3)
         (try rw [show 0 * 5 = 0 from rfl] at hx707_3)
         (try rw [Addr.add_zero'] at hx707_3)
         (try rw [show ((0 : Int)).toNat = 0 from rfl] at hx707_4)
         (try rw [show 0 * 5 = 0 from rfl] at hx707_4)
         (try rw [Addr.add_zero'] at hx707_4)
         replace p707 := eq_true p707; replace q707 := eq_true q707
         go_wp2_with (first | ((with_reducible refine gate_dst (N := 9) rfl ?_); refine box_event ?hg (N := 9) ?hd (cs := #[.string (⟨#[]⟩ : ByteArray), .string (⟨#[]⟩ : ByteArray), .int .i64 0, .string (⟨#[]⟩ : ByteArray), .bool false]) (t := 42) ?hr ?_; (case hd => rfl); (case hg => rfl); (case hr => first | (go_simp; done) | (go_simp; rfl)); intro gb708 hg w17 hbox hb; replace HO_5 := aS (Kd.S_below (Kd.S_elderB (by (with_reducible repeat (first | apply Kd.S_alloc | apply Kd.S_drewN | apply Kd.S_drew)); exact HO_5.out) gb708 (Nat.le_of_eq hg.symm)) hb); replace HO_6 := aS (Kd.R_below (rel HO_6.out) hb); replace HO_7 := aS (Kd.R_below (rel HO_7.out) hb); replace HL706_0 := aS (Kd.R_below (Kd.R_elderB (rel HL706_0.out) gb708 (Nat.le_of_eq hg.symm)) hb); replace HR706_0 := aS (Kd.C_below (by repeat (first | (with_reducible exact HR706_0.out) | (with_reducible refine Kd.C_alloc ?_ _) | (with_reducible refine Kd.C_drewN ?_ _) | (with_reducible refine Kd.C_drew ?_) | exact HR706_0.out)) hb); have BK708 := aS (hbox); have GW708 := bsize hg; have GE708 := bsize hg; replace HB := bstep hb; clear hb hbox hg; have hcz18 := cK5 BK708) | ((with_reducible refine gate_callee (f := 34) rfl ?_); refine goesL_ (some 38) rfl rfl Try.func34 (by kernel_rfl) rfl #[.agg #[.string ((rd_T42 (rd_L7 t700 x8_1) 0).f0), .string ((rd_T42 (rd_L7 t700 x8_1) 0).f1), .int .i64 ((rd_T42 (rd_L7 t700 x8_1) 0).f2), .string (⟨#[]⟩ : ByteArray), .bool false]] rfl agn ?_; (with_reducible refine (shardlogref08_Put.calls k1 ((rd_T42 (rd_L7 t700 x8_1) 0).f0) ((rd_T42 (rd_L7 t700 x8_1) 0).f1) ((rd_T42 (rd_L7 t700 x8_1) 0).f2) (⟨#[]⟩ : ByteArray) false t709 _ A11.out).mono ?_); rintro e w19 ⟨v710, rfl, ho0, hb⟩; refine ⟨_, rfl, ?_⟩; replace HO_5 := aS (Kd.S_below (by (with_reducible repeat (first | apply Kd.S_alloc | apply Kd.S_drewN | apply Kd.S_drew)); exact (Kd.S_mono (Kd.S_far (p := ⟨gb708, 4, none⟩) (Kd.S_far (p := ⟨gb708, 3, none⟩) (Kd.S_far (p := ⟨gb708, 2, none⟩) (Kd.S_far (p := ⟨gb708, 1, none⟩) (Kd.S_far (p := ⟨gb708, 0, none⟩) (Kd.S_mono HO_5.out (fun k_ hk => (⟨hk, hk.2⟩ : _ ∧ k_ ≠ gb708))) (fun _ hk => hk.2) (.string ((rd_T42 (rd_L7 t700 x8_1) 0).f0))) (fun _ hk => hk.2) (.string ((rd_T42 (rd_L7 t700 x8_1) 0).f1))) (fun _ hk => hk.2) (.int .i64 ((rd_T42 (rd_L7 t700 x8_1) 0).f2))) (fun _ hk => hk.2) (.string ((rd_T42 (rd_L7 t700 x8_1) 0).f3))) (fun _ hk => hk.2) (.bool ((rd_T42 (rd_L7 t700 x8_1) 0).f4))) (fun _ h_ => h_.1))) hb); have HO711 := aS (Kd.R_lower (Kd.R_new' (Kd.R_new' ho0 (Kd.R_lt (by (with_reducible repeat (first | apply Kd.R_alloc | apply Kd.R_drewN | apply Kd.R_drew)); exact (Kd.R_mono (Kd.R_far (p := ⟨gb708, 4, none⟩) (Kd.R_far (p := ⟨gb708, 3, none⟩) (Kd.R_far (p := ⟨gb708, 2, none⟩) (Kd.R_far (p := ⟨gb708, 1, none⟩) (Kd.R_far (p := ⟨gb708, 0, none⟩) (Kd.R_types HO_6.out BK708.out (by decide)) (fun _ hk => hk.2) (.string ((rd_T42 (rd_L7 t700 x8_1) 0).f0))) (fun _ hk => hk.2) (.string ((rd_T42 (rd_L7 t700 x8_1) 0).f1))) (fun _ hk => hk.2) (.int .i64 ((rd_T42 (rd_L7 t700 x8_1) 0).f2))) (fun _ hk => hk.2) (.string ((rd_T42 (rd_L7 t700 x8_1) 0).f3))) (fun _ hk => hk.2) (.bool ((rd_T42 (rd_L7 t700 x8_1) 0).f4))) (fun _ h_ => h_.1))))) (Kd.R_lt (by (with_reducible repeat (first | apply Kd.R_alloc | apply Kd.R_drewN | apply Kd.R_drew)); exact (Kd.R_mono (Kd.R_far (p := ⟨gb708, 4, none⟩) (Kd.R_far (p := ⟨gb708, 3, none⟩) (Kd.R_far (p := ⟨gb708, 2, none⟩) (Kd.R_far (p := ⟨gb708, 1, none⟩) (Kd.R_far (p := ⟨gb708, 0, none⟩) (Kd.R_types HO_7.out BK708.out (by decide)) (fun _ hk => hk.2) (.string ((rd_T42 (rd_L7 t700 x8_1) 0).f0))) (fun _ hk => hk.2) (.string ((rd_T42 (rd_L7 t700 x8_1) 0).f1))) (fun _ hk => hk.2) (.int .i64 ((rd_T42 (rd_L7 t700 x8_1) 0).f2))) (fun _ hk => hk.2) (.string ((rd_T42 (rd_L7 t700 x8_1) 0).f3))) (fun _ hk => hk.2) (.bool ((rd_T42 (rd_L7 t700 x8_1) 0).f4))) (fun _ h_ => h_.1))))) (below_size bel)); replace HO_6 := aS (Kd.R_elder' (by (with_reducible repeat (first | apply Kd.R_alloc | apply Kd.R_drewN | apply Kd.R_drew)); exact (Kd.R_mono (Kd.R_far (p := ⟨gb708, 4, none⟩) (Kd.R_far (p := ⟨gb708, 3, none⟩) (Kd.R_far (p := ⟨gb708, 2, none⟩) (Kd.R_far (p := ⟨gb708, 1, none⟩) (Kd.R_far (p := ⟨gb708, 0, none⟩) (Kd.R_types HO_6.out BK708.out (by decide)) (fun _ hk => hk.2) (.string ((rd_T42 (rd_L7 t700 x8_1) 0).f0))) (fun _ hk => hk.2) (.string ((rd_T42 (rd_L7 t700 x8_1) 0).f1))) (fun _ hk => hk.2) (.int .i64 ((rd_T42 (rd_L7 t700 x8_1) 0).f2))) (fun _ hk => hk.2) (.string ((rd_T42 (rd_L7 t700 x8_1) 0).f3))) (fun _ hk => hk.2) (.bool ((rd_T42 (rd_L7 t700 x8_1) 0).f4))) (fun _ h_ => h_.1))) (ebs ho0) hb); replace HO_7 := aS (Kd.R_elder' (by (with_reducible repeat (first | apply Kd.R_alloc | apply Kd.R_drewN | apply Kd.R_drew)); exact (Kd.R_mono (Kd.R_far (p := ⟨gb708, 4, none⟩) (Kd.R_far (p := ⟨gb708, 3, none⟩) (Kd.R_far (p := ⟨gb708, 2, none⟩) (Kd.R_far (p := ⟨gb708, 1, none⟩) (Kd.R_far (p := ⟨gb708, 0, none⟩) (Kd.R_types HO_7.out BK708.out (by decide)) (fun _ hk => hk.2) (.string ((rd_T42 (rd_L7 t700 x8_1) 0).f0))) (fun _ hk => hk.2) (.string ((rd_T42 (rd_L7 t700 x8_1) 0).f1))) (fun _ hk => hk.2) (.int .i64 ((rd_T42 (rd_L7 t700 x8_1) 0).f2))) (fun _ hk => hk.2) (.string ((rd_T42 (rd_L7 t700 x8_1) 0).f3))) (fun _ hk => hk.2) (.bool ((rd_T42 (rd_L7 t700 x8_1) 0).f4))) (fun _ h_ => h_.1))) (ebs ho0) hb); replace HR706_0 := aS (Kd.C_below ((Kd.R_reads' (by (with_reducible repeat (first | apply Kd.R_alloc | apply Kd.R_drewN | apply Kd.R_drew)); exact (Kd.R_mono (Kd.R_far (p := ⟨gb708, 4, none⟩) (Kd.R_far (p := ⟨gb708, 3, none⟩) (Kd.R_far (p := ⟨gb708, 2, none⟩) (Kd.R_far (p := ⟨gb708, 1, none⟩) (Kd.R_far (p := ⟨gb708, 0, none⟩) (Kd.R_mono HL706_0.out (fun k_ hk => (⟨hk, hk.2⟩ : _ ∧ k_ ≠ gb708))) (fun _ hk => hk.2) (.string ((rd_T42 (rd_L7 t700 x8_1) 0).f0))) (fun _ hk => hk.2) (.string ((rd_T42 (rd_L7 t700 x8_1) 0).f1))) (fun _ hk => hk.2) (.int .i64 ((rd_T42 (rd_L7 t700 x8_1) 0).f2))) (fun _ hk => hk.2) (.string ((rd_T42 (rd_L7 t700 x8_1) 0).f3))) (fun _ hk => hk.2) (.bool ((rd_T42 (rd_L7 t700 x8_1) 0).f4))) (fun _ h_ => h_.1)))).2.2) hb); replace HL706_0 := aS (Kd.R_below (by (with_reducible repeat (first | apply Kd.R_alloc | apply Kd.R_drewN | apply Kd.R_drew)); exact (Kd.R_mono (Kd.R_far (p := ⟨gb708, 4, none⟩) (Kd.R_far (p := ⟨gb708, 3, none⟩) (Kd.R_far (p := ⟨gb708, 2, none⟩) (Kd.R_far (p := ⟨gb708, 1, none⟩) (Kd.R_far (p := ⟨gb708, 0, none⟩) (Kd.R_mono HL706_0.out (fun k_ hk => (⟨hk, hk.2⟩ : _ ∧ k_ ≠ gb708))) (fun _ hk => hk.2) (.string ((rd_T42 (rd_L7 t700 x8_1) 0).f0))) (fun _ hk => hk.2) (.string ((rd_T42 (rd_L7 t700 x8_1) 0).f1))) (fun _ hk => hk.2) (.int .i64 ((rd_T42 (rd_L7 t700 x8_1) 0).f2))) (fun _ hk => hk.2) (.string ((rd_T42 (rd_L7 t700 x8_1) 0).f3))) (fun _ hk => hk.2) (.bool ((rd_T42 (rd_L7 t700 x8_1) 0).f4))) (fun _ h_ => h_.1))) hb); replace BK708 := aS (blk_below (g := gb708) (o := .cells #[.string ((rd_T42 (rd_L7 t700 x8_1) 0).f0), .string ((rd_T42 (rd_L7 t700 x8_1) 0).f1), .int .i64 ((rd_T42 (rd_L7 t700 x8_1) 0).f2), .string ((rd_T42 (rd_L7 t700 x8_1) 0).f3), .bool ((rd_T42 (rd_L7 t700 x8_1) 0).f4)] 42 (0, 0)) (by (with_reducible repeat (first | refine blk_drewN ?_ _ | refine blk_drew ?_ | refine blk_alloc ?_ _)); refine blk_put (cs := #[.string ((rd_T42 (rd_L7 t700 x8_1) 0).f0), .string ((rd_T42 (rd_L7 t700 x8_1) 0).f1), .int .i64 ((rd_T42 (rd_L7 t700 x8_1) 0).f2), .string ((rd_T42 (rd_L7 t700 x8_1) 0).f3), .bool false]) ?_ 4 _ rfl; (with_reducible repeat (first | refine blk_drewN ?_ _ | refine blk_drew ?_ | refine blk_alloc ?_ _)); refine blk_put (cs := #[.string ((rd_T42 (rd_L7 t700 x8_1) 0).f0), .string ((rd_T42 (rd_L7 t700 x8_1) 0).f1), .int .i64 ((rd_T42 (rd_L7 t700 x8_1) 0).f2), .string (⟨#[]⟩ : ByteArray), .bool false]) ?_ 3 _ rfl; (with_reducible repeat (first | refine blk_drewN ?_ _ | refine blk_drew ?_ | refine blk_alloc ?_ _)); refine blk_put (cs := #[.string ((rd_T42 (rd_L7 t700 x8_1) 0).f0), .string ((rd_T42 (rd_L7 t700 x8_1) 0).f1), .int .i64 0, .string (⟨#[]⟩ : ByteArray), .bool false]) ?_ 2 _ rfl; (with_reducible repeat (first | refine blk_drewN ?_ _ | refine blk_drew ?_ | refine blk_alloc ?_ _)); refine blk_put (cs := #[.string ((rd_T42 (rd_L7 t700 x8_1) 0).f0), .string (⟨#[]⟩ : ByteArray), .int .i64 0, .string (⟨#[]⟩ : ByteArray), .bool false]) ?_ 1 _ rfl; (with_reducible repeat (first | refine blk_drewN ?_ _ | refine blk_drew ?_ | refine blk_alloc ?_ _)); refine blk_put (cs := #[.string (⟨#[]⟩ : ByteArray), .string (⟨#[]⟩ : ByteArray), .int .i64 0, .string (⟨#[]⟩ : ByteArray), .bool false]) ?_ 0 _ rfl; (with_reducible repeat (first | refine blk_drewN ?_ _ | refine blk_drew ?_ | refine blk_alloc ?_ _)); exact BK708.out) hb); replace HB := bstep hb; (try clear hb); (try clear hk); (try clear hi); (try clear ho0); obtain ⟨Ao21, co21, eo21⟩ := Kd.R_slice HO711.out; subst eo21) | ((with_reducible refine gate_builtin (b := .append) (xs := #[.tmp 30, .tmp 38]) rfl ?_); at_builtin; refine Kd.R_append_rows (Kd.int .u8) (w0 := w) w.heap.size rfl (.tmp 30) (.tmp 38) 26 5 (.int .u8 0) 1 rfl Try.underlying26 info5 rfl (by decide) (by omega) u7 x7_1 t709 _ _ _ (fun k_ => some k_ ≠ (u6 : Value).ownBlock ∧ some k_ ≠ (.slice Ao21 t709.length co21 : Value).ownBlock) (fun _ => False) rfl rfl ?aO ?aR (fun _ _ h => h) (fun _ h => h.elim) ?aF ?aB ?aS ?aL ?_; (case aR => exact cel ((Kd.R_reads' HO711.out).2.2)); (case aB => exact bel); (case aF => exact (fun k_ hk => ⟨Kd.fresh' (Kd.R_lt (rel HO_6.out)) k_ hk, Kd.fresh' (Kd.R_lt (rel HO711.out)) k_ hk⟩)); (case aO => exact (rel HO_7.out)); (case aS => exact (below_size bel)); (case aL => have := LMc12.out; omega); intro v713 w20 ho hb hg hat; rw [← Ny712.out] at ho; have n0_ := aS (Kd.S_over' (by (with_reducible repeat (first | apply Kd.S_alloc | apply Kd.S_drewN | apply Kd.S_drew)); exact HO_5.out) (Kd.R_typed (rel HO_7.out)) (by decide) hg); have n1_ := aS (Kd.R_after (ok := (fun k_ => some k_ ≠ (.slice Ao21 t709.length co21 : Value).ownBlock)) (by (with_reducible repeat (first | apply Kd.R_alloc | apply Kd.R_drewN | apply Kd.R_drew)); exact Kd.R_mono HO_6.out (fun _ hk => ⟨hk.2, hk.1⟩)) hg hat); have n2_ := aS (Kd.R_over' (rel HL706_0.out) (Kd.R_typed (rel HO_7.out)) (by decide) hg); have n3_ := aS (blk_grown (g := gb708) (o := .cells #[.string ((rd_T42 (rd_L7 t700 x8_1) 0).f0), .string ((rd_T42 (rd_L7 t700 x8_1) 0).f1), .int .i64 ((rd_T42 (rd_L7 t700 x8_1) 0).f2), .string ((rd_T42 (rd_L7 t700 x8_1) 0).f3), .bool ((rd_T42 (rd_L7 t700 x8_1) 0).f4)] 42 (0, 0)) (bkl BK708.out) hg (Kd.R_ne HO_7.out BK708.out (by decide))); have n4_ := aS (Kd.R_after (ok := (fun k_ => some k_ ≠ (u6 : Value).ownBlock)) (by (with_reducible repeat (first | apply Kd.R_alloc | apply Kd.R_drewN | apply Kd.R_drew)); exact Kd.R_mono HO711.out (fun _ hk => ⟨hk.1.2, hk.2⟩)) hg hat); have n5_ := aS (hb); have n6_ := aS (ho); clear HO_5; clear HO_6; clear HL706_0; clear BK708; clear HO711; clear HB; clear HO_7; have HO_5 := n0_; have HO_6 := n1_; have HL706_0 := n2_; have BK708 := n3_; have HO711 := n4_; have HB := n5_; have HO714 := n6_; clear n0_ n1_ n2_ n3_ n4_ n5_ n6_; clear ho hb hg hat; obtain ⟨Ao22, co22, eo22⟩ := Kd.R_slice HO_6.out; subst eo22) | ((with_reducible refine gate_callee (f := 33) rfl ?_); refine goesL_ (some 43) rfl rfl Try.func33 (by kernel_rfl) rfl #[.int .i64 (x6_1.length : Int)] rfl agn ?_; (with_reducible refine (shardlogref01_Num.calls (x6_1.length : Int) t715 _ A13.out).mono ?_); rintro e w23 ⟨v716, rfl, ho0, hb⟩; refine ⟨_, rfl, ?_⟩; replace HO_5 := aS (Kd.S_below (by (with_reducible repeat (first | apply Kd.S_alloc | apply Kd.S_drewN | apply Kd.S_drew)); exact HO_5.out) hb); replace HL706_0 := aS (Kd.R_below (rel HL706_0.out) hb); have HO717 := aS (Kd.R_lower (Kd.R_new' (Kd.R_new' (Kd.R_new' ho0 (Kd.R_lt (rel HO_6.out))) (Kd.R_lt (rel HO711.out))) (Kd.R_lt (rel HO714.out))) (below_size bel)); replace HO_6 := aS (Kd.R_elder' (rel HO_6.out) (ebs ho0) hb); replace HO711 := aS (Kd.R_elder' (rel HO711.out) (ebs ho0) hb); replace HO714 := aS (Kd.R_elder' (rel HO714.out) (ebs ho0) hb); replace BK708 := bbl BK708 hb; replace HB := bstep hb; (try clear hb); (try clear hk); (try clear hi); (try clear ho0); obtain ⟨Ao25, co25, eo25⟩ := Kd.R_slice HO717.out; subst eo25) | ((with_reducible refine gate_builtin (b := .append) (xs := #[.tmp 40, .tmp 43]) rfl ?_); at_builtin; refine Kd.R_append_rows (Kd.int .u8) (w0 := w) w.heap.size rfl (.tmp 40) (.tmp 43) 26 5 (.int .u8 0) 1 rfl Try.underlying26 info5 rfl (by decide) (by omega) v713 y712 t715 _ _ _ (fun k_ => some k_ ≠ (.slice Ao22 x6_1.length co22 : Value).ownBlock ∧ some k_ ≠ (.slice Ao21 t709.length co21 : Value).ownBlock ∧ some k_ ≠ (.slice Ao25 t715.length co25 : Value).ownBlock) (fun _ => False) rfl rfl ?aO ?aR (fun _ _ h => h) (fun _ h => h.elim) ?aF ?aB ?aS ?aL ?_; (case aR => exact cel ((Kd.R_reads' HO717.out).2.2)); (case aB => exact bel); (case aF => exact (fun k_ hk => ⟨Kd.fresh' (Kd.R_lt (rel HO_6.out)) k_ hk, Kd.fresh' (Kd.R_lt (rel HO711.out)) k_ hk, Kd.fresh' (Kd.R_lt (rel HO717.out)) k_ hk⟩)); (case aO => exact (by (with_reducible repeat (first | apply Kd.R_alloc | apply Kd.R_drewN | apply Kd.R_drew)); exact Kd.R_mono HO714.out (fun _ hk => ⟨hk.1.1, ⟨hk.1.2, hk.2⟩⟩))); (case aS => exact (below_size bel)); (case aL => have := LMc14.out; omega); intro v719 w24 ho hb hg hat; rw [← Ny718.out] at ho; have n0_ := aS (Kd.S_over' (by (with_reducible repeat (first | apply Kd.S_alloc | apply Kd.S_drewN | apply Kd.S_drew)); exact HO_5.out) (Kd.R_typed (rel HO714.out)) (by decide) hg); have n1_ := aS (Kd.R_after (ok := (fun k_ => some k_ ≠ (.slice Ao21 t709.length co21 : Value).ownBlock ∧ some k_ ≠ (.slice Ao25 t715.length co25 : Value).ownBlock)) (by (with_reducible repeat (first | apply Kd.R_alloc | apply Kd.R_drewN | apply Kd.R_drew)); exact Kd.R_mono HO_6.out (fun _ hk => ⟨⟨hk.1.1, hk.2⟩, hk.1.2⟩)) hg hat); have n2_ := aS (Kd.R_over' (rel HL706_0.out) (Kd.R_typed (rel HO714.out)) (by decide) hg); have n3_ := aS (blk_grown (g := gb708) (o := .cells #[.string ((rd_T42 (rd_L7 t700 x8_1) 0).f0), .string ((rd_T42 (rd_L7 t700 x8_1) 0).f1), .int .i64 ((rd_T42 (rd_L7 t700 x8_1) 0).f2), .string ((rd_T42 (rd_L7 t700 x8_1) 0).f3), .bool ((rd_T42 (rd_L7 t700 x8_1) 0).f4)] 42 (0, 0)) (bkl BK708.out) hg (Kd.R_ne HO714.out BK708.out (by decide))); have n4_ := aS (Kd.R_after (ok := (fun k_ => some k_ ≠ (.slice Ao22 x6_1.length co22 : Value).ownBlock ∧ some k_ ≠ (.slice Ao25 t715.length co25 : Value).ownBlock)) (by (with_reducible repeat (first | apply Kd.R_alloc | apply Kd.R_drewN | apply Kd.R_drew)); exact Kd.R_mono HO711.out (fun _ hk => ⟨⟨hk.1.1, hk.2⟩, hk.1.2⟩)) hg hat); have n5_ := aS (Kd.R_after (ok := (fun k_ => some k_ ≠ (.slice Ao22 x6_1.length co22 : Value).ownBlock ∧ some k_ ≠ (.slice Ao21 t709.length co21 : Value).ownBlock)) (by (with_reducible repeat (first | apply Kd.R_alloc | apply Kd.R_drewN | apply Kd.R_drew)); exact Kd.R_mono HO717.out (fun _ hk => ⟨⟨hk.1.1.2, hk.1.2⟩, hk.2⟩)) hg hat); have n6_ := aS (hb); have n7_ := aS (ho); clear HO_5; clear HO_6; clear HL706_0; clear BK708; clear HO711; clear HO717; clear HB; clear HO714; have HO_5 := n0_; have HO_6 := n1_; have HL706_0 := n2_; have BK708 := n3_; have HO711 := n4_; have HO717 := n5_; have HB := n6_; have HO720 := n7_; clear n0_ n1_ n2_ n3_ n4_ n5_ n6_ n7_; clear ho hb hg hat; have p721 : 0 ≤ (x8_1 : Int) := oda; have q721 : x8_1 < (t700.length : Int) := oda; obtain ⟨ad721, A721_0, c721_0, e721, hx721_0, hl721_0, hi721_0⟩ := at_L7 (Kd.S_reads' HO_5.out).2.2 x8_1 p721 q721; obtain rfl : ad706 = ad721 := (by injection e721); obtain ⟨ce721, hce721, hMe721, hcc721⟩ := Kd.S_get HO_5.out [] x8_1 p721 (by first | exact q721 | exact oda | (have e_ := (Kd.S_reads' HO_5.out).1; omega)); obtain ⟨ve721_0, rfl, ge721_0⟩ := hMe721; have hv721_0 := hcc721 0 _ rfl; rw [Nat.add_zero, show ((Kd.slice 42 k42)).sz = 1 from rfl, Nat.mul_one] at hv721_0; replace hv721_0 := Option.some.inj (hv721_0.symm.trans hx721_0); rw [hv721_0] at ge721_0; have HL721_0 := aS (show Kd.R k42 42 _ _ _ _ (rd_L7 t700 x8_1) from ge721_0); clear hv721_0 ge721_0; clear hcc721 hce721; have HR721_0 := aS hi721_0; have HC721_0 := aS hl721_0; clear hi721_0 hl721_0; replace p721 := eq_true p721; replace q721 := eq_true q721) | ((with_reducible refine gate_callee (f := 35) rfl ?_); refine goesL_ (some 50) rfl rfl Try.func35 (by kernel_rfl) rfl #[.slice A721_0 (rd_L7 t700 x8_1).length c721_0] rfl agn ?_; (with_reducible refine (shardlogref10_Put.calls k1 _ _ (rd_L7 t700 x8_1) t722 _ ?side1 ?side2 A15.out).mono ?_); (case side1 => repeat (first | exact (by repeat (first | (with_reducible exact HR721_0.out) | (with_reducible refine Kd.C_alloc ?_ _) | (with_reducible refine Kd.C_drewN ?_ _) | (with_reducible refine Kd.C_drew ?_) | exact HR721_0.out)) | (with_reducible refine Kd.C_alloc ?_ _) | (with_reducible refine Kd.C_drewN ?_ _) | (with_reducible refine Kd.C_drew ?_))); (case side2 => exact HC721_0.out); rintro e w26 ⟨v723, rfl, ho0, hb⟩; refine ⟨_, rfl, ?_⟩; replace HO_5 := aS (Kd.S_below (by (with_reducible repeat (first | apply Kd.S_alloc | apply Kd.S_drewN | apply Kd.S_drew)); exact HO_5.out) hb); replace HL706_0 := aS (Kd.R_below (rel HL706_0.out) hb); replace HL721_0 := aS (Kd.R_below (rel HL721_0.out) hb); have HO724 := aS (Kd.R_lower (Kd.R_new' (Kd.R_new' (Kd.R_new' (Kd.R_new' ho0 (Kd.R_lt (rel HO_6.out))) (Kd.R_lt (rel HO711.out))) (Kd.R_lt (rel HO717.out))) (Kd.R_lt (rel HO720.out))) (below_size bel)); replace HO_6 := aS (Kd.R_elder' (rel HO_6.out) (ebs ho0) hb); replace HO711 := aS (Kd.R_elder' (rel HO711.out) (ebs ho0) hb); replace HO717 := aS (Kd.R_elder' (rel HO717.out) (ebs ho0) hb); replace HO720 := aS (Kd.R_elder' (rel HO720.out) (ebs ho0) hb); replace BK708 := bbl BK708 hb; replace HR721_0 := aS (Kd.C_below (by repeat (first | (with_reducible exact HR721_0.out) | (with_reducible refine Kd.C_alloc ?_ _) | (with_reducible refine Kd.C_drewN ?_ _) | (with_reducible refine Kd.C_drew ?_) | exact HR721_0.out)) hb); replace HB := bstep hb; (try clear hb); (try clear hk); (try clear hi); (try clear ho0); obtain ⟨Ao28, co28, eo28⟩ := Kd.R_slice HO724.out; subst eo28) | ((with_reducible refine gate_builtin (b := .append) (xs := #[.tmp 45, .tmp 50]) rfl ?_); at_builtin; refine Kd.R_append_rows (Kd.int .u8) (w0 := w) w.heap.size rfl (.tmp 45) (.tmp 50) 26 5 (.int .u8 0) 1 rfl Try.underlying26 info5 rfl (by decide) (by omega) (.slice Ao22 x6_1.length co22) x6_1 t722 _ _ _ (fun k_ => some k_ ≠ (.slice Ao21 t709.length co21 : Value).ownBlock ∧ some k_ ≠ (.slice Ao25 t715.length co25 : Value).ownBlock ∧ some k_ ≠ (v719 : Value).ownBlock ∧ some k_ ≠ (.slice Ao28 t722.length co28 : Value).ownBlock) (fun _ => False) rfl rfl ?aO ?aR (fun _ _ h => h) (fun _ h => h.elim) ?aF ?aB ?aS ?aL ?_; (case aR => repeat (first | exact (Kd.R_reads' HO724.out).2.2 | (with_reducible refine Kd.C_alloc ?_ _) | (with_reducible refine Kd.C_drewN ?_ _) | (with_reducible refine Kd.C_drew ?_))); (case aB => exact bel); (case aF => exact (fun k_ hk => ⟨Kd.fresh' (Kd.R_lt (rel HO711.out)) k_ hk, Kd.fresh' (Kd.R_lt (rel HO717.out)) k_ hk, Kd.fresh' (Kd.R_lt (rel HO720.out)) k_ hk, Kd.fresh' (Kd.R_lt (rel HO724.out)) k_ hk⟩)); (case aO => exact (by (with_reducible repeat (first | apply Kd.R_alloc | apply Kd.R_drewN | apply Kd.R_drew)); exact Kd.R_mono HO_6.out (fun _ hk => ⟨hk.1.1.1, ⟨hk.1.1.2, ⟨hk.1.2, hk.2⟩⟩⟩))); (case aS => exact (below_size bel)); (case aL => have := LMc16.out; omega); intro v726 w27 ho hb hg hat; rw [← Ny725.out] at ho; have n0_ := aS (Kd.S_over' (by (with_reducible repeat (first | apply Kd.S_alloc | apply Kd.S_drewN | apply Kd.S_drew)); exact HO_5.out) (Kd.R_typed (rel HO_6.out)) (by decide) hg); have n1_ := aS (Kd.R_over' (rel HL706_0.out) (Kd.R_typed (rel HO_6.out)) (by decide) hg); have n2_ := aS (blk_grown (g := gb708) (o := .cells #[.string ((rd_T42 (rd_L7 t700 x8_1) 0).f0), .string ((rd_T42 (rd_L7 t700 x8_1) 0).f1), .int .i64 ((rd_T42 (rd_L7 t700 x8_1) 0).f2), .string ((rd_T42 (rd_L7 t700 x8_1) 0).f3), .bool ((rd_T42 (rd_L7 t700 x8_1) 0).f4)] 42 (0, 0)) (bkl BK708.out) hg (Kd.R_ne HO_6.out BK708.out (by decide))); have n3_ := aS (Kd.R_after (ok := (fun k_ => some k_ ≠ (.slice Ao25 t715.length co25 : Value).ownBlock ∧ some k_ ≠ (v719 : Value).ownBlock ∧ some k_ ≠ (.slice Ao28 t722.length co28 : Value).ownBlock)) (by (with_reducible repeat (first | apply Kd.R_alloc | apply Kd.R_drewN | apply Kd.R_drew)); exact Kd.R_mono HO711.out (fun _ hk => ⟨⟨hk.1.1.2, ⟨hk.1.2, hk.2⟩⟩, hk.1.1.1⟩)) hg hat); have n4_ := aS (Kd.R_after (ok := (fun k_ => some k_ ≠ (.slice Ao21 t709.length co21 : Value).ownBlock ∧ some k_ ≠ (v719 : Value).ownBlock ∧ some k_ ≠ (.slice Ao28 t722.length co28 : Value).ownBlock)) (by (with_reducible repeat (first | apply Kd.R_alloc | apply Kd.R_drewN | apply Kd.R_drew)); exact Kd.R_mono HO717.out (fun _ hk => ⟨⟨hk.1.1.2, ⟨hk.1.2, hk.2⟩⟩, hk.1.1.1⟩)) hg hat); have n5_ := aS (Kd.R_after (ok := (fun k_ => some k_ ≠ (.slice Ao21 t709.length co21 : Value).ownBlock ∧ some k_ ≠ (.slice Ao25 t715.length co25 : Value).ownBlock ∧ some k_ ≠ (.slice Ao28 t722.length co28 : Value).ownBlock)) (by (with_reducible repeat (first | apply Kd.R_alloc | apply Kd.R_drewN | apply Kd.R_drew)); exact Kd.R_mono HO720.out (fun _ hk => ⟨⟨hk.1.2.1, ⟨hk.1.2.2, hk.2⟩⟩, hk.1.1⟩)) hg hat); have n6_ := aS (Kd.R_over' (rel HL721_0.out) (Kd.R_typed (rel HO_6.out)) (by decide) hg); have n7_ := aS (Kd.R_after (ok := (fun k_ => some k_ ≠ (.slice Ao21 t709.length co21 : Value).ownBlock ∧ some k_ ≠ (.slice Ao25 t715.length co25 : Value).ownBlock ∧ some k_ ≠ (v719 : Value).ownBlock)) (by (with_reducible repeat (first | apply Kd.R_alloc | apply Kd.R_drewN | apply Kd.R_drew)); exact Kd.R_mono HO724.out (fun _ hk => ⟨⟨hk.1.1.2, ⟨hk.1.2, hk.2⟩⟩, hk.1.1.1.2⟩)) hg hat); have n8_ := aS (hb); have n9_ := aS (ho); clear HO_5; clear HL706_0; clear BK708; clear HO711; clear HO717; clear HO720; clear HL721_0; clear HO724; clear HB; clear HO_6; have HO_5 := n0_; have HL706_0 := n1_; have BK708 := n2_; have HO711 := n3_; have HO717 := n4_; have HO720 := n5_; have HL721_0 := n6_; have HO724 := n7_; have HB := n8_; have HO727 := n9_; clear n0_ n1_ n2_ n3_ n4_ n5_ n6_ n7_ n8_ n9_; clear ho hb hg hat))
         go_roundg k1
         case measure => have := HK1.out; omega
         case rel => exact ⟨(y725), (y718), (wrap64 (x8_1 + 1)), srf, H', ⟨by have := HK1.out; omega⟩, ⟨by (with_reducible repeat (first | apply Kd.S_alloc | apply Kd.S_drewN | apply Kd.S_drew)); exact Kd.S_mono HO_5.out (fun _ hk => trivial)⟩, ⟨by (with_reducible repeat (first | apply Kd.R_alloc | apply Kd.R_drewN | apply Kd.R_drew)); exact Kd.R_mono HO727.out (fun _ hk => hk.2.2.1)⟩, ⟨by (with_reducible repeat (first | apply Kd.R_alloc | apply Kd.R_drewN | apply Kd.R_drew)); exact Kd.R_mono HO720.out (fun _ hk => hk.2)⟩, ⟨bel⟩⟩
        ·
         rw [if_neg c16] at H; exact absurd H (by simp)
       ·
        rw [if_neg c14] at H; exact absurd H (by simp)
      ·
       rw [if_neg c12] at H; exact absurd H (by simp)
     ·
      rw [if_neg c10] at H; exact absurd H (by simp)
    ·
     rw [if_neg c9] at H; exact absurd H (by simp)
   ·
    rw [if_neg c8] at H; have c8b0 : decide (x8_1 < (t700.length : Int)) = false := decide_eq_false c8; clear c8
    have H' := aS H
    clear H
    go_wp2
    go_loopg [10, 11] k1 (fun kq v10 v11 w' => ∃ (x10_2 : List ByteArray) (x11_2 : Int), v11 = .int .i64 x11_2 ∧ Aside0 (shardlogref12_Build.l1 kq l0 x6_1 x7_1 x10_2 x11_2 = some r) ∧ Aside0 (kq ≤ k1) ∧ Aside0 (Kd.R (Kd.int .u8) 5 w' w.heap.size (fun k_ => some k_ ≠ (u7 : Value).ownBlock) u6 x6_1) ∧ Aside0 (Kd.R (Kd.int .u8) 5 w' w.heap.size (fun k_ => some k_ ≠ (u6 : Value).ownBlock) u7 x7_1) ∧ Aside0 (Kd.R Kd.string 9 w' w.heap.size (fun _ => True) v10 x10_2) ∧ Aside0 (Below w.heap.size w w'))
    case atStart => exact ⟨(([] : List ByteArray)), (0), srf, H', ⟨Nat.le_refl _⟩, ⟨by (with_reducible repeat (first | apply Kd.R_alloc | apply Kd.R_drewN | apply Kd.R_drew)); exact HO_6.out⟩, ⟨by (with_reducible repeat (first | apply Kd.R_alloc | apply Kd.R_drewN | apply Kd.R_drew)); exact HO_7.out⟩, ⟨by first | exact Kd.R_nil _ _ _ _ _ | exact Kd.N_nil _ _ _ _ _ | exact Kd.V_nil _ _ _ _ _ | exact Kd.Q_nil _ _ _ _ _ | exact Kd.S_nil _ _ _ _ _⟩, ⟨bel⟩⟩
    case round =>
     clear H'; (try clear c8); (try clear c8b0); obtain ⟨x10_2, x11_2, rfl, HA, HK2, HO_6, HO_7, HO_10, HB⟩ := hrel
     cases gk with
     | zero => exact absurd HA.out (by simp [shardlogref12_Build.l1])
     | succ k2 =>
      have H := HA.out; clear HA
      simp only [shardlogref12_Build.l1] at H
      by_cases c29 : x11_2 < (l0.length : Int)
      ·
       rw [if_pos c29] at H; have c29b0 : decide (x11_2 < (l0.length : Int)) = true := decide_eq_true c29; clear c29
       by_cases c30 : 0 ≤ x11_2
       ·
        rw [if_pos c30] at H; have c30b0 : decide (0 ≤ x11_2) = true := decide_eq_true c30; clear c30; replace H := obm H; obtain ⟨t730, A310, H⟩ := H; replace H : (if x10_2.length < 8796093022208 then (shardlogref12_Build.l1 k2 l0 x6_1 x7_1 (x10_2 ++ [t730]) (wrap64 (x11_2 + 1))) else (none)) = some r := H; have A31 := aS A310; clear A310
        by_cases c32 : x10_2.length < 8796093022208
        ·
         rw [if_pos c32] at H; have LMc32 := aS c32; clear c32
         obtain ⟨y731, hy731⟩ : ∃ y_ : List ByteArray, y_ = (x10_2 ++ [t730]) := ⟨_, rfl⟩
         replace H : (shardlogref12_Build.l1 k2 l0 x6_1 x7_1 y731 (wrap64 (x11_2 + 1))) = some r := hyr hy731 H; have Ny731 := aS hy731; clear hy731
         have H' := aS H
         clear H
         try go_wp2
         replace HO_6 := aS (Kd.R_drew HO_6.out); replace HO_7 := aS (Kd.R_drew HO_7.out); replace HO_10 := aS (Kd.R_drew HO_10.out); replace HB := aS (bdo HB.out); have p728 : 0 ≤ (x11_2 : Int) := oda; have q728 : x11_2 < (l0.length : Int) := oda; obtain ⟨ad728, e728, hx728_0, hx728_1, hx728_2, hx728_3, hx728_4⟩ := at_T42 HR0.out x11_2 p728 q728; have hw728_4 := hx728_4; have hw728_3 := hx728_3; have hw728_2 := hx728_2; have hw728_1 := hx728_1; have hw728_0 := hx728_0; cases e728; replace hx728_0 := bx bel hx728_0; replace hx728_1 := bx bel hx728_1; replace hx728_2 := bx bel hx728_2; replace hx728_3 := bx bel hx728_3; replace hx728_4 := bx bel hx728_4; replace p728 := eq_true p728; replace q728 := eq_true q728; have p729 : 0 ≤ (x11_2 : Int) := oda; have q729 : x11_2 < (l0.length : Int) := oda; obtain ⟨ad729, e729, hx729_0, hx729_1, hx729_2, hx729_3, hx729_4⟩ := at_T42 HR0.out x11_2 p729 q729; have hw729_4 := hx729_4; have hw729_3 := hx729_3; have hw729_2 := hx729_2; have hw729_1 := hx729_1; have hw729_0 := hx729_0
         obtain rfl : ad728 = ad729 := (by injection e729)
         replace hx729_0 := bx bel hx729_0; replace hx729_1 := bx bel hx729_1; replace hx729_2 := bx bel hx729_2; replace hx729_3 := bx bel hx729_3; replace hx729_4 := bx bel hx729_4; replace p729 := eq_true p729; replace q729 := eq_true q729; refine start_ (n := 15) (S := fun w' => w'.cell? (ad728.add ((x11_2).toNat * 5)) = some (.string ((rd_T42 l0 x11_2).f0)) ∧ w'.cell? ⟨(ad728.add ((x11_2).toNat * 5)).block, (ad728.add ((x11_2).toNat * 5)).off + 1, none⟩ = some (.string ((rd_T42 l0 x11_2).f1)) ∧ w'.cell? ⟨(ad728.add ((x11_2).toNat * 5)).block, (ad728.add ((x11_2).toNat * 5)).off + 2, none⟩ = some (.int .i64 ((rd_T42 l0 x11_2).f2)) ∧ w'.cell? ⟨(ad728.add ((x11_2).toNat * 5)).block, (ad728.add ((x11_2).toNat * 5)).off + 3, none⟩ = some (.string ((rd_T42 l0 x11_2).f3)) ∧ w'.cell? ⟨(ad728.add ((x11_2).toNat * 5)).block, (ad728.add ((x11_2).toNat * 5)).off + 4, none⟩ = some (.bool ((rd_T42 l0 x11_2).f4)) ∧ w'.cell? (ad728.add ((x11_2).toNat * 5)) = some (.string ((rd_T42 l0 x11_2).f0)) ∧ w'.cell? ⟨(ad728.add ((x11_2).toNat * 5)).block, (ad728.add ((x11_2).toNat * 5)).off + 1, none⟩ = some (.string ((rd_T42 l0 x11_2).f1)) ∧ w'.cell? ⟨(ad728.add ((x11_2).toNat * 5)).block, (ad728.add ((x11_2).toNat * 5)).off + 2, none⟩ = some (.int .i64 ((rd_T42 l0 x11_2).f2)) ∧ w'.cell? ⟨(ad728.add ((x11_2).toNat * 5)).block, (ad728.add ((x11_2).toNat * 5)).off + 3, none⟩ = some (.string ((rd_T42 l0 x11_2).f3)) ∧ w'.cell? ⟨(ad728.add ((x11_2).toNat * 5)).block, (ad728.add ((x11_2).toNat * 5)).off + 4, none⟩ = some (.bool ((rd_T42 l0 x11_2).f4))) (ds := []) (bA 15 0) (by kernel_rfl) rfl rfl ⟨(bx bel hw728_0), (bx bel hw728_1), (bx bel hw728_2), (bx bel hw728_3), (bx bel hw728_4), (bx bel hw729_0), (bx bel hw729_1), (bx bel hw729_2), (bx bel hw729_3), (bx bel hw729_4)⟩ (fun hHeld => ?_); refine with_tabW shardlogref12_Build.tab15 shardlogref12_Build.bits15 (fun HT_ HW_ => ?_)
         generalize wr.drew = w33 at HO_6 HO_7 HO_10 HB hx728_0 hx728_1 hx728_2 hx728_3 hx728_4 hx729_0 hx729_1 hx729_2 hx729_3 hx729_4 hHeld ⊢
         refine along_ [(0, 58), (1, 59), (2, 60), (3, 61), (4, 62), (6, 64), (7, 65), (8, 66), (9, 67), (5, 63), (10, 68)] ?_
         iterate 11 (first | (refine pure3 HT_ ?_) | (refine take3 HT_ HW_ hHeld ?_))
         refine lay_ (bA 15 2047) (by kernel_rfl) ?_; refine one3 11 (N := some 69) (bA 15 4095) HT_ (fun K hK => ?_); refine goes_ Try.func24 (by kernel_rfl) rfl #[.string ((rd_T42 l0 x11_2).f0), .string ((rd_T42 l0 x11_2).f1)] (by rfl) rfl rfl agn ?_
         with_reducible refine (shardlogref12_Key.calls ((rd_T42 l0 x11_2).f0) ((rd_T42 l0 x11_2).f1) t730 _ A31.out).mono ?_
         rintro e w34 ⟨rfl, hb⟩
         refine ⟨_, rfl, ?_⟩; replace HO_6 := aS (Kd.R_below (rel HO_6.out) hb); replace HO_7 := aS (Kd.R_below (rel HO_7.out) hb); replace HO_10 := aS (Kd.R_below (rel HO_10.out) hb); replace HB := bstep hb; (try clear hb); (try clear hk); (try clear hi); refine hK.out _ _ ⟨(bx bel hw728_0), (bx bel hw728_1), (bx bel hw728_2), (bx bel hw728_3), (bx bel hw728_4), (bx bel hw729_0), (bx bel hw729_1), (bx bel hw729_2), (bx bel hw729_3), (bx bel hw729_4)⟩ (fun hHeld => ?_); clear hK K; refine nm 69 ?_; refine one3 12 (N := some 70) (bA 15 8191) HT_ (fun K hK => ?_); refine value_ (w1 := ?_) (v := ?_) (by rfl) rfl ?_ ?_
         rotate_left 2
         ·
          go_simp
          constructor
          ·
           rfl
          ·
           rfl
         refine hK.out _ _ ⟨(World.cell?_alloc_lt _ _ _ (wbl _ _ ((bx bel hw728_0)))).trans ((bx bel hw728_0)), (World.cell?_alloc_lt _ _ _ (wbl _ _ ((bx bel hw728_1)))).trans ((bx bel hw728_1)), (World.cell?_alloc_lt _ _ _ (wbl _ _ ((bx bel hw728_2)))).trans ((bx bel hw728_2)), (World.cell?_alloc_lt _ _ _ (wbl _ _ ((bx bel hw728_3)))).trans ((bx bel hw728_3)), (World.cell?_alloc_lt _ _ _ (wbl _ _ ((bx bel hw728_4)))).trans ((bx bel hw728_4)), (World.cell?_alloc_lt _ _ _ (wbl _ _ ((bx bel hw729_0)))).trans ((bx bel hw729_0)), (World.cell?_alloc_lt _ _ _ (wbl _ _ ((bx bel hw729_1)))).trans ((bx bel hw729_1)), (World.cell?_alloc_lt _ _ _ (wbl _ _ ((bx bel hw729_2)))).trans ((bx bel hw729_2)), (World.cell?_alloc_lt _ _ _ (wbl _ _ ((bx bel hw729_3)))).trans ((bx bel hw729_3)), (World.cell?_alloc_lt _ _ _ (wbl _ _ ((bx bel hw729_4)))).trans ((bx bel hw729_4))⟩ (fun hHeld => ?_); clear hK K; refine nm 70 ?_; refine one3 13 (N := some 71) (bA 15 16383) HT_ (fun K hK => ?_); refine Kd.R_append_step Kd.string (w0 := w) w.heap.size (by rfl) (.tmp 58) (.tmp 70) 51 9 (.string ⟨#[]⟩) 16 rfl Try.underlying51 info9 rfl (by decide) (by omega) u10 x10_2 t730 [.string t730] (fun _ => True) (fun _ => False) rfl rfl ?aP (fun _ hk => hk.elim) ?aF ?aO ?aB ?aS ?aL ?_
         (case aP => exact rfl)
         (case aB => exact bel)
         (case aF => exact (fun _ _ => trivial))
         (case aO => exact (rel HO_10.out))
         (case aS => exact (below_size bel))
         (case aL => have := LMc32.out; omega)
         intro v732 w35 ho hb hg hat
         rw [← Ny731.out] at ho; have n0_ := aS (Kd.R_over' (rel HO_6.out) (Kd.R_typed (rel HO_10.out)) (by decide) hg); have n1_ := aS (Kd.R_over' (rel HO_7.out) (Kd.R_typed (rel HO_10.out)) (by decide) hg); have n2_ := aS (hb); have n3_ := aS (ho); clear HO_6; clear HO_7; clear HB; clear HO_10; have HO_6 := n0_; have HO_7 := n1_; have HB := n2_; have HO733 := n3_; clear n0_ n1_ n2_ n3_; clear ho hb hg hat; refine hK.out _ _ ⟨(bx bel hw728_0), (bx bel hw728_1), (bx bel hw728_2), (bx bel hw728_3), (bx bel hw728_4), (bx bel hw729_0), (bx bel hw729_1), (bx bel hw729_2), (bx bel hw729_3), (bx bel hw729_4)⟩ (fun hHeld => ?_); clear hK K; refine nm 71 ?_; refine pure_ (i := 14) (N := some 10) (v := ?_) (a' := ?_) (bA 15 32767) rfl rfl (any_of HT_.out (by kernel_rfl)) (fun _ _ _ h => h) (Or.inl ⟨by rfl, ?_⟩) ?_ ?_
         rotate_left
         ·
          intro w'
          go_simp
          with_reducible rfl
         rotate_left
         ·
          simp only [Act.put, lsa, lsz, lss, i64_w, i32_w]
          rfl
         refine done_ (done_of HT_.out (by kernel_rfl)) ?_
         try go_wp2
         go_roundg k2
         case measure => have := HK1.out; have := HK2.out; omega
         case rel => exact ⟨(y731), (wrap64 (x11_2 + 1)), srf, H', ⟨by have := HK1.out; have := HK2.out; omega⟩, ⟨by (with_reducible repeat (first | apply Kd.R_alloc | apply Kd.R_drewN | apply Kd.R_drew)); exact HO_6.out⟩, ⟨by (with_reducible repeat (first | apply Kd.R_alloc | apply Kd.R_drewN | apply Kd.R_drew)); exact HO_7.out⟩, ⟨by (with_reducible repeat (first | apply Kd.R_alloc | apply Kd.R_drewN | apply Kd.R_drew)); exact HO733.out⟩, ⟨bel⟩⟩
        ·
         rw [if_neg c32] at H; exact absurd H (by simp)
       ·
        rw [if_neg c30] at H; exact absurd H (by simp)
      ·
       rw [if_neg c29] at H; have c29b0 : decide (x11_2 < (l0.length : Int)) = false := decide_eq_false c29; clear c29; replace H := obm H; obtain ⟨t734, A360, H⟩ := H; replace H : ((shardlogref01_Text.f (strOfNums t734)).bind fun t737 => (if x7_1.length + t737.length < 140737488355328 then ((shardlogref06_Put.f k2 (x7_1 ++ t737)).bind fun t743 => (if x6_1.length + t743.length < 140737488355328 then ((some (x6_1 ++ t743 : List Int)).bind fun y746 => ((shardlogref01_Num.f (t743.length : Int)).bind fun t749 => (if y746.length + t749.length < 140737488355328 then (some (y746 ++ t749)) else (none)))) else (none))) else (none))) = some r := H; have A36 := aS A360; clear A360; replace H := obm H; obtain ⟨t737, A370, H⟩ := H; replace H : (if x7_1.length + t737.length < 140737488355328 then ((shardlogref06_Put.f k2 (x7_1 ++ t737)).bind fun t743 => (if x6_1.length + t743.length < 140737488355328 then ((some (x6_1 ++ t743 : List Int)).bind fun y746 => ((shardlogref01_Num.f (t743.length : Int)).bind fun t749 => (if y746.length + t749.length < 140737488355328 then (some (y746 ++ t749)) else (none)))) else (none))) else (none)) = some r := H; have A37 := aS A370; clear A370
       by_cases c38 : x7_1.length + t737.length < 140737488355328
       ·
        rw [if_pos c38] at H; have LMc38 := aS c38; clear c38
        obtain ⟨y740, hy740⟩ : ∃ y_ : List Int, y_ = (x7_1 ++ t737) := ⟨_, rfl⟩
        replace H : ((shardlogref06_Put.f k2 y740).bind fun t743 => (if x6_1.length + t743.length < 140737488355328 then ((some (x6_1 ++ t743 : List Int)).bind fun y746 => ((shardlogref01_Num.f (t743.length : Int)).bind fun t749 => (if y746.length + t749.length < 140737488355328 then (some (y746 ++ t749)) else (none)))) else (none))) = some r := hyr hy740 H; have Ny740 := aS hy740; clear hy740; replace H := obm H; obtain ⟨t743, A390, H⟩ := H; replace H : (if x6_1.length + t743.length < 140737488355328 then ((some (x6_1 ++ t743 : List Int)).bind fun y746 => ((shardlogref01_Num.f (t743.length : Int)).bind fun t749 => (if y746.length + t749.length < 140737488355328 then (some (y746 ++ t749)) else (none)))) else (none)) = some r := H; have A39 := aS A390; clear A390
        by_cases c40 : x6_1.length + t743.length < 140737488355328
        ·
         rw [if_pos c40] at H; have LMc40 := aS c40; clear c40
         obtain ⟨y746, hy746⟩ : ∃ y_ : List Int, y_ = (x6_1 ++ t743) := ⟨_, rfl⟩
         replace H : ((shardlogref01_Num.f (t743.length : Int)).bind fun t749 => (if y746.length + t749.length < 140737488355328 then (some (y746 ++ t749)) else (none))) = some r := hyr hy746 H; have Ny746 := aS hy746; clear hy746; replace H := obm H; obtain ⟨t749, A410, H⟩ := H; replace H : (if y746.length + t749.length < 140737488355328 then (some (y746 ++ t749)) else (none)) = some r := H; have A41 := aS A410; clear A410
         by_cases c42 : y746.length + t749.length < 140737488355328
         ·
          rw [if_pos c42] at H; have LMc42 := aS c42; clear c42
          obtain ⟨y752, hy752⟩ : ∃ y_ : List Int, y_ = (y746 ++ t749) := ⟨_, rfl⟩
          replace H : (some y752) = some r := hyr hy752 H; have Ny752 := aS hy752; clear hy752
          obtain rfl := Option.some.inj H
          obtain ⟨Ao43, co43, eo43⟩ := Kd.R_slice HO_10.out; subst eo43
          go_wp2_with (first | ((with_reducible refine gate_callee (f := 26) rfl ?_); refine goesL_ (some 74) rfl rfl Try.func26 (by kernel_rfl) rfl #[.slice Ao43 x10_2.length co43] rfl agn ?_; (with_reducible refine (shardlogref11_Make.calls k2 _ _ x10_2 t734 _ ?side1 ?side2 A36.out).mono ?_); (case side1 => repeat (first | exact (Kd.R_reads' HO_10.out).2.2 | (with_reducible refine Kd.C_alloc ?_ _) | (with_reducible refine Kd.C_drewN ?_ _) | (with_reducible refine Kd.C_drew ?_))); (case side2 => exact (Kd.R_reads' HO_10.out).2.1); rintro e w44 ⟨v735, rfl, ho0, hb⟩; refine ⟨_, rfl, ?_⟩; replace HO_10 := aS (Kd.R_below (rel HO_10.out) hb); have HO736 := aS (Kd.R_lower (Kd.R_new' (Kd.R_new' ho0 (Kd.R_lt (rel HO_6.out))) (Kd.R_lt (rel HO_7.out))) (below_size bel)); replace HO_6 := aS (Kd.R_elder' (rel HO_6.out) (ebs ho0) hb); replace HO_7 := aS (Kd.R_elder' (rel HO_7.out) (ebs ho0) hb); replace HB := bstep hb; (try clear hb); (try clear hk); (try clear hi); (try clear ho0); have hcv45 := own_string (P := Try.prog) Try.underlying26 Try.underlying5 Try.underlying9 (Kd.own_of_R HO736.out)) | ((with_reducible refine gate_callee (f := 37) rfl ?_); refine goesL_ (some 76) rfl rfl Try.func37 (by kernel_rfl) rfl #[.string (strOfNums t734)] rfl agn ?_; (with_reducible refine (shardlogref01_Text.calls (strOfNums t734) t737 _ A37.out).mono ?_); rintro e w46 ⟨v738, rfl, ho0, hb⟩; refine ⟨_, rfl, ?_⟩; replace HO_10 := aS (Kd.R_below (rel HO_10.out) hb); have HO739 := aS (Kd.R_lower (Kd.R_new' (Kd.R_new' (Kd.R_new' ho0 (Kd.R_lt (rel HO_6.out))) (Kd.R_lt (rel HO_7.out))) (Kd.R_lt (rel HO736.out))) (below_size bel)); replace HO_6 := aS (Kd.R_elder' (rel HO_6.out) (ebs ho0) hb); replace HO_7 := aS (Kd.R_elder' (rel HO_7.out) (ebs ho0) hb); replace HO736 := aS (Kd.R_elder' (rel HO736.out) (ebs ho0) hb); replace HB := bstep hb; (try clear hb); (try clear hk); (try clear hi); (try clear ho0); obtain ⟨Ao48, co48, eo48⟩ := Kd.R_slice HO739.out; subst eo48) | ((with_reducible refine gate_builtin (b := .append) (xs := #[.tmp 72, .tmp 76]) rfl ?_); at_builtin; refine Kd.R_append_rows (Kd.int .u8) (w0 := w) w.heap.size rfl (.tmp 72) (.tmp 76) 26 5 (.int .u8 0) 1 rfl Try.underlying26 info5 rfl (by decide) (by omega) u7 x7_1 t737 _ _ _ (fun k_ => some k_ ≠ (u6 : Value).ownBlock ∧ some k_ ≠ (v735 : Value).ownBlock ∧ some k_ ≠ (.slice Ao48 t737.length co48 : Value).ownBlock) (fun _ => False) rfl rfl ?aO ?aR (fun _ _ h => h) (fun _ h => h.elim) ?aF ?aB ?aS ?aL ?_; (case aR => repeat (first | exact (Kd.R_reads' HO739.out).2.2 | (with_reducible refine Kd.C_alloc ?_ _) | (with_reducible refine Kd.C_drewN ?_ _) | (with_reducible refine Kd.C_drew ?_))); (case aB => exact bel); (case aF => exact (fun k_ hk => ⟨Kd.fresh' (Kd.R_lt (rel HO_6.out)) k_ hk, Kd.fresh' (Kd.R_lt (rel HO736.out)) k_ hk, Kd.fresh' (Kd.R_lt (rel HO739.out)) k_ hk⟩)); (case aO => exact (by (with_reducible repeat (first | apply Kd.R_alloc | apply Kd.R_drewN | apply Kd.R_drew)); exact Kd.R_mono HO_7.out (fun _ hk => ⟨hk.1.1, ⟨hk.1.2, hk.2⟩⟩))); (case aS => exact (below_size bel)); (case aL => have := LMc38.out; omega); intro v741 w47 ho hb hg hat; rw [← Ny740.out] at ho; have n0_ := aS (Kd.R_after (ok := (fun k_ => some k_ ≠ (v735 : Value).ownBlock ∧ some k_ ≠ (.slice Ao48 t737.length co48 : Value).ownBlock)) (by (with_reducible repeat (first | apply Kd.R_alloc | apply Kd.R_drewN | apply Kd.R_drew)); exact Kd.R_mono HO_6.out (fun _ hk => ⟨⟨hk.1.2, hk.2⟩, hk.1.1⟩)) hg hat); have n1_ := aS (Kd.R_over' (rel HO_10.out) (Kd.R_typed (rel HO_7.out)) (by decide) hg); have n2_ := aS (Kd.R_after (ok := (fun k_ => some k_ ≠ (u6 : Value).ownBlock ∧ some k_ ≠ (.slice Ao48 t737.length co48 : Value).ownBlock)) (by (with_reducible repeat (first | apply Kd.R_alloc | apply Kd.R_drewN | apply Kd.R_drew)); exact Kd.R_mono HO736.out (fun _ hk => ⟨⟨hk.1.1.2, hk.2⟩, hk.1.2⟩)) hg hat); have n3_ := aS (Kd.R_after (ok := (fun k_ => some k_ ≠ (u6 : Value).ownBlock ∧ some k_ ≠ (v735 : Value).ownBlock)) (by (with_reducible repeat (first | apply Kd.R_alloc | apply Kd.R_drewN | apply Kd.R_drew)); exact Kd.R_mono HO739.out (fun _ hk => ⟨⟨hk.1.1.2, hk.2⟩, hk.1.2⟩)) hg hat); have n4_ := aS (hb); have n5_ := aS (ho); clear HO_6; clear HO_10; clear HO736; clear HO739; clear HB; clear HO_7; have HO_6 := n0_; have HO_10 := n1_; have HO736 := n2_; have HO739 := n3_; have HB := n4_; have HO742 := n5_; clear n0_ n1_ n2_ n3_ n4_ n5_; clear ho hb hg hat; obtain ⟨Ao49, co49, eo49⟩ := Kd.R_slice HO742.out; subst eo49) | ((with_reducible refine gate_callee (f := 36) rfl ?_); refine goesL_ (some 78) rfl rfl Try.func36 (by kernel_rfl) rfl #[.slice Ao49 y740.length co49] rfl agn ?_; (with_reducible refine (shardlogref06_Put.calls k2 _ _ y740 t743 _ ?side1 ?side2 A39.out).mono ?_); (case side1 => repeat (first | exact (Kd.R_reads' HO742.out).2.2 | (with_reducible refine Kd.C_alloc ?_ _) | (with_reducible refine Kd.C_drewN ?_ _) | (with_reducible refine Kd.C_drew ?_))); (case side2 => exact (Kd.R_reads' HO742.out).2.1); rintro e w50 ⟨v744, rfl, ho0, hb⟩; refine ⟨_, rfl, ?_⟩; replace HO_10 := aS (Kd.R_below (rel HO_10.out) hb); have HO745 := aS (Kd.R_lower (Kd.R_new' (Kd.R_new' (Kd.R_new' (Kd.R_new' ho0 (Kd.R_lt (rel HO_6.out))) (Kd.R_lt (rel HO736.out))) (Kd.R_lt (rel HO739.out))) (Kd.R_lt (rel HO742.out))) (below_size bel)); replace HO_6 := aS (Kd.R_elder' (rel HO_6.out) (ebs ho0) hb); replace HO736 := aS (Kd.R_elder' (rel HO736.out) (ebs ho0) hb); replace HO739 := aS (Kd.R_elder' (rel HO739.out) (ebs ho0) hb); replace HO742 := aS (Kd.R_elder' (rel HO742.out) (ebs ho0) hb); replace HB := bstep hb; (try clear hb); (try clear hk); (try clear hi); (try clear ho0); obtain ⟨Ao52, co52, eo52⟩ := Kd.R_slice HO745.out; subst eo52) | ((with_reducible refine gate_builtin (b := .append) (xs := #[.tmp 79, .tmp 80]) rfl ?_); at_builtin; refine Kd.R_append_rows (Kd.int .u8) (w0 := w) w.heap.size rfl (.tmp 79) (.tmp 80) 26 5 (.int .u8 0) 1 rfl Try.underlying26 info5 rfl (by decide) (by omega) u6 x6_1 t743 _ _ _ (fun k_ => some k_ ≠ (v735 : Value).ownBlock ∧ some k_ ≠ (.slice Ao48 t737.length co48 : Value).ownBlock ∧ some k_ ≠ (.slice Ao49 y740.length co49 : Value).ownBlock ∧ some k_ ≠ (.slice Ao52 t743.length co52 : Value).ownBlock) (fun _ => False) rfl rfl ?aO ?aR (fun _ _ h => h) (fun _ h => h.elim) ?aF ?aB ?aS ?aL ?_; (case aR => repeat (first | exact (Kd.R_reads' HO745.out).2.2 | (with_reducible refine Kd.C_alloc ?_ _) | (with_reducible refine Kd.C_drewN ?_ _) | (with_reducible refine Kd.C_drew ?_))); (case aB => exact bel); (case aF => exact (fun k_ hk => ⟨Kd.fresh' (Kd.R_lt (rel HO736.out)) k_ hk, Kd.fresh' (Kd.R_lt (rel HO739.out)) k_ hk, Kd.fresh' (Kd.R_lt (rel HO742.out)) k_ hk, Kd.fresh' (Kd.R_lt (rel HO745.out)) k_ hk⟩)); (case aO => exact (by (with_reducible repeat (first | apply Kd.R_alloc | apply Kd.R_drewN | apply Kd.R_drew)); exact Kd.R_mono HO_6.out (fun _ hk => ⟨hk.1.1.1, ⟨hk.1.1.2, ⟨hk.1.2, hk.2⟩⟩⟩))); (case aS => exact (below_size bel)); (case aL => have := LMc40.out; omega); intro v747 w51 ho hb hg hat; rw [← Ny746.out] at ho; have n0_ := aS (Kd.R_over' (rel HO_10.out) (Kd.R_typed (rel HO_6.out)) (by decide) hg); have n1_ := aS (Kd.R_after (ok := (fun k_ => some k_ ≠ (.slice Ao48 t737.length co48 : Value).ownBlock ∧ some k_ ≠ (.slice Ao49 y740.length co49 : Value).ownBlock ∧ some k_ ≠ (.slice Ao52 t743.length co52 : Value).ownBlock)) (by (with_reducible repeat (first | apply Kd.R_alloc | apply Kd.R_drewN | apply Kd.R_drew)); exact Kd.R_mono HO736.out (fun _ hk => ⟨⟨hk.1.1.2, ⟨hk.1.2, hk.2⟩⟩, hk.1.1.1⟩)) hg hat); have n2_ := aS (Kd.R_after (ok := (fun k_ => some k_ ≠ (v735 : Value).ownBlock ∧ some k_ ≠ (.slice Ao49 y740.length co49 : Value).ownBlock ∧ some k_ ≠ (.slice Ao52 t743.length co52 : Value).ownBlock)) (by (with_reducible repeat (first | apply Kd.R_alloc | apply Kd.R_drewN | apply Kd.R_drew)); exact Kd.R_mono HO739.out (fun _ hk => ⟨⟨hk.1.1.2, ⟨hk.1.2, hk.2⟩⟩, hk.1.1.1⟩)) hg hat); have n3_ := aS (Kd.R_after (ok := (fun k_ => some k_ ≠ (v735 : Value).ownBlock ∧ some k_ ≠ (.slice Ao48 t737.length co48 : Value).ownBlock ∧ some k_ ≠ (.slice Ao52 t743.length co52 : Value).ownBlock)) (by (with_reducible repeat (first | apply Kd.R_alloc | apply Kd.R_drewN | apply Kd.R_drew)); exact Kd.R_mono HO742.out (fun _ hk => ⟨⟨hk.1.2.1, ⟨hk.1.2.2, hk.2⟩⟩, hk.1.1⟩)) hg hat); have n4_ := aS (Kd.R_after (ok := (fun k_ => some k_ ≠ (v735 : Value).ownBlock ∧ some k_ ≠ (.slice Ao48 t737.length co48 : Value).ownBlock ∧ some k_ ≠ (.slice Ao49 y740.length co49 : Value).ownBlock)) (by (with_reducible repeat (first | apply Kd.R_alloc | apply Kd.R_drewN | apply Kd.R_drew)); exact Kd.R_mono HO745.out (fun _ hk => ⟨⟨hk.1.1.2, ⟨hk.1.2, hk.2⟩⟩, hk.1.1.1.2⟩)) hg hat); have n5_ := aS (hb); have n6_ := aS (ho); clear HO_10; clear HO736; clear HO739; clear HO742; clear HO745; clear HB; clear HO_6; have HO_10 := n0_; have HO736 := n1_; have HO739 := n2_; have HO742 := n3_; have HO745 := n4_; have HB := n5_; have HO748 := n6_; clear n0_ n1_ n2_ n3_ n4_ n5_ n6_; clear ho hb hg hat) | ((with_reducible refine gate_callee (f := 33) rfl ?_); refine goesL_ (some 84) rfl rfl Try.func33 (by kernel_rfl) rfl #[.int .i64 (t743.length : Int)] rfl agn ?_; (with_reducible refine (shardlogref01_Num.calls (t743.length : Int) t749 _ A41.out).mono ?_); rintro e w53 ⟨v750, rfl, ho0, hb⟩; refine ⟨_, rfl, ?_⟩; replace HO_10 := aS (Kd.R_below (rel HO_10.out) hb); have HO751 := aS (Kd.R_lower (Kd.R_new' (Kd.R_new' (Kd.R_new' (Kd.R_new' (Kd.R_new' ho0 (Kd.R_lt (rel HO736.out))) (Kd.R_lt (rel HO739.out))) (Kd.R_lt (rel HO742.out))) (Kd.R_lt (rel HO745.out))) (Kd.R_lt (rel HO748.out))) (below_size bel)); replace HO736 := aS (Kd.R_elder' (rel HO736.out) (ebs ho0) hb); replace HO739 := aS (Kd.R_elder' (rel HO739.out) (ebs ho0) hb); replace HO742 := aS (Kd.R_elder' (rel HO742.out) (ebs ho0) hb); replace HO745 := aS (Kd.R_elder' (rel HO745.out) (ebs ho0) hb); replace HO748 := aS (Kd.R_elder' (rel HO748.out) (ebs ho0) hb); replace HB := bstep hb; (try clear hb); (try clear hk); (try clear hi); (try clear ho0); obtain ⟨Ao55, co55, eo55⟩ := Kd.R_slice HO751.out; subst eo55) | ((with_reducible refine gate_builtin (b := .append) (xs := #[.tmp 81, .tmp 84]) rfl ?_); at_builtin; refine Kd.R_append_rows (Kd.int .u8) (w0 := w) w.heap.size rfl (.tmp 81) (.tmp 84) 26 5 (.int .u8 0) 1 rfl Try.underlying26 info5 rfl (by decide) (by omega) v747 y746 t749 _ _ _ (fun k_ => some k_ ≠ (v735 : Value).ownBlock ∧ some k_ ≠ (.slice Ao48 t737.length co48 : Value).ownBlock ∧ some k_ ≠ (.slice Ao49 y740.length co49 : Value).ownBlock ∧ some k_ ≠ (.slice Ao52 t743.length co52 : Value).ownBlock ∧ some k_ ≠ (.slice Ao55 t749.length co55 : Value).ownBlock) (fun _ => False) rfl rfl ?aO ?aR (fun _ _ h => h) (fun _ h => h.elim) ?aF ?aB ?aS ?aL ?_; (case aR => repeat (first | exact (Kd.R_reads' HO751.out).2.2 | (with_reducible refine Kd.C_alloc ?_ _) | (with_reducible refine Kd.C_drewN ?_ _) | (with_reducible refine Kd.C_drew ?_))); (case aB => exact bel); (case aF => exact (fun k_ hk => ⟨Kd.fresh' (Kd.R_lt (rel HO736.out)) k_ hk, Kd.fresh' (Kd.R_lt (rel HO739.out)) k_ hk, Kd.fresh' (Kd.R_lt (rel HO742.out)) k_ hk, Kd.fresh' (Kd.R_lt (rel HO745.out)) k_ hk, Kd.fresh' (Kd.R_lt (rel HO751.out)) k_ hk⟩)); (case aO => exact (by (with_reducible repeat (first | apply Kd.R_alloc | apply Kd.R_drewN | apply Kd.R_drew)); exact Kd.R_mono HO748.out (fun _ hk => ⟨hk.1.1, ⟨hk.1.2.1, ⟨hk.1.2.2.1, ⟨hk.1.2.2.2, hk.2⟩⟩⟩⟩))); (case aS => exact (below_size bel)); (case aL => have := LMc42.out; omega); intro v753 w54 ho hb hg hat; rw [← Ny752.out] at ho; have n0_ := aS (Kd.R_over' (rel HO_10.out) (Kd.R_typed (rel HO748.out)) (by decide) hg); have n1_ := aS (Kd.R_after (ok := (fun k_ => some k_ ≠ (.slice Ao48 t737.length co48 : Value).ownBlock ∧ some k_ ≠ (.slice Ao49 y740.length co49 : Value).ownBlock ∧ some k_ ≠ (.slice Ao52 t743.length co52 : Value).ownBlock ∧ some k_ ≠ (.slice Ao55 t749.length co55 : Value).ownBlock)) (by (with_reducible repeat (first | apply Kd.R_alloc | apply Kd.R_drewN | apply Kd.R_drew)); exact Kd.R_mono HO736.out (fun _ hk => ⟨⟨hk.1.1.1, ⟨hk.1.1.2.1, ⟨hk.1.1.2.2, hk.2⟩⟩⟩, hk.1.2⟩)) hg hat); have n2_ := aS (Kd.R_after (ok := (fun k_ => some k_ ≠ (v735 : Value).ownBlock ∧ some k_ ≠ (.slice Ao49 y740.length co49 : Value).ownBlock ∧ some k_ ≠ (.slice Ao52 t743.length co52 : Value).ownBlock ∧ some k_ ≠ (.slice Ao55 t749.length co55 : Value).ownBlock)) (by (with_reducible repeat (first | apply Kd.R_alloc | apply Kd.R_drewN | apply Kd.R_drew)); exact Kd.R_mono HO739.out (fun _ hk => ⟨⟨hk.1.1.1, ⟨hk.1.1.2.1, ⟨hk.1.1.2.2, hk.2⟩⟩⟩, hk.1.2⟩)) hg hat); have n3_ := aS (Kd.R_after (ok := (fun k_ => some k_ ≠ (v735 : Value).ownBlock ∧ some k_ ≠ (.slice Ao48 t737.length co48 : Value).ownBlock ∧ some k_ ≠ (.slice Ao52 t743.length co52 : Value).ownBlock ∧ some k_ ≠ (.slice Ao55 t749.length co55 : Value).ownBlock)) (by (with_reducible repeat (first | apply Kd.R_alloc | apply Kd.R_drewN | apply Kd.R_drew)); exact Kd.R_mono HO742.out (fun _ hk => ⟨⟨hk.1.1.1, ⟨hk.1.1.2.1, ⟨hk.1.1.2.2, hk.2⟩⟩⟩, hk.1.2⟩)) hg hat); have n4_ := aS (Kd.R_after (ok := (fun k_ => some k_ ≠ (v735 : Value).ownBlock ∧ some k_ ≠ (.slice Ao48 t737.length co48 : Value).ownBlock ∧ some k_ ≠ (.slice Ao49 y740.length co49 : Value).ownBlock ∧ some k_ ≠ (.slice Ao55 t749.length co55 : Value).ownBlock)) (by (with_reducible repeat (first | apply Kd.R_alloc | apply Kd.R_drewN | apply Kd.R_drew)); exact Kd.R_mono HO745.out (fun _ hk => ⟨⟨hk.1.1.1, ⟨hk.1.1.2.1, ⟨hk.1.1.2.2, hk.2⟩⟩⟩, hk.1.2⟩)) hg hat); have n5_ := aS (Kd.R_after (ok := (fun k_ => some k_ ≠ (v735 : Value).ownBlock ∧ some k_ ≠ (.slice Ao48 t737.length co48 : Value).ownBlock ∧ some k_ ≠ (.slice Ao49 y740.length co49 : Value).ownBlock ∧ some k_ ≠ (.slice Ao52 t743.length co52 : Value).ownBlock)) (by (with_reducible repeat (first | apply Kd.R_alloc | apply Kd.R_drewN | apply Kd.R_drew)); exact Kd.R_mono HO751.out (fun _ hk => ⟨⟨hk.1.1.1.1.2, ⟨hk.1.1.1.2, ⟨hk.1.1.2, hk.1.2⟩⟩⟩, hk.2⟩)) hg hat); have n6_ := aS (hb); have n7_ := aS (ho); clear HO_10; clear HO736; clear HO739; clear HO742; clear HO745; clear HO751; clear HB; clear HO748; have HO_10 := n0_; have HO736 := n1_; have HO739 := n2_; have HO742 := n3_; have HO745 := n4_; have HO751 := n5_; have HB := n6_; have HO754 := n7_; clear n0_ n1_ n2_ n3_ n4_ n5_ n6_ n7_; clear ho hb hg hat))
          go_ret
          exact ⟨_, rf3, by (with_reducible repeat (first | apply Kd.R_alloc | apply Kd.R_drewN | apply Kd.R_drew)); exact Kd.R_mono HO754.out (fun _ hk => trivial), bel⟩
         ·
          rw [if_neg c42] at H; exact absurd H (by simp)
        ·
         rw [if_neg c40] at H; exact absurd H (by simp)
       ·
        rw [if_neg c38] at H; exact absurd H (by simp)

end Go.Proofs.Ytinhpolmanccgaa.X
