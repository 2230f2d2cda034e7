-- written by a program of this session's, over the kit's print
import Derived.Test.YtinhpolmanccgaaXx0
import Derived.Test.YtinhpolmanccgaaXx12
import Derived.Test.YtinhpolmanccgaaXx13
namespace Go.Proofs.Ytinhpolmanccgaa.X
open Go.RowKit Go.Proofs.YtinhpolmanccgaaW.PrintWords Go.Proofs.YtinhpolmanccgaaW.PrintLast Go.Proofs.YtinhpolmanccgaaW.PrintMore
attribute [local go_sem] max2_int min2_int max_two min_two max_three min_three max_four min_four gtr_str   -- for this text's walks alone
set_option linter.unusedVariables false
set_option linter.unusedSimpArgs false

/-! ### shardlogref11_Make: function 26 -/
mutual
def shardlogref11_Make.j0 : Nat → List ByteArray → Int → Option (List Int)
 | 0, _, _ => none
 | k + 1, x0, x3 => if 0 ≤ (wrap64 (8 * x3)) then (if (wrap64 (8 * x3) : Int).toNat ≤ 281474976710656 then (shardlogref11_Make.l0 k x0 x3 (List.replicate (wrap64 (8 * x3) : Int).toNat false) 0) else (none)) else (none)
def shardlogref11_Make.l0 : Nat → List ByteArray → Int → List Bool → Int → Option (List Int)
 | 0, _, _, _, _ => none
 | k + 1, x0, x3, x4, x5 => if x5 < (x0.length : Int) then (if 0 ≤ x5 then ((shardlogref11_Bits.f k (rdOf ByteArray.empty x0 x5) (wrap64 (8 * x3))).bind fun t595 => (shardlogref11_Make.l1 k x0 x3 x4 x5 t595 0)) else (none)) else (shardlogref11_Make.l2 k x3 x4 ([] : List Int) 0)
def shardlogref11_Make.l1 : Nat → List ByteArray → Int → List Bool → Int → List Int → Int → Option (List Int)
 | 0, _, _, _, _, _, _ => none
 | k + 1, x0, x3, x4, x5, x6, x7 => if x7 < (x6.length : Int) then (if 0 ≤ x7 then (if 0 ≤ (rd x6 x7) then (if (rd x6 x7) < (x4.length : Int) then (shardlogref11_Make.l1 k x0 x3 (x4.set ((rd x6 x7) : Int).toNat true) x5 x6 (wrap64 (x7 + 1))) else (none)) else (none)) else (none)) else (shardlogref11_Make.l0 k x0 x3 x4 (wrap64 (x5 + 1)))
def shardlogref11_Make.l2 : Nat → Int → List Bool → List Int → Int → Option (List Int)
 | 0, _, _, _, _ => none
 | k + 1, x3, x4, x8, x9 => if x9 < x3 then (shardlogref11_Make.l3 k x3 x4 x8 x9 0 7) else (some x8)
def shardlogref11_Make.l3 : Nat → Int → List Bool → List Int → Int → Int → Int → Option (List Int)
 | 0, _, _, _, _, _, _ => none
 | k + 1, x3, x4, x8, x9, x10, x11 => if x11 ≥ 0 then (if 0 ≤ (wrap64 ((wrap64 (8 * x9)) + x11)) then (if (wrap64 ((wrap64 (8 * x9)) + x11)) < (x4.length : Int) then (if rdOf false x4 (wrap64 ((wrap64 (8 * x9)) + x11)) = true then (shardlogref11_Make.l3 k x3 x4 x8 x9 (wrap64 ((wrap64 (2 * x10)) + 1)) (wrap64 (x11 - 1))) else (shardlogref11_Make.l3 k x3 x4 x8 x9 (wrap64 (2 * x10)) (wrap64 (x11 - 1)))) else (none)) else (none)) else (if x8.length < 140737488355328 then (shardlogref11_Make.l2 k x3 x4 (x8 ++ [(x10) % 256]) (wrap64 (x9 + 1))) else (none))
end
def shardlogref11_Make.f (k : Nat) (l0 : List ByteArray) : Option (List Int) := if (l0.length : Int) = 0 then (shardlogref11_Make.j0 k l0 1) else (shardlogref11_Make.j0 k l0 (l0.length : Int))
theorem shardlogref11_Make.mono_l : ∀ k, (∀ y0 y1, LeO (shardlogref11_Make.j0 k y0 y1) (shardlogref11_Make.j0 (k + 1) y0 y1)) ∧ (∀ y0 y1 y2 y3, LeO (shardlogref11_Make.l0 k y0 y1 y2 y3) (shardlogref11_Make.l0 (k + 1) y0 y1 y2 y3)) ∧ (∀ y0 y1 y2 y3 y4 y5, LeO (shardlogref11_Make.l1 k y0 y1 y2 y3 y4 y5) (shardlogref11_Make.l1 (k + 1) y0 y1 y2 y3 y4 y5)) ∧ (∀ y0 y1 y2 y3, LeO (shardlogref11_Make.l2 k y0 y1 y2 y3) (shardlogref11_Make.l2 (k + 1) y0 y1 y2 y3)) ∧ (∀ y0 y1 y2 y3 y4 y5, LeO (shardlogref11_Make.l3 k y0 y1 y2 y3 y4 y5) (shardlogref11_Make.l3 (k + 1) y0 y1 y2 y3 y4 y5))
 | 0 => ⟨fun _ _ r h => by simp [shardlogref11_Make.j0] at h, fun _ _ _ _ r h => by simp [shardlogref11_Make.l0] at h, fun _ _ _ _ _ _ r h => by simp [shardlogref11_Make.l1] at h, fun _ _ _ _ r h => by simp [shardlogref11_Make.l2] at h, fun _ _ _ _ _ _ r h => by simp [shardlogref11_Make.l3] at h⟩
 | k + 1 => by
  obtain ⟨ih0, ih1, ih2, ih3, ih4⟩ := shardlogref11_Make.mono_l k; refine ⟨?_, ?_, ?_, ?_, ?_⟩
  ·
   intro y0 y1
   unfold shardlogref11_Make.j0
   repeat' first
   | (with_reducible exact ih0 _ _)
   | (with_reducible exact ih1 _ _ _ _)
   | (with_reducible exact ih2 _ _ _ _ _ _)
   | (with_reducible exact ih3 _ _ _ _)
   | (with_reducible exact ih4 _ _ _ _ _ _)
   | (with_reducible exact shardlogref11_Bits.mono _ _ _)
   | (with_reducible exact LeO.refl _)
   | (with_reducible exact LeO.none _)
   | (with_reducible refine LeO.ite ?_ ?_)
   | (with_reducible refine LeO.bind ?_ (fun _ => ?_))
   | exact LeO.none _
   | refine LeO.ite ?_ ?_
   | refine LeO.bind ?_ (fun _ => ?_)
  ·
   intro y0 y1 y2 y3
   unfold shardlogref11_Make.l0
   repeat' first
   | (with_reducible exact ih0 _ _)
   | (with_reducible exact ih1 _ _ _ _)
   | (with_reducible exact ih2 _ _ _ _ _ _)
   | (with_reducible exact ih3 _ _ _ _)
   | (with_reducible exact ih4 _ _ _ _ _ _)
   | (with_reducible exact shardlogref11_Bits.mono _ _ _)
   | (with_reducible exact LeO.refl _)
   | (with_reducible exact LeO.none _)
   | (with_reducible refine LeO.ite ?_ ?_)
   | (with_reducible refine LeO.bind ?_ (fun _ => ?_))
   | exact LeO.none _
   | refine LeO.ite ?_ ?_
   | refine LeO.bind ?_ (fun _ => ?_)
  ·
   intro y0 y1 y2 y3 y4 y5
   unfold shardlogref11_Make.l1
   repeat' first
   | (with_reducible exact ih0 _ _)
   | (with_reducible exact ih1 _ _ _ _)
   | (with_reducible exact ih2 _ _ _ _ _ _)
   | (with_reducible exact ih3 _ _ _ _)
   | (with_reducible exact ih4 _ _ _ _ _ _)
   | (with_reducible exact shardlogref11_Bits.mono _ _ _)
   | (with_reducible exact LeO.refl _)
   | (with_reducible exact LeO.none _)
   | (with_reducible refine LeO.ite ?_ ?_)
   | (with_reducible refine LeO.bind ?_ (fun _ => ?_))
   | exact LeO.none _
   | refine LeO.ite ?_ ?_
   | refine LeO.bind ?_ (fun _ => ?_)
  ·
   intro y0 y1 y2 y3
   unfold shardlogref11_Make.l2
   repeat' first
   | (with_reducible exact ih0 _ _)
   | (with_reducible exact ih1 _ _ _ _)
   | (with_reducible exact ih2 _ _ _ _ _ _)
   | (with_reducible exact ih3 _ _ _ _)
   | (with_reducible exact ih4 _ _ _ _ _ _)
   | (with_reducible exact shardlogref11_Bits.mono _ _ _)
   | (with_reducible exact LeO.refl _)
   | (with_reducible exact LeO.none _)
   | (with_reducible refine LeO.ite ?_ ?_)
   | (with_reducible refine LeO.bind ?_ (fun _ => ?_))
   | exact LeO.none _
   | refine LeO.ite ?_ ?_
   | refine LeO.bind ?_ (fun _ => ?_)
  ·
   intro y0 y1 y2 y3 y4 y5
   unfold shardlogref11_Make.l3
   repeat' first
   | (with_reducible exact ih0 _ _)
   | (with_reducible exact ih1 _ _ _ _)
   | (with_reducible exact ih2 _ _ _ _ _ _)
   | (with_reducible exact ih3 _ _ _ _)
   | (with_reducible exact ih4 _ _ _ _ _ _)
   | (with_reducible exact shardlogref11_Bits.mono _ _ _)
   | (with_reducible exact LeO.refl _)
   | (with_reducible exact LeO.none _)
   | (with_reducible refine LeO.ite ?_ ?_)
   | (with_reducible refine LeO.bind ?_ (fun _ => ?_))
   | exact LeO.none _
   | refine LeO.ite ?_ ?_
   | refine LeO.bind ?_ (fun _ => ?_)
theorem shardlogref11_Make.mono : ∀ a0 k, LeO (shardlogref11_Make.f k a0) (shardlogref11_Make.f (k + 1) a0) := by
 intro a0 k
 obtain ⟨ih0, ih1, ih2, ih3, ih4⟩ := shardlogref11_Make.mono_l k
 unfold shardlogref11_Make.f
 repeat' first
   | (with_reducible exact ih0 _ _)
   | (with_reducible exact ih1 _ _ _ _)
   | (with_reducible exact ih2 _ _ _ _ _ _)
   | (with_reducible exact ih3 _ _ _ _)
   | (with_reducible exact ih4 _ _ _ _ _ _)
   | (with_reducible exact shardlogref11_Bits.mono _ _ _)
   | (with_reducible exact LeO.refl _)
   | (with_reducible exact LeO.none _)
   | (with_reducible refine LeO.ite ?_ ?_)
   | (with_reducible refine LeO.bind ?_ (fun _ => ?_))
   | exact LeO.none _
   | refine LeO.ite ?_ ?_
   | refine LeO.bind ?_ (fun _ => ?_)
set_option maxHeartbeats 8000000 in
set_option maxRecDepth 100000 in
theorem shardlogref11_Make.calls (k : Nat) (A0 : Option Addr) (c0 : Nat) (l0 : List ByteArray) (r : List Int) (w : World) (hr0 : Kd.C Kd.string w A0 l0.length l0) (hc0 : l0.length ≤ c0) (h : shardlogref11_Make.f k l0 = some r) :
  Calls Try.prog 26 #[.slice A0 l0.length c0] w fun e w' => ∃ v0_ : Value, e = .returned (v0_) ∧ Kd.R (Kd.int .u8) 5 w' w.heap.size (fun _ => True) v0_ r ∧ Below w.heap.size w w' := by
 have HR0 := aS hr0; have HC0 := aS hc0; clear hr0 hc0; have HB := aS (Below.refl w.heap.size w); have H : (if (l0.length : Int) = 0 then (shardlogref11_Make.j0 k l0 1) else (shardlogref11_Make.j0 k l0 (l0.length : Int))) = some r := h; clear h; have HC2 := aS H; clear H
 go_enter Try.func26, Try.ntmps26
 go_upto_if 15 with (fail)
 go_cut [3] (fun v3 wc => ∃ (kq : Nat) (x3_1 : Int), v3 = .int .i64 x3_1 ∧ Aside0 (shardlogref11_Make.j0 kq l0 x3_1 = some r) ∧ Aside0 (kq ≤ k) ∧ Aside0 (Below w.heap.size w wc))
 case first =>
  have H := HC2.out; clear HC2
  by_cases c3 : (l0.length : Int) = 0
  ·
   rw [if_pos c3] at H; obtain ⟨c3b0, c3b1⟩ := eqT c3; clear c3
   (first | rw [c3b0] | (simp only [i64_w, i32_w]; rw [c3b0]) | skip)
   have H' := aS H
   clear H
   go_wp2
   go_meet
   case rel => exact ⟨_, (1), srf, H', ⟨by first | omega | exact Nat.le_refl _⟩, ⟨bel⟩⟩
  ·
   rw [if_neg c3] at H; obtain ⟨c3b0, c3b1⟩ := eqF c3
   have c3b2 : ¬ (l0 = []) := fun h_ => c3 (by rw [h_]; rfl)
   (first | rw [c3b0] | (simp only [i64_w, i32_w]; rw [c3b0]) | skip)
   have H' := aS H
   clear H
   go_wp2
   go_meet
   case rel => exact ⟨_, ((l0.length : Int)), srf, H', ⟨by first | omega | exact Nat.le_refl _⟩, ⟨bel⟩⟩
 case rest =>
  clear HC2; obtain ⟨kq, x3_1, rfl, HA, HJ1, HB⟩ := hcut
  cases kq with
  | zero => exact absurd HA.out (by simp [shardlogref11_Make.j0])
  | succ kj1 =>
   have H := HA.out; clear HA
   simp only [shardlogref11_Make.j0] at H
   obtain ⟨ji4, hji4⟩ : ∃ j_ : Int, (wrap64 (8 * x3_1)) = j_ := ⟨_, rfl⟩
   replace H : (if 0 ≤ (ji4) then (if (ji4 : Int).toNat ≤ 281474976710656 then (shardlogref11_Make.l0 kj1 l0 x3_1 (List.replicate (ji4 : Int).toNat false) 0) else (none)) else (none)) = some r := by first | (rw [hji4] at H; exact H) | (simp only [hji4] at H ⊢; exact H)
   have hji4w : (IntKind.i64.wrap (8 * x3_1)) = ji4 := (i64_w _).trans hji4
   by_cases c5 : 0 ≤ (ji4)
   ·
    rw [if_pos c5] at H; have c5b0 := eq_true c5; have c5b1 : decide (0 ≤ (ji4)) = true := decide_eq_true c5; clear c5
    by_cases c6 : (ji4 : Int).toNat ≤ 281474976710656
    ·
     rw [if_pos c6] at H; have c6b0 := eq_true c6; have c6b1 : decide ((ji4 : Int).toNat ≤ 281474976710656) = true := decide_eq_true c6; clear c6
     obtain ⟨y591, hy591⟩ : ∃ y_ : List Bool, y_ = (List.replicate (ji4 : Int).toNat false) := ⟨_, rfl⟩
     replace H : (shardlogref11_Make.l0 kj1 l0 x3_1 y591 0) = some r := hyr hy591 H; have Ny591 := aS hy591; clear hy591
     have H' := aS H
     clear H
     go_wp2_with (first | ((with_reducible refine gate_dst (N := 18) rfl ?_); refine Kd.R_make Kd.bool _ 4 rfl (N := 18) rfl 79 _ _ rfl ji4 rfl rfl Try.underlying79 (.bool false) 1 info4 rfl (by decide) (by omega) false (ok := fun _ => True) (okp := fun _ => True) rfl (fun _ hk => hk) trivial (oda) (Nat.le_trans (Nat.mul_le_mul_right _ (oda : ji4.toNat ≤ 281474976710656)) (by omega)) (Below.refl _ _) (Nat.le_refl _) ?_; intro v592 w7 ho8 hb hg_ hnew_; clear hg_ hnew_; (first | rw [← Ny591.out] at ho8 | (simp only [Int.reduceToNat] at ho8; rw [← Ny591.out] at ho8)); have HO593 := aS (Kd.R_lower ho8 (below_size bel)); replace HB := bstep hb; clear hb ho8))
     have HJ_ := aS hji4; clear hji4w hji4
     go_loopg [5] kj1 (fun kq v5 w' => ∃ (x4_2 : List Bool) (x5_2 : Int), v5 = .int .i64 x5_2 ∧ Aside0 (shardlogref11_Make.l0 kq l0 x3_1 x4_2 x5_2 = some r) ∧ Aside0 (kq ≤ kj1) ∧ Aside0 (Kd.R Kd.bool 4 w' w.heap.size (fun _ => True) v592 x4_2) ∧ Aside0 (Below w.heap.size w w'))
     case atStart => exact ⟨(y591), (0), srf, H', ⟨Nat.le_refl _⟩, ⟨by (with_reducible repeat (first | apply Kd.R_alloc | apply Kd.R_drewN | apply Kd.R_drew)); exact HO593.out⟩, ⟨bel⟩⟩
     case round =>
      clear H'; (try clear c5); (try clear c5b0); (try clear c5b1); (try clear c6); (try clear c6b0); (try clear c6b1); obtain ⟨x4_2, x5_2, rfl, HA, HK2, HO_4, HB⟩ := hrel
      cases gk with
      | zero => exact absurd HA.out (by simp [shardlogref11_Make.l0])
      | succ k2 =>
       have H := HA.out; clear HA
       simp only [shardlogref11_Make.l0] at H
       by_cases c9 : x5_2 < (l0.length : Int)
       ·
        rw [if_pos c9] at H; have c9b0 : decide (x5_2 < (l0.length : Int)) = true := decide_eq_true c9; clear c9
        by_cases c10 : 0 ≤ x5_2
        ·
         rw [if_pos c10] at H; have c10b0 : decide (0 ≤ x5_2) = true := decide_eq_true c10; clear c10; replace H := obm H; obtain ⟨t595, A110, H⟩ := H; replace H : (shardlogref11_Make.l1 k2 l0 x3_1 x4_2 x5_2 t595 0) = some r := H; have A11 := aS A110; clear A110
         have H' := aS H
         clear H; have p594 : 0 ≤ (x5_2 : Int) := oda; have q594 : x5_2 < (l0.length : Int) := oda; obtain ⟨ad594, e594, hx594_0⟩ := Kd.at_string HR0.out x5_2 p594 q594; cases e594; replace hx594_0 := bx bel hx594_0; replace p594 := eq_true p594; replace q594 := eq_true q594
         go_wp2_with (first | ((with_reducible refine gate_callee (f := 50) rfl ?_); refine goesL_ (some 31) rfl rfl Try.func50 (by kernel_rfl) rfl #[.string (rdOf ByteArray.empty l0 x5_2), .int .i64 (wrap64 (8 * x3_1))] rfl agn ?_; (with_reducible refine (shardlogref11_Bits.calls k2 (rdOf ByteArray.empty l0 x5_2) (wrap64 (8 * x3_1)) t595 _ A11.out).mono ?_); rintro e w12 ⟨v596, rfl, ho0, hb⟩; refine ⟨_, rfl, ?_⟩; replace HO_4 := aS (Kd.R_below (rel HO_4.out) hb); have HO597 := aS (Kd.R_lower ho0 (below_size bel)); replace HB := bstep hb; (try clear hb); (try clear hk); (try clear hi); (try clear ho0)))
         go_loopg [7] k2 (fun kq v7 w' => ∃ (x4_3 : List Bool) (x7_3 : Int), v7 = .int .i64 x7_3 ∧ Aside0 (shardlogref11_Make.l1 kq l0 x3_1 x4_3 x5_2 t595 x7_3 = some r) ∧ Aside0 (kq ≤ k2) ∧ Aside0 (Kd.R Kd.bool 4 w' w.heap.size (fun _ => True) v592 x4_3) ∧ Aside0 (Kd.R (Kd.int .i64) 3 w' w.heap.size (fun _ => True) v596 t595) ∧ Aside0 (Below w.heap.size w w'))
         case atStart => exact ⟨(x4_2), (0), srf, H', ⟨Nat.le_refl _⟩, ⟨by (with_reducible repeat (first | apply Kd.R_alloc | apply Kd.R_drewN | apply Kd.R_drew)); exact HO_4.out⟩, ⟨by (with_reducible repeat (first | apply Kd.R_alloc | apply Kd.R_drewN | apply Kd.R_drew)); exact HO597.out⟩, ⟨bel⟩⟩
         case round =>
          clear H'; (try clear c5); (try clear c5b0); (try clear c5b1); (try clear c6); (try clear c6b0); (try clear c6b1); (try clear c9); (try clear c9b0); (try clear c10); (try clear c10b0); (try clear hx594_0); (try clear p594); (try clear q594); obtain ⟨x4_3, x7_3, rfl, HA, HK3, HO_4, HO_6, HB⟩ := hrel
          cases gk with
          | zero => exact absurd HA.out (by simp [shardlogref11_Make.l1])
          | succ k3 =>
           have H := HA.out; clear HA
           simp only [shardlogref11_Make.l1] at H
           by_cases c13 : x7_3 < (t595.length : Int)
           ·
            rw [if_pos c13] at H; have c13b0 : decide (x7_3 < (t595.length : Int)) = true := decide_eq_true c13; clear c13
            by_cases c14 : 0 ≤ x7_3
            ·
             rw [if_pos c14] at H; have c14b0 : decide (0 ≤ x7_3) = true := decide_eq_true c14; clear c14
             by_cases c15 : 0 ≤ (rd t595 x7_3)
             ·
              rw [if_pos c15] at H; have c15b0 : decide (0 ≤ (rd t595 x7_3)) = true := decide_eq_true c15; clear c15
              by_cases c16 : (rd t595 x7_3) < (x4_3.length : Int)
              ·
               rw [if_pos c16] at H; have c16b0 : decide ((rd t595 x7_3) < (x4_3.length : Int)) = true := decide_eq_true c16; clear c16
               obtain ⟨y599, hy599⟩ : ∃ y_ : List Bool, y_ = (x4_3.set ((rd t595 x7_3) : Int).toNat true) := ⟨_, rfl⟩
               replace H : (shardlogref11_Make.l1 k3 l0 x3_1 y599 x5_2 t595 (wrap64 (x7_3 + 1))) = some r := hyr hy599 H; have Ny599 := aS hy599; clear hy599
               have H' := aS H
               clear H; obtain ⟨Ao18, co18, eo18⟩ := Kd.R_slice HO_6.out; subst eo18; have p598 : 0 ≤ (x7_3 : Int) := oda; have q598 : x7_3 < (t595.length : Int) := oda; obtain ⟨ad598, e598, hx598_0⟩ := Kd.at_int (Kd.R_reads' HO_6.out).2.2 x7_3 p598 q598; cases e598; replace p598 := eq_true p598; replace q598 := eq_true q598; have p17 : 0 ≤ ((rd t595 x7_3) : Int) := oda; have q17 : ((rd t595 x7_3) : Int) < ((x4_3.length : Int) : Int) := oda; obtain ⟨go17, co17, eo17, gb17, gl17, cl17, HG17⟩ := Kd.R_form HO_4.out (by omega)
               (first | cases eo17 | (injection eo17 with ea_ en_ ec_; (first | subst ea_ | (injection ea_ with ea_; subst ea_)); subst ec_; clear en_))
               have GB17 := aS gb17; have GG17 := aS HG17; clear gb17 gl17 HG17; obtain ⟨hx17_0, hf17_0⟩ := Kd.R_celln false HO_4.out ((rd t595 x7_3) : Int) p17 q17; replace p17 := eq_true p17; replace q17 := eq_true q17; have HP19 := Kd.R_putg HO_4.out ((rd t595 x7_3) : Int) true
               go_wp2_with (first | ((with_reducible refine gate_store (t := 4) (p := 43) rfl ?_); refine store_event (t := 4) (p := 43) (v := ?vo_w20) (w1 := (wr.setCell ⟨go17, ((rd t595 x7_3) : Int).toNat, none⟩ (.bool true))) ?hg ?ho ?hn ?hr ?_; (case ho => rfl); (case hg => rfl); (case hn => rfl); (case hr => first | (go_simp; done) | (go_simp; rfl)); intro w20 hw; have hg : wr.grownBy w20 (some go17) := (by rw [hw]; exact HP19.2); have hp_ : Kd.R Kd.bool 4 w20 w.heap.size (fun _ => True) (.slice (some ⟨go17, 0, none⟩) x4_3.length co17) y599 := (by rw [hw, Ny599.out]; exact HP19.1); clear HP19; replace HO_6 := aS (Kd.R_over' (v := (.slice (some ⟨go17, 0, none⟩) x4_3.length co17)) (rel HO_6.out) (Kd.R_typed HO_4.out) (by decide) hg); replace HO_4 := aS (hp_); replace HB := aS ((by rw [hw]; exact below_set (HB.out) GB17.out : Below w.heap.size w w20)); clear hg hw hp_))
               go_roundg k3
               case measure => have := HJ1.out; have := HK2.out; have := HK3.out; omega
               case rel => exact ⟨(y599), (wrap64 (x7_3 + 1)), srf, H', ⟨by have := HJ1.out; have := HK2.out; have := HK3.out; omega⟩, ⟨by (with_reducible repeat (first | apply Kd.R_alloc | apply Kd.R_drewN | apply Kd.R_drew)); exact HO_4.out⟩, ⟨by (with_reducible repeat (first | apply Kd.R_alloc | apply Kd.R_drewN | apply Kd.R_drew)); exact HO_6.out⟩, ⟨bel⟩⟩
              ·
               rw [if_neg c16] at H; exact absurd H (by simp)
             ·
              rw [if_neg c15] at H; exact absurd H (by simp)
            ·
             rw [if_neg c14] at H; exact absurd H (by simp)
           ·
            rw [if_neg c13] at H; have c13b0 : decide (x7_3 < (t595.length : Int)) = false := decide_eq_false c13; clear c13
            have H' := aS H
            clear H; obtain ⟨Ao21, co21, eo21⟩ := Kd.R_slice HO_6.out; subst eo21
            go_wp2
            go_roundg k3
            case measure => have := HJ1.out; have := HK2.out; have := HK3.out; omega
            case rel => exact ⟨(x4_3), (wrap64 (x5_2 + 1)), srf, H', ⟨by have := HJ1.out; have := HK2.out; have := HK3.out; omega⟩, ⟨by (with_reducible repeat (first | apply Kd.R_alloc | apply Kd.R_drewN | apply Kd.R_drew)); exact HO_4.out⟩, ⟨bel⟩⟩
        ·
         rw [if_neg c10] at H; exact absurd H (by simp)
       ·
        rw [if_neg c9] at H; have c9b0 : decide (x5_2 < (l0.length : Int)) = false := decide_eq_false c9; clear c9
        have H' := aS H
        clear H
        go_wp2
        go_loopg [8, 9] k2 (fun kq v8 v9 w' => ∃ (x8_3 : List Int) (x9_3 : Int), v9 = .int .i64 x9_3 ∧ Aside0 (shardlogref11_Make.l2 kq x3_1 x4_2 x8_3 x9_3 = some r) ∧ Aside0 (kq ≤ k2) ∧ Aside0 (Kd.R Kd.bool 4 w' w.heap.size (fun _ => True) v592 x4_2) ∧ Aside0 (Kd.R (Kd.int .u8) 5 w' w.heap.size (fun _ => True) v8 x8_3) ∧ Aside0 (Below w.heap.size w w'))
        case atStart => exact ⟨(([] : List Int)), (0), srf, H', ⟨Nat.le_refl _⟩, ⟨by (with_reducible repeat (first | apply Kd.R_alloc | apply Kd.R_drewN | apply Kd.R_drew)); exact HO_4.out⟩, ⟨by first | exact Kd.R_nil _ _ _ _ _ | exact Kd.N_nil _ _ _ _ _ | exact Kd.V_nil _ _ _ _ _ | exact Kd.Q_nil _ _ _ _ _ | exact Kd.S_nil _ _ _ _ _⟩, ⟨bel⟩⟩
        case round =>
         clear H'; (try clear c5); (try clear c5b0); (try clear c5b1); (try clear c6); (try clear c6b0); (try clear c6b1); (try clear c9); (try clear c9b0); obtain ⟨x8_3, x9_3, rfl, HA, HK3, HO_4, HO_8, HB⟩ := hrel
         cases gk with
         | zero => exact absurd HA.out (by simp [shardlogref11_Make.l2])
         | succ k3 =>
          have H := HA.out; clear HA
          simp only [shardlogref11_Make.l2] at H
          by_cases c22 : x9_3 < x3_1
          ·
           rw [if_pos c22] at H; have c22b0 : decide (x9_3 < x3_1) = true := decide_eq_true c22; clear c22
           have H' := aS H
           clear H
           go_wp2
           go_loopg [10, 11] k3 (fun kq v10 v11 w' => ∃ (x10_4 : Int) (x11_4 : Int), v10 = .int .i64 x10_4 ∧ v11 = .int .i64 x11_4 ∧ Aside0 (shardlogref11_Make.l3 kq x3_1 x4_2 x8_3 x9_3 x10_4 x11_4 = some r) ∧ Aside0 (kq ≤ k3) ∧ Aside0 (Kd.R Kd.bool 4 w' w.heap.size (fun _ => True) v592 x4_2) ∧ Aside0 (Kd.R (Kd.int .u8) 5 w' w.heap.size (fun _ => True) u8 x8_3) ∧ Aside0 (Below w.heap.size w w'))
           case atStart => exact ⟨(0), (7), srf, srf, H', ⟨Nat.le_refl _⟩, ⟨by (with_reducible repeat (first | apply Kd.R_alloc | apply Kd.R_drewN | apply Kd.R_drew)); exact HO_4.out⟩, ⟨by (with_reducible repeat (first | apply Kd.R_alloc | apply Kd.R_drewN | apply Kd.R_drew)); exact HO_8.out⟩, ⟨bel⟩⟩
           case round =>
            clear H'; (try clear c5); (try clear c5b0); (try clear c5b1); (try clear c6); (try clear c6b0); (try clear c6b1); (try clear c9); (try clear c9b0); (try clear c22); (try clear c22b0); obtain ⟨x10_4, x11_4, rfl, rfl, HA, HK4, HO_4, HO_8, HB⟩ := hrel
            cases gk with
            | zero => exact absurd HA.out (by simp [shardlogref11_Make.l3])
            | succ k4 =>
             have H := HA.out; clear HA
             simp only [shardlogref11_Make.l3] at H
             by_cases c23 : x11_4 ≥ 0
             ·
              rw [if_pos c23] at H; have c23b0 : decide (0 ≤ x11_4) = true := decide_eq_true c23; clear c23
              obtain ⟨ji24, hji24⟩ : ∃ j_ : Int, (wrap64 ((wrap64 (8 * x9_3)) + x11_4)) = j_ := ⟨_, rfl⟩
              replace H : (if 0 ≤ (ji24) then (if (ji24) < (x4_2.length : Int) then (if rdOf false x4_2 (ji24) = true then (shardlogref11_Make.l3 k4 x3_1 x4_2 x8_3 x9_3 (wrap64 ((wrap64 (2 * x10_4)) + 1)) (wrap64 (x11_4 - 1))) else (shardlogref11_Make.l3 k4 x3_1 x4_2 x8_3 x9_3 (wrap64 (2 * x10_4)) (wrap64 (x11_4 - 1)))) else (none)) else (none)) = some r := by first | (rw [hji24] at H; exact H) | (simp only [hji24] at H ⊢; exact H)
              have hji24w : (IntKind.i64.wrap ((wrap64 (8 * x9_3)) + x11_4)) = ji24 := (i64_w _).trans hji24
              by_cases c25 : 0 ≤ (ji24)
              ·
               rw [if_pos c25] at H; have c25b0 : decide (0 ≤ (ji24)) = true := decide_eq_true c25; clear c25
               by_cases c26 : (ji24) < (x4_2.length : Int)
               ·
                rw [if_pos c26] at H; have c26b0 : decide ((ji24) < (x4_2.length : Int)) = true := decide_eq_true c26; clear c26
                obtain ⟨bq27, hbq27⟩ : ∃ b_ : Bool, b_ = (rdOf false x4_2 (ji24)) := ⟨_, rfl⟩
                replace H : (if bq27 = true then (shardlogref11_Make.l3 k4 x3_1 x4_2 x8_3 x9_3 (wrap64 ((wrap64 (2 * x10_4)) + 1)) (wrap64 (x11_4 - 1))) else (shardlogref11_Make.l3 k4 x3_1 x4_2 x8_3 x9_3 (wrap64 (2 * x10_4)) (wrap64 (x11_4 - 1)))) = some r := by rw [← hbq27] at H; exact H
                have Nbq27 := aS hbq27; clear hbq27
                by_cases c28 : bq27 = true
                ·
                 subst c28
                 have H1 : (shardlogref11_Make.l3 k4 x3_1 x4_2 x8_3 x9_3 (wrap64 ((wrap64 (2 * x10_4)) + 1)) (wrap64 (x11_4 - 1))) = some r := by rw [if_pos rfl] at H; exact H
                 clear H; have H := H1; clear H1
                 have H' := aS H
                 clear H; obtain ⟨Ao29, co29, eo29⟩ := Kd.R_slice HO_4.out; subst eo29; have p600 : 0 ≤ ((ji24) : Int) := oda; have q600 : (ji24) < (x4_2.length : Int) := oda; obtain ⟨ad600, e600, hx600_0⟩ := Kd.at_bool (Kd.R_reads' HO_4.out).2.2 (ji24) p600 q600
                 (try rw [← Nbq27.out] at hx600_0)
                 cases e600; replace p600 := eq_true p600; replace q600 := eq_true q600
                 go_wp2
                 go_roundg k4
                 case measure => have := HJ1.out; have := HK2.out; have := HK3.out; have := HK4.out; omega
                 case rel => exact ⟨(wrap64 ((wrap64 (2 * x10_4)) + 1)), (wrap64 (x11_4 - 1)), srf, srf, H', ⟨by have := HJ1.out; have := HK2.out; have := HK3.out; have := HK4.out; omega⟩, ⟨by (with_reducible repeat (first | apply Kd.R_alloc | apply Kd.R_drewN | apply Kd.R_drew)); exact HO_4.out⟩, ⟨by (with_reducible repeat (first | apply Kd.R_alloc | apply Kd.R_drewN | apply Kd.R_drew)); exact HO_8.out⟩, ⟨bel⟩⟩
                ·
                 replace c28 := Bool.eq_false_iff.mpr c28; subst c28
                 have H1 : (shardlogref11_Make.l3 k4 x3_1 x4_2 x8_3 x9_3 (wrap64 (2 * x10_4)) (wrap64 (x11_4 - 1))) = some r := by rw [if_neg (show ¬ (false = true) by decide)] at H; exact H
                 clear H; have H := H1; clear H1
                 have H' := aS H
                 clear H; obtain ⟨Ao30, co30, eo30⟩ := Kd.R_slice HO_4.out; subst eo30; have p600 : 0 ≤ ((ji24) : Int) := oda; have q600 : (ji24) < (x4_2.length : Int) := oda; obtain ⟨ad600, e600, hx600_0⟩ := Kd.at_bool (Kd.R_reads' HO_4.out).2.2 (ji24) p600 q600
                 (try rw [← Nbq27.out] at hx600_0)
                 cases e600; replace p600 := eq_true p600; replace q600 := eq_true q600
                 go_wp2
                 go_roundg k4
                 case measure => have := HJ1.out; have := HK2.out; have := HK3.out; have := HK4.out; omega
                 case rel => exact ⟨(wrap64 (2 * x10_4)), (wrap64 (x11_4 - 1)), srf, srf, H', ⟨by have := HJ1.out; have := HK2.out; have := HK3.out; have := HK4.out; omega⟩, ⟨by (with_reducible repeat (first | apply Kd.R_alloc | apply Kd.R_drewN | apply Kd.R_drew)); exact HO_4.out⟩, ⟨by (with_reducible repeat (first | apply Kd.R_alloc | apply Kd.R_drewN | apply Kd.R_drew)); exact HO_8.out⟩, ⟨bel⟩⟩
               ·
                rw [if_neg c26] at H; exact absurd H (by simp)
              ·
               rw [if_neg c25] at H; exact absurd H (by simp)
             ·
              rw [if_neg c23] at H; have c23b0 : decide (0 ≤ x11_4) = false := decide_eq_false c23; clear c23
              by_cases c31 : x8_3.length < 140737488355328
              ·
               rw [if_pos c31] at H; have LMc31 := aS c31; clear c31
               obtain ⟨y601, hy601⟩ : ∃ y_ : List Int, y_ = (x8_3 ++ [(x10_4) % 256]) := ⟨_, rfl⟩
               replace H : (shardlogref11_Make.l2 k4 x3_1 x4_2 y601 (wrap64 (x9_3 + 1))) = some r := hyr hy601 H; have Ny601 := aS hy601; clear hy601
               have H' := aS H
               clear H
               go_wp2_with (first | ((with_reducible refine gate_builtin (b := .append) (xs := #[.tmp 64, .tmp 67]) rfl ?_); at_builtin; refine Kd.R_append (Kd.int .u8) (w0 := w) w.heap.size rfl (.tmp 64) (.tmp 67) 26 5 (.int .u8 0) 1 rfl Try.underlying26 info5 rfl (by decide) (by omega) u8 x8_3 ((x10_4) % 256) [.int .u8 ((x10_4) % 256)] (fun _ => True) (fun _ => False) rfl rfl ?aP (fun _ hk => hk.elim) ?aF ?aO ?aB ?aS ?aL ?_; (case aP => exact rfl); (case aB => exact bel); (case aF => exact (fun _ _ => trivial)); (case aO => exact (rel HO_8.out)); (case aS => exact (below_size bel)); (case aL => have := LMc31.out; omega); intro v602 w32 ho hb hg hat; rw [← Ny601.out] at ho; have n0_ := aS (Kd.R_over' (rel HO_4.out) (Kd.R_typed (rel HO_8.out)) (by decide) hg); have n1_ := aS (hb); have n2_ := aS (ho); clear HO_4; clear HB; clear HO_8; have HO_4 := n0_; have HB := n1_; have HO603 := n2_; clear n0_ n1_ n2_; clear ho hb hg hat))
               go_roundg k4
               case measure => have := HJ1.out; have := HK2.out; have := HK3.out; have := HK4.out; omega
               case rel => exact ⟨(y601), (wrap64 (x9_3 + 1)), srf, H', ⟨by have := HJ1.out; have := HK2.out; have := HK3.out; have := HK4.out; omega⟩, ⟨by (with_reducible repeat (first | apply Kd.R_alloc | apply Kd.R_drewN | apply Kd.R_drew)); exact HO_4.out⟩, ⟨by (with_reducible repeat (first | apply Kd.R_alloc | apply Kd.R_drewN | apply Kd.R_drew)); exact HO603.out⟩, ⟨bel⟩⟩
              ·
               rw [if_neg c31] at H; exact absurd H (by simp)
          ·
           rw [if_neg c22] at H; have c22b0 : decide (x9_3 < x3_1) = false := decide_eq_false c22; clear c22
           obtain rfl := Option.some.inj H
           go_wp2
           go_ret
           exact ⟨_, by first | rfl | (simp [errW_none, errW_some] <;> rfl) | (simp only [← HJ_.out]; first | rfl | (simp [errW_none, errW_some] <;> rfl)) | (simp [*, errW_none, errW_some] <;> rfl), by (with_reducible repeat (first | apply Kd.R_alloc | apply Kd.R_drewN | apply Kd.R_drew)); exact HO_8.out, bel⟩
    ·
     rw [if_neg c6] at H; exact absurd H (by simp)
   ·
    rw [if_neg c5] at H; exact absurd H (by simp)

/-! ### shardlogref06_Put: function 36 -/
def shardlogref06_Put.f (k : Nat) (l0 : List Int) : Option (List Int) := (shardlogref01_Num.f (l0.length : Int)).bind fun t604 => ((some (([] : List Int) : List Int)).bind fun y607 => (if y607.length + t604.length < 140737488355328 then ((some (y607 ++ t604 : List Int)).bind fun y610 => ((shardlogref02_Sum.f k t604).bind fun t613 => ((shardlogref01_Num.f (wrap64 (t613))).bind fun t614 => (if y610.length + t614.length < 140737488355328 then ((some (y610 ++ t614 : List Int)).bind fun y617 => ((shardlogref02_Sum.f k l0).bind fun t620 => ((shardlogref01_Num.f (wrap64 (t620))).bind fun t621 => (if y617.length + t621.length < 140737488355328 then ((some (y617 ++ t621 : List Int)).bind fun y624 => (if y624.length + l0.length < 140737488355328 then (some (y624 ++ l0)) else (none))) else (none))))) else (none))))) else (none)))
theorem shardlogref06_Put.mono : ∀ a0 k, LeO (shardlogref06_Put.f k a0) (shardlogref06_Put.f (k + 1) a0) := by
 intro a0 k
 unfold shardlogref06_Put.f
 repeat' first
   | (with_reducible exact shardlogref02_Sum.mono _ _)
   | (with_reducible exact LeO.refl _)
   | (with_reducible exact LeO.none _)
   | (with_reducible refine LeO.ite ?_ ?_)
   | (with_reducible refine LeO.bind ?_ (fun _ => ?_))
   | exact LeO.none _
   | refine LeO.ite ?_ ?_
   | refine LeO.bind ?_ (fun _ => ?_)
set_option maxHeartbeats 8000000 in
set_option maxRecDepth 100000 in
theorem shardlogref06_Put.calls (k : Nat) (A0 : Option Addr) (c0 : Nat) (l0 : List Int) (r : List Int) (w : World) (hr0 : Kd.C (Kd.int .u8) w A0 l0.length l0) (hc0 : l0.length ≤ c0) (h : shardlogref06_Put.f k l0 = some r) :
  Calls Try.prog 36 #[.slice A0 l0.length c0] w fun e w' => ∃ v0_ : Value, e = .returned (v0_) ∧ Kd.R (Kd.int .u8) 5 w' w.heap.size (fun _ => True) v0_ r ∧ Below w.heap.size w w' := by
 have HR0 := aS hr0; have HC0 := aS hc0; clear hr0 hc0; have HB := aS (Below.refl w.heap.size w); have H : ((shardlogref01_Num.f (l0.length : Int)).bind fun t604 => ((some (([] : List Int) : List Int)).bind fun y607 => (if y607.length + t604.length < 140737488355328 then ((some (y607 ++ t604 : List Int)).bind fun y610 => ((shardlogref02_Sum.f k t604).bind fun t613 => ((shardlogref01_Num.f (wrap64 (t613))).bind fun t614 => (if y610.length + t614.length < 140737488355328 then ((some (y610 ++ t614 : List Int)).bind fun y617 => ((shardlogref02_Sum.f k l0).bind fun t620 => ((shardlogref01_Num.f (wrap64 (t620))).bind fun t621 => (if y617.length + t621.length < 140737488355328 then ((some (y617 ++ t621 : List Int)).bind fun y624 => (if y624.length + l0.length < 140737488355328 then (some (y624 ++ l0)) else (none))) else (none))))) else (none))))) else (none)))) = some r := h; clear h; replace H := obm H; obtain ⟨t604, A20, H⟩ := H; replace H : ((some (([] : List Int) : List Int)).bind fun y607 => (if y607.length + t604.length < 140737488355328 then ((some (y607 ++ t604 : List Int)).bind fun y610 => ((shardlogref02_Sum.f k t604).bind fun t613 => ((shardlogref01_Num.f (wrap64 (t613))).bind fun t614 => (if y610.length + t614.length < 140737488355328 then ((some (y610 ++ t614 : List Int)).bind fun y617 => ((shardlogref02_Sum.f k l0).bind fun t620 => ((shardlogref01_Num.f (wrap64 (t620))).bind fun t621 => (if y617.length + t621.length < 140737488355328 then ((some (y617 ++ t621 : List Int)).bind fun y624 => (if y624.length + l0.length < 140737488355328 then (some (y624 ++ l0)) else (none))) else (none))))) else (none))))) else (none))) = some r := H; have A2 := aS A20; clear A20
 obtain ⟨y607, hy607⟩ : ∃ y_ : List Int, y_ = (([] : List Int)) := ⟨_, rfl⟩
 replace H : (if y607.length + t604.length < 140737488355328 then ((some (y607 ++ t604 : List Int)).bind fun y610 => ((shardlogref02_Sum.f k t604).bind fun t613 => ((shardlogref01_Num.f (wrap64 (t613))).bind fun t614 => (if y610.length + t614.length < 140737488355328 then ((some (y610 ++ t614 : List Int)).bind fun y617 => ((shardlogref02_Sum.f k l0).bind fun t620 => ((shardlogref01_Num.f (wrap64 (t620))).bind fun t621 => (if y617.length + t621.length < 140737488355328 then ((some (y617 ++ t621 : List Int)).bind fun y624 => (if y624.length + l0.length < 140737488355328 then (some (y624 ++ l0)) else (none))) else (none))))) else (none))))) else (none)) = some r := hyr hy607 H; have Ny607 := aS hy607; clear hy607
 by_cases c3 : y607.length + t604.length < 140737488355328
 ·
  rw [if_pos c3] at H; have LMc3 := aS c3; clear c3
  obtain ⟨y610, hy610⟩ : ∃ y_ : List Int, y_ = (y607 ++ t604) := ⟨_, rfl⟩
  replace H : ((shardlogref02_Sum.f k t604).bind fun t613 => ((shardlogref01_Num.f (wrap64 (t613))).bind fun t614 => (if y610.length + t614.length < 140737488355328 then ((some (y610 ++ t614 : List Int)).bind fun y617 => ((shardlogref02_Sum.f k l0).bind fun t620 => ((shardlogref01_Num.f (wrap64 (t620))).bind fun t621 => (if y617.length + t621.length < 140737488355328 then ((some (y617 ++ t621 : List Int)).bind fun y624 => (if y624.length + l0.length < 140737488355328 then (some (y624 ++ l0)) else (none))) else (none))))) else (none)))) = some r := hyr hy610 H; have Ny610 := aS hy610; clear hy610; replace H := obm H; obtain ⟨t613, A40, H⟩ := H; replace H : ((shardlogref01_Num.f (wrap64 (t613))).bind fun t614 => (if y610.length + t614.length < 140737488355328 then ((some (y610 ++ t614 : List Int)).bind fun y617 => ((shardlogref02_Sum.f k l0).bind fun t620 => ((shardlogref01_Num.f (wrap64 (t620))).bind fun t621 => (if y617.length + t621.length < 140737488355328 then ((some (y617 ++ t621 : List Int)).bind fun y624 => (if y624.length + l0.length < 140737488355328 then (some (y624 ++ l0)) else (none))) else (none))))) else (none))) = some r := H; have A4 := aS A40; clear A40; replace H := obm H; obtain ⟨t614, A50, H⟩ := H; replace H : (if y610.length + t614.length < 140737488355328 then ((some (y610 ++ t614 : List Int)).bind fun y617 => ((shardlogref02_Sum.f k l0).bind fun t620 => ((shardlogref01_Num.f (wrap64 (t620))).bind fun t621 => (if y617.length + t621.length < 140737488355328 then ((some (y617 ++ t621 : List Int)).bind fun y624 => (if y624.length + l0.length < 140737488355328 then (some (y624 ++ l0)) else (none))) else (none))))) else (none)) = some r := H; have A5 := aS A50; clear A50
  by_cases c6 : y610.length + t614.length < 140737488355328
  ·
   rw [if_pos c6] at H; have LMc6 := aS c6; clear c6
   obtain ⟨y617, hy617⟩ : ∃ y_ : List Int, y_ = (y610 ++ t614) := ⟨_, rfl⟩
   replace H : ((shardlogref02_Sum.f k l0).bind fun t620 => ((shardlogref01_Num.f (wrap64 (t620))).bind fun t621 => (if y617.length + t621.length < 140737488355328 then ((some (y617 ++ t621 : List Int)).bind fun y624 => (if y624.length + l0.length < 140737488355328 then (some (y624 ++ l0)) else (none))) else (none)))) = some r := hyr hy617 H; have Ny617 := aS hy617; clear hy617; replace H := obm H; obtain ⟨t620, A70, H⟩ := H; replace H : ((shardlogref01_Num.f (wrap64 (t620))).bind fun t621 => (if y617.length + t621.length < 140737488355328 then ((some (y617 ++ t621 : List Int)).bind fun y624 => (if y624.length + l0.length < 140737488355328 then (some (y624 ++ l0)) else (none))) else (none))) = some r := H; have A7 := aS A70; clear A70; replace H := obm H; obtain ⟨t621, A80, H⟩ := H; replace H : (if y617.length + t621.length < 140737488355328 then ((some (y617 ++ t621 : List Int)).bind fun y624 => (if y624.length + l0.length < 140737488355328 then (some (y624 ++ l0)) else (none))) else (none)) = some r := H; have A8 := aS A80; clear A80
   by_cases c9 : y617.length + t621.length < 140737488355328
   ·
    rw [if_pos c9] at H; have LMc9 := aS c9; clear c9
    obtain ⟨y624, hy624⟩ : ∃ y_ : List Int, y_ = (y617 ++ t621) := ⟨_, rfl⟩
    replace H : (if y624.length + l0.length < 140737488355328 then (some (y624 ++ l0)) else (none)) = some r := hyr hy624 H; have Ny624 := aS hy624; clear hy624
    by_cases c10 : y624.length + l0.length < 140737488355328
    ·
     rw [if_pos c10] at H; have LMc10 := aS c10; clear c10
     obtain ⟨y627, hy627⟩ : ∃ y_ : List Int, y_ = (y624 ++ l0) := ⟨_, rfl⟩
     replace H : (some y627) = some r := hyr hy627 H; have Ny627 := aS hy627; clear hy627
     obtain rfl := Option.some.inj H
     go_enter Try.func36, Try.ntmps36
     go_wp2_with (first | ((with_reducible refine gate_callee (f := 33) rfl ?_); refine goesL_ (some 7) rfl rfl Try.func33 (by kernel_rfl) rfl #[.int .i64 (l0.length : Int)] rfl agn ?_; (with_reducible refine (shardlogref01_Num.calls (l0.length : Int) t604 _ A2.out).mono ?_); rintro e w11 ⟨v605, rfl, ho0, hb⟩; refine ⟨_, rfl, ?_⟩; have HO606 := aS (Kd.R_lower ho0 (below_size bel)); replace HB := bstep hb; (try clear hb); (try clear hk); (try clear hi); (try clear ho0)) | ((with_reducible refine gate_dst (N := 8) rfl ?_); refine Kd.R_lit (Kd.int .u8) _ 5 ?hg (N := 8) ?hd (xs := ([] : List Int)) (inner := []) (ok := fun _ => True) (okp := fun _ => True) ?hr ?hp (fun _ hk => hk) trivial (Below.refl _ _) (Nat.le_refl _) (by simp) ?_; (case hd => rfl); (case hg => rfl); (case hr => first | (go_simp; done) | (go_simp; rfl)); (case hp => exact (Reps.none _ _)); intro v608 w12 ho13 hb hg_ hnew_; clear hg_ hnew_; (first | rw [← Ny607.out] at ho13 | (simp only [Int.reduceToNat] at ho13; rw [← Ny607.out] at ho13)); have HO609 := aS (Kd.R_lower (Kd.R_new' ho13 (Kd.R_lt (rel HO606.out))) (below_size bel)); replace HO606 := aS (Kd.R_elder' (rel HO606.out) (ebs ho13) hb); replace HB := bstep hb; clear hb ho13; obtain ⟨Ao15, co15, eo15⟩ := Kd.R_slice HO606.out; subst eo15) | ((with_reducible refine gate_builtin (b := .append) (xs := #[.tmp 8, .tmp 9]) rfl ?_); at_builtin; refine Kd.R_append_rows (Kd.int .u8) (w0 := w) w.heap.size rfl (.tmp 8) (.tmp 9) 26 5 (.int .u8 0) 1 rfl Try.underlying26 info5 rfl (by decide) (by omega) v608 y607 t604 _ _ _ (fun k_ => some k_ ≠ (.slice Ao15 t604.length co15 : Value).ownBlock) (fun _ => False) rfl rfl ?aO ?aR (fun _ _ h => h) (fun _ h => h.elim) ?aF ?aB ?aS ?aL ?_; (case aR => exact cel ((Kd.R_reads' HO606.out).2.2)); (case aB => exact bel); (case aF => exact (fun k_ hk => Kd.fresh' (Kd.R_lt (rel HO606.out)) k_ hk)); (case aO => exact (rel (Kd.R_mono HO609.out (fun _ hk => hk.2)))); (case aS => exact (below_size bel)); (case aL => have := LMc3.out; omega); intro v611 w14 ho hb hg hat; rw [← Ny610.out] at ho; have n0_ := aS (Kd.R_after (ok := (fun _ => True)) (rel HO606.out) hg hat); have n1_ := aS (hb); have n2_ := aS (ho); clear HO606; clear HB; clear HO609; have HO606 := n0_; have HB := n1_; have HO612 := n2_; clear n0_ n1_ n2_; clear ho hb hg hat) | ((with_reducible refine gate_callee (f := 57) rfl ?_); refine goesL_ (some 12) rfl rfl Try.func57 (by kernel_rfl) rfl #[.slice Ao15 t604.length co15] rfl agn ?_; (with_reducible refine (shardlogref02_Sum.calls k _ _ t604 t613 _ ?side1 ?side2 A4.out).mono ?_); (case side1 => exact cel ((Kd.R_reads' HO606.out).2.2)); (case side2 => exact (Kd.R_reads' HO606.out).2.1); rintro e w' ⟨rfl, ⟨nd, rfl⟩⟩; refine ⟨_, rfl, ?_⟩) | ((with_reducible refine gate_callee (f := 33) rfl ?_); refine goesL_ (some 14) rfl rfl Try.func33 (by kernel_rfl) rfl #[.int .i64 (wrap64 (t613))] rfl agn ?_; (with_reducible refine (shardlogref01_Num.calls (wrap64 (t613)) t614 _ A5.out).mono ?_); rintro e w16 ⟨v615, rfl, ho0, hb⟩; refine ⟨_, rfl, ?_⟩; have HO616 := aS (Kd.R_lower (Kd.R_new' (Kd.R_new' ho0 (Kd.R_lt (rel HO606.out))) (Kd.R_lt (rel HO612.out))) (below_size bel)); replace HO606 := aS (Kd.R_elder' (rel HO606.out) (ebs ho0) hb); replace HO612 := aS (Kd.R_elder' (rel HO612.out) (ebs ho0) hb); replace HB := bstep hb; (try clear hb); (try clear hk); (try clear hi); (try clear ho0); obtain ⟨Ao18, co18, eo18⟩ := Kd.R_slice HO616.out; subst eo18) | ((with_reducible refine gate_builtin (b := .append) (xs := #[.tmp 10, .tmp 14]) rfl ?_); at_builtin; refine Kd.R_append_rows (Kd.int .u8) (w0 := w) w.heap.size rfl (.tmp 10) (.tmp 14) 26 5 (.int .u8 0) 1 rfl Try.underlying26 info5 rfl (by decide) (by omega) v611 y610 t614 _ _ _ (fun k_ => some k_ ≠ (.slice Ao15 t604.length co15 : Value).ownBlock ∧ some k_ ≠ (.slice Ao18 t614.length co18 : Value).ownBlock) (fun _ => False) rfl rfl ?aO ?aR (fun _ _ h => h) (fun _ h => h.elim) ?aF ?aB ?aS ?aL ?_; (case aR => exact cel ((Kd.R_reads' HO616.out).2.2)); (case aB => exact bel); (case aF => exact (fun k_ hk => ⟨Kd.fresh' (Kd.R_lt (rel HO606.out)) k_ hk, Kd.fresh' (Kd.R_lt (rel HO616.out)) k_ hk⟩)); (case aO => exact (rel HO612.out)); (case aS => exact (below_size bel)); (case aL => have := LMc6.out; omega); intro v618 w17 ho hb hg hat; rw [← Ny617.out] at ho; have n0_ := aS (Kd.R_after (ok := (fun k_ => some k_ ≠ (.slice Ao18 t614.length co18 : Value).ownBlock)) (by (with_reducible repeat (first | apply Kd.R_alloc | apply Kd.R_drewN | apply Kd.R_drew)); exact Kd.R_mono HO606.out (fun _ hk => ⟨hk.2, hk.1.2⟩)) hg hat); have n1_ := aS (Kd.R_after (ok := (fun k_ => some k_ ≠ (.slice Ao15 t604.length co15 : Value).ownBlock)) (by (with_reducible repeat (first | apply Kd.R_alloc | apply Kd.R_drewN | apply Kd.R_drew)); exact Kd.R_mono HO616.out (fun _ hk => ⟨hk.1.2, hk.2⟩)) hg hat); have n2_ := aS (hb); have n3_ := aS (ho); clear HO606; clear HO616; clear HB; clear HO612; have HO606 := n0_; have HO616 := n1_; have HB := n2_; have HO619 := n3_; clear n0_ n1_ n2_ n3_; clear ho hb hg hat) | ((with_reducible refine gate_callee (f := 57) rfl ?_); refine goesL_ (some 18) rfl rfl Try.func57 (by kernel_rfl) rfl #[.slice A0 l0.length c0] rfl agn ?_; (with_reducible refine (shardlogref02_Sum.calls k _ _ l0 t620 _ ?side1 ?side2 A7.out).mono ?_); (case side1 => exact cel (Kd.C_below HR0.out HB.out)); (case side2 => exact HC0.out); rintro e w' ⟨rfl, ⟨nd, rfl⟩⟩; refine ⟨_, rfl, ?_⟩) | ((with_reducible refine gate_callee (f := 33) rfl ?_); refine goesL_ (some 20) rfl rfl Try.func33 (by kernel_rfl) rfl #[.int .i64 (wrap64 (t620))] rfl agn ?_; (with_reducible refine (shardlogref01_Num.calls (wrap64 (t620)) t621 _ A8.out).mono ?_); rintro e w19 ⟨v622, rfl, ho0, hb⟩; refine ⟨_, rfl, ?_⟩; have HO623 := aS (Kd.R_lower (Kd.R_new' (Kd.R_new' (Kd.R_new' ho0 (Kd.R_lt (rel HO606.out))) (Kd.R_lt (rel HO616.out))) (Kd.R_lt (rel HO619.out))) (below_size bel)); replace HO606 := aS (Kd.R_elder' (rel HO606.out) (ebs ho0) hb); replace HO616 := aS (Kd.R_elder' (rel HO616.out) (ebs ho0) hb); replace HO619 := aS (Kd.R_elder' (rel HO619.out) (ebs ho0) hb); replace HB := bstep hb; (try clear hb); (try clear hk); (try clear hi); (try clear ho0); obtain ⟨Ao21, co21, eo21⟩ := Kd.R_slice HO623.out; subst eo21) | ((with_reducible refine gate_builtin (b := .append) (xs := #[.tmp 16, .tmp 20]) rfl ?_); at_builtin; refine Kd.R_append_rows (Kd.int .u8) (w0 := w) w.heap.size rfl (.tmp 16) (.tmp 20) 26 5 (.int .u8 0) 1 rfl Try.underlying26 info5 rfl (by decide) (by omega) v618 y617 t621 _ _ _ (fun k_ => some k_ ≠ (.slice Ao15 t604.length co15 : Value).ownBlock ∧ some k_ ≠ (.slice Ao18 t614.length co18 : Value).ownBlock ∧ some k_ ≠ (.slice Ao21 t621.length co21 : Value).ownBlock) (fun _ => False) rfl rfl ?aO ?aR (fun _ _ h => h) (fun _ h => h.elim) ?aF ?aB ?aS ?aL ?_; (case aR => exact cel ((Kd.R_reads' HO623.out).2.2)); (case aB => exact bel); (case aF => exact (fun k_ hk => ⟨Kd.fresh' (Kd.R_lt (rel HO606.out)) k_ hk, Kd.fresh' (Kd.R_lt (rel HO616.out)) k_ hk, Kd.fresh' (Kd.R_lt (rel HO623.out)) k_ hk⟩)); (case aO => exact (by (with_reducible repeat (first | apply Kd.R_alloc | apply Kd.R_drewN | apply Kd.R_drew)); exact Kd.R_mono HO619.out (fun _ hk => ⟨hk.1.1, ⟨hk.1.2, hk.2⟩⟩))); (case aS => exact (below_size bel)); (case aL => have := LMc9.out; omega); intro v625 w20 ho hb hg hat; rw [← Ny624.out] at ho; have n0_ := aS (Kd.R_after (ok := (fun k_ => some k_ ≠ (.slice Ao18 t614.length co18 : Value).ownBlock ∧ some k_ ≠ (.slice Ao21 t621.length co21 : Value).ownBlock)) (by (with_reducible repeat (first | apply Kd.R_alloc | apply Kd.R_drewN | apply Kd.R_drew)); exact Kd.R_mono HO606.out (fun _ hk => ⟨⟨hk.1.1, hk.2⟩, hk.1.2⟩)) hg hat); have n1_ := aS (Kd.R_after (ok := (fun k_ => some k_ ≠ (.slice Ao15 t604.length co15 : Value).ownBlock ∧ some k_ ≠ (.slice Ao21 t621.length co21 : Value).ownBlock)) (by (with_reducible repeat (first | apply Kd.R_alloc | apply Kd.R_drewN | apply Kd.R_drew)); exact Kd.R_mono HO616.out (fun _ hk => ⟨⟨hk.1.1, hk.2⟩, hk.1.2⟩)) hg hat); have n2_ := aS (Kd.R_after (ok := (fun k_ => some k_ ≠ (.slice Ao15 t604.length co15 : Value).ownBlock ∧ some k_ ≠ (.slice Ao18 t614.length co18 : Value).ownBlock)) (by (with_reducible repeat (first | apply Kd.R_alloc | apply Kd.R_drewN | apply Kd.R_drew)); exact Kd.R_mono HO623.out (fun _ hk => ⟨⟨hk.1.1.2, hk.1.2⟩, hk.2⟩)) hg hat); have n3_ := aS (hb); have n4_ := aS (ho); clear HO606; clear HO616; clear HO623; clear HB; clear HO619; have HO606 := n0_; have HO616 := n1_; have HO623 := n2_; have HB := n3_; have HO626 := n4_; clear n0_ n1_ n2_ n3_ n4_; clear ho hb hg hat) | ((with_reducible refine gate_builtin (b := .append) (xs := #[.tmp 22, .tmp 23]) rfl ?_); at_builtin; refine Kd.R_append_rows (Kd.int .u8) (w0 := w) w.heap.size rfl (.tmp 22) (.tmp 23) 26 5 (.int .u8 0) 1 rfl Try.underlying26 info5 rfl (by decide) (by omega) v625 y624 l0 _ _ _ (fun k_ => some k_ ≠ (.slice Ao15 t604.length co15 : Value).ownBlock ∧ some k_ ≠ (.slice Ao18 t614.length co18 : Value).ownBlock ∧ some k_ ≠ (.slice Ao21 t621.length co21 : Value).ownBlock) (fun _ => False) rfl rfl ?aO ?aR (fun _ _ h => h) (fun _ h => h.elim) ?aF ?aB ?aS ?aL ?_; (case aR => exact cel (Kd.C_below HR0.out HB.out)); (case aB => exact bel); (case aF => exact (fun k_ hk => ⟨Kd.fresh' (Kd.R_lt (rel HO606.out)) k_ hk, Kd.fresh' (Kd.R_lt (rel HO616.out)) k_ hk, Kd.fresh' (Kd.R_lt (rel HO623.out)) k_ hk⟩)); (case aO => exact (rel HO626.out)); (case aS => exact (below_size bel)); (case aL => have := LMc10.out; omega); intro v628 w22 ho hb hg hat; rw [← Ny627.out] at ho; have n0_ := aS (Kd.R_after (ok := (fun k_ => some k_ ≠ (.slice Ao18 t614.length co18 : Value).ownBlock ∧ some k_ ≠ (.slice Ao21 t621.length co21 : Value).ownBlock)) (rel HO606.out) hg hat); have n1_ := aS (Kd.R_after (ok := (fun k_ => some k_ ≠ (.slice Ao15 t604.length co15 : Value).ownBlock ∧ some k_ ≠ (.slice Ao21 t621.length co21 : Value).ownBlock)) (rel HO616.out) hg hat); have n2_ := aS (Kd.R_after (ok := (fun k_ => some k_ ≠ (.slice Ao15 t604.length co15 : Value).ownBlock ∧ some k_ ≠ (.slice Ao18 t614.length co18 : Value).ownBlock)) (rel HO623.out) hg hat); have n3_ := aS (hb); have n4_ := aS (ho); clear HO606; clear HO616; clear HO623; clear HB; clear HO626; have HO606 := n0_; have HO616 := n1_; have HO623 := n2_; have HB := n3_; have HO629 := n4_; clear n0_ n1_ n2_ n3_ n4_; clear ho hb hg hat))
     go_ret
     exact ⟨_, rf3, by (with_reducible repeat (first | apply Kd.R_alloc | apply Kd.R_drewN | apply Kd.R_drew)); exact Kd.R_mono HO629.out (fun _ hk => trivial), bel⟩
    ·
     rw [if_neg c10] at H; exact absurd H (by simp)
   ·
    rw [if_neg c9] at H; exact absurd H (by simp)
  ·
   rw [if_neg c6] at H; exact absurd H (by simp)
 ·
  rw [if_neg c3] at H; exact absurd H (by simp)

/-! ### shardlogref10_Put: function 35 -/
def shardlogref10_Put.l0 : Nat → List (S42) → List Int → Int → Option (List Int)
 | 0, _, _, _ => none
 | k + 1, x0, x3, x4 => if x4 < (x0.length : Int) then (if 0 ≤ x4 then ((shardlogref08_Put.f k ((rd_T42 x0 x4).f0) ((rd_T42 x0 x4).f1) ((rd_T42 x0 x4).f2) ((rd_T42 x0 x4).f3) ((rd_T42 x0 x4).f4)).bind fun t634 => (if x3.length + t634.length < 140737488355328 then (shardlogref10_Put.l0 k x0 (x3 ++ t634) (wrap64 (x4 + 1))) else (none))) else (none)) else ((shardlogref06_Put.f k x3).bind fun t640 => (some t640))
def shardlogref10_Put.f (k : Nat) (l0 : List (S42)) : Option (List Int) := (shardlogref01_Num.f (l0.length : Int)).bind fun t630 => (shardlogref10_Put.l0 k l0 t630 0)
theorem shardlogref10_Put.mono_l : ∀ k, (∀ y0 y1 y2, LeO (shardlogref10_Put.l0 k y0 y1 y2) (shardlogref10_Put.l0 (k + 1) y0 y1 y2))
 | 0 => fun _ _ _ r h => by simp [shardlogref10_Put.l0] at h
 | k + 1 => by
  have ih0 := shardlogref10_Put.mono_l k
  ·
   intro y0 y1 y2
   unfold shardlogref10_Put.l0
   repeat' first
   | (with_reducible exact ih0 _ _ _)
   | (with_reducible exact shardlogref06_Put.mono _ _)
   | (with_reducible exact shardlogref08_Put.mono _ _ _ _ _ _)
   | (with_reducible exact LeO.refl _)
   | (with_reducible exact LeO.none _)
   | (with_reducible refine LeO.ite ?_ ?_)
   | (with_reducible refine LeO.bind ?_ (fun _ => ?_))
   | exact LeO.none _
   | refine LeO.ite ?_ ?_
   | refine LeO.bind ?_ (fun _ => ?_)
theorem shardlogref10_Put.mono : ∀ a0 k, LeO (shardlogref10_Put.f k a0) (shardlogref10_Put.f (k + 1) a0) := by
 intro a0 k
 have ih0 := shardlogref10_Put.mono_l k
 unfold shardlogref10_Put.f
 repeat' first
   | (with_reducible exact ih0 _ _ _)
   | (with_reducible exact shardlogref06_Put.mono _ _)
   | (with_reducible exact shardlogref08_Put.mono _ _ _ _ _ _)
   | (with_reducible exact LeO.refl _)
   | (with_reducible exact LeO.none _)
   | (with_reducible refine LeO.ite ?_ ?_)
   | (with_reducible refine LeO.bind ?_ (fun _ => ?_))
   | exact LeO.none _
   | refine LeO.ite ?_ ?_
   | refine LeO.bind ?_ (fun _ => ?_)
set_option maxHeartbeats 8000000 in
set_option maxRecDepth 100000 in
theorem shardlogref10_Put.calls (k : Nat) (A0 : Option Addr) (c0 : Nat) (l0 : List (S42)) (r : List Int) (w : World) (hr0 : Kd.C k42 w A0 l0.length l0) (hc0 : l0.length ≤ c0) (h : shardlogref10_Put.f k l0 = some r) :
  Calls Try.prog 35 #[.slice A0 l0.length c0] w fun e w' => ∃ v0_ : Value, e = .returned (v0_) ∧ Kd.R (Kd.int .u8) 5 w' w.heap.size (fun _ => True) v0_ r ∧ Below w.heap.size w w' := by
 have hu42 := Try.underlying42; have HR0 := aS hr0; have HC0 := aS hc0; clear hr0 hc0; have HB := aS (Below.refl w.heap.size w); have H : ((shardlogref01_Num.f (l0.length : Int)).bind fun t630 => (shardlogref10_Put.l0 k l0 t630 0)) = some r := h; clear h; replace H := obm H; obtain ⟨t630, A20, H⟩ := H; replace H : (shardlogref10_Put.l0 k l0 t630 0) = some r := H; have A2 := aS A20; clear A20
 have H' := aS H
 clear H
 go_enter Try.func35, Try.ntmps35
 go_wp2_with (first | ((with_reducible refine gate_callee (f := 33) rfl ?_); refine goesL_ (some 7) rfl rfl Try.func33 (by kernel_rfl) rfl #[.int .i64 (l0.length : Int)] rfl agn ?_; (with_reducible refine (shardlogref01_Num.calls (l0.length : Int) t630 _ A2.out).mono ?_); rintro e w3 ⟨v631, rfl, ho0, hb⟩; refine ⟨_, rfl, ?_⟩; have HO632 := aS (Kd.R_lower ho0 (below_size bel)); replace HB := bstep hb; (try clear hb); (try clear hk); (try clear hi); (try clear ho0)))
 go_loopg [3, 4] k (fun kq v3 v4 w' => ∃ (x3_1 : List Int) (x4_1 : Int), v4 = .int .i64 x4_1 ∧ Aside0 (shardlogref10_Put.l0 kq l0 x3_1 x4_1 = some r) ∧ Aside0 (kq ≤ k) ∧ Aside0 (Kd.R (Kd.int .u8) 5 w' w.heap.size (fun _ => True) v3 x3_1) ∧ Aside0 (Below w.heap.size w w'))
 case atStart => exact ⟨(t630), (0), srf, H', ⟨Nat.le_refl _⟩, ⟨by (with_reducible repeat (first | apply Kd.R_alloc | apply Kd.R_drewN | apply Kd.R_drew)); exact HO632.out⟩, ⟨bel⟩⟩
 case round =>
  clear H'; obtain ⟨x3_1, x4_1, rfl, HA, HK1, HO_3, HB⟩ := hrel
  cases gk with
  | zero => exact absurd HA.out (by simp [shardlogref10_Put.l0])
  | succ k1 =>
   have H := HA.out; clear HA
   simp only [shardlogref10_Put.l0] at H
   by_cases c4 : x4_1 < (l0.length : Int)
   ·
    rw [if_pos c4] at H; have c4b0 : decide (x4_1 < (l0.length : Int)) = true := decide_eq_true c4; clear c4
    by_cases c5 : 0 ≤ x4_1
    ·
     rw [if_pos c5] at H; have c5b0 : decide (0 ≤ x4_1) = true := decide_eq_true c5; clear c5; replace H := obm H; obtain ⟨t634, A60, H⟩ := H; replace H : (if x3_1.length + t634.length < 140737488355328 then (shardlogref10_Put.l0 k1 l0 (x3_1 ++ t634) (wrap64 (x4_1 + 1))) else (none)) = some r := H; have A6 := aS A60; clear A60
     by_cases c7 : x3_1.length + t634.length < 140737488355328
     ·
      rw [if_pos c7] at H; have LMc7 := aS c7; clear c7
      obtain ⟨y637, hy637⟩ : ∃ y_ : List Int, y_ = (x3_1 ++ t634) := ⟨_, rfl⟩
      replace H : (shardlogref10_Put.l0 k1 l0 y637 (wrap64 (x4_1 + 1))) = some r := hyr hy637 H; have Ny637 := aS hy637; clear hy637
      have H' := aS H
      clear H; have p633 : 0 ≤ (x4_1 : Int) := oda; have q633 : x4_1 < (l0.length : Int) := oda; obtain ⟨ad633, e633, hx633_0, hx633_1, hx633_2, hx633_3, hx633_4⟩ := at_T42 HR0.out x4_1 p633 q633; cases e633; replace hx633_0 := bx bel hx633_0; replace hx633_1 := bx bel hx633_1; replace hx633_2 := bx bel hx633_2; replace hx633_3 := bx bel hx633_3; replace hx633_4 := bx bel hx633_4; replace p633 := eq_true p633; replace q633 := eq_true q633
      go_wp2_with (first | ((with_reducible refine gate_callee (f := 34) rfl ?_); refine goesL_ (some 19) rfl rfl Try.func34 (by kernel_rfl) rfl #[.agg #[.string ((rd_T42 l0 x4_1).f0), .string ((rd_T42 l0 x4_1).f1), .int .i64 ((rd_T42 l0 x4_1).f2), .string ((rd_T42 l0 x4_1).f3), .bool ((rd_T42 l0 x4_1).f4)]] rfl agn ?_; (with_reducible refine (shardlogref08_Put.calls k1 ((rd_T42 l0 x4_1).f0) ((rd_T42 l0 x4_1).f1) ((rd_T42 l0 x4_1).f2) ((rd_T42 l0 x4_1).f3) ((rd_T42 l0 x4_1).f4) t634 _ A6.out).mono ?_); rintro e w8 ⟨v635, rfl, ho0, hb⟩; refine ⟨_, rfl, ?_⟩; have HO636 := aS (Kd.R_lower (Kd.R_new' ho0 (Kd.R_lt (rel HO_3.out))) (below_size bel)); replace HO_3 := aS (Kd.R_elder' (rel HO_3.out) (ebs ho0) hb); replace HB := bstep hb; (try clear hb); (try clear hk); (try clear hi); (try clear ho0); obtain ⟨Ao10, co10, eo10⟩ := Kd.R_slice HO636.out; subst eo10) | ((with_reducible refine gate_builtin (b := .append) (xs := #[.tmp 14, .tmp 19]) rfl ?_); at_builtin; refine Kd.R_append_rows (Kd.int .u8) (w0 := w) w.heap.size rfl (.tmp 14) (.tmp 19) 26 5 (.int .u8 0) 1 rfl Try.underlying26 info5 rfl (by decide) (by omega) u3 x3_1 t634 _ _ _ (fun k_ => some k_ ≠ (.slice Ao10 t634.length co10 : Value).ownBlock) (fun _ => False) rfl rfl ?aO ?aR (fun _ _ h => h) (fun _ h => h.elim) ?aF ?aB ?aS ?aL ?_; (case aR => exact cel ((Kd.R_reads' HO636.out).2.2)); (case aB => exact bel); (case aF => exact (fun k_ hk => Kd.fresh' (Kd.R_lt (rel HO636.out)) k_ hk)); (case aO => exact (rel (Kd.R_mono HO_3.out (fun _ hk => hk.2)))); (case aS => exact (below_size bel)); (case aL => have := LMc7.out; omega); intro v638 w9 ho hb hg hat; rw [← Ny637.out] at ho; have n0_ := aS (Kd.R_after (ok := (fun _ => True)) (rel HO636.out) hg hat); have n1_ := aS (hb); have n2_ := aS (ho); clear HO636; clear HB; clear HO_3; have HO636 := n0_; have HB := n1_; have HO639 := n2_; clear n0_ n1_ n2_; clear ho hb hg hat))
      go_roundg k1
      case measure => have := HK1.out; omega
      case rel => exact ⟨(y637), (wrap64 (x4_1 + 1)), srf, H', ⟨by have := HK1.out; omega⟩, ⟨by (with_reducible repeat (first | apply Kd.R_alloc | apply Kd.R_drewN | apply Kd.R_drew)); exact Kd.R_mono HO639.out (fun _ hk => trivial)⟩, ⟨bel⟩⟩
     ·
      rw [if_neg c7] at H; exact absurd H (by simp)
    ·
     rw [if_neg c5] at H; exact absurd H (by simp)
   ·
    rw [if_neg c4] at H; have c4b0 : decide (x4_1 < (l0.length : Int)) = false := decide_eq_false c4; clear c4; replace H := obm H; obtain ⟨t640, A110, H⟩ := H; replace H : (some t640) = some r := H; have A11 := aS A110; clear A110
    obtain rfl := Option.some.inj H
    obtain ⟨Ao12, co12, eo12⟩ := Kd.R_slice HO_3.out; subst eo12
    go_wp2_with (first | ((with_reducible refine gate_callee (f := 36) rfl ?_); refine goesL_ (some 22) rfl rfl Try.func36 (by kernel_rfl) rfl #[.slice Ao12 x3_1.length co12] rfl agn ?_; (with_reducible refine (shardlogref06_Put.calls k1 _ _ x3_1 t640 _ ?side1 ?side2 A11.out).mono ?_); (case side1 => exact cel ((Kd.R_reads' HO_3.out).2.2)); (case side2 => exact (Kd.R_reads' HO_3.out).2.1); rintro e w13 ⟨v641, rfl, ho0, hb⟩; refine ⟨_, rfl, ?_⟩; have HO642 := aS (Kd.R_lower (Kd.R_new' ho0 (Kd.R_lt (rel HO_3.out))) (below_size bel)); replace HO_3 := aS (Kd.R_elder' (rel HO_3.out) (ebs ho0) hb); replace HB := bstep hb; (try clear hb); (try clear hk); (try clear hi); (try clear ho0)))
    go_ret
    exact ⟨_, rf3, by (with_reducible repeat (first | apply Kd.R_alloc | apply Kd.R_drewN | apply Kd.R_drew)); exact Kd.R_mono HO642.out (fun _ hk => trivial), bel⟩

/-! ### shardlogref12_Build: function 15 -/
mutual
def shardlogref12_Build.l0 : Nat → List (S42) → List (List (S42)) → List Int → List Int → Int → Option (List Int)
 | 0, _, _, _, _, _ => none
 | k + 1, x0, x5, x6, x7, x8 => if x8 < (x5.length : Int) then (if 0 ≤ x8 then (if 0 < ((rd_L7 x5 x8).length : Int) then ((shardlogref08_Put.f k ((rd_T42 (rd_L7 x5 x8) 0).f0) ((rd_T42 (rd_L7 x5 x8) 0).f1) ((rd_T42 (rd_L7 x5 x8) 0).f2) (⟨#[]⟩ : ByteArray) false).bind fun t652 => (if x7.length + t652.length < 140737488355328 then ((some (x7 ++ t652 : List Int)).bind fun y655 => ((shardlogref01_Num.f (x6.length : Int)).bind fun t658 => (if y655.length + t658.length < 140737488355328 then ((shardlogref10_Put.f k (rd_L7 x5 x8)).bind fun t665 => (if x6.length + t665.length < 140737488355328 then (shardlogref12_Build.l0 k x0 x5 (x6 ++ t665) (y655 ++ t658) (wrap64 (x8 + 1))) else (none))) else (none)))) else (none))) else (none)) else (none)) else (shardlogref12_Build.l1 k x0 x6 x7 ([] : List ByteArray) 0)
def shardlogref12_Build.l1 : Nat → List (S42) → List Int → List Int → List ByteArray → Int → Option (List Int)
 | 0, _, _, _, _, _ => none
 | k + 1, x0, x6, x7, x10, x11 => if x11 < (x0.length : Int) then (if 0 ≤ x11 then ((shardlogref12_Key.f ((rd_T42 x0 x11).f0) ((rd_T42 x0 x11).f1)).bind fun t673 => (if x10.length < 8796093022208 then (shardlogref12_Build.l1 k x0 x6 x7 (x10 ++ [t673]) (wrap64 (x11 + 1))) else (none))) else (none)) else ((shardlogref11_Make.f k x10).bind fun t677 => ((shardlogref01_Text.f (strOfNums t677)).bind fun t680 => (if x7.length + t680.length < 140737488355328 then ((shardlogref06_Put.f k (x7 ++ t680)).bind fun t686 => (if x6.length + t686.length < 140737488355328 then ((some (x6 ++ t686 : List Int)).bind fun y689 => ((shardlogref01_Num.f (t686.length : Int)).bind fun t692 => (if y689.length + t692.length < 140737488355328 then (some (y689 ++ t692)) else (none)))) else (none))) else (none))))
end
def shardlogref12_Build.f (k : Nat) (l0 : List (S42)) (a1 : Int) : Option (List Int) := (shardlogref10_Cut.f k l0 a1).bind fun t643 => ((shardlogref01_Num.f (t643.length : Int)).bind fun t646 => (shardlogref12_Build.l0 k l0 t643 ([] : List Int) t646 0))
theorem shardlogref12_Build.mono_l : ∀ k, (∀ y0 y1 y2 y3 y4, LeO (shardlogref12_Build.l0 k y0 y1 y2 y3 y4) (shardlogref12_Build.l0 (k + 1) y0 y1 y2 y3 y4)) ∧ (∀ y0 y1 y2 y3 y4, LeO (shardlogref12_Build.l1 k y0 y1 y2 y3 y4) (shardlogref12_Build.l1 (k + 1) y0 y1 y2 y3 y4))
 | 0 => ⟨fun _ _ _ _ _ r h => by simp [shardlogref12_Build.l0] at h, fun _ _ _ _ _ r h => by simp [shardlogref12_Build.l1] at h⟩
 | k + 1 => by
  obtain ⟨ih0, ih1⟩ := shardlogref12_Build.mono_l k; refine ⟨?_, ?_⟩
  ·
   intro y0 y1 y2 y3 y4
   unfold shardlogref12_Build.l0
   repeat' first
   | (with_reducible exact ih0 _ _ _ _ _)
   | (with_reducible exact ih1 _ _ _ _ _)
   | (with_reducible exact shardlogref06_Put.mono _ _)
   | (with_reducible exact shardlogref08_Put.mono _ _ _ _ _ _)
   | (with_reducible exact shardlogref10_Cut.mono _ _ _)
   | (with_reducible exact shardlogref10_Put.mono _ _)
   | (with_reducible exact shardlogref11_Make.mono _ _)
   | (with_reducible exact LeO.refl _)
   | (with_reducible exact LeO.none _)
   | (with_reducible refine LeO.ite ?_ ?_)
   | (with_reducible refine LeO.bind ?_ (fun _ => ?_))
   | exact LeO.none _
   | refine LeO.ite ?_ ?_
   | refine LeO.bind ?_ (fun _ => ?_)
  ·
   intro y0 y1 y2 y3 y4
   unfold shardlogref12_Build.l1
   repeat' first
   | (with_reducible exact ih0 _ _ _ _ _)
   | (with_reducible exact ih1 _ _ _ _ _)
   | (with_reducible exact shardlogref06_Put.mono _ _)
   | (with_reducible exact shardlogref08_Put.mono _ _ _ _ _ _)
   | (with_reducible exact shardlogref10_Cut.mono _ _ _)
   | (with_reducible exact shardlogref10_Put.mono _ _)
   | (with_reducible exact shardlogref11_Make.mono _ _)
   | (with_reducible exact LeO.refl _)
   | (with_reducible exact LeO.none _)
   | (with_reducible refine LeO.ite ?_ ?_)
   | (with_reducible refine LeO.bind ?_ (fun _ => ?_))
   | exact LeO.none _
   | refine LeO.ite ?_ ?_
   | refine LeO.bind ?_ (fun _ => ?_)
theorem shardlogref12_Build.mono : ∀ a0 a1 k, LeO (shardlogref12_Build.f k a0 a1) (shardlogref12_Build.f (k + 1) a0 a1) := by
 intro a0 a1 k
 obtain ⟨ih0, ih1⟩ := shardlogref12_Build.mono_l k
 unfold shardlogref12_Build.f
 repeat' first
   | (with_reducible exact ih0 _ _ _ _ _)
   | (with_reducible exact ih1 _ _ _ _ _)
   | (with_reducible exact shardlogref06_Put.mono _ _)
   | (with_reducible exact shardlogref08_Put.mono _ _ _ _ _ _)
   | (with_reducible exact shardlogref10_Cut.mono _ _ _)
   | (with_reducible exact shardlogref10_Put.mono _ _)
   | (with_reducible exact shardlogref11_Make.mono _ _)
   | (with_reducible exact LeO.refl _)
   | (with_reducible exact LeO.none _)
   | (with_reducible refine LeO.ite ?_ ?_)
   | (with_reducible refine LeO.bind ?_ (fun _ => ?_))
   | exact LeO.none _
   | refine LeO.ite ?_ ?_
   | refine LeO.bind ?_ (fun _ => ?_)
def shardlogref12_Build.T15 : Bool × List (List Nat × List Nat) := (true, [([], []), ([], []), ([], []), ([1, 2], [1, 2]), ([3], [3]), ([4], [4]), ([], []), ([], []), ([6, 7], [6, 7]), ([8], [8]), ([9], [9]), ([5, 10], [5, 10]), ([11], [11]), ([0, 12, 11], [0, 12]), ([13, 13, 0, 1, 2, 3, 4, 5, 6, 7, 8, 9, 10, 11, 12, 13], [0, 13])])
def shardlogref12_Build.B15 : List Nat := [0, 0, 0, 6, 14, 30, 0, 0, 192, 448, 960, 2046, 4094, 8191, 16383]
theorem shardlogref12_Build.tab15 : rtab .any (opsOf Try.f15 15) = shardlogref12_Build.T15 := by kernel_rfl
theorem shardlogref12_Build.bits15 : waitsOk shardlogref12_Build.T15.2 shardlogref12_Build.B15 = true := by kernel_rfl
set_option maxHeartbeats 8000000 in
set_option maxRecDepth 100000 in
theorem shardlogref12_Build.calls (k : Nat) (A0 : Option Addr) (c0 : Nat) (l0 : List (S42)) (a1 : Int) (r : List Int) (w : World) (hr0 : Kd.C k42 w A0 l0.length l0) (hc0 : l0.length ≤ c0) (h : shardlogref12_Build.f k l0 a1 = some r) :
  Calls Try.prog 15 #[.slice A0 l0.length c0, .int .i64 a1] w fun e w' => ∃ v0_ : Value, e = .returned (v0_) ∧ Kd.R (Kd.int .u8) 5 w' w.heap.size (fun _ => True) v0_ r ∧ Below w.heap.size w w' := by
 have hu42 := Try.underlying42; have HR0 := aS hr0; have HC0 := aS hc0; clear hr0 hc0; have HB := aS (Below.refl w.heap.size w); have H : ((shardlogref10_Cut.f k l0 a1).bind fun t643 => ((shardlogref01_Num.f (t643.length : Int)).bind fun t646 => (shardlogref12_Build.l0 k l0 t643 ([] : List Int) t646 0))) = some r := h; clear h; replace H := obm H; obtain ⟨t643, A30, H⟩ := H; replace H : ((shardlogref01_Num.f (t643.length : Int)).bind fun t646 => (shardlogref12_Build.l0 k l0 t643 ([] : List Int) t646 0)) = some r := H; have A3 := aS A30; clear A30; replace H := obm H; obtain ⟨t646, A40, H⟩ := H; replace H : (shardlogref12_Build.l0 k l0 t643 ([] : List Int) t646 0) = some r := H; have A4 := aS A40; clear A40
 have H' := aS H
 clear H
 go_enter Try.func15, Try.ntmps15
 go_wp2_with (first | ((with_reducible refine gate_callee (f := 20) rfl ?_); refine goesL_ (some 14) rfl rfl Try.func20 (by kernel_rfl) rfl #[.slice A0 l0.length c0, .int .i64 a1] rfl agn ?_; (with_reducible refine (shardlogref10_Cut.calls k _ _ l0 a1 t643 _ ?side1 ?side2 A3.out).mono ?_); (case side1 => exact cel HR0.out); (case side2 => exact HC0.out); rintro e w5 ⟨v644, rfl, ho0, hb⟩; refine ⟨_, rfl, ?_⟩; have HO645 := aS (Kd.S_lower ho0 (below_size bel)); replace HB := bstep hb; (try clear hb); (try clear hk); (try clear hi); (try clear ho0); obtain ⟨Ao6, co6, eo6⟩ := Kd.S_slice HO645.out; subst eo6) | ((with_reducible refine gate_callee (f := 33) rfl ?_); refine goesL_ (some 17) rfl rfl Try.func33 (by kernel_rfl) rfl #[.int .i64 (t643.length : Int)] rfl agn ?_; (with_reducible refine (shardlogref01_Num.calls (t643.length : Int) t646 _ A4.out).mono ?_); rintro e w7 ⟨v647, rfl, ho0, hb⟩; refine ⟨_, rfl, ?_⟩; replace HO645 := aS (Kd.S_below (by (with_reducible repeat (first | apply Kd.S_alloc | apply Kd.S_drewN | apply Kd.S_drew)); exact HO645.out) hb); have HO648 := aS (Kd.R_lower ho0 (below_size bel)); replace HB := bstep hb; (try clear hb); (try clear hk); (try clear hi); (try clear ho0)))
 go_loopg [6, 7, 8] k (fun kq v6 v7 v8 w' => ∃ (x6_1 : List Int) (x7_1 : List Int) (x8_1 : Int), v8 = .int .i64 x8_1 ∧ Aside0 (shardlogref12_Build.l0 kq l0 t643 x6_1 x7_1 x8_1 = some r) ∧ Aside0 (kq ≤ k) ∧ Aside0 (Kd.S (Kd.slice 42 k42) 22 w' w.heap.size (fun _ => True) (.slice Ao6 t643.length co6) t643) ∧ Aside0 (Kd.R (Kd.int .u8) 5 w' w.heap.size (fun k_ => some k_ ≠ (v7 : Value).ownBlock) v6 x6_1) ∧ Aside0 (Kd.R (Kd.int .u8) 5 w' w.heap.size (fun k_ => some k_ ≠ (v6 : Value).ownBlock) v7 x7_1) ∧ Aside0 (Below w.heap.size w w'))
 case atStart => exact ⟨(([] : List Int)), (t646), (0), srf, H', ⟨Nat.le_refl _⟩, ⟨by (with_reducible repeat (first | apply Kd.S_alloc | apply Kd.S_drewN | apply Kd.S_drew)); exact HO645.out⟩, ⟨by first | exact Kd.R_nil _ _ _ _ _ | exact Kd.N_nil _ _ _ _ _ | exact Kd.V_nil _ _ _ _ _ | exact Kd.Q_nil _ _ _ _ _ | exact Kd.S_nil _ _ _ _ _⟩, ⟨by (with_reducible repeat (first | apply Kd.R_alloc | apply Kd.R_drewN | apply Kd.R_drew)); exact Kd.R_mono HO648.out (fun _ hk => (by simp [Value.ownBlock]))⟩, ⟨bel⟩⟩
 case round =>
  clear H'; obtain ⟨x6_1, x7_1, x8_1, rfl, HA, HK1, HO_5, HO_6, HO_7, HB⟩ := hrel
  cases gk with
  | zero => exact absurd HA.out (by simp [shardlogref12_Build.l0])
  | succ k1 =>
   have H := HA.out; clear HA
   simp only [shardlogref12_Build.l0] at H
   by_cases c8 : x8_1 < (t643.length : Int)
   ·
    rw [if_pos c8] at H; have c8b0 : decide (x8_1 < (t643.length : Int)) = true := decide_eq_true c8; clear c8
    by_cases c9 : 0 ≤ x8_1
    ·
     rw [if_pos c9] at H; have c9b0 : decide (0 ≤ x8_1) = true := decide_eq_true c9; clear c9
     by_cases c10 : 0 < ((rd_L7 t643 x8_1).length : Int)
     ·
      rw [if_pos c10] at H; have c10b0 : decide (0 < ((rd_L7 t643 x8_1).length : Int)) = true := decide_eq_true c10; have c10b1 : decide (0 < (rd_L7 t643 x8_1).length) = true := decide_eq_true (by omega); clear c10; replace H := obm H; obtain ⟨t652, A110, H⟩ := H; replace H : (if x7_1.length + t652.length < 140737488355328 then ((some (x7_1 ++ t652 : List Int)).bind fun y655 => ((shardlogref01_Num.f (x6_1.length : Int)).bind fun t658 => (if y655.length + t658.length < 140737488355328 then ((shardlogref10_Put.f k1 (rd_L7 t643 x8_1)).bind fun t665 => (if x6_1.length + t665.length < 140737488355328 then (shardlogref12_Build.l0 k1 l0 t643 (x6_1 ++ t665) (y655 ++ t658) (wrap64 (x8_1 + 1))) else (none))) else (none)))) else (none)) = some r := H; have A11 := aS A110; clear A110
      by_cases c12 : x7_1.length + t652.length < 140737488355328
      ·
       rw [if_pos c12] at H; have LMc12 := aS c12; clear c12
       obtain ⟨y655, hy655⟩ : ∃ y_ : List Int, y_ = (x7_1 ++ t652) := ⟨_, rfl⟩
       replace H : ((shardlogref01_Num.f (x6_1.length : Int)).bind fun t658 => (if y655.length + t658.length < 140737488355328 then ((shardlogref10_Put.f k1 (rd_L7 t643 x8_1)).bind fun t665 => (if x6_1.length + t665.length < 140737488355328 then (shardlogref12_Build.l0 k1 l0 t643 (x6_1 ++ t665) (y655 ++ t658) (wrap64 (x8_1 + 1))) else (none))) else (none))) = some r := hyr hy655 H; have Ny655 := aS hy655; clear hy655; replace H := obm H; obtain ⟨t658, A130, H⟩ := H; replace H : (if y655.length + t658.length < 140737488355328 then ((shardlogref10_Put.f k1 (rd_L7 t643 x8_1)).bind fun t665 => (if x6_1.length + t665.length < 140737488355328 then (shardlogref12_Build.l0 k1 l0 t643 (x6_1 ++ t665) (y655 ++ t658) (wrap64 (x8_1 + 1))) else (none))) else (none)) = some r := H; have A13 := aS A130; clear A130
       by_cases c14 : y655.length + t658.length < 140737488355328
       ·
        rw [if_pos c14] at H; have LMc14 := aS c14; clear c14
        obtain ⟨y661, hy661⟩ : ∃ y_ : List Int, y_ = (y655 ++ t658) := ⟨_, rfl⟩
        replace H : ((shardlogref10_Put.f k1 (rd_L7 t643 x8_1)).bind fun t665 => (if x6_1.length + t665.length < 140737488355328 then (shardlogref12_Build.l0 k1 l0 t643 (x6_1 ++ t665) y661 (wrap64 (x8_1 + 1))) else (none))) = some r := hyr hy661 H; have Ny661 := aS hy661; clear hy661; replace H := obm H; obtain ⟨t665, A150, H⟩ := H; replace H : (if x6_1.length + t665.length < 140737488355328 then (shardlogref12_Build.l0 k1 l0 t643 (x6_1 ++ t665) y661 (wrap64 (x8_1 + 1))) else (none)) = some r := H; have A15 := aS A150; clear A150
        by_cases c16 : x6_1.length + t665.length < 140737488355328
        ·
         rw [if_pos c16] at H; have LMc16 := aS c16; clear c16
         obtain ⟨y668, hy668⟩ : ∃ y_ : List Int, y_ = (x6_1 ++ t665) := ⟨_, rfl⟩
         replace H : (shardlogref12_Build.l0 k1 l0 t643 y668 y661 (wrap64 (x8_1 + 1))) = some r := hyr hy668 H; have Ny668 := aS hy668; clear hy668
         have H' := aS H
         clear H; have p649 : 0 ≤ (x8_1 : Int) := oda; have q649 : x8_1 < (t643.length : Int) := oda; obtain ⟨ad649, A649_0, c649_0, e649, hx649_0, hl649_0, hi649_0⟩ := at_L7 (Kd.S_reads' HO_5.out).2.2 x8_1 p649 q649; cases e649; obtain ⟨ce649, hce649, hMe649, hcc649⟩ := Kd.S_get HO_5.out [] x8_1 p649 (by first | exact q649 | exact oda | (have e_ := (Kd.S_reads' HO_5.out).1; omega)); obtain ⟨ve649_0, rfl, ge649_0⟩ := hMe649; have hv649_0 := hcc649 0 _ rfl; rw [Nat.add_zero, show ((Kd.slice 42 k42)).sz = 1 from rfl, Nat.mul_one] at hv649_0; replace hv649_0 := Option.some.inj (hv649_0.symm.trans hx649_0); rw [hv649_0] at ge649_0; have HL649_0 := aS (show Kd.R k42 42 _ _ _ _ (rd_L7 t643 x8_1) from ge649_0); clear hv649_0 ge649_0; clear hcc649 hce649; have HR649_0 := aS hi649_0; have HC649_0 := aS hl649_0; clear hi649_0 hl649_0; replace p649 := eq_true p649; replace q649 := eq_true q649; have p650 : 0 ≤ (0 : Int) := (by omega); have q650 : 0 < ((rd_L7 t643 x8_1).length : Int) := oda; obtain ⟨ad650, e650, hx650_0, hx650_1, hx650_2, hx650_3, hx650_4⟩ := at_T42 (by repeat (first | (with_reducible exact HR649_0.out) | (with_reducible refine Kd.C_alloc ?_ _) | (with_reducible refine Kd.C_drewN ?_ _) | (with_reducible refine Kd.C_drew ?_) | exact HR649_0.out)) 0 p650 q650; cases e650; have qi650 : (0 < (rd_L7 t643 x8_1).length) = True := eq_true (by omega)
         (try rw [show ((0 : Int)).toNat = 0 from rfl] at hx650_0)
         (try rw [show 0 * 5 = 0 from rfl] at hx650_0)
         (try rw [Addr.add_zero'] at hx650_0)
         (try rw [show ((0 : Int)).toNat = 0 from rfl] at hx650_1)
         (try rw [show 0 * 5 = 0 from rfl] at hx650_1)
         (try rw [Addr.add_zero'] at hx650_1)
         (try rw [show ((0 : Int)).toNat = 0 from rfl] at hx650_2)
         (try rw [show 0 * 5 = 0 from rfl] at hx650_2)
         (try rw [Addr.add_zero'] at hx650_2)
         (try rw [show ((0 : Int)).toNat = 0 from rfl] at hx650_3)
         (try rw [show 0 * 5 = 0 from rfl] at hx650_3)
         (try rw [Addr.add_zero'] at hx650_3)
         (try rw [show ((0 : Int)).toNat = 0 from rfl] at hx650_4)
         (try rw [show 0 * 5 = 0 from rfl] at hx650_4)
         (try rw [Addr.add_zero'] at hx650_4)
         replace p650 := eq_true p650; replace q650 := eq_true q650
         go_wp2_with (first | ((with_reducible refine gate_dst (N := 9) rfl ?_); refine box_event ?hg (N := 9) ?hd (cs := #[.string (⟨#[]⟩ : ByteArray), .string (⟨#[]⟩ : ByteArray), .int .i64 0, .string (⟨#[]⟩ : ByteArray), .bool false]) (t := 42) ?hr ?_; (case hd => rfl); (case hg => rfl); (case hr => first | (go_simp; done) | (go_simp; rfl)); intro gb651 hg w17 hbox hb; replace HO_5 := aS (Kd.S_below (Kd.S_elderB (by (with_reducible repeat (first | apply Kd.S_alloc | apply Kd.S_drewN | apply Kd.S_drew)); exact HO_5.out) gb651 (Nat.le_of_eq hg.symm)) hb); replace HO_6 := aS (Kd.R_below (rel HO_6.out) hb); replace HO_7 := aS (Kd.R_below (rel HO_7.out) hb); replace HL649_0 := aS (Kd.R_below (Kd.R_elderB (rel HL649_0.out) gb651 (Nat.le_of_eq hg.symm)) hb); replace HR649_0 := aS (Kd.C_below (by repeat (first | (with_reducible exact HR649_0.out) | (with_reducible refine Kd.C_alloc ?_ _) | (with_reducible refine Kd.C_drewN ?_ _) | (with_reducible refine Kd.C_drew ?_) | exact HR649_0.out)) hb); have BK651 := aS (hbox); have GW651 := bsize hg; have GE651 := bsize hg; replace HB := bstep hb; clear hb hbox hg; have hcz18 := cK5 BK651) | ((with_reducible refine gate_callee (f := 34) rfl ?_); refine goesL_ (some 38) rfl rfl Try.func34 (by kernel_rfl) rfl #[.agg #[.string ((rd_T42 (rd_L7 t643 x8_1) 0).f0), .string ((rd_T42 (rd_L7 t643 x8_1) 0).f1), .int .i64 ((rd_T42 (rd_L7 t643 x8_1) 0).f2), .string (⟨#[]⟩ : ByteArray), .bool false]] rfl agn ?_; (with_reducible refine (shardlogref08_Put.calls k1 ((rd_T42 (rd_L7 t643 x8_1) 0).f0) ((rd_T42 (rd_L7 t643 x8_1) 0).f1) ((rd_T42 (rd_L7 t643 x8_1) 0).f2) (⟨#[]⟩ : ByteArray) false t652 _ A11.out).mono ?_); rintro e w19 ⟨v653, rfl, ho0, hb⟩; refine ⟨_, rfl, ?_⟩; replace HO_5 := aS (Kd.S_below (by (with_reducible repeat (first | apply Kd.S_alloc | apply Kd.S_drewN | apply Kd.S_drew)); exact (Kd.S_mono (Kd.S_far (p := ⟨gb651, 4, none⟩) (Kd.S_far (p := ⟨gb651, 3, none⟩) (Kd.S_far (p := ⟨gb651, 2, none⟩) (Kd.S_far (p := ⟨gb651, 1, none⟩) (Kd.S_far (p := ⟨gb651, 0, none⟩) (Kd.S_mono HO_5.out (fun k_ hk => (⟨hk, hk.2⟩ : _ ∧ k_ ≠ gb651))) (fun _ hk => hk.2) (.string ((rd_T42 (rd_L7 t643 x8_1) 0).f0))) (fun _ hk => hk.2) (.string ((rd_T42 (rd_L7 t643 x8_1) 0).f1))) (fun _ hk => hk.2) (.int .i64 ((rd_T42 (rd_L7 t643 x8_1) 0).f2))) (fun _ hk => hk.2) (.string ((rd_T42 (rd_L7 t643 x8_1) 0).f3))) (fun _ hk => hk.2) (.bool ((rd_T42 (rd_L7 t643 x8_1) 0).f4))) (fun _ h_ => h_.1))) hb); have HO654 := aS (Kd.R_lower (Kd.R_new' (Kd.R_new' ho0 (Kd.R_lt (by (with_reducible repeat (first | apply Kd.R_alloc | apply Kd.R_drewN | apply Kd.R_drew)); exact (Kd.R_mono (Kd.R_far (p := ⟨gb651, 4, none⟩) (Kd.R_far (p := ⟨gb651, 3, none⟩) (Kd.R_far (p := ⟨gb651, 2, none⟩) (Kd.R_far (p := ⟨gb651, 1, none⟩) (Kd.R_far (p := ⟨gb651, 0, none⟩) (Kd.R_types HO_6.out BK651.out (by decide)) (fun _ hk => hk.2) (.string ((rd_T42 (rd_L7 t643 x8_1) 0).f0))) (fun _ hk => hk.2) (.string ((rd_T42 (rd_L7 t643 x8_1) 0).f1))) (fun _ hk => hk.2) (.int .i64 ((rd_T42 (rd_L7 t643 x8_1) 0).f2))) (fun _ hk => hk.2) (.string ((rd_T42 (rd_L7 t643 x8_1) 0).f3))) (fun _ hk => hk.2) (.bool ((rd_T42 (rd_L7 t643 x8_1) 0).f4))) (fun _ h_ => h_.1))))) (Kd.R_lt (by (with_reducible repeat (first | apply Kd.R_alloc | apply Kd.R_drewN | apply Kd.R_drew)); exact (Kd.R_mono (Kd.R_far (p := ⟨gb651, 4, none⟩) (Kd.R_far (p := ⟨gb651, 3, none⟩) (Kd.R_far (p := ⟨gb651, 2, none⟩) (Kd.R_far (p := ⟨gb651, 1, none⟩) (Kd.R_far (p := ⟨gb651, 0, none⟩) (Kd.R_types HO_7.out BK651.out (by decide)) (fun _ hk => hk.2) (.string ((rd_T42 (rd_L7 t643 x8_1) 0).f0))) (fun _ hk => hk.2) (.string ((rd_T42 (rd_L7 t643 x8_1) 0).f1))) (fun _ hk => hk.2) (.int .i64 ((rd_T42 (rd_L7 t643 x8_1) 0).f2))) (fun _ hk => hk.2) (.string ((rd_T42 (rd_L7 t643 x8_1) 0).f3))) (fun _ hk => hk.2) (.bool ((rd_T42 (rd_L7 t643 x8_1) 0).f4))) (fun _ h_ => h_.1))))) (below_size bel)); replace HO_6 := aS (Kd.R_elder' (by (with_reducible repeat (first | apply Kd.R_alloc | apply Kd.R_drewN | apply Kd.R_drew)); exact (Kd.R_mono (Kd.R_far (p := ⟨gb651, 4, none⟩) (Kd.R_far (p := ⟨gb651, 3, none⟩) (Kd.R_far (p := ⟨gb651, 2, none⟩) (Kd.R_far (p := ⟨gb651, 1, none⟩) (Kd.R_far (p := ⟨gb651, 0, none⟩) (Kd.R_types HO_6.out BK651.out (by decide)) (fun _ hk => hk.2) (.string ((rd_T42 (rd_L7 t643 x8_1) 0).f0))) (fun _ hk => hk.2) (.string ((rd_T42 (rd_L7 t643 x8_1) 0).f1))) (fun _ hk => hk.2) (.int .i64 ((rd_T42 (rd_L7 t643 x8_1) 0).f2))) (fun _ hk => hk.2) (.string ((rd_T42 (rd_L7 t643 x8_1) 0).f3))) (fun _ hk => hk.2) (.bool ((rd_T42 (rd_L7 t643 x8_1) 0).f4))) (fun _ h_ => h_.1))) (ebs ho0) hb); replace HO_7 := aS (Kd.R_elder' (by (with_reducible repeat (first | apply Kd.R_alloc | apply Kd.R_drewN | apply Kd.R_drew)); exact (Kd.R_mono (Kd.R_far (p := ⟨gb651, 4, none⟩) (Kd.R_far (p := ⟨gb651, 3, none⟩) (Kd.R_far (p := ⟨gb651, 2, none⟩) (Kd.R_far (p := ⟨gb651, 1, none⟩) (Kd.R_far (p := ⟨gb651, 0, none⟩) (Kd.R_types HO_7.out BK651.out (by decide)) (fun _ hk => hk.2) (.string ((rd_T42 (rd_L7 t643 x8_1) 0).f0))) (fun _ hk => hk.2) (.string ((rd_T42 (rd_L7 t643 x8_1) 0).f1))) (fun _ hk => hk.2) (.int .i64 ((rd_T42 (rd_L7 t643 x8_1) 0).f2))) (fun _ hk => hk.2) (.string ((rd_T42 (rd_L7 t643 x8_1) 0).f3))) (fun _ hk => hk.2) (.bool ((rd_T42 (rd_L7 t643 x8_1) 0).f4))) (fun _ h_ => h_.1))) (ebs ho0) hb); replace HR649_0 := aS (Kd.C_below ((Kd.R_reads' (by (with_reducible repeat (first | apply Kd.R_alloc | apply Kd.R_drewN | apply Kd.R_drew)); exact (Kd.R_mono (Kd.R_far (p := ⟨gb651, 4, none⟩) (Kd.R_far (p := ⟨gb651, 3, none⟩) (Kd.R_far (p := ⟨gb651, 2, none⟩) (Kd.R_far (p := ⟨gb651, 1, none⟩) (Kd.R_far (p := ⟨gb651, 0, none⟩) (Kd.R_mono HL649_0.out (fun k_ hk => (⟨hk, hk.2⟩ : _ ∧ k_ ≠ gb651))) (fun _ hk => hk.2) (.string ((rd_T42 (rd_L7 t643 x8_1) 0).f0))) (fun _ hk => hk.2) (.string ((rd_T42 (rd_L7 t643 x8_1) 0).f1))) (fun _ hk => hk.2) (.int .i64 ((rd_T42 (rd_L7 t643 x8_1) 0).f2))) (fun _ hk => hk.2) (.string ((rd_T42 (rd_L7 t643 x8_1) 0).f3))) (fun _ hk => hk.2) (.bool ((rd_T42 (rd_L7 t643 x8_1) 0).f4))) (fun _ h_ => h_.1)))).2.2) hb); replace HL649_0 := aS (Kd.R_below (by (with_reducible repeat (first | apply Kd.R_alloc | apply Kd.R_drewN | apply Kd.R_drew)); exact (Kd.R_mono (Kd.R_far (p := ⟨gb651, 4, none⟩) (Kd.R_far (p := ⟨gb651, 3, none⟩) (Kd.R_far (p := ⟨gb651, 2, none⟩) (Kd.R_far (p := ⟨gb651, 1, none⟩) (Kd.R_far (p := ⟨gb651, 0, none⟩) (Kd.R_mono HL649_0.out (fun k_ hk => (⟨hk, hk.2⟩ : _ ∧ k_ ≠ gb651))) (fun _ hk => hk.2) (.string ((rd_T42 (rd_L7 t643 x8_1) 0).f0))) (fun _ hk => hk.2) (.string ((rd_T42 (rd_L7 t643 x8_1) 0).f1))) (fun _ hk => hk.2) (.int .i64 ((rd_T42 (rd_L7 t643 x8_1) 0).f2))) (fun _ hk => hk.2) (.string ((rd_T42 (rd_L7 t643 x8_1) 0).f3))) (fun _ hk => hk.2) (.bool ((rd_T42 (rd_L7 t643 x8_1) 0).f4))) (fun _ h_ => h_.1))) hb); replace BK651 := aS (blk_below (g := gb651) (o := .cells #[.string ((rd_T42 (rd_L7 t643 x8_1) 0).f0), .string ((rd_T42 (rd_L7 t643 x8_1) 0).f1), .int .i64 ((rd_T42 (rd_L7 t643 x8_1) 0).f2), .string ((rd_T42 (rd_L7 t643 x8_1) 0).f3), .bool ((rd_T42 (rd_L7 t643 x8_1) 0).f4)] 42 (0, 0)) (by (with_reducible repeat (first | refine blk_drewN ?_ _ | refine blk_drew ?_ | refine blk_alloc ?_ _)); refine blk_put (cs := #[.string ((rd_T42 (rd_L7 t643 x8_1) 0).f0), .string ((rd_T42 (rd_L7 t643 x8_1) 0).f1), .int .i64 ((rd_T42 (rd_L7 t643 x8_1) 0).f2), .string ((rd_T42 (rd_L7 t643 x8_1) 0).f3), .bool false]) ?_ 4 _ rfl; (with_reducible repeat (first | refine blk_drewN ?_ _ | refine blk_drew ?_ | refine blk_alloc ?_ _)); refine blk_put (cs := #[.string ((rd_T42 (rd_L7 t643 x8_1) 0).f0), .string ((rd_T42 (rd_L7 t643 x8_1) 0).f1), .int .i64 ((rd_T42 (rd_L7 t643 x8_1) 0).f2), .string (⟨#[]⟩ : ByteArray), .bool false]) ?_ 3 _ rfl; (with_reducible repeat (first | refine blk_drewN ?_ _ | refine blk_drew ?_ | refine blk_alloc ?_ _)); refine blk_put (cs := #[.string ((rd_T42 (rd_L7 t643 x8_1) 0).f0), .string ((rd_T42 (rd_L7 t643 x8_1) 0).f1), .int .i64 0, .string (⟨#[]⟩ : ByteArray), .bool false]) ?_ 2 _ rfl; (with_reducible repeat (first | refine blk_drewN ?_ _ | refine blk_drew ?_ | refine blk_alloc ?_ _)); refine blk_put (cs := #[.string ((rd_T42 (rd_L7 t643 x8_1) 0).f0), .string (⟨#[]⟩ : ByteArray), .int .i64 0, .string (⟨#[]⟩ : ByteArray), .bool false]) ?_ 1 _ rfl; (with_reducible repeat (first | refine blk_drewN ?_ _ | refine blk_drew ?_ | refine blk_alloc ?_ _)); refine blk_put (cs := #[.string (⟨#[]⟩ : ByteArray), .string (⟨#[]⟩ : ByteArray), .int .i64 0, .string (⟨#[]⟩ : ByteArray), .bool false]) ?_ 0 _ rfl; (with_reducible repeat (first | refine blk_drewN ?_ _ | refine blk_drew ?_ | refine blk_alloc ?_ _)); exact BK651.out) hb); replace HB := bstep hb; (try clear hb); (try clear hk); (try clear hi); (try clear ho0); obtain ⟨Ao21, co21, eo21⟩ := Kd.R_slice HO654.out; subst eo21) | ((with_reducible refine gate_builtin (b := .append) (xs := #[.tmp 30, .tmp 38]) rfl ?_); at_builtin; refine Kd.R_append_rows (Kd.int .u8) (w0 := w) w.heap.size rfl (.tmp 30) (.tmp 38) 26 5 (.int .u8 0) 1 rfl Try.underlying26 info5 rfl (by decide) (by omega) u7 x7_1 t652 _ _ _ (fun k_ => some k_ ≠ (u6 : Value).ownBlock ∧ some k_ ≠ (.slice Ao21 t652.length co21 : Value).ownBlock) (fun _ => False) rfl rfl ?aO ?aR (fun _ _ h => h) (fun _ h => h.elim) ?aF ?aB ?aS ?aL ?_; (case aR => exact cel ((Kd.R_reads' HO654.out).2.2)); (case aB => exact bel); (case aF => exact (fun k_ hk => ⟨Kd.fresh' (Kd.R_lt (rel HO_6.out)) k_ hk, Kd.fresh' (Kd.R_lt (rel HO654.out)) k_ hk⟩)); (case aO => exact (rel HO_7.out)); (case aS => exact (below_size bel)); (case aL => have := LMc12.out; omega); intro v656 w20 ho hb hg hat; rw [← Ny655.out] at ho; have n0_ := aS (Kd.S_over' (by (with_reducible repeat (first | apply Kd.S_alloc | apply Kd.S_drewN | apply Kd.S_drew)); exact HO_5.out) (Kd.R_typed (rel HO_7.out)) (by decide) hg); have n1_ := aS (Kd.R_after (ok := (fun k_ => some k_ ≠ (.slice Ao21 t652.length co21 : Value).ownBlock)) (by (with_reducible repeat (first | apply Kd.R_alloc | apply Kd.R_drewN | apply Kd.R_drew)); exact Kd.R_mono HO_6.out (fun _ hk => ⟨hk.2, hk.1⟩)) hg hat); have n2_ := aS (Kd.R_over' (rel HL649_0.out) (Kd.R_typed (rel HO_7.out)) (by decide) hg); have n3_ := aS (blk_grown (g := gb651) (o := .cells #[.string ((rd_T42 (rd_L7 t643 x8_1) 0).f0), .string ((rd_T42 (rd_L7 t643 x8_1) 0).f1), .int .i64 ((rd_T42 (rd_L7 t643 x8_1) 0).f2), .string ((rd_T42 (rd_L7 t643 x8_1) 0).f3), .bool ((rd_T42 (rd_L7 t643 x8_1) 0).f4)] 42 (0, 0)) (bkl BK651.out) hg (Kd.R_ne HO_7.out BK651.out (by decide))); have n4_ := aS (Kd.R_after (ok := (fun k_ => some k_ ≠ (u6 : Value).ownBlock)) (by (with_reducible repeat (first | apply Kd.R_alloc | apply Kd.R_drewN | apply Kd.R_drew)); exact Kd.R_mono HO654.out (fun _ hk => ⟨hk.1.2, hk.2⟩)) hg hat); have n5_ := aS (hb); have n6_ := aS (ho); clear HO_5; clear HO_6; clear HL649_0; clear BK651; clear HO654; clear HB; clear HO_7; have HO_5 := n0_; have HO_6 := n1_; have HL649_0 := n2_; have BK651 := n3_; have HO654 := n4_; have HB := n5_; have HO657 := n6_; clear n0_ n1_ n2_ n3_ n4_ n5_ n6_; clear ho hb hg hat; obtain ⟨Ao22, co22, eo22⟩ := Kd.R_slice HO_6.out; subst eo22) | ((with_reducible refine gate_callee (f := 33) rfl ?_); refine goesL_ (some 43) rfl rfl Try.func33 (by kernel_rfl) rfl #[.int .i64 (x6_1.length : Int)] rfl agn ?_; (with_reducible refine (shardlogref01_Num.calls (x6_1.length : Int) t658 _ A13.out).mono ?_); rintro e w23 ⟨v659, rfl, ho0, hb⟩; refine ⟨_, rfl, ?_⟩; replace HO_5 := aS (Kd.S_below (by (with_reducible repeat (first | apply Kd.S_alloc | apply Kd.S_drewN | apply Kd.S_drew)); exact HO_5.out) hb); replace HL649_0 := aS (Kd.R_below (rel HL649_0.out) hb); have HO660 := aS (Kd.R_lower (Kd.R_new' (Kd.R_new' (Kd.R_new' ho0 (Kd.R_lt (rel HO_6.out))) (Kd.R_lt (rel HO654.out))) (Kd.R_lt (rel HO657.out))) (below_size bel)); replace HO_6 := aS (Kd.R_elder' (rel HO_6.out) (ebs ho0) hb); replace HO654 := aS (Kd.R_elder' (rel HO654.out) (ebs ho0) hb); replace HO657 := aS (Kd.R_elder' (rel HO657.out) (ebs ho0) hb); replace BK651 := bbl BK651 hb; replace HB := bstep hb; (try clear hb); (try clear hk); (try clear hi); (try clear ho0); obtain ⟨Ao25, co25, eo25⟩ := Kd.R_slice HO660.out; subst eo25) | ((with_reducible refine gate_builtin (b := .append) (xs := #[.tmp 40, .tmp 43]) rfl ?_); at_builtin; refine Kd.R_append_rows (Kd.int .u8) (w0 := w) w.heap.size rfl (.tmp 40) (.tmp 43) 26 5 (.int .u8 0) 1 rfl Try.underlying26 info5 rfl (by decide) (by omega) v656 y655 t658 _ _ _ (fun k_ => some k_ ≠ (.slice Ao22 x6_1.length co22 : Value).ownBlock ∧ some k_ ≠ (.slice Ao21 t652.length co21 : Value).ownBlock ∧ some k_ ≠ (.slice Ao25 t658.length co25 : Value).ownBlock) (fun _ => False) rfl rfl ?aO ?aR (fun _ _ h => h) (fun _ h => h.elim) ?aF ?aB ?aS ?aL ?_; (case aR => exact cel ((Kd.R_reads' HO660.out).2.2)); (case aB => exact bel); (case aF => exact (fun k_ hk => ⟨Kd.fresh' (Kd.R_lt (rel HO_6.out)) k_ hk, Kd.fresh' (Kd.R_lt (rel HO654.out)) k_ hk, Kd.fresh' (Kd.R_lt (rel HO660.out)) k_ hk⟩)); (case aO => exact (by (with_reducible repeat (first | apply Kd.R_alloc | apply Kd.R_drewN | apply Kd.R_drew)); exact Kd.R_mono HO657.out (fun _ hk => ⟨hk.1.1, ⟨hk.1.2, hk.2⟩⟩))); (case aS => exact (below_size bel)); (case aL => have := LMc14.out; omega); intro v662 w24 ho hb hg hat; rw [← Ny661.out] at ho; have n0_ := aS (Kd.S_over' (by (with_reducible repeat (first | apply Kd.S_alloc | apply Kd.S_drewN | apply Kd.S_drew)); exact HO_5.out) (Kd.R_typed (rel HO657.out)) (by decide) hg); have n1_ := aS (Kd.R_after (ok := (fun k_ => some k_ ≠ (.slice Ao21 t652.length co21 : Value).ownBlock ∧ some k_ ≠ (.slice Ao25 t658.length co25 : Value).ownBlock)) (by (with_reducible repeat (first | apply Kd.R_alloc | apply Kd.R_drewN | apply Kd.R_drew)); exact Kd.R_mono HO_6.out (fun _ hk => ⟨⟨hk.1.1, hk.2⟩, hk.1.2⟩)) hg hat); have n2_ := aS (Kd.R_over' (rel HL649_0.out) (Kd.R_typed (rel HO657.out)) (by decide) hg); have n3_ := aS (blk_grown (g := gb651) (o := .cells #[.string ((rd_T42 (rd_L7 t643 x8_1) 0).f0), .string ((rd_T42 (rd_L7 t643 x8_1) 0).f1), .int .i64 ((rd_T42 (rd_L7 t643 x8_1) 0).f2), .string ((rd_T42 (rd_L7 t643 x8_1) 0).f3), .bool ((rd_T42 (rd_L7 t643 x8_1) 0).f4)] 42 (0, 0)) (bkl BK651.out) hg (Kd.R_ne HO657.out BK651.out (by decide))); have n4_ := aS (Kd.R_after (ok := (fun k_ => some k_ ≠ (.slice Ao22 x6_1.length co22 : Value).ownBlock ∧ some k_ ≠ (.slice Ao25 t658.length co25 : Value).ownBlock)) (by (with_reducible repeat (first | apply Kd.R_alloc | apply Kd.R_drewN | apply Kd.R_drew)); exact Kd.R_mono HO654.out (fun _ hk => ⟨⟨hk.1.1, hk.2⟩, hk.1.2⟩)) hg hat); have n5_ := aS (Kd.R_after (ok := (fun k_ => some k_ ≠ (.slice Ao22 x6_1.length co22 : Value).ownBlock ∧ some k_ ≠ (.slice Ao21 t652.length co21 : Value).ownBlock)) (by (with_reducible repeat (first | apply Kd.R_alloc | apply Kd.R_drewN | apply Kd.R_drew)); exact Kd.R_mono HO660.out (fun _ hk => ⟨⟨hk.1.1.2, hk.1.2⟩, hk.2⟩)) hg hat); have n6_ := aS (hb); have n7_ := aS (ho); clear HO_5; clear HO_6; clear HL649_0; clear BK651; clear HO654; clear HO660; clear HB; clear HO657; have HO_5 := n0_; have HO_6 := n1_; have HL649_0 := n2_; have BK651 := n3_; have HO654 := n4_; have HO660 := n5_; have HB := n6_; have HO663 := n7_; clear n0_ n1_ n2_ n3_ n4_ n5_ n6_ n7_; clear ho hb hg hat; have p664 : 0 ≤ (x8_1 : Int) := oda; have q664 : x8_1 < (t643.length : Int) := oda; obtain ⟨ad664, A664_0, c664_0, e664, hx664_0, hl664_0, hi664_0⟩ := at_L7 (Kd.S_reads' HO_5.out).2.2 x8_1 p664 q664; obtain rfl : ad649 = ad664 := (by injection e664); obtain ⟨ce664, hce664, hMe664, hcc664⟩ := Kd.S_get HO_5.out [] x8_1 p664 (by first | exact q664 | exact oda | (have e_ := (Kd.S_reads' HO_5.out).1; omega)); obtain ⟨ve664_0, rfl, ge664_0⟩ := hMe664; have hv664_0 := hcc664 0 _ rfl; rw [Nat.add_zero, show ((Kd.slice 42 k42)).sz = 1 from rfl, Nat.mul_one] at hv664_0; replace hv664_0 := Option.some.inj (hv664_0.symm.trans hx664_0); rw [hv664_0] at ge664_0; have HL664_0 := aS (show Kd.R k42 42 _ _ _ _ (rd_L7 t643 x8_1) from ge664_0); clear hv664_0 ge664_0; clear hcc664 hce664; have HR664_0 := aS hi664_0; have HC664_0 := aS hl664_0; clear hi664_0 hl664_0; replace p664 := eq_true p664; replace q664 := eq_true q664) | ((with_reducible refine gate_callee (f := 35) rfl ?_); refine goesL_ (some 50) rfl rfl Try.func35 (by kernel_rfl) rfl #[.slice A664_0 (rd_L7 t643 x8_1).length c664_0] rfl agn ?_; (with_reducible refine (shardlogref10_Put.calls k1 _ _ (rd_L7 t643 x8_1) t665 _ ?side1 ?side2 A15.out).mono ?_); (case side1 => repeat (first | exact (by repeat (first | (with_reducible exact HR664_0.out) | (with_reducible refine Kd.C_alloc ?_ _) | (with_reducible refine Kd.C_drewN ?_ _) | (with_reducible refine Kd.C_drew ?_) | exact HR664_0.out)) | (with_reducible refine Kd.C_alloc ?_ _) | (with_reducible refine Kd.C_drewN ?_ _) | (with_reducible refine Kd.C_drew ?_))); (case side2 => exact HC664_0.out); rintro e w26 ⟨v666, rfl, ho0, hb⟩; refine ⟨_, rfl, ?_⟩; replace HO_5 := aS (Kd.S_below (by (with_reducible repeat (first | apply Kd.S_alloc | apply Kd.S_drewN | apply Kd.S_drew)); exact HO_5.out) hb); replace HL649_0 := aS (Kd.R_below (rel HL649_0.out) hb); replace HL664_0 := aS (Kd.R_below (rel HL664_0.out) hb); have HO667 := aS (Kd.R_lower (Kd.R_new' (Kd.R_new' (Kd.R_new' (Kd.R_new' ho0 (Kd.R_lt (rel HO_6.out))) (Kd.R_lt (rel HO654.out))) (Kd.R_lt (rel HO660.out))) (Kd.R_lt (rel HO663.out))) (below_size bel)); replace HO_6 := aS (Kd.R_elder' (rel HO_6.out) (ebs ho0) hb); replace HO654 := aS (Kd.R_elder' (rel HO654.out) (ebs ho0) hb); replace HO660 := aS (Kd.R_elder' (rel HO660.out) (ebs ho0) hb); replace HO663 := aS (Kd.R_elder' (rel HO663.out) (ebs ho0) hb); replace BK651 := bbl BK651 hb; replace HR664_0 := aS (Kd.C_below (by repeat (first | (with_reducible exact HR664_0.out) | (with_reducible refine Kd.C_alloc ?_ _) | (with_reducible refine Kd.C_drewN ?_ _) | (with_reducible refine Kd.C_drew ?_) | exact HR664_0.out)) hb); replace HB := bstep hb; (try clear hb); (try clear hk); (try clear hi); (try clear ho0); obtain ⟨Ao28, co28, eo28⟩ := Kd.R_slice HO667.out; subst eo28) | ((with_reducible refine gate_builtin (b := .append) (xs := #[.tmp 45, .tmp 50]) rfl ?_); at_builtin; refine Kd.R_append_rows (Kd.int .u8) (w0 := w) w.heap.size rfl (.tmp 45) (.tmp 50) 26 5 (.int .u8 0) 1 rfl Try.underlying26 info5 rfl (by decide) (by omega) (.slice Ao22 x6_1.length co22) x6_1 t665 _ _ _ (fun k_ => some k_ ≠ (.slice Ao21 t652.length co21 : Value).ownBlock ∧ some k_ ≠ (.slice Ao25 t658.length co25 : Value).ownBlock ∧ some k_ ≠ (v662 : Value).ownBlock ∧ some k_ ≠ (.slice Ao28 t665.length co28 : Value).ownBlock) (fun _ => False) rfl rfl ?aO ?aR (fun _ _ h => h) (fun _ h => h.elim) ?aF ?aB ?aS ?aL ?_; (case aR => repeat (first | exact (Kd.R_reads' HO667.out).2.2 | (with_reducible refine Kd.C_alloc ?_ _) | (with_reducible refine Kd.C_drewN ?_ _) | (with_reducible refine Kd.C_drew ?_))); (case aB => exact bel); (case aF => exact (fun k_ hk => ⟨Kd.fresh' (Kd.R_lt (rel HO654.out)) k_ hk, Kd.fresh' (Kd.R_lt (rel HO660.out)) k_ hk, Kd.fresh' (Kd.R_lt (rel HO663.out)) k_ hk, Kd.fresh' (Kd.R_lt (rel HO667.out)) k_ hk⟩)); (case aO => exact (by (with_reducible repeat (first | apply Kd.R_alloc | apply Kd.R_drewN | apply Kd.R_drew)); exact Kd.R_mono HO_6.out (fun _ hk => ⟨hk.1.1.1, ⟨hk.1.1.2, ⟨hk.1.2, hk.2⟩⟩⟩))); (case aS => exact (below_size bel)); (case aL => have := LMc16.out; omega); intro v669 w27 ho hb hg hat; rw [← Ny668.out] at ho; have n0_ := aS (Kd.S_over' (by (with_reducible repeat (first | apply Kd.S_alloc | apply Kd.S_drewN | apply Kd.S_drew)); exact HO_5.out) (Kd.R_typed (rel HO_6.out)) (by decide) hg); have n1_ := aS (Kd.R_over' (rel HL649_0.out) (Kd.R_typed (rel HO_6.out)) (by decide) hg); have n2_ := aS (blk_grown (g := gb651) (o := .cells #[.string ((rd_T42 (rd_L7 t643 x8_1) 0).f0), .string ((rd_T42 (rd_L7 t643 x8_1) 0).f1), .int .i64 ((rd_T42 (rd_L7 t643 x8_1) 0).f2), .string ((rd_T42 (rd_L7 t643 x8_1) 0).f3), .bool ((rd_T42 (rd_L7 t643 x8_1) 0).f4)] 42 (0, 0)) (bkl BK651.out) hg (Kd.R_ne HO_6.out BK651.out (by decide))); have n3_ := aS (Kd.R_after (ok := (fun k_ => some k_ ≠ (.slice Ao25 t658.length co25 : Value).ownBlock ∧ some k_ ≠ (v662 : Value).ownBlock ∧ some k_ ≠ (.slice Ao28 t665.length co28 : Value).ownBlock)) (by (with_reducible repeat (first | apply Kd.R_alloc | apply Kd.R_drewN | apply Kd.R_drew)); exact Kd.R_mono HO654.out (fun _ hk => ⟨⟨hk.1.1.2, ⟨hk.1.2, hk.2⟩⟩, hk.1.1.1⟩)) hg hat); have n4_ := aS (Kd.R_after (ok := (fun k_ => some k_ ≠ (.slice Ao21 t652.length co21 : Value).ownBlock ∧ some k_ ≠ (v662 : Value).ownBlock ∧ some k_ ≠ (.slice Ao28 t665.length co28 : Value).ownBlock)) (by (with_reducible repeat (first | apply Kd.R_alloc | apply Kd.R_drewN | apply Kd.R_drew)); exact Kd.R_mono HO660.out (fun _ hk => ⟨⟨hk.1.1.2, ⟨hk.1.2, hk.2⟩⟩, hk.1.1.1⟩)) hg hat); have n5_ := aS (Kd.R_after (ok := (fun k_ => some k_ ≠ (.slice Ao21 t652.length co21 : Value).ownBlock ∧ some k_ ≠ (.slice Ao25 t658.length co25 : Value).ownBlock ∧ some k_ ≠ (.slice Ao28 t665.length co28 : Value).ownBlock)) (by (with_reducible repeat (first | apply Kd.R_alloc | apply Kd.R_drewN | apply Kd.R_drew)); exact Kd.R_mono HO663.out (fun _ hk => ⟨⟨hk.1.2.1, ⟨hk.1.2.2, hk.2⟩⟩, hk.1.1⟩)) hg hat); have n6_ := aS (Kd.R_over' (rel HL664_0.out) (Kd.R_typed (rel HO_6.out)) (by decide) hg); have n7_ := aS (Kd.R_after (ok := (fun k_ => some k_ ≠ (.slice Ao21 t652.length co21 : Value).ownBlock ∧ some k_ ≠ (.slice Ao25 t658.length co25 : Value).ownBlock ∧ some k_ ≠ (v662 : Value).ownBlock)) (by (with_reducible repeat (first | apply Kd.R_alloc | apply Kd.R_drewN | apply Kd.R_drew)); exact Kd.R_mono HO667.out (fun _ hk => ⟨⟨hk.1.1.2, ⟨hk.1.2, hk.2⟩⟩, hk.1.1.1.2⟩)) hg hat); have n8_ := aS (hb); have n9_ := aS (ho); clear HO_5; clear HL649_0; clear BK651; clear HO654; clear HO660; clear HO663; clear HL664_0; clear HO667; clear HB; clear HO_6; have HO_5 := n0_; have HL649_0 := n1_; have BK651 := n2_; have HO654 := n3_; have HO660 := n4_; have HO663 := n5_; have HL664_0 := n6_; have HO667 := n7_; have HB := n8_; have HO670 := n9_; clear n0_ n1_ n2_ n3_ n4_ n5_ n6_ n7_ n8_ n9_; clear ho hb hg hat))
         go_roundg k1
         case measure => have := HK1.out; omega
         case rel => exact ⟨(y668), (y661), (wrap64 (x8_1 + 1)), srf, H', ⟨by have := HK1.out; omega⟩, ⟨by (with_reducible repeat (first | apply Kd.S_alloc | apply Kd.S_drewN | apply Kd.S_drew)); exact Kd.S_mono HO_5.out (fun _ hk => trivial)⟩, ⟨by (with_reducible repeat (first | apply Kd.R_alloc | apply Kd.R_drewN | apply Kd.R_drew)); exact Kd.R_mono HO670.out (fun _ hk => hk.2.2.1)⟩, ⟨by (with_reducible repeat (first | apply Kd.R_alloc | apply Kd.R_drewN | apply Kd.R_drew)); exact Kd.R_mono HO663.out (fun _ hk => hk.2)⟩, ⟨bel⟩⟩
        ·
         rw [if_neg c16] at H; exact absurd H (by simp)
       ·
        rw [if_neg c14] at H; exact absurd H (by simp)
      ·
       rw [if_neg c12] at H; exact absurd H (by simp)
     ·
      rw [if_neg c10] at H; exact absurd H (by simp)
    ·
     rw [if_neg c9] at H; exact absurd H (by simp)
   ·
    rw [if_neg c8] at H; have c8b0 : decide (x8_1 < (t643.length : Int)) = false := decide_eq_false c8; clear c8
    have H' := aS H
    clear H
    go_wp2
    go_loopg [10, 11] k1 (fun kq v10 v11 w' => ∃ (x10_2 : List ByteArray) (x11_2 : Int), v11 = .int .i64 x11_2 ∧ Aside0 (shardlogref12_Build.l1 kq l0 x6_1 x7_1 x10_2 x11_2 = some r) ∧ Aside0 (kq ≤ k1) ∧ Aside0 (Kd.R (Kd.int .u8) 5 w' w.heap.size (fun k_ => some k_ ≠ (u7 : Value).ownBlock) u6 x6_1) ∧ Aside0 (Kd.R (Kd.int .u8) 5 w' w.heap.size (fun k_ => some k_ ≠ (u6 : Value).ownBlock) u7 x7_1) ∧ Aside0 (Kd.R Kd.string 9 w' w.heap.size (fun _ => True) v10 x10_2) ∧ Aside0 (Below w.heap.size w w'))
    case atStart => exact ⟨(([] : List ByteArray)), (0), srf, H', ⟨Nat.le_refl _⟩, ⟨by (with_reducible repeat (first | apply Kd.R_alloc | apply Kd.R_drewN | apply Kd.R_drew)); exact HO_6.out⟩, ⟨by (with_reducible repeat (first | apply Kd.R_alloc | apply Kd.R_drewN | apply Kd.R_drew)); exact HO_7.out⟩, ⟨by first | exact Kd.R_nil _ _ _ _ _ | exact Kd.N_nil _ _ _ _ _ | exact Kd.V_nil _ _ _ _ _ | exact Kd.Q_nil _ _ _ _ _ | exact Kd.S_nil _ _ _ _ _⟩, ⟨bel⟩⟩
    case round =>
     clear H'; (try clear c8); (try clear c8b0); obtain ⟨x10_2, x11_2, rfl, HA, HK2, HO_6, HO_7, HO_10, HB⟩ := hrel
     cases gk with
     | zero => exact absurd HA.out (by simp [shardlogref12_Build.l1])
     | succ k2 =>
      have H := HA.out; clear HA
      simp only [shardlogref12_Build.l1] at H
      by_cases c29 : x11_2 < (l0.length : Int)
      ·
       rw [if_pos c29] at H; have c29b0 : decide (x11_2 < (l0.length : Int)) = true := decide_eq_true c29; clear c29
       by_cases c30 : 0 ≤ x11_2
       ·
        rw [if_pos c30] at H; have c30b0 : decide (0 ≤ x11_2) = true := decide_eq_true c30; clear c30; replace H := obm H; obtain ⟨t673, A310, H⟩ := H; replace H : (if x10_2.length < 8796093022208 then (shardlogref12_Build.l1 k2 l0 x6_1 x7_1 (x10_2 ++ [t673]) (wrap64 (x11_2 + 1))) else (none)) = some r := H; have A31 := aS A310; clear A310
        by_cases c32 : x10_2.length < 8796093022208
        ·
         rw [if_pos c32] at H; have LMc32 := aS c32; clear c32
         obtain ⟨y674, hy674⟩ : ∃ y_ : List ByteArray, y_ = (x10_2 ++ [t673]) := ⟨_, rfl⟩
         replace H : (shardlogref12_Build.l1 k2 l0 x6_1 x7_1 y674 (wrap64 (x11_2 + 1))) = some r := hyr hy674 H; have Ny674 := aS hy674; clear hy674
         have H' := aS H
         clear H
         try go_wp2
         replace HO_6 := aS (Kd.R_drew HO_6.out); replace HO_7 := aS (Kd.R_drew HO_7.out); replace HO_10 := aS (Kd.R_drew HO_10.out); replace HB := aS (bdo HB.out); have p671 : 0 ≤ (x11_2 : Int) := oda; have q671 : x11_2 < (l0.length : Int) := oda; obtain ⟨ad671, e671, hx671_0, hx671_1, hx671_2, hx671_3, hx671_4⟩ := at_T42 HR0.out x11_2 p671 q671; have hw671_4 := hx671_4; have hw671_3 := hx671_3; have hw671_2 := hx671_2; have hw671_1 := hx671_1; have hw671_0 := hx671_0; cases e671; replace hx671_0 := bx bel hx671_0; replace hx671_1 := bx bel hx671_1; replace hx671_2 := bx bel hx671_2; replace hx671_3 := bx bel hx671_3; replace hx671_4 := bx bel hx671_4; replace p671 := eq_true p671; replace q671 := eq_true q671; have p672 : 0 ≤ (x11_2 : Int) := oda; have q672 : x11_2 < (l0.length : Int) := oda; obtain ⟨ad672, e672, hx672_0, hx672_1, hx672_2, hx672_3, hx672_4⟩ := at_T42 HR0.out x11_2 p672 q672; have hw672_4 := hx672_4; have hw672_3 := hx672_3; have hw672_2 := hx672_2; have hw672_1 := hx672_1; have hw672_0 := hx672_0
         obtain rfl : ad671 = ad672 := (by injection e672)
         replace hx672_0 := bx bel hx672_0; replace hx672_1 := bx bel hx672_1; replace hx672_2 := bx bel hx672_2; replace hx672_3 := bx bel hx672_3; replace hx672_4 := bx bel hx672_4; replace p672 := eq_true p672; replace q672 := eq_true q672; refine start_ (n := 15) (S := fun w' => w'.cell? (ad671.add ((x11_2).toNat * 5)) = some (.string ((rd_T42 l0 x11_2).f0)) ∧ w'.cell? ⟨(ad671.add ((x11_2).toNat * 5)).block, (ad671.add ((x11_2).toNat * 5)).off + 1, none⟩ = some (.string ((rd_T42 l0 x11_2).f1)) ∧ w'.cell? ⟨(ad671.add ((x11_2).toNat * 5)).block, (ad671.add ((x11_2).toNat * 5)).off + 2, none⟩ = some (.int .i64 ((rd_T42 l0 x11_2).f2)) ∧ w'.cell? ⟨(ad671.add ((x11_2).toNat * 5)).block, (ad671.add ((x11_2).toNat * 5)).off + 3, none⟩ = some (.string ((rd_T42 l0 x11_2).f3)) ∧ w'.cell? ⟨(ad671.add ((x11_2).toNat * 5)).block, (ad671.add ((x11_2).toNat * 5)).off + 4, none⟩ = some (.bool ((rd_T42 l0 x11_2).f4)) ∧ w'.cell? (ad671.add ((x11_2).toNat * 5)) = some (.string ((rd_T42 l0 x11_2).f0)) ∧ w'.cell? ⟨(ad671.add ((x11_2).toNat * 5)).block, (ad671.add ((x11_2).toNat * 5)).off + 1, none⟩ = some (.string ((rd_T42 l0 x11_2).f1)) ∧ w'.cell? ⟨(ad671.add ((x11_2).toNat * 5)).block, (ad671.add ((x11_2).toNat * 5)).off + 2, none⟩ = some (.int .i64 ((rd_T42 l0 x11_2).f2)) ∧ w'.cell? ⟨(ad671.add ((x11_2).toNat * 5)).block, (ad671.add ((x11_2).toNat * 5)).off + 3, none⟩ = some (.string ((rd_T42 l0 x11_2).f3)) ∧ w'.cell? ⟨(ad671.add ((x11_2).toNat * 5)).block, (ad671.add ((x11_2).toNat * 5)).off + 4, none⟩ = some (.bool ((rd_T42 l0 x11_2).f4))) (ds := []) (bA 15 0) (by kernel_rfl) rfl rfl ⟨(bx bel hw671_0), (bx bel hw671_1), (bx bel hw671_2), (bx bel hw671_3), (bx bel hw671_4), (bx bel hw672_0), (bx bel hw672_1), (bx bel hw672_2), (bx bel hw672_3), (bx bel hw672_4)⟩ (fun hHeld => ?_); refine with_tabW shardlogref12_Build.tab15 shardlogref12_Build.bits15 (fun HT_ HW_ => ?_)
         generalize wr.drew = w33 at HO_6 HO_7 HO_10 HB hx671_0 hx671_1 hx671_2 hx671_3 hx671_4 hx672_0 hx672_1 hx672_2 hx672_3 hx672_4 hHeld ⊢
         refine along_ [(0, 58), (1, 59), (2, 60), (3, 61), (4, 62), (6, 64), (7, 65), (8, 66), (9, 67), (5, 63), (10, 68)] ?_
         iterate 11 (first | (refine pure3 HT_ ?_) | (refine take3 HT_ HW_ hHeld ?_))
         refine lay_ (bA 15 2047) (by kernel_rfl) ?_; refine one3 11 (N := some 69) (bA 15 4095) HT_ (fun K hK => ?_); refine goes_ Try.func24 (by kernel_rfl) rfl #[.string ((rd_T42 l0 x11_2).f0), .string ((rd_T42 l0 x11_2).f1)] (by rfl) rfl rfl agn ?_
         with_reducible refine (shardlogref12_Key.calls ((rd_T42 l0 x11_2).f0) ((rd_T42 l0 x11_2).f1) t673 _ A31.out).mono ?_
         rintro e w34 ⟨rfl, hb⟩
         refine ⟨_, rfl, ?_⟩; replace HO_6 := aS (Kd.R_below (rel HO_6.out) hb); replace HO_7 := aS (Kd.R_below (rel HO_7.out) hb); replace HO_10 := aS (Kd.R_below (rel HO_10.out) hb); replace HB := bstep hb; (try clear hb); (try clear hk); (try clear hi); refine hK.out _ _ ⟨(bx bel hw671_0), (bx bel hw671_1), (bx bel hw671_2), (bx bel hw671_3), (bx bel hw671_4), (bx bel hw672_0), (bx bel hw672_1), (bx bel hw672_2), (bx bel hw672_3), (bx bel hw672_4)⟩ (fun hHeld => ?_); clear hK K; refine nm 69 ?_; refine one3 12 (N := some 70) (bA 15 8191) HT_ (fun K hK => ?_); refine value_ (w1 := ?_) (v := ?_) (by rfl) rfl ?_ ?_
         rotate_left 2
         ·
          go_simp
          constructor
          ·
           rfl
          ·
           rfl
         refine hK.out _ _ ⟨(World.cell?_alloc_lt _ _ _ (wbl _ _ ((bx bel hw671_0)))).trans ((bx bel hw671_0)), (World.cell?_alloc_lt _ _ _ (wbl _ _ ((bx bel hw671_1)))).trans ((bx bel hw671_1)), (World.cell?_alloc_lt _ _ _ (wbl _ _ ((bx bel hw671_2)))).trans ((bx bel hw671_2)), (World.cell?_alloc_lt _ _ _ (wbl _ _ ((bx bel hw671_3)))).trans ((bx bel hw671_3)), (World.cell?_alloc_lt _ _ _ (wbl _ _ ((bx bel hw671_4)))).trans ((bx bel hw671_4)), (World.cell?_alloc_lt _ _ _ (wbl _ _ ((bx bel hw672_0)))).trans ((bx bel hw672_0)), (World.cell?_alloc_lt _ _ _ (wbl _ _ ((bx bel hw672_1)))).trans ((bx bel hw672_1)), (World.cell?_alloc_lt _ _ _ (wbl _ _ ((bx bel hw672_2)))).trans ((bx bel hw672_2)), (World.cell?_alloc_lt _ _ _ (wbl _ _ ((bx bel hw672_3)))).trans ((bx bel hw672_3)), (World.cell?_alloc_lt _ _ _ (wbl _ _ ((bx bel hw672_4)))).trans ((bx bel hw672_4))⟩ (fun hHeld => ?_); clear hK K; refine nm 70 ?_; refine one3 13 (N := some 71) (bA 15 16383) HT_ (fun K hK => ?_); refine Kd.R_append_step Kd.string (w0 := w) w.heap.size (by rfl) (.tmp 58) (.tmp 70) 51 9 (.string ⟨#[]⟩) 16 rfl Try.underlying51 info9 rfl (by decide) (by omega) u10 x10_2 t673 [.string t673] (fun _ => True) (fun _ => False) rfl rfl ?aP (fun _ hk => hk.elim) ?aF ?aO ?aB ?aS ?aL ?_
         (case aP => exact rfl)
         (case aB => exact bel)
         (case aF => exact (fun _ _ => trivial))
         (case aO => exact (rel HO_10.out))
         (case aS => exact (below_size bel))
         (case aL => have := LMc32.out; omega)
         intro v675 w35 ho hb hg hat
         rw [← Ny674.out] at ho; have n0_ := aS (Kd.R_over' (rel HO_6.out) (Kd.R_typed (rel HO_10.out)) (by decide) hg); have n1_ := aS (Kd.R_over' (rel HO_7.out) (Kd.R_typed (rel HO_10.out)) (by decide) hg); have n2_ := aS (hb); have n3_ := aS (ho); clear HO_6; clear HO_7; clear HB; clear HO_10; have HO_6 := n0_; have HO_7 := n1_; have HB := n2_; have HO676 := n3_; clear n0_ n1_ n2_ n3_; clear ho hb hg hat; refine hK.out _ _ ⟨(bx bel hw671_0), (bx bel hw671_1), (bx bel hw671_2), (bx bel hw671_3), (bx bel hw671_4), (bx bel hw672_0), (bx bel hw672_1), (bx bel hw672_2), (bx bel hw672_3), (bx bel hw672_4)⟩ (fun hHeld => ?_); clear hK K; refine nm 71 ?_; refine pure_ (i := 14) (N := some 10) (v := ?_) (a' := ?_) (bA 15 32767) rfl rfl (any_of HT_.out (by kernel_rfl)) (fun _ _ _ h => h) (Or.inl ⟨by rfl, ?_⟩) ?_ ?_
         rotate_left
         ·
          intro w'
          go_simp
          with_reducible rfl
         rotate_left
         ·
          simp only [Act.put, lsa, lsz, lss, i64_w, i32_w]
          rfl
         refine done_ (done_of HT_.out (by kernel_rfl)) ?_
         try go_wp2
         go_roundg k2
         case measure => have := HK1.out; have := HK2.out; omega
         case rel => exact ⟨(y674), (wrap64 (x11_2 + 1)), srf, H', ⟨by have := HK1.out; have := HK2.out; omega⟩, ⟨by (with_reducible repeat (first | apply Kd.R_alloc | apply Kd.R_drewN | apply Kd.R_drew)); exact HO_6.out⟩, ⟨by (with_reducible repeat (first | apply Kd.R_alloc | apply Kd.R_drewN | apply Kd.R_drew)); exact HO_7.out⟩, ⟨by (with_reducible repeat (first | apply Kd.R_alloc | apply Kd.R_drewN | apply Kd.R_drew)); exact HO676.out⟩, ⟨bel⟩⟩
        ·
         rw [if_neg c32] at H; exact absurd H (by simp)
       ·
        rw [if_neg c30] at H; exact absurd H (by simp)
      ·
       rw [if_neg c29] at H; have c29b0 : decide (x11_2 < (l0.length : Int)) = false := decide_eq_false c29; clear c29; replace H := obm H; obtain ⟨t677, A360, H⟩ := H; replace H : ((shardlogref01_Text.f (strOfNums t677)).bind fun t680 => (if x7_1.length + t680.length < 140737488355328 then ((shardlogref06_Put.f k2 (x7_1 ++ t680)).bind fun t686 => (if x6_1.length + t686.length < 140737488355328 then ((some (x6_1 ++ t686 : List Int)).bind fun y689 => ((shardlogref01_Num.f (t686.length : Int)).bind fun t692 => (if y689.length + t692.length < 140737488355328 then (some (y689 ++ t692)) else (none)))) else (none))) else (none))) = some r := H; have A36 := aS A360; clear A360; replace H := obm H; obtain ⟨t680, A370, H⟩ := H; replace H : (if x7_1.length + t680.length < 140737488355328 then ((shardlogref06_Put.f k2 (x7_1 ++ t680)).bind fun t686 => (if x6_1.length + t686.length < 140737488355328 then ((some (x6_1 ++ t686 : List Int)).bind fun y689 => ((shardlogref01_Num.f (t686.length : Int)).bind fun t692 => (if y689.length + t692.length < 140737488355328 then (some (y689 ++ t692)) else (none)))) else (none))) else (none)) = some r := H; have A37 := aS A370; clear A370
       by_cases c38 : x7_1.length + t680.length < 140737488355328
       ·
        rw [if_pos c38] at H; have LMc38 := aS c38; clear c38
        obtain ⟨y683, hy683⟩ : ∃ y_ : List Int, y_ = (x7_1 ++ t680) := ⟨_, rfl⟩
        replace H : ((shardlogref06_Put.f k2 y683).bind fun t686 => (if x6_1.length + t686.length < 140737488355328 then ((some (x6_1 ++ t686 : List Int)).bind fun y689 => ((shardlogref01_Num.f (t686.length : Int)).bind fun t692 => (if y689.length + t692.length < 140737488355328 then (some (y689 ++ t692)) else (none)))) else (none))) = some r := hyr hy683 H; have Ny683 := aS hy683; clear hy683; replace H := obm H; obtain ⟨t686, A390, H⟩ := H; replace H : (if x6_1.length + t686.length < 140737488355328 then ((some (x6_1 ++ t686 : List Int)).bind fun y689 => ((shardlogref01_Num.f (t686.length : Int)).bind fun t692 => (if y689.length + t692.length < 140737488355328 then (some (y689 ++ t692)) else (none)))) else (none)) = some r := H; have A39 := aS A390; clear A390
        by_cases c40 : x6_1.length + t686.length < 140737488355328
        ·
         rw [if_pos c40] at H; have LMc40 := aS c40; clear c40
         obtain ⟨y689, hy689⟩ : ∃ y_ : List Int, y_ = (x6_1 ++ t686) := ⟨_, rfl⟩
         replace H : ((shardlogref01_Num.f (t686.length : Int)).bind fun t692 => (if y689.length + t692.length < 140737488355328 then (some (y689 ++ t692)) else (none))) = some r := hyr hy689 H; have Ny689 := aS hy689; clear hy689; replace H := obm H; obtain ⟨t692, A410, H⟩ := H; replace H : (if y689.length + t692.length < 140737488355328 then (some (y689 ++ t692)) else (none)) = some r := H; have A41 := aS A410; clear A410
         by_cases c42 : y689.length + t692.length < 140737488355328
         ·
          rw [if_pos c42] at H; have LMc42 := aS c42; clear c42
          obtain ⟨y695, hy695⟩ : ∃ y_ : List Int, y_ = (y689 ++ t692) := ⟨_, rfl⟩
          replace H : (some y695) = some r := hyr hy695 H; have Ny695 := aS hy695; clear hy695
          obtain rfl := Option.some.inj H
          obtain ⟨Ao43, co43, eo43⟩ := Kd.R_slice HO_10.out; subst eo43
          go_wp2_with (first | ((with_reducible refine gate_callee (f := 26) rfl ?_); refine goesL_ (some 74) rfl rfl Try.func26 (by kernel_rfl) rfl #[.slice Ao43 x10_2.length co43] rfl agn ?_; (with_reducible refine (shardlogref11_Make.calls k2 _ _ x10_2 t677 _ ?side1 ?side2 A36.out).mono ?_); (case side1 => repeat (first | exact (Kd.R_reads' HO_10.out).2.2 | (with_reducible refine Kd.C_alloc ?_ _) | (with_reducible refine Kd.C_drewN ?_ _) | (with_reducible refine Kd.C_drew ?_))); (case side2 => exact (Kd.R_reads' HO_10.out).2.1); rintro e w44 ⟨v678, rfl, ho0, hb⟩; refine ⟨_, rfl, ?_⟩; replace HO_10 := aS (Kd.R_below (rel HO_10.out) hb); have HO679 := aS (Kd.R_lower (Kd.R_new' (Kd.R_new' ho0 (Kd.R_lt (rel HO_6.out))) (Kd.R_lt (rel HO_7.out))) (below_size bel)); replace HO_6 := aS (Kd.R_elder' (rel HO_6.out) (ebs ho0) hb); replace HO_7 := aS (Kd.R_elder' (rel HO_7.out) (ebs ho0) hb); replace HB := bstep hb; (try clear hb); (try clear hk); (try clear hi); (try clear ho0); have hcv45 := own_string (P := Try.prog) Try.underlying26 Try.underlying5 Try.underlying9 (Kd.own_of_R HO679.out)) | ((with_reducible refine gate_callee (f := 37) rfl ?_); refine goesL_ (some 76) rfl rfl Try.func37 (by kernel_rfl) rfl #[.string (strOfNums t677)] rfl agn ?_; (with_reducible refine (shardlogref01_Text.calls (strOfNums t677) t680 _ A37.out).mono ?_); rintro e w46 ⟨v681, rfl, ho0, hb⟩; refine ⟨_, rfl, ?_⟩; replace HO_10 := aS (Kd.R_below (rel HO_10.out) hb); have HO682 := aS (Kd.R_lower (Kd.R_new' (Kd.R_new' (Kd.R_new' ho0 (Kd.R_lt (rel HO_6.out))) (Kd.R_lt (rel HO_7.out))) (Kd.R_lt (rel HO679.out))) (below_size bel)); replace HO_6 := aS (Kd.R_elder' (rel HO_6.out) (ebs ho0) hb); replace HO_7 := aS (Kd.R_elder' (rel HO_7.out) (ebs ho0) hb); replace HO679 := aS (Kd.R_elder' (rel HO679.out) (ebs ho0) hb); replace HB := bstep hb; (try clear hb); (try clear hk); (try clear hi); (try clear ho0); obtain ⟨Ao48, co48, eo48⟩ := Kd.R_slice HO682.out; subst eo48) | ((with_reducible refine gate_builtin (b := .append) (xs := #[.tmp 72, .tmp 76]) rfl ?_); at_builtin; refine Kd.R_append_rows (Kd.int .u8) (w0 := w) w.heap.size rfl (.tmp 72) (.tmp 76) 26 5 (.int .u8 0) 1 rfl Try.underlying26 info5 rfl (by decide) (by omega) u7 x7_1 t680 _ _ _ (fun k_ => some k_ ≠ (u6 : Value).ownBlock ∧ some k_ ≠ (v678 : Value).ownBlock ∧ some k_ ≠ (.slice Ao48 t680.length co48 : Value).ownBlock) (fun _ => False) rfl rfl ?aO ?aR (fun _ _ h => h) (fun _ h => h.elim) ?aF ?aB ?aS ?aL ?_; (case aR => repeat (first | exact (Kd.R_reads' HO682.out).2.2 | (with_reducible refine Kd.C_alloc ?_ _) | (with_reducible refine Kd.C_drewN ?_ _) | (with_reducible refine Kd.C_drew ?_))); (case aB => exact bel); (case aF => exact (fun k_ hk => ⟨Kd.fresh' (Kd.R_lt (rel HO_6.out)) k_ hk, Kd.fresh' (Kd.R_lt (rel HO679.out)) k_ hk, Kd.fresh' (Kd.R_lt (rel HO682.out)) k_ hk⟩)); (case aO => exact (by (with_reducible repeat (first | apply Kd.R_alloc | apply Kd.R_drewN | apply Kd.R_drew)); exact Kd.R_mono HO_7.out (fun _ hk => ⟨hk.1.1, ⟨hk.1.2, hk.2⟩⟩))); (case aS => exact (below_size bel)); (case aL => have := LMc38.out; omega); intro v684 w47 ho hb hg hat; rw [← Ny683.out] at ho; have n0_ := aS (Kd.R_after (ok := (fun k_ => some k_ ≠ (v678 : Value).ownBlock ∧ some k_ ≠ (.slice Ao48 t680.length co48 : Value).ownBlock)) (by (with_reducible repeat (first | apply Kd.R_alloc | apply Kd.R_drewN | apply Kd.R_drew)); exact Kd.R_mono HO_6.out (fun _ hk => ⟨⟨hk.1.2, hk.2⟩, hk.1.1⟩)) hg hat); have n1_ := aS (Kd.R_over' (rel HO_10.out) (Kd.R_typed (rel HO_7.out)) (by decide) hg); have n2_ := aS (Kd.R_after (ok := (fun k_ => some k_ ≠ (u6 : Value).ownBlock ∧ some k_ ≠ (.slice Ao48 t680.length co48 : Value).ownBlock)) (by (with_reducible repeat (first | apply Kd.R_alloc | apply Kd.R_drewN | apply Kd.R_drew)); exact Kd.R_mono HO679.out (fun _ hk => ⟨⟨hk.1.1.2, hk.2⟩, hk.1.2⟩)) hg hat); have n3_ := aS (Kd.R_after (ok := (fun k_ => some k_ ≠ (u6 : Value).ownBlock ∧ some k_ ≠ (v678 : Value).ownBlock)) (by (with_reducible repeat (first | apply Kd.R_alloc | apply Kd.R_drewN | apply Kd.R_drew)); exact Kd.R_mono HO682.out (fun _ hk => ⟨⟨hk.1.1.2, hk.2⟩, hk.1.2⟩)) hg hat); have n4_ := aS (hb); have n5_ := aS (ho); clear HO_6; clear HO_10; clear HO679; clear HO682; clear HB; clear HO_7; have HO_6 := n0_; have HO_10 := n1_; have HO679 := n2_; have HO682 := n3_; have HB := n4_; have HO685 := n5_; clear n0_ n1_ n2_ n3_ n4_ n5_; clear ho hb hg hat; obtain ⟨Ao49, co49, eo49⟩ := Kd.R_slice HO685.out; subst eo49) | ((with_reducible refine gate_callee (f := 36) rfl ?_); refine goesL_ (some 78) rfl rfl Try.func36 (by kernel_rfl) rfl #[.slice Ao49 y683.length co49] rfl agn ?_; (with_reducible refine (shardlogref06_Put.calls k2 _ _ y683 t686 _ ?side1 ?side2 A39.out).mono ?_); (case side1 => repeat (first | exact (Kd.R_reads' HO685.out).2.2 | (with_reducible refine Kd.C_alloc ?_ _) | (with_reducible refine Kd.C_drewN ?_ _) | (with_reducible refine Kd.C_drew ?_))); (case side2 => exact (Kd.R_reads' HO685.out).2.1); rintro e w50 ⟨v687, rfl, ho0, hb⟩; refine ⟨_, rfl, ?_⟩; replace HO_10 := aS (Kd.R_below (rel HO_10.out) hb); have HO688 := aS (Kd.R_lower (Kd.R_new' (Kd.R_new' (Kd.R_new' (Kd.R_new' ho0 (Kd.R_lt (rel HO_6.out))) (Kd.R_lt (rel HO679.out))) (Kd.R_lt (rel HO682.out))) (Kd.R_lt (rel HO685.out))) (below_size bel)); replace HO_6 := aS (Kd.R_elder' (rel HO_6.out) (ebs ho0) hb); replace HO679 := aS (Kd.R_elder' (rel HO679.out) (ebs ho0) hb); replace HO682 := aS (Kd.R_elder' (rel HO682.out) (ebs ho0) hb); replace HO685 := aS (Kd.R_elder' (rel HO685.out) (ebs ho0) hb); replace HB := bstep hb; (try clear hb); (try clear hk); (try clear hi); (try clear ho0); obtain ⟨Ao52, co52, eo52⟩ := Kd.R_slice HO688.out; subst eo52) | ((with_reducible refine gate_builtin (b := .append) (xs := #[.tmp 79, .tmp 80]) rfl ?_); at_builtin; refine Kd.R_append_rows (Kd.int .u8) (w0 := w) w.heap.size rfl (.tmp 79) (.tmp 80) 26 5 (.int .u8 0) 1 rfl Try.underlying26 info5 rfl (by decide) (by omega) u6 x6_1 t686 _ _ _ (fun k_ => some k_ ≠ (v678 : Value).ownBlock ∧ some k_ ≠ (.slice Ao48 t680.length co48 : Value).ownBlock ∧ some k_ ≠ (.slice Ao49 y683.length co49 : Value).ownBlock ∧ some k_ ≠ (.slice Ao52 t686.length co52 : Value).ownBlock) (fun _ => False) rfl rfl ?aO ?aR (fun _ _ h => h) (fun _ h => h.elim) ?aF ?aB ?aS ?aL ?_; (case aR => repeat (first | exact (Kd.R_reads' HO688.out).2.2 | (with_reducible refine Kd.C_alloc ?_ _) | (with_reducible refine Kd.C_drewN ?_ _) | (with_reducible refine Kd.C_drew ?_))); (case aB => exact bel); (case aF => exact (fun k_ hk => ⟨Kd.fresh' (Kd.R_lt (rel HO679.out)) k_ hk, Kd.fresh' (Kd.R_lt (rel HO682.out)) k_ hk, Kd.fresh' (Kd.R_lt (rel HO685.out)) k_ hk, Kd.fresh' (Kd.R_lt (rel HO688.out)) k_ hk⟩)); (case aO => exact (by (with_reducible repeat (first | apply Kd.R_alloc | apply Kd.R_drewN | apply Kd.R_drew)); exact Kd.R_mono HO_6.out (fun _ hk => ⟨hk.1.1.1, ⟨hk.1.1.2, ⟨hk.1.2, hk.2⟩⟩⟩))); (case aS => exact (below_size bel)); (case aL => have := LMc40.out; omega); intro v690 w51 ho hb hg hat; rw [← Ny689.out] at ho; have n0_ := aS (Kd.R_over' (rel HO_10.out) (Kd.R_typed (rel HO_6.out)) (by decide) hg); have n1_ := aS (Kd.R_after (ok := (fun k_ => some k_ ≠ (.slice Ao48 t680.length co48 : Value).ownBlock ∧ some k_ ≠ (.slice Ao49 y683.length co49 : Value).ownBlock ∧ some k_ ≠ (.slice Ao52 t686.length co52 : Value).ownBlock)) (by (with_reducible repeat (first | apply Kd.R_alloc | apply Kd.R_drewN | apply Kd.R_drew)); exact Kd.R_mono HO679.out (fun _ hk => ⟨⟨hk.1.1.2, ⟨hk.1.2, hk.2⟩⟩, hk.1.1.1⟩)) hg hat); have n2_ := aS (Kd.R_after (ok := (fun k_ => some k_ ≠ (v678 : Value).ownBlock ∧ some k_ ≠ (.slice Ao49 y683.length co49 : Value).ownBlock ∧ some k_ ≠ (.slice Ao52 t686.length co52 : Value).ownBlock)) (by (with_reducible repeat (first | apply Kd.R_alloc | apply Kd.R_drewN | apply Kd.R_drew)); exact Kd.R_mono HO682.out (fun _ hk => ⟨⟨hk.1.1.2, ⟨hk.1.2, hk.2⟩⟩, hk.1.1.1⟩)) hg hat); have n3_ := aS (Kd.R_after (ok := (fun k_ => some k_ ≠ (v678 : Value).ownBlock ∧ some k_ ≠ (.slice Ao48 t680.length co48 : Value).ownBlock ∧ some k_ ≠ (.slice Ao52 t686.length co52 : Value).ownBlock)) (by (with_reducible repeat (first | apply Kd.R_alloc | apply Kd.R_drewN | apply Kd.R_drew)); exact Kd.R_mono HO685.out (fun _ hk => ⟨⟨hk.1.2.1, ⟨hk.1.2.2, hk.2⟩⟩, hk.1.1⟩)) hg hat); have n4_ := aS (Kd.R_after (ok := (fun k_ => some k_ ≠ (v678 : Value).ownBlock ∧ some k_ ≠ (.slice Ao48 t680.length co48 : Value).ownBlock ∧ some k_ ≠ (.slice Ao49 y683.length co49 : Value).ownBlock)) (by (with_reducible repeat (first | apply Kd.R_alloc | apply Kd.R_drewN | apply Kd.R_drew)); exact Kd.R_mono HO688.out (fun _ hk => ⟨⟨hk.1.1.2, ⟨hk.1.2, hk.2⟩⟩, hk.1.1.1.2⟩)) hg hat); have n5_ := aS (hb); have n6_ := aS (ho); clear HO_10; clear HO679; clear HO682; clear HO685; clear HO688; clear HB; clear HO_6; have HO_10 := n0_; have HO679 := n1_; have HO682 := n2_; have HO685 := n3_; have HO688 := n4_; have HB := n5_; have HO691 := n6_; clear n0_ n1_ n2_ n3_ n4_ n5_ n6_; clear ho hb hg hat) | ((with_reducible refine gate_callee (f := 33) rfl ?_); refine goesL_ (some 84) rfl rfl Try.func33 (by kernel_rfl) rfl #[.int .i64 (t686.length : Int)] rfl agn ?_; (with_reducible refine (shardlogref01_Num.calls (t686.length : Int) t692 _ A41.out).mono ?_); rintro e w53 ⟨v693, rfl, ho0, hb⟩; refine ⟨_, rfl, ?_⟩; replace HO_10 := aS (Kd.R_below (rel HO_10.out) hb); have HO694 := aS (Kd.R_lower (Kd.R_new' (Kd.R_new' (Kd.R_new' (Kd.R_new' (Kd.R_new' ho0 (Kd.R_lt (rel HO679.out))) (Kd.R_lt (rel HO682.out))) (Kd.R_lt (rel HO685.out))) (Kd.R_lt (rel HO688.out))) (Kd.R_lt (rel HO691.out))) (below_size bel)); replace HO679 := aS (Kd.R_elder' (rel HO679.out) (ebs ho0) hb); replace HO682 := aS (Kd.R_elder' (rel HO682.out) (ebs ho0) hb); replace HO685 := aS (Kd.R_elder' (rel HO685.out) (ebs ho0) hb); replace HO688 := aS (Kd.R_elder' (rel HO688.out) (ebs ho0) hb); replace HO691 := aS (Kd.R_elder' (rel HO691.out) (ebs ho0) hb); replace HB := bstep hb; (try clear hb); (try clear hk); (try clear hi); (try clear ho0); obtain ⟨Ao55, co55, eo55⟩ := Kd.R_slice HO694.out; subst eo55) | ((with_reducible refine gate_builtin (b := .append) (xs := #[.tmp 81, .tmp 84]) rfl ?_); at_builtin; refine Kd.R_append_rows (Kd.int .u8) (w0 := w) w.heap.size rfl (.tmp 81) (.tmp 84) 26 5 (.int .u8 0) 1 rfl Try.underlying26 info5 rfl (by decide) (by omega) v690 y689 t692 _ _ _ (fun k_ => some k_ ≠ (v678 : Value).ownBlock ∧ some k_ ≠ (.slice Ao48 t680.length co48 : Value).ownBlock ∧ some k_ ≠ (.slice Ao49 y683.length co49 : Value).ownBlock ∧ some k_ ≠ (.slice Ao52 t686.length co52 : Value).ownBlock ∧ some k_ ≠ (.slice Ao55 t692.length co55 : Value).ownBlock) (fun _ => False) rfl rfl ?aO ?aR (fun _ _ h => h) (fun _ h => h.elim) ?aF ?aB ?aS ?aL ?_; (case aR => repeat (first | exact (Kd.R_reads' HO694.out).2.2 | (with_reducible refine Kd.C_alloc ?_ _) | (with_reducible refine Kd.C_drewN ?_ _) | (with_reducible refine Kd.C_drew ?_))); (case aB => exact bel); (case aF => exact (fun k_ hk => ⟨Kd.fresh' (Kd.R_lt (rel HO679.out)) k_ hk, Kd.fresh' (Kd.R_lt (rel HO682.out)) k_ hk, Kd.fresh' (Kd.R_lt (rel HO685.out)) k_ hk, Kd.fresh' (Kd.R_lt (rel HO688.out)) k_ hk, Kd.fresh' (Kd.R_lt (rel HO694.out)) k_ hk⟩)); (case aO => exact (by (with_reducible repeat (first | apply Kd.R_alloc | apply Kd.R_drewN | apply Kd.R_drew)); exact Kd.R_mono HO691.out (fun _ hk => ⟨hk.1.1, ⟨hk.1.2.1, ⟨hk.1.2.2.1, ⟨hk.1.2.2.2, hk.2⟩⟩⟩⟩))); (case aS => exact (below_size bel)); (case aL => have := LMc42.out; omega); intro v696 w54 ho hb hg hat; rw [← Ny695.out] at ho; have n0_ := aS (Kd.R_over' (rel HO_10.out) (Kd.R_typed (rel HO691.out)) (by decide) hg); have n1_ := aS (Kd.R_after (ok := (fun k_ => some k_ ≠ (.slice Ao48 t680.length co48 : Value).ownBlock ∧ some k_ ≠ (.slice Ao49 y683.length co49 : Value).ownBlock ∧ some k_ ≠ (.slice Ao52 t686.length co52 : Value).ownBlock ∧ some k_ ≠ (.slice Ao55 t692.length co55 : Value).ownBlock)) (by (with_reducible repeat (first | apply Kd.R_alloc | apply Kd.R_drewN | apply Kd.R_drew)); exact Kd.R_mono HO679.out (fun _ hk => ⟨⟨hk.1.1.1, ⟨hk.1.1.2.1, ⟨hk.1.1.2.2, hk.2⟩⟩⟩, hk.1.2⟩)) hg hat); have n2_ := aS (Kd.R_after (ok := (fun k_ => some k_ ≠ (v678 : Value).ownBlock ∧ some k_ ≠ (.slice Ao49 y683.length co49 : Value).ownBlock ∧ some k_ ≠ (.slice Ao52 t686.length co52 : Value).ownBlock ∧ some k_ ≠ (.slice Ao55 t692.length co55 : Value).ownBlock)) (by (with_reducible repeat (first | apply Kd.R_alloc | apply Kd.R_drewN | apply Kd.R_drew)); exact Kd.R_mono HO682.out (fun _ hk => ⟨⟨hk.1.1.1, ⟨hk.1.1.2.1, ⟨hk.1.1.2.2, hk.2⟩⟩⟩, hk.1.2⟩)) hg hat); have n3_ := aS (Kd.R_after (ok := (fun k_ => some k_ ≠ (v678 : Value).ownBlock ∧ some k_ ≠ (.slice Ao48 t680.length co48 : Value).ownBlock ∧ some k_ ≠ (.slice Ao52 t686.length co52 : Value).ownBlock ∧ some k_ ≠ (.slice Ao55 t692.length co55 : Value).ownBlock)) (by (with_reducible repeat (first | apply Kd.R_alloc | apply Kd.R_drewN | apply Kd.R_drew)); exact Kd.R_mono HO685.out (fun _ hk => ⟨⟨hk.1.1.1, ⟨hk.1.1.2.1, ⟨hk.1.1.2.2, hk.2⟩⟩⟩, hk.1.2⟩)) hg hat); have n4_ := aS (Kd.R_after (ok := (fun k_ => some k_ ≠ (v678 : Value).ownBlock ∧ some k_ ≠ (.slice Ao48 t680.length co48 : Value).ownBlock ∧ some k_ ≠ (.slice Ao49 y683.length co49 : Value).ownBlock ∧ some k_ ≠ (.slice Ao55 t692.length co55 : Value).ownBlock)) (by (with_reducible repeat (first | apply Kd.R_alloc | apply Kd.R_drewN | apply Kd.R_drew)); exact Kd.R_mono HO688.out (fun _ hk => ⟨⟨hk.1.1.1, ⟨hk.1.1.2.1, ⟨hk.1.1.2.2, hk.2⟩⟩⟩, hk.1.2⟩)) hg hat); have n5_ := aS (Kd.R_after (ok := (fun k_ => some k_ ≠ (v678 : Value).ownBlock ∧ some k_ ≠ (.slice Ao48 t680.length co48 : Value).ownBlock ∧ some k_ ≠ (.slice Ao49 y683.length co49 : Value).ownBlock ∧ some k_ ≠ (.slice Ao52 t686.length co52 : Value).ownBlock)) (by (with_reducible repeat (first | apply Kd.R_alloc | apply Kd.R_drewN | apply Kd.R_drew)); exact Kd.R_mono HO694.out (fun _ hk => ⟨⟨hk.1.1.1.1.2, ⟨hk.1.1.1.2, ⟨hk.1.1.2, hk.1.2⟩⟩⟩, hk.2⟩)) hg hat); have n6_ := aS (hb); have n7_ := aS (ho); clear HO_10; clear HO679; clear HO682; clear HO685; clear HO688; clear HO694; clear HB; clear HO691; have HO_10 := n0_; have HO679 := n1_; have HO682 := n2_; have HO685 := n3_; have HO688 := n4_; have HO694 := n5_; have HB := n6_; have HO697 := n7_; clear n0_ n1_ n2_ n3_ n4_ n5_ n6_ n7_; clear ho hb hg hat))
          go_ret
          exact ⟨_, rf3, by (with_reducible repeat (first | apply Kd.R_alloc | apply Kd.R_drewN | apply Kd.R_drew)); exact Kd.R_mono HO697.out (fun _ hk => trivial), bel⟩
         ·
          rw [if_neg c42] at H; exact absurd H (by simp)
        ·
         rw [if_neg c40] at H; exact absurd H (by simp)
       ·
        rw [if_neg c38] at H; exact absurd H (by simp)

end Go.Proofs.Ytinhpolmanccgaa.X
