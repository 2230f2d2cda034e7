-- written by a program of this session's, over the kit's print
import Derived.Test.YtinhpolmanccgaaXx0
import Derived.Test.YtinhpolmanccgaaXx9
import Derived.Test.YtinhpolmanccgaaXx11
import Derived.Test.YtinhpolmanccgaaXx13
import Derived.Test.YtinhpolmanccgaaXx14
namespace Go.Proofs.Ytinhpolmanccgaa.X
open Go.RowKit Go.Proofs.YtinhpolmanccgaaW.PrintWords Go.Proofs.YtinhpolmanccgaaW.PrintLast Go.Proofs.YtinhpolmanccgaaW.PrintMore
attribute [local go_sem] max2_int min2_int max_two min_two max_three min_three max_four min_four gtr_str   -- for this text's walks alone
set_option linter.unusedVariables false
set_option linter.unusedSimpArgs false

/-! ### shardlogref12_Build: function 15 -/
mutual
def shardlogref12_Build.l0 : Nat → List (S42) → List (List (S42)) → List Int → List Int → Int → Option (List Int)
 | 0, _, _, _, _, _ => none
 | k + 1, x0, x5, x6, x7, x8 => if x8 < (x5.length : Int) then (if 0 ≤ x8 then (if 0 < ((rd_L7 x5 x8).length : Int) then ((shardlogref08_Put.f k ((rd_T42 (rd_L7 x5 x8) 0).f0) ((rd_T42 (rd_L7 x5 x8) 0).f1) ((rd_T42 (rd_L7 x5 x8) 0).f2) (⟨#[]⟩ : ByteArray) false).bind fun t704 => (if x7.length + t704.length < 140737488355328 then ((some (x7 ++ t704 : List Int)).bind fun y707 => ((shardlogref01_Num.f (x6.length : Int)).bind fun t710 => (if y707.length + t710.length < 140737488355328 then ((shardlogref10_Put.f k (rd_L7 x5 x8)).bind fun t717 => (if x6.length + t717.length < 140737488355328 then (shardlogref12_Build.l0 k x0 x5 (x6 ++ t717) (y707 ++ t710) (wrap64 (x8 + 1))) else (none))) else (none)))) else (none))) else (none)) else (none)) else (shardlogref12_Build.l1 k x0 x6 x7 ([] : List ByteArray) 0)
def shardlogref12_Build.l1 : Nat → List (S42) → List Int → List Int → List ByteArray → Int → Option (List Int)
 | 0, _, _, _, _, _ => none
 | k + 1, x0, x6, x7, x10, x11 => if x11 < (x0.length : Int) then (if 0 ≤ x11 then ((shardlogref12_Key.f ((rd_T42 x0 x11).f0) ((rd_T42 x0 x11).f1)).bind fun t725 => (if x10.length < 8796093022208 then (shardlogref12_Build.l1 k x0 x6 x7 (x10 ++ [t725]) (wrap64 (x11 + 1))) else (none))) else (none)) else ((shardlogref11_Make.f k x10).bind fun t729 => ((shardlogref01_Text.f (strOfNums t729)).bind fun t732 => (if x7.length + t732.length < 140737488355328 then ((shardlogref06_Put.f k (x7 ++ t732)).bind fun t738 => (if x6.length + t738.length < 140737488355328 then ((some (x6 ++ t738 : List Int)).bind fun y741 => ((shardlogref01_Num.f (t738.length : Int)).bind fun t744 => (if y741.length + t744.length < 140737488355328 then (some (y741 ++ t744)) else (none)))) else (none))) else (none))))
end
def shardlogref12_Build.f (k : Nat) (l0 : List (S42)) (a1 : Int) : Option (List Int) := (shardlogref10_Cut.f k l0 a1).bind fun t695 => ((shardlogref01_Num.f (t695.length : Int)).bind fun t698 => (shardlogref12_Build.l0 k l0 t695 ([] : List Int) t698 0))
theorem shardlogref12_Build.mono_l : ∀ k, (∀ y0 y1 y2 y3 y4, LeO (shardlogref12_Build.l0 k y0 y1 y2 y3 y4) (shardlogref12_Build.l0 (k + 1) y0 y1 y2 y3 y4)) ∧ (∀ y0 y1 y2 y3 y4, LeO (shardlogref12_Build.l1 k y0 y1 y2 y3 y4) (shardlogref12_Build.l1 (k + 1) y0 y1 y2 y3 y4))
 | 0 => ⟨fun _ _ _ _ _ r h => by simp [shardlogref12_Build.l0] at h, fun _ _ _ _ _ r h => by simp [shardlogref12_Build.l1] at h⟩
 | k + 1 => by
  obtain ⟨ih0, ih1⟩ := shardlogref12_Build.mono_l k; refine ⟨?_, ?_⟩
  ·
   intro y0 y1 y2 y3 y4
   unfold shardlogref12_Build.l0
   have m0 := @shardlogref06_Put.mono; have m1 := @shardlogref08_Put.mono; have m2 := @shardlogref10_Cut.mono; have m3 := @shardlogref10_Put.mono; have m4 := @shardlogref11_Make.mono; exact lmo
  ·
   intro y0 y1 y2 y3 y4
   unfold shardlogref12_Build.l1
   have m0 := @shardlogref06_Put.mono; have m1 := @shardlogref08_Put.mono; have m2 := @shardlogref10_Cut.mono; have m3 := @shardlogref10_Put.mono; have m4 := @shardlogref11_Make.mono; exact lmo
theorem shardlogref12_Build.mono : ∀ a0 a1 k, LeO (shardlogref12_Build.f k a0 a1) (shardlogref12_Build.f (k + 1) a0 a1) := by
 intro a0 a1 k
 obtain ⟨ih0, ih1⟩ := shardlogref12_Build.mono_l k
 unfold shardlogref12_Build.f
 have m0 := @shardlogref06_Put.mono; have m1 := @shardlogref08_Put.mono; have m2 := @shardlogref10_Cut.mono; have m3 := @shardlogref10_Put.mono; have m4 := @shardlogref11_Make.mono; exact lmo
def shardlogref12_Build.T15 : Bool × List (List Nat × List Nat) := (true, [([], []), ([], []), ([], []), ([1, 2], [1, 2]), ([3], [3]), ([4], [4]), ([], []), ([], []), ([6, 7], [6, 7]), ([8], [8]), ([9], [9]), ([5, 10], [5, 10]), ([11], [11]), ([0, 12, 11], [0, 12]), ([13, 13, 0, 1, 2, 3, 4, 5, 6, 7, 8, 9, 10, 11, 12, 13], [0, 13])])
def shardlogref12_Build.B15 : List Nat := [0, 0, 0, 6, 14, 30, 0, 0, 192, 448, 960, 2046, 4094, 8191, 16383]
theorem shardlogref12_Build.tab15 : rtab .any (opsOf Try.f15 15) = shardlogref12_Build.T15 := by kernel_rfl
theorem shardlogref12_Build.bits15 : waitsOk shardlogref12_Build.T15.2 shardlogref12_Build.B15 = true := by kernel_rfl
set_option maxHeartbeats 8000000 in
set_option maxRecDepth 100000 in
theorem shardlogref12_Build.calls (k : Nat) (A0 : Option Addr) (c0 : Nat) (l0 : List (S42)) (a1 : Int) (r : List Int) (w : World) (hr0 : Kd.C k42 w A0 l0.length l0) (hc0 : l0.length ≤ c0) (h : shardlogref12_Build.f k l0 a1 = some r) :
  Calls Try.prog 15 #[.slice A0 l0.length c0, .int .i64 a1] w fun e w' => ∃ v0_ : Value, e = .returned (v0_) ∧ Kd.R (Kd.int .u8) 5 w' w.heap.size (fun _ => True) v0_ r ∧ Below w.heap.size w w' := by
 have hu42 := Try.underlying42; have HR0 := aS hr0; have HC0 := aS hc0; clear hr0 hc0; have HB := aS (Below.refl w.heap.size w); have H : ((shardlogref10_Cut.f k l0 a1).bind fun t695 => ((shardlogref01_Num.f (t695.length : Int)).bind fun t698 => (shardlogref12_Build.l0 k l0 t695 ([] : List Int) t698 0))) = some r := h; clear h; replace H := obm H; obtain ⟨t695, A30, H⟩ := H; have A3 := aS A30; clear A30; replace H := obm H; obtain ⟨t698, A40, H⟩ := H; have A4 := aS A40; clear A40
 have H' := aS H
 clear H
 go_enter Try.func15, Try.ntmps15
 go_wp2_with (first | ((with_reducible refine gate_callee (f := 20) rfl ?_); refine goesL_ (some 14) rfl rfl Try.func20 (by kernel_rfl) rfl #[.slice A0 l0.length c0, .int .i64 a1] rfl agn ?_; (with_reducible refine (shardlogref10_Cut.calls k _ _ l0 a1 t695 _ ?side1 ?side2 A3.out).mono ?_); (case side1 => exact cel HR0.out); (case side2 => exact HC0.out); rintro e w5 ⟨v696, rfl, ho0, hb⟩; refine ⟨_, rfl, ?_⟩; have HO697 := aS (Kd.S_lower ho0 (below_size bel)); replace HB := bstep hb; (try clear hb); (try clear hk); (try clear hi); (try clear ho0); obtain ⟨Ao6, co6, eo6⟩ := Kd.S_slice HO697.out; subst eo6) | ((with_reducible refine gate_callee (f := 33) rfl ?_); refine goesL_ (some 17) rfl rfl Try.func33 (by kernel_rfl) rfl #[.int .i64 (t695.length : Int)] rfl agn ?_; (with_reducible refine (shardlogref01_Num.calls (t695.length : Int) t698 _ A4.out).mono ?_); rintro e w7 ⟨v699, rfl, ho0, hb⟩; refine ⟨_, rfl, ?_⟩; replace HO697 := aS (Kd.S_below (by (with_reducible repeat (first | apply Kd.S_alloc | apply Kd.S_drewN | apply Kd.S_drew)); exact HO697.out) hb); have HO700 := aS (Kd.R_lower ho0 (below_size bel)); replace HB := bstep hb; (try clear hb); (try clear hk); (try clear hi); (try clear ho0)))
 go_loopg [6, 7, 8] k (fun kq v6 v7 v8 w' => ∃ (x6_1 : List Int) (x7_1 : List Int) (x8_1 : Int), v8 = .int .i64 x8_1 ∧ Aside0 (shardlogref12_Build.l0 kq l0 t695 x6_1 x7_1 x8_1 = some r) ∧ Aside0 (kq ≤ k) ∧ Aside0 (Kd.S (Kd.slice 42 k42) 22 w' w.heap.size (fun _ => True) (.slice Ao6 t695.length co6) t695) ∧ Aside0 (Kd.R (Kd.int .u8) 5 w' w.heap.size (fun k_ => some k_ ≠ (v7 : Value).ownBlock) v6 x6_1) ∧ Aside0 (Kd.R (Kd.int .u8) 5 w' w.heap.size (fun k_ => some k_ ≠ (v6 : Value).ownBlock) v7 x7_1) ∧ Aside0 (Below w.heap.size w w'))
 case atStart => exact ⟨(([] : List Int)), (t698), (0), srf, H', ⟨Nat.le_refl _⟩, ⟨by (with_reducible repeat (first | apply Kd.S_alloc | apply Kd.S_drewN | apply Kd.S_drew)); exact HO697.out⟩, ⟨by first | exact Kd.R_nil _ _ _ _ _ | exact Kd.N_nil _ _ _ _ _ | exact Kd.V_nil _ _ _ _ _ | exact Kd.Q_nil _ _ _ _ _ | exact Kd.S_nil _ _ _ _ _⟩, ⟨by (with_reducible repeat (first | apply Kd.R_alloc | apply Kd.R_drewN | apply Kd.R_drew)); exact Kd.R_mono HO700.out (fun _ hk => (by simp [Value.ownBlock]))⟩, ⟨bel⟩⟩
 case round =>
  clear H'; obtain ⟨x6_1, x7_1, x8_1, rfl, HA, HK1, HO_5, HO_6, HO_7, HB⟩ := hrel
  cases gk with
  | zero => exact absurd HA.out (by simp [shardlogref12_Build.l0])
  | succ k1 =>
   have H := HA.out; clear HA
   simp only [shardlogref12_Build.l0] at H
   by_cases c8 : x8_1 < (t695.length : Int)
   ·
    rw [if_pos c8] at H; have c8b0 : decide (x8_1 < (t695.length : Int)) = true := decide_eq_true c8; clear c8
    by_cases c9 : 0 ≤ x8_1
    ·
     rw [if_pos c9] at H; have c9b0 : decide (0 ≤ x8_1) = true := decide_eq_true c9; clear c9
     by_cases c10 : 0 < ((rd_L7 t695 x8_1).length : Int)
     ·
      rw [if_pos c10] at H; have c10b0 : decide (0 < ((rd_L7 t695 x8_1).length : Int)) = true := decide_eq_true c10; have c10b1 : decide (0 < (rd_L7 t695 x8_1).length) = true := decide_eq_true (by omega); clear c10; replace H := obm H; obtain ⟨t704, A110, H⟩ := H; have A11 := aS A110; clear A110
      by_cases c12 : x7_1.length + t704.length < 140737488355328
      ·
       rw [if_pos c12] at H; have LMc12 := aS c12; clear c12
       obtain ⟨y707, hy707⟩ : ∃ y_ : List Int, y_ = (x7_1 ++ t704) := ⟨_, rfl⟩
       (first | replace H := hyn hy707 H | rw [← hy707] at H); have Ny707 := aS hy707; clear hy707; replace H := obm H; obtain ⟨t710, A130, H⟩ := H; have A13 := aS A130; clear A130
       by_cases c14 : y707.length + t710.length < 140737488355328
       ·
        rw [if_pos c14] at H; have LMc14 := aS c14; clear c14
        obtain ⟨y713, hy713⟩ : ∃ y_ : List Int, y_ = (y707 ++ t710) := ⟨_, rfl⟩
        (first | replace H := hyn hy713 H | rw [← hy713] at H); have Ny713 := aS hy713; clear hy713; replace H := obm H; obtain ⟨t717, A150, H⟩ := H; have A15 := aS A150; clear A150
        by_cases c16 : x6_1.length + t717.length < 140737488355328
        ·
         rw [if_pos c16] at H; have LMc16 := aS c16; clear c16
         obtain ⟨y720, hy720⟩ : ∃ y_ : List Int, y_ = (x6_1 ++ t717) := ⟨_, rfl⟩
         (first | replace H := hyn hy720 H | rw [← hy720] at H); have Ny720 := aS hy720; clear hy720
         have H' := aS H
         clear H; have p701 : 0 ≤ (x8_1 : Int) := oda; have q701 : x8_1 < (t695.length : Int) := oda; obtain ⟨ad701, A701_0, c701_0, e701, hx701_0, hl701_0, hi701_0⟩ := at_L7 (Kd.S_reads' HO_5.out).2.2 x8_1 p701 q701; cases e701; obtain ⟨ce701, hce701, hMe701, hcc701⟩ := Kd.S_get HO_5.out [] x8_1 p701 (by first | exact q701 | exact oda | (have e_ := (Kd.S_reads' HO_5.out).1; omega)); obtain ⟨ve701_0, rfl, ge701_0⟩ := hMe701; have hv701_0 := hcc701 0 _ rfl; rw [Nat.add_zero, show ((Kd.slice 42 k42)).sz = 1 from rfl, Nat.mul_one] at hv701_0; replace hv701_0 := Option.some.inj (hv701_0.symm.trans hx701_0); rw [hv701_0] at ge701_0; have HL701_0 := aS (show Kd.R k42 42 _ _ _ _ (rd_L7 t695 x8_1) from ge701_0); clear hv701_0 ge701_0; clear hcc701 hce701; have HR701_0 := aS hi701_0; have HC701_0 := aS hl701_0; clear hi701_0 hl701_0; replace p701 := eq_true p701; replace q701 := eq_true q701; have p702 : 0 ≤ (0 : Int) := (by omega); have q702 : 0 < ((rd_L7 t695 x8_1).length : Int) := oda; obtain ⟨ad702, e702, hx702_0, hx702_1, hx702_2, hx702_3, hx702_4⟩ := at_T42 (by repeat (first | (with_reducible exact HR701_0.out) | (with_reducible refine Kd.C_alloc ?_ _) | (with_reducible refine Kd.C_drewN ?_ _) | (with_reducible refine Kd.C_drew ?_) | exact HR701_0.out)) 0 p702 q702; cases e702; have qi702 : (0 < (rd_L7 t695 x8_1).length) = True := eq_true (by omega)
         (try rw [show ((0 : Int)).toNat = 0 from rfl] at hx702_0)
         (try rw [show 0 * 5 = 0 from rfl] at hx702_0)
         (try rw [Addr.add_zero'] at hx702_0)
         (try rw [show ((0 : Int)).toNat = 0 from rfl] at hx702_1)
         (try rw [show 0 * 5 = 0 from rfl] at hx702_1)
         (try rw [Addr.add_zero'] at hx702_1)
         (try rw [show ((0 : Int)).toNat = 0 from rfl] at hx702_2)
         (try rw [show 0 * 5 = 0 from rfl] at hx702_2)
         (try rw [Addr.add_zero'] at hx702_2)
         (try rw [show ((0 : Int)).toNat = 0 from rfl] at hx702_3)
         (try rw [show 0 * 5 = 0 from rfl] at hx702_3)
         (try rw [Addr.add_zero'] at hx702_3)
         (try rw [show ((0 : Int)).toNat = 0 from rfl] at hx702_4)
         (try rw [show 0 * 5 = 0 from rfl] at hx702_4)
         (try rw [Addr.add_zero'] at hx702_4)
         replace p702 := eq_true p702; replace q702 := eq_true q702
         go_wp2_with (first | ((with_reducible refine gate_dst (N := 9) rfl ?_); refine box_event ?hg (N := 9) ?hd (cs := #[.string (⟨#[]⟩ : ByteArray), .string (⟨#[]⟩ : ByteArray), .int .i64 0, .string (⟨#[]⟩ : ByteArray), .bool false]) (t := 42) ?hr ?_; (case hd => rfl); (case hg => rfl); (case hr => first | (go_simp; done) | (go_simp; rfl)); intro gb703 hg w17 hbox hb; replace HO_5 := aS (Kd.S_below (Kd.S_elderB (by (with_reducible repeat (first | apply Kd.S_alloc | apply Kd.S_drewN | apply Kd.S_drew)); exact HO_5.out) gb703 (Nat.le_of_eq hg.symm)) hb); replace HO_6 := aS (Kd.R_below (rel HO_6.out) hb); replace HO_7 := aS (Kd.R_below (rel HO_7.out) hb); replace HL701_0 := aS (Kd.R_below (Kd.R_elderB (rel HL701_0.out) gb703 (Nat.le_of_eq hg.symm)) hb); replace HR701_0 := aS (Kd.C_below (by repeat (first | (with_reducible exact HR701_0.out) | (with_reducible refine Kd.C_alloc ?_ _) | (with_reducible refine Kd.C_drewN ?_ _) | (with_reducible refine Kd.C_drew ?_) | exact HR701_0.out)) hb); have BK703 := aS (hbox); have GW703 := bsize hg; have GE703 := bsize hg; replace HB := bstep hb; clear hb hbox hg; have hcz18 := cK5 BK703) | ((with_reducible refine gate_callee (f := 34) rfl ?_); refine goesL_ (some 38) rfl rfl Try.func34 (by kernel_rfl) rfl #[.agg #[.string ((rd_T42 (rd_L7 t695 x8_1) 0).f0), .string ((rd_T42 (rd_L7 t695 x8_1) 0).f1), .int .i64 ((rd_T42 (rd_L7 t695 x8_1) 0).f2), .string (⟨#[]⟩ : ByteArray), .bool false]] rfl agn ?_; (with_reducible refine (shardlogref08_Put.calls k1 ((rd_T42 (rd_L7 t695 x8_1) 0).f0) ((rd_T42 (rd_L7 t695 x8_1) 0).f1) ((rd_T42 (rd_L7 t695 x8_1) 0).f2) (⟨#[]⟩ : ByteArray) false t704 _ A11.out).mono ?_); rintro e w19 ⟨v705, rfl, ho0, hb⟩; refine ⟨_, rfl, ?_⟩; replace HO_5 := aS (Kd.S_below (by (with_reducible repeat (first | apply Kd.S_alloc | apply Kd.S_drewN | apply Kd.S_drew)); exact (Kd.S_mono (Kd.S_far (p := ⟨gb703, 4, none⟩) (Kd.S_far (p := ⟨gb703, 3, none⟩) (Kd.S_far (p := ⟨gb703, 2, none⟩) (Kd.S_far (p := ⟨gb703, 1, none⟩) (Kd.S_far (p := ⟨gb703, 0, none⟩) (Kd.S_mono HO_5.out (fun k_ hk => (⟨hk, hk.2⟩ : _ ∧ k_ ≠ gb703))) (fun _ hk => hk.2) (.string ((rd_T42 (rd_L7 t695 x8_1) 0).f0))) (fun _ hk => hk.2) (.string ((rd_T42 (rd_L7 t695 x8_1) 0).f1))) (fun _ hk => hk.2) (.int .i64 ((rd_T42 (rd_L7 t695 x8_1) 0).f2))) (fun _ hk => hk.2) (.string ((rd_T42 (rd_L7 t695 x8_1) 0).f3))) (fun _ hk => hk.2) (.bool ((rd_T42 (rd_L7 t695 x8_1) 0).f4))) (fun _ h_ => h_.1))) hb); have HO706 := aS (Kd.R_lower (Kd.R_new' (Kd.R_new' ho0 (Kd.R_lt (by (with_reducible repeat (first | apply Kd.R_alloc | apply Kd.R_drewN | apply Kd.R_drew)); exact (Kd.R_mono (Kd.R_far (p := ⟨gb703, 4, none⟩) (Kd.R_far (p := ⟨gb703, 3, none⟩) (Kd.R_far (p := ⟨gb703, 2, none⟩) (Kd.R_far (p := ⟨gb703, 1, none⟩) (Kd.R_far (p := ⟨gb703, 0, none⟩) (Kd.R_types HO_6.out BK703.out (by decide)) (fun _ hk => hk.2) (.string ((rd_T42 (rd_L7 t695 x8_1) 0).f0))) (fun _ hk => hk.2) (.string ((rd_T42 (rd_L7 t695 x8_1) 0).f1))) (fun _ hk => hk.2) (.int .i64 ((rd_T42 (rd_L7 t695 x8_1) 0).f2))) (fun _ hk => hk.2) (.string ((rd_T42 (rd_L7 t695 x8_1) 0).f3))) (fun _ hk => hk.2) (.bool ((rd_T42 (rd_L7 t695 x8_1) 0).f4))) (fun _ h_ => h_.1))))) (Kd.R_lt (by (with_reducible repeat (first | apply Kd.R_alloc | apply Kd.R_drewN | apply Kd.R_drew)); exact (Kd.R_mono (Kd.R_far (p := ⟨gb703, 4, none⟩) (Kd.R_far (p := ⟨gb703, 3, none⟩) (Kd.R_far (p := ⟨gb703, 2, none⟩) (Kd.R_far (p := ⟨gb703, 1, none⟩) (Kd.R_far (p := ⟨gb703, 0, none⟩) (Kd.R_types HO_7.out BK703.out (by decide)) (fun _ hk => hk.2) (.string ((rd_T42 (rd_L7 t695 x8_1) 0).f0))) (fun _ hk => hk.2) (.string ((rd_T42 (rd_L7 t695 x8_1) 0).f1))) (fun _ hk => hk.2) (.int .i64 ((rd_T42 (rd_L7 t695 x8_1) 0).f2))) (fun _ hk => hk.2) (.string ((rd_T42 (rd_L7 t695 x8_1) 0).f3))) (fun _ hk => hk.2) (.bool ((rd_T42 (rd_L7 t695 x8_1) 0).f4))) (fun _ h_ => h_.1))))) (below_size bel)); replace HO_6 := aS (Kd.R_elder' (by (with_reducible repeat (first | apply Kd.R_alloc | apply Kd.R_drewN | apply Kd.R_drew)); exact (Kd.R_mono (Kd.R_far (p := ⟨gb703, 4, none⟩) (Kd.R_far (p := ⟨gb703, 3, none⟩) (Kd.R_far (p := ⟨gb703, 2, none⟩) (Kd.R_far (p := ⟨gb703, 1, none⟩) (Kd.R_far (p := ⟨gb703, 0, none⟩) (Kd.R_types HO_6.out BK703.out (by decide)) (fun _ hk => hk.2) (.string ((rd_T42 (rd_L7 t695 x8_1) 0).f0))) (fun _ hk => hk.2) (.string ((rd_T42 (rd_L7 t695 x8_1) 0).f1))) (fun _ hk => hk.2) (.int .i64 ((rd_T42 (rd_L7 t695 x8_1) 0).f2))) (fun _ hk => hk.2) (.string ((rd_T42 (rd_L7 t695 x8_1) 0).f3))) (fun _ hk => hk.2) (.bool ((rd_T42 (rd_L7 t695 x8_1) 0).f4))) (fun _ h_ => h_.1))) (ebs ho0) hb); replace HO_7 := aS (Kd.R_elder' (by (with_reducible repeat (first | apply Kd.R_alloc | apply Kd.R_drewN | apply Kd.R_drew)); exact (Kd.R_mono (Kd.R_far (p := ⟨gb703, 4, none⟩) (Kd.R_far (p := ⟨gb703, 3, none⟩) (Kd.R_far (p := ⟨gb703, 2, none⟩) (Kd.R_far (p := ⟨gb703, 1, none⟩) (Kd.R_far (p := ⟨gb703, 0, none⟩) (Kd.R_types HO_7.out BK703.out (by decide)) (fun _ hk => hk.2) (.string ((rd_T42 (rd_L7 t695 x8_1) 0).f0))) (fun _ hk => hk.2) (.string ((rd_T42 (rd_L7 t695 x8_1) 0).f1))) (fun _ hk => hk.2) (.int .i64 ((rd_T42 (rd_L7 t695 x8_1) 0).f2))) (fun _ hk => hk.2) (.string ((rd_T42 (rd_L7 t695 x8_1) 0).f3))) (fun _ hk => hk.2) (.bool ((rd_T42 (rd_L7 t695 x8_1) 0).f4))) (fun _ h_ => h_.1))) (ebs ho0) hb); replace HR701_0 := aS (Kd.C_below ((Kd.R_reads' (by (with_reducible repeat (first | apply Kd.R_alloc | apply Kd.R_drewN | apply Kd.R_drew)); exact (Kd.R_mono (Kd.R_far (p := ⟨gb703, 4, none⟩) (Kd.R_far (p := ⟨gb703, 3, none⟩) (Kd.R_far (p := ⟨gb703, 2, none⟩) (Kd.R_far (p := ⟨gb703, 1, none⟩) (Kd.R_far (p := ⟨gb703, 0, none⟩) (Kd.R_mono HL701_0.out (fun k_ hk => (⟨hk, hk.2⟩ : _ ∧ k_ ≠ gb703))) (fun _ hk => hk.2) (.string ((rd_T42 (rd_L7 t695 x8_1) 0).f0))) (fun _ hk => hk.2) (.string ((rd_T42 (rd_L7 t695 x8_1) 0).f1))) (fun _ hk => hk.2) (.int .i64 ((rd_T42 (rd_L7 t695 x8_1) 0).f2))) (fun _ hk => hk.2) (.string ((rd_T42 (rd_L7 t695 x8_1) 0).f3))) (fun _ hk => hk.2) (.bool ((rd_T42 (rd_L7 t695 x8_1) 0).f4))) (fun _ h_ => h_.1)))).2.2) hb); replace HL701_0 := aS (Kd.R_below (by (with_reducible repeat (first | apply Kd.R_alloc | apply Kd.R_drewN | apply Kd.R_drew)); exact (Kd.R_mono (Kd.R_far (p := ⟨gb703, 4, none⟩) (Kd.R_far (p := ⟨gb703, 3, none⟩) (Kd.R_far (p := ⟨gb703, 2, none⟩) (Kd.R_far (p := ⟨gb703, 1, none⟩) (Kd.R_far (p := ⟨gb703, 0, none⟩) (Kd.R_mono HL701_0.out (fun k_ hk => (⟨hk, hk.2⟩ : _ ∧ k_ ≠ gb703))) (fun _ hk => hk.2) (.string ((rd_T42 (rd_L7 t695 x8_1) 0).f0))) (fun _ hk => hk.2) (.string ((rd_T42 (rd_L7 t695 x8_1) 0).f1))) (fun _ hk => hk.2) (.int .i64 ((rd_T42 (rd_L7 t695 x8_1) 0).f2))) (fun _ hk => hk.2) (.string ((rd_T42 (rd_L7 t695 x8_1) 0).f3))) (fun _ hk => hk.2) (.bool ((rd_T42 (rd_L7 t695 x8_1) 0).f4))) (fun _ h_ => h_.1))) hb); replace BK703 := aS (blk_below (g := gb703) (o := .cells #[.string ((rd_T42 (rd_L7 t695 x8_1) 0).f0), .string ((rd_T42 (rd_L7 t695 x8_1) 0).f1), .int .i64 ((rd_T42 (rd_L7 t695 x8_1) 0).f2), .string ((rd_T42 (rd_L7 t695 x8_1) 0).f3), .bool ((rd_T42 (rd_L7 t695 x8_1) 0).f4)] 42 (0, 0)) (by (with_reducible repeat (first | refine blk_drewN ?_ _ | refine blk_drew ?_ | refine blk_alloc ?_ _)); refine blk_put (cs := #[.string ((rd_T42 (rd_L7 t695 x8_1) 0).f0), .string ((rd_T42 (rd_L7 t695 x8_1) 0).f1), .int .i64 ((rd_T42 (rd_L7 t695 x8_1) 0).f2), .string ((rd_T42 (rd_L7 t695 x8_1) 0).f3), .bool false]) ?_ 4 _ rfl; (with_reducible repeat (first | refine blk_drewN ?_ _ | refine blk_drew ?_ | refine blk_alloc ?_ _)); refine blk_put (cs := #[.string ((rd_T42 (rd_L7 t695 x8_1) 0).f0), .string ((rd_T42 (rd_L7 t695 x8_1) 0).f1), .int .i64 ((rd_T42 (rd_L7 t695 x8_1) 0).f2), .string (⟨#[]⟩ : ByteArray), .bool false]) ?_ 3 _ rfl; (with_reducible repeat (first | refine blk_drewN ?_ _ | refine blk_drew ?_ | refine blk_alloc ?_ _)); refine blk_put (cs := #[.string ((rd_T42 (rd_L7 t695 x8_1) 0).f0), .string ((rd_T42 (rd_L7 t695 x8_1) 0).f1), .int .i64 0, .string (⟨#[]⟩ : ByteArray), .bool false]) ?_ 2 _ rfl; (with_reducible repeat (first | refine blk_drewN ?_ _ | refine blk_drew ?_ | refine blk_alloc ?_ _)); refine blk_put (cs := #[.string ((rd_T42 (rd_L7 t695 x8_1) 0).f0), .string (⟨#[]⟩ : ByteArray), .int .i64 0, .string (⟨#[]⟩ : ByteArray), .bool false]) ?_ 1 _ rfl; (with_reducible repeat (first | refine blk_drewN ?_ _ | refine blk_drew ?_ | refine blk_alloc ?_ _)); refine blk_put (cs := #[.string (⟨#[]⟩ : ByteArray), .string (⟨#[]⟩ : ByteArray), .int .i64 0, .string (⟨#[]⟩ : ByteArray), .bool false]) ?_ 0 _ rfl; (with_reducible repeat (first | refine blk_drewN ?_ _ | refine blk_drew ?_ | refine blk_alloc ?_ _)); exact BK703.out) hb); replace HB := bstep hb; (try clear hb); (try clear hk); (try clear hi); (try clear ho0); obtain ⟨Ao21, co21, eo21⟩ := Kd.R_slice HO706.out; subst eo21) | ((with_reducible refine gate_builtin (b := .append) (xs := #[.tmp 30, .tmp 38]) rfl ?_); at_builtin; refine Kd.R_append_rows (Kd.int .u8) (w0 := w) w.heap.size rfl (.tmp 30) (.tmp 38) 26 5 (.int .u8 0) 1 rfl Try.underlying26 info5 rfl (by decide) (by omega) u7 x7_1 t704 _ _ _ (fun k_ => some k_ ≠ (u6 : Value).ownBlock ∧ some k_ ≠ (.slice Ao21 t704.length co21 : Value).ownBlock) (fun _ => False) rfl rfl ?aO ?aR (fun _ _ h => h) (fun _ h => h.elim) ?aF ?aB ?aS ?aL ?_; (case aR => exact cel ((Kd.R_reads' HO706.out).2.2)); (case aB => exact bel); (case aF => exact (fun k_ hk => ⟨Kd.fresh' (Kd.R_lt (rel HO_6.out)) k_ hk, Kd.fresh' (Kd.R_lt (rel HO706.out)) k_ hk⟩)); (case aO => exact (rel HO_7.out)); (case aS => exact (below_size bel)); (case aL => have := LMc12.out; omega); intro v708 w20 ho hb hg hat; rw [← Ny707.out] at ho; have n0_ := aS (Kd.S_over' (by (with_reducible repeat (first | apply Kd.S_alloc | apply Kd.S_drewN | apply Kd.S_drew)); exact HO_5.out) (Kd.R_typed (rel HO_7.out)) (by decide) hg); have n1_ := aS (Kd.R_after (ok := (fun k_ => some k_ ≠ (.slice Ao21 t704.length co21 : Value).ownBlock)) (by (with_reducible repeat (first | apply Kd.R_alloc | apply Kd.R_drewN | apply Kd.R_drew)); exact Kd.R_mono HO_6.out (fun _ hk => ⟨hk.2, hk.1⟩)) hg hat); have n2_ := aS (Kd.R_over' (rel HL701_0.out) (Kd.R_typed (rel HO_7.out)) (by decide) hg); have n3_ := aS (blk_grown (g := gb703) (o := .cells #[.string ((rd_T42 (rd_L7 t695 x8_1) 0).f0), .string ((rd_T42 (rd_L7 t695 x8_1) 0).f1), .int .i64 ((rd_T42 (rd_L7 t695 x8_1) 0).f2), .string ((rd_T42 (rd_L7 t695 x8_1) 0).f3), .bool ((rd_T42 (rd_L7 t695 x8_1) 0).f4)] 42 (0, 0)) (bkl BK703.out) hg (Kd.R_ne HO_7.out BK703.out (by decide))); have n4_ := aS (Kd.R_after (ok := (fun k_ => some k_ ≠ (u6 : Value).ownBlock)) (by (with_reducible repeat (first | apply Kd.R_alloc | apply Kd.R_drewN | apply Kd.R_drew)); exact Kd.R_mono HO706.out (fun _ hk => ⟨hk.1.2, hk.2⟩)) hg hat); have n5_ := aS (hb); have n6_ := aS (ho); clear HO_5; clear HO_6; clear HL701_0; clear BK703; clear HO706; clear HB; clear HO_7; have HO_5 := n0_; have HO_6 := n1_; have HL701_0 := n2_; have BK703 := n3_; have HO706 := n4_; have HB := n5_; have HO709 := n6_; clear n0_ n1_ n2_ n3_ n4_ n5_ n6_; clear ho hb hg hat; obtain ⟨Ao22, co22, eo22⟩ := Kd.R_slice HO_6.out; subst eo22) | ((with_reducible refine gate_callee (f := 33) rfl ?_); refine goesL_ (some 43) rfl rfl Try.func33 (by kernel_rfl) rfl #[.int .i64 (x6_1.length : Int)] rfl agn ?_; (with_reducible refine (shardlogref01_Num.calls (x6_1.length : Int) t710 _ A13.out).mono ?_); rintro e w23 ⟨v711, rfl, ho0, hb⟩; refine ⟨_, rfl, ?_⟩; replace HO_5 := aS (Kd.S_below (by (with_reducible repeat (first | apply Kd.S_alloc | apply Kd.S_drewN | apply Kd.S_drew)); exact HO_5.out) hb); replace HL701_0 := aS (Kd.R_below (rel HL701_0.out) hb); have HO712 := aS (Kd.R_lower (Kd.R_new' (Kd.R_new' (Kd.R_new' ho0 (Kd.R_lt (rel HO_6.out))) (Kd.R_lt (rel HO706.out))) (Kd.R_lt (rel HO709.out))) (below_size bel)); replace HO_6 := aS (Kd.R_elder' (rel HO_6.out) (ebs ho0) hb); replace HO706 := aS (Kd.R_elder' (rel HO706.out) (ebs ho0) hb); replace HO709 := aS (Kd.R_elder' (rel HO709.out) (ebs ho0) hb); replace BK703 := bbl BK703 hb; replace HB := bstep hb; (try clear hb); (try clear hk); (try clear hi); (try clear ho0); obtain ⟨Ao25, co25, eo25⟩ := Kd.R_slice HO712.out; subst eo25) | ((with_reducible refine gate_builtin (b := .append) (xs := #[.tmp 40, .tmp 43]) rfl ?_); at_builtin; refine Kd.R_append_rows (Kd.int .u8) (w0 := w) w.heap.size rfl (.tmp 40) (.tmp 43) 26 5 (.int .u8 0) 1 rfl Try.underlying26 info5 rfl (by decide) (by omega) v708 y707 t710 _ _ _ (fun k_ => some k_ ≠ (.slice Ao22 x6_1.length co22 : Value).ownBlock ∧ some k_ ≠ (.slice Ao21 t704.length co21 : Value).ownBlock ∧ some k_ ≠ (.slice Ao25 t710.length co25 : Value).ownBlock) (fun _ => False) rfl rfl ?aO ?aR (fun _ _ h => h) (fun _ h => h.elim) ?aF ?aB ?aS ?aL ?_; (case aR => exact cel ((Kd.R_reads' HO712.out).2.2)); (case aB => exact bel); (case aF => exact (fun k_ hk => ⟨Kd.fresh' (Kd.R_lt (rel HO_6.out)) k_ hk, Kd.fresh' (Kd.R_lt (rel HO706.out)) k_ hk, Kd.fresh' (Kd.R_lt (rel HO712.out)) k_ hk⟩)); (case aO => exact (by (with_reducible repeat (first | apply Kd.R_alloc | apply Kd.R_drewN | apply Kd.R_drew)); exact Kd.R_mono HO709.out (fun _ hk => ⟨hk.1.1, ⟨hk.1.2, hk.2⟩⟩))); (case aS => exact (below_size bel)); (case aL => have := LMc14.out; omega); intro v714 w24 ho hb hg hat; rw [← Ny713.out] at ho; have n0_ := aS (Kd.S_over' (by (with_reducible repeat (first | apply Kd.S_alloc | apply Kd.S_drewN | apply Kd.S_drew)); exact HO_5.out) (Kd.R_typed (rel HO709.out)) (by decide) hg); have n1_ := aS (Kd.R_after (ok := (fun k_ => some k_ ≠ (.slice Ao21 t704.length co21 : Value).ownBlock ∧ some k_ ≠ (.slice Ao25 t710.length co25 : Value).ownBlock)) (by (with_reducible repeat (first | apply Kd.R_alloc | apply Kd.R_drewN | apply Kd.R_drew)); exact Kd.R_mono HO_6.out (fun _ hk => ⟨⟨hk.1.1, hk.2⟩, hk.1.2⟩)) hg hat); have n2_ := aS (Kd.R_over' (rel HL701_0.out) (Kd.R_typed (rel HO709.out)) (by decide) hg); have n3_ := aS (blk_grown (g := gb703) (o := .cells #[.string ((rd_T42 (rd_L7 t695 x8_1) 0).f0), .string ((rd_T42 (rd_L7 t695 x8_1) 0).f1), .int .i64 ((rd_T42 (rd_L7 t695 x8_1) 0).f2), .string ((rd_T42 (rd_L7 t695 x8_1) 0).f3), .bool ((rd_T42 (rd_L7 t695 x8_1) 0).f4)] 42 (0, 0)) (bkl BK703.out) hg (Kd.R_ne HO709.out BK703.out (by decide))); have n4_ := aS (Kd.R_after (ok := (fun k_ => some k_ ≠ (.slice Ao22 x6_1.length co22 : Value).ownBlock ∧ some k_ ≠ (.slice Ao25 t710.length co25 : Value).ownBlock)) (by (with_reducible repeat (first | apply Kd.R_alloc | apply Kd.R_drewN | apply Kd.R_drew)); exact Kd.R_mono HO706.out (fun _ hk => ⟨⟨hk.1.1, hk.2⟩, hk.1.2⟩)) hg hat); have n5_ := aS (Kd.R_after (ok := (fun k_ => some k_ ≠ (.slice Ao22 x6_1.length co22 : Value).ownBlock ∧ some k_ ≠ (.slice Ao21 t704.length co21 : Value).ownBlock)) (by (with_reducible repeat (first | apply Kd.R_alloc | apply Kd.R_drewN | apply Kd.R_drew)); exact Kd.R_mono HO712.out (fun _ hk => ⟨⟨hk.1.1.2, hk.1.2⟩, hk.2⟩)) hg hat); have n6_ := aS (hb); have n7_ := aS (ho); clear HO_5; clear HO_6; clear HL701_0; clear BK703; clear HO706; clear HO712; clear HB; clear HO709; have HO_5 := n0_; have HO_6 := n1_; have HL701_0 := n2_; have BK703 := n3_; have HO706 := n4_; have HO712 := n5_; have HB := n6_; have HO715 := n7_; clear n0_ n1_ n2_ n3_ n4_ n5_ n6_ n7_; clear ho hb hg hat; have p716 : 0 ≤ (x8_1 : Int) := oda; have q716 : x8_1 < (t695.length : Int) := oda; obtain ⟨ad716, A716_0, c716_0, e716, hx716_0, hl716_0, hi716_0⟩ := at_L7 (Kd.S_reads' HO_5.out).2.2 x8_1 p716 q716; obtain rfl : ad701 = ad716 := (by injection e716); obtain ⟨ce716, hce716, hMe716, hcc716⟩ := Kd.S_get HO_5.out [] x8_1 p716 (by first | exact q716 | exact oda | (have e_ := (Kd.S_reads' HO_5.out).1; omega)); obtain ⟨ve716_0, rfl, ge716_0⟩ := hMe716; have hv716_0 := hcc716 0 _ rfl; rw [Nat.add_zero, show ((Kd.slice 42 k42)).sz = 1 from rfl, Nat.mul_one] at hv716_0; replace hv716_0 := Option.some.inj (hv716_0.symm.trans hx716_0); rw [hv716_0] at ge716_0; have HL716_0 := aS (show Kd.R k42 42 _ _ _ _ (rd_L7 t695 x8_1) from ge716_0); clear hv716_0 ge716_0; clear hcc716 hce716; have HR716_0 := aS hi716_0; have HC716_0 := aS hl716_0; clear hi716_0 hl716_0; replace p716 := eq_true p716; replace q716 := eq_true q716) | ((with_reducible refine gate_callee (f := 35) rfl ?_); refine goesL_ (some 50) rfl rfl Try.func35 (by kernel_rfl) rfl #[.slice A716_0 (rd_L7 t695 x8_1).length c716_0] rfl agn ?_; (with_reducible refine (shardlogref10_Put.calls k1 _ _ (rd_L7 t695 x8_1) t717 _ ?side1 ?side2 A15.out).mono ?_); (case side1 => repeat (first | exact (by repeat (first | (with_reducible exact HR716_0.out) | (with_reducible refine Kd.C_alloc ?_ _) | (with_reducible refine Kd.C_drewN ?_ _) | (with_reducible refine Kd.C_drew ?_) | exact HR716_0.out)) | (with_reducible refine Kd.C_alloc ?_ _) | (with_reducible refine Kd.C_drewN ?_ _) | (with_reducible refine Kd.C_drew ?_))); (case side2 => exact HC716_0.out); rintro e w26 ⟨v718, rfl, ho0, hb⟩; refine ⟨_, rfl, ?_⟩; replace HO_5 := aS (Kd.S_below (by (with_reducible repeat (first | apply Kd.S_alloc | apply Kd.S_drewN | apply Kd.S_drew)); exact HO_5.out) hb); replace HL701_0 := aS (Kd.R_below (rel HL701_0.out) hb); replace HL716_0 := aS (Kd.R_below (rel HL716_0.out) hb); have HO719 := aS (Kd.R_lower (Kd.R_new' (Kd.R_new' (Kd.R_new' (Kd.R_new' ho0 (Kd.R_lt (rel HO_6.out))) (Kd.R_lt (rel HO706.out))) (Kd.R_lt (rel HO712.out))) (Kd.R_lt (rel HO715.out))) (below_size bel)); replace HO_6 := aS (Kd.R_elder' (rel HO_6.out) (ebs ho0) hb); replace HO706 := aS (Kd.R_elder' (rel HO706.out) (ebs ho0) hb); replace HO712 := aS (Kd.R_elder' (rel HO712.out) (ebs ho0) hb); replace HO715 := aS (Kd.R_elder' (rel HO715.out) (ebs ho0) hb); replace BK703 := bbl BK703 hb; replace HR716_0 := aS (Kd.C_below (by repeat (first | (with_reducible exact HR716_0.out) | (with_reducible refine Kd.C_alloc ?_ _) | (with_reducible refine Kd.C_drewN ?_ _) | (with_reducible refine Kd.C_drew ?_) | exact HR716_0.out)) hb); replace HB := bstep hb; (try clear hb); (try clear hk); (try clear hi); (try clear ho0); obtain ⟨Ao28, co28, eo28⟩ := Kd.R_slice HO719.out; subst eo28) | ((with_reducible refine gate_builtin (b := .append) (xs := #[.tmp 45, .tmp 50]) rfl ?_); at_builtin; refine Kd.R_append_rows (Kd.int .u8) (w0 := w) w.heap.size rfl (.tmp 45) (.tmp 50) 26 5 (.int .u8 0) 1 rfl Try.underlying26 info5 rfl (by decide) (by omega) (.slice Ao22 x6_1.length co22) x6_1 t717 _ _ _ (fun k_ => some k_ ≠ (.slice Ao21 t704.length co21 : Value).ownBlock ∧ some k_ ≠ (.slice Ao25 t710.length co25 : Value).ownBlock ∧ some k_ ≠ (v714 : Value).ownBlock ∧ some k_ ≠ (.slice Ao28 t717.length co28 : Value).ownBlock) (fun _ => False) rfl rfl ?aO ?aR (fun _ _ h => h) (fun _ h => h.elim) ?aF ?aB ?aS ?aL ?_; (case aR => repeat (first | exact (Kd.R_reads' HO719.out).2.2 | (with_reducible refine Kd.C_alloc ?_ _) | (with_reducible refine Kd.C_drewN ?_ _) | (with_reducible refine Kd.C_drew ?_))); (case aB => exact bel); (case aF => exact (fun k_ hk => ⟨Kd.fresh' (Kd.R_lt (rel HO706.out)) k_ hk, Kd.fresh' (Kd.R_lt (rel HO712.out)) k_ hk, Kd.fresh' (Kd.R_lt (rel HO715.out)) k_ hk, Kd.fresh' (Kd.R_lt (rel HO719.out)) k_ hk⟩)); (case aO => exact (by (with_reducible repeat (first | apply Kd.R_alloc | apply Kd.R_drewN | apply Kd.R_drew)); exact Kd.R_mono HO_6.out (fun _ hk => ⟨hk.1.1.1, ⟨hk.1.1.2, ⟨hk.1.2, hk.2⟩⟩⟩))); (case aS => exact (below_size bel)); (case aL => have := LMc16.out; omega); intro v721 w27 ho hb hg hat; rw [← Ny720.out] at ho; have n0_ := aS (Kd.S_over' (by (with_reducible repeat (first | apply Kd.S_alloc | apply Kd.S_drewN | apply Kd.S_drew)); exact HO_5.out) (Kd.R_typed (rel HO_6.out)) (by decide) hg); have n1_ := aS (Kd.R_over' (rel HL701_0.out) (Kd.R_typed (rel HO_6.out)) (by decide) hg); have n2_ := aS (blk_grown (g := gb703) (o := .cells #[.string ((rd_T42 (rd_L7 t695 x8_1) 0).f0), .string ((rd_T42 (rd_L7 t695 x8_1) 0).f1), .int .i64 ((rd_T42 (rd_L7 t695 x8_1) 0).f2), .string ((rd_T42 (rd_L7 t695 x8_1) 0).f3), .bool ((rd_T42 (rd_L7 t695 x8_1) 0).f4)] 42 (0, 0)) (bkl BK703.out) hg (Kd.R_ne HO_6.out BK703.out (by decide))); have n3_ := aS (Kd.R_after (ok := (fun k_ => some k_ ≠ (.slice Ao25 t710.length co25 : Value).ownBlock ∧ some k_ ≠ (v714 : Value).ownBlock ∧ some k_ ≠ (.slice Ao28 t717.length co28 : Value).ownBlock)) (by (with_reducible repeat (first | apply Kd.R_alloc | apply Kd.R_drewN | apply Kd.R_drew)); exact Kd.R_mono HO706.out (fun _ hk => ⟨⟨hk.1.1.2, ⟨hk.1.2, hk.2⟩⟩, hk.1.1.1⟩)) hg hat); have n4_ := aS (Kd.R_after (ok := (fun k_ => some k_ ≠ (.slice Ao21 t704.length co21 : Value).ownBlock ∧ some k_ ≠ (v714 : Value).ownBlock ∧ some k_ ≠ (.slice Ao28 t717.length co28 : Value).ownBlock)) (by (with_reducible repeat (first | apply Kd.R_alloc | apply Kd.R_drewN | apply Kd.R_drew)); exact Kd.R_mono HO712.out (fun _ hk => ⟨⟨hk.1.1.2, ⟨hk.1.2, hk.2⟩⟩, hk.1.1.1⟩)) hg hat); have n5_ := aS (Kd.R_after (ok := (fun k_ => some k_ ≠ (.slice Ao21 t704.length co21 : Value).ownBlock ∧ some k_ ≠ (.slice Ao25 t710.length co25 : Value).ownBlock ∧ some k_ ≠ (.slice Ao28 t717.length co28 : Value).ownBlock)) (by (with_reducible repeat (first | apply Kd.R_alloc | apply Kd.R_drewN | apply Kd.R_drew)); exact Kd.R_mono HO715.out (fun _ hk => ⟨⟨hk.1.2.1, ⟨hk.1.2.2, hk.2⟩⟩, hk.1.1⟩)) hg hat); have n6_ := aS (Kd.R_over' (rel HL716_0.out) (Kd.R_typed (rel HO_6.out)) (by decide) hg); have n7_ := aS (Kd.R_after (ok := (fun k_ => some k_ ≠ (.slice Ao21 t704.length co21 : Value).ownBlock ∧ some k_ ≠ (.slice Ao25 t710.length co25 : Value).ownBlock ∧ some k_ ≠ (v714 : Value).ownBlock)) (by (with_reducible repeat (first | apply Kd.R_alloc | apply Kd.R_drewN | apply Kd.R_drew)); exact Kd.R_mono HO719.out (fun _ hk => ⟨⟨hk.1.1.2, ⟨hk.1.2, hk.2⟩⟩, hk.1.1.1.2⟩)) hg hat); have n8_ := aS (hb); have n9_ := aS (ho); clear HO_5; clear HL701_0; clear BK703; clear HO706; clear HO712; clear HO715; clear HL716_0; clear HO719; clear HB; clear HO_6; have HO_5 := n0_; have HL701_0 := n1_; have BK703 := n2_; have HO706 := n3_; have HO712 := n4_; have HO715 := n5_; have HL716_0 := n6_; have HO719 := n7_; have HB := n8_; have HO722 := n9_; clear n0_ n1_ n2_ n3_ n4_ n5_ n6_ n7_ n8_ n9_; clear ho hb hg hat))
         go_roundg k1
         case measure => have := HK1.out; omega
         case rel => exact ⟨(y720), (y713), (wrap64 (x8_1 + 1)), srf, H', ⟨by have := HK1.out; omega⟩, ⟨by (with_reducible repeat (first | apply Kd.S_alloc | apply Kd.S_drewN | apply Kd.S_drew)); exact Kd.S_mono HO_5.out (fun _ hk => trivial)⟩, ⟨by (with_reducible repeat (first | apply Kd.R_alloc | apply Kd.R_drewN | apply Kd.R_drew)); exact Kd.R_mono HO722.out (fun _ hk => hk.2.2.1)⟩, ⟨by (with_reducible repeat (first | apply Kd.R_alloc | apply Kd.R_drewN | apply Kd.R_drew)); exact Kd.R_mono HO715.out (fun _ hk => hk.2)⟩, ⟨bel⟩⟩
        ·
         rw [if_neg c16] at H; exact absurd H (by simp)
       ·
        rw [if_neg c14] at H; exact absurd H (by simp)
      ·
       rw [if_neg c12] at H; exact absurd H (by simp)
     ·
      rw [if_neg c10] at H; exact absurd H (by simp)
    ·
     rw [if_neg c9] at H; exact absurd H (by simp)
   ·
    rw [if_neg c8] at H; have c8b0 : decide (x8_1 < (t695.length : Int)) = false := decide_eq_false c8; clear c8
    have H' := aS H
    clear H
    go_wp2
    go_loopg [10, 11] k1 (fun kq v10 v11 w' => ∃ (x10_2 : List ByteArray) (x11_2 : Int), v11 = .int .i64 x11_2 ∧ Aside0 (shardlogref12_Build.l1 kq l0 x6_1 x7_1 x10_2 x11_2 = some r) ∧ Aside0 (kq ≤ k1) ∧ Aside0 (Kd.R (Kd.int .u8) 5 w' w.heap.size (fun k_ => some k_ ≠ (u7 : Value).ownBlock) u6 x6_1) ∧ Aside0 (Kd.R (Kd.int .u8) 5 w' w.heap.size (fun k_ => some k_ ≠ (u6 : Value).ownBlock) u7 x7_1) ∧ Aside0 (Kd.R Kd.string 9 w' w.heap.size (fun _ => True) v10 x10_2) ∧ Aside0 (Below w.heap.size w w'))
    case atStart => exact ⟨(([] : List ByteArray)), (0), srf, H', ⟨Nat.le_refl _⟩, ⟨by (with_reducible repeat (first | apply Kd.R_alloc | apply Kd.R_drewN | apply Kd.R_drew)); exact HO_6.out⟩, ⟨by (with_reducible repeat (first | apply Kd.R_alloc | apply Kd.R_drewN | apply Kd.R_drew)); exact HO_7.out⟩, ⟨by first | exact Kd.R_nil _ _ _ _ _ | exact Kd.N_nil _ _ _ _ _ | exact Kd.V_nil _ _ _ _ _ | exact Kd.Q_nil _ _ _ _ _ | exact Kd.S_nil _ _ _ _ _⟩, ⟨bel⟩⟩
    case round =>
     clear H'; (try clear c8); (try clear c8b0); obtain ⟨x10_2, x11_2, rfl, HA, HK2, HO_6, HO_7, HO_10, HB⟩ := hrel
     cases gk with
     | zero => exact absurd HA.out (by simp [shardlogref12_Build.l1])
     | succ k2 =>
      have H := HA.out; clear HA
      simp only [shardlogref12_Build.l1] at H
      by_cases c29 : x11_2 < (l0.length : Int)
      ·
       rw [if_pos c29] at H; have c29b0 : decide (x11_2 < (l0.length : Int)) = true := decide_eq_true c29; clear c29
       by_cases c30 : 0 ≤ x11_2
       ·
        rw [if_pos c30] at H; have c30b0 : decide (0 ≤ x11_2) = true := decide_eq_true c30; clear c30; replace H := obm H; obtain ⟨t725, A310, H⟩ := H; have A31 := aS A310; clear A310
        by_cases c32 : x10_2.length < 8796093022208
        ·
         rw [if_pos c32] at H; have LMc32 := aS c32; clear c32
         obtain ⟨y726, hy726⟩ : ∃ y_ : List ByteArray, y_ = (x10_2 ++ [t725]) := ⟨_, rfl⟩
         (first | replace H := hyn hy726 H | rw [← hy726] at H); have Ny726 := aS hy726; clear hy726
         have H' := aS H
         clear H
         try go_wp2
         replace HO_6 := aS (Kd.R_drew HO_6.out); replace HO_7 := aS (Kd.R_drew HO_7.out); replace HO_10 := aS (Kd.R_drew HO_10.out); replace HB := aS (bdo HB.out); have p723 : 0 ≤ (x11_2 : Int) := oda; have q723 : x11_2 < (l0.length : Int) := oda; obtain ⟨ad723, e723, hx723_0, hx723_1, hx723_2, hx723_3, hx723_4⟩ := at_T42 HR0.out x11_2 p723 q723; have hw723_4 := hx723_4; have hw723_3 := hx723_3; have hw723_2 := hx723_2; have hw723_1 := hx723_1; have hw723_0 := hx723_0; cases e723; replace hx723_0 := bx bel hx723_0; replace hx723_1 := bx bel hx723_1; replace hx723_2 := bx bel hx723_2; replace hx723_3 := bx bel hx723_3; replace hx723_4 := bx bel hx723_4; replace p723 := eq_true p723; replace q723 := eq_true q723; have p724 : 0 ≤ (x11_2 : Int) := oda; have q724 : x11_2 < (l0.length : Int) := oda; obtain ⟨ad724, e724, hx724_0, hx724_1, hx724_2, hx724_3, hx724_4⟩ := at_T42 HR0.out x11_2 p724 q724; have hw724_4 := hx724_4; have hw724_3 := hx724_3; have hw724_2 := hx724_2; have hw724_1 := hx724_1; have hw724_0 := hx724_0
         obtain rfl : ad723 = ad724 := (by injection e724)
         replace hx724_0 := bx bel hx724_0; replace hx724_1 := bx bel hx724_1; replace hx724_2 := bx bel hx724_2; replace hx724_3 := bx bel hx724_3; replace hx724_4 := bx bel hx724_4; replace p724 := eq_true p724; replace q724 := eq_true q724; refine start_ (n := 15) (S := fun w' => w'.cell? (ad723.add ((x11_2).toNat * 5)) = some (.string ((rd_T42 l0 x11_2).f0)) ∧ w'.cell? ⟨(ad723.add ((x11_2).toNat * 5)).block, (ad723.add ((x11_2).toNat * 5)).off + 1, none⟩ = some (.string ((rd_T42 l0 x11_2).f1)) ∧ w'.cell? ⟨(ad723.add ((x11_2).toNat * 5)).block, (ad723.add ((x11_2).toNat * 5)).off + 2, none⟩ = some (.int .i64 ((rd_T42 l0 x11_2).f2)) ∧ w'.cell? ⟨(ad723.add ((x11_2).toNat * 5)).block, (ad723.add ((x11_2).toNat * 5)).off + 3, none⟩ = some (.string ((rd_T42 l0 x11_2).f3)) ∧ w'.cell? ⟨(ad723.add ((x11_2).toNat * 5)).block, (ad723.add ((x11_2).toNat * 5)).off + 4, none⟩ = some (.bool ((rd_T42 l0 x11_2).f4)) ∧ w'.cell? (ad723.add ((x11_2).toNat * 5)) = some (.string ((rd_T42 l0 x11_2).f0)) ∧ w'.cell? ⟨(ad723.add ((x11_2).toNat * 5)).block, (ad723.add ((x11_2).toNat * 5)).off + 1, none⟩ = some (.string ((rd_T42 l0 x11_2).f1)) ∧ w'.cell? ⟨(ad723.add ((x11_2).toNat * 5)).block, (ad723.add ((x11_2).toNat * 5)).off + 2, none⟩ = some (.int .i64 ((rd_T42 l0 x11_2).f2)) ∧ w'.cell? ⟨(ad723.add ((x11_2).toNat * 5)).block, (ad723.add ((x11_2).toNat * 5)).off + 3, none⟩ = some (.string ((rd_T42 l0 x11_2).f3)) ∧ w'.cell? ⟨(ad723.add ((x11_2).toNat * 5)).block, (ad723.add ((x11_2).toNat * 5)).off + 4, none⟩ = some (.bool ((rd_T42 l0 x11_2).f4))) (ds := []) (bA 15 0) (by kernel_rfl) rfl rfl ⟨(bx bel hw723_0), (bx bel hw723_1), (bx bel hw723_2), (bx bel hw723_3), (bx bel hw723_4), (bx bel hw724_0), (bx bel hw724_1), (bx bel hw724_2), (bx bel hw724_3), (bx bel hw724_4)⟩ (fun hHeld => ?_); refine with_tabW shardlogref12_Build.tab15 shardlogref12_Build.bits15 (fun HT_ HW_ => ?_)
         generalize wr.drew = w33 at HO_6 HO_7 HO_10 HB hx723_0 hx723_1 hx723_2 hx723_3 hx723_4 hx724_0 hx724_1 hx724_2 hx724_3 hx724_4 hHeld ⊢
         refine along_ [(0, 58), (1, 59), (2, 60), (3, 61), (4, 62), (6, 64), (7, 65), (8, 66), (9, 67), (5, 63), (10, 68)] ?_
         iterate 11 (first | (refine pure3 HT_ ?_) | (refine take3 HT_ HW_ hHeld ?_))
         refine lay_ (bA 15 2047) (by kernel_rfl) ?_; refine one3 11 (N := some 69) (bA 15 4095) HT_ (fun K hK => ?_); refine goes_ Try.func24 (by kernel_rfl) rfl #[.string ((rd_T42 l0 x11_2).f0), .string ((rd_T42 l0 x11_2).f1)] (by rfl) rfl rfl agn ?_
         with_reducible refine (shardlogref12_Key.calls ((rd_T42 l0 x11_2).f0) ((rd_T42 l0 x11_2).f1) t725 _ A31.out).mono ?_
         rintro e w34 ⟨rfl, hb⟩
         refine ⟨_, rfl, ?_⟩; replace HO_6 := aS (Kd.R_below (rel HO_6.out) hb); replace HO_7 := aS (Kd.R_below (rel HO_7.out) hb); replace HO_10 := aS (Kd.R_below (rel HO_10.out) hb); replace HB := bstep hb; (try clear hb); (try clear hk); (try clear hi); refine hK.out _ _ ⟨(bx bel hw723_0), (bx bel hw723_1), (bx bel hw723_2), (bx bel hw723_3), (bx bel hw723_4), (bx bel hw724_0), (bx bel hw724_1), (bx bel hw724_2), (bx bel hw724_3), (bx bel hw724_4)⟩ (fun hHeld => ?_); clear hK K; refine nm 69 ?_; refine one3 12 (N := some 70) (bA 15 8191) HT_ (fun K hK => ?_); refine value_ (w1 := ?_) (v := ?_) (by rfl) rfl ?_ ?_
         rotate_left 2
         ·
          go_simp
          constructor
          ·
           rfl
          ·
           rfl
         refine hK.out _ _ ⟨(World.cell?_alloc_lt _ _ _ (wbl _ _ ((bx bel hw723_0)))).trans ((bx bel hw723_0)), (World.cell?_alloc_lt _ _ _ (wbl _ _ ((bx bel hw723_1)))).trans ((bx bel hw723_1)), (World.cell?_alloc_lt _ _ _ (wbl _ _ ((bx bel hw723_2)))).trans ((bx bel hw723_2)), (World.cell?_alloc_lt _ _ _ (wbl _ _ ((bx bel hw723_3)))).trans ((bx bel hw723_3)), (World.cell?_alloc_lt _ _ _ (wbl _ _ ((bx bel hw723_4)))).trans ((bx bel hw723_4)), (World.cell?_alloc_lt _ _ _ (wbl _ _ ((bx bel hw724_0)))).trans ((bx bel hw724_0)), (World.cell?_alloc_lt _ _ _ (wbl _ _ ((bx bel hw724_1)))).trans ((bx bel hw724_1)), (World.cell?_alloc_lt _ _ _ (wbl _ _ ((bx bel hw724_2)))).trans ((bx bel hw724_2)), (World.cell?_alloc_lt _ _ _ (wbl _ _ ((bx bel hw724_3)))).trans ((bx bel hw724_3)), (World.cell?_alloc_lt _ _ _ (wbl _ _ ((bx bel hw724_4)))).trans ((bx bel hw724_4))⟩ (fun hHeld => ?_); clear hK K; refine nm 70 ?_; refine one3 13 (N := some 71) (bA 15 16383) HT_ (fun K hK => ?_); refine Kd.R_append_step Kd.string (w0 := w) w.heap.size (by rfl) (.tmp 58) (.tmp 70) 51 9 (.string ⟨#[]⟩) 16 rfl Try.underlying51 info9 rfl (by decide) (by omega) u10 x10_2 t725 [.string t725] (fun _ => True) (fun _ => False) rfl rfl ?aP (fun _ hk => hk.elim) ?aF ?aO ?aB ?aS ?aL ?_
         (case aP => exact rfl)
         (case aB => exact bel)
         (case aF => exact (fun _ _ => trivial))
         (case aO => exact (rel HO_10.out))
         (case aS => exact (below_size bel))
         (case aL => have := LMc32.out; omega)
         intro v727 w35 ho hb hg hat
         rw [← Ny726.out] at ho; have n0_ := aS (Kd.R_over' (rel HO_6.out) (Kd.R_typed (rel HO_10.out)) (by decide) hg); have n1_ := aS (Kd.R_over' (rel HO_7.out) (Kd.R_typed (rel HO_10.out)) (by decide) hg); have n2_ := aS (hb); have n3_ := aS (ho); clear HO_6; clear HO_7; clear HB; clear HO_10; have HO_6 := n0_; have HO_7 := n1_; have HB := n2_; have HO728 := n3_; clear n0_ n1_ n2_ n3_; clear ho hb hg hat; refine hK.out _ _ ⟨(bx bel hw723_0), (bx bel hw723_1), (bx bel hw723_2), (bx bel hw723_3), (bx bel hw723_4), (bx bel hw724_0), (bx bel hw724_1), (bx bel hw724_2), (bx bel hw724_3), (bx bel hw724_4)⟩ (fun hHeld => ?_); clear hK K; refine nm 71 ?_; refine pure_ (i := 14) (N := some 10) (v := ?_) (a' := ?_) (bA 15 32767) rfl rfl (any_of HT_.out (by kernel_rfl)) (fun _ _ _ h => h) (Or.inl ⟨by rfl, ?_⟩) ?_ ?_
         rotate_left
         ·
          intro w'
          go_simp
          with_reducible rfl
         rotate_left
         ·
          simp only [Act.put, lsa, lsz, lss, i64_w, i32_w]
          rfl
         refine done_ (done_of HT_.out (by kernel_rfl)) ?_
         try go_wp2
         go_roundg k2
         case measure => have := HK1.out; have := HK2.out; omega
         case rel => exact ⟨(y726), (wrap64 (x11_2 + 1)), srf, H', ⟨by have := HK1.out; have := HK2.out; omega⟩, ⟨by (with_reducible repeat (first | apply Kd.R_alloc | apply Kd.R_drewN | apply Kd.R_drew)); exact HO_6.out⟩, ⟨by (with_reducible repeat (first | apply Kd.R_alloc | apply Kd.R_drewN | apply Kd.R_drew)); exact HO_7.out⟩, ⟨by (with_reducible repeat (first | apply Kd.R_alloc | apply Kd.R_drewN | apply Kd.R_drew)); exact HO728.out⟩, ⟨bel⟩⟩
        ·
         rw [if_neg c32] at H; exact absurd H (by simp)
       ·
        rw [if_neg c30] at H; exact absurd H (by simp)
      ·
       rw [if_neg c29] at H; have c29b0 : decide (x11_2 < (l0.length : Int)) = false := decide_eq_false c29; clear c29; replace H := obm H; obtain ⟨t729, A360, H⟩ := H; have A36 := aS A360; clear A360; replace H := obm H; obtain ⟨t732, A370, H⟩ := H; have A37 := aS A370; clear A370
       by_cases c38 : x7_1.length + t732.length < 140737488355328
       ·
        rw [if_pos c38] at H; have LMc38 := aS c38; clear c38
        obtain ⟨y735, hy735⟩ : ∃ y_ : List Int, y_ = (x7_1 ++ t732) := ⟨_, rfl⟩
        (first | replace H := hyn hy735 H | rw [← hy735] at H); have Ny735 := aS hy735; clear hy735; replace H := obm H; obtain ⟨t738, A390, H⟩ := H; have A39 := aS A390; clear A390
        by_cases c40 : x6_1.length + t738.length < 140737488355328
        ·
         rw [if_pos c40] at H; have LMc40 := aS c40; clear c40
         obtain ⟨y741, hy741⟩ : ∃ y_ : List Int, y_ = (x6_1 ++ t738) := ⟨_, rfl⟩
         (first | replace H := hyn hy741 H | rw [← hy741] at H); have Ny741 := aS hy741; clear hy741; replace H := obm H; obtain ⟨t744, A410, H⟩ := H; have A41 := aS A410; clear A410
         by_cases c42 : y741.length + t744.length < 140737488355328
         ·
          rw [if_pos c42] at H; have LMc42 := aS c42; clear c42
          obtain ⟨y747, hy747⟩ : ∃ y_ : List Int, y_ = (y741 ++ t744) := ⟨_, rfl⟩
          replace H : (some y747) = some r := hyr hy747 H; have Ny747 := aS hy747; clear hy747
          obtain rfl := Option.some.inj H
          obtain ⟨Ao43, co43, eo43⟩ := Kd.R_slice HO_10.out; subst eo43
          go_wp2_with (first | ((with_reducible refine gate_callee (f := 26) rfl ?_); refine goesL_ (some 74) rfl rfl Try.func26 (by kernel_rfl) rfl #[.slice Ao43 x10_2.length co43] rfl agn ?_; (with_reducible refine (shardlogref11_Make.calls k2 _ _ x10_2 t729 _ ?side1 ?side2 A36.out).mono ?_); (case side1 => repeat (first | exact (Kd.R_reads' HO_10.out).2.2 | (with_reducible refine Kd.C_alloc ?_ _) | (with_reducible refine Kd.C_drewN ?_ _) | (with_reducible refine Kd.C_drew ?_))); (case side2 => exact (Kd.R_reads' HO_10.out).2.1); rintro e w44 ⟨v730, rfl, ho0, hb⟩; refine ⟨_, rfl, ?_⟩; replace HO_10 := aS (Kd.R_below (rel HO_10.out) hb); have HO731 := aS (Kd.R_lower (Kd.R_new' (Kd.R_new' ho0 (Kd.R_lt (rel HO_6.out))) (Kd.R_lt (rel HO_7.out))) (below_size bel)); replace HO_6 := aS (Kd.R_elder' (rel HO_6.out) (ebs ho0) hb); replace HO_7 := aS (Kd.R_elder' (rel HO_7.out) (ebs ho0) hb); replace HB := bstep hb; (try clear hb); (try clear hk); (try clear hi); (try clear ho0); have hcv45 := own_string (P := Try.prog) Try.underlying26 Try.underlying5 Try.underlying9 (Kd.own_of_R HO731.out)) | ((with_reducible refine gate_callee (f := 37) rfl ?_); refine goesL_ (some 76) rfl rfl Try.func37 (by kernel_rfl) rfl #[.string (strOfNums t729)] rfl agn ?_; (with_reducible refine (shardlogref01_Text.calls (strOfNums t729) t732 _ A37.out).mono ?_); rintro e w46 ⟨v733, rfl, ho0, hb⟩; refine ⟨_, rfl, ?_⟩; replace HO_10 := aS (Kd.R_below (rel HO_10.out) hb); have HO734 := aS (Kd.R_lower (Kd.R_new' (Kd.R_new' (Kd.R_new' ho0 (Kd.R_lt (rel HO_6.out))) (Kd.R_lt (rel HO_7.out))) (Kd.R_lt (rel HO731.out))) (below_size bel)); replace HO_6 := aS (Kd.R_elder' (rel HO_6.out) (ebs ho0) hb); replace HO_7 := aS (Kd.R_elder' (rel HO_7.out) (ebs ho0) hb); replace HO731 := aS (Kd.R_elder' (rel HO731.out) (ebs ho0) hb); replace HB := bstep hb; (try clear hb); (try clear hk); (try clear hi); (try clear ho0); obtain ⟨Ao48, co48, eo48⟩ := Kd.R_slice HO734.out; subst eo48) | ((with_reducible refine gate_builtin (b := .append) (xs := #[.tmp 72, .tmp 76]) rfl ?_); at_builtin; refine Kd.R_append_rows (Kd.int .u8) (w0 := w) w.heap.size rfl (.tmp 72) (.tmp 76) 26 5 (.int .u8 0) 1 rfl Try.underlying26 info5 rfl (by decide) (by omega) u7 x7_1 t732 _ _ _ (fun k_ => some k_ ≠ (u6 : Value).ownBlock ∧ some k_ ≠ (v730 : Value).ownBlock ∧ some k_ ≠ (.slice Ao48 t732.length co48 : Value).ownBlock) (fun _ => False) rfl rfl ?aO ?aR (fun _ _ h => h) (fun _ h => h.elim) ?aF ?aB ?aS ?aL ?_; (case aR => repeat (first | exact (Kd.R_reads' HO734.out).2.2 | (with_reducible refine Kd.C_alloc ?_ _) | (with_reducible refine Kd.C_drewN ?_ _) | (with_reducible refine Kd.C_drew ?_))); (case aB => exact bel); (case aF => exact (fun k_ hk => ⟨Kd.fresh' (Kd.R_lt (rel HO_6.out)) k_ hk, Kd.fresh' (Kd.R_lt (rel HO731.out)) k_ hk, Kd.fresh' (Kd.R_lt (rel HO734.out)) k_ hk⟩)); (case aO => exact (by (with_reducible repeat (first | apply Kd.R_alloc | apply Kd.R_drewN | apply Kd.R_drew)); exact Kd.R_mono HO_7.out (fun _ hk => ⟨hk.1.1, ⟨hk.1.2, hk.2⟩⟩))); (case aS => exact (below_size bel)); (case aL => have := LMc38.out; omega); intro v736 w47 ho hb hg hat; rw [← Ny735.out] at ho; have n0_ := aS (Kd.R_after (ok := (fun k_ => some k_ ≠ (v730 : Value).ownBlock ∧ some k_ ≠ (.slice Ao48 t732.length co48 : Value).ownBlock)) (by (with_reducible repeat (first | apply Kd.R_alloc | apply Kd.R_drewN | apply Kd.R_drew)); exact Kd.R_mono HO_6.out (fun _ hk => ⟨⟨hk.1.2, hk.2⟩, hk.1.1⟩)) hg hat); have n1_ := aS (Kd.R_over' (rel HO_10.out) (Kd.R_typed (rel HO_7.out)) (by decide) hg); have n2_ := aS (Kd.R_after (ok := (fun k_ => some k_ ≠ (u6 : Value).ownBlock ∧ some k_ ≠ (.slice Ao48 t732.length co48 : Value).ownBlock)) (by (with_reducible repeat (first | apply Kd.R_alloc | apply Kd.R_drewN | apply Kd.R_drew)); exact Kd.R_mono HO731.out (fun _ hk => ⟨⟨hk.1.1.2, hk.2⟩, hk.1.2⟩)) hg hat); have n3_ := aS (Kd.R_after (ok := (fun k_ => some k_ ≠ (u6 : Value).ownBlock ∧ some k_ ≠ (v730 : Value).ownBlock)) (by (with_reducible repeat (first | apply Kd.R_alloc | apply Kd.R_drewN | apply Kd.R_drew)); exact Kd.R_mono HO734.out (fun _ hk => ⟨⟨hk.1.1.2, hk.2⟩, hk.1.2⟩)) hg hat); have n4_ := aS (hb); have n5_ := aS (ho); clear HO_6; clear HO_10; clear HO731; clear HO734; clear HB; clear HO_7; have HO_6 := n0_; have HO_10 := n1_; have HO731 := n2_; have HO734 := n3_; have HB := n4_; have HO737 := n5_; clear n0_ n1_ n2_ n3_ n4_ n5_; clear ho hb hg hat; obtain ⟨Ao49, co49, eo49⟩ := Kd.R_slice HO737.out; subst eo49) | ((with_reducible refine gate_callee (f := 36) rfl ?_); refine goesL_ (some 78) rfl rfl Try.func36 (by kernel_rfl) rfl #[.slice Ao49 y735.length co49] rfl agn ?_; (with_reducible refine (shardlogref06_Put.calls k2 _ _ y735 t738 _ ?side1 ?side2 A39.out).mono ?_); (case side1 => repeat (first | exact (Kd.R_reads' HO737.out).2.2 | (with_reducible refine Kd.C_alloc ?_ _) | (with_reducible refine Kd.C_drewN ?_ _) | (with_reducible refine Kd.C_drew ?_))); (case side2 => exact (Kd.R_reads' HO737.out).2.1); rintro e w50 ⟨v739, rfl, ho0, hb⟩; refine ⟨_, rfl, ?_⟩; replace HO_10 := aS (Kd.R_below (rel HO_10.out) hb); have HO740 := aS (Kd.R_lower (Kd.R_new' (Kd.R_new' (Kd.R_new' (Kd.R_new' ho0 (Kd.R_lt (rel HO_6.out))) (Kd.R_lt (rel HO731.out))) (Kd.R_lt (rel HO734.out))) (Kd.R_lt (rel HO737.out))) (below_size bel)); replace HO_6 := aS (Kd.R_elder' (rel HO_6.out) (ebs ho0) hb); replace HO731 := aS (Kd.R_elder' (rel HO731.out) (ebs ho0) hb); replace HO734 := aS (Kd.R_elder' (rel HO734.out) (ebs ho0) hb); replace HO737 := aS (Kd.R_elder' (rel HO737.out) (ebs ho0) hb); replace HB := bstep hb; (try clear hb); (try clear hk); (try clear hi); (try clear ho0); obtain ⟨Ao52, co52, eo52⟩ := Kd.R_slice HO740.out; subst eo52) | ((with_reducible refine gate_builtin (b := .append) (xs := #[.tmp 79, .tmp 80]) rfl ?_); at_builtin; refine Kd.R_append_rows (Kd.int .u8) (w0 := w) w.heap.size rfl (.tmp 79) (.tmp 80) 26 5 (.int .u8 0) 1 rfl Try.underlying26 info5 rfl (by decide) (by omega) u6 x6_1 t738 _ _ _ (fun k_ => some k_ ≠ (v730 : Value).ownBlock ∧ some k_ ≠ (.slice Ao48 t732.length co48 : Value).ownBlock ∧ some k_ ≠ (.slice Ao49 y735.length co49 : Value).ownBlock ∧ some k_ ≠ (.slice Ao52 t738.length co52 : Value).ownBlock) (fun _ => False) rfl rfl ?aO ?aR (fun _ _ h => h) (fun _ h => h.elim) ?aF ?aB ?aS ?aL ?_; (case aR => repeat (first | exact (Kd.R_reads' HO740.out).2.2 | (with_reducible refine Kd.C_alloc ?_ _) | (with_reducible refine Kd.C_drewN ?_ _) | (with_reducible refine Kd.C_drew ?_))); (case aB => exact bel); (case aF => exact (fun k_ hk => ⟨Kd.fresh' (Kd.R_lt (rel HO731.out)) k_ hk, Kd.fresh' (Kd.R_lt (rel HO734.out)) k_ hk, Kd.fresh' (Kd.R_lt (rel HO737.out)) k_ hk, Kd.fresh' (Kd.R_lt (rel HO740.out)) k_ hk⟩)); (case aO => exact (by (with_reducible repeat (first | apply Kd.R_alloc | apply Kd.R_drewN | apply Kd.R_drew)); exact Kd.R_mono HO_6.out (fun _ hk => ⟨hk.1.1.1, ⟨hk.1.1.2, ⟨hk.1.2, hk.2⟩⟩⟩))); (case aS => exact (below_size bel)); (case aL => have := LMc40.out; omega); intro v742 w51 ho hb hg hat; rw [← Ny741.out] at ho; have n0_ := aS (Kd.R_over' (rel HO_10.out) (Kd.R_typed (rel HO_6.out)) (by decide) hg); have n1_ := aS (Kd.R_after (ok := (fun k_ => some k_ ≠ (.slice Ao48 t732.length co48 : Value).ownBlock ∧ some k_ ≠ (.slice Ao49 y735.length co49 : Value).ownBlock ∧ some k_ ≠ (.slice Ao52 t738.length co52 : Value).ownBlock)) (by (with_reducible repeat (first | apply Kd.R_alloc | apply Kd.R_drewN | apply Kd.R_drew)); exact Kd.R_mono HO731.out (fun _ hk => ⟨⟨hk.1.1.2, ⟨hk.1.2, hk.2⟩⟩, hk.1.1.1⟩)) hg hat); have n2_ := aS (Kd.R_after (ok := (fun k_ => some k_ ≠ (v730 : Value).ownBlock ∧ some k_ ≠ (.slice Ao49 y735.length co49 : Value).ownBlock ∧ some k_ ≠ (.slice Ao52 t738.length co52 : Value).ownBlock)) (by (with_reducible repeat (first | apply Kd.R_alloc | apply Kd.R_drewN | apply Kd.R_drew)); exact Kd.R_mono HO734.out (fun _ hk => ⟨⟨hk.1.1.2, ⟨hk.1.2, hk.2⟩⟩, hk.1.1.1⟩)) hg hat); have n3_ := aS (Kd.R_after (ok := (fun k_ => some k_ ≠ (v730 : Value).ownBlock ∧ some k_ ≠ (.slice Ao48 t732.length co48 : Value).ownBlock ∧ some k_ ≠ (.slice Ao52 t738.length co52 : Value).ownBlock)) (by (with_reducible repeat (first | apply Kd.R_alloc | apply Kd.R_drewN | apply Kd.R_drew)); exact Kd.R_mono HO737.out (fun _ hk => ⟨⟨hk.1.2.1, ⟨hk.1.2.2, hk.2⟩⟩, hk.1.1⟩)) hg hat); have n4_ := aS (Kd.R_after (ok := (fun k_ => some k_ ≠ (v730 : Value).ownBlock ∧ some k_ ≠ (.slice Ao48 t732.length co48 : Value).ownBlock ∧ some k_ ≠ (.slice Ao49 y735.length co49 : Value).ownBlock)) (by (with_reducible repeat (first | apply Kd.R_alloc | apply Kd.R_drewN | apply Kd.R_drew)); exact Kd.R_mono HO740.out (fun _ hk => ⟨⟨hk.1.1.2, ⟨hk.1.2, hk.2⟩⟩, hk.1.1.1.2⟩)) hg hat); have n5_ := aS (hb); have n6_ := aS (ho); clear HO_10; clear HO731; clear HO734; clear HO737; clear HO740; clear HB; clear HO_6; have HO_10 := n0_; have HO731 := n1_; have HO734 := n2_; have HO737 := n3_; have HO740 := n4_; have HB := n5_; have HO743 := n6_; clear n0_ n1_ n2_ n3_ n4_ n5_ n6_; clear ho hb hg hat) | ((with_reducible refine gate_callee (f := 33) rfl ?_); refine goesL_ (some 84) rfl rfl Try.func33 (by kernel_rfl) rfl #[.int .i64 (t738.length : Int)] rfl agn ?_; (with_reducible refine (shardlogref01_Num.calls (t738.length : Int) t744 _ A41.out).mono ?_); rintro e w53 ⟨v745, rfl, ho0, hb⟩; refine ⟨_, rfl, ?_⟩; replace HO_10 := aS (Kd.R_below (rel HO_10.out) hb); have HO746 := aS (Kd.R_lower (Kd.R_new' (Kd.R_new' (Kd.R_new' (Kd.R_new' (Kd.R_new' ho0 (Kd.R_lt (rel HO731.out))) (Kd.R_lt (rel HO734.out))) (Kd.R_lt (rel HO737.out))) (Kd.R_lt (rel HO740.out))) (Kd.R_lt (rel HO743.out))) (below_size bel)); replace HO731 := aS (Kd.R_elder' (rel HO731.out) (ebs ho0) hb); replace HO734 := aS (Kd.R_elder' (rel HO734.out) (ebs ho0) hb); replace HO737 := aS (Kd.R_elder' (rel HO737.out) (ebs ho0) hb); replace HO740 := aS (Kd.R_elder' (rel HO740.out) (ebs ho0) hb); replace HO743 := aS (Kd.R_elder' (rel HO743.out) (ebs ho0) hb); replace HB := bstep hb; (try clear hb); (try clear hk); (try clear hi); (try clear ho0); obtain ⟨Ao55, co55, eo55⟩ := Kd.R_slice HO746.out; subst eo55) | ((with_reducible refine gate_builtin (b := .append) (xs := #[.tmp 81, .tmp 84]) rfl ?_); at_builtin; refine Kd.R_append_rows (Kd.int .u8) (w0 := w) w.heap.size rfl (.tmp 81) (.tmp 84) 26 5 (.int .u8 0) 1 rfl Try.underlying26 info5 rfl (by decide) (by omega) v742 y741 t744 _ _ _ (fun k_ => some k_ ≠ (v730 : Value).ownBlock ∧ some k_ ≠ (.slice Ao48 t732.length co48 : Value).ownBlock ∧ some k_ ≠ (.slice Ao49 y735.length co49 : Value).ownBlock ∧ some k_ ≠ (.slice Ao52 t738.length co52 : Value).ownBlock ∧ some k_ ≠ (.slice Ao55 t744.length co55 : Value).ownBlock) (fun _ => False) rfl rfl ?aO ?aR (fun _ _ h => h) (fun _ h => h.elim) ?aF ?aB ?aS ?aL ?_; (case aR => repeat (first | exact (Kd.R_reads' HO746.out).2.2 | (with_reducible refine Kd.C_alloc ?_ _) | (with_reducible refine Kd.C_drewN ?_ _) | (with_reducible refine Kd.C_drew ?_))); (case aB => exact bel); (case aF => exact (fun k_ hk => ⟨Kd.fresh' (Kd.R_lt (rel HO731.out)) k_ hk, Kd.fresh' (Kd.R_lt (rel HO734.out)) k_ hk, Kd.fresh' (Kd.R_lt (rel HO737.out)) k_ hk, Kd.fresh' (Kd.R_lt (rel HO740.out)) k_ hk, Kd.fresh' (Kd.R_lt (rel HO746.out)) k_ hk⟩)); (case aO => exact (by (with_reducible repeat (first | apply Kd.R_alloc | apply Kd.R_drewN | apply Kd.R_drew)); exact Kd.R_mono HO743.out (fun _ hk => ⟨hk.1.1, ⟨hk.1.2.1, ⟨hk.1.2.2.1, ⟨hk.1.2.2.2, hk.2⟩⟩⟩⟩))); (case aS => exact (below_size bel)); (case aL => have := LMc42.out; omega); intro v748 w54 ho hb hg hat; rw [← Ny747.out] at ho; have n0_ := aS (Kd.R_over' (rel HO_10.out) (Kd.R_typed (rel HO743.out)) (by decide) hg); have n1_ := aS (Kd.R_after (ok := (fun k_ => some k_ ≠ (.slice Ao48 t732.length co48 : Value).ownBlock ∧ some k_ ≠ (.slice Ao49 y735.length co49 : Value).ownBlock ∧ some k_ ≠ (.slice Ao52 t738.length co52 : Value).ownBlock ∧ some k_ ≠ (.slice Ao55 t744.length co55 : Value).ownBlock)) (by (with_reducible repeat (first | apply Kd.R_alloc | apply Kd.R_drewN | apply Kd.R_drew)); exact Kd.R_mono HO731.out (fun _ hk => ⟨⟨hk.1.1.1, ⟨hk.1.1.2.1, ⟨hk.1.1.2.2, hk.2⟩⟩⟩, hk.1.2⟩)) hg hat); have n2_ := aS (Kd.R_after (ok := (fun k_ => some k_ ≠ (v730 : Value).ownBlock ∧ some k_ ≠ (.slice Ao49 y735.length co49 : Value).ownBlock ∧ some k_ ≠ (.slice Ao52 t738.length co52 : Value).ownBlock ∧ some k_ ≠ (.slice Ao55 t744.length co55 : Value).ownBlock)) (by (with_reducible repeat (first | apply Kd.R_alloc | apply Kd.R_drewN | apply Kd.R_drew)); exact Kd.R_mono HO734.out (fun _ hk => ⟨⟨hk.1.1.1, ⟨hk.1.1.2.1, ⟨hk.1.1.2.2, hk.2⟩⟩⟩, hk.1.2⟩)) hg hat); have n3_ := aS (Kd.R_after (ok := (fun k_ => some k_ ≠ (v730 : Value).ownBlock ∧ some k_ ≠ (.slice Ao48 t732.length co48 : Value).ownBlock ∧ some k_ ≠ (.slice Ao52 t738.length co52 : Value).ownBlock ∧ some k_ ≠ (.slice Ao55 t744.length co55 : Value).ownBlock)) (by (with_reducible repeat (first | apply Kd.R_alloc | apply Kd.R_drewN | apply Kd.R_drew)); exact Kd.R_mono HO737.out (fun _ hk => ⟨⟨hk.1.1.1, ⟨hk.1.1.2.1, ⟨hk.1.1.2.2, hk.2⟩⟩⟩, hk.1.2⟩)) hg hat); have n4_ := aS (Kd.R_after (ok := (fun k_ => some k_ ≠ (v730 : Value).ownBlock ∧ some k_ ≠ (.slice Ao48 t732.length co48 : Value).ownBlock ∧ some k_ ≠ (.slice Ao49 y735.length co49 : Value).ownBlock ∧ some k_ ≠ (.slice Ao55 t744.length co55 : Value).ownBlock)) (by (with_reducible repeat (first | apply Kd.R_alloc | apply Kd.R_drewN | apply Kd.R_drew)); exact Kd.R_mono HO740.out (fun _ hk => ⟨⟨hk.1.1.1, ⟨hk.1.1.2.1, ⟨hk.1.1.2.2, hk.2⟩⟩⟩, hk.1.2⟩)) hg hat); have n5_ := aS (Kd.R_after (ok := (fun k_ => some k_ ≠ (v730 : Value).ownBlock ∧ some k_ ≠ (.slice Ao48 t732.length co48 : Value).ownBlock ∧ some k_ ≠ (.slice Ao49 y735.length co49 : Value).ownBlock ∧ some k_ ≠ (.slice Ao52 t738.length co52 : Value).ownBlock)) (by (with_reducible repeat (first | apply Kd.R_alloc | apply Kd.R_drewN | apply Kd.R_drew)); exact Kd.R_mono HO746.out (fun _ hk => ⟨⟨hk.1.1.1.1.2, ⟨hk.1.1.1.2, ⟨hk.1.1.2, hk.1.2⟩⟩⟩, hk.2⟩)) hg hat); have n6_ := aS (hb); have n7_ := aS (ho); clear HO_10; clear HO731; clear HO734; clear HO737; clear HO740; clear HO746; clear HB; clear HO743; have HO_10 := n0_; have HO731 := n1_; have HO734 := n2_; have HO737 := n3_; have HO740 := n4_; have HO746 := n5_; have HB := n6_; have HO749 := n7_; clear n0_ n1_ n2_ n3_ n4_ n5_ n6_ n7_; clear ho hb hg hat))
          go_ret
          exact ⟨_, rf3, by (with_reducible repeat (first | apply Kd.R_alloc | apply Kd.R_drewN | apply Kd.R_drew)); exact Kd.R_mono HO749.out (fun _ hk => trivial), bel⟩
         ·
          rw [if_neg c42] at H; exact absurd H (by simp)
        ·
         rw [if_neg c40] at H; exact absurd H (by simp)
       ·
        rw [if_neg c38] at H; exact absurd H (by simp)

/-! ### shardlogref11_Has: function 25 -/
mutual
def shardlogref11_Has.l0 : Nat → List Int → List Int → Int → Option (Bool)
 | 0, _, _, _ => none
 | k + 1, x0, x5, x6 => if x6 < (x5.length : Int) then (if 0 ≤ x6 then (if 0 ≤ (wrap64 (Int.tdiv (rd x5 x6) 8)) then (if (wrap64 (Int.tdiv (rd x5 x6) 8)) < (x0.length : Int) then (shardlogref11_Has.l1 k x0 x5 x6 (wrap64 (rd x0 (wrap64 (Int.tdiv (rd x5 x6) 8)))) 0) else (none)) else (none)) else (none)) else (some true)
def shardlogref11_Has.l1 : Nat → List Int → List Int → Int → Int → Int → Option (Bool)
 | 0, _, _, _, _, _ => none
 | k + 1, x0, x5, x6, x7, x8 => if 0 ≤ x6 then (if x6 < (x5.length : Int) then (if x8 < (Int.tmod (rd x5 x6) 8) then (shardlogref11_Has.l1 k x0 x5 x6 (wrap64 (Int.tdiv x7 2)) (wrap64 (x8 + 1))) else (if (Int.tmod x7 2) = 0 then (some false) else (shardlogref11_Has.l0 k x0 x5 (wrap64 (x6 + 1))))) else (none)) else (none)
end
def shardlogref11_Has.f (k : Nat) (l0 : List Int) (a1 : ByteArray) : Option (Bool) := if (l0.length : Int) = 0 then (some true) else ((shardlogref11_Bits.f k a1 (wrap64 (8 * (l0.length : Int)))).bind fun t750 => (shardlogref11_Has.l0 k l0 t750 0))
theorem shardlogref11_Has.mono_l : ∀ k, (∀ y0 y1 y2, LeO (shardlogref11_Has.l0 k y0 y1 y2) (shardlogref11_Has.l0 (k + 1) y0 y1 y2)) ∧ (∀ y0 y1 y2 y3 y4, LeO (shardlogref11_Has.l1 k y0 y1 y2 y3 y4) (shardlogref11_Has.l1 (k + 1) y0 y1 y2 y3 y4))
 | 0 => ⟨fun _ _ _ r h => by simp [shardlogref11_Has.l0] at h, fun _ _ _ _ _ r h => by simp [shardlogref11_Has.l1] at h⟩
 | k + 1 => by
  obtain ⟨ih0, ih1⟩ := shardlogref11_Has.mono_l k; refine ⟨?_, ?_⟩
  ·
   intro y0 y1 y2
   unfold shardlogref11_Has.l0
   have m0 := @shardlogref11_Bits.mono; exact lmo
  ·
   intro y0 y1 y2 y3 y4
   unfold shardlogref11_Has.l1
   have m0 := @shardlogref11_Bits.mono; exact lmo
theorem shardlogref11_Has.mono : ∀ a0 a1 k, LeO (shardlogref11_Has.f k a0 a1) (shardlogref11_Has.f (k + 1) a0 a1) := by
 intro a0 a1 k
 obtain ⟨ih0, ih1⟩ := shardlogref11_Has.mono_l k
 unfold shardlogref11_Has.f
 have m0 := @shardlogref11_Bits.mono; exact lmo
set_option maxHeartbeats 8000000 in
set_option maxRecDepth 100000 in
theorem shardlogref11_Has.calls (k : Nat) (A0 : Option Addr) (c0 : Nat) (l0 : List Int) (a1 : ByteArray) (r : Bool) (w : World) (hr0 : Kd.C (Kd.int .u8) w A0 l0.length l0) (hc0 : l0.length ≤ c0) (h : shardlogref11_Has.f k l0 a1 = some r) :
  Calls Try.prog 25 #[.slice A0 l0.length c0, .string a1] w fun e w' => e = .returned (.bool r) ∧ Below w.heap.size w w' := by
 have HR0 := aS hr0; have HC0 := aS hc0; clear hr0 hc0; have HB := aS (Below.refl w.heap.size w); have H : (if (l0.length : Int) = 0 then (some true) else ((shardlogref11_Bits.f k a1 (wrap64 (8 * (l0.length : Int)))).bind fun t750 => (shardlogref11_Has.l0 k l0 t750 0))) = some r := h; clear h
 by_cases c3 : (l0.length : Int) = 0
 ·
  rw [if_pos c3] at H; obtain ⟨c3b0, c3b1⟩ := eqT c3; clear c3
  obtain rfl := Option.some.inj H
  go_enter Try.func25, Try.ntmps25
  go_wp2
  go_ret
  exact ⟨rf3, bel⟩
 ·
  rw [if_neg c3] at H; obtain ⟨c3b0, c3b1⟩ := eqF c3
  have c3b2 : ¬ (l0 = []) := fun h_ => c3 (by rw [h_]; rfl)
  replace H := obm H; obtain ⟨t750, A40, H⟩ := H; have A4 := aS A40; clear A40
  have H' := aS H
  clear H
  go_enter Try.func25, Try.ntmps25
  go_wp2_with (first | ((with_reducible refine gate_callee (f := 50) rfl ?_); refine goesL_ (some 16) rfl rfl Try.func50 (by kernel_rfl) rfl #[.string a1, .int .i64 (wrap64 (8 * (l0.length : Int)))] rfl agn ?_; (with_reducible refine (shardlogref11_Bits.calls k a1 (wrap64 (8 * (l0.length : Int))) t750 _ A4.out).mono ?_); rintro e w5 ⟨v751, rfl, ho0, hb⟩; refine ⟨_, rfl, ?_⟩; have HO752 := aS (Kd.R_lower ho0 (below_size bel)); replace HB := bstep hb; (try clear hb); (try clear hk); (try clear hi); (try clear ho0)))
  go_loopg [6] k (fun kq v6 w' => ∃ (x6_1 : Int), v6 = .int .i64 x6_1 ∧ Aside0 (shardlogref11_Has.l0 kq l0 t750 x6_1 = some r) ∧ Aside0 (kq ≤ k) ∧ Aside0 (Kd.R (Kd.int .i64) 3 w' w.heap.size (fun _ => True) v751 t750) ∧ Aside0 (Below w.heap.size w w'))
  case atStart => exact ⟨(0), srf, H', ⟨Nat.le_refl _⟩, ⟨by (with_reducible repeat (first | apply Kd.R_alloc | apply Kd.R_drewN | apply Kd.R_drew)); exact HO752.out⟩, ⟨bel⟩⟩
  case round =>
   clear H'; (try clear c3); (try clear c3b0); (try clear c3b1); (try clear c3b2); obtain ⟨x6_1, rfl, HA, HK1, HO_5, HB⟩ := hrel
   cases gk with
   | zero => exact absurd HA.out (by simp [shardlogref11_Has.l0])
   | succ k1 =>
    have H := HA.out; clear HA
    simp only [shardlogref11_Has.l0] at H
    by_cases c6 : x6_1 < (t750.length : Int)
    ·
     rw [if_pos c6] at H; have c6b0 : decide (x6_1 < (t750.length : Int)) = true := decide_eq_true c6; clear c6
     by_cases c7 : 0 ≤ x6_1
     ·
      rw [if_pos c7] at H; have c7b0 : decide (0 ≤ x6_1) = true := decide_eq_true c7; clear c7
      obtain ⟨ji8, hji8⟩ : ∃ j_ : Int, (wrap64 (Int.tdiv (rd t750 x6_1) 8)) = j_ := ⟨_, rfl⟩
      replace H : (if 0 ≤ (ji8) then (if (ji8) < (l0.length : Int) then (shardlogref11_Has.l1 k1 l0 t750 x6_1 (wrap64 (rd l0 (ji8))) 0) else (none)) else (none)) = some r := by first | (rw [hji8] at H; exact H) | (simp only [hji8] at H ⊢; exact H)
      have hji8w : (IntKind.i64.wrap (Int.tdiv (rd t750 x6_1) 8)) = ji8 := (i64_w _).trans hji8
      by_cases c9 : 0 ≤ (ji8)
      ·
       rw [if_pos c9] at H; have c9b0 : decide (0 ≤ (ji8)) = true := decide_eq_true c9; clear c9
       by_cases c10 : (ji8) < (l0.length : Int)
       ·
        rw [if_pos c10] at H; have c10b0 : decide ((ji8) < (l0.length : Int)) = true := decide_eq_true c10; clear c10
        have H' := aS H
        clear H; obtain ⟨Ao11, co11, eo11⟩ := Kd.R_slice HO_5.out; subst eo11; have p753 : 0 ≤ (x6_1 : Int) := oda; have q753 : x6_1 < (t750.length : Int) := oda; obtain ⟨ad753, e753, hx753_0⟩ := Kd.at_int (Kd.R_reads' HO_5.out).2.2 x6_1 p753 q753; cases e753; replace p753 := eq_true p753; replace q753 := eq_true q753; have p754 : 0 ≤ ((ji8) : Int) := oda; have q754 : (ji8) < (l0.length : Int) := oda; obtain ⟨ad754, e754, hx754_0⟩ := Kd.at_int HR0.out (ji8) p754 q754; cases e754; replace hx754_0 := bx bel hx754_0; replace p754 := eq_true p754; replace q754 := eq_true q754
        go_wp2
        go_loopg [7, 8] k1 (fun kq v7 v8 w' => ∃ (x7_2 : Int) (x8_2 : Int), v7 = .int .i64 x7_2 ∧ v8 = .int .i64 x8_2 ∧ Aside0 (shardlogref11_Has.l1 kq l0 t750 x6_1 x7_2 x8_2 = some r) ∧ Aside0 (kq ≤ k1) ∧ Aside0 (Kd.R (Kd.int .i64) 3 w' w.heap.size (fun _ => True) (.slice (some ad753) t750.length co11) t750) ∧ Aside0 (Below w.heap.size w w'))
        case atStart => exact ⟨(wrap64 (rd l0 (ji8))), (0), (by first | rfl | (simp; done) | (simp only [← hji8] <;> (first | rfl | simp)) | (simp [*]; done)), srf, H', ⟨Nat.le_refl _⟩, ⟨by (with_reducible repeat (first | apply Kd.R_alloc | apply Kd.R_drewN | apply Kd.R_drew)); exact HO_5.out⟩, ⟨bel⟩⟩
        case round =>
         clear H'; (try clear c3); (try clear c3b0); (try clear c3b1); (try clear c3b2); (try clear c6); (try clear c6b0); (try clear c7); (try clear c7b0); (try clear c9); (try clear c9b0); (try clear c10); (try clear c10b0); (try clear hx753_0); (try clear hx754_0); (try clear p753); (try clear p754); (try clear q753); (try clear q754); obtain ⟨x7_2, x8_2, rfl, rfl, HA, HK2, HO_5, HB⟩ := hrel
         cases gk with
         | zero => exact absurd HA.out (by simp [shardlogref11_Has.l1])
         | succ k2 =>
          have H := HA.out; clear HA
          simp only [shardlogref11_Has.l1] at H
          by_cases c12 : 0 ≤ x6_1
          ·
           rw [if_pos c12] at H; have c12b0 : decide (0 ≤ x6_1) = true := decide_eq_true c12; clear c12
           by_cases c13 : x6_1 < (t750.length : Int)
           ·
            rw [if_pos c13] at H; have c13b0 : decide (x6_1 < (t750.length : Int)) = true := decide_eq_true c13; clear c13
            by_cases c14 : x8_2 < (Int.tmod (rd t750 x6_1) 8)
            ·
             rw [if_pos c14] at H; have c14b0 : decide (x8_2 < (Int.tmod (rd t750 x6_1) 8)) = true := decide_eq_true c14; clear c14
             have H' := aS H
             clear H; have p755 : 0 ≤ (x6_1 : Int) := oda; have q755 : x6_1 < (t750.length : Int) := oda; obtain ⟨ad755, e755, hx755_0⟩ := Kd.at_int (Kd.R_reads' HO_5.out).2.2 x6_1 p755 q755
             obtain rfl : ad753 = ad755 := (by injection e755)
             replace p755 := eq_true p755; replace q755 := eq_true q755
             go_wp2
             go_roundg k2
             case measure => have := HK1.out; have := HK2.out; omega
             case rel => exact ⟨(wrap64 (Int.tdiv x7_2 2)), (wrap64 (x8_2 + 1)), srf, srf, H', ⟨by have := HK1.out; have := HK2.out; omega⟩, ⟨by (with_reducible repeat (first | apply Kd.R_alloc | apply Kd.R_drewN | apply Kd.R_drew)); exact HO_5.out⟩, ⟨bel⟩⟩
            ·
             rw [if_neg c14] at H; have c14b0 : decide (x8_2 < (Int.tmod (rd t750 x6_1) 8)) = false := decide_eq_false c14; clear c14
             by_cases c15 : (Int.tmod x7_2 2) = 0
             ·
              rw [if_pos c15] at H; obtain ⟨c15b0, c15b1⟩ := eqT c15; clear c15
              obtain rfl := Option.some.inj H
              have p755 : 0 ≤ (x6_1 : Int) := oda; have q755 : x6_1 < (t750.length : Int) := oda; obtain ⟨ad755, e755, hx755_0⟩ := Kd.at_int (Kd.R_reads' HO_5.out).2.2 x6_1 p755 q755
              obtain rfl : ad753 = ad755 := (by injection e755)
              replace p755 := eq_true p755; replace q755 := eq_true q755
              go_wp2
              go_ret
              exact ⟨by first | rfl | (simp [errW_none, errW_some] <;> rfl) | (simp only [← hji8]; first | rfl | (simp [errW_none, errW_some] <;> rfl)) | (simp [*, errW_none, errW_some] <;> rfl), bel⟩
             ·
              rw [if_neg c15] at H; obtain ⟨c15b0, c15b1⟩ := eqF c15
              have H' := aS H
              clear H; have p755 : 0 ≤ (x6_1 : Int) := oda; have q755 : x6_1 < (t750.length : Int) := oda; obtain ⟨ad755, e755, hx755_0⟩ := Kd.at_int (Kd.R_reads' HO_5.out).2.2 x6_1 p755 q755
              obtain rfl : ad753 = ad755 := (by injection e755)
              replace p755 := eq_true p755; replace q755 := eq_true q755
              go_wp2
              go_roundg k2
              case measure => have := HK1.out; have := HK2.out; omega
              case rel => exact ⟨(wrap64 (x6_1 + 1)), srf, H', ⟨by have := HK1.out; have := HK2.out; omega⟩, ⟨by (with_reducible repeat (first | apply Kd.R_alloc | apply Kd.R_drewN | apply Kd.R_drew)); exact HO_5.out⟩, ⟨bel⟩⟩
           ·
            rw [if_neg c13] at H; exact absurd H (by simp)
          ·
           rw [if_neg c12] at H; exact absurd H (by simp)
       ·
        rw [if_neg c10] at H; exact absurd H (by simp)
      ·
       rw [if_neg c9] at H; exact absurd H (by simp)
     ·
      rw [if_neg c7] at H; exact absurd H (by simp)
    ·
     rw [if_neg c6] at H; have c6b0 : decide (x6_1 < (t750.length : Int)) = false := decide_eq_false c6; clear c6
     obtain rfl := Option.some.inj H
     obtain ⟨Ao16, co16, eo16⟩ := Kd.R_slice HO_5.out; subst eo16
     go_wp2
     go_ret
     exact ⟨rf3, bel⟩

/-! ### shardloglaw12_TableKeys: function 7 -/
def shardloglaw12_TableKeys.keys : List S42 → List ByteArray → Option (List ByteArray)
 | [], acc => some acc
 | c :: r, acc => (shardlogref12_Key.f c.f0 c.f1).bind fun y => if acc.length < 1099511627776 then shardloglaw12_TableKeys.keys r (acc ++ [y]) else none
def shardloglaw12_TableKeys.tail (k : Nat) (s : List S42) (a1 a2 : ByteArray) : Option (List S42 × List (List S42) × List Int) → Option Bool
 | none => none
 | some (_, _, fl) => (shardloglaw12_TableKeys.keys s []).bind fun ks => (table_Table_May.f k fl a1 a2).bind fun m => (shardlogref11_Make.f k ks).bind fun mk => (shardlogref12_Key.f a1 a2).bind fun ky => (shardlogref11_Has.f k mk ky).bind fun hs => if m = hs then some true else none
def shardloglaw12_TableKeys.main (k : Nat) (l : List S42) (a1 a2 : ByteArray) : Option Bool :=
 (shardlogref08_Sort.f k l).bind fun s => (shardlogref12_Build.f k s 50).bind fun b => (table_Open.f k b).bind fun o => shardloglaw12_TableKeys.tail k s a1 a2 o
def shardloglaw12_TableKeys.f (k : Nat) (l : List S42) (a1 a2 : ByteArray) : Option Bool :=
 (shardloglaw12_awake.f k).bind fun t => if t = true then (shardlogref08_Few.f k l).bind fun u => if u = true then (if (a1.size : Int) ≤ 100 then (if (a2.size : Int) ≤ 100 then shardloglaw12_TableKeys.main k l a1 a2 else some true) else some true) else some true else none
theorem shardloglaw12_TableKeys.mono_tail (k s a1 a2) : ∀ o, LeO (shardloglaw12_TableKeys.tail k s a1 a2 o) (shardloglaw12_TableKeys.tail (k + 1) s a1 a2 o)
 | none => LeO.refl _
 | some (_, _, fl) => LeO.bind (LeO.refl _) fun _ => LeO.bind (table_Table_May.mono _ _ _ _) fun _ => LeO.bind (shardlogref11_Make.mono _ _) fun _ => LeO.bind (LeO.refl _) fun _ => LeO.bind (shardlogref11_Has.mono _ _ _) fun _ => LeO.refl _
theorem shardloglaw12_TableKeys.mono : ∀ a0 a1 a2 k, LeO (shardloglaw12_TableKeys.f k a0 a1 a2) (shardloglaw12_TableKeys.f (k + 1) a0 a1 a2) := fun _ _ _ k =>
 LeO.bind (shardloglaw12_awake.mono _) fun _ => LeO.ite (LeO.bind (shardlogref08_Few.mono _ _) fun _ => LeO.ite (LeO.ite (LeO.ite (LeO.bind (shardlogref08_Sort.mono _ _) fun _ => LeO.bind (shardlogref12_Build.mono _ _ _) fun _ => LeO.bind (table_Open.mono _ _) fun _ => shardloglaw12_TableKeys.mono_tail _ _ _ _ _) (LeO.refl _)) (LeO.refl _)) (LeO.refl _)) (LeO.refl _)
set_option maxHeartbeats 8000000 in
set_option maxRecDepth 100000 in
theorem shardloglaw12_TableKeys.calls (k : Nat) (A0 : Option Addr) (c0 : Nat) (l : List S42) (a1 a2 : ByteArray) (r : Bool) (w : World) (hr0 : Kd.C k42 w A0 l.length l) (hc0 : l.length ≤ c0) (h : shardloglaw12_TableKeys.f k l a1 a2 = some r) :
  Calls Try.prog 7 #[.slice A0 l.length c0, .string a1, .string a2] w fun e w' => e = .returned (.bool r) ∧ Below w.heap.size w w' := by
 have hu22 := Try.underlying22; have hu26 := Try.underlying26; have hu42 := Try.underlying42; have hu51 := Try.underlying51; have HR := aS hr0; have HC := aS hc0; have HB := aS (Below.refl w.heap.size w); clear hr0 hc0
 unfold shardloglaw12_TableKeys.f at h
 replace h := obm h; obtain ⟨t, x1, h⟩ := h
 cases t with
 | false =>
  rw [if_neg Bool.false_ne_true] at h; cases h
 | true =>
 rw [if_pos rfl] at h; replace h := obm h; obtain ⟨u, x2, h⟩ := h; have X1 := aS x1; have X2 := aS x2; clear x1 x2
 cases u with
 | false =>
  rw [if_neg Bool.false_ne_true] at h
  obtain rfl := Option.some.inj h
  clear h
  go_enter Try.func7, Try.ntmps7
  go_wp2_with (first | (go_at_call 9; (with_reducible refine (shardloglaw12_awake.calls k true _ X1.out).mono ?_); rintro e_ w1_ ⟨rfl, hb⟩; have n1_ := aS (below_step HB.out hb); clear HB; have HB := n1_; clear n1_; clear hb) | (go_at_call 10; (with_reducible refine (shardlogref08_Few.calls k A0 c0 l false _ (Kd.C_below HR.out HB.out) HC.out X2.out).mono ?_); rintro e_ w1_ ⟨rfl, hb⟩; have n1_ := aS (below_step HB.out hb); clear HB; have HB := n1_; clear n1_; clear hb))
  go_ret
  exact ⟨rfl, HB.out⟩
 | true =>
 rw [if_pos rfl] at h
 by_cases hs1 : (a1.size : Int) ≤ 100
 rotate_left
 ·
  rw [if_neg hs1] at h
  obtain rfl := Option.some.inj h
  have z1 : decide ((100 : Int) < (a1.size : Int)) = true := decide_eq_true (by omega); have y1 : decide (100 < a1.size) = true := decide_eq_true (by omega); clear h hs1
  go_enter Try.func7, Try.ntmps7
  go_wp2_with (first | (go_at_call 9; (with_reducible refine (shardloglaw12_awake.calls k true _ X1.out).mono ?_); rintro e_ w1_ ⟨rfl, hb⟩; have n1_ := aS (below_step HB.out hb); clear HB; have HB := n1_; clear n1_; clear hb) | (go_at_call 10; (with_reducible refine (shardlogref08_Few.calls k A0 c0 l true _ (Kd.C_below HR.out HB.out) HC.out X2.out).mono ?_); rintro e_ w1_ ⟨rfl, hb⟩; have n1_ := aS (below_step HB.out hb); clear HB; have HB := n1_; clear n1_; clear hb))
  go_ret
  exact ⟨rfl, HB.out⟩
 rw [if_pos hs1] at h; have z1 : decide ((100 : Int) < (a1.size : Int)) = false := decide_eq_false (by omega); have y1 : decide (100 < a1.size) = false := decide_eq_false (by omega); clear hs1
 by_cases hs2 : (a2.size : Int) ≤ 100
 rotate_left
 ·
  rw [if_neg hs2] at h
  obtain rfl := Option.some.inj h
  have z2 : decide ((100 : Int) < (a2.size : Int)) = true := decide_eq_true (by omega); have y2 : decide (100 < a2.size) = true := decide_eq_true (by omega); clear h hs2
  go_enter Try.func7, Try.ntmps7
  go_wp2_with (first | (go_at_call 9; (with_reducible refine (shardloglaw12_awake.calls k true _ X1.out).mono ?_); rintro e_ w1_ ⟨rfl, hb⟩; have n1_ := aS (below_step HB.out hb); clear HB; have HB := n1_; clear n1_; clear hb) | (go_at_call 10; (with_reducible refine (shardlogref08_Few.calls k A0 c0 l true _ (Kd.C_below HR.out HB.out) HC.out X2.out).mono ?_); rintro e_ w1_ ⟨rfl, hb⟩; have n1_ := aS (below_step HB.out hb); clear HB; have HB := n1_; clear n1_; clear hb))
  go_ret
  exact ⟨rfl, HB.out⟩
 rw [if_pos hs2] at h; have z2 : decide ((100 : Int) < (a2.size : Int)) = false := decide_eq_false (by omega); have y2 : decide (100 < a2.size) = false := decide_eq_false (by omega); clear hs2
 unfold shardloglaw12_TableKeys.main at h
 replace h := obm h; obtain ⟨s, x3, h⟩ := h; replace h := obm h; obtain ⟨b, x4, h⟩ := h; replace h := obm h; obtain ⟨o, x5, h⟩ := h
 cases o with
 | none => cases h
 | some o =>
 obtain ⟨l', bs, fl⟩ := o; replace h : ((shardloglaw12_TableKeys.keys s []).bind fun ks => (table_Table_May.f k fl a1 a2).bind fun m => (shardlogref11_Make.f k ks).bind fun mk => (shardlogref12_Key.f a1 a2).bind fun ky => (shardlogref11_Has.f k mk ky).bind fun hs => if m = hs then some true else none) = some r := h; replace h := obm h; obtain ⟨ks, x6, h⟩ := h; replace h := obm h; obtain ⟨m, x7, h⟩ := h; replace h := obm h; obtain ⟨mk, x8, h⟩ := h; replace h := obm h; obtain ⟨ky, x9, h⟩ := h; replace h := obm h; obtain ⟨hs, x10, h⟩ := h
 split at h
 case isFalse => cases h
 rename_i hc
 subst hc
 obtain rfl := Option.some.inj h
 have X3 := aS x3; have X4 := aS x4; have X5 := aS x5; have X6 := aS x6; have X7 := aS x7; have X8 := aS x8; have X9 := aS x9; have X10 := aS x10; clear x3 x4 x5 x6 x7 x8 x9 x10 h
 go_enter Try.func7, Try.ntmps7
 go_wp2_with (first | (go_at_call 9; (with_reducible refine (shardloglaw12_awake.calls k true _ X1.out).mono ?_); rintro e_ w1_ ⟨rfl, hb⟩; have n1_ := aS (below_step HB.out hb); clear HB; have HB := n1_; clear n1_; clear hb) | (go_at_call 10; (with_reducible refine (shardlogref08_Few.calls k A0 c0 l true _ (Kd.C_below HR.out HB.out) HC.out X2.out).mono ?_); rintro e_ w1_ ⟨rfl, hb⟩; have n1_ := aS (below_step HB.out hb); clear HB; have HB := n1_; clear n1_; clear hb) | (go_at_call 11; (with_reducible refine (shardlogref08_Sort.calls k A0 c0 l s _ (Kd.C_below HR.out HB.out) HC.out X3.out).mono ?_); rintro e_ w3 ⟨v5, rfl, ho, hb⟩; obtain ⟨As, cs, rfl, hcl, hC⟩ := Kd.R_reads ho; have HLs := aS hcl; have HCs := aS hC; have HB3 := aS (below_step HB.out hb); clear ho hb hcl hC HB) | (go_at_call 15; (with_reducible refine (shardlogref12_Build.calls k As cs s 50 b _ HCs.out HLs.out X4.out).mono ?_); rintro e_ w4 ⟨v6, rfl, ho, hb⟩; obtain ⟨Ab, cb, rfl, hcl, hC⟩ := Kd.R_reads ho; have HLb := aS hcl; have HCb := aS hC; have HC4 := aS (Kd.C_below HCs.out hb); have HB4 := aS (below_step HB3.out hb); clear ho hb hcl hC HB3 HCs) | (go_at_call 16; (with_reducible refine (table_Open.calls k Ab cb b (some (l', bs, fl)) _ HCb.out HLb.out X5.out).mono ?_); rintro e_ w5 ⟨g, rfl, ha, hb⟩; have HA5 := aS ha; have HC5 := aS (Kd.C_below HC4.out hb); have HB5 := aS (below_step HB4.out hb); clear ha hb HC4 HB4 HCb HLb))
 have HMX : Aside0 (s.length ≤ 9223372036854775807) := aS HC5.out.2.1; clear z1 z2 y1 y2
 go_loopw [10, 11] (fun v10 v11 wr => ∃ (i : Nat) (acc : List ByteArray), v11 = .int .i64 (i : Int) ∧ Aside0 (i ≤ s.length) ∧ Aside0 (shardloglaw12_TableKeys.keys (s.drop i) acc = some ks) ∧ Aside0 (Kd.R Kd.string 9 wr w5.heap.size (fun _ => True) v10 acc) ∧ Aside0 (Below w5.heap.size w5 wr)) (fun _ i _ => s.length - (intOf i).toNat)
 case atStart => exact ⟨0, [], rfl, ⟨Nat.zero_le _⟩, X6, ⟨Kd.R_nil _ _ _ _ _⟩, ⟨Below.refl _ _⟩⟩
 case round =>
  obtain ⟨i, acc, rfl, hi, HA, HRr, HBr⟩ := hrel; clear X1 X2 X3 X4 X5 X6
  by_cases hlt : i < s.length
  ·
   have hq1 : (i : Int) < (s.length : Int) := by omega
   have hq0 : (0 : Int) ≤ (i : Int) := by omega
   obtain ⟨ad, e_, _⟩ := at_T42 HC5.out (i : Int) hq0 hq1; subst e_
   obtain ⟨x, hx⟩ : ∃ x, x = rd_T42 s (i : Int) := ⟨_, rfl⟩
   have hxe : x = s[i] := by rw [hx]; unfold rd_T42; rw [Int.toNat_natCast, List.getD_eq_getElem?_getD, List.getElem?_eq_getElem hlt]; rfl
   have HS : Aside0 (∀ W, Below w5.heap.size w5 W → (W.cell? (ad.add (i * 5)) = some (.string x.f0) ∧ W.cell? ⟨(ad.add (i * 5)).block, (ad.add (i * 5)).off + 1, none⟩ = some (.string x.f1))) := aS (fun W hb => by
    obtain ⟨ad', e', hs⟩ := at_T42 (Kd.C_below HC5.out hb) (i : Int) hq0 hq1
    cases e'
    rw [← hx, Int.toNat_natCast] at hs
    exact ⟨hs.1, hs.2.1⟩)
   have ha := HA.out; rw [List.drop_eq_getElem_cons hlt, ← hxe] at ha
   unfold shardloglaw12_TableKeys.keys at ha
   replace ha := obm ha; obtain ⟨y, y1, ha⟩ := ha; have Y1 := aS y1
   by_cases hg : acc.length < 1099511627776
   case neg => rw [if_neg hg] at ha; cases ha
   rw [if_pos hg] at ha; have HA2 := aS ha; have HG := aS hg
   have hix : ∀ W : World, (Instr.indexAt 22 (.slice (some ad) s.length cs) (.int .i64 (i : Int))).run Try.prog W = .ok (.pointer (some (ad.add (i * 5)))) W := by
    obtain ⟨i0, hi0, hz⟩ := Option.map_eq_some_iff.1 info42
    simp only [Prod.mk.injEq] at hz
    exact index_ad 22 42 hu22 hi0 5 hz.2.1 ad s.length cs (i : Int) hq0 hq1
   have hwr : wrap64 ((i : Int) + 1) = (i : Int) + 1 := by rw [← i64_w, IntKind.wrap_i64]; have := HMX.out; omega
   clear hx hxe hi hq0 y1 ha HA hg
   go_upto_region 11 with (fail)
   refine start_ (n := 15) (ds := []) (S := fun w' => (w'.cell? (ad.add (i * 5)) = some (.string x.f0) ∧ w'.cell? ⟨(ad.add (i * 5)).block, (ad.add (i * 5)).off + 1, none⟩ = some (.string x.f1))) (bA 15 0) (by kernel_rfl) rfl rfl (HS.out _ (below_step HBr.out (below_drew (Below.refl _ _)))) (fun hHeld => ?_)
   generalize hw_ : World.drew _ = w6 at hHeld ⊢
   have HR6 : Aside0 (Kd.R Kd.string 9 w6 w5.heap.size (fun _ => True) u10 acc) := aS (hw_ ▸ Kd.R_drew HRr.out); have HB6 : Aside0 (Below w5.heap.size w5 w6) := aS (hw_ ▸ below_step HBr.out (below_drew (Below.refl _ _))); clear hw_ HRr HBr; refine with_tabW (T := (true, [([], []), ([], []), ([], []), ([1, 2], [1, 2]), ([3], [3]), ([4], [4]), ([], []), ([], []), ([6, 7], [6, 7]), ([8], [8]), ([9], [9]), ([5, 10], [5, 10]), ([11], [11]), ([0, 12, 11], [0, 12]), ([13, 13, 0, 1, 2, 3, 4, 5, 6, 7, 8, 9, 10, 11, 12, 13], [0, 13])])) (B := [0, 0, 0, 6, 14, 30, 0, 0, 192, 448, 960, 2046, 4094, 8191, 16383]) (by kernel_rfl) (by kernel_rfl) (fun HT_ HW_ => ?_); refine along_ [(0, 50), (1, 51), (2, 52), (3, 53), (4, 54)] ?_
   iterate 5 (refine pure3 HT_ ?_)
   refine lay_ (bA 15 31) (by kernel_rfl) ?_; refine along_ [(5, 55)] ?_
   iterate 1 (refine take3 HT_ HW_ hHeld ?_)
   refine lay_ (bA 15 63) (by kernel_rfl) ?_; refine along_ [(6, 56), (7, 57), (8, 58), (9, 59)] ?_
   iterate 4 (refine pure3 HT_ ?_)
   refine lay_ (bA 15 1023) (by kernel_rfl) ?_; refine along_ [(10, 60)] ?_
   iterate 1 (refine take3 HT_ HW_ hHeld ?_)
   refine lay_ (bA 15 2047) (by kernel_rfl) ?_; refine one3 11 (N := some 61) (bA 15 4095) HT_ (fun K hK => ?_); refine goes_ Try.func24 (by kernel_rfl) rfl #[.string x.f0, .string x.f1] (by rfl) rfl rfl agn ?_
   with_reducible refine (shardlogref12_Key.calls x.f0 x.f1 y _ Y1.out).mono ?_
   rintro e_ w7 ⟨rfl, hb⟩
   refine ⟨_, rfl, ?_⟩; have HR7 := aS (Kd.R_below HR6.out hb); have HB7 := aS (below_step HB6.out hb); clear hb HR6 HB6; refine hK.out _ _ (HS.out _ HB7.out) (fun hHeld => ?_); clear hK K; refine nm 61 ?_; refine one3 12 (N := some 62) (bA 15 8191) HT_ (fun K hK => ?_); refine value_ (w1 := ?_) (v := ?_) (by rfl) rfl ?_ ?_
   rotate_left 2
   ·
    go_simp
    constructor
    ·
     rfl
    ·
     rfl
   refine hK.out _ _ (HS.out _ (below_step HB7.out (bal (Below.refl _ _) _))) (fun hHeld => ?_); clear hK K; refine nm 62 ?_; refine one3 13 (N := some 63) (bA 15 16383) HT_ (fun K hK => ?_); refine Kd.R_append_step Kd.string (w0 := w5) w5.heap.size (by rfl) (.tmp 50) (.tmp 62) 51 9 (.string ⟨#[]⟩) 16 rfl hu51 info9 rfl (by decide) (by decide) u10 acc y [.string y] (fun _ => True) (fun _ => False) rfl rfl rfl (fun _ hk => hk.elim) (fun _ _ => trivial) HR7.out HB7.out HB7.out.size (by have := HG.out; omega) ?_
   intro v63 w8 ho hb hg hat
   have HR8 := aS ho; have HB8 := aS hb; clear ho hb hg hat HR7 HB7; refine hK.out _ _ (HS.out _ HB8.out) (fun hHeld => ?_); clear hK K; refine nm 63 ?_; refine along_ [(14, 10)] ?_
   iterate 1 (refine pure3 HT_ ?_)
   refine lay_ (bA 15 32767) (by kernel_rfl) ?_; refine done_ (done_of HT_.out (by kernel_rfl)) ?_; clear HT_ HW_ hHeld
   try go_wp2
   go_roundw
   case rel => exact ⟨i + 1, acc ++ [y], by first | rfl | (rw [hwr]; rfl), ⟨hlt⟩, HA2, HR8, HB8⟩
   case measure => first | exact meas1 hwr hlt | exact meas1 rfl hlt
  ·
   have e_ : s.drop i = [] := List.drop_eq_nil_of_le (by omega)
   have hge : ¬ ((i : Int) < (s.length : Int)) := by omega
   have ha := HA.out; rw [e_] at ha
   unfold shardloglaw12_TableKeys.keys at ha
   obtain e1 := Option.some.inj ha
   subst e1; obtain ⟨Ak, ck, rfl, hcl, hC⟩ := Kd.R_reads HRr.out; have HLk := aS hcl; have HCk := aS hC; have HA6 := aS (HA5.out.below HBr.out); have HB6 := aS (below_step HB5.out HBr.out); clear e_ HA hcl hC HRr hi
   go_wp2_with (first | (go_at_call 22; (with_reducible refine (table_Table_May.calls k g _ l' bs fl a1 a2 m _ HA6.out X7.out).mono ?_); rintro e_ w7 ⟨rfl, hb⟩; have HCk7 := aS (Kd.C_below HCk.out hb); have HB7 := aS (below_step HB6.out hb); clear hb HCk HB6) | (go_at_call 26; (with_reducible refine (shardlogref11_Make.calls k Ak ck acc mk _ HCk7.out HLk.out X8.out).mono ?_); rintro e_ w8 ⟨v69, rfl, ho, hb⟩; obtain ⟨Am, cm, rfl, hcl, hC⟩ := Kd.R_reads ho; have HLm := aS hcl; have HCm := aS hC; have HB8 := aS (below_step HB7.out hb); clear ho hb hcl hC HB7 HCk7) | (go_at_call 24; (with_reducible refine (shardlogref12_Key.calls a1 a2 ky _ X9.out).mono ?_); rintro e_ w9 ⟨rfl, hb⟩; have HCm9 := aS (Kd.C_below HCm.out hb); have HB9 := aS (below_step HB8.out hb); clear hb HB8 HCm) | (go_at_call 25; (with_reducible refine (shardlogref11_Has.calls k Am cm mk ky m _ HCm9.out HLm.out X10.out).mono ?_); rintro e_ w10 ⟨rfl, hb⟩; have HB10 := aS (below_step HB9.out hb); clear hb HB9))
   go_ret
   exact ⟨rfl, HB10.out⟩


/-- THE ONE PURE STATEMENT of shardloglaw12_TableKeys. -/
def shardloglaw12_TableKeys.Pure : Prop := ∀ (l0 : List (S42)) (a1 : ByteArray) (a2 : ByteArray), (l0.length ≤ maxLen ∧ l0.length * 64 ≤ 140737488351232 ∧ ∀ y0_ ∈ l0, (y0_.f0.size ≤ 140737488351232 ∧ y0_.f1.size ≤ 140737488351232 ∧ (Lit.int .i64 y0_.f2).wf = true ∧ y0_.f3.size ≤ 140737488351232 ∧ True)) → a1.size ≤ 140737488351232 → a2.size ≤ 140737488351232 → ∃ k, shardloglaw12_TableKeys.f k l0 a1 a2 = some true
theorem shardloglaw12_TableKeys.walk (P : shardloglaw12_TableKeys.Pure) (A0 : Option Addr) (c0 : Nat) (l0 : List (S42)) (a1 : ByteArray) (a2 : ByteArray) (w : World) (wf0 : (l0.length ≤ maxLen ∧ l0.length * 64 ≤ 140737488351232 ∧ ∀ y0_ ∈ l0, (y0_.f0.size ≤ 140737488351232 ∧ y0_.f1.size ≤ 140737488351232 ∧ (Lit.int .i64 y0_.f2).wf = true ∧ y0_.f3.size ≤ 140737488351232 ∧ True))) (hr0 : Kd.C k42 w A0 l0.length l0) (hc0 : l0.length ≤ c0) (wf1 : a1.size ≤ 140737488351232) (wf2 : a2.size ≤ 140737488351232) :
  Calls Try.prog 7 #[.slice A0 l0.length c0, .string a1, .string a2] w fun e w' => e = .returned (.bool true) ∧ Below w.heap.size w w' := by
 obtain ⟨k, h⟩ := P l0 a1 a2 wf0 wf1 wf2; refine (shardloglaw12_TableKeys.calls k A0 c0 l0 a1 a2 true w hr0 hc0 h).mono ?_
 rintro e w' ⟨rfl, hd⟩
 exact ⟨rfl, hd⟩

end Go.Proofs.Ytinhpolmanccgaa.X
