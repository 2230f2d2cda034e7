-- written by a program of this session's, over the kit's print
import Derived.Test.YtinhpolmanccgaaXx0
import Derived.Test.YtinhpolmanccgaaXx4
import Derived.Test.YtinhpolmanccgaaXx5
import Derived.Test.YtinhpolmanccgaaXx6
namespace Go.Proofs.Ytinhpolmanccgaa.X
open Go.RowKit Go.Proofs.YtinhpolmanccgaaW.PrintWords Go.Proofs.YtinhpolmanccgaaW.PrintLast Go.Proofs.YtinhpolmanccgaaW.PrintMore
attribute [local go_sem] max2_int min2_int max_two min_two max_three min_three max_four min_four gtr_str   -- for this text's walks alone
set_option linter.unusedVariables false
set_option linter.unusedSimpArgs false

/-! ### frame_Cut: function 59 -/
def frame_Cut.j0 : Nat → Int → List Int → Bool → Option (List Int × List Int × Bool)
 | 0, _, _, _ => none
 | k + 1, x5, x8, x45 => if x45 = true then (some (([] : List Int), ([] : List Int), false)) else (if 0 ≤ x5 then (if x5 ≤ (x8.length : Int) then (some ((x8.take (x5 : Int).toNat), (x8.drop (x5 : Int).toNat), true)) else (none)) else (none))
def frame_Cut.f (k : Nat) (l0 : List Int) : Option (List Int × List Int × Bool) := if (l0.length : Int) < 12 then (some (([] : List Int), ([] : List Int), false)) else ((wire_CutNum.f k l0).bind fun bt326 => (if 12 ≤ (l0.length : Int) then ((slices_Clone_byte_byte.f (l0.drop 12)).bind fun t336 => (if bt326.1 > 65535 then (frame_Cut.j0 k bt326.1 t336 true) else (if bt326.1 > (t336.length : Int) then (frame_Cut.j0 k bt326.1 t336 true) else (if 4 ≤ (l0.length : Int) then ((some (l0.take 4 : List Int)).bind fun y344 => ((frame_sum.f k y344).bind fun t349 => (if 0 ≤ bt326.1 then (if bt326.1 ≤ (t336.length : Int) then ((frame_sum.f k (t336.take (bt326.1 : Int).toNat)).bind fun t357 => ((slices_Concat_byte_byte.f (([y344, t349, t357] : List (List Int)))).bind fun t363 => ((slices_Equal_byte_byte.f k (l0.take 12) t363).bind fun t366 => (frame_Cut.j0 k bt326.1 t336 (!t366))))) else (none)) else (none)))) else (none))))) else (none)))
theorem frame_Cut.mono_l : ∀ k, (∀ y0 y1 y2, LeO (frame_Cut.j0 k y0 y1 y2) (frame_Cut.j0 (k + 1) y0 y1 y2))
 | 0 => fun _ _ _ r h => by simp [frame_Cut.j0] at h
 | k + 1 => by
  have ih0 := frame_Cut.mono_l k
  ·
   intro y0 y1 y2
   unfold frame_Cut.j0
   have m0 := @frame_sum.mono; have m1 := @slices_Equal_byte_byte.mono; have m2 := @wire_CutNum.mono; exact lmo
theorem frame_Cut.mono : ∀ a0 k, LeO (frame_Cut.f k a0) (frame_Cut.f (k + 1) a0) := by
 intro a0 k
 have ih0 := frame_Cut.mono_l k
 unfold frame_Cut.f
 have m0 := @frame_sum.mono; have m1 := @slices_Equal_byte_byte.mono; have m2 := @wire_CutNum.mono; exact lmo
def frame_Cut.T5 : Bool × List (List Nat × List Nat) := (true, [([], []), ([0], [0]), ([1], [1]), ([2], [2]), ([2], [2]), ([4, 2], [2, 4]), ([3, 5, 2], [2, 3, 5]), ([2, 6], [2, 6]), ([7, 2], [7]), ([8], [8]), ([9, 8], [8, 9]), ([8], [8]), ([11, 8], [8, 11]), ([8], [8]), ([13, 8], [8, 13]), ([14, 8, 8], [8, 14]), ([8], [8]), ([8], [8]), ([16, 17, 8], [8, 16, 17]), ([18, 15, 8], [8, 18]), ([12, 15, 19, 8], [8, 12, 15, 19]), ([20, 19, 8], [8, 20]), ([10, 21, 21, 8], [8, 10, 21]), ([22, 8], [8, 22]), ([8, 23], [8, 23])])
def frame_Cut.B5 : List Nat := [0, 1, 3, 7, 7, 23, 63, 127, 255, 511, 1023, 511, 2559, 511, 8703, 25087, 511, 511, 197119, 516607, 1047039, 2095615, 4194303, 8388607, 16777215]
theorem frame_Cut.tab5 : rtab .any (opsOf Try.f59 5) = frame_Cut.T5 := by kernel_rfl
theorem frame_Cut.bits5 : waitsOk frame_Cut.T5.2 frame_Cut.B5 = true := by kernel_rfl
def frame_Cut.T7 : Bool × List (List Nat × List Nat) := (true, [([], []), ([], []), ([], []), ([0, 1, 2], [0, 1, 2]), ([], []), ([], []), ([4, 5], [4, 5]), ([3, 0, 1, 2, 3], [3]), ([6, 7, 0, 1, 2, 3, 4, 5, 6, 7], [6]), ([8, 0, 1, 2, 3, 4, 5, 6, 7, 8], [])])
def frame_Cut.B7 : List Nat := [0, 0, 0, 7, 0, 0, 48, 15, 255, 511]
theorem frame_Cut.tab7 : rtab .any (opsOf Try.f59 7) = frame_Cut.T7 := by kernel_rfl
theorem frame_Cut.bits7 : waitsOk frame_Cut.T7.2 frame_Cut.B7 = true := by kernel_rfl
set_option maxHeartbeats 8000000 in
set_option maxRecDepth 100000 in
theorem frame_Cut.calls (k : Nat) (P0_ : Nat → Prop) (A0 : Option Addr) (c0 : Nat) (l0 : List Int) (r1 : List Int) (r2 : List Int) (r3 : Bool) (w : World) (hs0 : Kd.V (Kd.int .u8) 5 w w.heap.size (fun k_ => P0_ k_) (.slice A0 l0.length c0) l0) (h : frame_Cut.f k l0 = some (r1, r2, r3)) :
  Calls Try.prog 59 #[.slice A0 l0.length c0] w fun e w' => ∃ v0_ v1_ : Value, e = .returned (.tuple #[v0_, v1_, .bool r3]) ∧ Kd.V (Kd.int .u8) 5 w' w.heap.size (fun k_ => (P0_ k_ ∨ w.heap.size ≤ k_)) v0_ r1 ∧ Kd.V (Kd.int .u8) 5 w' w.heap.size (fun k_ => (P0_ k_ ∨ w.heap.size ≤ k_)) v1_ r2 ∧ Below w.heap.size w w' := by
 have HO0 := aS (show Kd.V (Kd.int .u8) 5 w w.heap.size (fun k_ => (P0_ k_ ∨ w.heap.size ≤ k_)) (.slice A0 l0.length c0) l0 from Kd.V_mono hs0 (fun k_ hk => .inl hk)); have HB := aS (Below.refl w.heap.size w); have H : (if (l0.length : Int) < 12 then (some (([] : List Int), ([] : List Int), false)) else ((wire_CutNum.f k l0).bind fun bt326 => (if 12 ≤ (l0.length : Int) then ((slices_Clone_byte_byte.f (l0.drop 12)).bind fun t336 => (if bt326.1 > 65535 then (frame_Cut.j0 k bt326.1 t336 true) else (if bt326.1 > (t336.length : Int) then (frame_Cut.j0 k bt326.1 t336 true) else (if 4 ≤ (l0.length : Int) then ((some (l0.take 4 : List Int)).bind fun y344 => ((frame_sum.f k y344).bind fun t349 => (if 0 ≤ bt326.1 then (if bt326.1 ≤ (t336.length : Int) then ((frame_sum.f k (t336.take (bt326.1 : Int).toNat)).bind fun t357 => ((slices_Concat_byte_byte.f (([y344, t349, t357] : List (List Int)))).bind fun t363 => ((slices_Equal_byte_byte.f k (l0.take 12) t363).bind fun t366 => (frame_Cut.j0 k bt326.1 t336 (!t366))))) else (none)) else (none)))) else (none))))) else (none)))) = some (r1, r2, r3) := h; clear h
 by_cases c2 : (l0.length : Int) < 12
 ·
  rw [if_pos c2] at H; have c2b0 : decide ((l0.length : Int) < 12) = true := decide_eq_true c2; have c2b1 : decide (l0.length < 12) = true := decide_eq_true (by omega); clear c2
  simp only [Option.some.injEq, Prod.mk.injEq] at H
  obtain ⟨rfl, rfl, rfl⟩ := H
  go_enter Try.func59, Try.ntmps59
  go_wp2
  go_ret3
  exact ⟨_, _, rf3, Kd.V_nil _ _ _ _ _, Kd.V_nil _ _ _ _ _, bel⟩
 ·
  rw [if_neg c2] at H; have c2b0 : decide ((l0.length : Int) < 12) = false := decide_eq_false c2; have c2b1 : decide (l0.length < 12) = false := decide_eq_false (by omega); clear c2; replace H := obm H; obtain ⟨⟨t326, t327, t328⟩, A30, H⟩ := H; (try dsimp only at H); have A3 := aS A30; clear A30
  by_cases c4 : 12 ≤ (l0.length : Int)
  ·
   rw [if_pos c4] at H; have c4b0 := eq_true c4; have c4b1 : decide (12 ≤ (l0.length : Int)) = true := decide_eq_true c4; clear c4
   obtain ⟨y331, hy331⟩ : ∃ y_ : List Int, y_ = (l0.drop 12) := ⟨_, rfl⟩
   (first | replace H := hyn hy331 H | rw [← hy331] at H); have Ny331 := aS hy331; clear hy331; replace H := obm H; obtain ⟨t336, A50, H⟩ := H; have A5 := aS A50; clear A50; have HC6 := aS H; clear H
   go_enter Try.func59, Try.ntmps59
   go_upto_region 5 with (first | ((with_reducible refine gate_callee (f := 38) rfl ?_); refine goesL_ (some 14) rfl rfl Try.func38 (by kernel_rfl) rfl #[.slice A0 l0.length c0] rfl agn ?_; (with_reducible refine (wire_CutNum.calls k _ _ l0 t326 t327 t328 _ ?side1 ?side2 A3.out).mono ?_); (case side1 => exact cel ((Kd.V_reads' HO0.out).2.2)); (case side2 => exact (Kd.V_reads' HO0.out).2.1); rintro e w7 ⟨v329, rfl, ho0, hb⟩; refine ⟨_, rfl, ?_⟩; replace HO0 := aS (Kd.V_elder' (sel HO0.out) (ebs ho0) hb); have HO330 := aS (Kd.R_lower (Kd.R_newM (M := fun k_ => (w.heap.size ≤ k_)) ho0 (below_size bel) (fun k_ h_ => h_)) (below_size bel)); replace HB := bstep hb; (try clear hb); (try clear hk); (try clear hi); (try clear ho0); have q8 : (12 : Int) ≤ ((l0.length : Int) : Int) := oda; obtain ⟨i08, hi08, _, hsz8, _⟩ := info_parts info5; have hroom8 : l0.length ≤ c0 := (Kd.V_reads' HO0.out).2.1; have hC8 : Kd.F (Kd.int .u8) _ _ A0 l0.length l0 := (Kd.V_at (base := w.heap.size) HO0.out).2.2; have hcut8 := cut_from (P := Try.prog) 26 5 .i64 Try.underlying26 hi08 1 hsz8 A0 l0.length c0 12 (by omega) q8; have hr8 := Kd.F_cut (m := (12 : Int).toNat) (c := c0) hC8 (by omega) hroom8; obtain ⟨A8, hA8⟩ : ∃ A1_, A1_ = (if c0 = (12 : Int).toNat then A0 else (A0 : Option Addr).map (·.add ((12 : Int).toNat * 1))) := ⟨_, rfl⟩; obtain ⟨c8, hc8⟩ : ∃ c1_, c1_ = c0 - (12 : Int).toNat := ⟨_, rfl⟩; have hy8 : y331.length = l0.length - (12 : Int).toNat := (by rw [Ny331.out, lld] <;> omega); rw [show (l0).drop (12 : Int).toNat = y331 from Ny331.out.symm] at hr8; replace hr8 : Kd.F (Kd.int .u8) _ _ A8 y331.length y331 := (by rw [hA8]; exact hr8); rw [← hy8, ← hA8, ← hc8] at hcut8; have HO335 := aS (show Kd.V (Kd.int .u8) 5 _ w.heap.size _ (.slice A8 y331.length c8) y331 from Kd.V_mk (by rw [hy8, hc8]; exact Nat.sub_le_sub_right hroom8 _) hr8); have HC335 := aS (show y331.length ≤ c8 from by rw [hy8, hc8]; exact Nat.sub_le_sub_right hroom8 _); clear hr8 hC8 hroom8 hi08 hsz8 hc8; have KY8 := aS hy8; have KA8 := aS hA8; clear hy8 hA8; replace q8 := eq_true q8) | ((with_reducible refine gate_callee (f := 58) rfl ?_); refine goesL_ (some 20) rfl rfl Try.func58 (by kernel_rfl) rfl #[.slice A8 y331.length c8] rfl agn ?_; (with_reducible refine (slices_Clone_byte_byte.calls _ _ y331 t336 _ ?side1 ?side2 A5.out).mono ?_); (case side1 => exact cel ((Kd.V_reads' HO335.out).2.2)); (case side2 => exact (Kd.V_reads' HO335.out).2.1); rintro e w9 ⟨v337, rfl, ho0, hb⟩; refine ⟨_, rfl, ?_⟩; replace HO0 := aS (Kd.V_elder' (sel HO0.out) (ebs ho0) hb); replace HO335 := aS (Kd.V_elder' (sel HO335.out) (ebs ho0) hb); have HO338 := aS (Kd.R_lower (Kd.R_new' (Kd.R_newM (M := fun k_ => (w.heap.size ≤ k_)) ho0 (below_size bel) (fun k_ h_ => h_)) (Kd.R_lt (rel HO330.out))) (below_size bel)); replace HO330 := aS (Kd.R_elder' (rel HO330.out) (ebs ho0) hb); replace HB := bstep hb; (try clear hb); (try clear hk); (try clear hi); (try clear ho0)))
   (try simp only [Act.put, lsa, lsz, lss])
   go_cut [45] (fun v45 wc => ∃ (kq : Nat) (x45_5 : Bool), v45 = .bool x45_5 ∧ Aside0 (frame_Cut.j0 kq t326 t336 x45_5 = some (r1, r2, r3)) ∧ Aside0 (kq ≤ k) ∧ Aside0 (Kd.R (Kd.int .u8) 5 wc w.heap.size (fun k_ => (w.heap.size ≤ k_)) v337 t336) ∧ Aside0 (Below w.heap.size w wc))
   case first =>
    have H := HC6.out; clear HC6
    by_cases c10 : t326 > 65535
    ·
     rw [if_pos c10] at H; have c10b0 : decide (65535 < t326) = true := decide_eq_true c10; clear c10
     (first | rw [c10b0] | (simp only [i64_w, i32_w]; rw [c10b0]) | skip)
     have H' := aS H
     clear H
     try go_wp2
     replace HO0 := aS (Kd.V_drew HO0.out); replace HO330 := aS (Kd.R_drew HO330.out); replace HO335 := aS (Kd.V_drew HO335.out); replace HO338 := aS (Kd.R_drew HO338.out); replace HB := aS (bdo HB.out); refine start_ (n := 25) (S := fun w' => True) (ds := []) (bA 25 0) (by kernel_rfl) rfl rfl trivial (fun hHeld => ?_); refine with_tabW frame_Cut.tab5 frame_Cut.bits5 (fun HT_ HW_ => ?_)
     generalize w9.drew = w11 at HO0 HO330 HO335 HO338 HB hHeld ⊢
     refine along_ [(0, 21), (1, 22), (2, 23), (3, 24), (4, 25), (5, 26), (6, 27), (7, 28), (8, 29), (9, 30), (10, 31), (11, 32), (12, 33), (13, 34), (14, 35), (15, 36), (16, 37), (17, 38), (18, 39), (19, 40), (20, 41), (21, 42), (22, 43), (23, 44), (24, 45)] ?_
     iterate 25 (first | (refine skip3 HT_ ?_) | (refine pure3 HT_ ?_))
     refine lay_ (bA 25 33554431) (by kernel_rfl) ?_; refine done_ (done_of HT_.out (by kernel_rfl)) ?_
     try go_wp2
     go_meet
     case rel => exact ⟨_, (true), srf, H', ⟨by first | omega | exact Nat.le_refl _⟩, ⟨by (with_reducible repeat (first | apply Kd.R_alloc | apply Kd.R_drewN | apply Kd.R_drew)); exact Kd.R_mono HO338.out (fun _ hk => hk.1.1)⟩, ⟨bel⟩⟩
    ·
     rw [if_neg c10] at H; have c10b0 : decide (65535 < t326) = false := decide_eq_false c10; clear c10
     (first | rw [c10b0] | (simp only [i64_w, i32_w]; rw [c10b0]) | skip)
     by_cases c12 : t326 > (t336.length : Int)
     ·
      rw [if_pos c12] at H; have c12b0 : decide ((t336.length : Int) < t326) = true := decide_eq_true c12; clear c12
      have H' := aS H
      clear H
      try go_wp2
      replace HO0 := aS (Kd.V_drew HO0.out); replace HO330 := aS (Kd.R_drew HO330.out); replace HO335 := aS (Kd.V_drew HO335.out); replace HO338 := aS (Kd.R_drew HO338.out); replace HB := aS (bdo HB.out); obtain ⟨Ao14, co14, eo14⟩ := Kd.R_slice HO338.out
      (first | subst eo14 | (injection eo14 with f1_ f2_ f3_; have f4_ := f1_.symm; have f5_ := f3_.symm; clear f1_ f2_ f3_; subst f4_; subst f5_))
      refine start_ (n := 25) (S := fun w' => True) (ds := []) (bA 25 0) (by kernel_rfl) rfl rfl trivial (fun hHeld => ?_); refine with_tabW frame_Cut.tab5 frame_Cut.bits5 (fun HT_ HW_ => ?_)
      generalize w9.drew = w13 at HO0 HO330 HO335 HO338 HB hHeld ⊢
      refine along_ [(0, 21), (1, 22), (2, 23), (3, 24), (4, 25), (5, 26), (6, 27), (7, 28), (8, 29), (9, 30), (10, 31), (11, 32), (12, 33), (13, 34), (14, 35), (15, 36), (16, 37), (17, 38), (18, 39), (19, 40), (20, 41), (21, 42), (22, 43), (23, 44), (24, 45)] ?_
      iterate 25 (first | (refine skip3 HT_ ?_) | (refine pure3 HT_ ?_))
      refine lay_ (bA 25 33554431) (by kernel_rfl) ?_; refine done_ (done_of HT_.out (by kernel_rfl)) ?_
      try go_wp2
      go_meet
      case rel => exact ⟨_, (true), srf, H', ⟨by first | omega | exact Nat.le_refl _⟩, ⟨by (with_reducible repeat (first | apply Kd.R_alloc | apply Kd.R_drewN | apply Kd.R_drew)); exact Kd.R_mono HO338.out (fun _ hk => hk.1.1)⟩, ⟨bel⟩⟩
     ·
      rw [if_neg c12] at H; have c12b0 : decide ((t336.length : Int) < t326) = false := decide_eq_false c12; clear c12; have c15b0 := eq_true (oda : 12 ≤ (l0.length : Int))
      obtain ⟨y339, hy339⟩ : ∃ y_ : List Int, y_ = (l0.take 12) := ⟨_, rfl⟩
      (first | replace H := hyn hy339 H | rw [← hy339] at H); have Ny339 := aS hy339; clear hy339
      by_cases c16 : 4 ≤ (l0.length : Int)
      ·
       rw [if_pos c16] at H; have c16b0 := eq_true c16; have c16b1 : decide (4 ≤ (l0.length : Int)) = true := decide_eq_true c16; clear c16
       obtain ⟨y344, hy344⟩ : ∃ y_ : List Int, y_ = (l0.take 4) := ⟨_, rfl⟩
       (first | replace H := hyn hy344 H | rw [← hy344] at H); have Ny344 := aS hy344; clear hy344; replace H := obm H; obtain ⟨t349, A170, H⟩ := H; have A17 := aS A170; clear A170
       by_cases c18 : 0 ≤ t326
       ·
        rw [if_pos c18] at H; have c18b0 := eq_true c18; have c18b1 : decide (0 ≤ t326) = true := decide_eq_true c18; clear c18
        by_cases c19 : t326 ≤ (t336.length : Int)
        ·
         rw [if_pos c19] at H; have c19b0 := eq_true c19; have c19b1 : decide (t326 ≤ (t336.length : Int)) = true := decide_eq_true c19; clear c19
         obtain ⟨y352, hy352⟩ : ∃ y_ : List Int, y_ = (t336.take (t326 : Int).toNat) := ⟨_, rfl⟩
         replace H : ((frame_sum.f k y352).bind fun t357 => ((slices_Concat_byte_byte.f (([y344, t349, t357] : List (List Int)))).bind fun t363 => ((slices_Equal_byte_byte.f k y339 t363).bind fun t366 => (frame_Cut.j0 k t326 t336 (!t366))))) = some (r1, r2, r3) := hyr hy352 H; have Ny352 := aS hy352; clear hy352; replace H := obm H; obtain ⟨t357, A200, H⟩ := H; have A20 := aS A200; clear A200
         obtain ⟨y360, hy360⟩ : ∃ y_ : List (List Int), y_ = (([y344, t349, t357] : List (List Int))) := ⟨_, rfl⟩
         (first | replace H := hyn hy360 H | rw [← hy360] at H); have Ny360 := aS hy360; clear hy360; replace H := obm H; obtain ⟨t363, A210, H⟩ := H; have A21 := aS A210; clear A210; replace H := obm H; obtain ⟨t366, A220, H⟩ := H; have A22 := aS A220; clear A220
         have H' := aS H
         clear H
         try go_wp2
         replace HO0 := aS (Kd.V_drew HO0.out); replace HO330 := aS (Kd.R_drew HO330.out); replace HO335 := aS (Kd.V_drew HO335.out); replace HO338 := aS (Kd.R_drew HO338.out); replace HB := aS (bdo HB.out); obtain ⟨Ao24, co24, eo24⟩ := Kd.R_slice HO338.out
         (first | subst eo24 | (injection eo24 with f1_ f2_ f3_; have f4_ := f1_.symm; have f5_ := f3_.symm; clear f1_ f2_ f3_; subst f4_; subst f5_))
         have q25 : (12 : Int) ≤ ((l0.length : Int) : Int) := oda; obtain ⟨i025, hi025, _, hsz25, _⟩ := info_parts info5; have hroom25 : l0.length ≤ c0 := (Kd.V_reads' HO0.out).2.1; have hC25 : Kd.F (Kd.int .u8) _ _ A0 l0.length l0 := (Kd.V_at (base := w.heap.size) HO0.out).2.2; have hcut25 := cut_to (P := Try.prog) 26 5 .i64 Try.underlying26 hi025 A0 l0.length c0 12 (by omega) q25 hroom25; have hr25 := Kd.F_take (m := 12) hC25 (by omega); have hy25 : y339.length = (12 : Int).toNat := (by rw [Ny339.out, llt]; omega); rw [← Ny339.out] at hr25; rw [← hy25] at hcut25; have HO343 := aS (show Kd.V (Kd.int .u8) 5 _ w.heap.size _ (.slice A0 y339.length c0) y339 from Kd.V_mk (by omega) hr25); have HC343 := aS (show y339.length ≤ c0 from by omega); clear hr25 hC25 hroom25 hi025 hsz25; have KY25 := aS hy25; clear hy25; replace q25 := eq_true q25; have q26 : (4 : Int) ≤ ((l0.length : Int) : Int) := oda; obtain ⟨i026, hi026, _, hsz26, _⟩ := info_parts info5; have hroom26 : l0.length ≤ c0 := (Kd.V_reads' HO0.out).2.1; have hC26 : Kd.F (Kd.int .u8) _ _ A0 l0.length l0 := (Kd.V_at (base := w.heap.size) HO0.out).2.2; have hcut26 := cut_to (P := Try.prog) 26 5 .i64 Try.underlying26 hi026 A0 l0.length c0 4 (by omega) q26 hroom26; have hr26 := Kd.F_take (m := 4) hC26 (by omega); have hy26 : y344.length = (4 : Int).toNat := (by rw [Ny344.out, llt]; omega); rw [← Ny344.out] at hr26; rw [← hy26] at hcut26; have HO348 := aS (show Kd.V (Kd.int .u8) 5 _ w.heap.size _ (.slice A0 y344.length c0) y344 from Kd.V_mk (by omega) hr26); have HC348 := aS (show y344.length ≤ c0 from by omega); clear hr26 hC26 hroom26 hi026 hsz26; have KY26 := aS hy26; clear hy26; replace q26 := eq_true q26; have q27 : (t326 : Int) ≤ ((t336.length : Int) : Int) := oda; obtain ⟨i027, hi027, _, hsz27, _⟩ := info_parts info5; have hroom27 : t336.length ≤ co24 := (Kd.R_reads' HO338.out).2.1; have hC27 : Kd.F (Kd.int .u8) _ _ Ao24 t336.length t336 := (Kd.V_at (base := w.heap.size) (Kd.V_mono (ok' := (fun k_ => (((P0_ k_ ∨ w.heap.size ≤ k_) ∧ True) ∧ some k_ ≠ (v329 : Value).ownBlock))) (Kd.R_V HO338.out) (fun k_ hk => ⟨⟨(.inr (hk.1.1)), trivial⟩, hk.2⟩))).2.2; have hcut27 := cut_to (P := Try.prog) 26 5 .i64 Try.underlying26 hi027 Ao24 t336.length co24 t326 (oda) q27 hroom27; have hr27 := Kd.F_take (m := (t326 : Int).toNat) hC27 (by omega); have hy27 : y352.length = (t326 : Int).toNat := (by rw [Ny352.out, llt]; omega); rw [← Ny352.out] at hr27; rw [← hy27] at hcut27; have HO356 := aS (show Kd.V (Kd.int .u8) 5 _ w.heap.size _ (.slice Ao24 y352.length co24) y352 from Kd.V_mk (by omega) hr27); have HC356 := aS (show y352.length ≤ co24 from by omega); clear hr27 hC27 hroom27 hi027 hsz27; have KY27 := aS hy27; clear hy27; replace q27 := eq_true q27; refine start_ (n := 25) (S := fun w' => True) (ds := []) (bA 25 0) (by kernel_rfl) rfl rfl trivial (fun hHeld => ?_); refine with_tabW frame_Cut.tab5 frame_Cut.bits5 (fun HT_ HW_ => ?_)
         generalize w9.drew = w23 at HO0 HO330 HO335 HO338 HB HO343 HO348 HO356 hHeld ⊢
         refine along_ [(0, 21), (1, 22), (2, 23), (3, 24), (4, 25), (5, 26), (6, 27), (7, 28), (8, 29), (9, 30), (10, 31), (11, 32), (12, 33), (13, 34), (14, 35), (16, 37), (17, 38), (18, 39)] ?_
         iterate 18 (refine pure3 HT_ ?_)
         refine lay_ (bA 25 491519) (by kernel_rfl) ?_; refine one3 15 (N := some 36) (bA 25 524287) HT_ (fun K hK => ?_); refine goes_ Try.func73 (by kernel_rfl) rfl #[.slice A0 y344.length c0] (by rfl) rfl rfl agn ?_
         with_reducible refine (frame_sum.calls k _ _ y344 t349 _ ?side1 ?side2 A17.out).mono ?_
         (case side1 => exact cel ((Kd.V_reads' HO348.out).2.2))
         (case side2 => exact (Kd.V_reads' HO348.out).2.1)
         rintro e w28 ⟨v350, rfl, ho0, hb⟩
         refine ⟨_, rfl, ?_⟩; replace HO0 := aS (Kd.V_elder' (sel HO0.out) (ebs ho0) hb); replace HO335 := aS (Kd.V_elder' (sel HO335.out) (ebs ho0) hb); replace HO343 := aS (Kd.V_elder' (sel HO343.out) (ebs ho0) hb); replace HO348 := aS (Kd.V_elder' (sel HO348.out) (ebs ho0) hb); replace HO356 := aS (Kd.V_elder' (sel HO356.out) (ebs ho0) hb); have HO351 := aS (Kd.R_lower (Kd.R_new' (Kd.R_new' (Kd.R_newM (M := fun k_ => (w.heap.size ≤ k_)) ho0 (below_size bel) (fun k_ h_ => h_)) (Kd.R_lt (rel HO330.out))) (Kd.R_lt (rel HO338.out))) (below_size bel)); replace HO330 := aS (Kd.R_elder' (rel HO330.out) (ebs ho0) hb); replace HO338 := aS (Kd.R_elder' (rel HO338.out) (ebs ho0) hb); replace HB := bstep hb; (try clear hb); (try clear hk); (try clear hi); (try clear ho0); refine hK.out _ _ trivial (fun hHeld => ?_); clear hK K; refine nm 36 ?_; refine one3 19 (N := some 40) (bA 25 1048575) HT_ (fun K hK => ?_); refine goes_ Try.func73 (by kernel_rfl) rfl #[.slice Ao24 y352.length co24] (by rfl) rfl rfl agn ?_
         with_reducible refine (frame_sum.calls k _ _ y352 t357 _ ?side1 ?side2 A20.out).mono ?_
         (case side1 => exact cel ((Kd.V_reads' HO356.out).2.2))
         (case side2 => exact (Kd.V_reads' HO356.out).2.1)
         rintro e w29 ⟨v358, rfl, ho0, hb⟩
         refine ⟨_, rfl, ?_⟩; replace HO0 := aS (Kd.V_elder' (sel HO0.out) (ebs ho0) hb); replace HO335 := aS (Kd.V_elder' (sel HO335.out) (ebs ho0) hb); replace HO343 := aS (Kd.V_elder' (sel HO343.out) (ebs ho0) hb); replace HO348 := aS (Kd.V_elder' (sel HO348.out) (ebs ho0) hb); replace HO356 := aS (Kd.V_elder' (sel HO356.out) (ebs ho0) hb); have HO359 := aS (Kd.R_lower (Kd.R_new' (Kd.R_new' (Kd.R_new' (Kd.R_newM (M := fun k_ => (w.heap.size ≤ k_)) ho0 (below_size bel) (fun k_ h_ => h_)) (Kd.R_lt (rel HO330.out))) (Kd.R_lt (rel HO338.out))) (Kd.R_lt (rel HO351.out))) (below_size bel)); replace HO330 := aS (Kd.R_elder' (rel HO330.out) (ebs ho0) hb); replace HO338 := aS (Kd.R_elder' (rel HO338.out) (ebs ho0) hb); replace HO351 := aS (Kd.R_elder' (rel HO351.out) (ebs ho0) hb); replace HB := bstep hb; (try clear hb); (try clear hk); (try clear hi); (try clear ho0); obtain ⟨Ao30, co30, eo30⟩ := Kd.R_slice HO351.out
         (first | subst eo30 | (injection eo30 with f1_ f2_ f3_; have f4_ := f1_.symm; have f5_ := f3_.symm; clear f1_ f2_ f3_; subst f4_; subst f5_))
         obtain ⟨Ao31, co31, eo31⟩ := Kd.R_slice HO359.out
         (first | subst eo31 | (injection eo31 with f1_ f2_ f3_; have f4_ := f1_.symm; have f5_ := f3_.symm; clear f1_ f2_ f3_; subst f4_; subst f5_))
         refine hK.out _ _ trivial (fun hHeld => ?_); clear hK K; refine nm 40 ?_; refine one3 20 (N := some 41) (bA 25 2097151) HT_ (fun K hK => ?_)
         refine Kd.N_lit_step (Kd.slice 5 (Kd.int .u8)) _ 26 ?hg (N' := 41) ?hd (xs := ([y344, t349, t357] : List (List Int))) (inner := [.slice A0 y344.length c0, .slice Ao30 t349.length co30, .slice Ao31 t357.length co31]) (ok := (fun k_ => (P0_ k_ ∨ w.heap.size ≤ k_) ∧ some k_ ≠ (v329 : Value).ownBlock ∧ some k_ ≠ (.slice Ao24 t336.length co24 : Value).ownBlock)) (okp := (fun k_ => (P0_ k_ ∨ w.heap.size ≤ k_) ∧ some k_ ≠ (v329 : Value).ownBlock ∧ some k_ ≠ (.slice Ao24 t336.length co24 : Value).ownBlock)) ?hr ?hp (fun _ hk => hk) ((show ∀ k_, w29.heap.size ≤ k_ → (fun k_ => (P0_ k_ ∨ w.heap.size ≤ k_) ∧ some k_ ≠ (v329 : Value).ownBlock ∧ some k_ ≠ (.slice Ao24 t336.length co24 : Value).ownBlock) k_ from fun k_ hk => ⟨(.inr (Nat.le_trans (below_size bel) hk)), Kd.fresh' (Kd.R_lt (rel HO330.out)) k_ hk, Kd.fresh' (Kd.R_lt (rel HO338.out)) k_ hk⟩) _ (Nat.le_refl _)) (Below.refl _ _) (Nat.le_refl _) (by simp) ?_; (case hd => rfl); (case hg => rfl); (case hr => first | (go_simp; done) | (go_simp; rfl)); (case hp => exact (Reps.one (show Kd.FK (Kd.slice 5 (Kd.int .u8)) _ _ y344 [.slice A0 y344.length c0] from (Kd.FK_slice_mk (Kd.V_reads' (Kd.V_mono (ok' := (fun k_ => (P0_ k_ ∨ w.heap.size ≤ k_) ∧ some k_ ≠ (v329 : Value).ownBlock ∧ some k_ ≠ (.slice Ao24 t336.length co24 : Value).ownBlock)) (HO348.out) (fun k_ hk => ⟨hk.1.1.1.1, ⟨hk.1.1.1.2, hk.1.1.2⟩⟩))).2.1 (Kd.V_F (Kd.V_mono (ok' := (fun k_ => (P0_ k_ ∨ w.heap.size ≤ k_) ∧ some k_ ≠ (v329 : Value).ownBlock ∧ some k_ ≠ (.slice Ao24 t336.length co24 : Value).ownBlock)) (HO348.out) (fun k_ hk => ⟨hk.1.1.1.1, ⟨hk.1.1.1.2, hk.1.1.2⟩⟩))))) (Reps.one (show Kd.FK (Kd.slice 5 (Kd.int .u8)) _ _ t349 [.slice Ao30 t349.length co30] from (Kd.FK_slice_mk (Kd.R_reads' (Kd.R_mono (ok' := (fun k_ => (P0_ k_ ∨ w.heap.size ≤ k_) ∧ some k_ ≠ (v329 : Value).ownBlock ∧ some k_ ≠ (.slice Ao24 t336.length co24 : Value).ownBlock)) (HO351.out) (fun k_ hk => ⟨(.inr (hk.1.1.1.1)), ⟨hk.1.1.2, hk.1.2⟩⟩))).2.1 (Kd.R_F (Kd.R_mono (ok' := (fun k_ => (P0_ k_ ∨ w.heap.size ≤ k_) ∧ some k_ ≠ (v329 : Value).ownBlock ∧ some k_ ≠ (.slice Ao24 t336.length co24 : Value).ownBlock)) (HO351.out) (fun k_ hk => ⟨(.inr (hk.1.1.1.1)), ⟨hk.1.1.2, hk.1.2⟩⟩))))) (Reps.one (show Kd.FK (Kd.slice 5 (Kd.int .u8)) _ _ t357 [.slice Ao31 t357.length co31] from (Kd.FK_slice_mk (Kd.R_reads' (Kd.R_mono (ok' := (fun k_ => (P0_ k_ ∨ w.heap.size ≤ k_) ∧ some k_ ≠ (v329 : Value).ownBlock ∧ some k_ ≠ (.slice Ao24 t336.length co24 : Value).ownBlock)) (HO359.out) (fun k_ hk => ⟨(.inr (hk.1.1.1.1)), ⟨hk.1.1.2, hk.1.2⟩⟩))).2.1 (Kd.R_F (Kd.R_mono (ok' := (fun k_ => (P0_ k_ ∨ w.heap.size ≤ k_) ∧ some k_ ≠ (v329 : Value).ownBlock ∧ some k_ ≠ (.slice Ao24 t336.length co24 : Value).ownBlock)) (HO359.out) (fun k_ hk => ⟨(.inr (hk.1.1.1.1)), ⟨hk.1.1.2, hk.1.2⟩⟩))))) (Reps.none _ _)))))
         intro v361 w32 ho33 hb hg_ hnew_
         clear hg_ hnew_
         (first | rw [← Ny360.out] at ho33 | (simp only [Int.reduceToNat] at ho33; rw [← Ny360.out] at ho33))
         have n0_ := aS (Kd.V_elder' (sel HO0.out) (by first | exact Kd.N_base ho33 | exact Kd.S_base ho33 | exact Kd.R_base ho33 | exact Kd.V_base ho33) hb); have n1_ := aS (Kd.R_below (rel HO330.out) hb); have n2_ := aS (Kd.V_elder' (sel HO335.out) (by first | exact Kd.N_base ho33 | exact Kd.S_base ho33 | exact Kd.R_base ho33 | exact Kd.V_base ho33) hb); have n3_ := aS (Kd.R_below (rel HO338.out) hb); have n4_ := aS (Kd.V_elder' (sel HO343.out) (by first | exact Kd.N_base ho33 | exact Kd.S_base ho33 | exact Kd.R_base ho33 | exact Kd.V_base ho33) hb); have n5_ := aS (Kd.V_elder' (sel HO348.out) (by first | exact Kd.N_base ho33 | exact Kd.S_base ho33 | exact Kd.R_base ho33 | exact Kd.V_base ho33) hb); have n6_ := aS (Kd.V_elder' (sel HO356.out) (by first | exact Kd.N_base ho33 | exact Kd.S_base ho33 | exact Kd.R_base ho33 | exact Kd.V_base ho33) hb); have n7_ := aS (Kd.N_lower ho33 (below_size bel)); have n8_ := bstep hb; clear HO0; clear HO330; clear HO335; clear HO338; clear HO343; clear HO348; clear HO356; clear HB; clear HO351; clear HO359; have HO0 := n0_; have HO330 := n1_; have HO335 := n2_; have HO338 := n3_; have HO343 := n4_; have HO348 := n5_; have HO356 := n6_; have HO362 := n7_; have HB := n8_; clear n0_ n1_ n2_ n3_ n4_ n5_ n6_ n7_ n8_; clear hb ho33; obtain ⟨Ao34, co34, eo34⟩ := Kd.N_slice HO362.out
         (first | subst eo34 | (injection eo34 with f1_ f2_ f3_; have f4_ := f1_.symm; have f5_ := f3_.symm; clear f1_ f2_ f3_; subst f4_; subst f5_))
         refine hK.out _ _ trivial (fun hHeld => ?_); clear hK K; refine nm 41 ?_; refine one3 21 (N := some 42) (bA 25 4194303) HT_ (fun K hK => ?_); refine goes_ Try.func53 (by kernel_rfl) rfl #[.slice Ao34 y360.length co34] (by rfl) rfl rfl agn ?_
         with_reducible refine (slices_Concat_byte_byte.calls _ _ y360 t363 _ ?side1 ?side2 A21.out).mono ?_
         (case side1 => exact cel ((Kd.N_reads' HO362.out).2.2))
         (case side2 => exact (Kd.N_reads' HO362.out).2.1)
         rintro e w35 ⟨v364, rfl, ho0, hb⟩
         refine ⟨_, rfl, ?_⟩; replace HO0 := aS (Kd.V_elder' (sel HO0.out) (ebs ho0) hb); replace HO335 := aS (Kd.V_elder' (sel HO335.out) (ebs ho0) hb); replace HO343 := aS (Kd.V_elder' (sel HO343.out) (ebs ho0) hb); replace HO348 := aS (Kd.V_elder' (sel HO348.out) (ebs ho0) hb); replace HO356 := aS (Kd.V_elder' (sel HO356.out) (ebs ho0) hb); replace HO362 := aS (Kd.N_elder' (by (with_reducible repeat (first | apply Kd.N_alloc | apply Kd.N_drewN | apply Kd.N_drew)); exact HO362.out) (ebs ho0) hb); have HO365 := aS (Kd.R_lower (Kd.R_new' (Kd.R_new' (Kd.R_newM (M := fun k_ => (w.heap.size ≤ k_)) ho0 (below_size bel) (fun k_ h_ => h_)) (Kd.R_lt (rel HO330.out))) (Kd.R_lt (rel HO338.out))) (below_size bel)); replace HO330 := aS (Kd.R_elder' (rel HO330.out) (ebs ho0) hb); replace HO338 := aS (Kd.R_elder' (rel HO338.out) (ebs ho0) hb); replace HB := bstep hb; (try clear hb); (try clear hk); (try clear hi); (try clear ho0); obtain ⟨Ao36, co36, eo36⟩ := Kd.R_slice HO365.out
         (first | subst eo36 | (injection eo36 with f1_ f2_ f3_; have f4_ := f1_.symm; have f5_ := f3_.symm; clear f1_ f2_ f3_; subst f4_; subst f5_))
         refine hK.out _ _ trivial (fun hHeld => ?_); clear hK K; refine nm 42 ?_; refine one3 22 (N := some 43) (bA 25 8388607) HT_ (fun K hK => ?_); refine goes_ Try.func42 (by kernel_rfl) rfl #[.slice A0 y339.length c0, .slice Ao36 t363.length co36] (by rfl) rfl rfl agn ?_
         with_reducible refine (slices_Equal_byte_byte.calls k _ _ y339 _ _ t363 t366 _ ?side1 ?side2 ?side3 ?side4 A22.out).mono ?_
         (case side1 => exact cel ((Kd.V_reads' HO343.out).2.2))
         (case side2 => exact (Kd.V_reads' HO343.out).2.1)
         (case side3 => exact cel ((Kd.R_reads' HO365.out).2.2))
         (case side4 => exact (Kd.R_reads' HO365.out).2.1)
         rintro e w' ⟨rfl, ⟨nd, rfl⟩⟩
         refine ⟨_, rfl, ?_⟩; refine hK.out _ _ trivial (fun hHeld => ?_); clear hK K; refine nm 43 ?_; refine along_ [(23, 44), (24, 45)] ?_
         iterate 2 (refine pure3 HT_ ?_)
         refine lay_ (bA 25 33554431) (by kernel_rfl) ?_; refine done_ (done_of HT_.out (by kernel_rfl)) ?_
         try go_wp2
         go_meet
         case rel => exact ⟨_, (!t366), srf, H', ⟨by first | omega | exact Nat.le_refl _⟩, ⟨by (with_reducible repeat (first | apply Kd.R_alloc | apply Kd.R_drewN | apply Kd.R_drew)); exact Kd.R_mono HO338.out (fun _ hk => hk.1.1.1.1.1)⟩, ⟨bel⟩⟩
        ·
         rw [if_neg c19] at H; exact absurd H (by simp)
       ·
        rw [if_neg c18] at H; exact absurd H (by simp)
      ·
       rw [if_neg c16] at H; exact absurd H (by simp)
   case rest =>
    clear HC6; (try clear c4); obtain ⟨kq, x45_5, rfl, HA, HJ5, HO_8, HB⟩ := hcut
    cases kq with
    | zero => exact absurd HA.out (by simp [frame_Cut.j0])
    | succ kj5 =>
     have H := HA.out; clear HA
     simp only [frame_Cut.j0] at H
     by_cases c37 : x45_5 = true
     ·
      subst c37
      replace H := ifT H
      simp only [Option.some.injEq, Prod.mk.injEq] at H
      obtain ⟨rfl, rfl, rfl⟩ := H
      go_wp2
      go_ret3
      exact ⟨_, _, rf3, Kd.V_nil _ _ _ _ _, Kd.V_nil _ _ _ _ _, bel⟩
     ·
      replace c37 := Bool.eq_false_iff.mpr c37; subst c37
      replace H := ifF H
      by_cases c38 : 0 ≤ t326
      ·
       rw [if_pos c38] at H; have c38b0 := eq_true c38; have c38b1 : decide (0 ≤ t326) = true := decide_eq_true c38; clear c38
       by_cases c39 : t326 ≤ (t336.length : Int)
       ·
        rw [if_pos c39] at H; have c39b0 := eq_true c39; have c39b1 : decide (t326 ≤ (t336.length : Int)) = true := decide_eq_true c39; clear c39
        obtain ⟨y367, hy367⟩ : ∃ y_ : List Int, y_ = (t336.take (t326 : Int).toNat) := ⟨_, rfl⟩
        replace H : (some (y367, (t336.drop (t326 : Int).toNat), true)) = some (r1, r2, r3) := hyr hy367 H; have Ny367 := aS hy367; clear hy367; have c40b0 := eq_true (oda : 0 ≤ t326); have c41b0 := eq_true (oda : t326 ≤ (t336.length : Int))
        obtain ⟨y372, hy372⟩ : ∃ y_ : List Int, y_ = (t336.drop (t326 : Int).toNat) := ⟨_, rfl⟩
        replace H : (some (y367, y372, true)) = some (r1, r2, r3) := hyr hy372 H; have Ny372 := aS hy372; clear hy372
        simp only [Option.some.injEq, Prod.mk.injEq] at H
        obtain ⟨rfl, rfl, rfl⟩ := H
        try go_wp2
        replace HO_8 := aS (Kd.R_drew HO_8.out); replace HB := aS (bdo HB.out); obtain ⟨Ao44, co44, eo44⟩ := Kd.R_slice HO_8.out
        (first | subst eo44 | (injection eo44 with f1_ f2_ f3_; have f4_ := f1_.symm; have f5_ := f3_.symm; clear f1_ f2_ f3_; subst f4_; subst f5_))
        have q43 : (t326 : Int) ≤ ((t336.length : Int) : Int) := oda; obtain ⟨i043, hi043, _, hsz43, _⟩ := info_parts info5; have hroom43 : t336.length ≤ co44 := (Kd.R_reads' HO_8.out).2.1; have hC43 : Kd.F (Kd.int .u8) _ _ Ao44 t336.length t336 := (Kd.V_at (base := w.heap.size) (Kd.V_mono (ok' := (fun k_ => (P0_ k_ ∨ w.heap.size ≤ k_))) (Kd.R_V HO_8.out) (fun k_ hk => (.inr (hk))))).2.2; have hcut43 := cut_to3 (P := Try.prog) 26 5 .i64 Try.underlying26 hi043 Ao44 t336.length co44 t326 (oda) q43 hroom43; have hr43 := Kd.F_take (m := (t326 : Int).toNat) hC43 (by omega); have hy43 : y367.length = (t326 : Int).toNat := (by rw [Ny367.out, llt]; omega); rw [← Ny367.out] at hr43; rw [← hy43] at hcut43; have HO371 := aS (show Kd.V (Kd.int .u8) 5 _ w.heap.size _ (.slice Ao44 y367.length y367.length) y367 from Kd.V_mk (by omega) hr43); have HC371 := aS (show y367.length ≤ y367.length from by omega); clear hr43 hC43 hroom43 hi043 hsz43; have KY43 := aS hy43; clear hy43; replace q43 := eq_true q43; have q45 : (t326 : Int) ≤ ((t336.length : Int) : Int) := oda; obtain ⟨i045, hi045, _, hsz45, _⟩ := info_parts info5; have hroom45 : t336.length ≤ co44 := (Kd.R_reads' HO_8.out).2.1; have hC45 : Kd.F (Kd.int .u8) _ _ Ao44 t336.length t336 := (Kd.V_at (base := w.heap.size) (Kd.V_mono (ok' := (fun k_ => (P0_ k_ ∨ w.heap.size ≤ k_))) (Kd.R_V HO_8.out) (fun k_ hk => (.inr (hk))))).2.2; have q045 : (0 : Int) ≤ (t326 : Int) := oda; have hcut45 := cut_from (P := Try.prog) 26 5 .i64 Try.underlying26 hi045 1 hsz45 Ao44 t336.length co44 t326 q045 q45; have hr45 := Kd.F_cut (m := (t326 : Int).toNat) (c := co44) hC45 (by omega) hroom45
        obtain ⟨A45, hA45⟩ : ∃ A1_, A1_ = (if co44 = (t326 : Int).toNat then Ao44 else (Ao44 : Option Addr).map (·.add ((t326 : Int).toNat * 1))) := ⟨_, rfl⟩
        obtain ⟨c45, hc45⟩ : ∃ c1_, c1_ = co44 - (t326 : Int).toNat := ⟨_, rfl⟩
        have hy45 : y372.length = t336.length - (t326 : Int).toNat := (by rw [Ny372.out, lld] <;> omega); rw [show (t336).drop (t326 : Int).toNat = y372 from Ny372.out.symm] at hr45; replace hr45 : Kd.F (Kd.int .u8) _ _ A45 y372.length y372 := (by rw [hA45]; exact hr45); rw [← hy45, ← hA45, ← hc45] at hcut45; have HO376 := aS (show Kd.V (Kd.int .u8) 5 _ w.heap.size _ (.slice A45 y372.length c45) y372 from Kd.V_mk (by rw [hy45, hc45]; exact Nat.sub_le_sub_right hroom45 _) hr45); have HC376 := aS (show y372.length ≤ c45 from by rw [hy45, hc45]; exact Nat.sub_le_sub_right hroom45 _); clear hr45 hC45 hroom45 hi045 hsz45 hc45; have KY45 := aS hy45; have KA45 := aS hA45; clear hy45 hA45; replace q45 := eq_true q45; refine start_ (n := 10) (S := fun w' => True) (ds := []) (bA 10 0) (by kernel_rfl) rfl rfl trivial (fun hHeld => ?_); refine with_tabW frame_Cut.tab7 frame_Cut.bits7 (fun HT_ HW_ => ?_)
        generalize wc.drew = w42 at HO_8 HB HO371 HO376 hHeld ⊢
        refine along_ [(0, 46), (1, 47), (2, 48), (3, 49), (4, 50), (5, 51), (6, 52), (7, 2), (8, 3), (9, 4)] ?_
        iterate 10 (refine pure3 HT_ ?_)
        refine lay_ (bA 10 1023) (by kernel_rfl) ?_; refine done_ (done_of HT_.out (by kernel_rfl)) ?_
        try go_wp2
        go_ret3
        exact ⟨_, _, rf3, by (with_reducible repeat (first | apply Kd.V_alloc | apply Kd.V_drewN | apply Kd.V_drew)); exact HO371.out, by (with_reducible repeat (first | apply Kd.V_alloc | apply Kd.V_drewN | apply Kd.V_drew)); exact HO376.out, bel⟩
       ·
        rw [if_neg c39] at H; exact absurd H (by simp)
      ·
       rw [if_neg c38] at H; exact absurd H (by simp)
  ·
   rw [if_neg c4] at H; exact absurd H (by simp)

/-! ### wire_CutText: function 79 -/
def wire_CutText.f (k : Nat) (l0 : List Int) : Option (ByteArray × List Int × Bool) := (wire_CutNum.f k l0).bind fun bt377 => (if bt377.2.2 = true then (if bt377.1 > (bt377.2.1.length : Int) then (some ((⟨#[]⟩ : ByteArray), ([] : List Int), false)) else (if 0 ≤ bt377.1 then (if bt377.1 ≤ (bt377.2.1.length : Int) then (some (strOfNums (bt377.2.1.take (bt377.1 : Int).toNat), (bt377.2.1.drop (bt377.1 : Int).toNat), true)) else (none)) else (none))) else (some ((⟨#[]⟩ : ByteArray), ([] : List Int), false)))
theorem wire_CutText.mono : ∀ a0 k, LeO (wire_CutText.f k a0) (wire_CutText.f (k + 1) a0) := by
 intro a0 k
 unfold wire_CutText.f
 have m0 := @wire_CutNum.mono; exact lmo
set_option maxHeartbeats 8000000 in
set_option maxRecDepth 100000 in
theorem wire_CutText.calls (k : Nat) (A0 : Option Addr) (c0 : Nat) (l0 : List Int) (r1 : ByteArray) (r2 : List Int) (r3 : Bool) (w : World) (hr0 : Kd.C (Kd.int .u8) w A0 l0.length l0) (hc0 : l0.length ≤ c0) (h : wire_CutText.f k l0 = some (r1, r2, r3)) :
  Calls Try.prog 79 #[.slice A0 l0.length c0] w fun e w' => ∃ v1_ : Value, e = .returned (.tuple #[.string r1, v1_, .bool r3]) ∧ Kd.Q (Kd.int .u8) 5 w' w.heap.size (fun _ => True) v1_ r2 ∧ Below w.heap.size w w' := by
 have HR0 := aS hr0; have HC0 := aS hc0; clear hr0 hc0; have HB := aS (Below.refl w.heap.size w); have H : ((wire_CutNum.f k l0).bind fun bt377 => (if bt377.2.2 = true then (if bt377.1 > (bt377.2.1.length : Int) then (some ((⟨#[]⟩ : ByteArray), ([] : List Int), false)) else (if 0 ≤ bt377.1 then (if bt377.1 ≤ (bt377.2.1.length : Int) then (some (strOfNums (bt377.2.1.take (bt377.1 : Int).toNat), (bt377.2.1.drop (bt377.1 : Int).toNat), true)) else (none)) else (none))) else (some ((⟨#[]⟩ : ByteArray), ([] : List Int), false)))) = some (r1, r2, r3) := h; clear h; replace H := obm H; obtain ⟨⟨t377, t378, t379⟩, A20, H⟩ := H; (try dsimp only at H); have A2 := aS A20; clear A20
 by_cases c3 : t379 = true
 ·
  subst c3
  replace H := ifT H
  by_cases c4 : t377 > (t378.length : Int)
  ·
   rw [if_pos c4] at H; have c4b0 : decide ((t378.length : Int) < t377) = true := decide_eq_true c4; clear c4
   simp only [Option.some.injEq, Prod.mk.injEq] at H
   obtain ⟨rfl, rfl, rfl⟩ := H
   go_enter Try.func79, Try.ntmps79
   go_wp2_with (first | (go_at_call 38; (with_reducible refine (wire_CutNum.calls k _ _ l0 t377 t378 true _ ?side1 ?side2 A2.out).mono ?_); (case side1 => exact cel HR0.out); (case side2 => exact HC0.out); rintro e w5 ⟨v380, rfl, ho0, hb⟩; have HO381 := aS (Kd.R_lower ho0 (below_size bel)); replace HB := bstep hb; (try clear hb); (try clear hk); (try clear hi); (try clear ho0); obtain ⟨Ao6, co6, eo6⟩ := Kd.R_slice HO381.out; subst eo6))
   repeat (go_quiet (first | (go_at_call 38; (with_reducible refine (wire_CutNum.calls k _ _ l0 t377 t378 true _ ?side1 ?side2 A2.out).mono ?_); (case side1 => exact cel HR0.out); (case side2 => exact HC0.out); rintro e w5 ⟨v380, rfl, ho0, hb⟩; have HO381 := aS (Kd.R_lower ho0 (below_size bel)); replace HB := bstep hb; (try clear hb); (try clear hk); (try clear hi); (try clear ho0); obtain ⟨Ao6, co6, eo6⟩ := Kd.R_slice HO381.out; subst eo6)); try go_wp2_with (first | (go_at_call 38; (with_reducible refine (wire_CutNum.calls k _ _ l0 t377 t378 true _ ?side1 ?side2 A2.out).mono ?_); (case side1 => exact cel HR0.out); (case side2 => exact HC0.out); rintro e w5 ⟨v380, rfl, ho0, hb⟩; have HO381 := aS (Kd.R_lower ho0 (below_size bel)); replace HB := bstep hb; (try clear hb); (try clear hk); (try clear hi); (try clear ho0); obtain ⟨Ao6, co6, eo6⟩ := Kd.R_slice HO381.out; subst eo6)))
   go_ret3
   exact ⟨_, rf3, Kd.Q_of_R (by first | exact Kd.R_nil _ _ _ _ _ | exact Kd.N_nil _ _ _ _ _ | exact Kd.V_nil _ _ _ _ _ | exact Kd.Q_nil _ _ _ _ _ | exact Kd.S_nil _ _ _ _ _), bel⟩
  ·
   rw [if_neg c4] at H; have c4b0 : decide ((t378.length : Int) < t377) = false := decide_eq_false c4; clear c4
   by_cases c7 : 0 ≤ t377
   ·
    rw [if_pos c7] at H; have c7b0 := eq_true c7; have c7b1 : decide (0 ≤ t377) = true := decide_eq_true c7; clear c7
    by_cases c8 : t377 ≤ (t378.length : Int)
    ·
     rw [if_pos c8] at H; have c8b0 := eq_true c8; have c8b1 : decide (t377 ≤ (t378.length : Int)) = true := decide_eq_true c8; clear c8
     obtain ⟨y382, hy382⟩ : ∃ y_ : List Int, y_ = (t378.take (t377 : Int).toNat) := ⟨_, rfl⟩
     (first | replace H := hyn hy382 H | rw [← hy382] at H); have Ny382 := aS hy382; clear hy382; have c9b0 := eq_true (oda : t377 ≤ (t378.length : Int))
     obtain ⟨y386, hy386⟩ : ∃ y_ : List Int, y_ = (t378.drop (t377 : Int).toNat) := ⟨_, rfl⟩
     replace H : (some (strOfNums y382, y386, true)) = some (r1, r2, r3) := hyr hy386 H; have Ny386 := aS hy386; clear hy386
     simp only [Option.some.injEq, Prod.mk.injEq] at H
     obtain ⟨rfl, rfl, rfl⟩ := H
     go_enter Try.func79, Try.ntmps79
     go_wp2_with (first | (go_at_call 38; (with_reducible refine (wire_CutNum.calls k _ _ l0 t377 t378 true _ ?side1 ?side2 A2.out).mono ?_); (case side1 => exact cel HR0.out); (case side2 => exact HC0.out); rintro e w10 ⟨v380, rfl, ho0, hb⟩; have HO381 := aS (Kd.R_lower ho0 (below_size bel)); replace HB := bstep hb; (try clear hb); (try clear hk); (try clear hi); (try clear ho0); obtain ⟨Ao11, co11, eo11⟩ := Kd.R_slice HO381.out; subst eo11; have q12 : (t377 : Int) ≤ ((t378.length : Int) : Int) := oda; obtain ⟨i012, hi012, _, hsz12, _⟩ := info_parts info5; have hroom12 : t378.length ≤ co11 := (Kd.R_reads' HO381.out).2.1; have hC12 : Kd.C (Kd.int .u8) _ Ao11 t378.length t378 := (Kd.R_reads' HO381.out).2.2; have hcut12 := cut_to (P := Try.prog) 26 5 .i64 Try.underlying26 hi012 Ao11 t378.length co11 t377 (oda) q12 hroom12; have hr12 := Kd.C_take (m := (t377 : Int).toNat) hC12 (by omega); have hy12 : y382.length = (t377 : Int).toNat := (by rw [Ny382.out, llt]; omega); rw [← Ny382.out] at hr12; rw [← hy12] at hcut12; have HR385 := aS hr12; have HC385 := aS (show y382.length ≤ co11 from by omega); clear hr12 hC12 hroom12 hi012 hsz12; have KY12 := aS hy12; clear hy12; have KL12 := aS (show (t377 : Int).toNat ≤ t378.length from by omega); replace q12 := eq_true q12; have hcv13 := Kd.C_string (P := Try.prog) (A := Ao11) (c := co11) Try.underlying26 Try.underlying5 Try.underlying9 (by repeat (first | (with_reducible exact HR385.out) | (with_reducible refine Kd.C_alloc ?_ _) | (with_reducible refine Kd.C_drewN ?_ _) | (with_reducible refine Kd.C_drew ?_) | exact HR385.out)); have hcv14 := fun (m_ : Nat) => Kd.C_string (P := Try.prog) (A := Ao11) (c := co11) Try.underlying26 Try.underlying5 Try.underlying9 (Kd.C_drewN ((by repeat (first | (with_reducible exact HR385.out) | (with_reducible refine Kd.C_alloc ?_ _) | (with_reducible refine Kd.C_drewN ?_ _) | (with_reducible refine Kd.C_drew ?_) | exact HR385.out))) m_); have q15 : (t377 : Int) ≤ ((t378.length : Int) : Int) := oda; obtain ⟨i015, hi015, _, hsz15, _⟩ := info_parts info5; have hcut15 := cut_from (P := Try.prog) 26 5 .i64 Try.underlying26 hi015 1 hsz15 Ao11 t378.length co11 t377 (oda) q15; have hr15 := Kd.Q_drop (k := (t377 : Int).toNat) (Kd.Q_of_R HO381.out) (by omega); obtain ⟨A15, hA15⟩ : ∃ A1_, A1_ = (if co11 = (t377 : Int).toNat then Ao11 else (Ao11 : Option Addr).map (·.add ((t377 : Int).toNat * 1))) := ⟨_, rfl⟩; obtain ⟨c15, hc15⟩ : ∃ c1_, c1_ = co11 - (t377 : Int).toNat := ⟨_, rfl⟩; have hy15 : y386.length = t378.length - (t377 : Int).toNat := (by rw [Ny386.out, lld]); rw [← Ny386.out] at hr15; rw [← hy15, ← hA15, ← hc15] at hcut15; replace hr15 : Kd.Q (Kd.int .u8) 5 w10 w.heap.size (fun _ => True) (.slice A15 y386.length c15) y386 := (by rw [hA15, hc15, hy15]; exact hr15); have HE15 : Aside0 ((Value.slice A15 y386.length c15).ownBlock = (.slice Ao11 t378.length co11 : Value).ownBlock) := ⟨by rw [hA15]; split <;> (cases (Ao11 : Option Addr) <;> first | rfl | simp [Value.ownBlock, add_block])⟩; clear hy15 hi015 hsz15 HO381 hA15 hc15; have HO388 := aS hr15; clear hr15; replace q15 := eq_true q15))
     repeat (go_quiet (first | (go_at_call 38; (with_reducible refine (wire_CutNum.calls k _ _ l0 t377 t378 true _ ?side1 ?side2 A2.out).mono ?_); (case side1 => exact cel HR0.out); (case side2 => exact HC0.out); rintro e w10 ⟨v380, rfl, ho0, hb⟩; have HO381 := aS (Kd.R_lower ho0 (below_size bel)); replace HB := bstep hb; (try clear hb); (try clear hk); (try clear hi); (try clear ho0); obtain ⟨Ao11, co11, eo11⟩ := Kd.R_slice HO381.out; subst eo11; have q12 : (t377 : Int) ≤ ((t378.length : Int) : Int) := oda; obtain ⟨i012, hi012, _, hsz12, _⟩ := info_parts info5; have hroom12 : t378.length ≤ co11 := (Kd.R_reads' HO381.out).2.1; have hC12 : Kd.C (Kd.int .u8) _ Ao11 t378.length t378 := (Kd.R_reads' HO381.out).2.2; have hcut12 := cut_to (P := Try.prog) 26 5 .i64 Try.underlying26 hi012 Ao11 t378.length co11 t377 (oda) q12 hroom12; have hr12 := Kd.C_take (m := (t377 : Int).toNat) hC12 (by omega); have hy12 : y382.length = (t377 : Int).toNat := (by rw [Ny382.out, llt]; omega); rw [← Ny382.out] at hr12; rw [← hy12] at hcut12; have HR385 := aS hr12; have HC385 := aS (show y382.length ≤ co11 from by omega); clear hr12 hC12 hroom12 hi012 hsz12; have KY12 := aS hy12; clear hy12; have KL12 := aS (show (t377 : Int).toNat ≤ t378.length from by omega); replace q12 := eq_true q12; have hcv13 := Kd.C_string (P := Try.prog) (A := Ao11) (c := co11) Try.underlying26 Try.underlying5 Try.underlying9 (by repeat (first | (with_reducible exact HR385.out) | (with_reducible refine Kd.C_alloc ?_ _) | (with_reducible refine Kd.C_drewN ?_ _) | (with_reducible refine Kd.C_drew ?_) | exact HR385.out)); have hcv14 := fun (m_ : Nat) => Kd.C_string (P := Try.prog) (A := Ao11) (c := co11) Try.underlying26 Try.underlying5 Try.underlying9 (Kd.C_drewN ((by repeat (first | (with_reducible exact HR385.out) | (with_reducible refine Kd.C_alloc ?_ _) | (with_reducible refine Kd.C_drewN ?_ _) | (with_reducible refine Kd.C_drew ?_) | exact HR385.out))) m_); have q15 : (t377 : Int) ≤ ((t378.length : Int) : Int) := oda; obtain ⟨i015, hi015, _, hsz15, _⟩ := info_parts info5; have hcut15 := cut_from (P := Try.prog) 26 5 .i64 Try.underlying26 hi015 1 hsz15 Ao11 t378.length co11 t377 (oda) q15; have hr15 := Kd.Q_drop (k := (t377 : Int).toNat) (Kd.Q_of_R HO381.out) (by omega); obtain ⟨A15, hA15⟩ : ∃ A1_, A1_ = (if co11 = (t377 : Int).toNat then Ao11 else (Ao11 : Option Addr).map (·.add ((t377 : Int).toNat * 1))) := ⟨_, rfl⟩; obtain ⟨c15, hc15⟩ : ∃ c1_, c1_ = co11 - (t377 : Int).toNat := ⟨_, rfl⟩; have hy15 : y386.length = t378.length - (t377 : Int).toNat := (by rw [Ny386.out, lld]); rw [← Ny386.out] at hr15; rw [← hy15, ← hA15, ← hc15] at hcut15; replace hr15 : Kd.Q (Kd.int .u8) 5 w10 w.heap.size (fun _ => True) (.slice A15 y386.length c15) y386 := (by rw [hA15, hc15, hy15]; exact hr15); have HE15 : Aside0 ((Value.slice A15 y386.length c15).ownBlock = (.slice Ao11 t378.length co11 : Value).ownBlock) := ⟨by rw [hA15]; split <;> (cases (Ao11 : Option Addr) <;> first | rfl | simp [Value.ownBlock, add_block])⟩; clear hy15 hi015 hsz15 HO381 hA15 hc15; have HO388 := aS hr15; clear hr15; replace q15 := eq_true q15)); try go_wp2_with (first | (go_at_call 38; (with_reducible refine (wire_CutNum.calls k _ _ l0 t377 t378 true _ ?side1 ?side2 A2.out).mono ?_); (case side1 => exact cel HR0.out); (case side2 => exact HC0.out); rintro e w10 ⟨v380, rfl, ho0, hb⟩; have HO381 := aS (Kd.R_lower ho0 (below_size bel)); replace HB := bstep hb; (try clear hb); (try clear hk); (try clear hi); (try clear ho0); obtain ⟨Ao11, co11, eo11⟩ := Kd.R_slice HO381.out; subst eo11; have q12 : (t377 : Int) ≤ ((t378.length : Int) : Int) := oda; obtain ⟨i012, hi012, _, hsz12, _⟩ := info_parts info5; have hroom12 : t378.length ≤ co11 := (Kd.R_reads' HO381.out).2.1; have hC12 : Kd.C (Kd.int .u8) _ Ao11 t378.length t378 := (Kd.R_reads' HO381.out).2.2; have hcut12 := cut_to (P := Try.prog) 26 5 .i64 Try.underlying26 hi012 Ao11 t378.length co11 t377 (oda) q12 hroom12; have hr12 := Kd.C_take (m := (t377 : Int).toNat) hC12 (by omega); have hy12 : y382.length = (t377 : Int).toNat := (by rw [Ny382.out, llt]; omega); rw [← Ny382.out] at hr12; rw [← hy12] at hcut12; have HR385 := aS hr12; have HC385 := aS (show y382.length ≤ co11 from by omega); clear hr12 hC12 hroom12 hi012 hsz12; have KY12 := aS hy12; clear hy12; have KL12 := aS (show (t377 : Int).toNat ≤ t378.length from by omega); replace q12 := eq_true q12; have hcv13 := Kd.C_string (P := Try.prog) (A := Ao11) (c := co11) Try.underlying26 Try.underlying5 Try.underlying9 (by repeat (first | (with_reducible exact HR385.out) | (with_reducible refine Kd.C_alloc ?_ _) | (with_reducible refine Kd.C_drewN ?_ _) | (with_reducible refine Kd.C_drew ?_) | exact HR385.out)); have hcv14 := fun (m_ : Nat) => Kd.C_string (P := Try.prog) (A := Ao11) (c := co11) Try.underlying26 Try.underlying5 Try.underlying9 (Kd.C_drewN ((by repeat (first | (with_reducible exact HR385.out) | (with_reducible refine Kd.C_alloc ?_ _) | (with_reducible refine Kd.C_drewN ?_ _) | (with_reducible refine Kd.C_drew ?_) | exact HR385.out))) m_); have q15 : (t377 : Int) ≤ ((t378.length : Int) : Int) := oda; obtain ⟨i015, hi015, _, hsz15, _⟩ := info_parts info5; have hcut15 := cut_from (P := Try.prog) 26 5 .i64 Try.underlying26 hi015 1 hsz15 Ao11 t378.length co11 t377 (oda) q15; have hr15 := Kd.Q_drop (k := (t377 : Int).toNat) (Kd.Q_of_R HO381.out) (by omega); obtain ⟨A15, hA15⟩ : ∃ A1_, A1_ = (if co11 = (t377 : Int).toNat then Ao11 else (Ao11 : Option Addr).map (·.add ((t377 : Int).toNat * 1))) := ⟨_, rfl⟩; obtain ⟨c15, hc15⟩ : ∃ c1_, c1_ = co11 - (t377 : Int).toNat := ⟨_, rfl⟩; have hy15 : y386.length = t378.length - (t377 : Int).toNat := (by rw [Ny386.out, lld]); rw [← Ny386.out] at hr15; rw [← hy15, ← hA15, ← hc15] at hcut15; replace hr15 : Kd.Q (Kd.int .u8) 5 w10 w.heap.size (fun _ => True) (.slice A15 y386.length c15) y386 := (by rw [hA15, hc15, hy15]; exact hr15); have HE15 : Aside0 ((Value.slice A15 y386.length c15).ownBlock = (.slice Ao11 t378.length co11 : Value).ownBlock) := ⟨by rw [hA15]; split <;> (cases (Ao11 : Option Addr) <;> first | rfl | simp [Value.ownBlock, add_block])⟩; clear hy15 hi015 hsz15 HO381 hA15 hc15; have HO388 := aS hr15; clear hr15; replace q15 := eq_true q15)))
     go_ret3
     exact ⟨_, rf3, by (with_reducible repeat (first | apply Kd.Q_alloc | apply Kd.Q_drewN | apply Kd.Q_drew)); exact HO388.out, bel⟩
    ·
     rw [if_neg c8] at H; exact absurd H (by simp)
   ·
    rw [if_neg c7] at H; exact absurd H (by simp)
 ·
  replace c3 := Bool.eq_false_iff.mpr c3; subst c3
  replace H := ifF H
  simp only [Option.some.injEq, Prod.mk.injEq] at H
  obtain ⟨rfl, rfl, rfl⟩ := H
  go_enter Try.func79, Try.ntmps79
  go_wp2_with (first | (go_at_call 38; (with_reducible refine (wire_CutNum.calls k _ _ l0 t377 t378 false _ ?side1 ?side2 A2.out).mono ?_); (case side1 => exact cel HR0.out); (case side2 => exact HC0.out); rintro e w16 ⟨v380, rfl, ho0, hb⟩; have HO381 := aS (Kd.R_lower ho0 (below_size bel)); replace HB := bstep hb; (try clear hb); (try clear hk); (try clear hi); (try clear ho0)))
  repeat (go_quiet (first | (go_at_call 38; (with_reducible refine (wire_CutNum.calls k _ _ l0 t377 t378 false _ ?side1 ?side2 A2.out).mono ?_); (case side1 => exact cel HR0.out); (case side2 => exact HC0.out); rintro e w16 ⟨v380, rfl, ho0, hb⟩; have HO381 := aS (Kd.R_lower ho0 (below_size bel)); replace HB := bstep hb; (try clear hb); (try clear hk); (try clear hi); (try clear ho0))); try go_wp2_with (first | (go_at_call 38; (with_reducible refine (wire_CutNum.calls k _ _ l0 t377 t378 false _ ?side1 ?side2 A2.out).mono ?_); (case side1 => exact cel HR0.out); (case side2 => exact HC0.out); rintro e w16 ⟨v380, rfl, ho0, hb⟩; have HO381 := aS (Kd.R_lower ho0 (below_size bel)); replace HB := bstep hb; (try clear hb); (try clear hk); (try clear hi); (try clear ho0))))
  go_ret3
  exact ⟨_, rf3, Kd.Q_of_R (by first | exact Kd.R_nil _ _ _ _ _ | exact Kd.N_nil _ _ _ _ _ | exact Kd.V_nil _ _ _ _ _ | exact Kd.Q_nil _ _ _ _ _ | exact Kd.S_nil _ _ _ _ _), bel⟩

/-! ### cell_cutFlag: function 80 -/
def cell_cutFlag.f (l0 : List Int) : Option (Bool × List Int × Bool) := if (l0.length : Int) = 0 then (some (false, ([] : List Int), false)) else (if 0 < (l0.length : Int) then (if (rd l0 0) > 1 then (some (false, ([] : List Int), false)) else (if 1 ≤ (l0.length : Int) then (some (((rd l0 0) == 1), (l0.drop (1 : Int).toNat), true)) else (none))) else (none))
set_option maxHeartbeats 8000000 in
set_option maxRecDepth 100000 in
theorem cell_cutFlag.calls (P0_ : Nat → Prop) (u9000_ : Value) (l0 : List Int) (r1 : Bool) (r2 : List Int) (r3 : Bool) (w0 w : World) (hB : Below w0.heap.size w0 w) (ho0 : Kd.R (Kd.int .u8) 5 w w0.heap.size P0_ u9000_ l0) (h : cell_cutFlag.f l0 = some (r1, r2, r3)) :
  Calls Try.prog 80 #[u9000_] w fun e w' => ∃ v1_ : Value, e = .returned (.tuple #[.bool r1, v1_, .bool r3]) ∧ Kd.Q (Kd.int .u8) 5 w' w0.heap.size (fun k_ => (P0_ k_ ∨ w.heap.size ≤ k_)) v1_ r2 ∧ Below w0.heap.size w0 w' ∧ Kept w w' (fun k_ => P0_ k_) := by
 have HO0 := aS (show Kd.R (Kd.int .u8) 5 w w0.heap.size (fun k_ => (P0_ k_ ∨ w.heap.size ≤ k_)) u9000_ l0 from Kd.R_mono ho0 (fun k_ hk => (.inl hk))); have HK := aS (Kept.refl w (fun k_ => P0_ k_)); have HW0 := aS hB.size; have HB := aS hB; clear hB; have H : (if (l0.length : Int) = 0 then (some (false, ([] : List Int), false)) else (if 0 < (l0.length : Int) then (if (rd l0 0) > 1 then (some (false, ([] : List Int), false)) else (if 1 ≤ (l0.length : Int) then (some (((rd l0 0) == 1), (l0.drop (1 : Int).toNat), true)) else (none))) else (none))) = some (r1, r2, r3) := h; clear h
 by_cases c2 : (l0.length : Int) = 0
 ·
  rw [if_pos c2] at H; obtain ⟨c2b0, c2b1⟩ := eqT c2; clear c2
  simp only [Option.some.injEq, Prod.mk.injEq] at H
  obtain ⟨rfl, rfl, rfl⟩ := H; obtain ⟨Ao3, co3, eo3⟩ := Kd.R_slice HO0.out; subst eo3
  go_enter Try.func80, Try.ntmps80
  go_wp2
  repeat (go_quiet (fail); try go_wp2)
  go_ret3
  exact ⟨_, rf3, Kd.Q_of_R (by first | exact Kd.R_nil _ _ _ _ _ | exact Kd.N_nil _ _ _ _ _ | exact Kd.V_nil _ _ _ _ _ | exact Kd.Q_nil _ _ _ _ _ | exact Kd.S_nil _ _ _ _ _), bel, by repeat (first | (with_reducible first | exact HK.out | apply Kept.alloc | apply Kept.drewN | apply Kept.drew) | exact HK.out)⟩
 ·
  rw [if_neg c2] at H; obtain ⟨c2b0, c2b1⟩ := eqF c2
  have c2b2 : ¬ (l0 = []) := fun h_ => c2 (by rw [h_]; rfl)
  by_cases c4 : 0 < (l0.length : Int)
  ·
   rw [if_pos c4] at H; have c4b0 : decide (0 < (l0.length : Int)) = true := decide_eq_true c4; have c4b1 : decide (0 < l0.length) = true := decide_eq_true (by omega); clear c4
   by_cases c5 : (rd l0 0) > 1
   ·
    rw [if_pos c5] at H; have c5b0 : decide (1 < (rd l0 0)) = true := decide_eq_true c5; clear c5
    simp only [Option.some.injEq, Prod.mk.injEq] at H
    obtain ⟨rfl, rfl, rfl⟩ := H; obtain ⟨Ao6, co6, eo6⟩ := Kd.R_slice HO0.out; subst eo6; have p389 : 0 ≤ (0 : Int) := (by omega); have q389 : 0 < (l0.length : Int) := oda; obtain ⟨ad389, e389, hx389_0⟩ := Kd.at_int (Kd.R_reads' HO0.out).2.2 0 p389 q389; cases e389; have qi389 : (0 < l0.length) = True := eq_true (by omega)
    (try rw [show ((0 : Int)).toNat = 0 from rfl] at hx389_0)
    (try rw [Addr.add_zero'] at hx389_0)
    replace p389 := eq_true p389; replace q389 := eq_true q389
    go_enter Try.func80, Try.ntmps80
    go_wp2
    repeat (go_quiet (fail); try go_wp2)
    go_ret3
    exact ⟨_, rf3, Kd.Q_of_R (by first | exact Kd.R_nil _ _ _ _ _ | exact Kd.N_nil _ _ _ _ _ | exact Kd.V_nil _ _ _ _ _ | exact Kd.Q_nil _ _ _ _ _ | exact Kd.S_nil _ _ _ _ _), bel, by repeat (first | (with_reducible first | exact HK.out | apply Kept.alloc | apply Kept.drewN | apply Kept.drew) | exact HK.out)⟩
   ·
    rw [if_neg c5] at H; have c5b0 : decide (1 < (rd l0 0)) = false := decide_eq_false c5; clear c5
    by_cases c7 : 1 ≤ (l0.length : Int)
    ·
     rw [if_pos c7] at H; have c7b0 := eq_true c7; have c7b1 : decide (1 ≤ (l0.length : Int)) = true := decide_eq_true c7; clear c7
     obtain ⟨y391, hy391⟩ : ∃ y_ : List Int, y_ = (l0.drop (1 : Int).toNat) := ⟨_, rfl⟩
     replace H : (some (((rd l0 0) == 1), y391, true)) = some (r1, r2, r3) := hyr hy391 H; have Ny391 := aS hy391; clear hy391
     simp only [Option.some.injEq, Prod.mk.injEq] at H
     obtain ⟨rfl, rfl, rfl⟩ := H; obtain ⟨Ao8, co8, eo8⟩ := Kd.R_slice HO0.out; subst eo8; have p389 : 0 ≤ (0 : Int) := (by omega); have q389 : 0 < (l0.length : Int) := oda; obtain ⟨ad389, e389, hx389_0⟩ := Kd.at_int (Kd.R_reads' HO0.out).2.2 0 p389 q389; cases e389; have qi389 : (0 < l0.length) = True := eq_true (by omega)
     (try rw [show ((0 : Int)).toNat = 0 from rfl] at hx389_0)
     (try rw [Addr.add_zero'] at hx389_0)
     replace p389 := eq_true p389; replace q389 := eq_true q389; have p390 : 0 ≤ (0 : Int) := (by omega); have q390 : 0 < (l0.length : Int) := oda; obtain ⟨ad390, e390, hx390_0⟩ := Kd.at_int (Kd.R_reads' HO0.out).2.2 0 p390 q390
     obtain rfl : ad389 = ad390 := (by injection e390)
     have qi390 : (0 < l0.length) = True := eq_true (by omega)
     (try rw [show ((0 : Int)).toNat = 0 from rfl] at hx390_0)
     (try rw [Addr.add_zero'] at hx390_0)
     replace p390 := eq_true p390; replace q390 := eq_true q390; have q9 : (1 : Int) ≤ ((l0.length : Int) : Int) := oda; obtain ⟨i09, hi09, _, hsz9, _⟩ := info_parts info5; have hcut9 := cut_from (P := Try.prog) 26 5 .i64 Try.underlying26 hi09 1 hsz9 (some ad389) l0.length co8 1 (by omega) q9; have hr9 := Kd.Q_drop (k := (1 : Int).toNat) (Kd.Q_of_R HO0.out) (by omega)
     obtain ⟨A9, hA9⟩ : ∃ A1_, A1_ = (if co8 = (1 : Int).toNat then (some ad389) else ((some ad389) : Option Addr).map (·.add ((1 : Int).toNat * 1))) := ⟨_, rfl⟩
     obtain ⟨c9, hc9⟩ : ∃ c1_, c1_ = co8 - (1 : Int).toNat := ⟨_, rfl⟩
     have hy9 : y391.length = l0.length - (1 : Int).toNat := (by rw [Ny391.out, lld]); rw [← Ny391.out] at hr9; rw [← hy9, ← hA9, ← hc9] at hcut9; replace hr9 : Kd.Q (Kd.int .u8) 5 w w0.heap.size (fun k_ => (P0_ k_ ∨ w.heap.size ≤ k_)) (.slice A9 y391.length c9) y391 := (by rw [hA9, hc9, hy9]; exact hr9); have HE9 : Aside0 ((Value.slice A9 y391.length c9).ownBlock = (.slice (some ad389) l0.length co8 : Value).ownBlock) := ⟨by rw [hA9]; split <;> (cases ((some ad389) : Option Addr) <;> first | rfl | simp [Value.ownBlock, add_block])⟩; clear hy9 hi09 hsz9 HO0 hA9 hc9; have HO393 := aS hr9; clear hr9; replace q9 := eq_true q9
     go_enter Try.func80, Try.ntmps80
     go_wp2
     repeat (go_quiet (fail); try go_wp2)
     go_ret3
     exact ⟨_, rf3, by (with_reducible repeat (first | apply Kd.Q_alloc | apply Kd.Q_drewN | apply Kd.Q_drew)); exact HO393.out, bel, by repeat (first | (with_reducible first | exact HK.out | apply Kept.alloc | apply Kept.drewN | apply Kept.drew) | exact HK.out)⟩
    ·
     rw [if_neg c7] at H; exact absurd H (by simp)
  ·
   rw [if_neg c4] at H; exact absurd H (by simp)

end Go.Proofs.Ytinhpolmanccgaa.X
