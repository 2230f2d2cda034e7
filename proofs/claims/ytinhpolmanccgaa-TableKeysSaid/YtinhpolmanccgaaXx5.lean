-- written by a program of this session's, over the kit's print
import Derived.Test.YtinhpolmanccgaaXx0
import Derived.Test.YtinhpolmanccgaaXx3
import Derived.Test.YtinhpolmanccgaaXx4
namespace Go.Proofs.Ytinhpolmanccgaa.X
open Go.RowKit Go.Proofs.YtinhpolmanccgaaW.PrintWords Go.Proofs.YtinhpolmanccgaaW.PrintLast Go.Proofs.YtinhpolmanccgaaW.PrintMore
attribute [local go_sem] max2_int min2_int max_two min_two max_three min_three max_four min_four gtr_str   -- for this text's walks alone
set_option linter.unusedVariables false
set_option linter.unusedSimpArgs false

/-! ### check_Sum: function 78 -/
def check_Sum.f (k : Nat) (l0 : List Int) : Option (Int) := (check_More.f k 0 l0).bind fun t185 => (some t185)
theorem check_Sum.mono : ∀ a0 k, LeO (check_Sum.f k a0) (check_Sum.f (k + 1) a0) := by
 intro a0 k
 unfold check_Sum.f
 have m0 := @check_More.mono; exact lmo
set_option maxHeartbeats 8000000 in
set_option maxRecDepth 100000 in
theorem check_Sum.calls (k : Nat) (A0 : Option Addr) (c0 : Nat) (l0 : List Int) (r : Int) (w : World) (hr0 : Kd.C (Kd.int .u8) w A0 l0.length l0) (hc0 : l0.length ≤ c0) (h : check_Sum.f k l0 = some r) :
  Calls Try.prog 78 #[.slice A0 l0.length c0] w fun e w' => e = .returned (.int .u32 r) ∧ Below w.heap.size w w' := by
 have HR0 := aS hr0; have HC0 := aS hc0; clear hr0 hc0; have HB := aS (Below.refl w.heap.size w); have H : ((check_More.f k 0 l0).bind fun t185 => (some t185)) = some r := h; clear h; replace H := obm H; obtain ⟨t185, A20, H⟩ := H; have A2 := aS A20; clear A20
 obtain rfl := Option.some.inj H
 go_enter Try.func78, Try.ntmps78
 go_wp2_with (first | ((with_reducible refine gate_callee (f := 81) rfl ?_); refine goesL_ (some 4) rfl rfl Try.func81 (by kernel_rfl) rfl #[.int .u32 0, .slice A0 l0.length c0] rfl agn ?_; (with_reducible refine (check_More.calls k 0 _ _ l0 t185 _ ?side1 ?side2 A2.out).mono ?_); (case side1 => exact cel HR0.out); (case side2 => exact HC0.out); rintro e w3 ⟨rfl, hb⟩; refine ⟨_, rfl, ?_⟩; replace HB := bstep hb; (try clear hb); (try clear hk); (try clear hi)))
 go_ret
 exact ⟨rf3, bel⟩

/-! ### frame_sum: function 73 -/
def frame_sum.f (k : Nat) (l0 : List Int) : Option (List Int) := (check_Sum.f k l0).bind fun t186 => ((wire_Num.f (wrap64 (t186))).bind fun t187 => (some t187))
theorem frame_sum.mono : ∀ a0 k, LeO (frame_sum.f k a0) (frame_sum.f (k + 1) a0) := by
 intro a0 k
 unfold frame_sum.f
 have m0 := @check_Sum.mono; exact lmo
set_option maxHeartbeats 8000000 in
set_option maxRecDepth 100000 in
theorem frame_sum.calls (k : Nat) (A0 : Option Addr) (c0 : Nat) (l0 : List Int) (r : List Int) (w : World) (hr0 : Kd.C (Kd.int .u8) w A0 l0.length l0) (hc0 : l0.length ≤ c0) (h : frame_sum.f k l0 = some r) :
  Calls Try.prog 73 #[.slice A0 l0.length c0] w fun e w' => ∃ v0_ : Value, e = .returned (v0_) ∧ Kd.R (Kd.int .u8) 5 w' w.heap.size (fun _ => True) v0_ r ∧ Below w.heap.size w w' := by
 have HR0 := aS hr0; have HC0 := aS hc0; clear hr0 hc0; have HB := aS (Below.refl w.heap.size w); have H : ((check_Sum.f k l0).bind fun t186 => ((wire_Num.f (wrap64 (t186))).bind fun t187 => (some t187))) = some r := h; clear h; replace H := obm H; obtain ⟨t186, A20, H⟩ := H; have A2 := aS A20; clear A20; replace H := obm H; obtain ⟨t187, A30, H⟩ := H; have A3 := aS A30; clear A30
 obtain rfl := Option.some.inj H
 go_enter Try.func73, Try.ntmps73
 go_wp2_with (first | ((with_reducible refine gate_callee (f := 78) rfl ?_); refine goesL_ (some 4) rfl rfl Try.func78 (by kernel_rfl) rfl #[.slice A0 l0.length c0] rfl agn ?_; (with_reducible refine (check_Sum.calls k _ _ l0 t186 _ ?side1 ?side2 A2.out).mono ?_); (case side1 => exact cel HR0.out); (case side2 => exact HC0.out); rintro e w4 ⟨rfl, hb⟩; refine ⟨_, rfl, ?_⟩; replace HB := bstep hb; (try clear hb); (try clear hk); (try clear hi)) | ((with_reducible refine gate_callee (f := 54) rfl ?_); refine goesL_ (some 6) rfl rfl Try.func54 (by kernel_rfl) rfl #[.int .i64 (wrap64 (t186))] rfl agn ?_; (with_reducible refine (wire_Num.calls (wrap64 (t186)) t187 _ A3.out).mono ?_); rintro e w5 ⟨v188, rfl, ho0, hb⟩; refine ⟨_, rfl, ?_⟩; have HO189 := aS (Kd.R_lower ho0 (below_size bel)); replace HB := bstep hb; (try clear hb); (try clear hk); (try clear hi); (try clear ho0)))
 go_ret
 exact ⟨_, rf3, by (with_reducible repeat (first | apply Kd.R_alloc | apply Kd.R_drewN | apply Kd.R_drew)); exact HO189.out, bel⟩

/-! ### frame_Put: function 71 -/
def frame_Put.f (k : Nat) (l0 : List Int) : Option (List Int) := if (l0.length : Int) > 65535 then (some ([] : List Int)) else ((wire_Num.f (l0.length : Int)).bind fun t190 => ((frame_sum.f k t190).bind fun t193 => ((frame_sum.f k l0).bind fun t196 => ((slices_Concat_byte_byte.f (([t190, t193, t196, l0] : List (List Int)))).bind fun t202 => (some t202)))))
theorem frame_Put.mono : ∀ a0 k, LeO (frame_Put.f k a0) (frame_Put.f (k + 1) a0) := by
 intro a0 k
 unfold frame_Put.f
 have m0 := @frame_sum.mono; exact lmo
set_option maxHeartbeats 8000000 in
set_option maxRecDepth 100000 in
theorem frame_Put.calls (k : Nat) (P0_ : Nat → Prop) (A0 : Option Addr) (c0 : Nat) (l0 : List Int) (r : List Int) (w : World) (hs0 : Kd.V (Kd.int .u8) 5 w w.heap.size (fun k_ => P0_ k_) (.slice A0 l0.length c0) l0) (h : frame_Put.f k l0 = some r) :
  Calls Try.prog 71 #[.slice A0 l0.length c0] w fun e w' => ∃ v0_ : Value, e = .returned (v0_) ∧ Kd.R (Kd.int .u8) 5 w' w.heap.size (fun k_ => (w.heap.size ≤ k_)) v0_ r ∧ Below w.heap.size w w' := by
 have HO0 := aS (show Kd.V (Kd.int .u8) 5 w w.heap.size (fun k_ => (P0_ k_ ∨ w.heap.size ≤ k_)) (.slice A0 l0.length c0) l0 from Kd.V_mono hs0 (fun k_ hk => .inl hk)); have HB := aS (Below.refl w.heap.size w); have H : (if (l0.length : Int) > 65535 then (some ([] : List Int)) else ((wire_Num.f (l0.length : Int)).bind fun t190 => ((frame_sum.f k t190).bind fun t193 => ((frame_sum.f k l0).bind fun t196 => ((slices_Concat_byte_byte.f (([t190, t193, t196, l0] : List (List Int)))).bind fun t202 => (some t202)))))) = some r := h; clear h
 by_cases c2 : (l0.length : Int) > 65535
 ·
  rw [if_pos c2] at H; have c2b0 : decide (65535 < (l0.length : Int)) = true := decide_eq_true c2; have c2b1 : decide (65535 < l0.length) = true := decide_eq_true (by omega); clear c2
  obtain rfl := Option.some.inj H
  go_enter Try.func71, Try.ntmps71
  go_wp2
  go_ret
  exact ⟨_, rf3, by first | exact Kd.R_nil _ _ _ _ _ | exact Kd.N_nil _ _ _ _ _ | exact Kd.V_nil _ _ _ _ _ | exact Kd.Q_nil _ _ _ _ _ | exact Kd.S_nil _ _ _ _ _, bel⟩
 ·
  rw [if_neg c2] at H; have c2b0 : decide (65535 < (l0.length : Int)) = false := decide_eq_false c2; have c2b1 : decide (65535 < l0.length) = false := decide_eq_false (by omega); clear c2; replace H := obm H; obtain ⟨t190, A30, H⟩ := H; have A3 := aS A30; clear A30; replace H := obm H; obtain ⟨t193, A40, H⟩ := H; have A4 := aS A40; clear A40; replace H := obm H; obtain ⟨t196, A50, H⟩ := H; have A5 := aS A50; clear A50
  obtain ⟨y199, hy199⟩ : ∃ y_ : List (List Int), y_ = (([t190, t193, t196, l0] : List (List Int))) := ⟨_, rfl⟩
  (first | replace H := hyn hy199 H | rw [← hy199] at H); have Ny199 := aS hy199; clear hy199; replace H := obm H; obtain ⟨t202, A60, H⟩ := H; have A6 := aS A60; clear A60
  obtain rfl := Option.some.inj H
  go_enter Try.func71, Try.ntmps71
  go_wp2_with (first | ((with_reducible refine gate_callee (f := 54) rfl ?_); refine goesL_ (some 9) rfl rfl Try.func54 (by kernel_rfl) rfl #[.int .i64 (l0.length : Int)] rfl agn ?_; (with_reducible refine (wire_Num.calls (l0.length : Int) t190 _ A3.out).mono ?_); rintro e w7 ⟨v191, rfl, ho0, hb⟩; refine ⟨_, rfl, ?_⟩; replace HO0 := aS (Kd.V_elder' (sel HO0.out) (ebs ho0) hb); have HO192 := aS (Kd.R_lower (Kd.R_newM (M := fun k_ => (w.heap.size ≤ k_)) ho0 (below_size bel) (fun k_ h_ => h_)) (below_size bel)); replace HB := bstep hb; (try clear hb); (try clear hk); (try clear hi); (try clear ho0); obtain ⟨Ao8, co8, eo8⟩ := Kd.R_slice HO192.out; subst eo8) | ((with_reducible refine gate_callee (f := 73) rfl ?_); refine goesL_ (some 12) rfl rfl Try.func73 (by kernel_rfl) rfl #[.slice Ao8 t190.length co8] rfl agn ?_; (with_reducible refine (frame_sum.calls k _ _ t190 t193 _ ?side1 ?side2 A4.out).mono ?_); (case side1 => exact cel ((Kd.R_reads' HO192.out).2.2)); (case side2 => exact (Kd.R_reads' HO192.out).2.1); rintro e w9 ⟨v194, rfl, ho0, hb⟩; refine ⟨_, rfl, ?_⟩; replace HO0 := aS (Kd.V_elder' (sel HO0.out) (ebs ho0) hb); have HO195 := aS (Kd.R_lower (Kd.R_new' (Kd.R_newM (M := fun k_ => (w.heap.size ≤ k_)) ho0 (below_size bel) (fun k_ h_ => h_)) (Kd.R_lt (rel HO192.out))) (below_size bel)); replace HO192 := aS (Kd.R_elder' (rel HO192.out) (ebs ho0) hb); replace HB := bstep hb; (try clear hb); (try clear hk); (try clear hi); (try clear ho0)) | ((with_reducible refine gate_callee (f := 73) rfl ?_); refine goesL_ (some 14) rfl rfl Try.func73 (by kernel_rfl) rfl #[.slice A0 l0.length c0] rfl agn ?_; (with_reducible refine (frame_sum.calls k _ _ l0 t196 _ ?side1 ?side2 A5.out).mono ?_); (case side1 => exact cel ((Kd.V_reads' HO0.out).2.2)); (case side2 => exact (Kd.V_reads' HO0.out).2.1); rintro e w10 ⟨v197, rfl, ho0, hb⟩; refine ⟨_, rfl, ?_⟩; replace HO0 := aS (Kd.V_elder' (sel HO0.out) (ebs ho0) hb); have HO198 := aS (Kd.R_lower (Kd.R_new' (Kd.R_new' (Kd.R_newM (M := fun k_ => (w.heap.size ≤ k_)) ho0 (below_size bel) (fun k_ h_ => h_)) (Kd.R_lt (rel HO192.out))) (Kd.R_lt (rel HO195.out))) (below_size bel)); replace HO192 := aS (Kd.R_elder' (rel HO192.out) (ebs ho0) hb); replace HO195 := aS (Kd.R_elder' (rel HO195.out) (ebs ho0) hb); replace HB := bstep hb; (try clear hb); (try clear hk); (try clear hi); (try clear ho0); obtain ⟨Ao11, co11, eo11⟩ := Kd.R_slice HO195.out; subst eo11; obtain ⟨Ao12, co12, eo12⟩ := Kd.R_slice HO198.out; subst eo12) | ((with_reducible refine gate_dst (N := 16) rfl ?_); refine Kd.N_lit (Kd.slice 5 (Kd.int .u8)) _ 26 ?hg (N' := 16) ?hd (xs := ([t190, t193, t196, l0] : List (List Int))) (inner := [.slice Ao8 t190.length co8, .slice Ao11 t193.length co11, .slice Ao12 t196.length co12, .slice A0 l0.length c0]) (ok := (fun k_ => (P0_ k_ ∨ w.heap.size ≤ k_))) (okp := (fun k_ => (P0_ k_ ∨ w.heap.size ≤ k_))) ?hr ?hp (fun _ hk => hk) ((show ∀ k_, w10.heap.size ≤ k_ → (fun k_ => (P0_ k_ ∨ w.heap.size ≤ k_)) k_ from fun k_ hk => (.inr (Nat.le_trans (below_size bel) hk))) _ (Nat.le_refl _)) (Below.refl _ _) (Nat.le_refl _) (by simp) ?_; (case hd => rfl); (case hg => rfl); (case hr => first | (go_simp; done) | (go_simp; rfl)); (case hp => exact (Reps.one (show Kd.FK (Kd.slice 5 (Kd.int .u8)) _ _ t190 [.slice Ao8 t190.length co8] from (Kd.FK_slice_mk (Kd.R_reads' (Kd.R_mono (ok' := (fun k_ => (P0_ k_ ∨ w.heap.size ≤ k_))) (HO192.out) (fun k_ hk => (.inr (hk.1.1.1))))).2.1 (Kd.R_F (Kd.R_mono (ok' := (fun k_ => (P0_ k_ ∨ w.heap.size ≤ k_))) (HO192.out) (fun k_ hk => (.inr (hk.1.1.1))))))) (Reps.one (show Kd.FK (Kd.slice 5 (Kd.int .u8)) _ _ t193 [.slice Ao11 t193.length co11] from (Kd.FK_slice_mk (Kd.R_reads' (Kd.R_mono (ok' := (fun k_ => (P0_ k_ ∨ w.heap.size ≤ k_))) (HO195.out) (fun k_ hk => (.inr (hk.1.1.1))))).2.1 (Kd.R_F (Kd.R_mono (ok' := (fun k_ => (P0_ k_ ∨ w.heap.size ≤ k_))) (HO195.out) (fun k_ hk => (.inr (hk.1.1.1))))))) (Reps.one (show Kd.FK (Kd.slice 5 (Kd.int .u8)) _ _ t196 [.slice Ao12 t196.length co12] from (Kd.FK_slice_mk (Kd.R_reads' (Kd.R_mono (ok' := (fun k_ => (P0_ k_ ∨ w.heap.size ≤ k_))) (HO198.out) (fun k_ hk => (.inr (hk.1.1.1))))).2.1 (Kd.R_F (Kd.R_mono (ok' := (fun k_ => (P0_ k_ ∨ w.heap.size ≤ k_))) (HO198.out) (fun k_ hk => (.inr (hk.1.1.1))))))) (Reps.one (show Kd.FK (Kd.slice 5 (Kd.int .u8)) _ _ l0 [.slice A0 l0.length c0] from (Kd.FK_slice_mk (Kd.V_reads' (Kd.V_mono (ok' := (fun k_ => (P0_ k_ ∨ w.heap.size ≤ k_))) (HO0.out) (fun k_ hk => hk.1.1.1))).2.1 (Kd.V_F (Kd.V_mono (ok' := (fun k_ => (P0_ k_ ∨ w.heap.size ≤ k_))) (HO0.out) (fun k_ hk => hk.1.1.1))))) (Reps.none _ _)))))); intro v200 w13 ho14 hb hg_ hnew_; clear hg_ hnew_; (first | rw [← Ny199.out] at ho14 | (simp only [Int.reduceToNat] at ho14; rw [← Ny199.out] at ho14)); have n0_ := aS (Kd.V_elder' (sel HO0.out) (by first | exact Kd.N_base ho14 | exact Kd.S_base ho14 | exact Kd.R_base ho14 | exact Kd.V_base ho14) hb); have n1_ := aS (Kd.N_lower ho14 (below_size bel)); have n2_ := bstep hb; clear HO0; clear HB; clear HO192; clear HO195; clear HO198; have HO0 := n0_; have HO201 := n1_; have HB := n2_; clear n0_ n1_ n2_; clear hb ho14; obtain ⟨Ao15, co15, eo15⟩ := Kd.N_slice HO201.out; subst eo15) | ((with_reducible refine gate_callee (f := 53) rfl ?_); refine goesL_ (some 17) rfl rfl Try.func53 (by kernel_rfl) rfl #[.slice Ao15 y199.length co15] rfl agn ?_; (with_reducible refine (slices_Concat_byte_byte.calls _ _ y199 t202 _ ?side1 ?side2 A6.out).mono ?_); (case side1 => exact cel ((Kd.N_reads' HO201.out).2.2)); (case side2 => exact (Kd.N_reads' HO201.out).2.1); rintro e w16 ⟨v203, rfl, ho0, hb⟩; refine ⟨_, rfl, ?_⟩; replace HO0 := aS (Kd.V_elder' (sel HO0.out) (ebs ho0) hb); replace HO201 := aS (Kd.N_elder' (by (with_reducible repeat (first | apply Kd.N_alloc | apply Kd.N_drewN | apply Kd.N_drew)); exact HO201.out) (ebs ho0) hb); have HO204 := aS (Kd.R_lower (Kd.R_newM (M := fun k_ => (w.heap.size ≤ k_)) ho0 (below_size bel) (fun k_ h_ => h_)) (below_size bel)); replace HB := bstep hb; (try clear hb); (try clear hk); (try clear hi); (try clear ho0)))
  go_ret
  exact ⟨_, rf3, by (with_reducible repeat (first | apply Kd.R_alloc | apply Kd.R_drewN | apply Kd.R_drew)); exact Kd.R_mono HO204.out (fun _ hk => hk.1), bel⟩

/-! ### block_Put: function 69 -/
mutual
def block_Put.j0 : Nat → List (S42) → Bool → Option (List Int × Int)
 | 0, _, _ => none
 | k + 1, x0, x15 => if x15 = true then (some (([] : List Int), 1)) else ((wire_Num.f (x0.length : Int)).bind fun t206 => (block_Put.l0 k t206 x0 (x0.length : Int) 0))
def block_Put.l0 : Nat → List Int → List (S42) → Int → Int → Option (List Int × Int)
 | 0, _, _, _, _ => none
 | k + 1, x4, x19, x20, x21 => if x21 < x20 then (if 0 ≤ x21 then (if x21 < (x19.length : Int) then ((cell_Put.f ((rd_T42 x19 x21).f0) ((rd_T42 x19 x21).f1) ((rd_T42 x19 x21).f2) ((rd_T42 x19 x21).f3) ((rd_T42 x19 x21).f4)).bind fun t211 => (if x4.length + t211.length < 140737488355328 then (block_Put.l0 k (x4 ++ t211) x19 x20 (wrap64 (x21 + 1))) else (none))) else (none)) else (none)) else ((frame_Put.f k x4).bind fun t217 => (if (t217.length : Int) = 0 then (some (([] : List Int), 1)) else (some (t217, 0))))
end
def block_Put.f (k : Nat) (l0 : List (S42)) : Option (List Int × Int) := (cell_Sorted.f k l0).bind fun t205 => (if t205 = true then (block_Put.j0 k l0 ((l0.length : Int) == 0)) else (block_Put.j0 k l0 true))
theorem block_Put.mono_l : ∀ k, (∀ y0 y1, LeO (block_Put.j0 k y0 y1) (block_Put.j0 (k + 1) y0 y1)) ∧ (∀ y0 y1 y2 y3, LeO (block_Put.l0 k y0 y1 y2 y3) (block_Put.l0 (k + 1) y0 y1 y2 y3))
 | 0 => ⟨fun _ _ r h => by simp [block_Put.j0] at h, fun _ _ _ _ r h => by simp [block_Put.l0] at h⟩
 | k + 1 => by
  obtain ⟨ih0, ih1⟩ := block_Put.mono_l k; refine ⟨?_, ?_⟩
  ·
   intro y0 y1
   unfold block_Put.j0
   have m0 := @cell_Sorted.mono; have m1 := @frame_Put.mono; exact lmo
  ·
   intro y0 y1 y2 y3
   unfold block_Put.l0
   have m0 := @cell_Sorted.mono; have m1 := @frame_Put.mono; exact lmo
theorem block_Put.mono : ∀ a0 k, LeO (block_Put.f k a0) (block_Put.f (k + 1) a0) := by
 intro a0 k
 obtain ⟨ih0, ih1⟩ := block_Put.mono_l k
 unfold block_Put.f
 have m0 := @cell_Sorted.mono; have m1 := @frame_Put.mono; exact lmo
set_option maxHeartbeats 8000000 in
set_option maxRecDepth 100000 in
theorem block_Put.calls (k : Nat) (A0 : Option Addr) (c0 : Nat) (l0 : List (S42)) (r1 : List Int) (r2 : Int) (w : World) (hr0 : Kd.C k42 w A0 l0.length l0) (hc0 : l0.length ≤ c0) (h : block_Put.f k l0 = some (r1, r2)) :
  Calls Try.prog 69 #[.slice A0 l0.length c0] w fun e w' => ∃ v0_ : Value, e = .returned (.tuple #[v0_, .int .i64 r2]) ∧ Kd.R (Kd.int .u8) 5 w' w.heap.size (fun _ => True) v0_ r1 ∧ Below w.heap.size w w' := by
 have hu42 := Try.underlying42; have HR0 := aS hr0; have HC0 := aS hc0; clear hr0 hc0; have HB := aS (Below.refl w.heap.size w); have H : ((cell_Sorted.f k l0).bind fun t205 => (if t205 = true then (block_Put.j0 k l0 ((l0.length : Int) == 0)) else (block_Put.j0 k l0 true))) = some (r1, r2) := h; clear h; have HC2 := aS H; clear H
 go_enter Try.func69, Try.ntmps69
 go_upto_region 1 with (fail)
 go_cut [15] (fun v15 wc => ∃ (kq : Nat) (x15_1 : Bool), v15 = .bool x15_1 ∧ Aside0 (block_Put.j0 kq l0 x15_1 = some (r1, r2)) ∧ Aside0 (kq ≤ k) ∧ Aside0 (Below w.heap.size w wc))
 case first =>
  have H := HC2.out; clear HC2; replace H := obm H; obtain ⟨t205, A30, H⟩ := H; have A3 := aS A30; clear A30
  by_cases c4 : t205 = true
  ·
   subst c4
   replace H := ifT H
   have H' := aS H
   clear H
   go_wp2_with (first | ((with_reducible refine gate_callee (f := 40) rfl ?_); refine goesL_ (some 9) rfl rfl Try.func40 (by kernel_rfl) rfl #[.slice A0 l0.length c0] rfl agn ?_; (with_reducible refine (cell_Sorted.calls k _ _ l0 true _ ?side1 ?side2 A3.out).mono ?_); (case side1 => exact cel (Kd.C_below HR0.out HB.out)); (case side2 => exact HC0.out); rintro e w5 ⟨rfl, hb⟩; refine ⟨_, rfl, ?_⟩; replace HB := bstep hb; (try clear hb); (try clear hk); (try clear hi)))
   go_meet
   case rel => exact ⟨_, (((l0.length : Int) == 0)), srf, H', ⟨by first | omega | exact Nat.le_refl _⟩, ⟨bel⟩⟩
  ·
   replace c4 := Bool.eq_false_iff.mpr c4; subst c4
   replace H := ifF H
   have H' := aS H
   clear H
   go_wp2_with (first | ((with_reducible refine gate_callee (f := 40) rfl ?_); refine goesL_ (some 9) rfl rfl Try.func40 (by kernel_rfl) rfl #[.slice A0 l0.length c0] rfl agn ?_; (with_reducible refine (cell_Sorted.calls k _ _ l0 false _ ?side1 ?side2 A3.out).mono ?_); (case side1 => exact cel (Kd.C_below HR0.out HB.out)); (case side2 => exact HC0.out); rintro e w6 ⟨rfl, hb⟩; refine ⟨_, rfl, ?_⟩; replace HB := bstep hb; (try clear hb); (try clear hk); (try clear hi)))
   go_meet
   case rel => exact ⟨_, (true), srf, H', ⟨by first | omega | exact Nat.le_refl _⟩, ⟨bel⟩⟩
 case rest =>
  clear HC2; obtain ⟨kq, x15_1, rfl, HA, HJ1, HB⟩ := hcut
  cases kq with
  | zero => exact absurd HA.out (by simp [block_Put.j0])
  | succ kj1 =>
   have H := HA.out; clear HA
   simp only [block_Put.j0] at H
   by_cases c7 : x15_1 = true
   ·
    subst c7
    replace H := ifT H
    simp only [Option.some.injEq, Prod.mk.injEq] at H
    obtain ⟨rfl, rfl⟩ := H
    go_wp2
    go_ret2
    exact ⟨_, rf3, by first | exact Kd.R_nil _ _ _ _ _ | exact Kd.N_nil _ _ _ _ _ | exact Kd.V_nil _ _ _ _ _ | exact Kd.Q_nil _ _ _ _ _ | exact Kd.S_nil _ _ _ _ _, bel⟩
   ·
    replace c7 := Bool.eq_false_iff.mpr c7; subst c7
    replace H := ifF H; replace H := obm H; obtain ⟨t206, A80, H⟩ := H; have A8 := aS A80; clear A80
    have H' := aS H
    clear H
    go_wp2_with (first | ((with_reducible refine gate_callee (f := 54) rfl ?_); refine goesL_ (some 18) rfl rfl Try.func54 (by kernel_rfl) rfl #[.int .i64 (l0.length : Int)] rfl agn ?_; (with_reducible refine (wire_Num.calls (l0.length : Int) t206 _ A8.out).mono ?_); rintro e w9 ⟨v207, rfl, ho0, hb⟩; refine ⟨_, rfl, ?_⟩; have HO208 := aS (Kd.R_lower ho0 (below_size bel)); replace HB := bstep hb; (try clear hb); (try clear hk); (try clear hi); (try clear ho0)))
    go_loopg [4, 21] kj1 (fun kq v4 v21 w' => ∃ (x4_2 : List Int) (x21_2 : Int), v21 = .int .i64 x21_2 ∧ Aside0 (block_Put.l0 kq x4_2 l0 (l0.length : Int) x21_2 = some (r1, r2)) ∧ Aside0 (kq ≤ kj1) ∧ Aside0 (Kd.R (Kd.int .u8) 5 w' w.heap.size (fun _ => True) v4 x4_2) ∧ Aside0 (Below w.heap.size w w'))
    case atStart => exact ⟨(t206), (0), srf, H', ⟨Nat.le_refl _⟩, ⟨by (with_reducible repeat (first | apply Kd.R_alloc | apply Kd.R_drewN | apply Kd.R_drew)); exact HO208.out⟩, ⟨bel⟩⟩
    case round =>
     clear H'; (try clear c7); obtain ⟨x4_2, x21_2, rfl, HA, HK2, HO_4, HB⟩ := hrel
     cases gk with
     | zero => exact absurd HA.out (by simp [block_Put.l0])
     | succ k2 =>
      have H := HA.out; clear HA
      simp only [block_Put.l0] at H
      by_cases c10 : x21_2 < (l0.length : Int)
      ·
       rw [if_pos c10] at H; have c10b0 : decide (x21_2 < (l0.length : Int)) = true := decide_eq_true c10; clear c10
       by_cases c11 : 0 ≤ x21_2
       ·
        rw [if_pos c11] at H; have c11b0 : decide (0 ≤ x21_2) = true := decide_eq_true c11; clear c11
        by_cases c12 : x21_2 < (l0.length : Int)
        ·
         rw [if_pos c12] at H; have c12b0 : decide (x21_2 < (l0.length : Int)) = true := decide_eq_true c12; clear c12; replace H := obm H; obtain ⟨t211, A130, H⟩ := H; have A13 := aS A130; clear A130
         by_cases c14 : x4_2.length + t211.length < 140737488355328
         ·
          rw [if_pos c14] at H; have LMc14 := aS c14; clear c14
          obtain ⟨y214, hy214⟩ : ∃ y_ : List Int, y_ = (x4_2 ++ t211) := ⟨_, rfl⟩
          (first | replace H := hyn hy214 H | rw [← hy214] at H); have Ny214 := aS hy214; clear hy214
          have H' := aS H
          clear H; have p209 : 0 ≤ (x21_2 : Int) := oda; have q209 : x21_2 < (l0.length : Int) := oda; obtain ⟨ad209, e209, hx209_0, hx209_1, hx209_2, hx209_3, hx209_4⟩ := at_T42 HR0.out x21_2 p209 q209; cases e209; replace hx209_0 := bx bel hx209_0; replace hx209_1 := bx bel hx209_1; replace hx209_2 := bx bel hx209_2; replace hx209_3 := bx bel hx209_3; replace hx209_4 := bx bel hx209_4; replace p209 := eq_true p209; replace q209 := eq_true q209
          go_wp2_with (first | ((with_reducible refine gate_dst (N := 6) rfl ?_); (try (refine gate_guard (by rfl) ?_; dsimp only)); refine box_event ?hg (N := 6) ?hd (cs := #[.string (⟨#[]⟩ : ByteArray), .string (⟨#[]⟩ : ByteArray), .int .i64 0, .string (⟨#[]⟩ : ByteArray), .bool false]) (t := 42) ?hr ?_; (case hd => rfl); (case hg => rfl); (case hr => first | (go_simp; done) | (go_simp; rfl)); intro gb210 hg w15 hbox hb; replace HO_4 := aS (Kd.R_below (rel HO_4.out) hb); have BK210 := aS (hbox); have GW210 := bsize hg; have GE210 := bsize hg; replace HB := bstep hb; clear hb hbox hg; have hcz16 := cK5 BK210) | ((with_reducible refine gate_callee (f := 51) rfl ?_); refine goesL_ (some 27) rfl rfl Try.func51 (by kernel_rfl) rfl #[.agg #[.string ((rd_T42 l0 x21_2).f0), .string ((rd_T42 l0 x21_2).f1), .int .i64 ((rd_T42 l0 x21_2).f2), .string ((rd_T42 l0 x21_2).f3), .bool ((rd_T42 l0 x21_2).f4)]] rfl agn ?_; (with_reducible refine (cell_Put.calls ((rd_T42 l0 x21_2).f0) ((rd_T42 l0 x21_2).f1) ((rd_T42 l0 x21_2).f2) ((rd_T42 l0 x21_2).f3) ((rd_T42 l0 x21_2).f4) t211 _ A13.out).mono ?_); rintro e w17 ⟨v212, rfl, ho0, hb⟩; refine ⟨_, rfl, ?_⟩; have HO213 := aS (Kd.R_lower (Kd.R_new' ho0 (Kd.R_lt (by (with_reducible repeat (first | apply Kd.R_alloc | apply Kd.R_drewN | apply Kd.R_drew)); exact (Kd.R_mono (Kd.R_far (p := ⟨gb210, 4, none⟩) (Kd.R_far (p := ⟨gb210, 3, none⟩) (Kd.R_far (p := ⟨gb210, 2, none⟩) (Kd.R_far (p := ⟨gb210, 1, none⟩) (Kd.R_far (p := ⟨gb210, 0, none⟩) (Kd.R_types HO_4.out BK210.out (by decide)) (fun _ hk => hk.2) (.string ((rd_T42 l0 x21_2).f0))) (fun _ hk => hk.2) (.string ((rd_T42 l0 x21_2).f1))) (fun _ hk => hk.2) (.int .i64 ((rd_T42 l0 x21_2).f2))) (fun _ hk => hk.2) (.string ((rd_T42 l0 x21_2).f3))) (fun _ hk => hk.2) (.bool ((rd_T42 l0 x21_2).f4))) (fun _ h_ => h_.1))))) (below_size bel)); replace HO_4 := aS (Kd.R_elder' (by (with_reducible repeat (first | apply Kd.R_alloc | apply Kd.R_drewN | apply Kd.R_drew)); exact (Kd.R_mono (Kd.R_far (p := ⟨gb210, 4, none⟩) (Kd.R_far (p := ⟨gb210, 3, none⟩) (Kd.R_far (p := ⟨gb210, 2, none⟩) (Kd.R_far (p := ⟨gb210, 1, none⟩) (Kd.R_far (p := ⟨gb210, 0, none⟩) (Kd.R_types HO_4.out BK210.out (by decide)) (fun _ hk => hk.2) (.string ((rd_T42 l0 x21_2).f0))) (fun _ hk => hk.2) (.string ((rd_T42 l0 x21_2).f1))) (fun _ hk => hk.2) (.int .i64 ((rd_T42 l0 x21_2).f2))) (fun _ hk => hk.2) (.string ((rd_T42 l0 x21_2).f3))) (fun _ hk => hk.2) (.bool ((rd_T42 l0 x21_2).f4))) (fun _ h_ => h_.1))) (ebs ho0) hb); replace BK210 := aS (blk_below (g := gb210) (o := .cells #[.string ((rd_T42 l0 x21_2).f0), .string ((rd_T42 l0 x21_2).f1), .int .i64 ((rd_T42 l0 x21_2).f2), .string ((rd_T42 l0 x21_2).f3), .bool ((rd_T42 l0 x21_2).f4)] 42 (0, 0)) (by (with_reducible repeat (first | refine blk_drewN ?_ _ | refine blk_drew ?_ | refine blk_alloc ?_ _)); refine blk_put (cs := #[.string ((rd_T42 l0 x21_2).f0), .string ((rd_T42 l0 x21_2).f1), .int .i64 ((rd_T42 l0 x21_2).f2), .string ((rd_T42 l0 x21_2).f3), .bool false]) ?_ 4 _ rfl; (with_reducible repeat (first | refine blk_drewN ?_ _ | refine blk_drew ?_ | refine blk_alloc ?_ _)); refine blk_put (cs := #[.string ((rd_T42 l0 x21_2).f0), .string ((rd_T42 l0 x21_2).f1), .int .i64 ((rd_T42 l0 x21_2).f2), .string (⟨#[]⟩ : ByteArray), .bool false]) ?_ 3 _ rfl; (with_reducible repeat (first | refine blk_drewN ?_ _ | refine blk_drew ?_ | refine blk_alloc ?_ _)); refine blk_put (cs := #[.string ((rd_T42 l0 x21_2).f0), .string ((rd_T42 l0 x21_2).f1), .int .i64 0, .string (⟨#[]⟩ : ByteArray), .bool false]) ?_ 2 _ rfl; (with_reducible repeat (first | refine blk_drewN ?_ _ | refine blk_drew ?_ | refine blk_alloc ?_ _)); refine blk_put (cs := #[.string ((rd_T42 l0 x21_2).f0), .string (⟨#[]⟩ : ByteArray), .int .i64 0, .string (⟨#[]⟩ : ByteArray), .bool false]) ?_ 1 _ rfl; (with_reducible repeat (first | refine blk_drewN ?_ _ | refine blk_drew ?_ | refine blk_alloc ?_ _)); refine blk_put (cs := #[.string (⟨#[]⟩ : ByteArray), .string (⟨#[]⟩ : ByteArray), .int .i64 0, .string (⟨#[]⟩ : ByteArray), .bool false]) ?_ 0 _ rfl; (with_reducible repeat (first | refine blk_drewN ?_ _ | refine blk_drew ?_ | refine blk_alloc ?_ _)); exact BK210.out) hb); replace HB := bstep hb; (try clear hb); (try clear hk); (try clear hi); (try clear ho0); obtain ⟨Ao19, co19, eo19⟩ := Kd.R_slice HO213.out; subst eo19) | ((with_reducible refine gate_builtin (b := .append) (xs := #[.tmp 25, .tmp 27]) rfl ?_); (try (refine gate_guard (by rfl) ?_; dsimp only)); at_builtin; refine Kd.R_append_rows (Kd.int .u8) (w0 := w) w.heap.size rfl (.tmp 25) (.tmp 27) 26 5 (.int .u8 0) 1 rfl Try.underlying26 info5 rfl (by decide) (by omega) u4 x4_2 t211 _ _ _ (fun k_ => some k_ ≠ (.slice Ao19 t211.length co19 : Value).ownBlock) (fun _ => False) rfl rfl ?aO ?aR (fun _ _ h => h) (fun _ h => h.elim) ?aF ?aB ?aS ?aL ?_; (case aR => exact cel ((Kd.R_reads' HO213.out).2.2)); (case aB => exact bel); (case aF => exact (fun k_ hk => Kd.fresh' (Kd.R_lt (rel HO213.out)) k_ hk)); (case aO => exact (rel (Kd.R_mono HO_4.out (fun _ hk => hk.2)))); (case aS => exact (below_size bel)); (case aL => have := LMc14.out; omega); intro v215 w18 ho hb hg hat; rw [← Ny214.out] at ho; have n0_ := aS (blk_grown (g := gb210) (o := .cells #[.string ((rd_T42 l0 x21_2).f0), .string ((rd_T42 l0 x21_2).f1), .int .i64 ((rd_T42 l0 x21_2).f2), .string ((rd_T42 l0 x21_2).f3), .bool ((rd_T42 l0 x21_2).f4)] 42 (0, 0)) (bkl BK210.out) hg (Kd.R_ne HO_4.out BK210.out (by decide))); have n1_ := aS (Kd.R_after (ok := (fun _ => True)) (rel HO213.out) hg hat); have n2_ := aS (hb); have n3_ := aS (ho); clear BK210; clear HO213; clear HB; clear HO_4; have BK210 := n0_; have HO213 := n1_; have HB := n2_; have HO216 := n3_; clear n0_ n1_ n2_ n3_; clear ho hb hg hat))
          go_roundg k2
          case measure => have := HJ1.out; have := HK2.out; omega
          case rel => exact ⟨(y214), (wrap64 (x21_2 + 1)), srf, H', ⟨by have := HJ1.out; have := HK2.out; omega⟩, ⟨by (with_reducible repeat (first | apply Kd.R_alloc | apply Kd.R_drewN | apply Kd.R_drew)); exact Kd.R_mono HO216.out (fun _ hk => trivial)⟩, ⟨bel⟩⟩
         ·
          rw [if_neg c14] at H; exact absurd H (by simp)
        ·
         rw [if_neg c12] at H; exact absurd H (by simp)
       ·
        rw [if_neg c11] at H; exact absurd H (by simp)
      ·
       rw [if_neg c10] at H; have c10b0 : decide (x21_2 < (l0.length : Int)) = false := decide_eq_false c10; clear c10; replace H := obm H; obtain ⟨t217, A200, H⟩ := H; have A20 := aS A200; clear A200
       by_cases c21 : (t217.length : Int) = 0
       ·
        rw [if_pos c21] at H; obtain ⟨c21b0, c21b1⟩ := eqT c21; clear c21
        simp only [Option.some.injEq, Prod.mk.injEq] at H
        obtain ⟨rfl, rfl⟩ := H; obtain ⟨Ao22, co22, eo22⟩ := Kd.R_slice HO_4.out; subst eo22
        go_wp2_with (first | ((with_reducible refine gate_callee (f := 71) rfl ?_); refine goesL_ (some 31) rfl rfl Try.func71 (by kernel_rfl) rfl #[.slice Ao22 x4_2.length co22] rfl agn ?_; (with_reducible refine (frame_Put.calls k2 (fun k_ => some k_ = (.slice Ao22 x4_2.length co22 : Value).ownBlock) _ _ x4_2 t217 _ ?side1 A20.out).mono ?_); (case side1 => exact Kd.R_V (Kd.R_tight rfl (HO_4.out))); rintro e w23 ⟨v218, rfl, ho0, hb⟩; refine ⟨_, rfl, ?_⟩; have HO219 := aS (Kd.R_lower (Kd.R_new' (Kd.R_mono (ok' := fun k_ => True) ho0 (fun _ hk_ => trivial)) (Kd.R_lt (rel HO_4.out))) (below_size bel)); replace HO_4 := aS (Kd.R_elder' (rel HO_4.out) (ebs ho0) hb); replace HB := bstep hb; (try clear hb); (try clear hk); (try clear hi); (try clear ho0); obtain ⟨Ao24, co24, eo24⟩ := Kd.R_slice HO219.out; subst eo24))
        go_ret2
        exact ⟨_, rf3, by first | exact Kd.R_nil _ _ _ _ _ | exact Kd.N_nil _ _ _ _ _ | exact Kd.V_nil _ _ _ _ _ | exact Kd.Q_nil _ _ _ _ _ | exact Kd.S_nil _ _ _ _ _, bel⟩
       ·
        rw [if_neg c21] at H; obtain ⟨c21b0, c21b1⟩ := eqF c21
        have c21b2 : ¬ (t217 = []) := fun h_ => c21 (by rw [h_]; rfl)
        simp only [Option.some.injEq, Prod.mk.injEq] at H
        obtain ⟨rfl, rfl⟩ := H; obtain ⟨Ao25, co25, eo25⟩ := Kd.R_slice HO_4.out; subst eo25
        go_wp2_with (first | ((with_reducible refine gate_callee (f := 71) rfl ?_); refine goesL_ (some 31) rfl rfl Try.func71 (by kernel_rfl) rfl #[.slice Ao25 x4_2.length co25] rfl agn ?_; (with_reducible refine (frame_Put.calls k2 (fun k_ => some k_ = (.slice Ao25 x4_2.length co25 : Value).ownBlock) _ _ x4_2 t217 _ ?side1 A20.out).mono ?_); (case side1 => exact Kd.R_V (Kd.R_tight rfl (HO_4.out))); rintro e w26 ⟨v218, rfl, ho0, hb⟩; refine ⟨_, rfl, ?_⟩; have HO219 := aS (Kd.R_lower (Kd.R_new' (Kd.R_mono (ok' := fun k_ => True) ho0 (fun _ hk_ => trivial)) (Kd.R_lt (rel HO_4.out))) (below_size bel)); replace HO_4 := aS (Kd.R_elder' (rel HO_4.out) (ebs ho0) hb); replace HB := bstep hb; (try clear hb); (try clear hk); (try clear hi); (try clear ho0); obtain ⟨Ao27, co27, eo27⟩ := Kd.R_slice HO219.out; subst eo27))
        go_ret2
        exact ⟨_, rf3, by (with_reducible repeat (first | apply Kd.R_alloc | apply Kd.R_drewN | apply Kd.R_drew)); exact Kd.R_mono HO219.out (fun _ hk => trivial), bel⟩

/-! ### table_key: function 70 -/
def table_key.f (a0_0 : ByteArray) (a0_1 : ByteArray) (a0_2 : Int) (a0_3 : ByteArray) (a0_4 : Bool) : Option (ByteArray × ByteArray × Int × ByteArray × Bool) := some (a0_0, a0_1, a0_2, (⟨#[]⟩ : ByteArray), false)
set_option maxHeartbeats 8000000 in
set_option maxRecDepth 100000 in
theorem table_key.calls (a0_0 : ByteArray) (a0_1 : ByteArray) (a0_2 : Int) (a0_3 : ByteArray) (a0_4 : Bool) (r1 : ByteArray) (r2 : ByteArray) (r3 : Int) (r4 : ByteArray) (r5 : Bool) (w : World) (h : table_key.f a0_0 a0_1 a0_2 a0_3 a0_4 = some (r1, r2, r3, r4, r5)) :
  Calls Try.prog 70 #[.agg #[.string a0_0, .string a0_1, .int .i64 a0_2, .string a0_3, .bool a0_4]] w fun e w' => e = .returned (.agg #[.string r1, .string r2, .int .i64 r3, .string r4, .bool r5]) ∧ Below w.heap.size w w' := by
 have hu42 := Try.underlying42; have HB := aS (Below.refl w.heap.size w); have H : (some (a0_0, a0_1, a0_2, (⟨#[]⟩ : ByteArray), false)) = some (r1, r2, r3, r4, r5) := h; clear h
 simp only [Option.some.injEq, Prod.mk.injEq] at H
 obtain ⟨rfl, rfl, rfl, rfl, rfl⟩ := H
 go_enter Try.func70, Try.ntmps70
 go_wp2_with (first | ((with_reducible refine gate_dst (N := 1) rfl ?_); refine box_event ?hg (N := 1) ?hd (cs := #[.string a0_0, .string a0_1, .int .i64 a0_2, .string a0_3, .bool a0_4]) (t := 42) ?hr ?_; (case hd => rfl); (case hg => rfl); (case hr => first | (go_simp; done) | (go_simp; rfl)); intro gb220 hg w2 hbox hb; have BK220 := aS (hbox); have GW220 := bsize hg; have GE220 := bsize hg; replace HB := bstep hb; clear hb hbox hg) | ((with_reducible refine gate_dst (N := 2) rfl ?_); refine box_event ?hg (N := 2) ?hd (cs := #[.string (⟨#[]⟩ : ByteArray), .string (⟨#[]⟩ : ByteArray), .int .i64 0, .string (⟨#[]⟩ : ByteArray), .bool false]) (t := 42) ?hr ?_; (case hd => rfl); (case hg => rfl); (case hr => first | (go_simp; done) | (go_simp; rfl)); intro gb221 hg w3 hbox hb; have BK221 := aS (hbox); have GW221 := bsize hg; have GE221 := bsize hg; replace HB := bstep hb; have NB220_221 := aS ((by rw [hg]; exact Nat.ne_of_lt (blk_lt (g := gb220) (o := .cells #[.string a0_0, .string a0_1, .int .i64 a0_2, .string a0_3, .bool a0_4] 42 (0, 0)) (bkl BK220.out)) : gb220 ≠ gb221)); have NB221_220 := aS ((by rw [hg]; exact Nat.ne_of_gt (blk_lt (g := gb220) (o := .cells #[.string a0_0, .string a0_1, .int .i64 a0_2, .string a0_3, .bool a0_4] 42 (0, 0)) (bkl BK220.out)) : gb221 ≠ gb220)); replace BK220 := bbl BK220 hb; clear hb hbox hg; have hnb4 := NB220_221.out; have hnc4 := NB221_220.out; have hcz5 := cK5 BK220; have hcz6 := cK5 BK221))
 refine bodyPost_ret (results_cell_row rfl _ _ gb221 42 #[.string a0_0, .string a0_1, .int .i64 a0_2, .string (⟨#[]⟩ : ByteArray), .bool false] (0, 0) _ rfl (by (with_reducible repeat (first | refine blk_drewN ?_ _ | refine blk_drew ?_ | refine blk_alloc ?_ _)); refine blk_put (cs := #[.string a0_0, .string a0_1, .int .i64 a0_2, .string (⟨#[]⟩ : ByteArray), .bool false]) ?_ 4 _ rfl; (with_reducible repeat (first | refine blk_drewN ?_ _ | refine blk_drew ?_ | refine blk_alloc ?_ _)); refine blk_put (cs := #[.string a0_0, .string a0_1, .int .i64 a0_2, .string (⟨#[]⟩ : ByteArray), .bool false]) ?_ 3 _ rfl; (with_reducible repeat (first | refine blk_drewN ?_ _ | refine blk_drew ?_ | refine blk_alloc ?_ _)); refine blk_put (cs := #[.string a0_0, .string a0_1, .int .i64 0, .string (⟨#[]⟩ : ByteArray), .bool false]) ?_ 2 _ rfl; (with_reducible repeat (first | refine blk_drewN ?_ _ | refine blk_drew ?_ | refine blk_alloc ?_ _)); refine blk_put (cs := #[.string a0_0, .string (⟨#[]⟩ : ByteArray), .int .i64 0, .string (⟨#[]⟩ : ByteArray), .bool false]) ?_ 1 _ rfl; (with_reducible repeat (first | refine blk_drewN ?_ _ | refine blk_drew ?_ | refine blk_alloc ?_ _)); refine blk_put (cs := #[.string (⟨#[]⟩ : ByteArray), .string (⟨#[]⟩ : ByteArray), .int .i64 0, .string (⟨#[]⟩ : ByteArray), .bool false]) ?_ 0 _ rfl; (with_reducible repeat (first | refine blk_drewN ?_ _ | refine blk_drew ?_ | refine blk_alloc ?_ _)); exact BK221.out) Try.underlying42 rfl (by kernel_rfl)) rfl ?_; exact ⟨rf3, bel⟩

/-! ### table_built: function 52 -/
def table_built.l0 : Nat → List Int → List Int → List Int → List (List (S42)) → Int → Int → Option (List Int × List Int × Int)
 | 0, _, _, _, _, _, _ => none
 | k + 1, x1, x7, x8, x16, x17, x18 => if x18 < x17 then (if 0 ≤ x18 then (if x18 < (x16.length : Int) then ((block_Put.f k (rd_L7 x16 x18)).bind fun bt226 => (if bt226.2 = 0 then (if 0 < ((rd_L7 x16 x18).length : Int) then ((table_key.f ((rd_T42 (rd_L7 x16 x18) 0).f0) ((rd_T42 (rd_L7 x16 x18) 0).f1) ((rd_T42 (rd_L7 x16 x18) 0).f2) ((rd_T42 (rd_L7 x16 x18) 0).f3) ((rd_T42 (rd_L7 x16 x18) 0).f4)).bind fun bt231 => ((cell_Put.f bt231.1 bt231.2.1 bt231.2.2.1 bt231.2.2.2.1 bt231.2.2.2.2).bind fun t236 => ((wire_Num.f (x7.length : Int)).bind fun t239 => ((slices_Concat_byte_byte.f (([x8, t236, t239] : List (List Int)))).bind fun t245 => (if x7.length + bt226.1.length < 140737488355328 then (table_built.l0 k x1 (x7 ++ bt226.1) t245 x16 x17 (wrap64 (x18 + 1))) else (none)))))) else (none)) else (some (([] : List Int), ([] : List Int), bt226.2)))) else (none)) else (none)) else ((wire_Text.f (strOfNums x1)).bind fun t251 => (if x8.length + t251.length < 140737488355328 then ((frame_Put.f k (x8 ++ t251)).bind fun t257 => (if (t257.length : Int) = 0 then (some (([] : List Int), ([] : List Int), 1)) else (some (x7, t257, 0)))) else (none)))
def table_built.f (k : Nat) (l0 : List (List (S42))) (l1 : List Int) : Option (List Int × List Int × Int) := (wire_Num.f (l0.length : Int)).bind fun t222 => (table_built.l0 k l1 ([] : List Int) t222 l0 (l0.length : Int) 0)
theorem table_built.mono_l : ∀ k, (∀ y0 y1 y2 y3 y4 y5, LeO (table_built.l0 k y0 y1 y2 y3 y4 y5) (table_built.l0 (k + 1) y0 y1 y2 y3 y4 y5))
 | 0 => fun _ _ _ _ _ _ r h => by simp [table_built.l0] at h
 | k + 1 => by
  have ih0 := table_built.mono_l k
  ·
   intro y0 y1 y2 y3 y4 y5
   unfold table_built.l0
   have m0 := @block_Put.mono; have m1 := @frame_Put.mono; exact lmo
theorem table_built.mono : ∀ a0 a1 k, LeO (table_built.f k a0 a1) (table_built.f (k + 1) a0 a1) := by
 intro a0 a1 k
 have ih0 := table_built.mono_l k
 unfold table_built.f
 have m0 := @block_Put.mono; have m1 := @frame_Put.mono; exact lmo
set_option maxHeartbeats 8000000 in
set_option maxRecDepth 100000 in
theorem table_built.calls (k : Nat) (A0 : Option Addr) (c0 : Nat) (l0 : List (List (S42))) (A1 : Option Addr) (c1 : Nat) (l1 : List Int) (r1 : List Int) (r2 : List Int) (r3 : Int) (w : World) (hr0 : Kd.C (Kd.slice 42 k42) w A0 l0.length l0) (hc0 : l0.length ≤ c0) (hr1 : Kd.C (Kd.int .u8) w A1 l1.length l1) (hc1 : l1.length ≤ c1) (h : table_built.f k l0 l1 = some (r1, r2, r3)) :
  Calls Try.prog 52 #[.slice A0 l0.length c0, .slice A1 l1.length c1] w fun e w' => ∃ v0_ v1_ : Value, e = .returned (.tuple #[v0_, v1_, .int .i64 r3]) ∧ Kd.R (Kd.int .u8) 5 w' w.heap.size (fun k_ => some k_ ≠ (v1_ : Value).ownBlock) v0_ r1 ∧ Kd.R (Kd.int .u8) 5 w' w.heap.size (fun k_ => some k_ ≠ (v0_ : Value).ownBlock) v1_ r2 ∧ Below w.heap.size w w' := by
 have hu42 := Try.underlying42; have HR0 := aS hr0; have HC0 := aS hc0; clear hr0 hc0; have HR1 := aS hr1; have HC1 := aS hc1; clear hr1 hc1; have HB := aS (Below.refl w.heap.size w); have H : ((wire_Num.f (l0.length : Int)).bind fun t222 => (table_built.l0 k l1 ([] : List Int) t222 l0 (l0.length : Int) 0)) = some (r1, r2, r3) := h; clear h; replace H := obm H; obtain ⟨t222, A30, H⟩ := H; have A3 := aS A30; clear A30
 have H' := aS H
 clear H
 go_enter Try.func52, Try.ntmps52
 go_wp2_with (first | ((with_reducible refine gate_callee (f := 54) rfl ?_); refine goesL_ (some 15) rfl rfl Try.func54 (by kernel_rfl) rfl #[.int .i64 (l0.length : Int)] rfl agn ?_; (with_reducible refine (wire_Num.calls (l0.length : Int) t222 _ A3.out).mono ?_); rintro e w4 ⟨v223, rfl, ho0, hb⟩; refine ⟨_, rfl, ?_⟩; have HO224 := aS (Kd.R_lower ho0 (below_size bel)); replace HB := bstep hb; (try clear hb); (try clear hk); (try clear hi); (try clear ho0)))
 go_loopg [7, 8, 18] k (fun kq v7 v8 v18 w' => ∃ (x7_1 : List Int) (x8_1 : List Int) (x18_1 : Int), v18 = .int .i64 x18_1 ∧ Aside0 (table_built.l0 kq l1 x7_1 x8_1 l0 (l0.length : Int) x18_1 = some (r1, r2, r3)) ∧ Aside0 (kq ≤ k) ∧ Aside0 (Kd.R (Kd.int .u8) 5 w' w.heap.size (fun k_ => some k_ ≠ (v8 : Value).ownBlock) v7 x7_1) ∧ Aside0 (Kd.R (Kd.int .u8) 5 w' w.heap.size (fun k_ => some k_ ≠ (v7 : Value).ownBlock) v8 x8_1) ∧ Aside0 (Below w.heap.size w w'))
 case atStart => exact ⟨(([] : List Int)), (t222), (0), srf, H', ⟨Nat.le_refl _⟩, ⟨by first | exact Kd.R_nil _ _ _ _ _ | exact Kd.N_nil _ _ _ _ _ | exact Kd.V_nil _ _ _ _ _ | exact Kd.Q_nil _ _ _ _ _ | exact Kd.S_nil _ _ _ _ _⟩, ⟨by (with_reducible repeat (first | apply Kd.R_alloc | apply Kd.R_drewN | apply Kd.R_drew)); exact Kd.R_mono HO224.out (fun _ hk => (by simp [Value.ownBlock]))⟩, ⟨bel⟩⟩
 case round =>
  clear H'; (try clear c1); obtain ⟨x7_1, x8_1, x18_1, rfl, HA, HK1, HO_7, HO_8, HB⟩ := hrel
  cases gk with
  | zero => exact absurd HA.out (by simp [table_built.l0])
  | succ k1 =>
   have H := HA.out; clear HA
   simp only [table_built.l0] at H
   by_cases c5 : x18_1 < (l0.length : Int)
   ·
    rw [if_pos c5] at H; have c5b0 : decide (x18_1 < (l0.length : Int)) = true := decide_eq_true c5; clear c5
    by_cases c6 : 0 ≤ x18_1
    ·
     rw [if_pos c6] at H; have c6b0 : decide (0 ≤ x18_1) = true := decide_eq_true c6; clear c6
     by_cases c7 : x18_1 < (l0.length : Int)
     ·
      rw [if_pos c7] at H; have c7b0 : decide (x18_1 < (l0.length : Int)) = true := decide_eq_true c7; clear c7; replace H := obm H; obtain ⟨⟨t226, t227⟩, A80, H⟩ := H; (try dsimp only at H); have A8 := aS A80; clear A80
      by_cases c9 : t227 = 0
      ·
       rw [if_pos c9] at H; obtain ⟨c9b0, c9b1⟩ := eqT c9; clear c9
       by_cases c10 : 0 < ((rd_L7 l0 x18_1).length : Int)
       ·
        rw [if_pos c10] at H; have c10b0 : decide (0 < ((rd_L7 l0 x18_1).length : Int)) = true := decide_eq_true c10; have c10b1 : decide (0 < (rd_L7 l0 x18_1).length) = true := decide_eq_true (by omega); clear c10; replace H := obm H; obtain ⟨⟨t231, t232, t233, t234, t235⟩, A110, H⟩ := H; (try dsimp only at H); have A11 := aS A110; clear A110; replace H := obm H; obtain ⟨t236, A120, H⟩ := H; have A12 := aS A120; clear A120; replace H := obm H; obtain ⟨t239, A130, H⟩ := H; have A13 := aS A130; clear A130
        obtain ⟨y242, hy242⟩ : ∃ y_ : List (List Int), y_ = (([x8_1, t236, t239] : List (List Int))) := ⟨_, rfl⟩
        (first | replace H := hyn hy242 H | rw [← hy242] at H); have Ny242 := aS hy242; clear hy242; replace H := obm H; obtain ⟨t245, A140, H⟩ := H; have A14 := aS A140; clear A140
        by_cases c15 : x7_1.length + t226.length < 140737488355328
        ·
         rw [if_pos c15] at H; have LMc15 := aS c15; clear c15
         obtain ⟨y248, hy248⟩ : ∃ y_ : List Int, y_ = (x7_1 ++ t226) := ⟨_, rfl⟩
         (first | replace H := hyn hy248 H | rw [← hy248] at H); have Ny248 := aS hy248; clear hy248
         have H' := aS H
         clear H; have p225 : 0 ≤ (x18_1 : Int) := oda; have q225 : x18_1 < (l0.length : Int) := oda; obtain ⟨ad225, A225_0, c225_0, e225, hx225_0, hl225_0, hi225_0⟩ := at_L7 HR0.out x18_1 p225 q225; cases e225; have hB_225_0 := aS hx225_0; replace hx225_0 := bx bel hx225_0; have HR225_0 := aS hi225_0; have HC225_0 := aS hl225_0; clear hi225_0 hl225_0; replace p225 := eq_true p225; replace q225 := eq_true q225
         go_wp2_with (first | ((with_reducible refine gate_callee (f := 69) rfl ?_); refine goesL_ (some 24) rfl rfl Try.func69 (by kernel_rfl) rfl #[.slice A225_0 (rd_L7 l0 x18_1).length c225_0] rfl agn ?_; (with_reducible refine (block_Put.calls k1 _ _ (rd_L7 l0 x18_1) t226 t227 _ ?side1 ?side2 A8.out).mono ?_); (case side1 => exact cel (Kd.C_below HR225_0.out HB.out)); (case side2 => exact HC225_0.out); rintro e w16 ⟨v228, rfl, ho0, hb⟩; refine ⟨_, rfl, ?_⟩; have HO229 := aS (Kd.R_lower (Kd.R_new' (Kd.R_new' ho0 (Kd.R_lt (rel HO_7.out))) (Kd.R_lt (rel HO_8.out))) (below_size bel)); replace HO_7 := aS (Kd.R_elder' (rel HO_7.out) (ebs ho0) hb); replace HO_8 := aS (Kd.R_elder' (rel HO_8.out) (ebs ho0) hb); replace HB := bstep hb; (try clear hb); (try clear hk); (try clear hi); (try clear ho0); have p230 : 0 ≤ (0 : Int) := (by omega); have q230 : 0 < ((rd_L7 l0 x18_1).length : Int) := oda; obtain ⟨ad230, e230, hx230_0, hx230_1, hx230_2, hx230_3, hx230_4⟩ := at_T42 HR225_0.out 0 p230 q230; cases e230; have qi230 : (0 < (rd_L7 l0 x18_1).length) = True := eq_true (by omega); (try rw [show ((0 : Int)).toNat = 0 from rfl] at hx230_0); (try rw [show 0 * 5 = 0 from rfl] at hx230_0); (try rw [Addr.add_zero'] at hx230_0); (try rw [show ((0 : Int)).toNat = 0 from rfl] at hx230_1); (try rw [show 0 * 5 = 0 from rfl] at hx230_1); (try rw [Addr.add_zero'] at hx230_1); (try rw [show ((0 : Int)).toNat = 0 from rfl] at hx230_2); (try rw [show 0 * 5 = 0 from rfl] at hx230_2); (try rw [Addr.add_zero'] at hx230_2); (try rw [show ((0 : Int)).toNat = 0 from rfl] at hx230_3); (try rw [show 0 * 5 = 0 from rfl] at hx230_3); (try rw [Addr.add_zero'] at hx230_3); (try rw [show ((0 : Int)).toNat = 0 from rfl] at hx230_4); (try rw [show 0 * 5 = 0 from rfl] at hx230_4); (try rw [Addr.add_zero'] at hx230_4); replace hx230_0 := bx bel hx230_0; replace hx230_1 := bx bel hx230_1; replace hx230_2 := bx bel hx230_2; replace hx230_3 := bx bel hx230_3; replace hx230_4 := bx bel hx230_4; replace p230 := eq_true p230; replace q230 := eq_true q230) | ((with_reducible refine gate_callee (f := 70) rfl ?_); refine goesL_ (some 34) rfl rfl Try.func70 (by kernel_rfl) rfl #[.agg #[.string ((rd_T42 (rd_L7 l0 x18_1) 0).f0), .string ((rd_T42 (rd_L7 l0 x18_1) 0).f1), .int .i64 ((rd_T42 (rd_L7 l0 x18_1) 0).f2), .string ((rd_T42 (rd_L7 l0 x18_1) 0).f3), .bool ((rd_T42 (rd_L7 l0 x18_1) 0).f4)]] rfl agn ?_; (with_reducible refine (table_key.calls ((rd_T42 (rd_L7 l0 x18_1) 0).f0) ((rd_T42 (rd_L7 l0 x18_1) 0).f1) ((rd_T42 (rd_L7 l0 x18_1) 0).f2) ((rd_T42 (rd_L7 l0 x18_1) 0).f3) ((rd_T42 (rd_L7 l0 x18_1) 0).f4) t231 t232 t233 t234 t235 _ A11.out).mono ?_); rintro e w17 ⟨rfl, hb⟩; refine ⟨_, rfl, ?_⟩; replace HO_7 := aS (Kd.R_below (rel HO_7.out) hb); replace HO_8 := aS (Kd.R_below (rel HO_8.out) hb); replace HO229 := aS (Kd.R_below (rel HO229.out) hb); replace HB := bstep hb; (try clear hb); (try clear hk); (try clear hi)) | ((with_reducible refine gate_callee (f := 51) rfl ?_); refine goesL_ (some 35) rfl rfl Try.func51 (by kernel_rfl) rfl #[.agg #[.string t231, .string t232, .int .i64 t233, .string t234, .bool t235]] rfl agn ?_; (with_reducible refine (cell_Put.calls t231 t232 t233 t234 t235 t236 _ A12.out).mono ?_); rintro e w18 ⟨v237, rfl, ho0, hb⟩; refine ⟨_, rfl, ?_⟩; have HO238 := aS (Kd.R_lower (Kd.R_new' (Kd.R_new' (Kd.R_new' ho0 (Kd.R_lt (rel HO_7.out))) (Kd.R_lt (rel HO_8.out))) (Kd.R_lt (rel HO229.out))) (below_size bel)); replace HO_7 := aS (Kd.R_elder' (rel HO_7.out) (ebs ho0) hb); replace HO_8 := aS (Kd.R_elder' (rel HO_8.out) (ebs ho0) hb); replace HO229 := aS (Kd.R_elder' (rel HO229.out) (ebs ho0) hb); replace HB := bstep hb; (try clear hb); (try clear hk); (try clear hi); (try clear ho0); obtain ⟨Ao19, co19, eo19⟩ := Kd.R_slice HO_7.out; subst eo19) | ((with_reducible refine gate_callee (f := 54) rfl ?_); refine goesL_ (some 38) rfl rfl Try.func54 (by kernel_rfl) rfl #[.int .i64 (x7_1.length : Int)] rfl agn ?_; (with_reducible refine (wire_Num.calls (x7_1.length : Int) t239 _ A13.out).mono ?_); rintro e w20 ⟨v240, rfl, ho0, hb⟩; refine ⟨_, rfl, ?_⟩; have HO241 := aS (Kd.R_lower (Kd.R_new' (Kd.R_new' (Kd.R_new' (Kd.R_new' ho0 (Kd.R_lt (rel HO_7.out))) (Kd.R_lt (rel HO_8.out))) (Kd.R_lt (rel HO229.out))) (Kd.R_lt (rel HO238.out))) (below_size bel)); replace HO_7 := aS (Kd.R_elder' (rel HO_7.out) (ebs ho0) hb); replace HO_8 := aS (Kd.R_elder' (rel HO_8.out) (ebs ho0) hb); replace HO229 := aS (Kd.R_elder' (rel HO229.out) (ebs ho0) hb); replace HO238 := aS (Kd.R_elder' (rel HO238.out) (ebs ho0) hb); replace HB := bstep hb; (try clear hb); (try clear hk); (try clear hi); (try clear ho0); obtain ⟨Ao21, co21, eo21⟩ := Kd.R_slice HO_8.out; subst eo21; obtain ⟨Ao22, co22, eo22⟩ := Kd.R_slice HO238.out; subst eo22; obtain ⟨Ao23, co23, eo23⟩ := Kd.R_slice HO241.out; subst eo23) | ((with_reducible refine gate_dst (N := 39) rfl ?_); refine Kd.N_lit (Kd.slice 5 (Kd.int .u8)) _ 26 ?hg (N' := 39) ?hd (xs := ([x8_1, t236, t239] : List (List Int))) (inner := [.slice Ao21 x8_1.length co21, .slice Ao22 t236.length co22, .slice Ao23 t239.length co23]) (ok := (fun k_ => some k_ ≠ (.slice Ao19 x7_1.length co19 : Value).ownBlock ∧ some k_ ≠ (v228 : Value).ownBlock)) (okp := (fun k_ => some k_ ≠ (.slice Ao19 x7_1.length co19 : Value).ownBlock ∧ some k_ ≠ (v228 : Value).ownBlock)) ?hr ?hp (fun _ hk => hk) ((show ∀ k_, w20.heap.size ≤ k_ → (fun k_ => some k_ ≠ (.slice Ao19 x7_1.length co19 : Value).ownBlock ∧ some k_ ≠ (v228 : Value).ownBlock) k_ from fun k_ hk => ⟨Kd.fresh' (Kd.R_lt (rel HO_7.out)) k_ hk, Kd.fresh' (Kd.R_lt (rel HO229.out)) k_ hk⟩) _ (Nat.le_refl _)) (Below.refl _ _) (Nat.le_refl _) (by simp) ?_; (case hd => rfl); (case hg => rfl); (case hr => first | (go_simp; done) | (go_simp; rfl)); (case hp => exact (Reps.one (show Kd.FK (Kd.slice 5 (Kd.int .u8)) _ _ x8_1 [.slice Ao21 x8_1.length co21] from (Kd.FK_slice_mk (Kd.R_reads' (Kd.R_mono (ok' := (fun k_ => some k_ ≠ (.slice Ao19 x7_1.length co19 : Value).ownBlock ∧ some k_ ≠ (v228 : Value).ownBlock)) (HO_8.out) (fun k_ hk => ⟨hk.1.1.1, hk.1.1.2⟩))).2.1 (Kd.R_F (Kd.R_mono (ok' := (fun k_ => some k_ ≠ (.slice Ao19 x7_1.length co19 : Value).ownBlock ∧ some k_ ≠ (v228 : Value).ownBlock)) (HO_8.out) (fun k_ hk => ⟨hk.1.1.1, hk.1.1.2⟩))))) (Reps.one (show Kd.FK (Kd.slice 5 (Kd.int .u8)) _ _ t236 [.slice Ao22 t236.length co22] from (Kd.FK_slice_mk (Kd.R_reads' (Kd.R_mono (ok' := (fun k_ => some k_ ≠ (.slice Ao19 x7_1.length co19 : Value).ownBlock ∧ some k_ ≠ (v228 : Value).ownBlock)) (HO238.out) (fun k_ hk => ⟨hk.1.1.1.2, hk.1.2⟩))).2.1 (Kd.R_F (Kd.R_mono (ok' := (fun k_ => some k_ ≠ (.slice Ao19 x7_1.length co19 : Value).ownBlock ∧ some k_ ≠ (v228 : Value).ownBlock)) (HO238.out) (fun k_ hk => ⟨hk.1.1.1.2, hk.1.2⟩))))) (Reps.one (show Kd.FK (Kd.slice 5 (Kd.int .u8)) _ _ t239 [.slice Ao23 t239.length co23] from (Kd.FK_slice_mk (Kd.R_reads' (Kd.R_mono (ok' := (fun k_ => some k_ ≠ (.slice Ao19 x7_1.length co19 : Value).ownBlock ∧ some k_ ≠ (v228 : Value).ownBlock)) (HO241.out) (fun k_ hk => ⟨hk.1.1.1.2, hk.1.2⟩))).2.1 (Kd.R_F (Kd.R_mono (ok' := (fun k_ => some k_ ≠ (.slice Ao19 x7_1.length co19 : Value).ownBlock ∧ some k_ ≠ (v228 : Value).ownBlock)) (HO241.out) (fun k_ hk => ⟨hk.1.1.1.2, hk.1.2⟩))))) (Reps.none _ _))))); intro v243 w24 ho25 hb hg_ hnew_; clear hg_ hnew_; (first | rw [← Ny242.out] at ho25 | (simp only [Int.reduceToNat] at ho25; rw [← Ny242.out] at ho25)); have n0_ := aS (Kd.R_below (rel HO_7.out) hb); have n1_ := aS (Kd.R_below (rel HO229.out) hb); have n2_ := aS (Kd.N_lower ho25 (below_size bel)); have n3_ := bstep hb; clear HO_7; clear HO229; clear HB; clear HO238; clear HO241; clear HO_8; have HO_7 := n0_; have HO229 := n1_; have HO244 := n2_; have HB := n3_; clear n0_ n1_ n2_ n3_; clear hb ho25; obtain ⟨Ao26, co26, eo26⟩ := Kd.N_slice HO244.out; subst eo26) | ((with_reducible refine gate_callee (f := 53) rfl ?_); refine goesL_ (some 40) rfl rfl Try.func53 (by kernel_rfl) rfl #[.slice Ao26 y242.length co26] rfl agn ?_; (with_reducible refine (slices_Concat_byte_byte.calls _ _ y242 t245 _ ?side1 ?side2 A14.out).mono ?_); (case side1 => exact cel ((Kd.N_reads' HO244.out).2.2)); (case side2 => exact (Kd.N_reads' HO244.out).2.1); rintro e w27 ⟨v246, rfl, ho0, hb⟩; refine ⟨_, rfl, ?_⟩; replace HO244 := aS (Kd.N_elder' (by (with_reducible repeat (first | apply Kd.N_alloc | apply Kd.N_drewN | apply Kd.N_drew)); exact HO244.out) (ebs ho0) hb); have HO247 := aS (Kd.R_lower (Kd.R_new' (Kd.R_new' ho0 (Kd.R_lt (rel HO_7.out))) (Kd.R_lt (rel HO229.out))) (below_size bel)); replace HO_7 := aS (Kd.R_elder' (rel HO_7.out) (ebs ho0) hb); replace HO229 := aS (Kd.R_elder' (rel HO229.out) (ebs ho0) hb); replace HB := bstep hb; (try clear hb); (try clear hk); (try clear hi); (try clear ho0); obtain ⟨Ao29, co29, eo29⟩ := Kd.R_slice HO229.out; subst eo29) | ((with_reducible refine gate_builtin (b := .append) (xs := #[.tmp 41, .tmp 42]) rfl ?_); at_builtin; refine Kd.R_append_rows (Kd.int .u8) (w0 := w) w.heap.size rfl (.tmp 41) (.tmp 42) 26 5 (.int .u8 0) 1 rfl Try.underlying26 info5 rfl (by decide) (by omega) (.slice Ao19 x7_1.length co19) x7_1 t226 _ _ _ (fun k_ => some k_ ≠ (.slice Ao29 t226.length co29 : Value).ownBlock ∧ some k_ ≠ (v246 : Value).ownBlock) (fun _ => False) rfl rfl ?aO ?aR (fun _ _ h => h) (fun _ h => h.elim) ?aF ?aB ?aS ?aL ?_; (case aR => exact cel ((Kd.R_reads' HO229.out).2.2)); (case aB => exact bel); (case aF => exact (fun k_ hk => ⟨Kd.fresh' (Kd.R_lt (rel HO229.out)) k_ hk, Kd.fresh' (Kd.R_lt (rel HO247.out)) k_ hk⟩)); (case aO => exact (by (with_reducible repeat (first | apply Kd.R_alloc | apply Kd.R_drewN | apply Kd.R_drew)); exact Kd.R_mono HO_7.out (fun _ hk => ⟨hk.1.1.1.2, hk.2⟩))); (case aS => exact (below_size bel)); (case aL => have := LMc15.out; omega); intro v249 w28 ho hb hg hat; rw [← Ny248.out] at ho; have n0_ := aS (Kd.R_after (ok := (fun k_ => some k_ ≠ (v246 : Value).ownBlock)) (by (with_reducible repeat (first | apply Kd.R_alloc | apply Kd.R_drewN | apply Kd.R_drew)); exact Kd.R_mono HO229.out (fun _ hk => ⟨hk.2, hk.1.1.1.1.2⟩)) hg hat); have n1_ := aS (Kd.N_afterv (ok := (fun k_ => some k_ ≠ (.slice Ao29 t226.length co29 : Value).ownBlock ∧ some k_ ≠ (v246 : Value).ownBlock)) (by (with_reducible repeat (first | apply Kd.N_alloc | apply Kd.N_drewN | apply Kd.N_drew)); exact Kd.N_mono HO244.out (fun _ hk => ⟨⟨hk.1.2, hk.2⟩, hk.1.1⟩)) hg hat); have n2_ := aS (Kd.R_after (ok := (fun k_ => some k_ ≠ (.slice Ao29 t226.length co29 : Value).ownBlock)) (by (with_reducible repeat (first | apply Kd.R_alloc | apply Kd.R_drewN | apply Kd.R_drew)); exact Kd.R_mono HO247.out (fun _ hk => ⟨hk.2, hk.1.2⟩)) hg hat); have n3_ := aS (hb); have n4_ := aS (ho); clear HO229; clear HO244; clear HO247; clear HB; clear HO_7; have HO229 := n0_; have HO244 := n1_; have HO247 := n2_; have HB := n3_; have HO250 := n4_; clear n0_ n1_ n2_ n3_ n4_; clear ho hb hg hat))
         go_roundg k1
         case measure => have := HK1.out; omega
         case rel => exact ⟨(y248), (t245), (wrap64 (x18_1 + 1)), srf, H', ⟨by have := HK1.out; omega⟩, ⟨by (with_reducible repeat (first | apply Kd.R_alloc | apply Kd.R_drewN | apply Kd.R_drew)); exact Kd.R_mono HO250.out (fun _ hk => hk.2)⟩, ⟨by (with_reducible repeat (first | apply Kd.R_alloc | apply Kd.R_drewN | apply Kd.R_drew)); exact Kd.R_mono HO247.out (fun _ hk => hk.2)⟩, ⟨bel⟩⟩
        ·
         rw [if_neg c15] at H; exact absurd H (by simp)
       ·
        rw [if_neg c10] at H; exact absurd H (by simp)
      ·
       rw [if_neg c9] at H; obtain ⟨c9b0, c9b1⟩ := eqF c9
       simp only [Option.some.injEq, Prod.mk.injEq] at H
       obtain ⟨rfl, rfl, rfl⟩ := H; have p225 : 0 ≤ (x18_1 : Int) := oda; have q225 : x18_1 < (l0.length : Int) := oda; obtain ⟨ad225, A225_0, c225_0, e225, hx225_0, hl225_0, hi225_0⟩ := at_L7 HR0.out x18_1 p225 q225; cases e225; have hB_225_0 := aS hx225_0; replace hx225_0 := bx bel hx225_0; have HR225_0 := aS hi225_0; have HC225_0 := aS hl225_0; clear hi225_0 hl225_0; replace p225 := eq_true p225; replace q225 := eq_true q225
       go_wp2_with (first | ((with_reducible refine gate_callee (f := 69) rfl ?_); refine goesL_ (some 24) rfl rfl Try.func69 (by kernel_rfl) rfl #[.slice A225_0 (rd_L7 l0 x18_1).length c225_0] rfl agn ?_; (with_reducible refine (block_Put.calls k1 _ _ (rd_L7 l0 x18_1) t226 t227 _ ?side1 ?side2 A8.out).mono ?_); (case side1 => exact cel (Kd.C_below HR225_0.out HB.out)); (case side2 => exact HC225_0.out); rintro e w30 ⟨v228, rfl, ho0, hb⟩; refine ⟨_, rfl, ?_⟩; have HO229 := aS (Kd.R_lower (Kd.R_new' (Kd.R_new' ho0 (Kd.R_lt (rel HO_7.out))) (Kd.R_lt (rel HO_8.out))) (below_size bel)); replace HO_7 := aS (Kd.R_elder' (rel HO_7.out) (ebs ho0) hb); replace HO_8 := aS (Kd.R_elder' (rel HO_8.out) (ebs ho0) hb); replace HB := bstep hb; (try clear hb); (try clear hk); (try clear hi); (try clear ho0)))
       go_ret3
       exact ⟨_, _, rf3, by first | exact Kd.R_nil _ _ _ _ _ | exact Kd.N_nil _ _ _ _ _ | exact Kd.V_nil _ _ _ _ _ | exact Kd.Q_nil _ _ _ _ _ | exact Kd.S_nil _ _ _ _ _, by first | exact Kd.R_nil _ _ _ _ _ | exact Kd.N_nil _ _ _ _ _ | exact Kd.V_nil _ _ _ _ _ | exact Kd.Q_nil _ _ _ _ _ | exact Kd.S_nil _ _ _ _ _, bel⟩
     ·
      rw [if_neg c7] at H; exact absurd H (by simp)
    ·
     rw [if_neg c6] at H; exact absurd H (by simp)
   ·
    rw [if_neg c5] at H; have c5b0 : decide (x18_1 < (l0.length : Int)) = false := decide_eq_false c5; clear c5; replace H := obm H; obtain ⟨t251, A310, H⟩ := H; have A31 := aS A310; clear A310
    by_cases c32 : x8_1.length + t251.length < 140737488355328
    ·
     rw [if_pos c32] at H; have LMc32 := aS c32; clear c32
     obtain ⟨y254, hy254⟩ : ∃ y_ : List Int, y_ = (x8_1 ++ t251) := ⟨_, rfl⟩
     (first | replace H := hyn hy254 H | rw [← hy254] at H); have Ny254 := aS hy254; clear hy254; replace H := obm H; obtain ⟨t257, A330, H⟩ := H; have A33 := aS A330; clear A330
     by_cases c34 : (t257.length : Int) = 0
     ·
      rw [if_pos c34] at H; obtain ⟨c34b0, c34b1⟩ := eqT c34; clear c34
      simp only [Option.some.injEq, Prod.mk.injEq] at H
      obtain ⟨rfl, rfl, rfl⟩ := H; have hcv35 := Kd.C_string (P := Try.prog) (A := A1) (c := c1) Try.underlying26 Try.underlying5 Try.underlying9 (Kd.C_below HR1.out HB.out)
      have hcv36 := fun (m_ : Nat) => Kd.C_string (P := Try.prog) (A := A1) (c := c1) Try.underlying26 Try.underlying5 Try.underlying9 (Kd.C_drewN ((Kd.C_below HR1.out HB.out)) m_)
      go_wp2_with (first | ((with_reducible refine gate_callee (f := 67) rfl ?_); refine goesL_ (some 48) rfl rfl Try.func67 (by kernel_rfl) rfl #[.string (strOfNums l1)] rfl agn ?_; (with_reducible refine (wire_Text.calls (strOfNums l1) t251 _ A31.out).mono ?_); rintro e w37 ⟨v252, rfl, ho0, hb⟩; refine ⟨_, rfl, ?_⟩; have HO253 := aS (Kd.R_lower (Kd.R_new' (Kd.R_new' ho0 (Kd.R_lt (rel HO_7.out))) (Kd.R_lt (rel HO_8.out))) (below_size bel)); replace HO_7 := aS (Kd.R_elder' (rel HO_7.out) (ebs ho0) hb); replace HO_8 := aS (Kd.R_elder' (rel HO_8.out) (ebs ho0) hb); replace HB := bstep hb; (try clear hb); (try clear hk); (try clear hi); (try clear ho0); obtain ⟨Ao39, co39, eo39⟩ := Kd.R_slice HO253.out; subst eo39) | ((with_reducible refine gate_builtin (b := .append) (xs := #[.tmp 45, .tmp 48]) rfl ?_); at_builtin; refine Kd.R_append_rows (Kd.int .u8) (w0 := w) w.heap.size rfl (.tmp 45) (.tmp 48) 26 5 (.int .u8 0) 1 rfl Try.underlying26 info5 rfl (by decide) (by omega) u8 x8_1 t251 _ _ _ (fun k_ => some k_ ≠ (u7 : Value).ownBlock ∧ some k_ ≠ (.slice Ao39 t251.length co39 : Value).ownBlock) (fun _ => False) rfl rfl ?aO ?aR (fun _ _ h => h) (fun _ h => h.elim) ?aF ?aB ?aS ?aL ?_; (case aR => exact cel ((Kd.R_reads' HO253.out).2.2)); (case aB => exact bel); (case aF => exact (fun k_ hk => ⟨Kd.fresh' (Kd.R_lt (rel HO_7.out)) k_ hk, Kd.fresh' (Kd.R_lt (rel HO253.out)) k_ hk⟩)); (case aO => exact (rel HO_8.out)); (case aS => exact (below_size bel)); (case aL => have := LMc32.out; omega); intro v255 w38 ho hb hg hat; rw [← Ny254.out] at ho; have n0_ := aS (Kd.R_after (ok := (fun k_ => some k_ ≠ (.slice Ao39 t251.length co39 : Value).ownBlock)) (by (with_reducible repeat (first | apply Kd.R_alloc | apply Kd.R_drewN | apply Kd.R_drew)); exact Kd.R_mono HO_7.out (fun _ hk => ⟨hk.2, hk.1⟩)) hg hat); have n1_ := aS (Kd.R_after (ok := (fun k_ => some k_ ≠ (u7 : Value).ownBlock)) (by (with_reducible repeat (first | apply Kd.R_alloc | apply Kd.R_drewN | apply Kd.R_drew)); exact Kd.R_mono HO253.out (fun _ hk => ⟨hk.1.2, hk.2⟩)) hg hat); have n2_ := aS (hb); have n3_ := aS (ho); clear HO_7; clear HO253; clear HB; clear HO_8; have HO_7 := n0_; have HO253 := n1_; have HB := n2_; have HO256 := n3_; clear n0_ n1_ n2_ n3_; clear ho hb hg hat; obtain ⟨Ao40, co40, eo40⟩ := Kd.R_slice HO256.out; subst eo40) | ((with_reducible refine gate_callee (f := 71) rfl ?_); refine goesL_ (some 50) rfl rfl Try.func71 (by kernel_rfl) rfl #[.slice Ao40 y254.length co40] rfl agn ?_; (with_reducible refine (frame_Put.calls k1 (fun k_ => some k_ = (.slice Ao40 y254.length co40 : Value).ownBlock) _ _ y254 t257 _ ?side1 A33.out).mono ?_); (case side1 => exact Kd.R_V (Kd.R_tight rfl (HO256.out))); rintro e w41 ⟨v258, rfl, ho0, hb⟩; refine ⟨_, rfl, ?_⟩; have HO259 := aS (Kd.R_lower (Kd.R_new' (Kd.R_new' (Kd.R_new' (Kd.R_mono (ok' := fun k_ => True) ho0 (fun _ hk_ => trivial)) (Kd.R_lt (rel HO_7.out))) (Kd.R_lt (rel HO253.out))) (Kd.R_lt (rel HO256.out))) (below_size bel)); replace HO_7 := aS (Kd.R_elder' (rel HO_7.out) (ebs ho0) hb); replace HO253 := aS (Kd.R_elder' (rel HO253.out) (ebs ho0) hb); replace HO256 := aS (Kd.R_elder' (rel HO256.out) (ebs ho0) hb); replace HB := bstep hb; (try clear hb); (try clear hk); (try clear hi); (try clear ho0); obtain ⟨Ao42, co42, eo42⟩ := Kd.R_slice HO259.out; subst eo42))
      go_ret3
      exact ⟨_, _, rf3, by first | exact Kd.R_nil _ _ _ _ _ | exact Kd.N_nil _ _ _ _ _ | exact Kd.V_nil _ _ _ _ _ | exact Kd.Q_nil _ _ _ _ _ | exact Kd.S_nil _ _ _ _ _, by first | exact Kd.R_nil _ _ _ _ _ | exact Kd.N_nil _ _ _ _ _ | exact Kd.V_nil _ _ _ _ _ | exact Kd.Q_nil _ _ _ _ _ | exact Kd.S_nil _ _ _ _ _, bel⟩
     ·
      rw [if_neg c34] at H; obtain ⟨c34b0, c34b1⟩ := eqF c34
      have c34b2 : ¬ (t257 = []) := fun h_ => c34 (by rw [h_]; rfl)
      simp only [Option.some.injEq, Prod.mk.injEq] at H
      obtain ⟨rfl, rfl, rfl⟩ := H; have hcv43 := Kd.C_string (P := Try.prog) (A := A1) (c := c1) Try.underlying26 Try.underlying5 Try.underlying9 (Kd.C_below HR1.out HB.out)
      have hcv44 := fun (m_ : Nat) => Kd.C_string (P := Try.prog) (A := A1) (c := c1) Try.underlying26 Try.underlying5 Try.underlying9 (Kd.C_drewN ((Kd.C_below HR1.out HB.out)) m_)
      go_wp2_with (first | ((with_reducible refine gate_callee (f := 67) rfl ?_); refine goesL_ (some 48) rfl rfl Try.func67 (by kernel_rfl) rfl #[.string (strOfNums l1)] rfl agn ?_; (with_reducible refine (wire_Text.calls (strOfNums l1) t251 _ A31.out).mono ?_); rintro e w45 ⟨v252, rfl, ho0, hb⟩; refine ⟨_, rfl, ?_⟩; have HO253 := aS (Kd.R_lower (Kd.R_new' (Kd.R_new' ho0 (Kd.R_lt (rel HO_7.out))) (Kd.R_lt (rel HO_8.out))) (below_size bel)); replace HO_7 := aS (Kd.R_elder' (rel HO_7.out) (ebs ho0) hb); replace HO_8 := aS (Kd.R_elder' (rel HO_8.out) (ebs ho0) hb); replace HB := bstep hb; (try clear hb); (try clear hk); (try clear hi); (try clear ho0); obtain ⟨Ao47, co47, eo47⟩ := Kd.R_slice HO253.out; subst eo47) | ((with_reducible refine gate_builtin (b := .append) (xs := #[.tmp 45, .tmp 48]) rfl ?_); at_builtin; refine Kd.R_append_rows (Kd.int .u8) (w0 := w) w.heap.size rfl (.tmp 45) (.tmp 48) 26 5 (.int .u8 0) 1 rfl Try.underlying26 info5 rfl (by decide) (by omega) u8 x8_1 t251 _ _ _ (fun k_ => some k_ ≠ (u7 : Value).ownBlock ∧ some k_ ≠ (.slice Ao47 t251.length co47 : Value).ownBlock) (fun _ => False) rfl rfl ?aO ?aR (fun _ _ h => h) (fun _ h => h.elim) ?aF ?aB ?aS ?aL ?_; (case aR => exact cel ((Kd.R_reads' HO253.out).2.2)); (case aB => exact bel); (case aF => exact (fun k_ hk => ⟨Kd.fresh' (Kd.R_lt (rel HO_7.out)) k_ hk, Kd.fresh' (Kd.R_lt (rel HO253.out)) k_ hk⟩)); (case aO => exact (rel HO_8.out)); (case aS => exact (below_size bel)); (case aL => have := LMc32.out; omega); intro v255 w46 ho hb hg hat; rw [← Ny254.out] at ho; have n0_ := aS (Kd.R_after (ok := (fun k_ => some k_ ≠ (.slice Ao47 t251.length co47 : Value).ownBlock)) (by (with_reducible repeat (first | apply Kd.R_alloc | apply Kd.R_drewN | apply Kd.R_drew)); exact Kd.R_mono HO_7.out (fun _ hk => ⟨hk.2, hk.1⟩)) hg hat); have n1_ := aS (Kd.R_after (ok := (fun k_ => some k_ ≠ (u7 : Value).ownBlock)) (by (with_reducible repeat (first | apply Kd.R_alloc | apply Kd.R_drewN | apply Kd.R_drew)); exact Kd.R_mono HO253.out (fun _ hk => ⟨hk.1.2, hk.2⟩)) hg hat); have n2_ := aS (hb); have n3_ := aS (ho); clear HO_7; clear HO253; clear HB; clear HO_8; have HO_7 := n0_; have HO253 := n1_; have HB := n2_; have HO256 := n3_; clear n0_ n1_ n2_ n3_; clear ho hb hg hat; obtain ⟨Ao48, co48, eo48⟩ := Kd.R_slice HO256.out; subst eo48) | ((with_reducible refine gate_callee (f := 71) rfl ?_); refine goesL_ (some 50) rfl rfl Try.func71 (by kernel_rfl) rfl #[.slice Ao48 y254.length co48] rfl agn ?_; (with_reducible refine (frame_Put.calls k1 (fun k_ => some k_ = (.slice Ao48 y254.length co48 : Value).ownBlock) _ _ y254 t257 _ ?side1 A33.out).mono ?_); (case side1 => exact Kd.R_V (Kd.R_tight rfl (HO256.out))); rintro e w49 ⟨v258, rfl, ho0, hb⟩; refine ⟨_, rfl, ?_⟩; have HO259 := aS (Kd.R_lower (Kd.R_new' (Kd.R_new' (Kd.R_new' (Kd.R_mono (ok' := fun k_ => True) ho0 (fun _ hk_ => trivial)) (Kd.R_lt (rel HO_7.out))) (Kd.R_lt (rel HO253.out))) (Kd.R_lt (rel HO256.out))) (below_size bel)); replace HO_7 := aS (Kd.R_elder' (rel HO_7.out) (ebs ho0) hb); replace HO253 := aS (Kd.R_elder' (rel HO253.out) (ebs ho0) hb); replace HO256 := aS (Kd.R_elder' (rel HO256.out) (ebs ho0) hb); replace HB := bstep hb; (try clear hb); (try clear hk); (try clear hi); (try clear ho0); obtain ⟨Ao50, co50, eo50⟩ := Kd.R_slice HO259.out; subst eo50))
      go_ret3
      exact ⟨_, _, rf3, by (with_reducible repeat (first | apply Kd.R_alloc | apply Kd.R_drewN | apply Kd.R_drew)); exact Kd.R_mono HO_7.out (fun _ hk => hk.2), by (with_reducible repeat (first | apply Kd.R_alloc | apply Kd.R_drewN | apply Kd.R_drew)); exact Kd.R_mono HO259.out (fun _ hk => hk.1.1.2), bel⟩
    ·
     rw [if_neg c32] at H; exact absurd H (by simp)

/-! ### table_bytes: function 30 -/
def table_bytes.f (k : Nat) (l0 : List (List (S42))) (l1 : List Int) : Option (List Int × Int) := (table_built.f k l0 l1).bind fun bt260 => (if bt260.2.2 = 0 then ((wire_Num.f (bt260.2.1.length : Int)).bind fun t267 => ((slices_Concat_byte_byte.f (([bt260.1, bt260.2.1, t267] : List (List Int)))).bind fun t273 => (some (t273, 0)))) else (some (([] : List Int), bt260.2.2)))
theorem table_bytes.mono : ∀ a0 a1 k, LeO (table_bytes.f k a0 a1) (table_bytes.f (k + 1) a0 a1) := by
 intro a0 a1 k
 unfold table_bytes.f
 have m0 := @table_built.mono; exact lmo
set_option maxHeartbeats 8000000 in
set_option maxRecDepth 100000 in
theorem table_bytes.calls (k : Nat) (A0 : Option Addr) (c0 : Nat) (l0 : List (List (S42))) (A1 : Option Addr) (c1 : Nat) (l1 : List Int) (r1 : List Int) (r2 : Int) (w : World) (hr0 : Kd.C (Kd.slice 42 k42) w A0 l0.length l0) (hc0 : l0.length ≤ c0) (hr1 : Kd.C (Kd.int .u8) w A1 l1.length l1) (hc1 : l1.length ≤ c1) (h : table_bytes.f k l0 l1 = some (r1, r2)) :
  Calls Try.prog 30 #[.slice A0 l0.length c0, .slice A1 l1.length c1] w fun e w' => ∃ v0_ : Value, e = .returned (.tuple #[v0_, .int .i64 r2]) ∧ Kd.R (Kd.int .u8) 5 w' w.heap.size (fun _ => True) v0_ r1 ∧ Below w.heap.size w w' := by
 have HR0 := aS hr0; have HC0 := aS hc0; clear hr0 hc0; have HR1 := aS hr1; have HC1 := aS hc1; clear hr1 hc1; have HB := aS (Below.refl w.heap.size w); have H : ((table_built.f k l0 l1).bind fun bt260 => (if bt260.2.2 = 0 then ((wire_Num.f (bt260.2.1.length : Int)).bind fun t267 => ((slices_Concat_byte_byte.f (([bt260.1, bt260.2.1, t267] : List (List Int)))).bind fun t273 => (some (t273, 0)))) else (some (([] : List Int), bt260.2.2)))) = some (r1, r2) := h; clear h; replace H := obm H; obtain ⟨⟨t260, t261, t262⟩, A30, H⟩ := H; (try dsimp only at H); have A3 := aS A30; clear A30
 by_cases c4 : t262 = 0
 ·
  rw [if_pos c4] at H; obtain ⟨c4b0, c4b1⟩ := eqT c4; clear c4; replace H := obm H; obtain ⟨t267, A50, H⟩ := H; have A5 := aS A50; clear A50
  obtain ⟨y270, hy270⟩ : ∃ y_ : List (List Int), y_ = (([t260, t261, t267] : List (List Int))) := ⟨_, rfl⟩
  (first | replace H := hyn hy270 H | rw [← hy270] at H); have Ny270 := aS hy270; clear hy270; replace H := obm H; obtain ⟨t273, A60, H⟩ := H; have A6 := aS A60; clear A60
  simp only [Option.some.injEq, Prod.mk.injEq] at H
  obtain ⟨rfl, rfl⟩ := H
  go_enter Try.func30, Try.ntmps30
  go_wp2_with (first | ((with_reducible refine gate_callee (f := 52) rfl ?_); refine goesL_ (some 12) rfl rfl Try.func52 (by kernel_rfl) rfl #[.slice A0 l0.length c0, .slice A1 l1.length c1] rfl agn ?_; (with_reducible refine (table_built.calls k _ _ l0 _ _ l1 t260 t261 t262 _ ?side1 ?side2 ?side3 ?side4 A3.out).mono ?_); (case side1 => exact cel HR0.out); (case side2 => exact HC0.out); (case side3 => exact cel HR1.out); (case side4 => exact HC1.out); rintro e w7 ⟨v263, v265, rfl, ho0, ho1, hb⟩; refine ⟨_, rfl, ?_⟩; have HO264 := aS (Kd.R_lower ho0 (below_size bel)); have HO266 := aS (Kd.R_lower ho1 (below_size bel)); replace HB := bstep hb; (try clear hb); (try clear hk); (try clear hi); (try clear ho0); (try clear ho1); obtain ⟨Ao8, co8, eo8⟩ := Kd.R_slice HO266.out; subst eo8) | ((with_reducible refine gate_callee (f := 54) rfl ?_); refine goesL_ (some 23) rfl rfl Try.func54 (by kernel_rfl) rfl #[.int .i64 (t261.length : Int)] rfl agn ?_; (with_reducible refine (wire_Num.calls (t261.length : Int) t267 _ A5.out).mono ?_); rintro e w9 ⟨v268, rfl, ho0, hb⟩; refine ⟨_, rfl, ?_⟩; have HO269 := aS (Kd.R_lower (Kd.R_new' (Kd.R_new' ho0 (Kd.R_lt (rel HO264.out))) (Kd.R_lt (rel HO266.out))) (below_size bel)); replace HO264 := aS (Kd.R_elder' (rel HO264.out) (ebs ho0) hb); replace HO266 := aS (Kd.R_elder' (rel HO266.out) (ebs ho0) hb); replace HB := bstep hb; (try clear hb); (try clear hk); (try clear hi); (try clear ho0); obtain ⟨Ao10, co10, eo10⟩ := Kd.R_slice HO264.out; subst eo10; obtain ⟨Ao11, co11, eo11⟩ := Kd.R_slice HO269.out; subst eo11) | ((with_reducible refine gate_dst (N := 24) rfl ?_); refine Kd.N_lit (Kd.slice 5 (Kd.int .u8)) _ 26 ?hg (N' := 24) ?hd (xs := ([t260, t261, t267] : List (List Int))) (inner := [.slice Ao10 t260.length co10, .slice Ao8 t261.length co8, .slice Ao11 t267.length co11]) (ok := (fun _ => True)) (okp := (fun _ => True)) ?hr ?hp (fun _ hk => hk) ((show ∀ k_, w9.heap.size ≤ k_ → (fun _ => True) k_ from fun k_ hk => trivial) _ (Nat.le_refl _)) (Below.refl _ _) (Nat.le_refl _) (by simp) ?_; (case hd => rfl); (case hg => rfl); (case hr => first | (go_simp; done) | (go_simp; rfl)); (case hp => exact (Reps.one (show Kd.FK (Kd.slice 5 (Kd.int .u8)) _ _ t260 [.slice Ao10 t260.length co10] from (Kd.FK_slice_mk (Kd.R_reads' (Kd.R_mono (ok' := (fun _ => True)) (HO264.out) (fun k_ hk => trivial))).2.1 (Kd.R_F (Kd.R_mono (ok' := (fun _ => True)) (HO264.out) (fun k_ hk => trivial))))) (Reps.one (show Kd.FK (Kd.slice 5 (Kd.int .u8)) _ _ t261 [.slice Ao8 t261.length co8] from (Kd.FK_slice_mk (Kd.R_reads' (Kd.R_mono (ok' := (fun _ => True)) (HO266.out) (fun k_ hk => trivial))).2.1 (Kd.R_F (Kd.R_mono (ok' := (fun _ => True)) (HO266.out) (fun k_ hk => trivial))))) (Reps.one (show Kd.FK (Kd.slice 5 (Kd.int .u8)) _ _ t267 [.slice Ao11 t267.length co11] from (Kd.FK_slice_mk (Kd.R_reads' (Kd.R_mono (ok' := (fun _ => True)) (HO269.out) (fun k_ hk => trivial))).2.1 (Kd.R_F (Kd.R_mono (ok' := (fun _ => True)) (HO269.out) (fun k_ hk => trivial))))) (Reps.none _ _))))); intro v271 w12 ho13 hb hg_ hnew_; clear hg_ hnew_; (first | rw [← Ny270.out] at ho13 | (simp only [Int.reduceToNat] at ho13; rw [← Ny270.out] at ho13)); have n0_ := aS (Kd.N_lower ho13 (below_size bel)); have n1_ := bstep hb; clear HB; clear HO264; clear HO266; clear HO269; have HO272 := n0_; have HB := n1_; clear n0_ n1_; clear hb ho13; obtain ⟨Ao14, co14, eo14⟩ := Kd.N_slice HO272.out; subst eo14) | ((with_reducible refine gate_callee (f := 53) rfl ?_); refine goesL_ (some 25) rfl rfl Try.func53 (by kernel_rfl) rfl #[.slice Ao14 y270.length co14] rfl agn ?_; (with_reducible refine (slices_Concat_byte_byte.calls _ _ y270 t273 _ ?side1 ?side2 A6.out).mono ?_); (case side1 => exact cel ((Kd.N_reads' HO272.out).2.2)); (case side2 => exact (Kd.N_reads' HO272.out).2.1); rintro e w15 ⟨v274, rfl, ho0, hb⟩; refine ⟨_, rfl, ?_⟩; replace HO272 := aS (Kd.N_elder' (by (with_reducible repeat (first | apply Kd.N_alloc | apply Kd.N_drewN | apply Kd.N_drew)); exact HO272.out) (ebs ho0) hb); have HO275 := aS (Kd.R_lower ho0 (below_size bel)); replace HB := bstep hb; (try clear hb); (try clear hk); (try clear hi); (try clear ho0)))
  go_ret2
  exact ⟨_, rf3, by (with_reducible repeat (first | apply Kd.R_alloc | apply Kd.R_drewN | apply Kd.R_drew)); exact HO275.out, bel⟩
 ·
  rw [if_neg c4] at H; obtain ⟨c4b0, c4b1⟩ := eqF c4
  simp only [Option.some.injEq, Prod.mk.injEq] at H
  obtain ⟨rfl, rfl⟩ := H
  go_enter Try.func30, Try.ntmps30
  go_wp2_with (first | ((with_reducible refine gate_callee (f := 52) rfl ?_); refine goesL_ (some 12) rfl rfl Try.func52 (by kernel_rfl) rfl #[.slice A0 l0.length c0, .slice A1 l1.length c1] rfl agn ?_; (with_reducible refine (table_built.calls k _ _ l0 _ _ l1 t260 t261 t262 _ ?side1 ?side2 ?side3 ?side4 A3.out).mono ?_); (case side1 => exact cel HR0.out); (case side2 => exact HC0.out); (case side3 => exact cel HR1.out); (case side4 => exact HC1.out); rintro e w16 ⟨v263, v265, rfl, ho0, ho1, hb⟩; refine ⟨_, rfl, ?_⟩; have HO264 := aS (Kd.R_lower ho0 (below_size bel)); have HO266 := aS (Kd.R_lower ho1 (below_size bel)); replace HB := bstep hb; (try clear hb); (try clear hk); (try clear hi); (try clear ho0); (try clear ho1)))
  go_ret2
  exact ⟨_, rf3, by first | exact Kd.R_nil _ _ _ _ _ | exact Kd.N_nil _ _ _ _ _ | exact Kd.V_nil _ _ _ _ _ | exact Kd.Q_nil _ _ _ _ _ | exact Kd.S_nil _ _ _ _ _, bel⟩

/-! ### table_text: function 49 -/
def table_text.f (a0 : ByteArray) (a1 : ByteArray) : Option (ByteArray) := (wire_Text.f a0).bind fun t276 => ((wire_Text.f a1).bind fun t279 => (if (strOfNums t276).size + (strOfNums t279).size ≤ 9223372036854775807 then (some ((strOfNums t276) ++ (strOfNums t279))) else (none)))
def table_text.T1 : Bool × List (List Nat × List Nat) := (true, [([], []), ([0], [0]), ([1], [1]), ([], []), ([3, 1], [3]), ([4], [4]), ([2, 5], [2, 5]), ([6, 4, 0, 1, 2, 3, 4, 5, 6], [6])])
def table_text.B1 : List Nat := [0, 1, 3, 0, 11, 27, 63, 127]
theorem table_text.tab1 : rtab .any (opsOf Try.f49 1) = table_text.T1 := by kernel_rfl
theorem table_text.bits1 : waitsOk table_text.T1.2 table_text.B1 = true := by kernel_rfl
set_option maxHeartbeats 8000000 in
set_option maxRecDepth 100000 in
theorem table_text.calls (a0 : ByteArray) (a1 : ByteArray) (r : ByteArray) (w : World) (h : table_text.f a0 a1 = some r) :
  Calls Try.prog 49 #[.string a0, .string a1] w fun e w' => e = .returned (.string r) ∧ Below w.heap.size w w' := by
 have HB := aS (Below.refl w.heap.size w); have H : ((wire_Text.f a0).bind fun t276 => ((wire_Text.f a1).bind fun t279 => (if (strOfNums t276).size + (strOfNums t279).size ≤ 9223372036854775807 then (some ((strOfNums t276) ++ (strOfNums t279))) else (none)))) = some r := h; clear h; replace H := obm H; obtain ⟨t276, A30, H⟩ := H; have A3 := aS A30; clear A30; replace H := obm H; obtain ⟨t279, A40, H⟩ := H; have A4 := aS A40; clear A40
 by_cases c5 : (strOfNums t276).size + (strOfNums t279).size ≤ 9223372036854775807
 ·
  rw [if_pos c5] at H; have c5b0 := eq_true c5; have c5b1 : decide ((strOfNums t276).size + (strOfNums t279).size ≤ 9223372036854775807) = true := decide_eq_true c5
  try have c5b2 : (9223372036854775807 < (strOfNums t276).size + (strOfNums t279).size) = False := eq_false (Nat.not_lt.2 c5)
  obtain rfl := Option.some.inj H
  go_enter Try.func49, Try.ntmps49
  try go_wp2
  replace HB := aS (bdo HB.out); refine start_ (n := 8) (S := fun w' => True) (ds := []) (bA 8 0) (by kernel_rfl) rfl rfl trivial (fun hHeld => ?_); refine with_tabW table_text.tab1 table_text.bits1 (fun HT_ HW_ => ?_)
  generalize w.drew = w6 at HB hHeld ⊢
  refine along_ [(0, 5), (3, 8)] ?_
  iterate 2 (refine pure3 HT_ ?_)
  refine lay_ (bA 8 9) (by kernel_rfl) ?_; refine one3 1 (N := some 6) (bA 8 11) HT_ (fun K hK => ?_); refine goes_ Try.func67 (by kernel_rfl) rfl #[.string a0] (by rfl) rfl rfl agn ?_
  with_reducible refine (wire_Text.calls a0 t276 _ A3.out).mono ?_
  rintro e w7 ⟨v277, rfl, ho0, hb⟩
  refine ⟨_, rfl, ?_⟩; have HO278 := aS (Kd.R_lower ho0 (below_size bel)); replace HB := bstep hb; (try clear hb); (try clear hk); (try clear hi); (try clear ho0); refine hK.out _ _ trivial (fun hHeld => ?_); clear hK K; refine nm 6 ?_; refine join_ (σ := Value) 2 (bA 8 63) (fun s_ => [(7, .string (strOfNums t276)), (9, s_), (10, .string (strOfNums t279))]) (fun s_ w' => (Kd.R (Kd.int .u8) 5 w' w.heap.size (fun k_ => some k_ ≠ (s_ : Value).ownBlock) v277 t276) ∧ (Kd.R (Kd.int .u8) 5 w' w.heap.size (fun k_ => some k_ ≠ (v277 : Value).ownBlock) s_ t279) ∧ (Below w.heap.size w w')) ?_ ?_
  rotate_left
  ·
   intro hCont
   refine two_ (i := 2) (j := 4) (Ni := some 7) (Nj := some 9) (bA 8 15) (bA 8 27) rfl rfl rfl rfl (two_of HT_.out (by kernel_rfl)) (by decide) (by decide) (fun K hK => ?_) (fun K hK => ?_)
   ·
    skip
    have hcv8 := own_string (P := Try.prog) Try.underlying26 Try.underlying5 Try.underlying9 (Kd.own_of_R HO278.out); refine value_ (w1 := ?_) (v := ?_) (by rfl) rfl ?_ ?_
    rotate_left 2
    ·
     go_simp
     constructor
     ·
      rfl
     ·
      rfl
    clear hcv8; refine hK.out _ _ trivial (fun hHeld => ?_); clear hK K; refine nm 7 ?_; refine one3 4 (N := some 9) (bA 8 31) HT_ (fun K hK => ?_); refine goes_ Try.func67 (by kernel_rfl) rfl #[.string a1] (by rfl) rfl rfl agn ?_
    with_reducible refine (wire_Text.calls a1 t279 _ A4.out).mono ?_
    rintro e w9 ⟨v280, rfl, ho0, hb⟩
    refine ⟨_, rfl, ?_⟩; have HO281 := aS (Kd.R_lower (Kd.R_new' ho0 (Kd.R_lt (rel HO278.out))) (below_size bel)); replace HO278 := aS (Kd.R_elder' (rel HO278.out) (ebs ho0) hb); replace HB := bstep hb; (try clear hb); (try clear hk); (try clear hi); (try clear ho0); refine hK.out _ _ trivial (fun hHeld => ?_); clear hK K; refine nm 9 ?_; refine one3 5 (N := some 10) (bA 8 63) HT_ (fun K hK => ?_); have hcv10 := own_string (P := Try.prog) Try.underlying26 Try.underlying5 Try.underlying9 (Kd.own_of_R HO281.out); refine value_ (w1 := ?_) (v := ?_) (by rfl) rfl ?_ ?_
    rotate_left 2
    ·
     go_simp
     constructor
     ·
      rfl
     ·
      rfl
    clear hcv10; refine hK.out _ _ trivial (fun hHeld => ?_); clear hK K; refine nm 10 ?_; exact norm_ (by simp only [putAll, Act.put, lsa, lsz, lss]) (hCont (v280) _ ⟨(rel (Kd.R_mono HO278.out (fun _ hk => hk.2))), (rel (Kd.R_mono HO281.out (fun _ hk => hk.2))), bel⟩)
   ·
    skip
    refine goes_ Try.func67 (by kernel_rfl) rfl #[.string a1] (by rfl) rfl rfl agn ?_
    with_reducible refine (wire_Text.calls a1 t279 _ A4.out).mono ?_
    rintro e w8 ⟨v280, rfl, ho0, hb⟩
    refine ⟨_, rfl, ?_⟩; have HO281 := aS (Kd.R_lower (Kd.R_new' ho0 (Kd.R_lt (rel HO278.out))) (below_size bel)); replace HO278 := aS (Kd.R_elder' (rel HO278.out) (ebs ho0) hb); replace HB := bstep hb; (try clear hb); (try clear hk); (try clear hi); (try clear ho0); refine hK.out _ _ trivial (fun hHeld => ?_); clear hK K; refine nm 9 ?_; refine two_ (i := 2) (j := 5) (Ni := some 7) (Nj := some 10) (bA 8 31) (bA 8 59) rfl rfl rfl rfl (two_of HT_.out (by kernel_rfl)) (by decide) (by decide) (fun K hK => ?_) (fun K hK => ?_)
    ·
     skip
     have hcv9 := own_string (P := Try.prog) Try.underlying26 Try.underlying5 Try.underlying9 (Kd.own_of_R HO278.out); refine value_ (w1 := ?_) (v := ?_) (by rfl) rfl ?_ ?_
     rotate_left 2
     ·
      go_simp
      constructor
      ·
       rfl
      ·
       rfl
     clear hcv9; refine hK.out _ _ trivial (fun hHeld => ?_); clear hK K; refine nm 7 ?_; refine one3 5 (N := some 10) (bA 8 63) HT_ (fun K hK => ?_); have hcv10 := own_string (P := Try.prog) Try.underlying26 Try.underlying5 Try.underlying9 (Kd.own_of_R HO281.out); refine value_ (w1 := ?_) (v := ?_) (by rfl) rfl ?_ ?_
     rotate_left 2
     ·
      go_simp
      constructor
      ·
       rfl
      ·
       rfl
     clear hcv10; refine hK.out _ _ trivial (fun hHeld => ?_); clear hK K; refine nm 10 ?_; exact norm_ (by simp only [putAll, Act.put, lsa, lsz, lss]) (hCont (v280) _ ⟨(rel (Kd.R_mono HO278.out (fun _ hk => hk.2))), (rel (Kd.R_mono HO281.out (fun _ hk => hk.2))), bel⟩)
    ·
     skip
     have hcv9 := own_string (P := Try.prog) Try.underlying26 Try.underlying5 Try.underlying9 (Kd.own_of_R HO281.out); refine value_ (w1 := ?_) (v := ?_) (by rfl) rfl ?_ ?_
     rotate_left 2
     ·
      go_simp
      constructor
      ·
       rfl
      ·
       rfl
     clear hcv9; refine hK.out _ _ trivial (fun hHeld => ?_); clear hK K; refine nm 10 ?_; refine one3 2 (N := some 7) (bA 8 63) HT_ (fun K hK => ?_); have hcv10 := own_string (P := Try.prog) Try.underlying26 Try.underlying5 Try.underlying9 (Kd.own_of_R HO278.out); refine value_ (w1 := ?_) (v := ?_) (by rfl) rfl ?_ ?_
     rotate_left 2
     ·
      go_simp
      constructor
      ·
       rfl
      ·
       rfl
     clear hcv10; refine hK.out _ _ trivial (fun hHeld => ?_); clear hK K; refine nm 7 ?_; exact norm_ (by simp only [putAll, Act.put, lsa, lsz, lss]) (hCont (v280) _ ⟨(rel (Kd.R_mono HO278.out (fun _ hk => hk.2))), (rel (Kd.R_mono HO281.out (fun _ hk => hk.2))), bel⟩)
  rintro v280 w11 ⟨h0_, h1_, h2_⟩
  have n0_ : Aside0 (Kd.R (Kd.int .u8) 5 w11 w.heap.size (fun k_ => some k_ ≠ (v280 : Value).ownBlock) v277 t276) := ⟨h0_⟩; have n1_ : Aside0 (Kd.R (Kd.int .u8) 5 w11 w.heap.size (fun k_ => some k_ ≠ (v277 : Value).ownBlock) v280 t279) := ⟨h1_⟩; have n2_ : Aside0 (Below w.heap.size w w11) := ⟨h2_⟩; clear HB; clear h0_ h1_ h2_; have HO278 := n0_; have HO281 := n1_; have HB := n2_; clear n0_ n1_ n2_; have hHeld := trivial; refine norm_ (a' := ?_) ?_ ?_
  rotate_left
  ·
   simp only [putAll, Act.put, lsa, lsz, lss]
   rfl
  refine along_ [(6, 11), (7, 4)] ?_
  iterate 2 (refine pure3 HT_ ?_)
  refine lay_ (bA 8 255) (by kernel_rfl) ?_; refine done_ (done_of HT_.out (by kernel_rfl)) ?_
  try go_wp2
  go_ret
  exact ⟨rf3, bel⟩
 ·
  rw [if_neg c5] at H; exact absurd H (by simp)

/-! ### bloom_Bits: function 66 -/
def bloom_Bits.acc (a b : Int) : Nat → Int
 | 0 => a
 | i + 1 => IntKind.u32.wrap (bloom_Bits.acc a b i + b)
def bloom_Bits.outs (a b n : Int) : Nat → List Int
 | 0 => []
 | i + 1 => bloom_Bits.outs a b n i ++ [wrap64 (Int.tmod (bloom_Bits.acc a b i) n)]
def bloom_Bits.f (k : Nat) (a0 : ByteArray) (a1 : Int) : Option (List Int) :=
 if a0.size < 140737488355327 then (check_Sum.f k (bytesOf a0)).bind fun a => (check_Sum.f k ([1] ++ bytesOf a0)).bind fun b => if IntKind.u32.wrap a1 = 0 then none else some (bloom_Bits.outs a b (IntKind.u32.wrap a1) 3) else none
theorem bloom_Bits.mono : ∀ a0 a1 k, LeO (bloom_Bits.f k a0 a1) (bloom_Bits.f (k + 1) a0 a1) := fun a0 a1 k =>
 LeO.ite (LeO.bind (check_Sum.mono _ _) fun _ => LeO.bind (check_Sum.mono _ _) fun _ => LeO.refl _) (LeO.refl _)
theorem own_of_R {w : World} {base : Nat} {ok : Nat → Prop} {v : Value} {xs : List Int} (h : Kd.R (Kd.int .u8) 5 w base ok v xs) : w.ownsRow base 5 1 v xs.length (nums .u8 xs) := by
 exact Kd.own_of_R h
theorem R_of_own {w : World} {base : Nat} {v : Value} {xs : List Int} (h : w.ownsRow base 5 1 v xs.length (nums .u8 xs)) : Kd.R (Kd.int .u8) 5 w base (fun _ => True) v xs := by
 exact Kd.R_of_own h (fun _ _ => trivial)
theorem outs_length (a b n : Int) : ∀ i, (bloom_Bits.outs a b n i).length = i
 | 0 => rfl
 | i + 1 => by simp [bloom_Bits.outs, outs_length a b n i]
theorem outs_le (a b n : Int) (i : Nat) (h : i < 3) : ((bloom_Bits.outs a b n i).length + 1) * 8 ≤ 140737488355328 := by rw [outs_length]; omega
set_option maxHeartbeats 8000000 in
set_option maxRecDepth 100000 in
theorem bloom_Bits.calls (k : Nat) (a0 : ByteArray) (a1 : Int) (r : List Int) (w : World) (h : bloom_Bits.f k a0 a1 = some r) :
  Calls Try.prog 66 #[.string a0, .int .i64 a1] w fun e w' => ∃ v0_ : Value, e = .returned v0_ ∧ Kd.R (Kd.int .i64) 3 w' w.heap.size (fun _ => True) v0_ r ∧ Below w.heap.size w w' := by
 have hu26 := Try.underlying26; have hu77 := Try.underlying77
 unfold bloom_Bits.f at h
 by_cases hl : a0.size < 140737488355327
 case neg => rw [if_neg hl] at h; cases h
 rw [if_pos hl] at h; replace h := obm h; obtain ⟨a, x1, h⟩ := h; replace h := obm h; obtain ⟨b, x2, h⟩ := h
 by_cases hz : IntKind.u32.wrap a1 = 0
 ·
  rw [if_pos hz] at h; cases h
 rw [if_neg hz] at h
 obtain rfl := Option.some.inj h
 obtain ⟨hz1, hz2⟩ := eqF hz
 obtain ⟨z, hzz⟩ : ∃ z, z = [1] ++ bytesOf a0 := ⟨_, rfl⟩
 rw [← hzz] at x2; have HZ := aS hzz; clear hzz; have X1 := aS x1; have X2 := aS x2; have HL := aS hl; clear x1 x2 hl h
 obtain ⟨n, hn⟩ : ∃ n, IntKind.u32.wrap a1 = n := ⟨_, rfl⟩
 rw [hn] at hz hz1 hz2 ⊢
 go_enter Try.func66, Try.ntmps66
 go_wp2_with (first | ((with_reducible refine gate_dst (N := 9) rfl ?_); refine Kd.V_bytes rfl (N := 9) rfl 9 26 5 _ a0 rfl rfl Try.underlying9 Try.underlying26 Try.underlying5 (by have := HL.out; omega) ?_; intro v9 w1 ho hb; obtain ⟨A8, c8, rfl⟩ := Kd.V_slice ho; have HV := aS (Kd.V_reads' ho); have HB := aS hb; clear ho hb) | (go_at_call 78; (with_reducible refine (check_Sum.calls k A8 c8 (bytesOf a0) a _ HV.out.2.2 HV.out.2.1 X1.out).mono ?_); rintro e_ w2 ⟨rfl, hb⟩; have HB2 := aS (below_step HB.out hb); clear hb HB HV) | ((with_reducible refine gate_dst (N := 11) rfl ?_); refine Kd.R_lit (Kd.int .u8) _ 5 ?hg (N := 11) ?hd (xs := ([1] : List Int)) (inner := [.int .u8 1]) (ok := fun _ => True) (okp := fun _ => True) ?hr ?hp (fun _ hk => hk) trivial (Below.refl _ _) (Nat.le_refl _) (by simp) ?_; (case hd => rfl); (case hg => rfl); (case hr => (first | (go_simp; done) | (go_simp; rfl))); (case hp => exact (Reps.one (show Kd.M (Kd.int .u8) _ _ _ 1 [.int .u8 1] from rfl) (Reps.none _ _))); intro v11 w3 ho hb hg_ hnew; have HR := aS (Kd.R_lower ho HB2.out.size); have HB3 := aS (below_step HB2.out hb); clear ho hb hg_ hnew HB2) | (at_builtin; refine print_append_str (w0 := w) w.heap.size rfl (.tmp 11) _ 26 9 5 rfl Try.underlying26 Try.underlying9 info5 v11 [1] a0 rfl rfl ?aO HB3.out HB3.out.size ?aL ?_; (case aO => exact own_of_R HR.out); (case aL => have := HL.out; simp only [List.length_cons, List.length_nil]; omega); intro v13 w4 ho hb hg_; rw [← HZ.out] at ho; obtain ⟨A13, c13, rfl, hcl, hC⟩ := Kd.R_reads (R_of_own ho); have HC4 := aS hC; have HL4 := aS hcl; have HB4 := aS hb; clear ho hb hg_ hcl hC HR HB3) | (go_at_call 78; (with_reducible refine (check_Sum.calls k A13 c13 z b _ HC4.out HL4.out X2.out).mono ?_); rintro e_ w5 ⟨rfl, hb⟩; have HB5 := aS (below_step HB4.out hb); clear hb HB4 HC4 HL4))
 go_loopw [5, 7, 15] (fun v5 v7 v15 wr => ∃ (i : Nat), v15 = .int .i64 (i : Int) ∧ v5 = .int .u32 (bloom_Bits.acc a b i) ∧ Aside0 (i ≤ 3) ∧ Aside0 (Kd.R (Kd.int .i64) 3 wr w.heap.size (fun _ => True) v7 (bloom_Bits.outs a b n i)) ∧ Aside0 (Below w.heap.size w wr)) (fun _ _ i _ => 3 - (intOf i).toNat)
 case atStart => exact ⟨0, rfl, rfl, ⟨by omega⟩, ⟨Kd.R_nil _ _ _ _ _⟩, HB5⟩
 case round =>
  obtain ⟨i, rfl, rfl, hi, HRr, HBr⟩ := hrel
  by_cases hlt : i < 3
  ·
   have hq1 : (i : Int) < 3 := by omega
   have hwr : wrap64 ((i : Int) + 1) = (i : Int) + 1 := by rw [← i64_w, IntKind.wrap_i64]; omega
   have hwr' := aS hwr
   clear hi
   go_wp2_with (first | (at_builtin; refine Kd.R_append (Kd.int .i64) (w0 := w) w.heap.size rfl _ _ 77 3 (.int .i64 0) 8 rfl hu77 info3 rfl (by decide) (by decide) u7 (bloom_Bits.outs a b n i) (wrap64 (Int.tmod (bloom_Bits.acc a b i) n)) [.int .i64 (wrap64 (Int.tmod (bloom_Bits.acc a b i) n))] (fun _ => True) (fun _ => False) rfl rfl rfl (fun _ hk => hk.elim) (fun _ _ => trivial) HRr.out HBr.out HBr.out.size ?hl ?_; (case hl => exact outs_le _ _ _ _ hlt); intro v8 w6 ho hb hg hat; have HR4 := aS ho; have HB6 := aS hb; clear ho hb hg hat HRr HBr))
   go_roundw
   case rel => exact ⟨i + 1, by first | rfl | (rw [hwr]; rfl), rfl, ⟨hlt⟩, HR4, HB6⟩
   case measure => first | exact meas1 hwr hlt | exact meas1 rfl hlt
  ·
   have hge : ¬ ((i : Int) < 3) := by omega
   obtain rfl : i = 3 := by have := hi.out; omega
   go_wp2
   go_ret
   exact ⟨_, rfl, HRr.out, HBr.out⟩

/-! ### bloom_Make: function 55 -/
mutual
def bloom_Make.l0 : Nat → List Int → List ByteArray → Int → Int → Option (List Int)
 | 0, _, _, _, _ => none
 | k + 1, x3, x14, x15, x16 => if x16 < x15 then (if 0 ≤ x16 then (if x16 < (x14.length : Int) then ((bloom_Bits.f k (rdOf ByteArray.empty x14 x16) (wrap64 (8 * (x3.length : Int)))).bind fun t286 => (bloom_Make.l1 k x3 x14 x15 x16 t286 (t286.length : Int) 0)) else (none)) else (none)) else (some x3)
def bloom_Make.l1 : Nat → List Int → List ByteArray → Int → Int → List Int → Int → Int → Option (List Int)
 | 0, _, _, _, _, _, _, _ => none
 | k + 1, x3, x14, x15, x16, x24, x25, x26 => if x26 < x25 then (if 0 ≤ x26 then (if x26 < (x24.length : Int) then (if 0 ≤ (wrap64 (Int.tdiv (rd x24 x26) 8)) then (if (wrap64 (Int.tdiv (rd x24 x26) 8)) < (x3.length : Int) then (if 0 ≤ (Int.tmod (rd x24 x26) 8) then (bloom_Make.l1 k (x3.set ((wrap64 (Int.tdiv (rd x24 x26) 8)) : Int).toNat (Go.bits .or .u8 (rd x3 (wrap64 (Int.tdiv (rd x24 x26) 8))) (shl .u8 1 (Int.tmod (rd x24 x26) 8)))) x14 x15 x16 x24 x25 (wrap64 (x26 + 1))) else (none)) else (none)) else (none)) else (none)) else (none)) else (bloom_Make.l0 k x3 x14 x15 (wrap64 (x16 + 1)))
end
def bloom_Make.f (k : Nat) (l0 : List ByteArray) : Option (List Int) := if 0 ≤ (mx 1 (wrap64 (Int.tdiv (wrap64 ((l0.length : Int) * 8)) 8))) then (if (mx 1 (wrap64 (Int.tdiv (wrap64 ((l0.length : Int) * 8)) 8)) : Int).toNat ≤ 281474976710656 then (bloom_Make.l0 k (List.replicate (mx 1 (wrap64 (Int.tdiv (wrap64 ((l0.length : Int) * 8)) 8)) : Int).toNat 0) l0 (l0.length : Int) 0) else (none)) else (none)
theorem bloom_Make.mono_l : ∀ k, (∀ y0 y1 y2 y3, LeO (bloom_Make.l0 k y0 y1 y2 y3) (bloom_Make.l0 (k + 1) y0 y1 y2 y3)) ∧ (∀ y0 y1 y2 y3 y4 y5 y6, LeO (bloom_Make.l1 k y0 y1 y2 y3 y4 y5 y6) (bloom_Make.l1 (k + 1) y0 y1 y2 y3 y4 y5 y6))
 | 0 => ⟨fun _ _ _ _ r h => by simp [bloom_Make.l0] at h, fun _ _ _ _ _ _ _ r h => by simp [bloom_Make.l1] at h⟩
 | k + 1 => by
  obtain ⟨ih0, ih1⟩ := bloom_Make.mono_l k; refine ⟨?_, ?_⟩
  ·
   intro y0 y1 y2 y3
   unfold bloom_Make.l0
   have m0 := @bloom_Bits.mono; exact lmo
  ·
   intro y0 y1 y2 y3 y4 y5 y6
   unfold bloom_Make.l1
   have m0 := @bloom_Bits.mono; exact lmo
theorem bloom_Make.mono : ∀ a0 k, LeO (bloom_Make.f k a0) (bloom_Make.f (k + 1) a0) := by
 intro a0 k
 obtain ⟨ih0, ih1⟩ := bloom_Make.mono_l k
 unfold bloom_Make.f
 have m0 := @bloom_Bits.mono; exact lmo
def bloom_Make.T8 : Bool × List (List Nat × List Nat) := (true, [([], []), ([], []), ([1], [1]), ([0, 2], [0, 2]), ([3], [3]), ([], []), ([5], [5]), ([6], [6]), ([4, 7], [4, 7]), ([0, 2, 0, 1, 2, 3, 4, 5, 6, 7, 8], [0, 2]), ([9, 8, 0, 1, 2, 3, 4, 5, 6, 7, 8], [8, 9])])
def bloom_Make.B8 : List Nat := [0, 0, 2, 7, 15, 0, 32, 96, 255, 511, 1023]
theorem bloom_Make.tab8 : rtab .any (opsOf Try.f55 8) = bloom_Make.T8 := by kernel_rfl
theorem bloom_Make.bits8 : waitsOk bloom_Make.T8.2 bloom_Make.B8 = true := by kernel_rfl
set_option maxHeartbeats 8000000 in
set_option maxRecDepth 100000 in
theorem bloom_Make.calls (k : Nat) (A0 : Option Addr) (c0 : Nat) (l0 : List ByteArray) (r : List Int) (w : World) (hr0 : Kd.C Kd.string w A0 l0.length l0) (hc0 : l0.length ≤ c0) (h : bloom_Make.f k l0 = some r) :
  Calls Try.prog 55 #[.slice A0 l0.length c0] w fun e w' => ∃ v0_ : Value, e = .returned (v0_) ∧ Kd.R (Kd.int .u8) 5 w' w.heap.size (fun _ => True) v0_ r ∧ Below w.heap.size w w' := by
 have HR0 := aS hr0; have HC0 := aS hc0; clear hr0 hc0; have HB := aS (Below.refl w.heap.size w); have H : (if 0 ≤ (mx 1 (wrap64 (Int.tdiv (wrap64 ((l0.length : Int) * 8)) 8))) then (if (mx 1 (wrap64 (Int.tdiv (wrap64 ((l0.length : Int) * 8)) 8)) : Int).toNat ≤ 281474976710656 then (bloom_Make.l0 k (List.replicate (mx 1 (wrap64 (Int.tdiv (wrap64 ((l0.length : Int) * 8)) 8)) : Int).toNat 0) l0 (l0.length : Int) 0) else (none)) else (none)) = some r := h; clear h
 obtain ⟨ji2, hji2⟩ : ∃ j_ : Int, (mx 1 (wrap64 (Int.tdiv (wrap64 ((l0.length : Int) * 8)) 8))) = j_ := ⟨_, rfl⟩
 replace H : (if 0 ≤ (ji2) then (if (ji2 : Int).toNat ≤ 281474976710656 then (bloom_Make.l0 k (List.replicate (ji2 : Int).toNat 0) l0 (l0.length : Int) 0) else (none)) else (none)) = some r := by first | (rw [hji2] at H; exact H) | (simp only [hji2] at H ⊢; exact H)
 (try (have hji2l : 1 ≤ ji2 := by (rw [← hji2]; unfold mx; (repeat' split) <;> omega)))
 (try (have hji2m : 0 ≤ ji2 := by omega))
 have hji2_ : (if 1 < (wrap64 (Int.tdiv (wrap64 ((l0.length : Int) * 8)) 8)) then (wrap64 (Int.tdiv (wrap64 ((l0.length : Int) * 8)) 8)) else 1) = ji2 := hji2
 by_cases c3 : 0 ≤ (ji2)
 ·
  rw [if_pos c3] at H; have c3b0 := eq_true c3; have c3b1 : decide (0 ≤ (ji2)) = true := decide_eq_true c3; clear c3
  by_cases c4 : (ji2 : Int).toNat ≤ 281474976710656
  ·
   rw [if_pos c4] at H; have c4b0 := eq_true c4; have c4b1 : decide ((ji2 : Int).toNat ≤ 281474976710656) = true := decide_eq_true c4; clear c4
   obtain ⟨y282, hy282⟩ : ∃ y_ : List Int, y_ = (List.replicate (ji2 : Int).toNat 0) := ⟨_, rfl⟩
   replace H : (bloom_Make.l0 k y282 l0 (l0.length : Int) 0) = some r := hyr hy282 H; have Ny282 := aS hy282; clear hy282
   have H' := aS H
   clear H
   go_enter Try.func55, Try.ntmps55
   go_wp2_with (first | ((with_reducible refine gate_dst (N := 13) rfl ?_); refine Kd.R_make (Kd.int .u8) _ 5 rfl (N := 13) rfl 26 _ _ rfl ji2 rfl rfl Try.underlying26 (.int .u8 0) 1 info5 rfl (by decide) (by omega) 0 (ok := fun _ => True) (okp := fun _ => True) rfl (fun _ hk => hk) trivial (oda) (Nat.le_trans (Nat.mul_le_mul_right _ (oda : ji2.toNat ≤ 281474976710656)) (by omega)) (Below.refl _ _) (Nat.le_refl _) ?_; intro v283 w5 ho6 hb hg_ hnew_; clear hg_ hnew_; (first | rw [← Ny282.out] at ho6 | (simp only [Int.reduceToNat] at ho6; rw [← Ny282.out] at ho6)); have HO284 := aS (Kd.R_lower ho6 (below_size bel)); replace HB := bstep hb; clear hb ho6))
   go_loopg [16] k (fun kq v16 w' => ∃ (x3_1 : List Int) (x16_1 : Int), v16 = .int .i64 x16_1 ∧ Aside0 (bloom_Make.l0 kq x3_1 l0 (l0.length : Int) x16_1 = some r) ∧ Aside0 (kq ≤ k) ∧ Aside0 (Kd.R (Kd.int .u8) 5 w' w.heap.size (fun _ => True) v283 x3_1) ∧ Aside0 (Below w.heap.size w w'))
   case atStart => exact ⟨(y282), (0), srf, H', ⟨Nat.le_refl _⟩, ⟨by (with_reducible repeat (first | apply Kd.R_alloc | apply Kd.R_drewN | apply Kd.R_drew)); exact HO284.out⟩, ⟨bel⟩⟩
   case round =>
    clear H'; (try clear c3); (try clear c3b0); (try clear c3b1); (try clear c4); (try clear c4b0); (try clear c4b1); obtain ⟨x3_1, x16_1, rfl, HA, HK1, HO_3, HB⟩ := hrel
    cases gk with
    | zero => exact absurd HA.out (by simp [bloom_Make.l0])
    | succ k1 =>
     have H := HA.out; clear HA
     simp only [bloom_Make.l0] at H
     by_cases c7 : x16_1 < (l0.length : Int)
     ·
      rw [if_pos c7] at H; have c7b0 : decide (x16_1 < (l0.length : Int)) = true := decide_eq_true c7; clear c7
      by_cases c8 : 0 ≤ x16_1
      ·
       rw [if_pos c8] at H; have c8b0 : decide (0 ≤ x16_1) = true := decide_eq_true c8; clear c8
       by_cases c9 : x16_1 < (l0.length : Int)
       ·
        rw [if_pos c9] at H; have c9b0 : decide (x16_1 < (l0.length : Int)) = true := decide_eq_true c9; clear c9; replace H := obm H; obtain ⟨t286, A100, H⟩ := H; have A10 := aS A100; clear A100
        have H' := aS H
        clear H; have p285 : 0 ≤ (x16_1 : Int) := oda; have q285 : x16_1 < (l0.length : Int) := oda; obtain ⟨ad285, e285, hx285_0⟩ := Kd.at_string HR0.out x16_1 p285 q285; cases e285; replace hx285_0 := bx bel hx285_0; replace p285 := eq_true p285; replace q285 := eq_true q285; obtain ⟨Ao11, co11, eo11⟩ := Kd.R_slice HO_3.out; subst eo11
        go_wp2_with (first | ((with_reducible refine gate_callee (f := 66) rfl ?_); refine goesL_ (some 24) rfl rfl Try.func66 (by kernel_rfl) rfl #[.string (rdOf ByteArray.empty l0 x16_1), .int .i64 (wrap64 (8 * (x3_1.length : Int)))] rfl agn ?_; (with_reducible refine (bloom_Bits.calls k1 (rdOf ByteArray.empty l0 x16_1) (wrap64 (8 * (x3_1.length : Int))) t286 _ A10.out).mono ?_); rintro e w12 ⟨v287, rfl, ho0, hb⟩; refine ⟨_, rfl, ?_⟩; replace HO_3 := aS (Kd.R_below (rel HO_3.out) hb); have HO288 := aS (Kd.R_lower ho0 (below_size bel)); replace HB := bstep hb; (try clear hb); (try clear hk); (try clear hi); (try clear ho0); obtain ⟨Ao13, co13, eo13⟩ := Kd.R_slice HO288.out; subst eo13))
        go_loopg [26] k1 (fun kq v26 w' => ∃ (x3_2 : List Int) (x26_2 : Int), v26 = .int .i64 x26_2 ∧ Aside0 (bloom_Make.l1 kq x3_2 l0 (l0.length : Int) x16_1 t286 (t286.length : Int) x26_2 = some r) ∧ Aside0 (kq ≤ k1) ∧ Aside0 (Kd.R (Kd.int .u8) 5 w' w.heap.size (fun _ => True) (.slice Ao11 x3_1.length co11) x3_2) ∧ Aside0 (Kd.R (Kd.int .i64) 3 w' w.heap.size (fun _ => True) (.slice Ao13 t286.length co13) t286) ∧ Aside0 (Below w.heap.size w w'))
        case atStart => exact ⟨(x3_1), (0), srf, H', ⟨Nat.le_refl _⟩, ⟨by (with_reducible repeat (first | apply Kd.R_alloc | apply Kd.R_drewN | apply Kd.R_drew)); exact HO_3.out⟩, ⟨by (with_reducible repeat (first | apply Kd.R_alloc | apply Kd.R_drewN | apply Kd.R_drew)); exact HO288.out⟩, ⟨bel⟩⟩
        case round =>
         clear H'; (try clear c3); (try clear c3b0); (try clear c3b1); (try clear c4); (try clear c4b0); (try clear c4b1); (try clear c7); (try clear c7b0); (try clear c8); (try clear c8b0); (try clear c9); (try clear c9b0); (try clear hx285_0); (try clear p285); (try clear q285); obtain ⟨x3_2, x26_2, rfl, HA, HK2, HO_3, HO_24, HB⟩ := hrel; have hl3_2 := (Kd.R_reads' HO_3.out).1; rw [hl3_2] at HO_3
         (try simp only [hl3_2])
         (try simp only [hl3_2] at HO_24)
         cases gk with
         | zero => exact absurd HA.out (by simp [bloom_Make.l1])
         | succ k2 =>
          have H := HA.out; clear HA
          simp only [bloom_Make.l1] at H
          by_cases c14 : x26_2 < (t286.length : Int)
          ·
           rw [if_pos c14] at H; have c14b0 : decide (x26_2 < (t286.length : Int)) = true := decide_eq_true c14; clear c14
           by_cases c15 : 0 ≤ x26_2
           ·
            rw [if_pos c15] at H; have c15b0 : decide (0 ≤ x26_2) = true := decide_eq_true c15; clear c15
            by_cases c16 : x26_2 < (t286.length : Int)
            ·
             rw [if_pos c16] at H; have c16b0 : decide (x26_2 < (t286.length : Int)) = true := decide_eq_true c16; clear c16
             obtain ⟨ji17, hji17⟩ : ∃ j_ : Int, (wrap64 (Int.tdiv (rd t286 x26_2) 8)) = j_ := ⟨_, rfl⟩
             replace H : (if 0 ≤ (ji17) then (if (ji17) < (x3_2.length : Int) then (if 0 ≤ (Int.tmod (rd t286 x26_2) 8) then (bloom_Make.l1 k2 (x3_2.set ((ji17) : Int).toNat (Go.bits .or .u8 (rd x3_2 (ji17)) (shl .u8 1 (Int.tmod (rd t286 x26_2) 8)))) l0 (l0.length : Int) x16_1 t286 (t286.length : Int) (wrap64 (x26_2 + 1))) else (none)) else (none)) else (none)) = some r := by first | (rw [hji17] at H; exact H) | (simp only [hji17] at H ⊢; exact H)
             have hji17w : (IntKind.i64.wrap (Int.tdiv (rd t286 x26_2) 8)) = ji17 := (i64_w _).trans hji17
             by_cases c18 : 0 ≤ (ji17)
             ·
              rw [if_pos c18] at H; have c18b0 : decide (0 ≤ (ji17)) = true := decide_eq_true c18; clear c18
              by_cases c19 : (ji17) < (x3_2.length : Int)
              ·
               rw [if_pos c19] at H; have c19b0 : decide ((ji17) < (x3_2.length : Int)) = true := decide_eq_true c19; clear c19
               obtain ⟨ji20, hji20⟩ : ∃ j_ : Int, (Int.tmod (rd t286 x26_2) 8) = j_ := ⟨_, rfl⟩
               replace H : (if 0 ≤ (ji20) then (bloom_Make.l1 k2 (x3_2.set ((ji17) : Int).toNat (Go.bits .or .u8 (rd x3_2 (ji17)) (shl .u8 1 (ji20)))) l0 (l0.length : Int) x16_1 t286 (t286.length : Int) (wrap64 (x26_2 + 1))) else (none)) = some r := by first | (rw [hji20] at H; exact H) | (simp only [hji20] at H ⊢; exact H)
               by_cases c21 : 0 ≤ (ji20)
               ·
                rw [if_pos c21] at H; have c21b0 := eq_true c21; have c21b1 : decide (0 ≤ (ji20)) = true := decide_eq_true c21; clear c21
                obtain ⟨ji22, hji22⟩ : ∃ j_ : Int, (shl .u8 1 (ji20)) = j_ := ⟨_, rfl⟩
                replace H : (bloom_Make.l1 k2 (x3_2.set ((ji17) : Int).toNat (Go.bits .or .u8 (rd x3_2 (ji17)) (ji22))) l0 (l0.length : Int) x16_1 t286 (t286.length : Int) (wrap64 (x26_2 + 1))) = some r := by first | (rw [hji22] at H; exact H) | (simp only [hji22] at H ⊢; exact H)
                have hji22_ : (IntKind.u8.wrap (1 * 2 ^ min (ji20).toNat 8)) = ji22 := hji22; have hji22z : (ji20) ≤ 8 → (IntKind.u8.wrap (1 * 2 ^ (ji20).toNat)) = ji22 := shl_small hji22
                have hji22u : (IntKind.u8.wrap (2 ^ min (ji20).toNat 8)) = ji22 := by have h_ := hji22_; rw [Int.one_mul] at h_; exact h_
                have hji22v : (ji20) ≤ 8 → (IntKind.u8.wrap (2 ^ (ji20).toNat)) = ji22 := fun hle_ => by have h_ := hji22z hle_; rw [Int.one_mul] at h_; exact h_
                obtain ⟨y291, hy291⟩ : ∃ y_ : List Int, y_ = (x3_2.set ((ji17) : Int).toNat (Go.bits .or .u8 (rd x3_2 (ji17)) (ji22))) := ⟨_, rfl⟩
                (first | replace H := hyn hy291 H | rw [← hy291] at H); have Ny291 := aS hy291; clear hy291
                have H' := aS H
                clear H; have p289 : 0 ≤ (x26_2 : Int) := oda; have q289 : x26_2 < (t286.length : Int) := oda; obtain ⟨ad289, e289, hx289_0⟩ := Kd.at_int (Kd.R_reads' HO_24.out).2.2 x26_2 p289 q289; cases e289; replace p289 := eq_true p289; replace q289 := eq_true q289
                try go_wp2
                replace HO_3 := aS (Kd.R_drew HO_3.out); replace HO_24 := aS (Kd.R_drew HO_24.out); replace HB := aS (bdo HB.out); have p290 : 0 ≤ ((ji17) : Int) := oda; have q290 : (ji17) < (x3_2.length : Int) := oda; obtain ⟨ad290, e290, hx290_0⟩ := Kd.at_int (Kd.R_reads' HO_3.out).2.2 (ji17) p290 q290; cases e290; replace p290 := eq_true p290; replace q290 := eq_true q290; have p23 : 0 ≤ ((ji17) : Int) := oda; have q23 : ((ji17) : Int) < ((x3_2.length : Int) : Int) := oda; obtain ⟨go23, co23, eo23, gb23, gl23, cl23, HG23⟩ := Kd.R_form HO_3.out (by omega)
                (first | cases eo23 | (injection eo23 with ea_ en_ ec_; (first | subst ea_ | (injection ea_ with ea_; subst ea_)); subst ec_; clear en_))
                have GB23 := aS gb23; have GG23 := aS HG23; clear gb23 gl23 HG23
                (first | simp only [add_plain] at hx290_0 | skip)
                obtain ⟨hx23_0, hf23_0⟩ := Kd.R_celln 0 HO_3.out ((ji17) : Int) p23 q23; replace p23 := eq_true p23; replace q23 := eq_true q23; have HP25 := Kd.R_putn HO_3.out ((ji17) : Int) (Go.bits .or .u8 (rd x3_2 (ji17)) (ji22)); rw [← Ny291.out] at HP25; have HQ25 := aS HP25; clear HP25; refine start_ (n := 11) (S := fun w' => w'.cell? ⟨go23, ((ji17)).toNat, none⟩ = some (.int .u8 (rd x3_2 (ji17)))) (ds := [10]) (bA 11 0) (by kernel_rfl) rfl rfl (hx290_0) (fun hHeld => ?_); refine with_tabW bloom_Make.tab8 bloom_Make.bits8 (fun HT_ HW_ => ?_)
                generalize wr.drew = w24 at HO_3 HO_24 HB GG23 HQ25 hf23_0 hx23_0 hx290_0 hHeld ⊢
                refine along_ [(0, 30), (1, 31), (2, 32), (3, 33), (5, 35), (6, 36), (7, 37)] ?_
                iterate 7 (refine pure3 HT_ ?_)
                refine lay_ (bA 11 239) (by kernel_rfl) ?_; refine take_ (i := 4) (N := some 34) (v := ?_) (a' := ?_) (bA 11 255) rfl rfl (take_ofW HT_.out HW_.out (by kernel_rfl)) (fun _ _ _ h => h) (Or.inl ⟨by rfl, ?_⟩) hHeld ?_ ?_
                rotate_left
                ·
                 intro w' s0
                 go_simp
                 with_reducible rfl
                rotate_left
                ·
                 simp only [Act.put, lsa, lsz, lss, i64_w, i32_w]
                 rfl
                refine along_ [(8, 38), (9, 39)] ?_
                iterate 2 (refine pure3 HT_ ?_)
                refine lay_ (bA 11 1023) (by kernel_rfl) ?_; refine last_ (i := 10) (N := none) (bA 11 2047) rfl rfl (one_of HT_.out (by kernel_rfl)) (by decide) (fun K hK => ?_); refine skip_ (w1 := ?_) (by rfl) rfl ?_ ?_
                rotate_left
                ·
                 go_simp
                 rfl
                refine hK.out _ _ ?_; clear hK K; refine done_ (done_of HT_.out (by kernel_rfl)) ?_
                try go_wp2
                (try simp only [← hl3_2])
                go_roundg k2
                case measure => have := HK1.out; have := HK2.out; omega
                case rel => exact ⟨(y291), (wrap64 (x26_2 + 1)), srf, H', ⟨by have := HK1.out; have := HK2.out; omega⟩, ⟨by (try simp only [hl3_2]); (with_reducible repeat (first | apply Kd.R_alloc | apply Kd.R_drewN | apply Kd.R_drew)); exact HQ25.out⟩, ⟨by (try simp only [hl3_2]); (with_reducible repeat (first | apply Kd.R_alloc | apply Kd.R_drewN | apply Kd.R_drew)); exact Kd.R_mono (Kd.R_far (p := ⟨go23, ((ji17) : Int).toNat, none⟩) (Kd.R_types HO_24.out GG23.out (by decide)) (fun _ hk => hk.2) (.int .u8 (Go.bits .or .u8 (rd x3_2 (ji17)) (ji22)))) (fun _ hk => trivial)⟩, ⟨bel⟩⟩
               ·
                rw [if_neg c21] at H; exact absurd H (by simp)
              ·
               rw [if_neg c19] at H; exact absurd H (by simp)
             ·
              rw [if_neg c18] at H; exact absurd H (by simp)
            ·
             rw [if_neg c16] at H; exact absurd H (by simp)
           ·
            rw [if_neg c15] at H; exact absurd H (by simp)
          ·
           rw [if_neg c14] at H; have c14b0 : decide (x26_2 < (t286.length : Int)) = false := decide_eq_false c14; clear c14
           have H' := aS H
           clear H
           go_wp2
           (try simp only [← hl3_2])
           go_roundg k2
           case measure => have := HK1.out; have := HK2.out; omega
           case rel => exact ⟨(x3_2), (wrap64 (x16_1 + 1)), srf, H', ⟨by have := HK1.out; have := HK2.out; omega⟩, ⟨by (try simp only [hl3_2]); (with_reducible repeat (first | apply Kd.R_alloc | apply Kd.R_drewN | apply Kd.R_drew)); exact HO_3.out⟩, ⟨bel⟩⟩
       ·
        rw [if_neg c9] at H; exact absurd H (by simp)
      ·
       rw [if_neg c8] at H; exact absurd H (by simp)
     ·
      rw [if_neg c7] at H; have c7b0 : decide (x16_1 < (l0.length : Int)) = false := decide_eq_false c7; clear c7
      obtain rfl := Option.some.inj H
      go_wp2
      go_ret
      exact ⟨_, by first | rfl | (simp [errW_none, errW_some] <;> rfl) | (simp only [← hji2]; first | rfl | (simp [errW_none, errW_some] <;> rfl)) | (simp [*, errW_none, errW_some] <;> rfl), by (with_reducible repeat (first | apply Kd.R_alloc | apply Kd.R_drewN | apply Kd.R_drew)); exact HO_3.out, bel⟩
  ·
   rw [if_neg c4] at H; exact absurd H (by simp)
 ·
  rw [if_neg c3] at H; exact absurd H (by simp)

end Go.Proofs.Ytinhpolmanccgaa.X
