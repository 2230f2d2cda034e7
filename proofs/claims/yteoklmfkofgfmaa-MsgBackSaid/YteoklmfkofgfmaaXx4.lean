-- written by a program of this session's, over the kit's print
import Derived.Test.YteoklmfkofgfmaaXx0
import Derived.Test.YteoklmfkofgfmaaXx1
import Derived.Test.YteoklmfkofgfmaaXx3
namespace Go.Proofs.Yteoklmfkofgfmaa.X
open Go.RowKit Go.Proofs.YteoklmfkofgfmaaW.PrintWords Go.Proofs.YteoklmfkofgfmaaW.PrintLast Go.Proofs.YteoklmfkofgfmaaW.PrintMore
attribute [local go_sem] max2_int min2_int max_two min_two max_three min_three max_four min_four gtr_str   -- for this text's walks alone
set_option linter.unusedVariables false
set_option linter.unusedSimpArgs false

attribute [local go_sem high] eqA23
/-! ### check_Sum: function 50 -/
def check_Sum.f (k : Nat) (l0 : List Int) : Option (Int) := (check_More.f k 0 l0).bind fun t154 => (some t154)
theorem check_Sum.mono : ∀ a0 k, LeO (check_Sum.f k a0) (check_Sum.f (k + 1) a0) := by
 intro a0 k
 unfold check_Sum.f
 repeat' first
   | (with_reducible exact check_More.mono _ _ _)
   | (with_reducible exact LeO.refl _)
   | (with_reducible exact LeO.none _)
   | (with_reducible refine LeO.ite ?_ ?_)
   | (with_reducible refine LeO.bind ?_ (fun _ => ?_))
   | exact LeO.none _
   | refine LeO.ite ?_ ?_
   | refine LeO.bind ?_ (fun _ => ?_)
set_option maxHeartbeats 8000000 in
set_option maxRecDepth 100000 in
theorem check_Sum.calls (k : Nat) (A0 : Option Addr) (c0 : Nat) (l0 : List Int) (r : Int) (w : World) (hr0 : Kd.C (Kd.int .u8) w A0 l0.length l0) (hc0 : l0.length ≤ c0) (h : check_Sum.f k l0 = some r) :
  Calls Try.prog 50 #[.slice A0 l0.length c0] w fun e w' => e = .returned (.int .u32 r) ∧ Below w.heap.size w w' := by
 have HR0 := aS hr0
 have HC0 := aS hc0
 clear hr0 hc0
 have HB := aS (Below.refl w.heap.size w)
 have H : ((check_More.f k 0 l0).bind fun t154 => (some t154)) = some r := h
 clear h
 replace H := obm H
 obtain ⟨t154, A20, H⟩ := H
 replace H : (some t154) = some r := H
 have A2 := aS A20
 clear A20
 obtain rfl := Option.some.inj H
 go_enter Try.func50, Try.ntmps50
 go_wp2_with (first | ((with_reducible refine gate_callee (f := 53) rfl ?_); refine goesL_ (some 4) rfl rfl Try.func53 (by kernel_rfl) rfl #[.int .u32 0, .slice A0 l0.length c0] rfl agn ?_; (with_reducible refine (check_More.calls k 0 _ _ l0 t154 _ ?side1 ?side2 A2.out).mono ?_); (case side1 => exact cel HR0.out); (case side2 => exact HC0.out); rintro e w3 ⟨rfl, hb⟩; refine ⟨_, rfl, ?_⟩; have n0_ := bstep hb; clear HB; have HB := n0_; clear n0_; (try clear hb); (try clear hb2); (try clear hk); (try clear hi)))
 go_ret
 exact ⟨rf3, bel⟩

/-! ### frame_sum: function 44 -/
def frame_sum.f (k : Nat) (l0 : List Int) : Option (List Int) := (check_Sum.f k l0).bind fun t155 => ((wire_Num.f (wrap64 (t155))).bind fun t156 => (some t156))
theorem frame_sum.mono : ∀ a0 k, LeO (frame_sum.f k a0) (frame_sum.f (k + 1) a0) := by
 intro a0 k
 unfold frame_sum.f
 repeat' first
   | (with_reducible exact check_Sum.mono _ _)
   | (with_reducible exact LeO.refl _)
   | (with_reducible exact LeO.none _)
   | (with_reducible refine LeO.ite ?_ ?_)
   | (with_reducible refine LeO.bind ?_ (fun _ => ?_))
   | exact LeO.none _
   | refine LeO.ite ?_ ?_
   | refine LeO.bind ?_ (fun _ => ?_)
set_option maxHeartbeats 8000000 in
set_option maxRecDepth 100000 in
theorem frame_sum.calls (k : Nat) (A0 : Option Addr) (c0 : Nat) (l0 : List Int) (r : List Int) (w : World) (hr0 : Kd.C (Kd.int .u8) w A0 l0.length l0) (hc0 : l0.length ≤ c0) (h : frame_sum.f k l0 = some r) :
  Calls Try.prog 44 #[.slice A0 l0.length c0] w fun e w' => ∃ v0_ : Value, e = .returned (v0_) ∧ Kd.R (Kd.int .u8) 5 w' w.heap.size (fun _ => True) v0_ r ∧ Below w.heap.size w w' := by
 have HR0 := aS hr0
 have HC0 := aS hc0
 clear hr0 hc0
 have HB := aS (Below.refl w.heap.size w)
 have H : ((check_Sum.f k l0).bind fun t155 => ((wire_Num.f (wrap64 (t155))).bind fun t156 => (some t156))) = some r := h
 clear h
 replace H := obm H
 obtain ⟨t155, A20, H⟩ := H
 replace H : ((wire_Num.f (wrap64 (t155))).bind fun t156 => (some t156)) = some r := H
 have A2 := aS A20
 clear A20
 replace H := obm H
 obtain ⟨t156, A30, H⟩ := H
 replace H : (some t156) = some r := H
 have A3 := aS A30
 clear A30
 obtain rfl := Option.some.inj H
 go_enter Try.func44, Try.ntmps44
 go_wp2_with (first | ((with_reducible refine gate_callee (f := 50) rfl ?_); refine goesL_ (some 4) rfl rfl Try.func50 (by kernel_rfl) rfl #[.slice A0 l0.length c0] rfl agn ?_; (with_reducible refine (check_Sum.calls k _ _ l0 t155 _ ?side1 ?side2 A2.out).mono ?_); (case side1 => exact cel HR0.out); (case side2 => exact HC0.out); rintro e w4 ⟨rfl, hb⟩; refine ⟨_, rfl, ?_⟩; have n0_ := bstep hb; clear HB; have HB := n0_; clear n0_; (try clear hb); (try clear hb2); (try clear hk); (try clear hi)) | ((with_reducible refine gate_callee (f := 17) rfl ?_); refine goesL_ (some 6) rfl rfl Try.func17 (by kernel_rfl) rfl #[.int .i64 (wrap64 (t155))] rfl agn ?_; (with_reducible refine (wire_Num.calls (wrap64 (t155)) t156 _ A3.out).mono ?_); rintro e w5 ⟨v157, rfl, ho0, hb⟩; refine ⟨_, rfl, ?_⟩; have n0_ := aS (Kd.R_lower ho0 (below_size bel)); have n1_ := bstep hb; clear HB; have HO158 := n0_; have HB := n1_; clear n0_ n1_; (try clear hb); (try clear hb2); (try clear hk); (try clear hi); (try clear ho0)))
 go_ret
 exact ⟨_, rf3, by (with_reducible repeat (first | apply Kd.R_alloc | apply Kd.R_drewN | apply Kd.R_drew)); exact HO158.out, bel⟩

/-! ### frame_Put: function 20 -/
def frame_Put.f (k : Nat) (l0 : List Int) : Option (List Int) := if (l0.length : Int) > 65535 then (some ([] : List Int)) else ((wire_Num.f (l0.length : Int)).bind fun t159 => ((frame_sum.f k t159).bind fun t162 => ((frame_sum.f k l0).bind fun t165 => ((slices_Concat_byte_byte.f (([t159, t162, t165, l0] : List (List Int)))).bind fun t171 => (some t171)))))
theorem frame_Put.mono : ∀ a0 k, LeO (frame_Put.f k a0) (frame_Put.f (k + 1) a0) := by
 intro a0 k
 unfold frame_Put.f
 repeat' first
   | (with_reducible exact frame_sum.mono _ _)
   | (with_reducible exact LeO.refl _)
   | (with_reducible exact LeO.none _)
   | (with_reducible refine LeO.ite ?_ ?_)
   | (with_reducible refine LeO.bind ?_ (fun _ => ?_))
   | exact LeO.none _
   | refine LeO.ite ?_ ?_
   | refine LeO.bind ?_ (fun _ => ?_)
set_option maxHeartbeats 8000000 in
set_option maxRecDepth 100000 in
theorem frame_Put.calls (k : Nat) (P0_ : Nat → Prop) (A0 : Option Addr) (c0 : Nat) (l0 : List Int) (r : List Int) (w : World) (hs0 : Kd.V (Kd.int .u8) 5 w w.heap.size (fun k_ => P0_ k_) (.slice A0 l0.length c0) l0) (h : frame_Put.f k l0 = some r) :
  Calls Try.prog 20 #[.slice A0 l0.length c0] w fun e w' => ∃ v0_ : Value, e = .returned (v0_) ∧ Kd.R (Kd.int .u8) 5 w' w.heap.size (fun k_ => (w.heap.size ≤ k_)) v0_ r ∧ Below w.heap.size w w' := by
 have HO0 := aS (show Kd.V (Kd.int .u8) 5 w w.heap.size (fun k_ => (P0_ k_ ∨ w.heap.size ≤ k_)) (.slice A0 l0.length c0) l0 from Kd.V_mono hs0 (fun k_ hk => .inl hk))
 have HB := aS (Below.refl w.heap.size w)
 have H : (if (l0.length : Int) > 65535 then (some ([] : List Int)) else ((wire_Num.f (l0.length : Int)).bind fun t159 => ((frame_sum.f k t159).bind fun t162 => ((frame_sum.f k l0).bind fun t165 => ((slices_Concat_byte_byte.f (([t159, t162, t165, l0] : List (List Int)))).bind fun t171 => (some t171)))))) = some r := h
 clear h
 by_cases c2 : (l0.length : Int) > 65535
 ·
  rw [if_pos c2] at H
  have c2b0 : decide (65535 < (l0.length : Int)) = true := decide_eq_true c2
  have c2b1 : decide (65535 < l0.length) = true := decide_eq_true (by omega)
  clear c2
  obtain rfl := Option.some.inj H
  go_enter Try.func20, Try.ntmps20
  go_wp2
  go_ret
  exact ⟨_, rf3, by first | exact Kd.R_nil _ _ _ _ _ | exact Kd.N_nil _ _ _ _ _ | exact Kd.V_nil _ _ _ _ _ | exact Kd.Q_nil _ _ _ _ _ | exact Kd.S_nil _ _ _ _ _, bel⟩
 ·
  rw [if_neg c2] at H
  have c2b0 : decide (65535 < (l0.length : Int)) = false := decide_eq_false c2
  have c2b1 : decide (65535 < l0.length) = false := decide_eq_false (by omega)
  clear c2
  replace H := obm H
  obtain ⟨t159, A30, H⟩ := H
  replace H : ((frame_sum.f k t159).bind fun t162 => ((frame_sum.f k l0).bind fun t165 => ((slices_Concat_byte_byte.f (([t159, t162, t165, l0] : List (List Int)))).bind fun t171 => (some t171)))) = some r := H
  have A3 := aS A30
  clear A30
  replace H := obm H
  obtain ⟨t162, A40, H⟩ := H
  replace H : ((frame_sum.f k l0).bind fun t165 => ((slices_Concat_byte_byte.f (([t159, t162, t165, l0] : List (List Int)))).bind fun t171 => (some t171))) = some r := H
  have A4 := aS A40
  clear A40
  replace H := obm H
  obtain ⟨t165, A50, H⟩ := H
  replace H : ((slices_Concat_byte_byte.f (([t159, t162, t165, l0] : List (List Int)))).bind fun t171 => (some t171)) = some r := H
  have A5 := aS A50
  clear A50
  obtain ⟨y168, hy168⟩ : ∃ y_ : List (List Int), y_ = (([t159, t162, t165, l0] : List (List Int))) := ⟨_, rfl⟩
  replace H : ((slices_Concat_byte_byte.f y168).bind fun t171 => (some t171)) = some r := by first | (rw [hy168]; with_reducible exact H) | (have H2_ := (Option.bind_some _ _).symm.trans H; rw [hy168]; with_reducible exact H2_) | (have H2_ := (Option.bind_some _ _).symm.trans H; with_reducible exact H2_) | with_reducible exact H | (rw [hy168]; exact H) | exact H
  have Ny168 := aS hy168
  clear hy168
  replace H := obm H
  obtain ⟨t171, A60, H⟩ := H
  replace H : (some t171) = some r := H
  have A6 := aS A60
  clear A60
  obtain rfl := Option.some.inj H
  go_enter Try.func20, Try.ntmps20
  go_wp2_with (first | ((with_reducible refine gate_callee (f := 17) rfl ?_); refine goesL_ (some 9) rfl rfl Try.func17 (by kernel_rfl) rfl #[.int .i64 (l0.length : Int)] rfl agn ?_; (with_reducible refine (wire_Num.calls (l0.length : Int) t159 _ A3.out).mono ?_); rintro e w7 ⟨v160, rfl, ho0, hb⟩; refine ⟨_, rfl, ?_⟩; have n0_ := aS (Kd.V_elder' (sel HO0.out) (by first | exact Kd.R_base ho0 | exact Kd.S_base ho0 | exact Kd.R_base ho0 | exact Kd.V_base ho0) hb); have n1_ := aS (Kd.R_lower (Kd.R_newM (M := fun k_ => (w.heap.size ≤ k_)) ho0 (below_size bel) (fun k_ h_ => h_)) (below_size bel)); have n2_ := bstep hb; clear HO0; clear HB; have HO0 := n0_; have HO161 := n1_; have HB := n2_; clear n0_ n1_ n2_; (try clear hb); (try clear hb2); (try clear hk); (try clear hi); (try clear ho0); obtain ⟨Ao8, co8, eo8⟩ := Kd.R_slice HO161.out; subst eo8) | ((with_reducible refine gate_callee (f := 44) rfl ?_); refine goesL_ (some 12) rfl rfl Try.func44 (by kernel_rfl) rfl #[.slice Ao8 t159.length co8] rfl agn ?_; (with_reducible refine (frame_sum.calls k _ _ t159 t162 _ ?side1 ?side2 A4.out).mono ?_); (case side1 => exact cel ((Kd.R_reads' HO161.out).2.2)); (case side2 => exact (Kd.R_reads' HO161.out).2.1); rintro e w9 ⟨v163, rfl, ho0, hb⟩; refine ⟨_, rfl, ?_⟩; have n0_ := aS (Kd.V_elder' (sel HO0.out) (by first | exact Kd.R_base ho0 | exact Kd.S_base ho0 | exact Kd.R_base ho0 | exact Kd.V_base ho0) hb); have n1_ := aS (Kd.R_elder' (rel HO161.out) (by first | exact Kd.R_base ho0 | exact Kd.S_base ho0 | exact Kd.R_base ho0 | exact Kd.V_base ho0) hb); have n2_ := aS (Kd.R_lower (Kd.R_new' (Kd.R_newM (M := fun k_ => (w.heap.size ≤ k_)) ho0 (below_size bel) (fun k_ h_ => h_)) (Kd.R_lt (rel HO161.out))) (below_size bel)); have n3_ := bstep hb; clear HO0; clear HO161; clear HB; have HO0 := n0_; have HO161 := n1_; have HO164 := n2_; have HB := n3_; clear n0_ n1_ n2_ n3_; (try clear hb); (try clear hb2); (try clear hk); (try clear hi); (try clear ho0)) | ((with_reducible refine gate_callee (f := 44) rfl ?_); refine goesL_ (some 14) rfl rfl Try.func44 (by kernel_rfl) rfl #[.slice A0 l0.length c0] rfl agn ?_; (with_reducible refine (frame_sum.calls k _ _ l0 t165 _ ?side1 ?side2 A5.out).mono ?_); (case side1 => exact cel ((Kd.V_reads' HO0.out).2.2)); (case side2 => exact (Kd.V_reads' HO0.out).2.1); rintro e w10 ⟨v166, rfl, ho0, hb⟩; refine ⟨_, rfl, ?_⟩; have n0_ := aS (Kd.V_elder' (sel HO0.out) (by first | exact Kd.R_base ho0 | exact Kd.S_base ho0 | exact Kd.R_base ho0 | exact Kd.V_base ho0) hb); have n1_ := aS (Kd.R_elder' (rel HO161.out) (by first | exact Kd.R_base ho0 | exact Kd.S_base ho0 | exact Kd.R_base ho0 | exact Kd.V_base ho0) hb); have n2_ := aS (Kd.R_elder' (rel HO164.out) (by first | exact Kd.R_base ho0 | exact Kd.S_base ho0 | exact Kd.R_base ho0 | exact Kd.V_base ho0) hb); have n3_ := aS (Kd.R_lower (Kd.R_new' (Kd.R_new' (Kd.R_newM (M := fun k_ => (w.heap.size ≤ k_)) ho0 (below_size bel) (fun k_ h_ => h_)) (Kd.R_lt (rel HO161.out))) (Kd.R_lt (rel HO164.out))) (below_size bel)); have n4_ := bstep hb; clear HO0; clear HO161; clear HO164; clear HB; have HO0 := n0_; have HO161 := n1_; have HO164 := n2_; have HO167 := n3_; have HB := n4_; clear n0_ n1_ n2_ n3_ n4_; (try clear hb); (try clear hb2); (try clear hk); (try clear hi); (try clear ho0); obtain ⟨Ao11, co11, eo11⟩ := Kd.R_slice HO164.out; subst eo11; obtain ⟨Ao12, co12, eo12⟩ := Kd.R_slice HO167.out; subst eo12) | ((with_reducible refine gate_dst (N := 16) rfl ?_); refine Kd.N_lit (Kd.slice 5 (Kd.int .u8)) _ 29 ?hg (N' := 16) ?hd (xs := ([t159, t162, t165, l0] : List (List Int))) (inner := [.slice Ao8 t159.length co8, .slice Ao11 t162.length co11, .slice Ao12 t165.length co12, .slice A0 l0.length c0]) (ok := (fun k_ => (P0_ k_ ∨ w.heap.size ≤ k_))) (okp := (fun k_ => (P0_ k_ ∨ w.heap.size ≤ k_))) ?hr ?hp (fun _ hk => hk) ((show ∀ k_, w10.heap.size ≤ k_ → (fun k_ => (P0_ k_ ∨ w.heap.size ≤ k_)) k_ from fun k_ hk => (.inr (Nat.le_trans (below_size bel) hk))) _ (Nat.le_refl _)) (Below.refl _ _) (Nat.le_refl _) (by simp) ?_; (case hd => rfl); (case hg => rfl); (case hr => first | (go_simp; done) | (go_simp; rfl)); (case hp => exact (Reps.one (show Kd.FK (Kd.slice 5 (Kd.int .u8)) _ _ t159 [.slice Ao8 t159.length co8] from (Kd.FK_slice_mk (Kd.R_reads' (Kd.R_mono (ok' := (fun k_ => (P0_ k_ ∨ w.heap.size ≤ k_))) (HO161.out) (fun k_ hk => (.inr (hk.1.1.1))))).2.1 (Kd.R_F (Kd.R_mono (ok' := (fun k_ => (P0_ k_ ∨ w.heap.size ≤ k_))) (HO161.out) (fun k_ hk => (.inr (hk.1.1.1))))))) (Reps.one (show Kd.FK (Kd.slice 5 (Kd.int .u8)) _ _ t162 [.slice Ao11 t162.length co11] from (Kd.FK_slice_mk (Kd.R_reads' (Kd.R_mono (ok' := (fun k_ => (P0_ k_ ∨ w.heap.size ≤ k_))) (HO164.out) (fun k_ hk => (.inr (hk.1.1.1))))).2.1 (Kd.R_F (Kd.R_mono (ok' := (fun k_ => (P0_ k_ ∨ w.heap.size ≤ k_))) (HO164.out) (fun k_ hk => (.inr (hk.1.1.1))))))) (Reps.one (show Kd.FK (Kd.slice 5 (Kd.int .u8)) _ _ t165 [.slice Ao12 t165.length co12] from (Kd.FK_slice_mk (Kd.R_reads' (Kd.R_mono (ok' := (fun k_ => (P0_ k_ ∨ w.heap.size ≤ k_))) (HO167.out) (fun k_ hk => (.inr (hk.1.1.1))))).2.1 (Kd.R_F (Kd.R_mono (ok' := (fun k_ => (P0_ k_ ∨ w.heap.size ≤ k_))) (HO167.out) (fun k_ hk => (.inr (hk.1.1.1))))))) (Reps.one (show Kd.FK (Kd.slice 5 (Kd.int .u8)) _ _ l0 [.slice A0 l0.length c0] from (Kd.FK_slice_mk (Kd.V_reads' (Kd.V_mono (ok' := (fun k_ => (P0_ k_ ∨ w.heap.size ≤ k_))) (HO0.out) (fun k_ hk => hk.1.1.1))).2.1 (Kd.V_F (Kd.V_mono (ok' := (fun k_ => (P0_ k_ ∨ w.heap.size ≤ k_))) (HO0.out) (fun k_ hk => hk.1.1.1))))) (Reps.none _ _)))))); intro v169 w13 ho14 hb hg_ hnew_; clear hg_ hnew_; (first | rw [← Ny168.out] at ho14 | (simp only [Int.reduceToNat] at ho14; rw [← Ny168.out] at ho14)); have n0_ := aS (Kd.V_elder' (sel HO0.out) (by first | exact Kd.N_base ho14 | exact Kd.S_base ho14 | exact Kd.R_base ho14 | exact Kd.V_base ho14) hb); have n1_ := aS (Kd.N_lower ho14 (below_size bel)); have n2_ := bstep hb; clear HO0; clear HB; clear HO161; clear HO164; clear HO167; have HO0 := n0_; have HO170 := n1_; have HB := n2_; clear n0_ n1_ n2_; clear hb ho14; obtain ⟨Ao15, co15, eo15⟩ := Kd.N_slice HO170.out; subst eo15) | ((with_reducible refine gate_callee (f := 42) rfl ?_); refine goesL_ (some 17) rfl rfl Try.func42 (by kernel_rfl) rfl #[.slice Ao15 y168.length co15] rfl agn ?_; (with_reducible refine (slices_Concat_byte_byte.calls _ _ y168 t171 _ ?side1 ?side2 A6.out).mono ?_); (case side1 => exact cel ((Kd.N_reads' HO170.out).2.2)); (case side2 => exact (Kd.N_reads' HO170.out).2.1); rintro e w16 ⟨v172, rfl, ho0, hb⟩; refine ⟨_, rfl, ?_⟩; have n0_ := aS (Kd.V_elder' (sel HO0.out) (by first | exact Kd.R_base ho0 | exact Kd.S_base ho0 | exact Kd.R_base ho0 | exact Kd.V_base ho0) hb); have n1_ := aS (Kd.N_elder' (by (with_reducible repeat (first | apply Kd.N_alloc | apply Kd.N_drewN | apply Kd.N_drew)); exact HO170.out) (by first | exact Kd.R_base ho0 | exact Kd.S_base ho0 | exact Kd.R_base ho0 | exact Kd.V_base ho0) hb); have n2_ := aS (Kd.R_lower (Kd.R_newM (M := fun k_ => (w.heap.size ≤ k_)) ho0 (below_size bel) (fun k_ h_ => h_)) (below_size bel)); have n3_ := bstep hb; clear HO0; clear HO170; clear HB; have HO0 := n0_; have HO170 := n1_; have HO173 := n2_; have HB := n3_; clear n0_ n1_ n2_ n3_; (try clear hb); (try clear hb2); (try clear hk); (try clear hi); (try clear ho0)))
  go_ret
  exact ⟨_, rf3, by (with_reducible repeat (first | apply Kd.R_alloc | apply Kd.R_drewN | apply Kd.R_drew)); exact Kd.R_mono HO173.out (fun _ hk => hk.1), bel⟩

/-! ### wire_Texts: function 21 -/
def wire_Texts.l0 : Nat → List Int → List ByteArray → Int → Int → Option (List Int)
 | 0, _, _, _, _ => none
 | k + 1, x3, x9, x10, x11 => if x11 < x10 then (if 0 ≤ x11 then (if x11 < (x9.length : Int) then ((wire_Text.f (rdOf ByteArray.empty x9 x11)).bind fun t178 => (if x3.length + t178.length < 140737488355328 then (wire_Texts.l0 k (x3 ++ t178) x9 x10 (wrap64 (x11 + 1))) else (none))) else (none)) else (none)) else (some x3)
def wire_Texts.f (k : Nat) (l0 : List ByteArray) : Option (List Int) := (wire_Num.f (l0.length : Int)).bind fun t174 => (wire_Texts.l0 k t174 l0 (l0.length : Int) 0)
theorem wire_Texts.mono_l : ∀ k, (∀ y0 y1 y2 y3, LeO (wire_Texts.l0 k y0 y1 y2 y3) (wire_Texts.l0 (k + 1) y0 y1 y2 y3))
 | 0 => fun _ _ _ _ r h => by simp [wire_Texts.l0] at h
 | k + 1 => by
  have ih0 := wire_Texts.mono_l k
  ·
   intro y0 y1 y2 y3
   unfold wire_Texts.l0
   repeat' first
   | (with_reducible exact ih0 _ _ _ _)
   | (with_reducible exact LeO.refl _)
   | (with_reducible exact LeO.none _)
   | (with_reducible refine LeO.ite ?_ ?_)
   | (with_reducible refine LeO.bind ?_ (fun _ => ?_))
   | exact LeO.none _
   | refine LeO.ite ?_ ?_
   | refine LeO.bind ?_ (fun _ => ?_)
theorem wire_Texts.mono : ∀ a0 k, LeO (wire_Texts.f k a0) (wire_Texts.f (k + 1) a0) := by
 intro a0 k
 have ih0 := wire_Texts.mono_l k
 unfold wire_Texts.f
 repeat' first
   | (with_reducible exact ih0 _ _ _ _)
   | (with_reducible exact LeO.refl _)
   | (with_reducible exact LeO.none _)
   | (with_reducible refine LeO.ite ?_ ?_)
   | (with_reducible refine LeO.bind ?_ (fun _ => ?_))
   | exact LeO.none _
   | refine LeO.ite ?_ ?_
   | refine LeO.bind ?_ (fun _ => ?_)
set_option maxHeartbeats 8000000 in
set_option maxRecDepth 100000 in
theorem wire_Texts.calls (k : Nat) (A0 : Option Addr) (c0 : Nat) (l0 : List ByteArray) (r : List Int) (w : World) (hr0 : Kd.C Kd.string w A0 l0.length l0) (hc0 : l0.length ≤ c0) (h : wire_Texts.f k l0 = some r) :
  Calls Try.prog 21 #[.slice A0 l0.length c0] w fun e w' => ∃ v0_ : Value, e = .returned (v0_) ∧ Kd.R (Kd.int .u8) 5 w' w.heap.size (fun _ => True) v0_ r ∧ Below w.heap.size w w' := by
 have HR0 := aS hr0
 have HC0 := aS hc0
 clear hr0 hc0
 have HB := aS (Below.refl w.heap.size w)
 have H : ((wire_Num.f (l0.length : Int)).bind fun t174 => (wire_Texts.l0 k t174 l0 (l0.length : Int) 0)) = some r := h
 clear h
 replace H := obm H
 obtain ⟨t174, A20, H⟩ := H
 replace H : (wire_Texts.l0 k t174 l0 (l0.length : Int) 0) = some r := H
 have A2 := aS A20
 clear A20
 have H' := aS H
 clear H
 go_enter Try.func21, Try.ntmps21
 go_wp2_with (first | ((with_reducible refine gate_callee (f := 17) rfl ?_); refine goesL_ (some 8) rfl rfl Try.func17 (by kernel_rfl) rfl #[.int .i64 (l0.length : Int)] rfl agn ?_; (with_reducible refine (wire_Num.calls (l0.length : Int) t174 _ A2.out).mono ?_); rintro e w3 ⟨v175, rfl, ho0, hb⟩; refine ⟨_, rfl, ?_⟩; have n0_ := aS (Kd.R_lower ho0 (below_size bel)); have n1_ := bstep hb; clear HB; have HO176 := n0_; have HB := n1_; clear n0_ n1_; (try clear hb); (try clear hb2); (try clear hk); (try clear hi); (try clear ho0)))
 go_loopg [3, 11] k (fun kq v3 v11 w' => ∃ (x3_1 : List Int) (x11_1 : Int), v11 = .int .i64 x11_1 ∧ Aside0 (wire_Texts.l0 kq x3_1 l0 (l0.length : Int) x11_1 = some r) ∧ Aside0 (kq ≤ k) ∧ Aside0 (Kd.R (Kd.int .u8) 5 w' w.heap.size (fun _ => True) v3 x3_1) ∧ Aside0 (Below w.heap.size w w'))
 case atStart => exact ⟨(t174), (0), (by first | rfl | (simp; done) | (simp [*]; done) | (simp; exact (by decide : ∀ a_ b_ : Bool, (a_ == b_) = (!a_ != b_)) _ _)), H', ⟨Nat.le_refl _⟩, ⟨by (with_reducible repeat (first | apply Kd.R_alloc | apply Kd.R_drewN | apply Kd.R_drew)); exact HO176.out⟩, ⟨bel⟩⟩
 case round =>
  clear H'; (try clear c1); (try clear c2); (try clear p2)
  obtain ⟨x3_1, x11_1, rfl, HA, HK1, HO_3, HB⟩ := hrel
  cases gk with
  | zero => exact absurd HA.out (by simp [wire_Texts.l0])
  | succ k1 =>
   have H := HA.out; clear HA
   simp only [wire_Texts.l0] at H
   by_cases c4 : x11_1 < (l0.length : Int)
   ·
    rw [if_pos c4] at H
    have c4b0 : decide (x11_1 < (l0.length : Int)) = true := decide_eq_true c4
    clear c4
    by_cases c5 : 0 ≤ x11_1
    ·
     rw [if_pos c5] at H
     have c5b0 : decide (0 ≤ x11_1) = true := decide_eq_true c5
     clear c5
     by_cases c6 : x11_1 < (l0.length : Int)
     ·
      rw [if_pos c6] at H
      have c6b0 : decide (x11_1 < (l0.length : Int)) = true := decide_eq_true c6
      clear c6
      replace H := obm H
      obtain ⟨t178, A70, H⟩ := H
      replace H : (if x3_1.length + t178.length < 140737488355328 then (wire_Texts.l0 k1 (x3_1 ++ t178) l0 (l0.length : Int) (wrap64 (x11_1 + 1))) else (none)) = some r := H
      have A7 := aS A70
      clear A70
      by_cases c8 : x3_1.length + t178.length < 140737488355328
      ·
       rw [if_pos c8] at H
       have LMc8 := aS c8
       clear c8
       obtain ⟨y181, hy181⟩ : ∃ y_ : List Int, y_ = (x3_1 ++ t178) := ⟨_, rfl⟩
       replace H : (wire_Texts.l0 k1 y181 l0 (l0.length : Int) (wrap64 (x11_1 + 1))) = some r := by first | (rw [hy181]; with_reducible exact H) | (have H2_ := (Option.bind_some _ _).symm.trans H; rw [hy181]; with_reducible exact H2_) | (have H2_ := (Option.bind_some _ _).symm.trans H; with_reducible exact H2_) | with_reducible exact H | (rw [hy181]; exact H) | exact H
       have Ny181 := aS hy181
       clear hy181
       have H' := aS H
       clear H
       have p177 : 0 ≤ (x11_1 : Int) := odt (by first | (with_reducible assumption) | assumption)
       have q177 : x11_1 < (l0.length : Int) := odt (by first | (with_reducible assumption) | assumption)
       obtain ⟨ad177, e177, hx177_0⟩ := Kd.at_string HR0.out x11_1 p177 q177
       cases e177
       replace hx177_0 := (HB.out.cell (wbl w _ hx177_0)).trans hx177_0
       replace p177 := eq_true p177
       replace q177 := eq_true q177
       go_wp2_with (first | ((with_reducible refine gate_callee (f := 19) rfl ?_); refine goesL_ (some 17) rfl rfl Try.func19 (by kernel_rfl) rfl #[.string (rdOf ByteArray.empty l0 x11_1)] rfl agn ?_; (with_reducible refine (wire_Text.calls (rdOf ByteArray.empty l0 x11_1) t178 _ A7.out).mono ?_); rintro e w9 ⟨v179, rfl, ho0, hb⟩; refine ⟨_, rfl, ?_⟩; have n0_ := aS (Kd.R_elder' (rel HO_3.out) (by first | exact Kd.R_base ho0 | exact Kd.S_base ho0 | exact Kd.R_base ho0 | exact Kd.V_base ho0) hb); have n1_ := aS (Kd.R_lower (Kd.R_new' ho0 (Kd.R_lt (rel HO_3.out))) (below_size bel)); have n2_ := bstep hb; clear HO_3; clear HB; have HO_3 := n0_; have HO180 := n1_; have HB := n2_; clear n0_ n1_ n2_; (try clear hb); (try clear hb2); (try clear hk); (try clear hi); (try clear ho0); obtain ⟨Ao11, co11, eo11⟩ := Kd.R_slice HO180.out; subst eo11) | ((with_reducible refine gate_builtin (b := .append) (xs := #[.tmp 15, .tmp 17]) rfl ?_); at_builtin; refine Kd.R_append_rows (Kd.int .u8) (w0 := w) w.heap.size rfl (.tmp 15) (.tmp 17) 29 5 (.int .u8 0) 1 rfl Try.underlying29 info5 rfl (by decide) (by omega) u3 x3_1 t178 _ _ _ (fun k_ => some k_ ≠ (.slice Ao11 t178.length co11 : Value).ownBlock) (fun _ => False) rfl rfl ?aO ?aR (fun _ _ h => h) (fun _ h => h.elim) ?aF ?aB ?aS ?aL ?_; (case aR => exact cel ((Kd.R_reads' HO180.out).2.2)); (case aB => exact bel); (case aF => exact (fun k_ hk => Kd.fresh' (Kd.R_lt (rel HO180.out)) k_ hk)); (case aO => exact (rel (Kd.R_mono HO_3.out (fun _ hk => hk.2)))); (case aS => exact (below_size bel)); (case aL => have := LMc8.out; omega); intro v182 w10 ho hb hg hat; rw [← Ny181.out] at ho; have n0_ := aS (Kd.R_after (ok := (fun _ => True)) (rel HO180.out) hg hat); have n1_ := aS (hb); have n2_ := aS (ho); clear HO180; clear HB; clear HO_3; have HO180 := n0_; have HB := n1_; have HO183 := n2_; clear n0_ n1_ n2_; clear ho hb hg hat))
       go_roundg k1
       case measure => have := HK1.out; omega
       case rel => exact ⟨(y181), (wrap64 (x11_1 + 1)), (by first | rfl | (simp; done) | (simp [*]; done) | (simp; exact (by decide : ∀ a_ b_ : Bool, (a_ == b_) = (!a_ != b_)) _ _)), H', ⟨by have := HK1.out; omega⟩, ⟨by (with_reducible repeat (first | apply Kd.R_alloc | apply Kd.R_drewN | apply Kd.R_drew)); exact Kd.R_mono HO183.out (fun _ hk => trivial)⟩, ⟨bel⟩⟩
      ·
       rw [if_neg c8] at H
       exact absurd H (by simp)
     ·
      rw [if_neg c6] at H
      exact absurd H (by simp)
    ·
     rw [if_neg c5] at H
     exact absurd H (by simp)
   ·
    rw [if_neg c4] at H
    have c4b0 : decide (x11_1 < (l0.length : Int)) = false := decide_eq_false c4
    clear c4
    obtain rfl := Option.some.inj H
    go_wp2
    go_ret
    exact ⟨_, rf3, by (with_reducible repeat (first | apply Kd.R_alloc | apply Kd.R_drewN | apply Kd.R_drew)); exact HO_3.out, bel⟩

/-! ### msg_Put: function 9 -/
mutual
def msg_Put.l0 : Nat → List Int → List Int → Int → Int → Int → Int → Int → Int → Int → Int → Int → Int → Bool → ByteArray → List (S23) → Option (List Int × Int)
 | 0, _, _, _, _, _, _, _, _, _, _, _, _, _, _, _ => none
 | k + 1, x4, x28, x29, x30, x185000, x185001, x185002, x185003, x185004, x185005, x185006, x185007, x185008, x185009, x185010 => if x30 < x29 then (if 0 ≤ x30 then (if x30 < (x28.length : Int) then ((wire_Num.f (rd x28 x30)).bind fun t190 => (if x4.length + t190.length < 140737488355328 then (msg_Put.l0 k (x4 ++ t190) x28 x29 (wrap64 (x30 + 1)) x185000 x185001 x185002 x185003 x185004 x185005 x185006 x185007 x185008 x185009 x185010) else (none))) else (none)) else (none)) else ((slot_Put.f x185005 x185006 x185007 x185008 x185009).bind fun bt196 => ((wire_Text.f (strOfNums bt196.1)).bind fun t200 => (if x4.length + t200.length < 140737488355328 then (msg_Put.l1 k (x4 ++ t200) ([] : List ByteArray) x185010 (x185010.length : Int) 0) else (none))))
def msg_Put.l1 : Nat → List Int → List ByteArray → List (S23) → Int → Int → Option (List Int × Int)
 | 0, _, _, _, _, _ => none
 | k + 1, x4, x9, x51, x52, x53 => if x53 < x52 then (if 0 ≤ x53 then (if x53 < (x51.length : Int) then ((slot_Put.f ((rd_T23 x51 x53).f0) ((rd_T23 x51 x53).f1) ((rd_T23 x51 x53).f2) ((rd_T23 x51 x53).f3) ((rd_T23 x51 x53).f4)).bind fun bt208 => (if x9.length < 8796093022208 then (msg_Put.l1 k x4 (x9 ++ [strOfNums bt208.1]) x51 x52 (wrap64 (x53 + 1))) else (none))) else (none)) else (none)) else ((wire_Texts.f k x9).bind fun t215 => (if x4.length + t215.length < 140737488355328 then ((frame_Put.f k (x4 ++ t215)).bind fun t221 => (if (t221.length : Int) = 0 then (some (([] : List Int), 1)) else (some (t221, 0)))) else (none)))
end
def msg_Put.f (k : Nat) (a0_0 : Int) (a0_1 : Int) (a0_2 : Int) (a0_3 : Int) (a0_4 : Int) (a0_5 : Int) (a0_6 : Int) (a0_7 : Int) (a0_8 : Bool) (a0_9 : ByteArray) (l0_10 : List (S23)) : Option (List Int × Int) := (msg_Right.f k a0_0 a0_1 a0_2 a0_3 a0_4 a0_5 a0_6 a0_7 a0_8 a0_9 l0_10).bind fun t185 => (if t185 = true then ((some (([a0_0, a0_1, a0_2, a0_3, a0_4] : List Int) : List Int)).bind fun y186 => (msg_Put.l0 k ([] : List Int) y186 (y186.length : Int) 0 a0_0 a0_1 a0_2 a0_3 a0_4 a0_5 a0_6 a0_7 a0_8 a0_9 l0_10)) else (some (([] : List Int), 1)))
theorem msg_Put.mono_l : ∀ k, (∀ y0 y1 y2 y3 y4 y5 y6 y7 y8 y9 y10 y11 y12 y13 y14, LeO (msg_Put.l0 k y0 y1 y2 y3 y4 y5 y6 y7 y8 y9 y10 y11 y12 y13 y14) (msg_Put.l0 (k + 1) y0 y1 y2 y3 y4 y5 y6 y7 y8 y9 y10 y11 y12 y13 y14)) ∧ (∀ y0 y1 y2 y3 y4, LeO (msg_Put.l1 k y0 y1 y2 y3 y4) (msg_Put.l1 (k + 1) y0 y1 y2 y3 y4))
 | 0 => ⟨fun _ _ _ _ _ _ _ _ _ _ _ _ _ _ _ r h => by simp [msg_Put.l0] at h, fun _ _ _ _ _ r h => by simp [msg_Put.l1] at h⟩
 | k + 1 => by
  obtain ⟨ih0, ih1⟩ := msg_Put.mono_l k
  refine ⟨?_, ?_⟩
  ·
   intro y0 y1 y2 y3 y4 y5 y6 y7 y8 y9 y10 y11 y12 y13 y14
   unfold msg_Put.l0
   repeat' first
   | (with_reducible exact ih0 _ _ _ _ _ _ _ _ _ _ _ _ _ _ _)
   | (with_reducible exact ih1 _ _ _ _ _)
   | (with_reducible exact frame_Put.mono _ _)
   | (with_reducible exact msg_Right.mono _ _ _ _ _ _ _ _ _ _ _ _)
   | (with_reducible exact wire_Texts.mono _ _)
   | (with_reducible exact LeO.refl _)
   | (with_reducible exact LeO.none _)
   | (with_reducible refine LeO.ite ?_ ?_)
   | (with_reducible refine LeO.bind ?_ (fun _ => ?_))
   | exact LeO.none _
   | refine LeO.ite ?_ ?_
   | refine LeO.bind ?_ (fun _ => ?_)
  ·
   intro y0 y1 y2 y3 y4
   unfold msg_Put.l1
   repeat' first
   | (with_reducible exact ih0 _ _ _ _ _ _ _ _ _ _ _ _ _ _ _)
   | (with_reducible exact ih1 _ _ _ _ _)
   | (with_reducible exact frame_Put.mono _ _)
   | (with_reducible exact msg_Right.mono _ _ _ _ _ _ _ _ _ _ _ _)
   | (with_reducible exact wire_Texts.mono _ _)
   | (with_reducible exact LeO.refl _)
   | (with_reducible exact LeO.none _)
   | (with_reducible refine LeO.ite ?_ ?_)
   | (with_reducible refine LeO.bind ?_ (fun _ => ?_))
   | exact LeO.none _
   | refine LeO.ite ?_ ?_
   | refine LeO.bind ?_ (fun _ => ?_)
theorem msg_Put.mono : ∀ a0 a1 a2 a3 a4 a5 a6 a7 a8 a9 a10 k, LeO (msg_Put.f k a0 a1 a2 a3 a4 a5 a6 a7 a8 a9 a10) (msg_Put.f (k + 1) a0 a1 a2 a3 a4 a5 a6 a7 a8 a9 a10) := by
 intro a0 a1 a2 a3 a4 a5 a6 a7 a8 a9 a10 k
 obtain ⟨ih0, ih1⟩ := msg_Put.mono_l k
 unfold msg_Put.f
 repeat' first
   | (with_reducible exact ih0 _ _ _ _ _ _ _ _ _ _ _ _ _ _ _)
   | (with_reducible exact ih1 _ _ _ _ _)
   | (with_reducible exact frame_Put.mono _ _)
   | (with_reducible exact msg_Right.mono _ _ _ _ _ _ _ _ _ _ _ _)
   | (with_reducible exact wire_Texts.mono _ _)
   | (with_reducible exact LeO.refl _)
   | (with_reducible exact LeO.none _)
   | (with_reducible refine LeO.ite ?_ ?_)
   | (with_reducible refine LeO.bind ?_ (fun _ => ?_))
   | exact LeO.none _
   | refine LeO.ite ?_ ?_
   | refine LeO.bind ?_ (fun _ => ?_)
set_option maxHeartbeats 8000000 in
set_option maxRecDepth 100000 in
theorem msg_Put.calls (k : Nat) (a0_0 : Int) (a0_1 : Int) (a0_2 : Int) (a0_3 : Int) (a0_4 : Int) (a0_5 : Int) (a0_6 : Int) (a0_7 : Int) (a0_8 : Bool) (a0_9 : ByteArray) (A0_10 : Option Addr) (c0_10 : Nat) (l0_10 : List (S23)) (r1 : List Int) (r2 : Int) (w : World) (hr0_10 : Kd.C k23 w A0_10 l0_10.length l0_10) (hc0_10 : l0_10.length ≤ c0_10) (h : msg_Put.f k a0_0 a0_1 a0_2 a0_3 a0_4 a0_5 a0_6 a0_7 a0_8 a0_9 l0_10 = some (r1, r2)) :
  Calls Try.prog 9 #[.agg #[.int .i64 a0_0, .int .i64 a0_1, .int .i64 a0_2, .int .i64 a0_3, .int .i64 a0_4, .int .i64 a0_5, .int .i64 a0_6, .int .i64 a0_7, .bool a0_8, .string a0_9, .slice A0_10 l0_10.length c0_10]] w fun e w' => ∃ v0_ : Value, e = .returned (.tuple #[v0_, .int .i64 r2]) ∧ Kd.R (Kd.int .u8) 5 w' w.heap.size (fun _ => True) v0_ r1 ∧ Below w.heap.size w w' := by
 have hu26 := Try.underlying26; have hu23 := Try.underlying23
 have HR0_10 := aS hr0_10
 have HC0_10 := aS hc0_10
 clear hr0_10 hc0_10
 have HB := aS (Below.refl w.heap.size w)
 have H : ((msg_Right.f k a0_0 a0_1 a0_2 a0_3 a0_4 a0_5 a0_6 a0_7 a0_8 a0_9 l0_10).bind fun t185 => (if t185 = true then ((some (([a0_0, a0_1, a0_2, a0_3, a0_4] : List Int) : List Int)).bind fun y186 => (msg_Put.l0 k ([] : List Int) y186 (y186.length : Int) 0 a0_0 a0_1 a0_2 a0_3 a0_4 a0_5 a0_6 a0_7 a0_8 a0_9 l0_10)) else (some (([] : List Int), 1)))) = some (r1, r2) := h
 clear h
 replace H := obm H
 obtain ⟨t185, A20, H⟩ := H
 replace H : (if t185 = true then ((some (([a0_0, a0_1, a0_2, a0_3, a0_4] : List Int) : List Int)).bind fun y186 => (msg_Put.l0 k ([] : List Int) y186 (y186.length : Int) 0 a0_0 a0_1 a0_2 a0_3 a0_4 a0_5 a0_6 a0_7 a0_8 a0_9 l0_10)) else (some (([] : List Int), 1))) = some (r1, r2) := H
 have A2 := aS A20
 clear A20
 by_cases c3 : t185 = true
 ·
  subst c3
  have H1 : ((some (([a0_0, a0_1, a0_2, a0_3, a0_4] : List Int) : List Int)).bind fun y186 => (msg_Put.l0 k ([] : List Int) y186 (y186.length : Int) 0 a0_0 a0_1 a0_2 a0_3 a0_4 a0_5 a0_6 a0_7 a0_8 a0_9 l0_10)) = some (r1, r2) := by rw [if_pos rfl] at H; exact H
  clear H; have H := H1; clear H1
  obtain ⟨y186, hy186⟩ : ∃ y_ : List Int, y_ = (([a0_0, a0_1, a0_2, a0_3, a0_4] : List Int)) := ⟨_, rfl⟩
  replace H : (msg_Put.l0 k ([] : List Int) y186 (y186.length : Int) 0 a0_0 a0_1 a0_2 a0_3 a0_4 a0_5 a0_6 a0_7 a0_8 a0_9 l0_10) = some (r1, r2) := by first | (rw [hy186]; with_reducible exact H) | (have H2_ := (Option.bind_some _ _).symm.trans H; rw [hy186]; with_reducible exact H2_) | (have H2_ := (Option.bind_some _ _).symm.trans H; with_reducible exact H2_) | with_reducible exact H | (rw [hy186]; exact H) | exact H
  have Ny186 := aS hy186
  clear hy186
  have H' := aS H
  clear H
  go_enter Try.func9, Try.ntmps9
  go_wp2_with (first | ((with_reducible refine gate_dst (N := 1) rfl ?_); refine box_event ?hg (N := 1) ?hd (cs := #[.int .i64 a0_0, .int .i64 a0_1, .int .i64 a0_2, .int .i64 a0_3, .int .i64 a0_4, .int .i64 a0_5, .int .i64 a0_6, .int .i64 a0_7, .bool a0_8, .string a0_9, .slice A0_10 l0_10.length c0_10]) (t := 26) ?hr ?_; (case hd => rfl); (case hg => rfl); (case hr => first | (go_simp; done) | (go_simp; rfl)); intro gb184 hg w4 hbox hb; have n0_ := bstep hb; have n1_ := aS (hbox); have n2_ := bsize hg; have n3_ := bsize hg; clear HB; have HB := n0_; have BK184 := n1_; have GW184 := n2_; have GE184 := n3_; clear n0_ n1_ n2_ n3_; clear hb hbox hg; have hcz5 := cK11 BK184) | ((with_reducible refine gate_callee (f := 10) rfl ?_); refine goesL_ (some 16) rfl rfl Try.func10 (by kernel_rfl) rfl #[.agg #[.int .i64 a0_0, .int .i64 a0_1, .int .i64 a0_2, .int .i64 a0_3, .int .i64 a0_4, .int .i64 a0_5, .int .i64 a0_6, .int .i64 a0_7, .bool a0_8, .string a0_9, .slice A0_10 l0_10.length c0_10]] rfl agn ?_; (with_reducible refine (msg_Right.calls k a0_0 a0_1 a0_2 a0_3 a0_4 a0_5 a0_6 a0_7 a0_8 a0_9 _ _ l0_10 true _ ?side1 ?side2 A2.out).mono ?_); (case side1 => exact cel (Kd.C_below HR0_10.out HB.out)); (case side2 => exact HC0_10.out); rintro e w6 ⟨rfl, hb⟩; refine ⟨_, rfl, ?_⟩; have n0_ := aS (blk_below (g := gb184) (o := .cells #[.int .i64 a0_0, .int .i64 a0_1, .int .i64 a0_2, .int .i64 a0_3, .int .i64 a0_4, .int .i64 a0_5, .int .i64 a0_6, .int .i64 a0_7, .bool a0_8, .string a0_9, .slice A0_10 l0_10.length c0_10] 26 (0, 0)) (bkl BK184.out) hb); have n1_ := bstep hb; clear BK184; clear HB; have BK184 := n0_; have HB := n1_; clear n0_ n1_; (try clear hb); (try clear hb2); (try clear hk); (try clear hi); have hcz7 := cK11 BK184) | ((with_reducible refine gate_dst (N := 28) rfl ?_); refine Kd.R_lit (Kd.int .i64) _ 3 ?hg (N := 28) ?hd (xs := ([a0_0, a0_1, a0_2, a0_3, a0_4] : List Int)) (inner := [.int .i64 a0_0, .int .i64 a0_1, .int .i64 a0_2, .int .i64 a0_3, .int .i64 a0_4]) (ok := fun _ => True) (okp := fun _ => True) ?hr ?hp (fun _ hk => hk) trivial (Below.refl _ _) (Nat.le_refl _) (by simp) ?_; (case hd => rfl); (case hg => rfl); (case hr => first | (go_simp; done) | (go_simp; rfl)); (case hp => exact (Reps.one (show Kd.M (Kd.int .i64) _ _ _ a0_0 [.int .i64 a0_0] from rfl) (Reps.one (show Kd.M (Kd.int .i64) _ _ _ a0_1 [.int .i64 a0_1] from rfl) (Reps.one (show Kd.M (Kd.int .i64) _ _ _ a0_2 [.int .i64 a0_2] from rfl) (Reps.one (show Kd.M (Kd.int .i64) _ _ _ a0_3 [.int .i64 a0_3] from rfl) (Reps.one (show Kd.M (Kd.int .i64) _ _ _ a0_4 [.int .i64 a0_4] from rfl) (Reps.none _ _))))))); intro v187 w8 ho9 hb hg_ hnew_; clear hg_ hnew_; (first | rw [← Ny186.out] at ho9 | (simp only [Int.reduceToNat] at ho9; rw [← Ny186.out] at ho9)); have n0_ := aS (Kd.R_lower ho9 (below_size bel)); have n1_ := aS (blk_below (g := gb184) (o := .cells #[.int .i64 a0_0, .int .i64 a0_1, .int .i64 a0_2, .int .i64 a0_3, .int .i64 a0_4, .int .i64 a0_5, .int .i64 a0_6, .int .i64 a0_7, .bool a0_8, .string a0_9, .slice A0_10 l0_10.length c0_10] 26 (0, 0)) (bkl BK184.out) hb); have n2_ := bstep hb; clear BK184; clear HB; have HO188 := n0_; have BK184 := n1_; have HB := n2_; clear n0_ n1_ n2_; clear hb ho9; obtain ⟨Ao10, co10, eo10⟩ := Kd.R_slice HO188.out; subst eo10))
  go_loopg [4, 30] k (fun kq v4 v30 w' => ∃ (x4_1 : List Int) (x30_1 : Int), v30 = .int .i64 x30_1 ∧ Aside0 (msg_Put.l0 kq x4_1 y186 (y186.length : Int) x30_1 a0_0 a0_1 a0_2 a0_3 a0_4 a0_5 a0_6 a0_7 a0_8 a0_9 l0_10 = some (r1, r2)) ∧ Aside0 (kq ≤ k) ∧ Aside0 (Kd.R (Kd.int .u8) 5 w' w.heap.size (fun _ => True) v4 x4_1) ∧ Aside0 (Kd.R (Kd.int .i64) 3 w' w.heap.size (fun _ => True) (.slice Ao10 y186.length co10) y186) ∧ Aside0 (w'.heap[gb184]? = some (.cells #[.int .i64 a0_0, .int .i64 a0_1, .int .i64 a0_2, .int .i64 a0_3, .int .i64 a0_4, .int .i64 a0_5, .int .i64 a0_6, .int .i64 a0_7, .bool a0_8, .string a0_9, (.slice A0_10 l0_10.length c0_10)] 26 (0, 0))) ∧ Aside0 (Below w.heap.size w w'))
  case atStart => exact ⟨(([] : List Int)), (0), (by first | rfl | (simp; done) | (simp [*]; done) | (simp; exact (by decide : ∀ a_ b_ : Bool, (a_ == b_) = (!a_ != b_)) _ _)), H', ⟨Nat.le_refl _⟩, ⟨by first | exact Kd.R_nil _ _ _ _ _ | exact Kd.N_nil _ _ _ _ _ | exact Kd.V_nil _ _ _ _ _ | exact Kd.Q_nil _ _ _ _ _ | exact Kd.S_nil _ _ _ _ _⟩, ⟨by (with_reducible repeat (first | apply Kd.R_alloc | apply Kd.R_drewN | apply Kd.R_drew)); exact HO188.out⟩, ⟨by (with_reducible repeat (first | refine blk_drewN ?_ _ | refine blk_drew ?_ | refine blk_alloc ?_ _)); exact BK184.out⟩, ⟨bel⟩⟩
  case round =>
   clear H'; (try clear c1); (try clear p2); (try clear c3); (try clear c9); (try clear c10); (try clear hcz5); (try clear hcz7)
   obtain ⟨x4_1, x30_1, rfl, HA, HK1, HO_4, HO_28, BK184, HB⟩ := hrel
   cases gk with
   | zero => exact absurd HA.out (by simp [msg_Put.l0])
   | succ k1 =>
    have H := HA.out; clear HA
    simp only [msg_Put.l0] at H
    by_cases c11 : x30_1 < (y186.length : Int)
    ·
     rw [if_pos c11] at H
     have c11b0 : decide (x30_1 < (y186.length : Int)) = true := decide_eq_true c11
     clear c11
     by_cases c12 : 0 ≤ x30_1
     ·
      rw [if_pos c12] at H
      have c12b0 : decide (0 ≤ x30_1) = true := decide_eq_true c12
      clear c12
      by_cases c13 : x30_1 < (y186.length : Int)
      ·
       rw [if_pos c13] at H
       have c13b0 : decide (x30_1 < (y186.length : Int)) = true := decide_eq_true c13
       clear c13
       replace H := obm H
       obtain ⟨t190, A140, H⟩ := H
       replace H : (if x4_1.length + t190.length < 140737488355328 then (msg_Put.l0 k1 (x4_1 ++ t190) y186 (y186.length : Int) (wrap64 (x30_1 + 1)) a0_0 a0_1 a0_2 a0_3 a0_4 a0_5 a0_6 a0_7 a0_8 a0_9 l0_10) else (none)) = some (r1, r2) := H
       have A14 := aS A140
       clear A140
       by_cases c15 : x4_1.length + t190.length < 140737488355328
       ·
        rw [if_pos c15] at H
        have LMc15 := aS c15
        clear c15
        obtain ⟨y193, hy193⟩ : ∃ y_ : List Int, y_ = (x4_1 ++ t190) := ⟨_, rfl⟩
        replace H : (msg_Put.l0 k1 y193 y186 (y186.length : Int) (wrap64 (x30_1 + 1)) a0_0 a0_1 a0_2 a0_3 a0_4 a0_5 a0_6 a0_7 a0_8 a0_9 l0_10) = some (r1, r2) := by first | (rw [hy193]; with_reducible exact H) | (have H2_ := (Option.bind_some _ _).symm.trans H; rw [hy193]; with_reducible exact H2_) | (have H2_ := (Option.bind_some _ _).symm.trans H; with_reducible exact H2_) | with_reducible exact H | (rw [hy193]; exact H) | exact H
        have Ny193 := aS hy193
        clear hy193
        have H' := aS H
        clear H
        have p189 : 0 ≤ (x30_1 : Int) := odt (by first | (with_reducible assumption) | assumption)
        have q189 : x30_1 < (y186.length : Int) := odt (by first | (with_reducible assumption) | assumption)
        obtain ⟨ad189, e189, hx189_0⟩ := Kd.at_int (Kd.R_reads' HO_28.out).2.2 x30_1 p189 q189
        cases e189
        replace p189 := eq_true p189
        replace q189 := eq_true q189
        go_wp2_with (first | ((with_reducible refine gate_callee (f := 17) rfl ?_); refine goesL_ (some 36) rfl rfl Try.func17 (by kernel_rfl) rfl #[.int .i64 (rd y186 x30_1)] rfl agn ?_; (with_reducible refine (wire_Num.calls (rd y186 x30_1) t190 _ A14.out).mono ?_); rintro e w16 ⟨v191, rfl, ho0, hb⟩; refine ⟨_, rfl, ?_⟩; have n0_ := aS (Kd.R_elder' (rel HO_4.out) (by first | exact Kd.R_base ho0 | exact Kd.S_base ho0 | exact Kd.R_base ho0 | exact Kd.V_base ho0) hb); have n1_ := aS (Kd.R_below (rel HO_28.out) hb); have n2_ := aS (Kd.R_lower (Kd.R_new' ho0 (Kd.R_lt (rel HO_4.out))) (below_size bel)); have n3_ := aS (blk_below (g := gb184) (o := .cells #[.int .i64 a0_0, .int .i64 a0_1, .int .i64 a0_2, .int .i64 a0_3, .int .i64 a0_4, .int .i64 a0_5, .int .i64 a0_6, .int .i64 a0_7, .bool a0_8, .string a0_9, .slice A0_10 l0_10.length c0_10] 26 (0, 0)) (bkl BK184.out) hb); have n4_ := bstep hb; clear HO_4; clear HO_28; clear BK184; clear HB; have HO_4 := n0_; have HO_28 := n1_; have HO192 := n2_; have BK184 := n3_; have HB := n4_; clear n0_ n1_ n2_ n3_ n4_; (try clear hb); (try clear hb2); (try clear hk); (try clear hi); (try clear ho0); obtain ⟨Ao18, co18, eo18⟩ := Kd.R_slice HO192.out; subst eo18) | ((with_reducible refine gate_builtin (b := .append) (xs := #[.tmp 34, .tmp 36]) rfl ?_); at_builtin; refine Kd.R_append_rows (Kd.int .u8) (w0 := w) w.heap.size rfl (.tmp 34) (.tmp 36) 29 5 (.int .u8 0) 1 rfl Try.underlying29 info5 rfl (by decide) (by omega) u4 x4_1 t190 _ _ _ (fun k_ => some k_ ≠ (.slice Ao18 t190.length co18 : Value).ownBlock) (fun _ => False) rfl rfl ?aO ?aR (fun _ _ h => h) (fun _ h => h.elim) ?aF ?aB ?aS ?aL ?_; (case aR => exact cel ((Kd.R_reads' HO192.out).2.2)); (case aB => exact bel); (case aF => exact (fun k_ hk => Kd.fresh' (Kd.R_lt (rel HO192.out)) k_ hk)); (case aO => exact (rel (Kd.R_mono HO_4.out (fun _ hk => hk.2)))); (case aS => exact (below_size bel)); (case aL => have := LMc15.out; omega); intro v194 w17 ho hb hg hat; rw [← Ny193.out] at ho; have n0_ := aS (Kd.R_over' (rel HO_28.out) (Kd.R_typed (rel HO_4.out)) (by decide) hg); have n1_ := aS (blk_grown (g := gb184) (o := .cells #[.int .i64 a0_0, .int .i64 a0_1, .int .i64 a0_2, .int .i64 a0_3, .int .i64 a0_4, .int .i64 a0_5, .int .i64 a0_6, .int .i64 a0_7, .bool a0_8, .string a0_9, .slice A0_10 l0_10.length c0_10] 26 (0, 0)) (bkl BK184.out) hg (Kd.R_ne HO_4.out BK184.out (by decide))); have n2_ := aS (Kd.R_after (ok := (fun _ => True)) (rel HO192.out) hg hat); have n3_ := aS (hb); have n4_ := aS (ho); clear HO_28; clear BK184; clear HO192; clear HB; clear HO_4; have HO_28 := n0_; have BK184 := n1_; have HO192 := n2_; have HB := n3_; have HO195 := n4_; clear n0_ n1_ n2_ n3_ n4_; clear ho hb hg hat))
        go_roundg k1
        case measure => have := HK1.out; omega
        case rel => exact ⟨(y193), (wrap64 (x30_1 + 1)), (by first | rfl | (simp; done) | (simp [*]; done) | (simp; exact (by decide : ∀ a_ b_ : Bool, (a_ == b_) = (!a_ != b_)) _ _)), H', ⟨by have := HK1.out; omega⟩, ⟨by (with_reducible repeat (first | apply Kd.R_alloc | apply Kd.R_drewN | apply Kd.R_drew)); exact Kd.R_mono HO195.out (fun _ hk => trivial)⟩, ⟨by (with_reducible repeat (first | apply Kd.R_alloc | apply Kd.R_drewN | apply Kd.R_drew)); exact HO_28.out⟩, ⟨by (with_reducible repeat (first | refine blk_drewN ?_ _ | refine blk_drew ?_ | refine blk_alloc ?_ _)); exact BK184.out⟩, ⟨bel⟩⟩
       ·
        rw [if_neg c15] at H
        exact absurd H (by simp)
      ·
       rw [if_neg c13] at H
       exact absurd H (by simp)
     ·
      rw [if_neg c12] at H
      exact absurd H (by simp)
    ·
     rw [if_neg c11] at H
     have c11b0 : decide (x30_1 < (y186.length : Int)) = false := decide_eq_false c11
     clear c11
     replace H := obm H
     obtain ⟨⟨t196, t199⟩, A190, H⟩ := H
     replace H : ((wire_Text.f (strOfNums t196)).bind fun t200 => (if x4_1.length + t200.length < 140737488355328 then (msg_Put.l1 k1 (x4_1 ++ t200) ([] : List ByteArray) l0_10 (l0_10.length : Int) 0) else (none))) = some (r1, r2) := H
     have A19 := aS A190
     clear A190
     replace H := obm H
     obtain ⟨t200, A200, H⟩ := H
     replace H : (if x4_1.length + t200.length < 140737488355328 then (msg_Put.l1 k1 (x4_1 ++ t200) ([] : List ByteArray) l0_10 (l0_10.length : Int) 0) else (none)) = some (r1, r2) := H
     have A20 := aS A200
     clear A200
     by_cases c21 : x4_1.length + t200.length < 140737488355328
     ·
      rw [if_pos c21] at H
      have LMc21 := aS c21
      clear c21
      obtain ⟨y203, hy203⟩ : ∃ y_ : List Int, y_ = (x4_1 ++ t200) := ⟨_, rfl⟩
      replace H : (msg_Put.l1 k1 y203 ([] : List ByteArray) l0_10 (l0_10.length : Int) 0) = some (r1, r2) := by first | (rw [hy203]; with_reducible exact H) | (have H2_ := (Option.bind_some _ _).symm.trans H; rw [hy203]; with_reducible exact H2_) | (have H2_ := (Option.bind_some _ _).symm.trans H; with_reducible exact H2_) | with_reducible exact H | (rw [hy203]; exact H) | exact H
      have Ny203 := aS hy203
      clear hy203
      have H' := aS H
      clear H
      have hcz22 := cK11 BK184
      go_wp2_with (first | ((with_reducible refine gate_callee (f := 18) rfl ?_); refine goesL_ (some 42) rfl rfl Try.func18 (by kernel_rfl) rfl #[.agg #[.int .i64 a0_5, .int .i64 a0_6, .int .i64 a0_7, .bool a0_8, .string a0_9]] rfl agn ?_; (with_reducible refine (slot_Put.calls a0_5 a0_6 a0_7 a0_8 a0_9 t196 t199 _ A19.out).mono ?_); rintro e w23 ⟨v197, rfl, ho0, hb⟩; refine ⟨_, rfl, ?_⟩; have n0_ := aS (Kd.R_elder' (rel HO_4.out) (by first | exact Kd.R_base ho0 | exact Kd.S_base ho0 | exact Kd.R_base ho0 | exact Kd.V_base ho0) hb); have n1_ := aS (Kd.R_below (rel HO_28.out) hb); have n2_ := aS (Kd.R_lower (Kd.R_new' ho0 (Kd.R_lt (rel HO_4.out))) (below_size bel)); have n3_ := aS (blk_below (g := gb184) (o := .cells #[.int .i64 a0_0, .int .i64 a0_1, .int .i64 a0_2, .int .i64 a0_3, .int .i64 a0_4, .int .i64 a0_5, .int .i64 a0_6, .int .i64 a0_7, .bool a0_8, .string a0_9, .slice A0_10 l0_10.length c0_10] 26 (0, 0)) (bkl BK184.out) hb); have n4_ := bstep hb; clear HO_4; clear HO_28; clear BK184; clear HB; have HO_4 := n0_; have HO_28 := n1_; have HO198 := n2_; have BK184 := n3_; have HB := n4_; clear n0_ n1_ n2_ n3_ n4_; (try clear hb); (try clear hb2); (try clear hk); (try clear hi); (try clear ho0); have hcv24 := own_string (P := Try.prog) Try.underlying29 Try.underlying5 Try.underlying9 (Kd.own_of_R HO198.out); have hcv25 := fun (m_ : Nat) => own_string (P := Try.prog) Try.underlying29 Try.underlying5 Try.underlying9 (pw_own_drewN (Kd.own_of_R HO198.out) m_)) | ((with_reducible refine gate_callee (f := 19) rfl ?_); refine goesL_ (some 48) rfl rfl Try.func19 (by kernel_rfl) rfl #[.string (strOfNums t196)] rfl agn ?_; (with_reducible refine (wire_Text.calls (strOfNums t196) t200 _ A20.out).mono ?_); rintro e w26 ⟨v201, rfl, ho0, hb⟩; refine ⟨_, rfl, ?_⟩; have n0_ := aS (Kd.R_elder' (rel HO_4.out) (by first | exact Kd.R_base ho0 | exact Kd.S_base ho0 | exact Kd.R_base ho0 | exact Kd.V_base ho0) hb); have n1_ := aS (Kd.R_below (rel HO_28.out) hb); have n2_ := aS (Kd.R_elder' (rel HO198.out) (by first | exact Kd.R_base ho0 | exact Kd.S_base ho0 | exact Kd.R_base ho0 | exact Kd.V_base ho0) hb); have n3_ := aS (Kd.R_lower (Kd.R_new' (Kd.R_new' ho0 (Kd.R_lt (rel HO_4.out))) (Kd.R_lt (rel HO198.out))) (below_size bel)); have n4_ := aS (blk_below (g := gb184) (o := .cells #[.int .i64 a0_0, .int .i64 a0_1, .int .i64 a0_2, .int .i64 a0_3, .int .i64 a0_4, .int .i64 a0_5, .int .i64 a0_6, .int .i64 a0_7, .bool a0_8, .string a0_9, .slice A0_10 l0_10.length c0_10] 26 (0, 0)) (bkl BK184.out) hb); have n5_ := bstep hb; clear HO_4; clear HO_28; clear HO198; clear BK184; clear HB; have HO_4 := n0_; have HO_28 := n1_; have HO198 := n2_; have HO202 := n3_; have BK184 := n4_; have HB := n5_; clear n0_ n1_ n2_ n3_ n4_ n5_; (try clear hb); (try clear hb2); (try clear hk); (try clear hi); (try clear ho0); obtain ⟨Ao28, co28, eo28⟩ := Kd.R_slice HO202.out; subst eo28) | ((with_reducible refine gate_builtin (b := .append) (xs := #[.tmp 45, .tmp 48]) rfl ?_); at_builtin; refine Kd.R_append_rows (Kd.int .u8) (w0 := w) w.heap.size rfl (.tmp 45) (.tmp 48) 29 5 (.int .u8 0) 1 rfl Try.underlying29 info5 rfl (by decide) (by omega) u4 x4_1 t200 _ _ _ (fun k_ => some k_ ≠ (v197 : Value).ownBlock ∧ some k_ ≠ (.slice Ao28 t200.length co28 : Value).ownBlock) (fun _ => False) rfl rfl ?aO ?aR (fun _ _ h => h) (fun _ h => h.elim) ?aF ?aB ?aS ?aL ?_; (case aR => exact cel ((Kd.R_reads' HO202.out).2.2)); (case aB => exact bel); (case aF => exact (fun k_ hk => ⟨Kd.fresh' (Kd.R_lt (rel HO198.out)) k_ hk, Kd.fresh' (Kd.R_lt (rel HO202.out)) k_ hk⟩)); (case aO => exact (by (with_reducible repeat (first | apply Kd.R_alloc | apply Kd.R_drewN | apply Kd.R_drew)); exact Kd.R_mono HO_4.out (fun _ hk => ⟨hk.1.2, hk.2⟩))); (case aS => exact (below_size bel)); (case aL => have := LMc21.out; omega); intro v204 w27 ho hb hg hat; rw [← Ny203.out] at ho; have n0_ := aS (Kd.R_over' (rel HO_28.out) (Kd.R_typed (rel HO_4.out)) (by decide) hg); have n1_ := aS (blk_grown (g := gb184) (o := .cells #[.int .i64 a0_0, .int .i64 a0_1, .int .i64 a0_2, .int .i64 a0_3, .int .i64 a0_4, .int .i64 a0_5, .int .i64 a0_6, .int .i64 a0_7, .bool a0_8, .string a0_9, .slice A0_10 l0_10.length c0_10] 26 (0, 0)) (bkl BK184.out) hg (Kd.R_ne HO_4.out BK184.out (by decide))); have n2_ := aS (Kd.R_after (ok := (fun k_ => some k_ ≠ (.slice Ao28 t200.length co28 : Value).ownBlock)) (by (with_reducible repeat (first | apply Kd.R_alloc | apply Kd.R_drewN | apply Kd.R_drew)); exact Kd.R_mono HO198.out (fun _ hk => ⟨hk.2, hk.1.2⟩)) hg hat); have n3_ := aS (Kd.R_after (ok := (fun k_ => some k_ ≠ (v197 : Value).ownBlock)) (by (with_reducible repeat (first | apply Kd.R_alloc | apply Kd.R_drewN | apply Kd.R_drew)); exact Kd.R_mono HO202.out (fun _ hk => ⟨hk.2, hk.1.2⟩)) hg hat); have n4_ := aS (hb); have n5_ := aS (ho); clear HO_28; clear BK184; clear HO198; clear HO202; clear HB; clear HO_4; have HO_28 := n0_; have BK184 := n1_; have HO198 := n2_; have HO202 := n3_; have HB := n4_; have HO205 := n5_; clear n0_ n1_ n2_ n3_ n4_ n5_; clear ho hb hg hat; have hcz29 := cK11 BK184))
      go_loopg [9, 53] k1 (fun kq v9 v53 w' => ∃ (x9_2 : List ByteArray) (x53_2 : Int), v53 = .int .i64 x53_2 ∧ Aside0 (msg_Put.l1 kq y203 x9_2 l0_10 (l0_10.length : Int) x53_2 = some (r1, r2)) ∧ Aside0 (kq ≤ k1) ∧ Aside0 (Kd.R (Kd.int .u8) 5 w' w.heap.size (fun _ => True) v204 y203) ∧ Aside0 (Kd.R Kd.string 9 w' w.heap.size (fun _ => True) v9 x9_2) ∧ Aside0 (w'.heap[gb184]? = some (.cells #[.int .i64 a0_0, .int .i64 a0_1, .int .i64 a0_2, .int .i64 a0_3, .int .i64 a0_4, .int .i64 a0_5, .int .i64 a0_6, .int .i64 a0_7, .bool a0_8, .string a0_9, (.slice A0_10 l0_10.length c0_10)] 26 (0, 0))) ∧ Aside0 (Below w.heap.size w w'))
      case atStart => exact ⟨(([] : List ByteArray)), (0), (by first | rfl | (simp; done) | (simp [*]; done) | (simp; exact (by decide : ∀ a_ b_ : Bool, (a_ == b_) = (!a_ != b_)) _ _)), H', ⟨Nat.le_refl _⟩, ⟨by (with_reducible repeat (first | apply Kd.R_alloc | apply Kd.R_drewN | apply Kd.R_drew)); exact Kd.R_mono HO205.out (fun _ hk => trivial)⟩, ⟨by first | exact Kd.R_nil _ _ _ _ _ | exact Kd.N_nil _ _ _ _ _ | exact Kd.V_nil _ _ _ _ _ | exact Kd.Q_nil _ _ _ _ _ | exact Kd.S_nil _ _ _ _ _⟩, ⟨by (with_reducible repeat (first | refine blk_drewN ?_ _ | refine blk_drew ?_ | refine blk_alloc ?_ _)); exact BK184.out⟩, ⟨bel⟩⟩
      case round =>
       clear H'; (try clear c1); (try clear p1); (try clear q1); (try clear hx1); (try clear c2); (try clear p2); (try clear hcv2); (try clear c3); (try clear p6); (try clear c9); (try clear c10); (try clear c11); (try clear c11b0); (try clear c12); (try clear c12b0); (try clear c13); (try clear c13b0); (try clear c15); (try clear c17); (try clear c18); (try clear p18); (try clear q18); (try clear hx18); (try clear c19); (try clear c21); (try clear hcv24); (try clear hcv25); (try clear hcz22); (try clear hcz29); (try clear hcz5); (try clear hcz7); (try clear hx189_0); (try clear p189); (try clear q189)
       obtain ⟨x9_2, x53_2, rfl, HA, HK2, HO_4, HO_9, BK184, HB⟩ := hrel
       cases gk with
       | zero => exact absurd HA.out (by simp [msg_Put.l1])
       | succ k2 =>
        have H := HA.out; clear HA
        simp only [msg_Put.l1] at H
        by_cases c30 : x53_2 < (l0_10.length : Int)
        ·
         rw [if_pos c30] at H
         have c30b0 : decide (x53_2 < (l0_10.length : Int)) = true := decide_eq_true c30
         clear c30
         by_cases c31 : 0 ≤ x53_2
         ·
          rw [if_pos c31] at H
          have c31b0 : decide (0 ≤ x53_2) = true := decide_eq_true c31
          clear c31
          by_cases c32 : x53_2 < (l0_10.length : Int)
          ·
           rw [if_pos c32] at H
           have c32b0 : decide (x53_2 < (l0_10.length : Int)) = true := decide_eq_true c32
           clear c32
           replace H := obm H
           obtain ⟨⟨t208, t211⟩, A330, H⟩ := H
           replace H : (if x9_2.length < 8796093022208 then (msg_Put.l1 k2 y203 (x9_2 ++ [strOfNums t208]) l0_10 (l0_10.length : Int) (wrap64 (x53_2 + 1))) else (none)) = some (r1, r2) := H
           have A33 := aS A330
           clear A330
           by_cases c34 : x9_2.length < 8796093022208
           ·
            rw [if_pos c34] at H
            have LMc34 := aS c34
            clear c34
            obtain ⟨y212, hy212⟩ : ∃ y_ : List ByteArray, y_ = (x9_2 ++ [strOfNums t208]) := ⟨_, rfl⟩
            replace H : (msg_Put.l1 k2 y203 y212 l0_10 (l0_10.length : Int) (wrap64 (x53_2 + 1))) = some (r1, r2) := by first | (rw [hy212]; with_reducible exact H) | (have H2_ := (Option.bind_some _ _).symm.trans H; rw [hy212]; with_reducible exact H2_) | (have H2_ := (Option.bind_some _ _).symm.trans H; with_reducible exact H2_) | with_reducible exact H | (rw [hy212]; exact H) | exact H
            have Ny212 := aS hy212
            clear hy212
            have H' := aS H
            clear H
            have p206 : 0 ≤ (x53_2 : Int) := odt (by first | (with_reducible assumption) | assumption)
            have q206 : x53_2 < (l0_10.length : Int) := odt (by first | (with_reducible assumption) | assumption)
            obtain ⟨ad206, e206, hx206_0, hx206_1, hx206_2, hx206_3, hx206_4⟩ := at_T23 HR0_10.out x53_2 p206 q206
            cases e206
            replace hx206_0 := (HB.out.cell (wbl w _ hx206_0)).trans hx206_0
            replace hx206_1 := (HB.out.cell (wbl w _ hx206_1)).trans hx206_1
            replace hx206_2 := (HB.out.cell (wbl w _ hx206_2)).trans hx206_2
            replace hx206_3 := (HB.out.cell (wbl w _ hx206_3)).trans hx206_3
            replace hx206_4 := (HB.out.cell (wbl w _ hx206_4)).trans hx206_4
            replace p206 := eq_true p206
            replace q206 := eq_true q206
            go_wp2_with (first | ((with_reducible refine gate_dst (N := 11) rfl ?_); refine box_event ?hg (N := 11) ?hd (cs := #[.int .i64 0, .int .i64 0, .int .i64 0, .bool false, .string (⟨#[]⟩ : ByteArray)]) (t := 23) ?hr ?_; (case hd => rfl); (case hg => rfl); (case hr => first | (go_simp; done) | (go_simp; rfl)); intro gb207 hg w35 hbox hb; have n0_ := aS (Kd.R_below (rel HO_4.out) hb); have n1_ := aS (Kd.R_below (rel HO_9.out) hb); have n2_ := aS (blk_below (g := gb184) (o := .cells #[.int .i64 a0_0, .int .i64 a0_1, .int .i64 a0_2, .int .i64 a0_3, .int .i64 a0_4, .int .i64 a0_5, .int .i64 a0_6, .int .i64 a0_7, .bool a0_8, .string a0_9, .slice (some ad206) l0_10.length c0_10] 26 (0, 0)) (bkl BK184.out) hb); have n3_ := bstep hb; have n4_ := aS (hbox); have n5_ := bsize hg; have n6_ := bsize hg; have n7_ := aS ((by rw [hg]; exact Nat.ne_of_lt (blk_lt (g := gb184) (o := .cells #[.int .i64 a0_0, .int .i64 a0_1, .int .i64 a0_2, .int .i64 a0_3, .int .i64 a0_4, .int .i64 a0_5, .int .i64 a0_6, .int .i64 a0_7, .bool a0_8, .string a0_9, .slice (some ad206) l0_10.length c0_10] 26 (0, 0)) (bkl BK184.out)) : gb184 ≠ gb207)); have n8_ := aS ((by rw [hg]; exact Nat.ne_of_gt (blk_lt (g := gb184) (o := .cells #[.int .i64 a0_0, .int .i64 a0_1, .int .i64 a0_2, .int .i64 a0_3, .int .i64 a0_4, .int .i64 a0_5, .int .i64 a0_6, .int .i64 a0_7, .bool a0_8, .string a0_9, .slice (some ad206) l0_10.length c0_10] 26 (0, 0)) (bkl BK184.out)) : gb207 ≠ gb184)); clear HO_4; clear HO_9; clear BK184; clear HB; have HO_4 := n0_; have HO_9 := n1_; have BK184 := n2_; have HB := n3_; have BK207 := n4_; have GW207 := n5_; have GE207 := n6_; have NB184_207 := n7_; have NB207_184 := n8_; clear n0_ n1_ n2_ n3_ n4_ n5_ n6_ n7_ n8_; clear hb hbox hg; have hnb36 := NB207_184.out; have hnc36 := NB184_207.out; have hcz37 := cK5 BK207) | ((with_reducible refine gate_callee (f := 18) rfl ?_); refine goesL_ (some 59) rfl rfl Try.func18 (by kernel_rfl) rfl #[.agg #[.int .i64 ((rd_T23 l0_10 x53_2).f0), .int .i64 ((rd_T23 l0_10 x53_2).f1), .int .i64 ((rd_T23 l0_10 x53_2).f2), .bool ((rd_T23 l0_10 x53_2).f3), .string ((rd_T23 l0_10 x53_2).f4)]] rfl agn ?_; (with_reducible refine (slot_Put.calls ((rd_T23 l0_10 x53_2).f0) ((rd_T23 l0_10 x53_2).f1) ((rd_T23 l0_10 x53_2).f2) ((rd_T23 l0_10 x53_2).f3) ((rd_T23 l0_10 x53_2).f4) t208 t211 _ A33.out).mono ?_); rintro e w38 ⟨v209, rfl, ho0, hb⟩; refine ⟨_, rfl, ?_⟩; have n0_ := aS (Kd.R_elder' (by (with_reducible repeat (first | apply Kd.R_alloc | apply Kd.R_drewN | apply Kd.R_drew)); exact (Kd.R_mono (Kd.R_far (p := ⟨gb207, 4, none⟩) (Kd.R_far (p := ⟨gb207, 3, none⟩) (Kd.R_far (p := ⟨gb207, 2, none⟩) (Kd.R_far (p := ⟨gb207, 1, none⟩) (Kd.R_far (p := ⟨gb207, 0, none⟩) (Kd.R_types HO_4.out BK207.out (by decide)) (fun _ hk => hk.2) (.int .i64 ((rd_T23 l0_10 x53_2).f0))) (fun _ hk => hk.2) (.int .i64 ((rd_T23 l0_10 x53_2).f1))) (fun _ hk => hk.2) (.int .i64 ((rd_T23 l0_10 x53_2).f2))) (fun _ hk => hk.2) (.bool ((rd_T23 l0_10 x53_2).f3))) (fun _ hk => hk.2) (.string ((rd_T23 l0_10 x53_2).f4))) (fun _ h_ => h_.1))) (by first | exact Kd.R_base ho0 | exact Kd.S_base ho0 | exact Kd.R_base ho0 | exact Kd.V_base ho0) hb); have n1_ := aS (Kd.R_below (by (with_reducible repeat (first | apply Kd.R_alloc | apply Kd.R_drewN | apply Kd.R_drew)); exact (Kd.R_mono (Kd.R_far (p := ⟨gb207, 4, none⟩) (Kd.R_far (p := ⟨gb207, 3, none⟩) (Kd.R_far (p := ⟨gb207, 2, none⟩) (Kd.R_far (p := ⟨gb207, 1, none⟩) (Kd.R_far (p := ⟨gb207, 0, none⟩) (Kd.R_types HO_9.out BK207.out (by decide)) (fun _ hk => hk.2) (.int .i64 ((rd_T23 l0_10 x53_2).f0))) (fun _ hk => hk.2) (.int .i64 ((rd_T23 l0_10 x53_2).f1))) (fun _ hk => hk.2) (.int .i64 ((rd_T23 l0_10 x53_2).f2))) (fun _ hk => hk.2) (.bool ((rd_T23 l0_10 x53_2).f3))) (fun _ hk => hk.2) (.string ((rd_T23 l0_10 x53_2).f4))) (fun _ h_ => h_.1))) hb); have n2_ := aS (Kd.R_lower (Kd.R_new' ho0 (Kd.R_lt (by (with_reducible repeat (first | apply Kd.R_alloc | apply Kd.R_drewN | apply Kd.R_drew)); exact (Kd.R_mono (Kd.R_far (p := ⟨gb207, 4, none⟩) (Kd.R_far (p := ⟨gb207, 3, none⟩) (Kd.R_far (p := ⟨gb207, 2, none⟩) (Kd.R_far (p := ⟨gb207, 1, none⟩) (Kd.R_far (p := ⟨gb207, 0, none⟩) (Kd.R_types HO_4.out BK207.out (by decide)) (fun _ hk => hk.2) (.int .i64 ((rd_T23 l0_10 x53_2).f0))) (fun _ hk => hk.2) (.int .i64 ((rd_T23 l0_10 x53_2).f1))) (fun _ hk => hk.2) (.int .i64 ((rd_T23 l0_10 x53_2).f2))) (fun _ hk => hk.2) (.bool ((rd_T23 l0_10 x53_2).f3))) (fun _ hk => hk.2) (.string ((rd_T23 l0_10 x53_2).f4))) (fun _ h_ => h_.1))))) (below_size bel)); have n3_ := aS (blk_below (g := gb184) (o := .cells #[.int .i64 a0_0, .int .i64 a0_1, .int .i64 a0_2, .int .i64 a0_3, .int .i64 a0_4, .int .i64 a0_5, .int .i64 a0_6, .int .i64 a0_7, .bool a0_8, .string a0_9, .slice (some ad206) l0_10.length c0_10] 26 (0, 0)) (by (with_reducible repeat (first | refine blk_drewN ?_ _ | refine blk_drew ?_ | refine blk_alloc ?_ _)); refine blk_far ?_ NB184_207.out _; (with_reducible repeat (first | refine blk_drewN ?_ _ | refine blk_drew ?_ | refine blk_alloc ?_ _)); refine blk_far ?_ NB184_207.out _; (with_reducible repeat (first | refine blk_drewN ?_ _ | refine blk_drew ?_ | refine blk_alloc ?_ _)); refine blk_far ?_ NB184_207.out _; (with_reducible repeat (first | refine blk_drewN ?_ _ | refine blk_drew ?_ | refine blk_alloc ?_ _)); refine blk_far ?_ NB184_207.out _; (with_reducible repeat (first | refine blk_drewN ?_ _ | refine blk_drew ?_ | refine blk_alloc ?_ _)); refine blk_far ?_ NB184_207.out _; (with_reducible repeat (first | refine blk_drewN ?_ _ | refine blk_drew ?_ | refine blk_alloc ?_ _)); exact BK184.out) hb); have n4_ := aS (blk_below (g := gb207) (o := .cells #[.int .i64 ((rd_T23 l0_10 x53_2).f0), .int .i64 ((rd_T23 l0_10 x53_2).f1), .int .i64 ((rd_T23 l0_10 x53_2).f2), .bool ((rd_T23 l0_10 x53_2).f3), .string ((rd_T23 l0_10 x53_2).f4)] 23 (0, 0)) (by (with_reducible repeat (first | refine blk_drewN ?_ _ | refine blk_drew ?_ | refine blk_alloc ?_ _)); refine blk_put (cs := #[.int .i64 ((rd_T23 l0_10 x53_2).f0), .int .i64 ((rd_T23 l0_10 x53_2).f1), .int .i64 ((rd_T23 l0_10 x53_2).f2), .bool ((rd_T23 l0_10 x53_2).f3), .string (⟨#[]⟩ : ByteArray)]) ?_ 4 _ rfl; (with_reducible repeat (first | refine blk_drewN ?_ _ | refine blk_drew ?_ | refine blk_alloc ?_ _)); refine blk_put (cs := #[.int .i64 ((rd_T23 l0_10 x53_2).f0), .int .i64 ((rd_T23 l0_10 x53_2).f1), .int .i64 ((rd_T23 l0_10 x53_2).f2), .bool false, .string (⟨#[]⟩ : ByteArray)]) ?_ 3 _ rfl; (with_reducible repeat (first | refine blk_drewN ?_ _ | refine blk_drew ?_ | refine blk_alloc ?_ _)); refine blk_put (cs := #[.int .i64 ((rd_T23 l0_10 x53_2).f0), .int .i64 ((rd_T23 l0_10 x53_2).f1), .int .i64 0, .bool false, .string (⟨#[]⟩ : ByteArray)]) ?_ 2 _ rfl; (with_reducible repeat (first | refine blk_drewN ?_ _ | refine blk_drew ?_ | refine blk_alloc ?_ _)); refine blk_put (cs := #[.int .i64 ((rd_T23 l0_10 x53_2).f0), .int .i64 0, .int .i64 0, .bool false, .string (⟨#[]⟩ : ByteArray)]) ?_ 1 _ rfl; (with_reducible repeat (first | refine blk_drewN ?_ _ | refine blk_drew ?_ | refine blk_alloc ?_ _)); refine blk_put (cs := #[.int .i64 0, .int .i64 0, .int .i64 0, .bool false, .string (⟨#[]⟩ : ByteArray)]) ?_ 0 _ rfl; (with_reducible repeat (first | refine blk_drewN ?_ _ | refine blk_drew ?_ | refine blk_alloc ?_ _)); exact BK207.out) hb); have n5_ := bstep hb; clear HO_4; clear HO_9; clear BK184; clear BK207; clear HB; have HO_4 := n0_; have HO_9 := n1_; have HO210 := n2_; have BK184 := n3_; have BK207 := n4_; have HB := n5_; clear n0_ n1_ n2_ n3_ n4_ n5_; (try clear hb); (try clear hb2); (try clear hk); (try clear hi); (try clear ho0); have hcv39 := own_string (P := Try.prog) Try.underlying29 Try.underlying5 Try.underlying9 (Kd.own_of_R HO210.out); have hcv40 := fun (m_ : Nat) => own_string (P := Try.prog) Try.underlying29 Try.underlying5 Try.underlying9 (pw_own_drewN (Kd.own_of_R HO210.out) m_)) | ((with_reducible refine gate_builtin (b := .append) (xs := #[.tmp 62, .tmp 65]) rfl ?_); at_builtin; refine Kd.R_append Kd.string (w0 := w) w.heap.size rfl (.tmp 62) (.tmp 65) 45 9 (.string ⟨#[]⟩) 16 rfl Try.underlying45 info9 rfl (by decide) (by omega) u9 x9_2 (strOfNums t208) [.string (strOfNums t208)] (fun _ => True) (fun _ => False) rfl rfl ?aP (fun _ hk => hk.elim) ?aF ?aO ?aB ?aS ?aL ?_; (case aP => exact rfl); (case aB => exact bel); (case aF => exact (fun _ _ => trivial)); (case aO => exact (rel HO_9.out)); (case aS => exact (below_size bel)); (case aL => have := LMc34.out; omega); intro v213 w41 ho hb hg hat; rw [← Ny212.out] at ho; have n0_ := aS (Kd.R_over' (rel HO_4.out) (Kd.R_typed (rel HO_9.out)) (by decide) hg); have n1_ := aS (blk_grown (g := gb184) (o := .cells #[.int .i64 a0_0, .int .i64 a0_1, .int .i64 a0_2, .int .i64 a0_3, .int .i64 a0_4, .int .i64 a0_5, .int .i64 a0_6, .int .i64 a0_7, .bool a0_8, .string a0_9, .slice (some ad206) l0_10.length c0_10] 26 (0, 0)) (bkl BK184.out) hg (Kd.R_ne HO_9.out BK184.out (by decide))); have n2_ := aS (blk_grown (g := gb207) (o := .cells #[.int .i64 ((rd_T23 l0_10 x53_2).f0), .int .i64 ((rd_T23 l0_10 x53_2).f1), .int .i64 ((rd_T23 l0_10 x53_2).f2), .bool ((rd_T23 l0_10 x53_2).f3), .string ((rd_T23 l0_10 x53_2).f4)] 23 (0, 0)) (bkl BK207.out) hg (Kd.R_ne HO_9.out BK207.out (by decide))); have n3_ := aS (Kd.R_over' (rel HO210.out) (Kd.R_typed (rel HO_9.out)) (by decide) hg); have n4_ := aS (hb); have n5_ := aS (ho); clear HO_4; clear BK184; clear BK207; clear HO210; clear HB; clear HO_9; have HO_4 := n0_; have BK184 := n1_; have BK207 := n2_; have HO210 := n3_; have HB := n4_; have HO214 := n5_; clear n0_ n1_ n2_ n3_ n4_ n5_; clear ho hb hg hat))
            go_roundg k2
            case measure => have := HK1.out; have := HK2.out; omega
            case rel => exact ⟨(y212), (wrap64 (x53_2 + 1)), (by first | rfl | (simp; done) | (simp [*]; done) | (simp; exact (by decide : ∀ a_ b_ : Bool, (a_ == b_) = (!a_ != b_)) _ _)), H', ⟨by have := HK1.out; have := HK2.out; omega⟩, ⟨by (with_reducible repeat (first | apply Kd.R_alloc | apply Kd.R_drewN | apply Kd.R_drew)); exact Kd.R_mono HO_4.out (fun _ hk => trivial)⟩, ⟨by (with_reducible repeat (first | apply Kd.R_alloc | apply Kd.R_drewN | apply Kd.R_drew)); exact HO214.out⟩, ⟨by (with_reducible repeat (first | refine blk_drewN ?_ _ | refine blk_drew ?_ | refine blk_alloc ?_ _)); exact BK184.out⟩, ⟨bel⟩⟩
           ·
            rw [if_neg c34] at H
            exact absurd H (by simp)
          ·
           rw [if_neg c32] at H
           exact absurd H (by simp)
         ·
          rw [if_neg c31] at H
          exact absurd H (by simp)
        ·
         rw [if_neg c30] at H
         have c30b0 : decide (x53_2 < (l0_10.length : Int)) = false := decide_eq_false c30
         clear c30
         replace H := obm H
         obtain ⟨t215, A420, H⟩ := H
         replace H : (if y203.length + t215.length < 140737488355328 then ((frame_Put.f k2 (y203 ++ t215)).bind fun t221 => (if (t221.length : Int) = 0 then (some (([] : List Int), 1)) else (some (t221, 0)))) else (none)) = some (r1, r2) := H
         have A42 := aS A420
         clear A420
         by_cases c43 : y203.length + t215.length < 140737488355328
         ·
          rw [if_pos c43] at H
          have LMc43 := aS c43
          clear c43
          obtain ⟨y218, hy218⟩ : ∃ y_ : List Int, y_ = (y203 ++ t215) := ⟨_, rfl⟩
          replace H : ((frame_Put.f k2 y218).bind fun t221 => (if (t221.length : Int) = 0 then (some (([] : List Int), 1)) else (some (t221, 0)))) = some (r1, r2) := by first | (rw [hy218]; with_reducible exact H) | (have H2_ := (Option.bind_some _ _).symm.trans H; rw [hy218]; with_reducible exact H2_) | (have H2_ := (Option.bind_some _ _).symm.trans H; with_reducible exact H2_) | with_reducible exact H | (rw [hy218]; exact H) | exact H
          have Ny218 := aS hy218
          clear hy218
          replace H := obm H
          obtain ⟨t221, A440, H⟩ := H
          replace H : (if (t221.length : Int) = 0 then (some (([] : List Int), 1)) else (some (t221, 0))) = some (r1, r2) := H
          have A44 := aS A440
          clear A440
          by_cases c45 : (t221.length : Int) = 0
          ·
           rw [if_pos c45] at H
           obtain ⟨c45b0, c45b1⟩ := eqT c45
           clear c45
           simp only [Option.some.injEq, Prod.mk.injEq] at H
           obtain ⟨rfl, rfl⟩ := H
           obtain ⟨Ao46, co46, eo46⟩ := Kd.R_slice HO_9.out
           subst eo46
           go_wp2_with (first | ((with_reducible refine gate_callee (f := 21) rfl ?_); refine goesL_ (some 70) rfl rfl Try.func21 (by kernel_rfl) rfl #[.slice Ao46 x9_2.length co46] rfl agn ?_; (with_reducible refine (wire_Texts.calls k2 _ _ x9_2 t215 _ ?side1 ?side2 A42.out).mono ?_); (case side1 => exact cel ((Kd.R_reads' HO_9.out).2.2)); (case side2 => exact (Kd.R_reads' HO_9.out).2.1); rintro e w47 ⟨v216, rfl, ho0, hb⟩; refine ⟨_, rfl, ?_⟩; have n0_ := aS (Kd.R_elder' (rel HO_4.out) (by first | exact Kd.R_base ho0 | exact Kd.S_base ho0 | exact Kd.R_base ho0 | exact Kd.V_base ho0) hb); have n1_ := aS (Kd.R_below (rel HO_9.out) hb); have n2_ := aS (Kd.R_lower (Kd.R_new' ho0 (Kd.R_lt (rel HO_4.out))) (below_size bel)); have n3_ := aS (blk_below (g := gb184) (o := .cells #[.int .i64 a0_0, .int .i64 a0_1, .int .i64 a0_2, .int .i64 a0_3, .int .i64 a0_4, .int .i64 a0_5, .int .i64 a0_6, .int .i64 a0_7, .bool a0_8, .string a0_9, .slice A0_10 l0_10.length c0_10] 26 (0, 0)) (bkl BK184.out) hb); have n4_ := bstep hb; clear HO_4; clear HO_9; clear BK184; clear HB; have HO_4 := n0_; have HO_9 := n1_; have HO217 := n2_; have BK184 := n3_; have HB := n4_; clear n0_ n1_ n2_ n3_ n4_; (try clear hb); (try clear hb2); (try clear hk); (try clear hi); (try clear ho0); obtain ⟨Ao49, co49, eo49⟩ := Kd.R_slice HO217.out; subst eo49) | ((with_reducible refine gate_builtin (b := .append) (xs := #[.tmp 68, .tmp 70]) rfl ?_); at_builtin; refine Kd.R_append_rows (Kd.int .u8) (w0 := w) w.heap.size rfl (.tmp 68) (.tmp 70) 29 5 (.int .u8 0) 1 rfl Try.underlying29 info5 rfl (by decide) (by omega) v204 y203 t215 _ _ _ (fun k_ => some k_ ≠ (.slice Ao49 t215.length co49 : Value).ownBlock) (fun _ => False) rfl rfl ?aO ?aR (fun _ _ h => h) (fun _ h => h.elim) ?aF ?aB ?aS ?aL ?_; (case aR => exact cel ((Kd.R_reads' HO217.out).2.2)); (case aB => exact bel); (case aF => exact (fun k_ hk => Kd.fresh' (Kd.R_lt (rel HO217.out)) k_ hk)); (case aO => exact (rel (Kd.R_mono HO_4.out (fun _ hk => hk.2)))); (case aS => exact (below_size bel)); (case aL => have := LMc43.out; omega); intro v219 w48 ho hb hg hat; rw [← Ny218.out] at ho; have n0_ := aS (Kd.R_over' (rel HO_9.out) (Kd.R_typed (rel HO_4.out)) (by decide) hg); have n1_ := aS (blk_grown (g := gb184) (o := .cells #[.int .i64 a0_0, .int .i64 a0_1, .int .i64 a0_2, .int .i64 a0_3, .int .i64 a0_4, .int .i64 a0_5, .int .i64 a0_6, .int .i64 a0_7, .bool a0_8, .string a0_9, .slice A0_10 l0_10.length c0_10] 26 (0, 0)) (bkl BK184.out) hg (Kd.R_ne HO_4.out BK184.out (by decide))); have n2_ := aS (Kd.R_after (ok := (fun _ => True)) (rel HO217.out) hg hat); have n3_ := aS (hb); have n4_ := aS (ho); clear HO_9; clear BK184; clear HO217; clear HB; clear HO_4; have HO_9 := n0_; have BK184 := n1_; have HO217 := n2_; have HB := n3_; have HO220 := n4_; clear n0_ n1_ n2_ n3_ n4_; clear ho hb hg hat; obtain ⟨Ao50, co50, eo50⟩ := Kd.R_slice HO220.out; subst eo50) | ((with_reducible refine gate_callee (f := 20) rfl ?_); refine goesL_ (some 72) rfl rfl Try.func20 (by kernel_rfl) rfl #[.slice Ao50 y218.length co50] rfl agn ?_; (with_reducible refine (frame_Put.calls k2 (fun k_ => some k_ = (.slice Ao50 y218.length co50 : Value).ownBlock) _ _ y218 t221 _ ?side1 A44.out).mono ?_); (case side1 => exact Kd.R_V (Kd.R_tight rfl (Kd.R_types (Kd.R_apart' (HO220.out) (Kd.R_typed HO_9.out) (by decide)) BK184.out (by decide)))); rintro e w51 ⟨v222, rfl, ho0, hb⟩; refine ⟨_, rfl, ?_⟩; have n0_ := aS (Kd.R_below (rel HO_9.out) hb); have n1_ := aS (Kd.R_elder' (rel HO217.out) (by first | exact Kd.R_base ho0 | exact Kd.S_base ho0 | exact Kd.R_base ho0 | exact Kd.V_base ho0) hb); have n2_ := aS (Kd.R_elder' (rel HO220.out) (by first | exact Kd.R_base ho0 | exact Kd.S_base ho0 | exact Kd.R_base ho0 | exact Kd.V_base ho0) hb); have n3_ := aS (Kd.R_lower (Kd.R_new' (Kd.R_new' (Kd.R_mono (ok' := fun k_ => True) ho0 (fun _ hk_ => trivial)) (Kd.R_lt (rel HO217.out))) (Kd.R_lt (rel HO220.out))) (below_size bel)); have n4_ := aS (blk_below (g := gb184) (o := .cells #[.int .i64 a0_0, .int .i64 a0_1, .int .i64 a0_2, .int .i64 a0_3, .int .i64 a0_4, .int .i64 a0_5, .int .i64 a0_6, .int .i64 a0_7, .bool a0_8, .string a0_9, .slice A0_10 l0_10.length c0_10] 26 (0, 0)) (bkl BK184.out) hb); have n5_ := bstep hb; clear HO_9; clear HO217; clear HO220; clear BK184; clear HB; have HO_9 := n0_; have HO217 := n1_; have HO220 := n2_; have HO223 := n3_; have BK184 := n4_; have HB := n5_; clear n0_ n1_ n2_ n3_ n4_ n5_; (try clear hb); (try clear hb2); (try clear hk); (try clear hi); (try clear ho0); obtain ⟨Ao52, co52, eo52⟩ := Kd.R_slice HO223.out; subst eo52))
           go_ret2
           exact ⟨_, rf3, by first | exact Kd.R_nil _ _ _ _ _ | exact Kd.N_nil _ _ _ _ _ | exact Kd.V_nil _ _ _ _ _ | exact Kd.Q_nil _ _ _ _ _ | exact Kd.S_nil _ _ _ _ _, bel⟩
          ·
           rw [if_neg c45] at H
           obtain ⟨c45b0, c45b1⟩ := eqF c45
           have c45b2 : ¬ (t221 = []) := fun h_ => c45 (by rw [h_]; rfl)
           simp only [Option.some.injEq, Prod.mk.injEq] at H
           obtain ⟨rfl, rfl⟩ := H
           obtain ⟨Ao53, co53, eo53⟩ := Kd.R_slice HO_9.out
           subst eo53
           go_wp2_with (first | ((with_reducible refine gate_callee (f := 21) rfl ?_); refine goesL_ (some 70) rfl rfl Try.func21 (by kernel_rfl) rfl #[.slice Ao53 x9_2.length co53] rfl agn ?_; (with_reducible refine (wire_Texts.calls k2 _ _ x9_2 t215 _ ?side1 ?side2 A42.out).mono ?_); (case side1 => exact cel ((Kd.R_reads' HO_9.out).2.2)); (case side2 => exact (Kd.R_reads' HO_9.out).2.1); rintro e w54 ⟨v216, rfl, ho0, hb⟩; refine ⟨_, rfl, ?_⟩; have n0_ := aS (Kd.R_elder' (rel HO_4.out) (by first | exact Kd.R_base ho0 | exact Kd.S_base ho0 | exact Kd.R_base ho0 | exact Kd.V_base ho0) hb); have n1_ := aS (Kd.R_below (rel HO_9.out) hb); have n2_ := aS (Kd.R_lower (Kd.R_new' ho0 (Kd.R_lt (rel HO_4.out))) (below_size bel)); have n3_ := aS (blk_below (g := gb184) (o := .cells #[.int .i64 a0_0, .int .i64 a0_1, .int .i64 a0_2, .int .i64 a0_3, .int .i64 a0_4, .int .i64 a0_5, .int .i64 a0_6, .int .i64 a0_7, .bool a0_8, .string a0_9, .slice A0_10 l0_10.length c0_10] 26 (0, 0)) (bkl BK184.out) hb); have n4_ := bstep hb; clear HO_4; clear HO_9; clear BK184; clear HB; have HO_4 := n0_; have HO_9 := n1_; have HO217 := n2_; have BK184 := n3_; have HB := n4_; clear n0_ n1_ n2_ n3_ n4_; (try clear hb); (try clear hb2); (try clear hk); (try clear hi); (try clear ho0); obtain ⟨Ao56, co56, eo56⟩ := Kd.R_slice HO217.out; subst eo56) | ((with_reducible refine gate_builtin (b := .append) (xs := #[.tmp 68, .tmp 70]) rfl ?_); at_builtin; refine Kd.R_append_rows (Kd.int .u8) (w0 := w) w.heap.size rfl (.tmp 68) (.tmp 70) 29 5 (.int .u8 0) 1 rfl Try.underlying29 info5 rfl (by decide) (by omega) v204 y203 t215 _ _ _ (fun k_ => some k_ ≠ (.slice Ao56 t215.length co56 : Value).ownBlock) (fun _ => False) rfl rfl ?aO ?aR (fun _ _ h => h) (fun _ h => h.elim) ?aF ?aB ?aS ?aL ?_; (case aR => exact cel ((Kd.R_reads' HO217.out).2.2)); (case aB => exact bel); (case aF => exact (fun k_ hk => Kd.fresh' (Kd.R_lt (rel HO217.out)) k_ hk)); (case aO => exact (rel (Kd.R_mono HO_4.out (fun _ hk => hk.2)))); (case aS => exact (below_size bel)); (case aL => have := LMc43.out; omega); intro v219 w55 ho hb hg hat; rw [← Ny218.out] at ho; have n0_ := aS (Kd.R_over' (rel HO_9.out) (Kd.R_typed (rel HO_4.out)) (by decide) hg); have n1_ := aS (blk_grown (g := gb184) (o := .cells #[.int .i64 a0_0, .int .i64 a0_1, .int .i64 a0_2, .int .i64 a0_3, .int .i64 a0_4, .int .i64 a0_5, .int .i64 a0_6, .int .i64 a0_7, .bool a0_8, .string a0_9, .slice A0_10 l0_10.length c0_10] 26 (0, 0)) (bkl BK184.out) hg (Kd.R_ne HO_4.out BK184.out (by decide))); have n2_ := aS (Kd.R_after (ok := (fun _ => True)) (rel HO217.out) hg hat); have n3_ := aS (hb); have n4_ := aS (ho); clear HO_9; clear BK184; clear HO217; clear HB; clear HO_4; have HO_9 := n0_; have BK184 := n1_; have HO217 := n2_; have HB := n3_; have HO220 := n4_; clear n0_ n1_ n2_ n3_ n4_; clear ho hb hg hat; obtain ⟨Ao57, co57, eo57⟩ := Kd.R_slice HO220.out; subst eo57) | ((with_reducible refine gate_callee (f := 20) rfl ?_); refine goesL_ (some 72) rfl rfl Try.func20 (by kernel_rfl) rfl #[.slice Ao57 y218.length co57] rfl agn ?_; (with_reducible refine (frame_Put.calls k2 (fun k_ => some k_ = (.slice Ao57 y218.length co57 : Value).ownBlock) _ _ y218 t221 _ ?side1 A44.out).mono ?_); (case side1 => exact Kd.R_V (Kd.R_tight rfl (Kd.R_types (Kd.R_apart' (HO220.out) (Kd.R_typed HO_9.out) (by decide)) BK184.out (by decide)))); rintro e w58 ⟨v222, rfl, ho0, hb⟩; refine ⟨_, rfl, ?_⟩; have n0_ := aS (Kd.R_below (rel HO_9.out) hb); have n1_ := aS (Kd.R_elder' (rel HO217.out) (by first | exact Kd.R_base ho0 | exact Kd.S_base ho0 | exact Kd.R_base ho0 | exact Kd.V_base ho0) hb); have n2_ := aS (Kd.R_elder' (rel HO220.out) (by first | exact Kd.R_base ho0 | exact Kd.S_base ho0 | exact Kd.R_base ho0 | exact Kd.V_base ho0) hb); have n3_ := aS (Kd.R_lower (Kd.R_new' (Kd.R_new' (Kd.R_mono (ok' := fun k_ => True) ho0 (fun _ hk_ => trivial)) (Kd.R_lt (rel HO217.out))) (Kd.R_lt (rel HO220.out))) (below_size bel)); have n4_ := aS (blk_below (g := gb184) (o := .cells #[.int .i64 a0_0, .int .i64 a0_1, .int .i64 a0_2, .int .i64 a0_3, .int .i64 a0_4, .int .i64 a0_5, .int .i64 a0_6, .int .i64 a0_7, .bool a0_8, .string a0_9, .slice A0_10 l0_10.length c0_10] 26 (0, 0)) (bkl BK184.out) hb); have n5_ := bstep hb; clear HO_9; clear HO217; clear HO220; clear BK184; clear HB; have HO_9 := n0_; have HO217 := n1_; have HO220 := n2_; have HO223 := n3_; have BK184 := n4_; have HB := n5_; clear n0_ n1_ n2_ n3_ n4_ n5_; (try clear hb); (try clear hb2); (try clear hk); (try clear hi); (try clear ho0); obtain ⟨Ao59, co59, eo59⟩ := Kd.R_slice HO223.out; subst eo59))
           go_ret2
           exact ⟨_, rf3, by (with_reducible repeat (first | apply Kd.R_alloc | apply Kd.R_drewN | apply Kd.R_drew)); exact Kd.R_mono HO223.out (fun _ hk => trivial), bel⟩
         ·
          rw [if_neg c43] at H
          exact absurd H (by simp)
     ·
      rw [if_neg c21] at H
      exact absurd H (by simp)
 ·
  replace c3 := Bool.eq_false_iff.mpr c3
  subst c3
  have H1 : (some (([] : List Int), 1)) = some (r1, r2) := by rw [if_neg (show ¬ (false = true) by decide)] at H; exact H
  clear H; have H := H1; clear H1
  simp only [Option.some.injEq, Prod.mk.injEq] at H
  obtain ⟨rfl, rfl⟩ := H
  go_enter Try.func9, Try.ntmps9
  go_wp2_with (first | ((with_reducible refine gate_dst (N := 1) rfl ?_); refine box_event ?hg (N := 1) ?hd (cs := #[.int .i64 a0_0, .int .i64 a0_1, .int .i64 a0_2, .int .i64 a0_3, .int .i64 a0_4, .int .i64 a0_5, .int .i64 a0_6, .int .i64 a0_7, .bool a0_8, .string a0_9, .slice A0_10 l0_10.length c0_10]) (t := 26) ?hr ?_; (case hd => rfl); (case hg => rfl); (case hr => first | (go_simp; done) | (go_simp; rfl)); intro gb184 hg w60 hbox hb; have n0_ := bstep hb; have n1_ := aS (hbox); have n2_ := bsize hg; have n3_ := bsize hg; clear HB; have HB := n0_; have BK184 := n1_; have GW184 := n2_; have GE184 := n3_; clear n0_ n1_ n2_ n3_; clear hb hbox hg; have hcz61 := cK11 BK184) | ((with_reducible refine gate_callee (f := 10) rfl ?_); refine goesL_ (some 16) rfl rfl Try.func10 (by kernel_rfl) rfl #[.agg #[.int .i64 a0_0, .int .i64 a0_1, .int .i64 a0_2, .int .i64 a0_3, .int .i64 a0_4, .int .i64 a0_5, .int .i64 a0_6, .int .i64 a0_7, .bool a0_8, .string a0_9, .slice A0_10 l0_10.length c0_10]] rfl agn ?_; (with_reducible refine (msg_Right.calls k a0_0 a0_1 a0_2 a0_3 a0_4 a0_5 a0_6 a0_7 a0_8 a0_9 _ _ l0_10 false _ ?side1 ?side2 A2.out).mono ?_); (case side1 => exact cel (Kd.C_below HR0_10.out HB.out)); (case side2 => exact HC0_10.out); rintro e w62 ⟨rfl, hb⟩; refine ⟨_, rfl, ?_⟩; have n0_ := aS (blk_below (g := gb184) (o := .cells #[.int .i64 a0_0, .int .i64 a0_1, .int .i64 a0_2, .int .i64 a0_3, .int .i64 a0_4, .int .i64 a0_5, .int .i64 a0_6, .int .i64 a0_7, .bool a0_8, .string a0_9, .slice A0_10 l0_10.length c0_10] 26 (0, 0)) (bkl BK184.out) hb); have n1_ := bstep hb; clear BK184; clear HB; have BK184 := n0_; have HB := n1_; clear n0_ n1_; (try clear hb); (try clear hb2); (try clear hk); (try clear hi)))
  go_ret2
  exact ⟨_, rf3, by first | exact Kd.R_nil _ _ _ _ _ | exact Kd.N_nil _ _ _ _ _ | exact Kd.V_nil _ _ _ _ _ | exact Kd.Q_nil _ _ _ _ _ | exact Kd.S_nil _ _ _ _ _, bel⟩

/-! ### api_Vote: function 27 -/
def api_Vote.l0 : Nat → List (S23) → List (S23) → Int → Int → Option (Bool)
 | 0, _, _, _, _ => none
 | k + 1, x0, x1, x12, x13 => if x13 < x12 then (if 0 ≤ x13 then (if x13 < (x0.length : Int) then (if x13 < (x1.length : Int) then (if (!(((rd_T23 x0 x13).f0) == ((rd_T23 x1 x13).f0)) || (!(((rd_T23 x0 x13).f1) == ((rd_T23 x1 x13).f1)) || (!(((rd_T23 x0 x13).f2) == ((rd_T23 x1 x13).f2)) || (!(((rd_T23 x0 x13).f3) == ((rd_T23 x1 x13).f3)) || (!((((rd_T23 x0 x13).f4).toList) == (((rd_T23 x1 x13).f4).toList))))))) = true then (some false) else (api_Vote.l0 k x0 x1 x12 (wrap64 (x13 + 1)))) else (none)) else (none)) else (none)) else (some true)
def api_Vote.f (k : Nat) (l0 : List (S23)) (l1 : List (S23)) : Option (Bool) := if (l0.length : Int) = (l1.length : Int) then (api_Vote.l0 k l0 l1 (l0.length : Int) 0) else (some false)
theorem api_Vote.mono_l : ∀ k, (∀ y0 y1 y2 y3, LeO (api_Vote.l0 k y0 y1 y2 y3) (api_Vote.l0 (k + 1) y0 y1 y2 y3))
 | 0 => fun _ _ _ _ r h => by simp [api_Vote.l0] at h
 | k + 1 => by
  have ih0 := api_Vote.mono_l k
  ·
   intro y0 y1 y2 y3
   unfold api_Vote.l0
   repeat' first
   | (with_reducible exact ih0 _ _ _ _)
   | (with_reducible exact LeO.refl _)
   | (with_reducible exact LeO.none _)
   | (with_reducible refine LeO.ite ?_ ?_)
   | (with_reducible refine LeO.bind ?_ (fun _ => ?_))
   | exact LeO.none _
   | refine LeO.ite ?_ ?_
   | refine LeO.bind ?_ (fun _ => ?_)
theorem api_Vote.mono : ∀ a0 a1 k, LeO (api_Vote.f k a0 a1) (api_Vote.f (k + 1) a0 a1) := by
 intro a0 a1 k
 have ih0 := api_Vote.mono_l k
 unfold api_Vote.f
 repeat' first
   | (with_reducible exact ih0 _ _ _ _)
   | (with_reducible exact LeO.refl _)
   | (with_reducible exact LeO.none _)
   | (with_reducible refine LeO.ite ?_ ?_)
   | (with_reducible refine LeO.bind ?_ (fun _ => ?_))
   | exact LeO.none _
   | refine LeO.ite ?_ ?_
   | refine LeO.bind ?_ (fun _ => ?_)
set_option maxHeartbeats 8000000 in
set_option maxRecDepth 100000 in
theorem api_Vote.calls (k : Nat) (A0 : Option Addr) (c0 : Nat) (l0 : List (S23)) (A1 : Option Addr) (c1 : Nat) (l1 : List (S23)) (r : Bool) (w : World) (hr0 : Kd.C k23 w A0 l0.length l0) (hc0 : l0.length ≤ c0) (hr1 : Kd.C k23 w A1 l1.length l1) (hc1 : l1.length ≤ c1) (h : api_Vote.f k l0 l1 = some r) :
  Calls Try.prog 27 #[.slice A0 l0.length c0, .slice A1 l1.length c1] w fun e w' => e = .returned (.bool r) ∧ Drawn0 w w' := by
 have hu23 := Try.underlying23
 have HR0 := aS hr0
 have HC0 := aS hc0
 clear hr0 hc0
 have HR1 := aS hr1
 have HC1 := aS hc1
 clear hr1 hc1
 have H : (if (l0.length : Int) = (l1.length : Int) then (api_Vote.l0 k l0 l1 (l0.length : Int) 0) else (some false)) = some r := h
 clear h
 by_cases c3 : (l0.length : Int) = (l1.length : Int)
 ·
  rw [if_pos c3] at H
  obtain ⟨c3b0, c3b1⟩ := eqT c3
  have c3b2 : (l0.length == l1.length) = true := by first | simpa using c3 | (simp at c3 ⊢; omega)
  clear c3
  have H' := aS H
  clear H
  go_enter Try.func27, Try.ntmps27
  go_wp2
  repeat (go_quiet (fail); try go_wp2)
  go_loopg [13] k (fun kq v13 w' => ∃ (x13_1 : Int), v13 = .int .i64 x13_1 ∧ Aside0 (api_Vote.l0 kq l0 l1 (l0.length : Int) x13_1 = some r) ∧ Aside0 (kq ≤ k) ∧ Drawn0 w w')
  case atStart => exact ⟨(0), (by first | rfl | (simp; done) | (simp [*]; done) | (simp; exact (by decide : ∀ a_ b_ : Bool, (a_ == b_) = (!a_ != b_)) _ _)), H', ⟨Nat.le_refl _⟩, by repeat (first | exact Drawn0.refl _ | apply Drawn0.step)⟩
  case round =>
   clear H'; (try clear c1); (try clear c2); (try clear p2); (try clear c3); (try clear c3b0); (try clear c3b1); (try clear c3b2)
   obtain ⟨x13_1, rfl, HA, HK1, ⟨m1, rfl⟩⟩ := hrel
   cases gk with
   | zero => exact absurd HA.out (by simp [api_Vote.l0])
   | succ k1 =>
    have H := HA.out; clear HA
    simp only [api_Vote.l0] at H
    by_cases c4 : x13_1 < (l0.length : Int)
    ·
     rw [if_pos c4] at H
     have c4b0 : decide (x13_1 < (l0.length : Int)) = true := decide_eq_true c4
     clear c4
     by_cases c5 : 0 ≤ x13_1
     ·
      rw [if_pos c5] at H
      have c5b0 : decide (0 ≤ x13_1) = true := decide_eq_true c5
      clear c5
      by_cases c6 : x13_1 < (l0.length : Int)
      ·
       rw [if_pos c6] at H
       have c6b0 : decide (x13_1 < (l0.length : Int)) = true := decide_eq_true c6
       clear c6
       by_cases c7 : x13_1 < (l1.length : Int)
       ·
        rw [if_pos c7] at H
        have c7b0 : decide (x13_1 < (l1.length : Int)) = true := decide_eq_true c7
        clear c7
        by_cases c8 : (!(((rd_T23 l0 x13_1).f0) == ((rd_T23 l1 x13_1).f0)) || (!(((rd_T23 l0 x13_1).f1) == ((rd_T23 l1 x13_1).f1)) || (!(((rd_T23 l0 x13_1).f2) == ((rd_T23 l1 x13_1).f2)) || (!(((rd_T23 l0 x13_1).f3) == ((rd_T23 l1 x13_1).f3)) || (!((((rd_T23 l0 x13_1).f4).toList) == (((rd_T23 l1 x13_1).f4).toList))))))) = true
        ·
         rw [if_pos c8] at H
         have c8b0 : (!(((rd_T23 l0 x13_1).f0) == ((rd_T23 l1 x13_1).f0)) || (!(((rd_T23 l0 x13_1).f1) == ((rd_T23 l1 x13_1).f1)) || (!(((rd_T23 l0 x13_1).f2) == ((rd_T23 l1 x13_1).f2)) || (!(((rd_T23 l0 x13_1).f3) == ((rd_T23 l1 x13_1).f3)) || (!((((rd_T23 l0 x13_1).f4).toList) == (((rd_T23 l1 x13_1).f4).toList))))))) = true := c8
         clear c8
         obtain rfl := Option.some.inj H
         have p224 : 0 ≤ (x13_1 : Int) := odt (by first | (with_reducible assumption) | assumption)
         have q224 : x13_1 < (l0.length : Int) := odt (by first | (with_reducible assumption) | assumption)
         obtain ⟨ad224, e224, hx224_0, hx224_1, hx224_2, hx224_3, hx224_4⟩ := at_T23 HR0.out x13_1 p224 q224
         cases e224
         replace p224 := eq_true p224
         replace q224 := eq_true q224
         have p225 : 0 ≤ (x13_1 : Int) := odt (by first | (with_reducible assumption) | assumption)
         have q225 : x13_1 < (l1.length : Int) := odt (by first | (with_reducible assumption) | assumption)
         obtain ⟨ad225, e225, hx225_0, hx225_1, hx225_2, hx225_3, hx225_4⟩ := at_T23 HR1.out x13_1 p225 q225
         cases e225
         replace p225 := eq_true p225
         replace q225 := eq_true q225
         go_wp2
         repeat (go_quiet (fail); try go_wp2)
         go_ret
         exact ⟨by first | rfl | (simp; done) | (simp [*]; done) | (simp; exact (by decide : ∀ a_ b_ : Bool, (a_ == b_) = (!a_ != b_)) _ _), by repeat (first | exact Drawn0.refl _ | apply Drawn0.step)⟩
        ·
         rw [if_neg c8] at H
         have c8b0 : (!(((rd_T23 l0 x13_1).f0) == ((rd_T23 l1 x13_1).f0)) || (!(((rd_T23 l0 x13_1).f1) == ((rd_T23 l1 x13_1).f1)) || (!(((rd_T23 l0 x13_1).f2) == ((rd_T23 l1 x13_1).f2)) || (!(((rd_T23 l0 x13_1).f3) == ((rd_T23 l1 x13_1).f3)) || (!((((rd_T23 l0 x13_1).f4).toList) == (((rd_T23 l1 x13_1).f4).toList))))))) = false := by simpa using c8
         clear c8
         have H' := aS H
         clear H
         have p224 : 0 ≤ (x13_1 : Int) := odt (by first | (with_reducible assumption) | assumption)
         have q224 : x13_1 < (l0.length : Int) := odt (by first | (with_reducible assumption) | assumption)
         obtain ⟨ad224, e224, hx224_0, hx224_1, hx224_2, hx224_3, hx224_4⟩ := at_T23 HR0.out x13_1 p224 q224
         cases e224
         replace p224 := eq_true p224
         replace q224 := eq_true q224
         have p225 : 0 ≤ (x13_1 : Int) := odt (by first | (with_reducible assumption) | assumption)
         have q225 : x13_1 < (l1.length : Int) := odt (by first | (with_reducible assumption) | assumption)
         obtain ⟨ad225, e225, hx225_0, hx225_1, hx225_2, hx225_3, hx225_4⟩ := at_T23 HR1.out x13_1 p225 q225
         cases e225
         replace p225 := eq_true p225
         replace q225 := eq_true q225
         go_wp2
         repeat (go_quiet (fail); try go_wp2)
         go_roundg k1
         case measure => have := HK1.out; omega
         case rel => exact ⟨(wrap64 (x13_1 + 1)), (by first | rfl | (simp; done) | (simp [*]; done) | (simp; exact (by decide : ∀ a_ b_ : Bool, (a_ == b_) = (!a_ != b_)) _ _)), H', ⟨by have := HK1.out; omega⟩, by repeat (first | exact Drawn0.refl _ | apply Drawn0.step)⟩
       ·
        rw [if_neg c7] at H
        exact absurd H (by simp)
      ·
       rw [if_neg c6] at H
       exact absurd H (by simp)
     ·
      rw [if_neg c5] at H
      exact absurd H (by simp)
    ·
     rw [if_neg c4] at H
     have c4b0 : decide (x13_1 < (l0.length : Int)) = false := decide_eq_false c4
     clear c4
     obtain rfl := Option.some.inj H
     go_wp2
     repeat (go_quiet (fail); try go_wp2)
     go_ret
     exact ⟨by first | rfl | (simp; done) | (simp [*]; done) | (simp; exact (by decide : ∀ a_ b_ : Bool, (a_ == b_) = (!a_ != b_)) _ _), by repeat (first | exact Drawn0.refl _ | apply Drawn0.step)⟩
 ·
  rw [if_neg c3] at H
  obtain ⟨c3b0, c3b1⟩ := eqF c3
  have c3b2 : (l0.length == l1.length) = false := by first | simpa using c3 | (simp at c3 ⊢; omega)
  obtain rfl := Option.some.inj H
  go_enter Try.func27, Try.ntmps27
  go_wp2
  repeat (go_quiet (fail); try go_wp2)
  go_ret
  exact ⟨by first | rfl | (simp; done) | (simp [*]; done) | (simp; exact (by decide : ∀ a_ b_ : Bool, (a_ == b_) = (!a_ != b_)) _ _), by repeat (first | exact Drawn0.refl _ | apply Drawn0.step)⟩

/-! ### msg_Same: function 12 -/
def msg_Same.f (k : Nat) (a0_0 : Int) (a0_1 : Int) (a0_2 : Int) (a0_3 : Int) (a0_4 : Int) (a0_5 : Int) (a0_6 : Int) (a0_7 : Int) (a0_8 : Bool) (a0_9 : ByteArray) (l0_10 : List (S23)) (a1_0 : Int) (a1_1 : Int) (a1_2 : Int) (a1_3 : Int) (a1_4 : Int) (a1_5 : Int) (a1_6 : Int) (a1_7 : Int) (a1_8 : Bool) (a1_9 : ByteArray) (l1_10 : List (S23)) : Option (Bool) := if a0_0 = a1_0 then (if a0_1 = a1_1 then (if a0_2 = a1_2 then (if a0_3 = a1_3 then (if a0_4 = a1_4 then (if (a0_5 == a1_5 && (a0_6 == a1_6 && (a0_7 == a1_7 && (a0_8 == a1_8 && (a0_9.toList == a1_9.toList))))) = true then ((api_Vote.f k l0_10 l1_10).bind fun t228 => (some t228)) else (some false)) else (some false)) else (some false)) else (some false)) else (some false)) else (some false)
theorem msg_Same.mono : ∀ a0 a1 a2 a3 a4 a5 a6 a7 a8 a9 a10 a11 a12 a13 a14 a15 a16 a17 a18 a19 a20 a21 k, LeO (msg_Same.f k a0 a1 a2 a3 a4 a5 a6 a7 a8 a9 a10 a11 a12 a13 a14 a15 a16 a17 a18 a19 a20 a21) (msg_Same.f (k + 1) a0 a1 a2 a3 a4 a5 a6 a7 a8 a9 a10 a11 a12 a13 a14 a15 a16 a17 a18 a19 a20 a21) := by
 intro a0 a1 a2 a3 a4 a5 a6 a7 a8 a9 a10 a11 a12 a13 a14 a15 a16 a17 a18 a19 a20 a21 k
 unfold msg_Same.f
 repeat' first
   | (with_reducible exact api_Vote.mono _ _ _)
   | (with_reducible exact LeO.refl _)
   | (with_reducible exact LeO.none _)
   | (with_reducible refine LeO.ite ?_ ?_)
   | (with_reducible refine LeO.bind ?_ (fun _ => ?_))
   | exact LeO.none _
   | refine LeO.ite ?_ ?_
   | refine LeO.bind ?_ (fun _ => ?_)
set_option maxHeartbeats 8000000 in
set_option maxRecDepth 100000 in
theorem msg_Same.calls (k : Nat) (a0_0 : Int) (a0_1 : Int) (a0_2 : Int) (a0_3 : Int) (a0_4 : Int) (a0_5 : Int) (a0_6 : Int) (a0_7 : Int) (a0_8 : Bool) (a0_9 : ByteArray) (A0_10 : Option Addr) (c0_10 : Nat) (l0_10 : List (S23)) (a1_0 : Int) (a1_1 : Int) (a1_2 : Int) (a1_3 : Int) (a1_4 : Int) (a1_5 : Int) (a1_6 : Int) (a1_7 : Int) (a1_8 : Bool) (a1_9 : ByteArray) (A1_10 : Option Addr) (c1_10 : Nat) (l1_10 : List (S23)) (r : Bool) (w : World) (hr0_10 : Kd.C k23 w A0_10 l0_10.length l0_10) (hc0_10 : l0_10.length ≤ c0_10) (hr1_10 : Kd.C k23 w A1_10 l1_10.length l1_10) (hc1_10 : l1_10.length ≤ c1_10) (h : msg_Same.f k a0_0 a0_1 a0_2 a0_3 a0_4 a0_5 a0_6 a0_7 a0_8 a0_9 l0_10 a1_0 a1_1 a1_2 a1_3 a1_4 a1_5 a1_6 a1_7 a1_8 a1_9 l1_10 = some r) :
  Calls Try.prog 12 #[.agg #[.int .i64 a0_0, .int .i64 a0_1, .int .i64 a0_2, .int .i64 a0_3, .int .i64 a0_4, .int .i64 a0_5, .int .i64 a0_6, .int .i64 a0_7, .bool a0_8, .string a0_9, .slice A0_10 l0_10.length c0_10], .agg #[.int .i64 a1_0, .int .i64 a1_1, .int .i64 a1_2, .int .i64 a1_3, .int .i64 a1_4, .int .i64 a1_5, .int .i64 a1_6, .int .i64 a1_7, .bool a1_8, .string a1_9, .slice A1_10 l1_10.length c1_10]] w fun e w' => e = .returned (.bool r) ∧ Below w.heap.size w w' := by
 have hu26 := Try.underlying26; have hu23 := Try.underlying23
 have HR0_10 := aS hr0_10
 have HC0_10 := aS hc0_10
 clear hr0_10 hc0_10
 have HR1_10 := aS hr1_10
 have HC1_10 := aS hc1_10
 clear hr1_10 hc1_10
 have HB := aS (Below.refl w.heap.size w)
 have H : (if a0_0 = a1_0 then (if a0_1 = a1_1 then (if a0_2 = a1_2 then (if a0_3 = a1_3 then (if a0_4 = a1_4 then (if (a0_5 == a1_5 && (a0_6 == a1_6 && (a0_7 == a1_7 && (a0_8 == a1_8 && (a0_9.toList == a1_9.toList))))) = true then ((api_Vote.f k l0_10 l1_10).bind fun t228 => (some t228)) else (some false)) else (some false)) else (some false)) else (some false)) else (some false)) else (some false)) = some r := h
 clear h
 by_cases c3 : a0_0 = a1_0
 ·
  rw [if_pos c3] at H
  obtain ⟨c3b0, c3b1⟩ := eqT c3
  clear c3
  by_cases c4 : a0_1 = a1_1
  ·
   rw [if_pos c4] at H
   obtain ⟨c4b0, c4b1⟩ := eqT c4
   clear c4
   by_cases c5 : a0_2 = a1_2
   ·
    rw [if_pos c5] at H
    obtain ⟨c5b0, c5b1⟩ := eqT c5
    clear c5
    by_cases c6 : a0_3 = a1_3
    ·
     rw [if_pos c6] at H
     obtain ⟨c6b0, c6b1⟩ := eqT c6
     clear c6
     by_cases c7 : a0_4 = a1_4
     ·
      rw [if_pos c7] at H
      obtain ⟨c7b0, c7b1⟩ := eqT c7
      clear c7
      by_cases c8 : (a0_5 == a1_5 && (a0_6 == a1_6 && (a0_7 == a1_7 && (a0_8 == a1_8 && (a0_9.toList == a1_9.toList))))) = true
      ·
       rw [if_pos c8] at H
       have c8b0 : (a0_5 == a1_5 && (a0_6 == a1_6 && (a0_7 == a1_7 && (a0_8 == a1_8 && (a0_9.toList == a1_9.toList))))) = true := c8
       (try (have c8b1 : decide (a0_5 = a1_5 && (a0_6 == a1_6 && (a0_7 == a1_7 && (a0_8 == a1_8 && (a0_9.toList == a1_9.toList))))) = true := by simpa using c8))
       (try (have c8b2 : (a0_5 == a1_5 && (a0_6 == a1_6 && (a0_7 == a1_7 && (a0_8 == a1_8 && (a0_9.toList == a1_9.toList))))) = true := by simpa using c8))
       (try (have c8b3 : decide (a0_5 = a1_5 ∧ a0_6 = a1_6 ∧ a0_7 = a1_7 ∧ a0_8 = a1_8 ∧ a0_9.toList = a1_9.toList) = true := by simpa using c8))
       clear c8
       replace H := obm H
       obtain ⟨t228, A90, H⟩ := H
       replace H : (some t228) = some r := H
       have A9 := aS A90
       clear A90
       obtain rfl := Option.some.inj H
       go_enter Try.func12, Try.ntmps12
       go_wp2_with (first | ((with_reducible refine gate_dst (N := 2) rfl ?_); refine box_event ?hg (N := 2) ?hd (cs := #[.int .i64 a0_0, .int .i64 a0_1, .int .i64 a0_2, .int .i64 a0_3, .int .i64 a0_4, .int .i64 a0_5, .int .i64 a0_6, .int .i64 a0_7, .bool a0_8, .string a0_9, .slice A0_10 l0_10.length c0_10]) (t := 26) ?hr ?_; (case hd => rfl); (case hg => rfl); (case hr => first | (go_simp; done) | (go_simp; rfl)); intro gb226 hg w10 hbox hb; have n0_ := bstep hb; have n1_ := aS (hbox); have n2_ := bsize hg; have n3_ := bsize hg; clear HB; have HB := n0_; have BK226 := n1_; have GW226 := n2_; have GE226 := n3_; clear n0_ n1_ n2_ n3_; clear hb hbox hg) | ((with_reducible refine gate_dst (N := 3) rfl ?_); refine box_event ?hg (N := 3) ?hd (cs := #[.int .i64 a1_0, .int .i64 a1_1, .int .i64 a1_2, .int .i64 a1_3, .int .i64 a1_4, .int .i64 a1_5, .int .i64 a1_6, .int .i64 a1_7, .bool a1_8, .string a1_9, .slice A1_10 l1_10.length c1_10]) (t := 26) ?hr ?_; (case hd => rfl); (case hg => rfl); (case hr => first | (go_simp; done) | (go_simp; rfl)); intro gb227 hg w11 hbox hb; have n0_ := aS (blk_below (g := gb226) (o := .cells #[.int .i64 a0_0, .int .i64 a0_1, .int .i64 a0_2, .int .i64 a0_3, .int .i64 a0_4, .int .i64 a0_5, .int .i64 a0_6, .int .i64 a0_7, .bool a0_8, .string a0_9, .slice A0_10 l0_10.length c0_10] 26 (0, 0)) (bkl BK226.out) hb); have n1_ := bstep hb; have n2_ := aS (hbox); have n3_ := bsize hg; have n4_ := bsize hg; have n5_ := aS ((by rw [hg]; exact Nat.ne_of_lt (blk_lt (g := gb226) (o := .cells #[.int .i64 a0_0, .int .i64 a0_1, .int .i64 a0_2, .int .i64 a0_3, .int .i64 a0_4, .int .i64 a0_5, .int .i64 a0_6, .int .i64 a0_7, .bool a0_8, .string a0_9, .slice A0_10 l0_10.length c0_10] 26 (0, 0)) (bkl BK226.out)) : gb226 ≠ gb227)); have n6_ := aS ((by rw [hg]; exact Nat.ne_of_gt (blk_lt (g := gb226) (o := .cells #[.int .i64 a0_0, .int .i64 a0_1, .int .i64 a0_2, .int .i64 a0_3, .int .i64 a0_4, .int .i64 a0_5, .int .i64 a0_6, .int .i64 a0_7, .bool a0_8, .string a0_9, .slice A0_10 l0_10.length c0_10] 26 (0, 0)) (bkl BK226.out)) : gb227 ≠ gb226)); clear BK226; clear HB; have BK226 := n0_; have HB := n1_; have BK227 := n2_; have GW227 := n3_; have GE227 := n4_; have NB226_227 := n5_; have NB227_226 := n6_; clear n0_ n1_ n2_ n3_ n4_ n5_ n6_; clear hb hbox hg; have hnb12 := NB226_227.out; have hnc12 := NB227_226.out; have hcz13 := cK11 BK226; have hcz14 := cK11 BK227) | (go_at_call 27; (with_reducible refine (api_Vote.calls k _ _ l0_10 _ _ l1_10 t228 _ ?side1 ?side2 ?side3 ?side4 A9.out).mono ?_); (case side1 => exact cel (Kd.C_below HR0_10.out HB.out)); (case side2 => exact HC0_10.out); (case side3 => exact cel (Kd.C_below HR1_10.out HB.out)); (case side4 => exact HC1_10.out); rintro e w' ⟨rfl, ⟨nd, rfl⟩⟩))
       all_goals (try (rename_i hz_; first | exact absurd (odt c8b3) hz_))
       go_ret
       exact ⟨rf3, bel⟩
      ·
       rw [if_neg c8] at H
       have c8b0 : (a0_5 == a1_5 && (a0_6 == a1_6 && (a0_7 == a1_7 && (a0_8 == a1_8 && (a0_9.toList == a1_9.toList))))) = false := by simpa using c8
       (try (have c8b1 : decide (a0_5 = a1_5 && (a0_6 == a1_6 && (a0_7 == a1_7 && (a0_8 == a1_8 && (a0_9.toList == a1_9.toList))))) = false := by simpa using c8))
       (try (have c8b2 : (a0_5 == a1_5 && (a0_6 == a1_6 && (a0_7 == a1_7 && (a0_8 == a1_8 && (a0_9.toList == a1_9.toList))))) = false := by simpa using c8))
       (try (have c8b3 : ¬ (a0_5 = a1_5 && (a0_6 == a1_6 && (a0_7 == a1_7 && (a0_8 == a1_8 && (a0_9.toList == a1_9.toList))))) := by simpa using c8))
       (try (have c8b4 : decide (a0_5 = a1_5 ∧ a0_6 = a1_6 ∧ a0_7 = a1_7 ∧ a0_8 = a1_8 ∧ a0_9.toList = a1_9.toList) = false := by simpa using c8))
       clear c8
       obtain rfl := Option.some.inj H
       go_enter Try.func12, Try.ntmps12
       go_wp2_with (first | ((with_reducible refine gate_dst (N := 2) rfl ?_); refine box_event ?hg (N := 2) ?hd (cs := #[.int .i64 a0_0, .int .i64 a0_1, .int .i64 a0_2, .int .i64 a0_3, .int .i64 a0_4, .int .i64 a0_5, .int .i64 a0_6, .int .i64 a0_7, .bool a0_8, .string a0_9, .slice A0_10 l0_10.length c0_10]) (t := 26) ?hr ?_; (case hd => rfl); (case hg => rfl); (case hr => first | (go_simp; done) | (go_simp; rfl)); intro gb226 hg w15 hbox hb; have n0_ := bstep hb; have n1_ := aS (hbox); have n2_ := bsize hg; have n3_ := bsize hg; clear HB; have HB := n0_; have BK226 := n1_; have GW226 := n2_; have GE226 := n3_; clear n0_ n1_ n2_ n3_; clear hb hbox hg) | ((with_reducible refine gate_dst (N := 3) rfl ?_); refine box_event ?hg (N := 3) ?hd (cs := #[.int .i64 a1_0, .int .i64 a1_1, .int .i64 a1_2, .int .i64 a1_3, .int .i64 a1_4, .int .i64 a1_5, .int .i64 a1_6, .int .i64 a1_7, .bool a1_8, .string a1_9, .slice A1_10 l1_10.length c1_10]) (t := 26) ?hr ?_; (case hd => rfl); (case hg => rfl); (case hr => first | (go_simp; done) | (go_simp; rfl)); intro gb227 hg w16 hbox hb; have n0_ := aS (blk_below (g := gb226) (o := .cells #[.int .i64 a0_0, .int .i64 a0_1, .int .i64 a0_2, .int .i64 a0_3, .int .i64 a0_4, .int .i64 a0_5, .int .i64 a0_6, .int .i64 a0_7, .bool a0_8, .string a0_9, .slice A0_10 l0_10.length c0_10] 26 (0, 0)) (bkl BK226.out) hb); have n1_ := bstep hb; have n2_ := aS (hbox); have n3_ := bsize hg; have n4_ := bsize hg; have n5_ := aS ((by rw [hg]; exact Nat.ne_of_lt (blk_lt (g := gb226) (o := .cells #[.int .i64 a0_0, .int .i64 a0_1, .int .i64 a0_2, .int .i64 a0_3, .int .i64 a0_4, .int .i64 a0_5, .int .i64 a0_6, .int .i64 a0_7, .bool a0_8, .string a0_9, .slice A0_10 l0_10.length c0_10] 26 (0, 0)) (bkl BK226.out)) : gb226 ≠ gb227)); have n6_ := aS ((by rw [hg]; exact Nat.ne_of_gt (blk_lt (g := gb226) (o := .cells #[.int .i64 a0_0, .int .i64 a0_1, .int .i64 a0_2, .int .i64 a0_3, .int .i64 a0_4, .int .i64 a0_5, .int .i64 a0_6, .int .i64 a0_7, .bool a0_8, .string a0_9, .slice A0_10 l0_10.length c0_10] 26 (0, 0)) (bkl BK226.out)) : gb227 ≠ gb226)); clear BK226; clear HB; have BK226 := n0_; have HB := n1_; have BK227 := n2_; have GW227 := n3_; have GE227 := n4_; have NB226_227 := n5_; have NB227_226 := n6_; clear n0_ n1_ n2_ n3_ n4_ n5_ n6_; clear hb hbox hg; have hnb17 := NB226_227.out; have hnc17 := NB227_226.out; have hcz18 := cK11 BK226; have hcz19 := cK11 BK227))
       all_goals (try (rename_i hz_; first | exact absurd hz_ (of_decide_eq_false c8b4)))
       go_ret
       exact ⟨rf3, bel⟩
     ·
      rw [if_neg c7] at H
      obtain ⟨c7b0, c7b1⟩ := eqF c7
      obtain rfl := Option.some.inj H
      go_enter Try.func12, Try.ntmps12
      go_wp2_with (first | ((with_reducible refine gate_dst (N := 2) rfl ?_); refine box_event ?hg (N := 2) ?hd (cs := #[.int .i64 a0_0, .int .i64 a0_1, .int .i64 a0_2, .int .i64 a0_3, .int .i64 a0_4, .int .i64 a0_5, .int .i64 a0_6, .int .i64 a0_7, .bool a0_8, .string a0_9, .slice A0_10 l0_10.length c0_10]) (t := 26) ?hr ?_; (case hd => rfl); (case hg => rfl); (case hr => first | (go_simp; done) | (go_simp; rfl)); intro gb226 hg w20 hbox hb; have n0_ := bstep hb; have n1_ := aS (hbox); have n2_ := bsize hg; have n3_ := bsize hg; clear HB; have HB := n0_; have BK226 := n1_; have GW226 := n2_; have GE226 := n3_; clear n0_ n1_ n2_ n3_; clear hb hbox hg) | ((with_reducible refine gate_dst (N := 3) rfl ?_); refine box_event ?hg (N := 3) ?hd (cs := #[.int .i64 a1_0, .int .i64 a1_1, .int .i64 a1_2, .int .i64 a1_3, .int .i64 a1_4, .int .i64 a1_5, .int .i64 a1_6, .int .i64 a1_7, .bool a1_8, .string a1_9, .slice A1_10 l1_10.length c1_10]) (t := 26) ?hr ?_; (case hd => rfl); (case hg => rfl); (case hr => first | (go_simp; done) | (go_simp; rfl)); intro gb227 hg w21 hbox hb; have n0_ := aS (blk_below (g := gb226) (o := .cells #[.int .i64 a0_0, .int .i64 a0_1, .int .i64 a0_2, .int .i64 a0_3, .int .i64 a0_4, .int .i64 a0_5, .int .i64 a0_6, .int .i64 a0_7, .bool a0_8, .string a0_9, .slice A0_10 l0_10.length c0_10] 26 (0, 0)) (bkl BK226.out) hb); have n1_ := bstep hb; have n2_ := aS (hbox); have n3_ := bsize hg; have n4_ := bsize hg; have n5_ := aS ((by rw [hg]; exact Nat.ne_of_lt (blk_lt (g := gb226) (o := .cells #[.int .i64 a0_0, .int .i64 a0_1, .int .i64 a0_2, .int .i64 a0_3, .int .i64 a0_4, .int .i64 a0_5, .int .i64 a0_6, .int .i64 a0_7, .bool a0_8, .string a0_9, .slice A0_10 l0_10.length c0_10] 26 (0, 0)) (bkl BK226.out)) : gb226 ≠ gb227)); have n6_ := aS ((by rw [hg]; exact Nat.ne_of_gt (blk_lt (g := gb226) (o := .cells #[.int .i64 a0_0, .int .i64 a0_1, .int .i64 a0_2, .int .i64 a0_3, .int .i64 a0_4, .int .i64 a0_5, .int .i64 a0_6, .int .i64 a0_7, .bool a0_8, .string a0_9, .slice A0_10 l0_10.length c0_10] 26 (0, 0)) (bkl BK226.out)) : gb227 ≠ gb226)); clear BK226; clear HB; have BK226 := n0_; have HB := n1_; have BK227 := n2_; have GW227 := n3_; have GE227 := n4_; have NB226_227 := n5_; have NB227_226 := n6_; clear n0_ n1_ n2_ n3_ n4_ n5_ n6_; clear hb hbox hg; have hnb22 := NB226_227.out; have hnc22 := NB227_226.out; have hcz23 := cK11 BK226; have hcz24 := cK11 BK227))
      go_ret
      exact ⟨rf3, bel⟩
    ·
     rw [if_neg c6] at H
     obtain ⟨c6b0, c6b1⟩ := eqF c6
     obtain rfl := Option.some.inj H
     go_enter Try.func12, Try.ntmps12
     go_wp2_with (first | ((with_reducible refine gate_dst (N := 2) rfl ?_); refine box_event ?hg (N := 2) ?hd (cs := #[.int .i64 a0_0, .int .i64 a0_1, .int .i64 a0_2, .int .i64 a0_3, .int .i64 a0_4, .int .i64 a0_5, .int .i64 a0_6, .int .i64 a0_7, .bool a0_8, .string a0_9, .slice A0_10 l0_10.length c0_10]) (t := 26) ?hr ?_; (case hd => rfl); (case hg => rfl); (case hr => first | (go_simp; done) | (go_simp; rfl)); intro gb226 hg w25 hbox hb; have n0_ := bstep hb; have n1_ := aS (hbox); have n2_ := bsize hg; have n3_ := bsize hg; clear HB; have HB := n0_; have BK226 := n1_; have GW226 := n2_; have GE226 := n3_; clear n0_ n1_ n2_ n3_; clear hb hbox hg) | ((with_reducible refine gate_dst (N := 3) rfl ?_); refine box_event ?hg (N := 3) ?hd (cs := #[.int .i64 a1_0, .int .i64 a1_1, .int .i64 a1_2, .int .i64 a1_3, .int .i64 a1_4, .int .i64 a1_5, .int .i64 a1_6, .int .i64 a1_7, .bool a1_8, .string a1_9, .slice A1_10 l1_10.length c1_10]) (t := 26) ?hr ?_; (case hd => rfl); (case hg => rfl); (case hr => first | (go_simp; done) | (go_simp; rfl)); intro gb227 hg w26 hbox hb; have n0_ := aS (blk_below (g := gb226) (o := .cells #[.int .i64 a0_0, .int .i64 a0_1, .int .i64 a0_2, .int .i64 a0_3, .int .i64 a0_4, .int .i64 a0_5, .int .i64 a0_6, .int .i64 a0_7, .bool a0_8, .string a0_9, .slice A0_10 l0_10.length c0_10] 26 (0, 0)) (bkl BK226.out) hb); have n1_ := bstep hb; have n2_ := aS (hbox); have n3_ := bsize hg; have n4_ := bsize hg; have n5_ := aS ((by rw [hg]; exact Nat.ne_of_lt (blk_lt (g := gb226) (o := .cells #[.int .i64 a0_0, .int .i64 a0_1, .int .i64 a0_2, .int .i64 a0_3, .int .i64 a0_4, .int .i64 a0_5, .int .i64 a0_6, .int .i64 a0_7, .bool a0_8, .string a0_9, .slice A0_10 l0_10.length c0_10] 26 (0, 0)) (bkl BK226.out)) : gb226 ≠ gb227)); have n6_ := aS ((by rw [hg]; exact Nat.ne_of_gt (blk_lt (g := gb226) (o := .cells #[.int .i64 a0_0, .int .i64 a0_1, .int .i64 a0_2, .int .i64 a0_3, .int .i64 a0_4, .int .i64 a0_5, .int .i64 a0_6, .int .i64 a0_7, .bool a0_8, .string a0_9, .slice A0_10 l0_10.length c0_10] 26 (0, 0)) (bkl BK226.out)) : gb227 ≠ gb226)); clear BK226; clear HB; have BK226 := n0_; have HB := n1_; have BK227 := n2_; have GW227 := n3_; have GE227 := n4_; have NB226_227 := n5_; have NB227_226 := n6_; clear n0_ n1_ n2_ n3_ n4_ n5_ n6_; clear hb hbox hg; have hnb27 := NB226_227.out; have hnc27 := NB227_226.out; have hcz28 := cK11 BK226; have hcz29 := cK11 BK227))
     go_ret
     exact ⟨rf3, bel⟩
   ·
    rw [if_neg c5] at H
    obtain ⟨c5b0, c5b1⟩ := eqF c5
    obtain rfl := Option.some.inj H
    go_enter Try.func12, Try.ntmps12
    go_wp2_with (first | ((with_reducible refine gate_dst (N := 2) rfl ?_); refine box_event ?hg (N := 2) ?hd (cs := #[.int .i64 a0_0, .int .i64 a0_1, .int .i64 a0_2, .int .i64 a0_3, .int .i64 a0_4, .int .i64 a0_5, .int .i64 a0_6, .int .i64 a0_7, .bool a0_8, .string a0_9, .slice A0_10 l0_10.length c0_10]) (t := 26) ?hr ?_; (case hd => rfl); (case hg => rfl); (case hr => first | (go_simp; done) | (go_simp; rfl)); intro gb226 hg w30 hbox hb; have n0_ := bstep hb; have n1_ := aS (hbox); have n2_ := bsize hg; have n3_ := bsize hg; clear HB; have HB := n0_; have BK226 := n1_; have GW226 := n2_; have GE226 := n3_; clear n0_ n1_ n2_ n3_; clear hb hbox hg) | ((with_reducible refine gate_dst (N := 3) rfl ?_); refine box_event ?hg (N := 3) ?hd (cs := #[.int .i64 a1_0, .int .i64 a1_1, .int .i64 a1_2, .int .i64 a1_3, .int .i64 a1_4, .int .i64 a1_5, .int .i64 a1_6, .int .i64 a1_7, .bool a1_8, .string a1_9, .slice A1_10 l1_10.length c1_10]) (t := 26) ?hr ?_; (case hd => rfl); (case hg => rfl); (case hr => first | (go_simp; done) | (go_simp; rfl)); intro gb227 hg w31 hbox hb; have n0_ := aS (blk_below (g := gb226) (o := .cells #[.int .i64 a0_0, .int .i64 a0_1, .int .i64 a0_2, .int .i64 a0_3, .int .i64 a0_4, .int .i64 a0_5, .int .i64 a0_6, .int .i64 a0_7, .bool a0_8, .string a0_9, .slice A0_10 l0_10.length c0_10] 26 (0, 0)) (bkl BK226.out) hb); have n1_ := bstep hb; have n2_ := aS (hbox); have n3_ := bsize hg; have n4_ := bsize hg; have n5_ := aS ((by rw [hg]; exact Nat.ne_of_lt (blk_lt (g := gb226) (o := .cells #[.int .i64 a0_0, .int .i64 a0_1, .int .i64 a0_2, .int .i64 a0_3, .int .i64 a0_4, .int .i64 a0_5, .int .i64 a0_6, .int .i64 a0_7, .bool a0_8, .string a0_9, .slice A0_10 l0_10.length c0_10] 26 (0, 0)) (bkl BK226.out)) : gb226 ≠ gb227)); have n6_ := aS ((by rw [hg]; exact Nat.ne_of_gt (blk_lt (g := gb226) (o := .cells #[.int .i64 a0_0, .int .i64 a0_1, .int .i64 a0_2, .int .i64 a0_3, .int .i64 a0_4, .int .i64 a0_5, .int .i64 a0_6, .int .i64 a0_7, .bool a0_8, .string a0_9, .slice A0_10 l0_10.length c0_10] 26 (0, 0)) (bkl BK226.out)) : gb227 ≠ gb226)); clear BK226; clear HB; have BK226 := n0_; have HB := n1_; have BK227 := n2_; have GW227 := n3_; have GE227 := n4_; have NB226_227 := n5_; have NB227_226 := n6_; clear n0_ n1_ n2_ n3_ n4_ n5_ n6_; clear hb hbox hg; have hnb32 := NB226_227.out; have hnc32 := NB227_226.out; have hcz33 := cK11 BK226; have hcz34 := cK11 BK227))
    go_ret
    exact ⟨rf3, bel⟩
  ·
   rw [if_neg c4] at H
   obtain ⟨c4b0, c4b1⟩ := eqF c4
   obtain rfl := Option.some.inj H
   go_enter Try.func12, Try.ntmps12
   go_wp2_with (first | ((with_reducible refine gate_dst (N := 2) rfl ?_); refine box_event ?hg (N := 2) ?hd (cs := #[.int .i64 a0_0, .int .i64 a0_1, .int .i64 a0_2, .int .i64 a0_3, .int .i64 a0_4, .int .i64 a0_5, .int .i64 a0_6, .int .i64 a0_7, .bool a0_8, .string a0_9, .slice A0_10 l0_10.length c0_10]) (t := 26) ?hr ?_; (case hd => rfl); (case hg => rfl); (case hr => first | (go_simp; done) | (go_simp; rfl)); intro gb226 hg w35 hbox hb; have n0_ := bstep hb; have n1_ := aS (hbox); have n2_ := bsize hg; have n3_ := bsize hg; clear HB; have HB := n0_; have BK226 := n1_; have GW226 := n2_; have GE226 := n3_; clear n0_ n1_ n2_ n3_; clear hb hbox hg) | ((with_reducible refine gate_dst (N := 3) rfl ?_); refine box_event ?hg (N := 3) ?hd (cs := #[.int .i64 a1_0, .int .i64 a1_1, .int .i64 a1_2, .int .i64 a1_3, .int .i64 a1_4, .int .i64 a1_5, .int .i64 a1_6, .int .i64 a1_7, .bool a1_8, .string a1_9, .slice A1_10 l1_10.length c1_10]) (t := 26) ?hr ?_; (case hd => rfl); (case hg => rfl); (case hr => first | (go_simp; done) | (go_simp; rfl)); intro gb227 hg w36 hbox hb; have n0_ := aS (blk_below (g := gb226) (o := .cells #[.int .i64 a0_0, .int .i64 a0_1, .int .i64 a0_2, .int .i64 a0_3, .int .i64 a0_4, .int .i64 a0_5, .int .i64 a0_6, .int .i64 a0_7, .bool a0_8, .string a0_9, .slice A0_10 l0_10.length c0_10] 26 (0, 0)) (bkl BK226.out) hb); have n1_ := bstep hb; have n2_ := aS (hbox); have n3_ := bsize hg; have n4_ := bsize hg; have n5_ := aS ((by rw [hg]; exact Nat.ne_of_lt (blk_lt (g := gb226) (o := .cells #[.int .i64 a0_0, .int .i64 a0_1, .int .i64 a0_2, .int .i64 a0_3, .int .i64 a0_4, .int .i64 a0_5, .int .i64 a0_6, .int .i64 a0_7, .bool a0_8, .string a0_9, .slice A0_10 l0_10.length c0_10] 26 (0, 0)) (bkl BK226.out)) : gb226 ≠ gb227)); have n6_ := aS ((by rw [hg]; exact Nat.ne_of_gt (blk_lt (g := gb226) (o := .cells #[.int .i64 a0_0, .int .i64 a0_1, .int .i64 a0_2, .int .i64 a0_3, .int .i64 a0_4, .int .i64 a0_5, .int .i64 a0_6, .int .i64 a0_7, .bool a0_8, .string a0_9, .slice A0_10 l0_10.length c0_10] 26 (0, 0)) (bkl BK226.out)) : gb227 ≠ gb226)); clear BK226; clear HB; have BK226 := n0_; have HB := n1_; have BK227 := n2_; have GW227 := n3_; have GE227 := n4_; have NB226_227 := n5_; have NB227_226 := n6_; clear n0_ n1_ n2_ n3_ n4_ n5_ n6_; clear hb hbox hg; have hnb37 := NB226_227.out; have hnc37 := NB227_226.out; have hcz38 := cK11 BK226; have hcz39 := cK11 BK227))
   go_ret
   exact ⟨rf3, bel⟩
 ·
  rw [if_neg c3] at H
  obtain ⟨c3b0, c3b1⟩ := eqF c3
  obtain rfl := Option.some.inj H
  go_enter Try.func12, Try.ntmps12
  go_wp2_with (first | ((with_reducible refine gate_dst (N := 2) rfl ?_); refine box_event ?hg (N := 2) ?hd (cs := #[.int .i64 a0_0, .int .i64 a0_1, .int .i64 a0_2, .int .i64 a0_3, .int .i64 a0_4, .int .i64 a0_5, .int .i64 a0_6, .int .i64 a0_7, .bool a0_8, .string a0_9, .slice A0_10 l0_10.length c0_10]) (t := 26) ?hr ?_; (case hd => rfl); (case hg => rfl); (case hr => first | (go_simp; done) | (go_simp; rfl)); intro gb226 hg w40 hbox hb; have n0_ := bstep hb; have n1_ := aS (hbox); have n2_ := bsize hg; have n3_ := bsize hg; clear HB; have HB := n0_; have BK226 := n1_; have GW226 := n2_; have GE226 := n3_; clear n0_ n1_ n2_ n3_; clear hb hbox hg) | ((with_reducible refine gate_dst (N := 3) rfl ?_); refine box_event ?hg (N := 3) ?hd (cs := #[.int .i64 a1_0, .int .i64 a1_1, .int .i64 a1_2, .int .i64 a1_3, .int .i64 a1_4, .int .i64 a1_5, .int .i64 a1_6, .int .i64 a1_7, .bool a1_8, .string a1_9, .slice A1_10 l1_10.length c1_10]) (t := 26) ?hr ?_; (case hd => rfl); (case hg => rfl); (case hr => first | (go_simp; done) | (go_simp; rfl)); intro gb227 hg w41 hbox hb; have n0_ := aS (blk_below (g := gb226) (o := .cells #[.int .i64 a0_0, .int .i64 a0_1, .int .i64 a0_2, .int .i64 a0_3, .int .i64 a0_4, .int .i64 a0_5, .int .i64 a0_6, .int .i64 a0_7, .bool a0_8, .string a0_9, .slice A0_10 l0_10.length c0_10] 26 (0, 0)) (bkl BK226.out) hb); have n1_ := bstep hb; have n2_ := aS (hbox); have n3_ := bsize hg; have n4_ := bsize hg; have n5_ := aS ((by rw [hg]; exact Nat.ne_of_lt (blk_lt (g := gb226) (o := .cells #[.int .i64 a0_0, .int .i64 a0_1, .int .i64 a0_2, .int .i64 a0_3, .int .i64 a0_4, .int .i64 a0_5, .int .i64 a0_6, .int .i64 a0_7, .bool a0_8, .string a0_9, .slice A0_10 l0_10.length c0_10] 26 (0, 0)) (bkl BK226.out)) : gb226 ≠ gb227)); have n6_ := aS ((by rw [hg]; exact Nat.ne_of_gt (blk_lt (g := gb226) (o := .cells #[.int .i64 a0_0, .int .i64 a0_1, .int .i64 a0_2, .int .i64 a0_3, .int .i64 a0_4, .int .i64 a0_5, .int .i64 a0_6, .int .i64 a0_7, .bool a0_8, .string a0_9, .slice A0_10 l0_10.length c0_10] 26 (0, 0)) (bkl BK226.out)) : gb227 ≠ gb226)); clear BK226; clear HB; have BK226 := n0_; have HB := n1_; have BK227 := n2_; have GW227 := n3_; have GE227 := n4_; have NB226_227 := n5_; have NB227_226 := n6_; clear n0_ n1_ n2_ n3_ n4_ n5_ n6_; clear hb hbox hg; have hnb42 := NB226_227.out; have hnc42 := NB227_226.out; have hcz43 := cK11 BK226; have hcz44 := cK11 BK227))
  go_ret
  exact ⟨rf3, bel⟩

/-! ### slices_Clone_byte_byte: function 47 -/
def slices_Clone_byte_byte.f (l0 : List Int) : Option (List Int) := if l0.length * 1 ≤ 140737488355328 then some l0 else none
theorem slices_Clone_byte_byte.calls (A0 : Option Addr) (c0 : Nat) (l0 r : List Int) (w : World) (hr0 : Kd.C (Kd.int .u8) w A0 l0.length l0) (hc0 : l0.length ≤ c0) (h : slices_Clone_byte_byte.f l0 = some r) :
  Calls Try.prog 47 #[.slice A0 l0.length c0] w fun e w' => ∃ v0_ : Value, e = .returned (v0_) ∧ Kd.R (Kd.int .u8) 5 w' w.heap.size (fun _ => True) v0_ r ∧ Below w.heap.size w w' := by
 unfold slices_Clone_byte_byte.f at h
 split at h
 ·
  rename_i hlim
  obtain rfl := Option.some.inj h
  clear h
  have HL := aS hlim
  clear hlim
  have HR := aS hr0
  clear hr0
  have HC := aS hc0
  clear hc0
  cases A0 with
  | none =>
   have hl : l0 = [] := by
    rcases Nat.eq_zero_or_pos l0.length with h0 | h0
    ·
     exact List.eq_nil_of_length_eq_zero h0
    ·
     obtain ⟨ad, h, _⟩ := HR.out.2.2 h0
     cases h
   subst hl
   have hq := fun (w : World) (n c n' c' : Nat) => Lib.run_eql_slice_nil (P := Try.prog) w 29 5 none n c n' c' Try.underlying29
   go_enter Try.func47, Try.ntmps47
   go_wp2
   go_ret
   exact ⟨_, rfl, Kd.R_nil _ _ _ _ _, Below.refl _ _⟩
  | some ad =>
   have hq := fun (w : World) (n c n' c' : Nat) => Lib.run_eql_slice_nil (P := Try.prog) w 29 5 (some ad) n c n' c' Try.underlying29
   go_enter Try.func47, Try.ntmps47
   go_wp2_with (first
    | ((with_reducible refine gate_dst (N := 5) rfl ?_); refine Kd.R_lit (Kd.int .u8) _ 5 ?hg (N := 5) ?hd (xs := []) (inner := []) (ok := fun _ => True) (okp := fun _ => True) ?hr ?hp (fun _ hk => hk) trivial (Below.refl _ _) (Nat.le_refl _) (by simp) ?_; (case hd => rfl); (case hg => rfl); (case hr => first | (go_simp; done) | (go_simp; rfl)); (case hp => exact Reps.none _ _); intro v1 w1 ho hb hg_ hnew_; clear hg_ hnew_; have HO := aS ho; have HB := aS hb; clear ho hb)
    | (at_builtin; refine Kd.R_append_rows (Kd.int .u8) (Rr := ((Kd.int .u8)).K w) (w0 := w) w.heap.size rfl (.tmp 5) _ 29 5 _ _ rfl Try.underlying29 info5 rfl (by decide) (by decide) v1 [] l0 (some ad) l0.length c0 (fun _ => True) (fun _ => False) rfl rfl HO.out (HR.out.imp_ HB.out (fun _ _ hp => hp)) (fun _ _ hp => hp) (fun _ hk => hk.elim) (fun _ _ => trivial) HB.out HB.out.size (by have := HL.out; simp; omega) ?_; intro v2 w2 ho hb hg hat; clear hg hat; have HO2 := aS ho; have HB2 := aS hb; clear ho hb))
   go_ret
   exact ⟨_, rfl, HO2.out, HB2.out⟩
 ·
  cases h

/-! ### wire_CutNum: function 36 -/
def wire_CutNum.l0 : Nat → List Int → Int → List Int → Int → Int → Option (Int × List Int × Bool)
 | 0, _, _, _, _, _ => none
 | k + 1, x0, x5, x12, x13, x14 => if x14 < x13 then (if 0 ≤ x14 then (if x14 < (x12.length : Int) then (wire_CutNum.l0 k x0 (Go.bits .or .i64 (wrap64 (x5 * 256)) (wrap64 (rd x12 x14))) x12 x13 (wrap64 (x14 + 1))) else (none)) else (none)) else (if 4 ≤ (x0.length : Int) then ((slices_Clone_byte_byte.f (x0.drop 4)).bind fun t238 => (some (x5, t238, true))) else (none))
def wire_CutNum.f (k : Nat) (l0 : List Int) : Option (Int × List Int × Bool) := if (l0.length : Int) < 4 then (some (0, ([] : List Int), false)) else (if 4 ≤ (l0.length : Int) then ((some (l0.take 4 : List Int)).bind fun y229 => (wire_CutNum.l0 k l0 0 y229 (y229.length : Int) 0)) else (none))
theorem wire_CutNum.mono_l : ∀ k, (∀ y0 y1 y2 y3 y4, LeO (wire_CutNum.l0 k y0 y1 y2 y3 y4) (wire_CutNum.l0 (k + 1) y0 y1 y2 y3 y4))
 | 0 => fun _ _ _ _ _ r h => by simp [wire_CutNum.l0] at h
 | k + 1 => by
  have ih0 := wire_CutNum.mono_l k
  ·
   intro y0 y1 y2 y3 y4
   unfold wire_CutNum.l0
   repeat' first
   | (with_reducible exact ih0 _ _ _ _ _)
   | (with_reducible exact LeO.refl _)
   | (with_reducible exact LeO.none _)
   | (with_reducible refine LeO.ite ?_ ?_)
   | (with_reducible refine LeO.bind ?_ (fun _ => ?_))
   | exact LeO.none _
   | refine LeO.ite ?_ ?_
   | refine LeO.bind ?_ (fun _ => ?_)
theorem wire_CutNum.mono : ∀ a0 k, LeO (wire_CutNum.f k a0) (wire_CutNum.f (k + 1) a0) := by
 intro a0 k
 have ih0 := wire_CutNum.mono_l k
 unfold wire_CutNum.f
 repeat' first
   | (with_reducible exact ih0 _ _ _ _ _)
   | (with_reducible exact LeO.refl _)
   | (with_reducible exact LeO.none _)
   | (with_reducible refine LeO.ite ?_ ?_)
   | (with_reducible refine LeO.bind ?_ (fun _ => ?_))
   | exact LeO.none _
   | refine LeO.ite ?_ ?_
   | refine LeO.bind ?_ (fun _ => ?_)
set_option maxHeartbeats 8000000 in
set_option maxRecDepth 100000 in
theorem wire_CutNum.calls (k : Nat) (A0 : Option Addr) (c0 : Nat) (l0 : List Int) (r1 : Int) (r2 : List Int) (r3 : Bool) (w : World) (hr0 : Kd.C (Kd.int .u8) w A0 l0.length l0) (hc0 : l0.length ≤ c0) (h : wire_CutNum.f k l0 = some (r1, r2, r3)) :
  Calls Try.prog 36 #[.slice A0 l0.length c0] w fun e w' => ∃ v1_ : Value, e = .returned (.tuple #[.int .i64 r1, v1_, .bool r3]) ∧ Kd.R (Kd.int .u8) 5 w' w.heap.size (fun _ => True) v1_ r2 ∧ Below w.heap.size w w' := by
 have HR0 := aS hr0
 have HC0 := aS hc0
 clear hr0 hc0
 have HB := aS (Below.refl w.heap.size w)
 have H : (if (l0.length : Int) < 4 then (some (0, ([] : List Int), false)) else (if 4 ≤ (l0.length : Int) then ((some (l0.take 4 : List Int)).bind fun y229 => (wire_CutNum.l0 k l0 0 y229 (y229.length : Int) 0)) else (none))) = some (r1, r2, r3) := h
 clear h
 by_cases c2 : (l0.length : Int) < 4
 ·
  rw [if_pos c2] at H
  have c2b0 : decide ((l0.length : Int) < 4) = true := decide_eq_true c2
  have c2b1 : decide (l0.length < 4) = true := decide_eq_true (by omega)
  clear c2
  simp only [Option.some.injEq, Prod.mk.injEq] at H
  obtain ⟨rfl, rfl, rfl⟩ := H
  go_enter Try.func36, Try.ntmps36
  go_wp2
  go_ret3
  exact ⟨_, rf3, by first | exact Kd.R_nil _ _ _ _ _ | exact Kd.N_nil _ _ _ _ _ | exact Kd.V_nil _ _ _ _ _ | exact Kd.Q_nil _ _ _ _ _ | exact Kd.S_nil _ _ _ _ _, bel⟩
 ·
  rw [if_neg c2] at H
  have c2b0 : decide ((l0.length : Int) < 4) = false := decide_eq_false c2
  have c2b1 : decide (l0.length < 4) = false := decide_eq_false (by omega)
  clear c2
  by_cases c3 : 4 ≤ (l0.length : Int)
  ·
   rw [if_pos c3] at H
   have c3b0 := eq_true c3
   have c3b1 : decide (4 ≤ (l0.length : Int)) = true := decide_eq_true c3
   clear c3
   obtain ⟨y229, hy229⟩ : ∃ y_ : List Int, y_ = (l0.take 4) := ⟨_, rfl⟩
   replace H : (wire_CutNum.l0 k l0 0 y229 (y229.length : Int) 0) = some (r1, r2, r3) := by first | (rw [hy229]; with_reducible exact H) | (have H2_ := (Option.bind_some _ _).symm.trans H; rw [hy229]; with_reducible exact H2_) | (have H2_ := (Option.bind_some _ _).symm.trans H; with_reducible exact H2_) | with_reducible exact H | (rw [hy229]; exact H) | exact H
   have Ny229 := aS hy229
   clear hy229
   have H' := aS H
   clear H
   have q4 : (4 : Int) ≤ ((l0.length : Int) : Int) := odt (by first | (with_reducible assumption) | assumption)
   obtain ⟨i04, hi04, _, hsz4, _⟩ := info_parts info5
   have hroom4 : l0.length ≤ c0 := HC0.out
   have hC4 : Kd.C (Kd.int .u8) _ A0 l0.length l0 := HR0.out
   have hcut4 := cut_to (P := Try.prog) 29 5 .i64 Try.underlying29 hi04 A0 l0.length c0 4 (by omega) q4 hroom4
   have hr4 := Kd.C_take (m := 4) hC4 (by omega)
   have hy4 : y229.length = (4 : Int).toNat := (by rw [Ny229.out, llt]; omega)
   rw [← Ny229.out] at hr4
   rw [← hy4] at hcut4
   have HR232 := aS hr4
   have HC232 := aS (show y229.length ≤ c0 from by omega)
   clear hr4 hC4 hroom4 hi04 hsz4
   have KY4 := aS hy4
   clear hy4
   replace q4 := eq_true q4
   go_enter Try.func36, Try.ntmps36
   go_wp2
   go_loopg [5, 14] k (fun kq v5 v14 w' => ∃ (x5_1 : Int) (x14_1 : Int), v5 = .int .i64 x5_1 ∧ v14 = .int .i64 x14_1 ∧ Aside0 (wire_CutNum.l0 kq l0 x5_1 y229 (y229.length : Int) x14_1 = some (r1, r2, r3)) ∧ Aside0 (kq ≤ k) ∧ Aside0 (Below w.heap.size w w'))
   case atStart => exact ⟨(0), (0), (by first | rfl | (simp; done) | (simp [*]; done) | (simp; exact (by decide : ∀ a_ b_ : Bool, (a_ == b_) = (!a_ != b_)) _ _)), (by first | rfl | (simp; done) | (simp [*]; done) | (simp; exact (by decide : ∀ a_ b_ : Bool, (a_ == b_) = (!a_ != b_)) _ _)), H', ⟨Nat.le_refl _⟩, ⟨bel⟩⟩
   case round =>
    clear H'; (try clear c2); (try clear c2b0); (try clear c2b1); (try clear p2); (try clear c3); (try clear c3b0); (try clear c3b1); (try clear q4)
    obtain ⟨x5_1, x14_1, rfl, rfl, HA, HK1, HB⟩ := hrel
    cases gk with
    | zero => exact absurd HA.out (by simp [wire_CutNum.l0])
    | succ k1 =>
     have H := HA.out; clear HA
     simp only [wire_CutNum.l0] at H
     by_cases c5 : x14_1 < (y229.length : Int)
     ·
      rw [if_pos c5] at H
      have c5b0 : decide (x14_1 < (y229.length : Int)) = true := decide_eq_true c5
      clear c5
      by_cases c6 : 0 ≤ x14_1
      ·
       rw [if_pos c6] at H
       have c6b0 : decide (0 ≤ x14_1) = true := decide_eq_true c6
       clear c6
       by_cases c7 : x14_1 < (y229.length : Int)
       ·
        rw [if_pos c7] at H
        have c7b0 : decide (x14_1 < (y229.length : Int)) = true := decide_eq_true c7
        clear c7
        have H' := aS H
        clear H
        have p233 : 0 ≤ (x14_1 : Int) := odt (by first | (with_reducible assumption) | assumption)
        have q233 : x14_1 < (y229.length : Int) := odt (by first | (with_reducible assumption) | assumption)
        obtain ⟨ad233, e233, hx233_0⟩ := Kd.at_int HR232.out x14_1 p233 q233
        cases e233
        replace hx233_0 := (HB.out.cell (wbl w _ hx233_0)).trans hx233_0
        replace p233 := eq_true p233
        replace q233 := eq_true q233
        go_wp2
        go_roundg k1
        case measure => have := HK1.out; omega
        case rel => exact ⟨(Go.bits .or .i64 (wrap64 (x5_1 * 256)) (wrap64 (rd y229 x14_1))), (wrap64 (x14_1 + 1)), (by first | rfl | (simp; done) | (simp [*]; done) | (simp; exact (by decide : ∀ a_ b_ : Bool, (a_ == b_) = (!a_ != b_)) _ _)), (by first | rfl | (simp; done) | (simp [*]; done) | (simp; exact (by decide : ∀ a_ b_ : Bool, (a_ == b_) = (!a_ != b_)) _ _)), H', ⟨by have := HK1.out; omega⟩, ⟨bel⟩⟩
       ·
        rw [if_neg c7] at H
        exact absurd H (by simp)
      ·
       rw [if_neg c6] at H
       exact absurd H (by simp)
     ·
      rw [if_neg c5] at H
      have c5b0 : decide (x14_1 < (y229.length : Int)) = false := decide_eq_false c5
      clear c5
      by_cases c8 : 4 ≤ (l0.length : Int)
      ·
       rw [if_pos c8] at H
       have c8b0 := eq_true c8
       have c8b1 : decide (4 ≤ (l0.length : Int)) = true := decide_eq_true c8
       clear c8
       obtain ⟨y234, hy234⟩ : ∃ y_ : List Int, y_ = (l0.drop 4) := ⟨_, rfl⟩
       replace H : ((slices_Clone_byte_byte.f y234).bind fun t238 => (some (x5_1, t238, true))) = some (r1, r2, r3) := by first | (rw [hy234]; with_reducible exact H) | (have H2_ := (Option.bind_some _ _).symm.trans H; rw [hy234]; with_reducible exact H2_) | (have H2_ := (Option.bind_some _ _).symm.trans H; with_reducible exact H2_) | with_reducible exact H | (rw [hy234]; exact H) | exact H
       have Ny234 := aS hy234
       clear hy234
       replace H := obm H
       obtain ⟨t238, A90, H⟩ := H
       replace H : (some (x5_1, t238, true)) = some (r1, r2, r3) := H
       have A9 := aS A90
       clear A90
       simp only [Option.some.injEq, Prod.mk.injEq] at H
       obtain ⟨rfl, rfl, rfl⟩ := H
       have q10 : (4 : Int) ≤ ((l0.length : Int) : Int) := odt (by first | (with_reducible assumption) | assumption)
       obtain ⟨i010, hi010, _, hsz10, _⟩ := info_parts info5
       have hroom10 : l0.length ≤ c0 := HC0.out
       have hC10 : Kd.C (Kd.int .u8) _ A0 l0.length l0 := HR0.out
       have hcut10 := cut_from (P := Try.prog) 29 5 .i64 Try.underlying29 hi010 1 hsz10 A0 l0.length c0 4 (by omega) q10
       have hr10 := Kd.C_drop (m := (4 : Int).toNat) (c := c0) hC10 (by omega) hroom10
       obtain ⟨A10, hA10⟩ : ∃ A1_, A1_ = (if c0 = (4 : Int).toNat then A0 else (A0 : Option Addr).map (·.add ((4 : Int).toNat * 1))) := ⟨_, rfl⟩
       obtain ⟨c10, hc10⟩ : ∃ c1_, c1_ = c0 - (4 : Int).toNat := ⟨_, rfl⟩
       have hy10 : y234.length = l0.length - (4 : Int).toNat := (by rw [Ny234.out, lld] <;> omega)
       rw [show (l0).drop (4 : Int).toNat = y234 from Ny234.out.symm] at hr10
       replace hr10 : Kd.C (Kd.int .u8) _ A10 y234.length y234 := (by rw [hA10]; exact hr10)
       rw [← hy10, ← hA10, ← hc10] at hcut10
       have HR237 := aS hr10
       have HC237 := aS (show y234.length ≤ c10 from by rw [hy10, hc10]; exact Nat.sub_le_sub_right hroom10 _)
       clear hr10 hC10 hroom10 hi010 hsz10 hc10
       have KY10 := aS hy10
       have KA10 := aS hA10
       clear hy10 hA10
       replace q10 := eq_true q10
       go_wp2_with (first | ((with_reducible refine gate_callee (f := 47) rfl ?_); refine goesL_ (some 27) rfl rfl Try.func47 (by kernel_rfl) rfl #[.slice A10 y234.length c10] rfl agn ?_; (with_reducible refine (slices_Clone_byte_byte.calls _ _ y234 t238 _ ?side1 ?side2 A9.out).mono ?_); (case side1 => exact cel (Kd.C_below HR237.out HB.out)); (case side2 => exact HC237.out); rintro e w11 ⟨v239, rfl, ho0, hb⟩; refine ⟨_, rfl, ?_⟩; have n0_ := aS (Kd.R_lower ho0 (below_size bel)); have n1_ := bstep hb; clear HB; have HO240 := n0_; have HB := n1_; clear n0_ n1_; (try clear hb); (try clear hb2); (try clear hk); (try clear hi); (try clear ho0)))
       go_ret3
       exact ⟨_, rf3, by (with_reducible repeat (first | apply Kd.R_alloc | apply Kd.R_drewN | apply Kd.R_drew)); exact HO240.out, bel⟩
      ·
       rw [if_neg c8] at H
       exact absurd H (by simp)
  ·
   rw [if_neg c3] at H
   exact absurd H (by simp)

/-! ### slices_Equal_byte_byte: function 41 -/
def slices_Equal_byte_byte.l0 : Nat → List Int → List Int → Int → Int → Option (Bool)
 | 0, _, _, _, _ => none
 | k + 1, x0, x1, x12, x13 => if x13 < x12 then (if 0 ≤ x13 then (if x13 < (x0.length : Int) then (if x13 < (x1.length : Int) then (if (rd x0 x13) = (rd x1 x13) then (slices_Equal_byte_byte.l0 k x0 x1 x12 (wrap64 (x13 + 1))) else (some false)) else (none)) else (none)) else (none)) else (some true)
def slices_Equal_byte_byte.f (k : Nat) (l0 : List Int) (l1 : List Int) : Option (Bool) := if (l0.length : Int) = (l1.length : Int) then (slices_Equal_byte_byte.l0 k l0 l1 (l0.length : Int) 0) else (some false)
theorem slices_Equal_byte_byte.mono_l : ∀ k, (∀ y0 y1 y2 y3, LeO (slices_Equal_byte_byte.l0 k y0 y1 y2 y3) (slices_Equal_byte_byte.l0 (k + 1) y0 y1 y2 y3))
 | 0 => fun _ _ _ _ r h => by simp [slices_Equal_byte_byte.l0] at h
 | k + 1 => by
  have ih0 := slices_Equal_byte_byte.mono_l k
  ·
   intro y0 y1 y2 y3
   unfold slices_Equal_byte_byte.l0
   repeat' first
   | (with_reducible exact ih0 _ _ _ _)
   | (with_reducible exact LeO.refl _)
   | (with_reducible exact LeO.none _)
   | (with_reducible refine LeO.ite ?_ ?_)
   | (with_reducible refine LeO.bind ?_ (fun _ => ?_))
   | exact LeO.none _
   | refine LeO.ite ?_ ?_
   | refine LeO.bind ?_ (fun _ => ?_)
theorem slices_Equal_byte_byte.mono : ∀ a0 a1 k, LeO (slices_Equal_byte_byte.f k a0 a1) (slices_Equal_byte_byte.f (k + 1) a0 a1) := by
 intro a0 a1 k
 have ih0 := slices_Equal_byte_byte.mono_l k
 unfold slices_Equal_byte_byte.f
 repeat' first
   | (with_reducible exact ih0 _ _ _ _)
   | (with_reducible exact LeO.refl _)
   | (with_reducible exact LeO.none _)
   | (with_reducible refine LeO.ite ?_ ?_)
   | (with_reducible refine LeO.bind ?_ (fun _ => ?_))
   | exact LeO.none _
   | refine LeO.ite ?_ ?_
   | refine LeO.bind ?_ (fun _ => ?_)
set_option maxHeartbeats 8000000 in
set_option maxRecDepth 100000 in
theorem slices_Equal_byte_byte.calls (k : Nat) (A0 : Option Addr) (c0 : Nat) (l0 : List Int) (A1 : Option Addr) (c1 : Nat) (l1 : List Int) (r : Bool) (w : World) (hr0 : Kd.C (Kd.int .u8) w A0 l0.length l0) (hc0 : l0.length ≤ c0) (hr1 : Kd.C (Kd.int .u8) w A1 l1.length l1) (hc1 : l1.length ≤ c1) (h : slices_Equal_byte_byte.f k l0 l1 = some r) :
  Calls Try.prog 41 #[.slice A0 l0.length c0, .slice A1 l1.length c1] w fun e w' => e = .returned (.bool r) ∧ Drawn0 w w' := by
 have HR0 := aS hr0
 have HC0 := aS hc0
 clear hr0 hc0
 have HR1 := aS hr1
 have HC1 := aS hc1
 clear hr1 hc1
 have H : (if (l0.length : Int) = (l1.length : Int) then (slices_Equal_byte_byte.l0 k l0 l1 (l0.length : Int) 0) else (some false)) = some r := h
 clear h
 by_cases c3 : (l0.length : Int) = (l1.length : Int)
 ·
  rw [if_pos c3] at H
  obtain ⟨c3b0, c3b1⟩ := eqT c3
  have c3b2 : (l0.length == l1.length) = true := by first | simpa using c3 | (simp at c3 ⊢; omega)
  clear c3
  have H' := aS H
  clear H
  go_enter Try.func41, Try.ntmps41
  go_wp2
  repeat (go_quiet (fail); try go_wp2)
  go_loopg [13] k (fun kq v13 w' => ∃ (x13_1 : Int), v13 = .int .i64 x13_1 ∧ Aside0 (slices_Equal_byte_byte.l0 kq l0 l1 (l0.length : Int) x13_1 = some r) ∧ Aside0 (kq ≤ k) ∧ Drawn0 w w')
  case atStart => exact ⟨(0), (by first | rfl | (simp; done) | (simp [*]; done) | (simp; exact (by decide : ∀ a_ b_ : Bool, (a_ == b_) = (!a_ != b_)) _ _)), H', ⟨Nat.le_refl _⟩, by repeat (first | exact Drawn0.refl _ | apply Drawn0.step)⟩
  case round =>
   clear H'; (try clear c1); (try clear p2); (try clear c3); (try clear c3b0); (try clear c3b1); (try clear c3b2)
   obtain ⟨x13_1, rfl, HA, HK1, ⟨m1, rfl⟩⟩ := hrel
   cases gk with
   | zero => exact absurd HA.out (by simp [slices_Equal_byte_byte.l0])
   | succ k1 =>
    have H := HA.out; clear HA
    simp only [slices_Equal_byte_byte.l0] at H
    by_cases c4 : x13_1 < (l0.length : Int)
    ·
     rw [if_pos c4] at H
     have c4b0 : decide (x13_1 < (l0.length : Int)) = true := decide_eq_true c4
     clear c4
     by_cases c5 : 0 ≤ x13_1
     ·
      rw [if_pos c5] at H
      have c5b0 : decide (0 ≤ x13_1) = true := decide_eq_true c5
      clear c5
      by_cases c6 : x13_1 < (l0.length : Int)
      ·
       rw [if_pos c6] at H
       have c6b0 : decide (x13_1 < (l0.length : Int)) = true := decide_eq_true c6
       clear c6
       by_cases c7 : x13_1 < (l1.length : Int)
       ·
        rw [if_pos c7] at H
        have c7b0 : decide (x13_1 < (l1.length : Int)) = true := decide_eq_true c7
        clear c7
        by_cases c8 : (rd l0 x13_1) = (rd l1 x13_1)
        ·
         rw [if_pos c8] at H
         obtain ⟨c8b0, c8b1⟩ := eqT c8
         clear c8
         have H' := aS H
         clear H
         have p241 : 0 ≤ (x13_1 : Int) := odt (by first | (with_reducible assumption) | assumption)
         have q241 : x13_1 < (l0.length : Int) := odt (by first | (with_reducible assumption) | assumption)
         obtain ⟨ad241, e241, hx241_0⟩ := Kd.at_int HR0.out x13_1 p241 q241
         cases e241
         replace p241 := eq_true p241
         replace q241 := eq_true q241
         have p242 : 0 ≤ (x13_1 : Int) := odt (by first | (with_reducible assumption) | assumption)
         have q242 : x13_1 < (l1.length : Int) := odt (by first | (with_reducible assumption) | assumption)
         obtain ⟨ad242, e242, hx242_0⟩ := Kd.at_int HR1.out x13_1 p242 q242
         cases e242
         replace p242 := eq_true p242
         replace q242 := eq_true q242
         go_wp2
         repeat (go_quiet (fail); try go_wp2)
         go_roundg k1
         case measure => have := HK1.out; omega
         case rel => exact ⟨(wrap64 (x13_1 + 1)), (by first | rfl | (simp; done) | (simp [*]; done) | (simp; exact (by decide : ∀ a_ b_ : Bool, (a_ == b_) = (!a_ != b_)) _ _)), H', ⟨by have := HK1.out; omega⟩, by repeat (first | exact Drawn0.refl _ | apply Drawn0.step)⟩
        ·
         rw [if_neg c8] at H
         obtain ⟨c8b0, c8b1⟩ := eqF c8
         obtain rfl := Option.some.inj H
         have p241 : 0 ≤ (x13_1 : Int) := odt (by first | (with_reducible assumption) | assumption)
         have q241 : x13_1 < (l0.length : Int) := odt (by first | (with_reducible assumption) | assumption)
         obtain ⟨ad241, e241, hx241_0⟩ := Kd.at_int HR0.out x13_1 p241 q241
         cases e241
         replace p241 := eq_true p241
         replace q241 := eq_true q241
         have p242 : 0 ≤ (x13_1 : Int) := odt (by first | (with_reducible assumption) | assumption)
         have q242 : x13_1 < (l1.length : Int) := odt (by first | (with_reducible assumption) | assumption)
         obtain ⟨ad242, e242, hx242_0⟩ := Kd.at_int HR1.out x13_1 p242 q242
         cases e242
         replace p242 := eq_true p242
         replace q242 := eq_true q242
         go_wp2
         repeat (go_quiet (fail); try go_wp2)
         go_ret
         exact ⟨by first | rfl | (simp; done) | (simp [*]; done) | (simp; exact (by decide : ∀ a_ b_ : Bool, (a_ == b_) = (!a_ != b_)) _ _), by repeat (first | exact Drawn0.refl _ | apply Drawn0.step)⟩
       ·
        rw [if_neg c7] at H
        exact absurd H (by simp)
      ·
       rw [if_neg c6] at H
       exact absurd H (by simp)
     ·
      rw [if_neg c5] at H
      exact absurd H (by simp)
    ·
     rw [if_neg c4] at H
     have c4b0 : decide (x13_1 < (l0.length : Int)) = false := decide_eq_false c4
     clear c4
     obtain rfl := Option.some.inj H
     go_wp2
     repeat (go_quiet (fail); try go_wp2)
     go_ret
     exact ⟨by first | rfl | (simp; done) | (simp [*]; done) | (simp; exact (by decide : ∀ a_ b_ : Bool, (a_ == b_) = (!a_ != b_)) _ _), by repeat (first | exact Drawn0.refl _ | apply Drawn0.step)⟩
 ·
  rw [if_neg c3] at H
  obtain ⟨c3b0, c3b1⟩ := eqF c3
  have c3b2 : (l0.length == l1.length) = false := by first | simpa using c3 | (simp at c3 ⊢; omega)
  obtain rfl := Option.some.inj H
  go_enter Try.func41, Try.ntmps41
  go_wp2
  repeat (go_quiet (fail); try go_wp2)
  go_ret
  exact ⟨by first | rfl | (simp; done) | (simp [*]; done) | (simp; exact (by decide : ∀ a_ b_ : Bool, (a_ == b_) = (!a_ != b_)) _ _), by repeat (first | exact Drawn0.refl _ | apply Drawn0.step)⟩

end Go.Proofs.Yteoklmfkofgfmaa.X
