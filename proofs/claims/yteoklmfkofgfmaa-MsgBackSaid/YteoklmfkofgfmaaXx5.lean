-- written by a program of this session's, over the kit's print
import Derived.Test.YteoklmfkofgfmaaXx0
import Derived.Test.YteoklmfkofgfmaaXx2
import Derived.Test.YteoklmfkofgfmaaXx3
import Derived.Test.YteoklmfkofgfmaaXx4
namespace Go.Proofs.Yteoklmfkofgfmaa.X
open Go.RowKit Go.Proofs.YteoklmfkofgfmaaW.PrintWords Go.Proofs.YteoklmfkofgfmaaW.PrintLast Go.Proofs.YteoklmfkofgfmaaW.PrintMore
attribute [local go_sem] max2_int min2_int max_two min_two max_three min_three max_four min_four gtr_str   -- for this text's walks alone
set_option linter.unusedVariables false
set_option linter.unusedSimpArgs false

/-! ### frame_Cut: function 34 -/
def frame_Cut.j0 : Nat → Int → List Int → Bool → Option (List Int × List Int × Bool)
 | 0, _, _, _ => none
 | k + 1, x5, x8, x45 => if x45 = true then (some (([] : List Int), ([] : List Int), false)) else (if 0 ≤ x5 then (if x5 ≤ (x8.length : Int) then (some ((x8.take (x5 : Int).toNat), (x8.drop (x5 : Int).toNat), true)) else (none)) else (none))
def frame_Cut.f (k : Nat) (l0 : List Int) : Option (List Int × List Int × Bool) := if (l0.length : Int) < 12 then (some (([] : List Int), ([] : List Int), false)) else ((wire_CutNum.f k l0).bind fun bt243 => (if 12 ≤ (l0.length : Int) then ((slices_Clone_byte_byte.f (l0.drop 12)).bind fun t253 => (if bt243.1 > 65535 then (frame_Cut.j0 k bt243.1 t253 true) else (if bt243.1 > (t253.length : Int) then (frame_Cut.j0 k bt243.1 t253 true) else (if 4 ≤ (l0.length : Int) then ((some (l0.take 4 : List Int)).bind fun y261 => ((frame_sum.f k y261).bind fun t266 => (if 0 ≤ bt243.1 then (if bt243.1 ≤ (t253.length : Int) then ((frame_sum.f k (t253.take (bt243.1 : Int).toNat)).bind fun t274 => ((slices_Concat_byte_byte.f (([y261, t266, t274] : List (List Int)))).bind fun t280 => ((slices_Equal_byte_byte.f k (l0.take 12) t280).bind fun t283 => (frame_Cut.j0 k bt243.1 t253 (!t283))))) else (none)) else (none)))) else (none))))) else (none)))
theorem frame_Cut.mono_l : ∀ k, (∀ y0 y1 y2, LeO (frame_Cut.j0 k y0 y1 y2) (frame_Cut.j0 (k + 1) y0 y1 y2))
 | 0 => fun _ _ _ r h => by simp [frame_Cut.j0] at h
 | k + 1 => by
  have ih0 := frame_Cut.mono_l k
  ·
   intro y0 y1 y2
   unfold frame_Cut.j0
   repeat' first
   | (with_reducible exact ih0 _ _ _)
   | (with_reducible exact frame_sum.mono _ _)
   | (with_reducible exact slices_Equal_byte_byte.mono _ _ _)
   | (with_reducible exact wire_CutNum.mono _ _)
   | (with_reducible exact LeO.refl _)
   | (with_reducible exact LeO.none _)
   | (with_reducible refine LeO.ite ?_ ?_)
   | (with_reducible refine LeO.bind ?_ (fun _ => ?_))
   | exact LeO.none _
   | refine LeO.ite ?_ ?_
   | refine LeO.bind ?_ (fun _ => ?_)
theorem frame_Cut.mono : ∀ a0 k, LeO (frame_Cut.f k a0) (frame_Cut.f (k + 1) a0) := by
 intro a0 k
 have ih0 := frame_Cut.mono_l k
 unfold frame_Cut.f
 repeat' first
   | (with_reducible exact ih0 _ _ _)
   | (with_reducible exact frame_sum.mono _ _)
   | (with_reducible exact slices_Equal_byte_byte.mono _ _ _)
   | (with_reducible exact wire_CutNum.mono _ _)
   | (with_reducible exact LeO.refl _)
   | (with_reducible exact LeO.none _)
   | (with_reducible refine LeO.ite ?_ ?_)
   | (with_reducible refine LeO.bind ?_ (fun _ => ?_))
   | exact LeO.none _
   | refine LeO.ite ?_ ?_
   | refine LeO.bind ?_ (fun _ => ?_)
def frame_Cut.T5 : Bool × List (List Nat × List Nat) := (true, [([], []), ([0], [0]), ([1], [1]), ([2], [2]), ([2], [2]), ([4, 2], [2, 4]), ([3, 5, 2], [2, 3, 5]), ([2, 6], [2, 6]), ([7, 2], [7]), ([8], [8]), ([9, 8], [8, 9]), ([8], [8]), ([11, 8], [8, 11]), ([8], [8]), ([13, 8], [8, 13]), ([14, 8, 8], [8, 14]), ([8], [8]), ([8], [8]), ([16, 17, 8], [8, 16, 17]), ([18, 15, 8], [8, 18]), ([12, 15, 19, 8], [8, 12, 15, 19]), ([20, 19, 8], [8, 20]), ([10, 21, 21, 8], [8, 10, 21]), ([22, 8], [8, 22]), ([8, 23], [8, 23])])
def frame_Cut.B5 : List Nat := [0, 1, 3, 7, 7, 23, 63, 127, 255, 511, 1023, 511, 2559, 511, 8703, 25087, 511, 511, 197119, 516607, 1047039, 2095615, 4194303, 8388607, 16777215]
theorem frame_Cut.tab5 : rtab .any (opsOf Try.f34 5) = frame_Cut.T5 := by kernel_rfl
theorem frame_Cut.bits5 : waitsOk frame_Cut.T5.2 frame_Cut.B5 = true := by kernel_rfl
def frame_Cut.T7 : Bool × List (List Nat × List Nat) := (true, [([], []), ([], []), ([], []), ([0, 1, 2], [0, 1, 2]), ([], []), ([], []), ([4, 5], [4, 5]), ([3, 0, 1, 2, 3], [3]), ([6, 7, 0, 1, 2, 3, 4, 5, 6, 7], [6]), ([8, 0, 1, 2, 3, 4, 5, 6, 7, 8], [])])
def frame_Cut.B7 : List Nat := [0, 0, 0, 7, 0, 0, 48, 15, 255, 511]
theorem frame_Cut.tab7 : rtab .any (opsOf Try.f34 7) = frame_Cut.T7 := by kernel_rfl
theorem frame_Cut.bits7 : waitsOk frame_Cut.T7.2 frame_Cut.B7 = true := by kernel_rfl
set_option maxHeartbeats 8000000 in
set_option maxRecDepth 100000 in
theorem frame_Cut.calls (k : Nat) (P0_ : Nat → Prop) (A0 : Option Addr) (c0 : Nat) (l0 : List Int) (r1 : List Int) (r2 : List Int) (r3 : Bool) (w : World) (hs0 : Kd.V (Kd.int .u8) 5 w w.heap.size (fun k_ => P0_ k_) (.slice A0 l0.length c0) l0) (h : frame_Cut.f k l0 = some (r1, r2, r3)) :
  Calls Try.prog 34 #[.slice A0 l0.length c0] w fun e w' => ∃ v0_ v1_ : Value, e = .returned (.tuple #[v0_, v1_, .bool r3]) ∧ Kd.V (Kd.int .u8) 5 w' w.heap.size (fun k_ => (P0_ k_ ∨ w.heap.size ≤ k_)) v0_ r1 ∧ Kd.V (Kd.int .u8) 5 w' w.heap.size (fun k_ => (P0_ k_ ∨ w.heap.size ≤ k_)) v1_ r2 ∧ Below w.heap.size w w' := by
 have HO0 := aS (show Kd.V (Kd.int .u8) 5 w w.heap.size (fun k_ => (P0_ k_ ∨ w.heap.size ≤ k_)) (.slice A0 l0.length c0) l0 from Kd.V_mono hs0 (fun k_ hk => .inl hk))
 have HB := aS (Below.refl w.heap.size w)
 have H : (if (l0.length : Int) < 12 then (some (([] : List Int), ([] : List Int), false)) else ((wire_CutNum.f k l0).bind fun bt243 => (if 12 ≤ (l0.length : Int) then ((slices_Clone_byte_byte.f (l0.drop 12)).bind fun t253 => (if bt243.1 > 65535 then (frame_Cut.j0 k bt243.1 t253 true) else (if bt243.1 > (t253.length : Int) then (frame_Cut.j0 k bt243.1 t253 true) else (if 4 ≤ (l0.length : Int) then ((some (l0.take 4 : List Int)).bind fun y261 => ((frame_sum.f k y261).bind fun t266 => (if 0 ≤ bt243.1 then (if bt243.1 ≤ (t253.length : Int) then ((frame_sum.f k (t253.take (bt243.1 : Int).toNat)).bind fun t274 => ((slices_Concat_byte_byte.f (([y261, t266, t274] : List (List Int)))).bind fun t280 => ((slices_Equal_byte_byte.f k (l0.take 12) t280).bind fun t283 => (frame_Cut.j0 k bt243.1 t253 (!t283))))) else (none)) else (none)))) else (none))))) else (none)))) = some (r1, r2, r3) := h
 clear h
 by_cases c2 : (l0.length : Int) < 12
 ·
  rw [if_pos c2] at H
  have c2b0 : decide ((l0.length : Int) < 12) = true := decide_eq_true c2
  have c2b1 : decide (l0.length < 12) = true := decide_eq_true (by omega)
  clear c2
  simp only [Option.some.injEq, Prod.mk.injEq] at H
  obtain ⟨rfl, rfl, rfl⟩ := H
  go_enter Try.func34, Try.ntmps34
  go_wp2
  go_ret3
  exact ⟨_, _, rf3, Kd.V_nil _ _ _ _ _, Kd.V_nil _ _ _ _ _, bel⟩
 ·
  rw [if_neg c2] at H
  have c2b0 : decide ((l0.length : Int) < 12) = false := decide_eq_false c2
  have c2b1 : decide (l0.length < 12) = false := decide_eq_false (by omega)
  clear c2
  replace H := obm H
  obtain ⟨⟨t243, t244, t245⟩, A30, H⟩ := H
  replace H : (if 12 ≤ (l0.length : Int) then ((slices_Clone_byte_byte.f (l0.drop 12)).bind fun t253 => (if t243 > 65535 then (frame_Cut.j0 k t243 t253 true) else (if t243 > (t253.length : Int) then (frame_Cut.j0 k t243 t253 true) else (if 4 ≤ (l0.length : Int) then ((some (l0.take 4 : List Int)).bind fun y261 => ((frame_sum.f k y261).bind fun t266 => (if 0 ≤ t243 then (if t243 ≤ (t253.length : Int) then ((frame_sum.f k (t253.take (t243 : Int).toNat)).bind fun t274 => ((slices_Concat_byte_byte.f (([y261, t266, t274] : List (List Int)))).bind fun t280 => ((slices_Equal_byte_byte.f k (l0.take 12) t280).bind fun t283 => (frame_Cut.j0 k t243 t253 (!t283))))) else (none)) else (none)))) else (none))))) else (none)) = some (r1, r2, r3) := H
  have A3 := aS A30
  clear A30
  by_cases c4 : 12 ≤ (l0.length : Int)
  ·
   rw [if_pos c4] at H
   have c4b0 := eq_true c4
   have c4b1 : decide (12 ≤ (l0.length : Int)) = true := decide_eq_true c4
   clear c4
   obtain ⟨y248, hy248⟩ : ∃ y_ : List Int, y_ = (l0.drop 12) := ⟨_, rfl⟩
   replace H : ((slices_Clone_byte_byte.f y248).bind fun t253 => (if t243 > 65535 then (frame_Cut.j0 k t243 t253 true) else (if t243 > (t253.length : Int) then (frame_Cut.j0 k t243 t253 true) else (if 4 ≤ (l0.length : Int) then ((some (l0.take 4 : List Int)).bind fun y261 => ((frame_sum.f k y261).bind fun t266 => (if 0 ≤ t243 then (if t243 ≤ (t253.length : Int) then ((frame_sum.f k (t253.take (t243 : Int).toNat)).bind fun t274 => ((slices_Concat_byte_byte.f (([y261, t266, t274] : List (List Int)))).bind fun t280 => ((slices_Equal_byte_byte.f k (l0.take 12) t280).bind fun t283 => (frame_Cut.j0 k t243 t253 (!t283))))) else (none)) else (none)))) else (none))))) = some (r1, r2, r3) := by first | (rw [hy248]; with_reducible exact H) | (have H2_ := (Option.bind_some _ _).symm.trans H; rw [hy248]; with_reducible exact H2_) | (have H2_ := (Option.bind_some _ _).symm.trans H; with_reducible exact H2_) | with_reducible exact H | (rw [hy248]; exact H) | exact H
   have Ny248 := aS hy248
   clear hy248
   replace H := obm H
   obtain ⟨t253, A50, H⟩ := H
   replace H : (if t243 > 65535 then (frame_Cut.j0 k t243 t253 true) else (if t243 > (t253.length : Int) then (frame_Cut.j0 k t243 t253 true) else (if 4 ≤ (l0.length : Int) then ((some (l0.take 4 : List Int)).bind fun y261 => ((frame_sum.f k y261).bind fun t266 => (if 0 ≤ t243 then (if t243 ≤ (t253.length : Int) then ((frame_sum.f k (t253.take (t243 : Int).toNat)).bind fun t274 => ((slices_Concat_byte_byte.f (([y261, t266, t274] : List (List Int)))).bind fun t280 => ((slices_Equal_byte_byte.f k (l0.take 12) t280).bind fun t283 => (frame_Cut.j0 k t243 t253 (!t283))))) else (none)) else (none)))) else (none)))) = some (r1, r2, r3) := H
   have A5 := aS A50
   clear A50
   have HC6 := aS H
   clear H
   go_enter Try.func34, Try.ntmps34
   go_upto_region 5 with (first | ((with_reducible refine gate_callee (f := 36) rfl ?_); refine goesL_ (some 14) rfl rfl Try.func36 (by kernel_rfl) rfl #[.slice A0 l0.length c0] rfl agn ?_; (with_reducible refine (wire_CutNum.calls k _ _ l0 t243 t244 t245 _ ?side1 ?side2 A3.out).mono ?_); (case side1 => exact cel ((Kd.V_reads' HO0.out).2.2)); (case side2 => exact (Kd.V_reads' HO0.out).2.1); rintro e w7 ⟨v246, rfl, ho0, hb⟩; refine ⟨_, rfl, ?_⟩; have n0_ := aS (Kd.V_elder' (sel HO0.out) (by first | exact Kd.R_base ho0 | exact Kd.S_base ho0 | exact Kd.R_base ho0 | exact Kd.V_base ho0) hb); have n1_ := aS (Kd.R_lower (Kd.R_newM (M := fun k_ => (w.heap.size ≤ k_)) ho0 (below_size bel) (fun k_ h_ => h_)) (below_size bel)); have n2_ := bstep hb; clear HO0; clear HB; have HO0 := n0_; have HO247 := n1_; have HB := n2_; clear n0_ n1_ n2_; (try clear hb); (try clear hb2); (try clear hk); (try clear hi); (try clear ho0); have q8 : (12 : Int) ≤ ((l0.length : Int) : Int) := odt (by first | (with_reducible assumption) | assumption); obtain ⟨i08, hi08, _, hsz8, _⟩ := info_parts info5; have hroom8 : l0.length ≤ c0 := (Kd.V_reads' HO0.out).2.1; have hC8 : Kd.F (Kd.int .u8) _ _ A0 l0.length l0 := (Kd.V_at (base := w.heap.size) HO0.out).2.2; have hcut8 := cut_from (P := Try.prog) 29 5 .i64 Try.underlying29 hi08 1 hsz8 A0 l0.length c0 12 (by omega) q8; have hr8 := Kd.F_cut (m := (12 : Int).toNat) (c := c0) hC8 (by omega) hroom8; obtain ⟨A8, hA8⟩ : ∃ A1_, A1_ = (if c0 = (12 : Int).toNat then A0 else (A0 : Option Addr).map (·.add ((12 : Int).toNat * 1))) := ⟨_, rfl⟩; obtain ⟨c8, hc8⟩ : ∃ c1_, c1_ = c0 - (12 : Int).toNat := ⟨_, rfl⟩; have hy8 : y248.length = l0.length - (12 : Int).toNat := (by rw [Ny248.out, lld] <;> omega); rw [show (l0).drop (12 : Int).toNat = y248 from Ny248.out.symm] at hr8; replace hr8 : Kd.F (Kd.int .u8) _ _ A8 y248.length y248 := (by rw [hA8]; exact hr8); rw [← hy8, ← hA8, ← hc8] at hcut8; have HO252 := aS (show Kd.V (Kd.int .u8) 5 _ w.heap.size _ (.slice A8 y248.length c8) y248 from Kd.V_mk (by rw [hy8, hc8]; exact Nat.sub_le_sub_right hroom8 _) hr8); have HC252 := aS (show y248.length ≤ c8 from by rw [hy8, hc8]; exact Nat.sub_le_sub_right hroom8 _); clear hr8 hC8 hroom8 hi08 hsz8 hc8; have KY8 := aS hy8; have KA8 := aS hA8; clear hy8 hA8; replace q8 := eq_true q8) | ((with_reducible refine gate_callee (f := 47) rfl ?_); refine goesL_ (some 20) rfl rfl Try.func47 (by kernel_rfl) rfl #[.slice A8 y248.length c8] rfl agn ?_; (with_reducible refine (slices_Clone_byte_byte.calls _ _ y248 t253 _ ?side1 ?side2 A5.out).mono ?_); (case side1 => exact cel ((Kd.V_reads' HO252.out).2.2)); (case side2 => exact (Kd.V_reads' HO252.out).2.1); rintro e w9 ⟨v254, rfl, ho0, hb⟩; refine ⟨_, rfl, ?_⟩; have n0_ := aS (Kd.V_elder' (sel HO0.out) (by first | exact Kd.R_base ho0 | exact Kd.S_base ho0 | exact Kd.R_base ho0 | exact Kd.V_base ho0) hb); have n1_ := aS (Kd.R_elder' (rel HO247.out) (by first | exact Kd.R_base ho0 | exact Kd.S_base ho0 | exact Kd.R_base ho0 | exact Kd.V_base ho0) hb); have n2_ := aS (Kd.V_elder' (sel HO252.out) (by first | exact Kd.R_base ho0 | exact Kd.S_base ho0 | exact Kd.R_base ho0 | exact Kd.V_base ho0) hb); have n3_ := aS (Kd.R_lower (Kd.R_new' (Kd.R_newM (M := fun k_ => (w.heap.size ≤ k_)) ho0 (below_size bel) (fun k_ h_ => h_)) (Kd.R_lt (rel HO247.out))) (below_size bel)); have n4_ := bstep hb; clear HO0; clear HO247; clear HO252; clear HB; have HO0 := n0_; have HO247 := n1_; have HO252 := n2_; have HO255 := n3_; have HB := n4_; clear n0_ n1_ n2_ n3_ n4_; (try clear hb); (try clear hb2); (try clear hk); (try clear hi); (try clear ho0)))
   (try simp only [Act.put, lsa, lsz, lss])
   go_cut [45] (fun v45 wc => ∃ (kq : Nat) (x45_5 : Bool), v45 = .bool x45_5 ∧ Aside0 (frame_Cut.j0 kq t243 t253 x45_5 = some (r1, r2, r3)) ∧ Aside0 (kq ≤ k) ∧ Aside0 (Kd.R (Kd.int .u8) 5 wc w.heap.size (fun k_ => (w.heap.size ≤ k_)) v254 t253) ∧ Aside0 (Below w.heap.size w wc))
   case first =>
    have H := HC6.out; clear HC6
    by_cases c10 : t243 > 65535
    ·
     rw [if_pos c10] at H
     have c10b0 : decide (65535 < t243) = true := decide_eq_true c10
     clear c10
     (first | rw [c10b0] | (simp only [i64_w, i32_w]; rw [c10b0]) | skip)
     have H' := aS H
     clear H
     try go_wp2
     have n0_ := aS (Kd.V_drew HO0.out)
     have n1_ := aS (Kd.R_drew HO247.out)
     have n2_ := aS (Kd.V_drew HO252.out)
     have n3_ := aS (Kd.R_drew HO255.out)
     have n4_ := aS (bdo HB.out)
     clear HO0; clear HO247; clear HO252; clear HO255; clear HB
     have HO0 := n0_
     have HO247 := n1_
     have HO252 := n2_
     have HO255 := n3_
     have HB := n4_
     clear n0_ n1_ n2_ n3_ n4_
     refine start_ (n := 25) (S := fun w' => True) (ds := []) #[false, false, false, false, false, false, false, false, false, false, false, false, false, false, false, false, false, false, false, false, false, false, false, false, false] (by kernel_rfl) rfl rfl trivial (fun hHeld => ?_); refine with_tabW frame_Cut.tab5 frame_Cut.bits5 (fun HT_ HW_ => ?_)
     generalize w9.drew = w11 at HO0 HO247 HO252 HO255 HB hHeld ⊢
     refine along_ [(0, 21), (1, 22), (2, 23), (3, 24), (4, 25), (5, 26), (6, 27), (7, 28), (8, 29), (9, 30), (10, 31), (11, 32), (12, 33), (13, 34), (14, 35), (15, 36), (16, 37), (17, 38), (18, 39), (19, 40), (20, 41), (21, 42), (22, 43), (23, 44), (24, 45)] ?_
     iterate 25 (first | (apply skip1 HT_; (case hi => rfl); (case hN => rfl); (case hw => rfl); (case hc => kernel_rfl); (case hQ => exact fun _ _ _ h => h); (case ha => simp only [Act.put, lsa, lsz, lss, i64_w, i32_w]; rfl)) | (apply pure1 HT_; (case hi => rfl); (case hN => rfl); (case hw => rfl); (case hc => kernel_rfl); (case hQ => exact fun _ _ _ h => h); (case hy => intro w'; go_simp; with_reducible rfl); (case ha => simp only [Act.put, lsa, lsz, lss, i64_w, i32_w]; rfl)))
     refine lay_ #[true, true, true, true, true, true, true, true, true, true, true, true, true, true, true, true, true, true, true, true, true, true, true, true, true] (by kernel_rfl) ?_
     refine done_ (done_of HT_.out (by kernel_rfl)) ?_
     try go_wp2
     go_meet
     case rel => exact ⟨_, (true), (by first | rfl | (simp; done) | (simp [*]; done) | (simp; exact (by decide : ∀ a_ b_ : Bool, (a_ == b_) = (!a_ != b_)) _ _)), H', ⟨by first | omega | exact Nat.le_refl _⟩, ⟨by (with_reducible repeat (first | apply Kd.R_alloc | apply Kd.R_drewN | apply Kd.R_drew)); exact Kd.R_mono HO255.out (fun _ hk => hk.1.1)⟩, ⟨bel⟩⟩
    ·
     rw [if_neg c10] at H
     have c10b0 : decide (65535 < t243) = false := decide_eq_false c10
     clear c10
     (first | rw [c10b0] | (simp only [i64_w, i32_w]; rw [c10b0]) | skip)
     by_cases c12 : t243 > (t253.length : Int)
     ·
      rw [if_pos c12] at H
      have c12b0 : decide ((t253.length : Int) < t243) = true := decide_eq_true c12
      clear c12
      have H' := aS H
      clear H
      try go_wp2
      have n0_ := aS (Kd.V_drew HO0.out)
      have n1_ := aS (Kd.R_drew HO247.out)
      have n2_ := aS (Kd.V_drew HO252.out)
      have n3_ := aS (Kd.R_drew HO255.out)
      have n4_ := aS (bdo HB.out)
      clear HO0; clear HO247; clear HO252; clear HO255; clear HB
      have HO0 := n0_
      have HO247 := n1_
      have HO252 := n2_
      have HO255 := n3_
      have HB := n4_
      clear n0_ n1_ n2_ n3_ n4_
      obtain ⟨Ao14, co14, eo14⟩ := Kd.R_slice HO255.out
      (first | subst eo14 | (injection eo14 with f1_ f2_ f3_; have f4_ := f1_.symm; have f5_ := f3_.symm; clear f1_ f2_ f3_; subst f4_; subst f5_))
      refine start_ (n := 25) (S := fun w' => True) (ds := []) #[false, false, false, false, false, false, false, false, false, false, false, false, false, false, false, false, false, false, false, false, false, false, false, false, false] (by kernel_rfl) rfl rfl trivial (fun hHeld => ?_); refine with_tabW frame_Cut.tab5 frame_Cut.bits5 (fun HT_ HW_ => ?_)
      generalize w9.drew = w13 at HO0 HO247 HO252 HO255 HB hHeld ⊢
      refine along_ [(0, 21), (1, 22), (2, 23), (3, 24), (4, 25), (5, 26), (6, 27), (7, 28), (8, 29), (9, 30), (10, 31), (11, 32), (12, 33), (13, 34), (14, 35), (15, 36), (16, 37), (17, 38), (18, 39), (19, 40), (20, 41), (21, 42), (22, 43), (23, 44), (24, 45)] ?_
      iterate 25 (first | (apply skip1 HT_; (case hi => rfl); (case hN => rfl); (case hw => rfl); (case hc => kernel_rfl); (case hQ => exact fun _ _ _ h => h); (case ha => simp only [Act.put, lsa, lsz, lss, i64_w, i32_w]; rfl)) | (apply pure1 HT_; (case hi => rfl); (case hN => rfl); (case hw => rfl); (case hc => kernel_rfl); (case hQ => exact fun _ _ _ h => h); (case hy => intro w'; go_simp; with_reducible rfl); (case ha => simp only [Act.put, lsa, lsz, lss, i64_w, i32_w]; rfl)))
      refine lay_ #[true, true, true, true, true, true, true, true, true, true, true, true, true, true, true, true, true, true, true, true, true, true, true, true, true] (by kernel_rfl) ?_
      refine done_ (done_of HT_.out (by kernel_rfl)) ?_
      try go_wp2
      go_meet
      case rel => exact ⟨_, (true), (by first | rfl | (simp; done) | (simp [*]; done) | (simp; exact (by decide : ∀ a_ b_ : Bool, (a_ == b_) = (!a_ != b_)) _ _)), H', ⟨by first | omega | exact Nat.le_refl _⟩, ⟨by (with_reducible repeat (first | apply Kd.R_alloc | apply Kd.R_drewN | apply Kd.R_drew)); exact Kd.R_mono HO255.out (fun _ hk => hk.1.1)⟩, ⟨bel⟩⟩
     ·
      rw [if_neg c12] at H
      have c12b0 : decide ((t253.length : Int) < t243) = false := decide_eq_false c12
      clear c12
      have c15b0 := eq_true (odt (by first | (with_reducible assumption) | assumption) : 12 ≤ (l0.length : Int))
      obtain ⟨y256, hy256⟩ : ∃ y_ : List Int, y_ = (l0.take 12) := ⟨_, rfl⟩
      replace H : (if 4 ≤ (l0.length : Int) then ((some (l0.take 4 : List Int)).bind fun y261 => ((frame_sum.f k y261).bind fun t266 => (if 0 ≤ t243 then (if t243 ≤ (t253.length : Int) then ((frame_sum.f k (t253.take (t243 : Int).toNat)).bind fun t274 => ((slices_Concat_byte_byte.f (([y261, t266, t274] : List (List Int)))).bind fun t280 => ((slices_Equal_byte_byte.f k y256 t280).bind fun t283 => (frame_Cut.j0 k t243 t253 (!t283))))) else (none)) else (none)))) else (none)) = some (r1, r2, r3) := by first | (rw [hy256]; with_reducible exact H) | (have H2_ := (Option.bind_some _ _).symm.trans H; rw [hy256]; with_reducible exact H2_) | (have H2_ := (Option.bind_some _ _).symm.trans H; with_reducible exact H2_) | with_reducible exact H | (rw [hy256]; exact H) | exact H
      have Ny256 := aS hy256
      clear hy256
      by_cases c16 : 4 ≤ (l0.length : Int)
      ·
       rw [if_pos c16] at H
       have c16b0 := eq_true c16
       have c16b1 : decide (4 ≤ (l0.length : Int)) = true := decide_eq_true c16
       clear c16
       obtain ⟨y261, hy261⟩ : ∃ y_ : List Int, y_ = (l0.take 4) := ⟨_, rfl⟩
       replace H : ((frame_sum.f k y261).bind fun t266 => (if 0 ≤ t243 then (if t243 ≤ (t253.length : Int) then ((frame_sum.f k (t253.take (t243 : Int).toNat)).bind fun t274 => ((slices_Concat_byte_byte.f (([y261, t266, t274] : List (List Int)))).bind fun t280 => ((slices_Equal_byte_byte.f k y256 t280).bind fun t283 => (frame_Cut.j0 k t243 t253 (!t283))))) else (none)) else (none))) = some (r1, r2, r3) := by first | (rw [hy261]; with_reducible exact H) | (have H2_ := (Option.bind_some _ _).symm.trans H; rw [hy261]; with_reducible exact H2_) | (have H2_ := (Option.bind_some _ _).symm.trans H; with_reducible exact H2_) | with_reducible exact H | (rw [hy261]; exact H) | exact H
       have Ny261 := aS hy261
       clear hy261
       replace H := obm H
       obtain ⟨t266, A170, H⟩ := H
       replace H : (if 0 ≤ t243 then (if t243 ≤ (t253.length : Int) then ((frame_sum.f k (t253.take (t243 : Int).toNat)).bind fun t274 => ((slices_Concat_byte_byte.f (([y261, t266, t274] : List (List Int)))).bind fun t280 => ((slices_Equal_byte_byte.f k y256 t280).bind fun t283 => (frame_Cut.j0 k t243 t253 (!t283))))) else (none)) else (none)) = some (r1, r2, r3) := H
       have A17 := aS A170
       clear A170
       by_cases c18 : 0 ≤ t243
       ·
        rw [if_pos c18] at H
        have c18b0 := eq_true c18
        have c18b1 : decide (0 ≤ t243) = true := decide_eq_true c18
        clear c18
        by_cases c19 : t243 ≤ (t253.length : Int)
        ·
         rw [if_pos c19] at H
         have c19b0 := eq_true c19
         have c19b1 : decide (t243 ≤ (t253.length : Int)) = true := decide_eq_true c19
         clear c19
         obtain ⟨y269, hy269⟩ : ∃ y_ : List Int, y_ = (t253.take (t243 : Int).toNat) := ⟨_, rfl⟩
         replace H : ((frame_sum.f k y269).bind fun t274 => ((slices_Concat_byte_byte.f (([y261, t266, t274] : List (List Int)))).bind fun t280 => ((slices_Equal_byte_byte.f k y256 t280).bind fun t283 => (frame_Cut.j0 k t243 t253 (!t283))))) = some (r1, r2, r3) := by first | (rw [hy269]; with_reducible exact H) | (have H2_ := (Option.bind_some _ _).symm.trans H; rw [hy269]; with_reducible exact H2_) | (have H2_ := (Option.bind_some _ _).symm.trans H; with_reducible exact H2_) | with_reducible exact H | (rw [hy269]; exact H) | exact H
         have Ny269 := aS hy269
         clear hy269
         replace H := obm H
         obtain ⟨t274, A200, H⟩ := H
         replace H : ((slices_Concat_byte_byte.f (([y261, t266, t274] : List (List Int)))).bind fun t280 => ((slices_Equal_byte_byte.f k y256 t280).bind fun t283 => (frame_Cut.j0 k t243 t253 (!t283)))) = some (r1, r2, r3) := H
         have A20 := aS A200
         clear A200
         obtain ⟨y277, hy277⟩ : ∃ y_ : List (List Int), y_ = (([y261, t266, t274] : List (List Int))) := ⟨_, rfl⟩
         replace H : ((slices_Concat_byte_byte.f y277).bind fun t280 => ((slices_Equal_byte_byte.f k y256 t280).bind fun t283 => (frame_Cut.j0 k t243 t253 (!t283)))) = some (r1, r2, r3) := by first | (rw [hy277]; with_reducible exact H) | (have H2_ := (Option.bind_some _ _).symm.trans H; rw [hy277]; with_reducible exact H2_) | (have H2_ := (Option.bind_some _ _).symm.trans H; with_reducible exact H2_) | with_reducible exact H | (rw [hy277]; exact H) | exact H
         have Ny277 := aS hy277
         clear hy277
         replace H := obm H
         obtain ⟨t280, A210, H⟩ := H
         replace H : ((slices_Equal_byte_byte.f k y256 t280).bind fun t283 => (frame_Cut.j0 k t243 t253 (!t283))) = some (r1, r2, r3) := H
         have A21 := aS A210
         clear A210
         replace H := obm H
         obtain ⟨t283, A220, H⟩ := H
         replace H : (frame_Cut.j0 k t243 t253 (!t283)) = some (r1, r2, r3) := H
         have A22 := aS A220
         clear A220
         have H' := aS H
         clear H
         try go_wp2
         have n0_ := aS (Kd.V_drew HO0.out)
         have n1_ := aS (Kd.R_drew HO247.out)
         have n2_ := aS (Kd.V_drew HO252.out)
         have n3_ := aS (Kd.R_drew HO255.out)
         have n4_ := aS (bdo HB.out)
         clear HO0; clear HO247; clear HO252; clear HO255; clear HB
         have HO0 := n0_
         have HO247 := n1_
         have HO252 := n2_
         have HO255 := n3_
         have HB := n4_
         clear n0_ n1_ n2_ n3_ n4_
         obtain ⟨Ao24, co24, eo24⟩ := Kd.R_slice HO255.out
         (first | subst eo24 | (injection eo24 with f1_ f2_ f3_; have f4_ := f1_.symm; have f5_ := f3_.symm; clear f1_ f2_ f3_; subst f4_; subst f5_))
         have q25 : (12 : Int) ≤ ((l0.length : Int) : Int) := odt (by first | (with_reducible assumption) | assumption)
         obtain ⟨i025, hi025, _, hsz25, _⟩ := info_parts info5
         have hroom25 : l0.length ≤ c0 := (Kd.V_reads' HO0.out).2.1
         have hC25 : Kd.F (Kd.int .u8) _ _ A0 l0.length l0 := (Kd.V_at (base := w.heap.size) HO0.out).2.2
         have hcut25 := cut_to (P := Try.prog) 29 5 .i64 Try.underlying29 hi025 A0 l0.length c0 12 (by omega) q25 hroom25
         have hr25 := Kd.F_take (m := 12) hC25 (by omega)
         have hy25 : y256.length = (12 : Int).toNat := (by rw [Ny256.out, llt]; omega)
         rw [← Ny256.out] at hr25
         rw [← hy25] at hcut25
         have HO260 := aS (show Kd.V (Kd.int .u8) 5 _ w.heap.size _ (.slice A0 y256.length c0) y256 from Kd.V_mk (by omega) hr25)
         have HC260 := aS (show y256.length ≤ c0 from by omega)
         clear hr25 hC25 hroom25 hi025 hsz25
         have KY25 := aS hy25
         clear hy25
         replace q25 := eq_true q25
         have q26 : (4 : Int) ≤ ((l0.length : Int) : Int) := odt (by first | (with_reducible assumption) | assumption)
         obtain ⟨i026, hi026, _, hsz26, _⟩ := info_parts info5
         have hroom26 : l0.length ≤ c0 := (Kd.V_reads' HO0.out).2.1
         have hC26 : Kd.F (Kd.int .u8) _ _ A0 l0.length l0 := (Kd.V_at (base := w.heap.size) HO0.out).2.2
         have hcut26 := cut_to (P := Try.prog) 29 5 .i64 Try.underlying29 hi026 A0 l0.length c0 4 (by omega) q26 hroom26
         have hr26 := Kd.F_take (m := 4) hC26 (by omega)
         have hy26 : y261.length = (4 : Int).toNat := (by rw [Ny261.out, llt]; omega)
         rw [← Ny261.out] at hr26
         rw [← hy26] at hcut26
         have HO265 := aS (show Kd.V (Kd.int .u8) 5 _ w.heap.size _ (.slice A0 y261.length c0) y261 from Kd.V_mk (by omega) hr26)
         have HC265 := aS (show y261.length ≤ c0 from by omega)
         clear hr26 hC26 hroom26 hi026 hsz26
         have KY26 := aS hy26
         clear hy26
         replace q26 := eq_true q26
         have q27 : (t243 : Int) ≤ ((t253.length : Int) : Int) := odt (by first | (with_reducible assumption) | assumption)
         obtain ⟨i027, hi027, _, hsz27, _⟩ := info_parts info5
         have hroom27 : t253.length ≤ co24 := (Kd.R_reads' HO255.out).2.1
         have hC27 : Kd.F (Kd.int .u8) _ _ Ao24 t253.length t253 := (Kd.V_at (base := w.heap.size) (Kd.V_mono (ok' := (fun k_ => (((P0_ k_ ∨ w.heap.size ≤ k_) ∧ True) ∧ some k_ ≠ (v246 : Value).ownBlock))) (Kd.R_V HO255.out) (fun k_ hk => ⟨⟨(.inr (hk.1.1)), trivial⟩, hk.2⟩))).2.2
         have hcut27 := cut_to (P := Try.prog) 29 5 .i64 Try.underlying29 hi027 Ao24 t253.length co24 t243 (odt (by first | (with_reducible assumption) | assumption)) q27 hroom27
         have hr27 := Kd.F_take (m := (t243 : Int).toNat) hC27 (by omega)
         have hy27 : y269.length = (t243 : Int).toNat := (by rw [Ny269.out, llt]; omega)
         rw [← Ny269.out] at hr27
         rw [← hy27] at hcut27
         have HO273 := aS (show Kd.V (Kd.int .u8) 5 _ w.heap.size _ (.slice Ao24 y269.length co24) y269 from Kd.V_mk (by omega) hr27)
         have HC273 := aS (show y269.length ≤ co24 from by omega)
         clear hr27 hC27 hroom27 hi027 hsz27
         have KY27 := aS hy27
         clear hy27
         replace q27 := eq_true q27
         refine start_ (n := 25) (S := fun w' => True) (ds := []) #[false, false, false, false, false, false, false, false, false, false, false, false, false, false, false, false, false, false, false, false, false, false, false, false, false] (by kernel_rfl) rfl rfl trivial (fun hHeld => ?_); refine with_tabW frame_Cut.tab5 frame_Cut.bits5 (fun HT_ HW_ => ?_)
         generalize w9.drew = w23 at HO0 HO247 HO252 HO255 HB HO260 HO265 HO273 hHeld ⊢
         refine along_ [(0, 21), (1, 22), (2, 23), (3, 24), (4, 25), (5, 26), (6, 27), (7, 28), (8, 29), (9, 30), (10, 31), (11, 32), (12, 33), (13, 34), (14, 35), (16, 37), (17, 38), (18, 39)] ?_
         iterate 18 (apply pure1 HT_; (case hi => rfl); (case hN => rfl); (case hw => rfl); (case hc => kernel_rfl); (case hQ => exact fun _ _ _ h => h); (case hy => intro w'; go_simp; with_reducible rfl); (case ha => simp only [Act.put, lsa, lsz, lss, i64_w, i32_w]; rfl))
         refine lay_ #[true, true, true, true, true, true, true, true, true, true, true, true, true, true, true, false, true, true, true, false, false, false, false, false, false] (by kernel_rfl) ?_
         refine one_ (i := 15) (N := some 36) #[true, true, true, true, true, true, true, true, true, true, true, true, true, true, true, true, true, true, true, false, false, false, false, false, false] rfl rfl (one_of HT_.out (by kernel_rfl)) (by decide) (fun K hK => ?_)
         refine goes_ Try.func44 (by kernel_rfl) rfl #[.slice A0 y261.length c0] (by rfl) rfl rfl agn ?_
         with_reducible refine (frame_sum.calls k _ _ y261 t266 _ ?side1 ?side2 A17.out).mono ?_
         (case side1 => exact cel ((Kd.V_reads' HO265.out).2.2))
         (case side2 => exact (Kd.V_reads' HO265.out).2.1)
         rintro e w28 ⟨v267, rfl, ho0, hb⟩
         refine ⟨_, rfl, ?_⟩
         have n0_ := aS (Kd.V_elder' (sel HO0.out) (by first | exact Kd.R_base ho0 | exact Kd.S_base ho0 | exact Kd.R_base ho0 | exact Kd.V_base ho0) hb)
         have n1_ := aS (Kd.R_elder' (rel HO247.out) (by first | exact Kd.R_base ho0 | exact Kd.S_base ho0 | exact Kd.R_base ho0 | exact Kd.V_base ho0) hb)
         have n2_ := aS (Kd.V_elder' (sel HO252.out) (by first | exact Kd.R_base ho0 | exact Kd.S_base ho0 | exact Kd.R_base ho0 | exact Kd.V_base ho0) hb)
         have n3_ := aS (Kd.R_elder' (rel HO255.out) (by first | exact Kd.R_base ho0 | exact Kd.S_base ho0 | exact Kd.R_base ho0 | exact Kd.V_base ho0) hb)
         have n4_ := aS (Kd.V_elder' (sel HO260.out) (by first | exact Kd.R_base ho0 | exact Kd.S_base ho0 | exact Kd.R_base ho0 | exact Kd.V_base ho0) hb)
         have n5_ := aS (Kd.V_elder' (sel HO265.out) (by first | exact Kd.R_base ho0 | exact Kd.S_base ho0 | exact Kd.R_base ho0 | exact Kd.V_base ho0) hb)
         have n6_ := aS (Kd.V_elder' (sel HO273.out) (by first | exact Kd.R_base ho0 | exact Kd.S_base ho0 | exact Kd.R_base ho0 | exact Kd.V_base ho0) hb)
         have n7_ := aS (Kd.R_lower (Kd.R_new' (Kd.R_new' (Kd.R_newM (M := fun k_ => (w.heap.size ≤ k_)) ho0 (below_size bel) (fun k_ h_ => h_)) (Kd.R_lt (rel HO247.out))) (Kd.R_lt (rel HO255.out))) (below_size bel))
         have n8_ := bstep hb
         clear HO0; clear HO247; clear HO252; clear HO255; clear HO260; clear HO265; clear HO273; clear HB
         have HO0 := n0_
         have HO247 := n1_
         have HO252 := n2_
         have HO255 := n3_
         have HO260 := n4_
         have HO265 := n5_
         have HO273 := n6_
         have HO268 := n7_
         have HB := n8_
         clear n0_ n1_ n2_ n3_ n4_ n5_ n6_ n7_ n8_; (try clear hb); (try clear hb2); (try clear hk); (try clear hi); (try clear ho0)
         refine hK.out _ _ trivial (fun hHeld => ?_)
         clear hK K
         refine norm_ (a' := ?_) ?_ ?_
         rotate_left
         ·
          show Act.put _ (some 36) _ = _
          simp only [Act.put, lsa, lsz, lss, i64_w, i32_w]
          rfl
         refine one_ (i := 19) (N := some 40) #[true, true, true, true, true, true, true, true, true, true, true, true, true, true, true, true, true, true, true, true, false, false, false, false, false] rfl rfl (one_of HT_.out (by kernel_rfl)) (by decide) (fun K hK => ?_)
         refine goes_ Try.func44 (by kernel_rfl) rfl #[.slice Ao24 y269.length co24] (by rfl) rfl rfl agn ?_
         with_reducible refine (frame_sum.calls k _ _ y269 t274 _ ?side1 ?side2 A20.out).mono ?_
         (case side1 => exact cel ((Kd.V_reads' HO273.out).2.2))
         (case side2 => exact (Kd.V_reads' HO273.out).2.1)
         rintro e w29 ⟨v275, rfl, ho0, hb⟩
         refine ⟨_, rfl, ?_⟩
         have n0_ := aS (Kd.V_elder' (sel HO0.out) (by first | exact Kd.R_base ho0 | exact Kd.S_base ho0 | exact Kd.R_base ho0 | exact Kd.V_base ho0) hb)
         have n1_ := aS (Kd.R_elder' (rel HO247.out) (by first | exact Kd.R_base ho0 | exact Kd.S_base ho0 | exact Kd.R_base ho0 | exact Kd.V_base ho0) hb)
         have n2_ := aS (Kd.V_elder' (sel HO252.out) (by first | exact Kd.R_base ho0 | exact Kd.S_base ho0 | exact Kd.R_base ho0 | exact Kd.V_base ho0) hb)
         have n3_ := aS (Kd.R_elder' (rel HO255.out) (by first | exact Kd.R_base ho0 | exact Kd.S_base ho0 | exact Kd.R_base ho0 | exact Kd.V_base ho0) hb)
         have n4_ := aS (Kd.V_elder' (sel HO260.out) (by first | exact Kd.R_base ho0 | exact Kd.S_base ho0 | exact Kd.R_base ho0 | exact Kd.V_base ho0) hb)
         have n5_ := aS (Kd.V_elder' (sel HO265.out) (by first | exact Kd.R_base ho0 | exact Kd.S_base ho0 | exact Kd.R_base ho0 | exact Kd.V_base ho0) hb)
         have n6_ := aS (Kd.V_elder' (sel HO273.out) (by first | exact Kd.R_base ho0 | exact Kd.S_base ho0 | exact Kd.R_base ho0 | exact Kd.V_base ho0) hb)
         have n7_ := aS (Kd.R_elder' (rel HO268.out) (by first | exact Kd.R_base ho0 | exact Kd.S_base ho0 | exact Kd.R_base ho0 | exact Kd.V_base ho0) hb)
         have n8_ := aS (Kd.R_lower (Kd.R_new' (Kd.R_new' (Kd.R_new' (Kd.R_newM (M := fun k_ => (w.heap.size ≤ k_)) ho0 (below_size bel) (fun k_ h_ => h_)) (Kd.R_lt (rel HO247.out))) (Kd.R_lt (rel HO255.out))) (Kd.R_lt (rel HO268.out))) (below_size bel))
         have n9_ := bstep hb
         clear HO0; clear HO247; clear HO252; clear HO255; clear HO260; clear HO265; clear HO273; clear HO268; clear HB
         have HO0 := n0_
         have HO247 := n1_
         have HO252 := n2_
         have HO255 := n3_
         have HO260 := n4_
         have HO265 := n5_
         have HO273 := n6_
         have HO268 := n7_
         have HO276 := n8_
         have HB := n9_
         clear n0_ n1_ n2_ n3_ n4_ n5_ n6_ n7_ n8_ n9_; (try clear hb); (try clear hb2); (try clear hk); (try clear hi); (try clear ho0)
         obtain ⟨Ao30, co30, eo30⟩ := Kd.R_slice HO268.out
         (first | subst eo30 | (injection eo30 with f1_ f2_ f3_; have f4_ := f1_.symm; have f5_ := f3_.symm; clear f1_ f2_ f3_; subst f4_; subst f5_))
         obtain ⟨Ao31, co31, eo31⟩ := Kd.R_slice HO276.out
         (first | subst eo31 | (injection eo31 with f1_ f2_ f3_; have f4_ := f1_.symm; have f5_ := f3_.symm; clear f1_ f2_ f3_; subst f4_; subst f5_))
         refine hK.out _ _ trivial (fun hHeld => ?_)
         clear hK K
         refine norm_ (a' := ?_) ?_ ?_
         rotate_left
         ·
          show Act.put _ (some 40) _ = _
          simp only [Act.put, lsa, lsz, lss, i64_w, i32_w]
          rfl
         refine one_ (i := 20) (N := some 41) #[true, true, true, true, true, true, true, true, true, true, true, true, true, true, true, true, true, true, true, true, true, false, false, false, false] rfl rfl (one_of HT_.out (by kernel_rfl)) (by decide) (fun K hK => ?_)
         refine Kd.N_lit_step (Kd.slice 5 (Kd.int .u8)) _ 29 ?hg (N' := 41) ?hd (xs := ([y261, t266, t274] : List (List Int))) (inner := [.slice A0 y261.length c0, .slice Ao30 t266.length co30, .slice Ao31 t274.length co31]) (ok := (fun k_ => (P0_ k_ ∨ w.heap.size ≤ k_) ∧ some k_ ≠ (v246 : Value).ownBlock ∧ some k_ ≠ (.slice Ao24 t253.length co24 : Value).ownBlock)) (okp := (fun k_ => (P0_ k_ ∨ w.heap.size ≤ k_) ∧ some k_ ≠ (v246 : Value).ownBlock ∧ some k_ ≠ (.slice Ao24 t253.length co24 : Value).ownBlock)) ?hr ?hp (fun _ hk => hk) ((show ∀ k_, w29.heap.size ≤ k_ → (fun k_ => (P0_ k_ ∨ w.heap.size ≤ k_) ∧ some k_ ≠ (v246 : Value).ownBlock ∧ some k_ ≠ (.slice Ao24 t253.length co24 : Value).ownBlock) k_ from fun k_ hk => ⟨(.inr (Nat.le_trans (below_size bel) hk)), Kd.fresh' (Kd.R_lt (rel HO247.out)) k_ hk, Kd.fresh' (Kd.R_lt (rel HO255.out)) k_ hk⟩) _ (Nat.le_refl _)) (Below.refl _ _) (Nat.le_refl _) (by simp) ?_; (case hd => rfl); (case hg => rfl); (case hr => first | (go_simp; done) | (go_simp; rfl)); (case hp => exact (Reps.one (show Kd.FK (Kd.slice 5 (Kd.int .u8)) _ _ y261 [.slice A0 y261.length c0] from (Kd.FK_slice_mk (Kd.V_reads' (Kd.V_mono (ok' := (fun k_ => (P0_ k_ ∨ w.heap.size ≤ k_) ∧ some k_ ≠ (v246 : Value).ownBlock ∧ some k_ ≠ (.slice Ao24 t253.length co24 : Value).ownBlock)) (HO265.out) (fun k_ hk => ⟨hk.1.1.1.1, ⟨hk.1.1.1.2, hk.1.1.2⟩⟩))).2.1 (Kd.V_F (Kd.V_mono (ok' := (fun k_ => (P0_ k_ ∨ w.heap.size ≤ k_) ∧ some k_ ≠ (v246 : Value).ownBlock ∧ some k_ ≠ (.slice Ao24 t253.length co24 : Value).ownBlock)) (HO265.out) (fun k_ hk => ⟨hk.1.1.1.1, ⟨hk.1.1.1.2, hk.1.1.2⟩⟩))))) (Reps.one (show Kd.FK (Kd.slice 5 (Kd.int .u8)) _ _ t266 [.slice Ao30 t266.length co30] from (Kd.FK_slice_mk (Kd.R_reads' (Kd.R_mono (ok' := (fun k_ => (P0_ k_ ∨ w.heap.size ≤ k_) ∧ some k_ ≠ (v246 : Value).ownBlock ∧ some k_ ≠ (.slice Ao24 t253.length co24 : Value).ownBlock)) (HO268.out) (fun k_ hk => ⟨(.inr (hk.1.1.1.1)), ⟨hk.1.1.2, hk.1.2⟩⟩))).2.1 (Kd.R_F (Kd.R_mono (ok' := (fun k_ => (P0_ k_ ∨ w.heap.size ≤ k_) ∧ some k_ ≠ (v246 : Value).ownBlock ∧ some k_ ≠ (.slice Ao24 t253.length co24 : Value).ownBlock)) (HO268.out) (fun k_ hk => ⟨(.inr (hk.1.1.1.1)), ⟨hk.1.1.2, hk.1.2⟩⟩))))) (Reps.one (show Kd.FK (Kd.slice 5 (Kd.int .u8)) _ _ t274 [.slice Ao31 t274.length co31] from (Kd.FK_slice_mk (Kd.R_reads' (Kd.R_mono (ok' := (fun k_ => (P0_ k_ ∨ w.heap.size ≤ k_) ∧ some k_ ≠ (v246 : Value).ownBlock ∧ some k_ ≠ (.slice Ao24 t253.length co24 : Value).ownBlock)) (HO276.out) (fun k_ hk => ⟨(.inr (hk.1.1.1.1)), ⟨hk.1.1.2, hk.1.2⟩⟩))).2.1 (Kd.R_F (Kd.R_mono (ok' := (fun k_ => (P0_ k_ ∨ w.heap.size ≤ k_) ∧ some k_ ≠ (v246 : Value).ownBlock ∧ some k_ ≠ (.slice Ao24 t253.length co24 : Value).ownBlock)) (HO276.out) (fun k_ hk => ⟨(.inr (hk.1.1.1.1)), ⟨hk.1.1.2, hk.1.2⟩⟩))))) (Reps.none _ _)))))
         intro v278 w32 ho33 hb hg_ hnew_
         clear hg_ hnew_
         (first | rw [← Ny277.out] at ho33 | (simp only [Int.reduceToNat] at ho33; rw [← Ny277.out] at ho33))
         have n0_ := aS (Kd.V_elder' (sel HO0.out) (by first | exact Kd.N_base ho33 | exact Kd.S_base ho33 | exact Kd.R_base ho33 | exact Kd.V_base ho33) hb)
         have n1_ := aS (Kd.R_below (rel HO247.out) hb)
         have n2_ := aS (Kd.V_elder' (sel HO252.out) (by first | exact Kd.N_base ho33 | exact Kd.S_base ho33 | exact Kd.R_base ho33 | exact Kd.V_base ho33) hb)
         have n3_ := aS (Kd.R_below (rel HO255.out) hb)
         have n4_ := aS (Kd.V_elder' (sel HO260.out) (by first | exact Kd.N_base ho33 | exact Kd.S_base ho33 | exact Kd.R_base ho33 | exact Kd.V_base ho33) hb)
         have n5_ := aS (Kd.V_elder' (sel HO265.out) (by first | exact Kd.N_base ho33 | exact Kd.S_base ho33 | exact Kd.R_base ho33 | exact Kd.V_base ho33) hb)
         have n6_ := aS (Kd.V_elder' (sel HO273.out) (by first | exact Kd.N_base ho33 | exact Kd.S_base ho33 | exact Kd.R_base ho33 | exact Kd.V_base ho33) hb)
         have n7_ := aS (Kd.N_lower ho33 (below_size bel))
         have n8_ := bstep hb
         clear HO0; clear HO247; clear HO252; clear HO255; clear HO260; clear HO265; clear HO273; clear HB; clear HO268; clear HO276
         have HO0 := n0_
         have HO247 := n1_
         have HO252 := n2_
         have HO255 := n3_
         have HO260 := n4_
         have HO265 := n5_
         have HO273 := n6_
         have HO279 := n7_
         have HB := n8_
         clear n0_ n1_ n2_ n3_ n4_ n5_ n6_ n7_ n8_; clear hb ho33
         obtain ⟨Ao34, co34, eo34⟩ := Kd.N_slice HO279.out
         (first | subst eo34 | (injection eo34 with f1_ f2_ f3_; have f4_ := f1_.symm; have f5_ := f3_.symm; clear f1_ f2_ f3_; subst f4_; subst f5_))
         refine hK.out _ _ trivial (fun hHeld => ?_)
         clear hK K
         refine norm_ (a' := ?_) ?_ ?_
         rotate_left
         ·
          show Act.put _ (some 41) _ = _
          simp only [Act.put, lsa, lsz, lss, i64_w, i32_w]
          rfl
         refine one_ (i := 21) (N := some 42) #[true, true, true, true, true, true, true, true, true, true, true, true, true, true, true, true, true, true, true, true, true, true, false, false, false] rfl rfl (one_of HT_.out (by kernel_rfl)) (by decide) (fun K hK => ?_)
         refine goes_ Try.func42 (by kernel_rfl) rfl #[.slice Ao34 y277.length co34] (by rfl) rfl rfl agn ?_
         with_reducible refine (slices_Concat_byte_byte.calls _ _ y277 t280 _ ?side1 ?side2 A21.out).mono ?_
         (case side1 => exact cel ((Kd.N_reads' HO279.out).2.2))
         (case side2 => exact (Kd.N_reads' HO279.out).2.1)
         rintro e w35 ⟨v281, rfl, ho0, hb⟩
         refine ⟨_, rfl, ?_⟩
         have n0_ := aS (Kd.V_elder' (sel HO0.out) (by first | exact Kd.R_base ho0 | exact Kd.S_base ho0 | exact Kd.R_base ho0 | exact Kd.V_base ho0) hb)
         have n1_ := aS (Kd.R_elder' (rel HO247.out) (by first | exact Kd.R_base ho0 | exact Kd.S_base ho0 | exact Kd.R_base ho0 | exact Kd.V_base ho0) hb)
         have n2_ := aS (Kd.V_elder' (sel HO252.out) (by first | exact Kd.R_base ho0 | exact Kd.S_base ho0 | exact Kd.R_base ho0 | exact Kd.V_base ho0) hb)
         have n3_ := aS (Kd.R_elder' (rel HO255.out) (by first | exact Kd.R_base ho0 | exact Kd.S_base ho0 | exact Kd.R_base ho0 | exact Kd.V_base ho0) hb)
         have n4_ := aS (Kd.V_elder' (sel HO260.out) (by first | exact Kd.R_base ho0 | exact Kd.S_base ho0 | exact Kd.R_base ho0 | exact Kd.V_base ho0) hb)
         have n5_ := aS (Kd.V_elder' (sel HO265.out) (by first | exact Kd.R_base ho0 | exact Kd.S_base ho0 | exact Kd.R_base ho0 | exact Kd.V_base ho0) hb)
         have n6_ := aS (Kd.V_elder' (sel HO273.out) (by first | exact Kd.R_base ho0 | exact Kd.S_base ho0 | exact Kd.R_base ho0 | exact Kd.V_base ho0) hb)
         have n7_ := aS (Kd.N_elder' (by (with_reducible repeat (first | apply Kd.N_alloc | apply Kd.N_drewN | apply Kd.N_drew)); exact HO279.out) (by first | exact Kd.R_base ho0 | exact Kd.S_base ho0 | exact Kd.R_base ho0 | exact Kd.V_base ho0) hb)
         have n8_ := aS (Kd.R_lower (Kd.R_new' (Kd.R_new' (Kd.R_newM (M := fun k_ => (w.heap.size ≤ k_)) ho0 (below_size bel) (fun k_ h_ => h_)) (Kd.R_lt (rel HO247.out))) (Kd.R_lt (rel HO255.out))) (below_size bel))
         have n9_ := bstep hb
         clear HO0; clear HO247; clear HO252; clear HO255; clear HO260; clear HO265; clear HO273; clear HO279; clear HB
         have HO0 := n0_
         have HO247 := n1_
         have HO252 := n2_
         have HO255 := n3_
         have HO260 := n4_
         have HO265 := n5_
         have HO273 := n6_
         have HO279 := n7_
         have HO282 := n8_
         have HB := n9_
         clear n0_ n1_ n2_ n3_ n4_ n5_ n6_ n7_ n8_ n9_; (try clear hb); (try clear hb2); (try clear hk); (try clear hi); (try clear ho0)
         obtain ⟨Ao36, co36, eo36⟩ := Kd.R_slice HO282.out
         (first | subst eo36 | (injection eo36 with f1_ f2_ f3_; have f4_ := f1_.symm; have f5_ := f3_.symm; clear f1_ f2_ f3_; subst f4_; subst f5_))
         refine hK.out _ _ trivial (fun hHeld => ?_)
         clear hK K
         refine norm_ (a' := ?_) ?_ ?_
         rotate_left
         ·
          show Act.put _ (some 42) _ = _
          simp only [Act.put, lsa, lsz, lss, i64_w, i32_w]
          rfl
         refine one_ (i := 22) (N := some 43) #[true, true, true, true, true, true, true, true, true, true, true, true, true, true, true, true, true, true, true, true, true, true, true, false, false] rfl rfl (one_of HT_.out (by kernel_rfl)) (by decide) (fun K hK => ?_)
         refine goes_ Try.func41 (by kernel_rfl) rfl #[.slice A0 y256.length c0, .slice Ao36 t280.length co36] (by rfl) rfl rfl agn ?_
         with_reducible refine (slices_Equal_byte_byte.calls k _ _ y256 _ _ t280 t283 _ ?side1 ?side2 ?side3 ?side4 A22.out).mono ?_
         (case side1 => exact cel ((Kd.V_reads' HO260.out).2.2))
         (case side2 => exact (Kd.V_reads' HO260.out).2.1)
         (case side3 => exact cel ((Kd.R_reads' HO282.out).2.2))
         (case side4 => exact (Kd.R_reads' HO282.out).2.1)
         rintro e w' ⟨rfl, ⟨nd, rfl⟩⟩
         refine ⟨_, rfl, ?_⟩
         refine hK.out _ _ trivial (fun hHeld => ?_)
         clear hK K
         refine norm_ (a' := ?_) ?_ ?_
         rotate_left
         ·
          show Act.put _ (some 43) _ = _
          simp only [Act.put, lsa, lsz, lss, i64_w, i32_w]
          rfl
         refine along_ [(23, 44), (24, 45)] ?_
         iterate 2 (apply pure1 HT_; (case hi => rfl); (case hN => rfl); (case hw => rfl); (case hc => kernel_rfl); (case hQ => exact fun _ _ _ h => h); (case hy => intro w'; go_simp; with_reducible rfl); (case ha => simp only [Act.put, lsa, lsz, lss, i64_w, i32_w]; rfl))
         refine lay_ #[true, true, true, true, true, true, true, true, true, true, true, true, true, true, true, true, true, true, true, true, true, true, true, true, true] (by kernel_rfl) ?_
         refine done_ (done_of HT_.out (by kernel_rfl)) ?_
         try go_wp2
         go_meet
         case rel => exact ⟨_, (!t283), (by first | rfl | (simp; done) | (simp [*]; done) | (simp; exact (by decide : ∀ a_ b_ : Bool, (a_ == b_) = (!a_ != b_)) _ _)), H', ⟨by first | omega | exact Nat.le_refl _⟩, ⟨by (with_reducible repeat (first | apply Kd.R_alloc | apply Kd.R_drewN | apply Kd.R_drew)); exact Kd.R_mono HO255.out (fun _ hk => hk.1.1.1.1.1)⟩, ⟨bel⟩⟩
        ·
         rw [if_neg c19] at H
         exact absurd H (by simp)
       ·
        rw [if_neg c18] at H
        exact absurd H (by simp)
      ·
       rw [if_neg c16] at H
       exact absurd H (by simp)
   case rest =>
    clear HC6; (try clear c1); (try clear p2); (try clear q2); (try clear c4); (try clear c12); (try clear c12b0); (try clear c15); (try clear c15b0); (try clear c16); (try clear c16b0); (try clear c16b1); (try clear c18); (try clear c18b0); (try clear c18b1); (try clear c19); (try clear c19b0); (try clear c19b1); (try clear q25); (try clear q26); (try clear q27)
    obtain ⟨kq, x45_5, rfl, HA, HJ5, HO_8, HB⟩ := hcut
    cases kq with
    | zero => exact absurd HA.out (by simp [frame_Cut.j0])
    | succ kj5 =>
     have H := HA.out; clear HA
     simp only [frame_Cut.j0] at H
     by_cases c37 : x45_5 = true
     ·
      subst c37
      have H1 : (some (([] : List Int), ([] : List Int), false)) = some (r1, r2, r3) := by rw [if_pos rfl] at H; exact H
      clear H; have H := H1; clear H1
      simp only [Option.some.injEq, Prod.mk.injEq] at H
      obtain ⟨rfl, rfl, rfl⟩ := H
      go_wp2
      go_ret3
      exact ⟨_, _, rf3, Kd.V_nil _ _ _ _ _, Kd.V_nil _ _ _ _ _, bel⟩
     ·
      replace c37 := Bool.eq_false_iff.mpr c37
      subst c37
      have H1 : (if 0 ≤ t243 then (if t243 ≤ (t253.length : Int) then (some ((t253.take (t243 : Int).toNat), (t253.drop (t243 : Int).toNat), true)) else (none)) else (none)) = some (r1, r2, r3) := by rw [if_neg (show ¬ (false = true) by decide)] at H; exact H
      clear H; have H := H1; clear H1
      by_cases c38 : 0 ≤ t243
      ·
       rw [if_pos c38] at H
       have c38b0 := eq_true c38
       have c38b1 : decide (0 ≤ t243) = true := decide_eq_true c38
       clear c38
       by_cases c39 : t243 ≤ (t253.length : Int)
       ·
        rw [if_pos c39] at H
        have c39b0 := eq_true c39
        have c39b1 : decide (t243 ≤ (t253.length : Int)) = true := decide_eq_true c39
        clear c39
        obtain ⟨y284, hy284⟩ : ∃ y_ : List Int, y_ = (t253.take (t243 : Int).toNat) := ⟨_, rfl⟩
        replace H : (some (y284, (t253.drop (t243 : Int).toNat), true)) = some (r1, r2, r3) := by first | (rw [hy284]; with_reducible exact H) | (have H2_ := (Option.bind_some _ _).symm.trans H; rw [hy284]; with_reducible exact H2_) | (have H2_ := (Option.bind_some _ _).symm.trans H; with_reducible exact H2_) | with_reducible exact H | (rw [hy284]; exact H) | exact H
        have Ny284 := aS hy284
        clear hy284
        have c40b0 := eq_true (odt (by first | (with_reducible assumption) | assumption) : 0 ≤ t243)
        have c41b0 := eq_true (odt (by first | (with_reducible assumption) | assumption) : t243 ≤ (t253.length : Int))
        obtain ⟨y289, hy289⟩ : ∃ y_ : List Int, y_ = (t253.drop (t243 : Int).toNat) := ⟨_, rfl⟩
        replace H : (some (y284, y289, true)) = some (r1, r2, r3) := by first | (rw [hy289]; with_reducible exact H) | (have H2_ := (Option.bind_some _ _).symm.trans H; rw [hy289]; with_reducible exact H2_) | (have H2_ := (Option.bind_some _ _).symm.trans H; with_reducible exact H2_) | with_reducible exact H | (rw [hy289]; exact H) | exact H
        have Ny289 := aS hy289
        clear hy289
        simp only [Option.some.injEq, Prod.mk.injEq] at H
        obtain ⟨rfl, rfl, rfl⟩ := H
        try go_wp2
        have n0_ := aS (Kd.R_drew HO_8.out)
        have n1_ := aS (bdo HB.out)
        clear HO_8; clear HB
        have HO_8 := n0_
        have HB := n1_
        clear n0_ n1_
        obtain ⟨Ao44, co44, eo44⟩ := Kd.R_slice HO_8.out
        (first | subst eo44 | (injection eo44 with f1_ f2_ f3_; have f4_ := f1_.symm; have f5_ := f3_.symm; clear f1_ f2_ f3_; subst f4_; subst f5_))
        have q43 : (t243 : Int) ≤ ((t253.length : Int) : Int) := odt (by first | (with_reducible assumption) | assumption)
        obtain ⟨i043, hi043, _, hsz43, _⟩ := info_parts info5
        have hroom43 : t253.length ≤ co44 := (Kd.R_reads' HO_8.out).2.1
        have hC43 : Kd.F (Kd.int .u8) _ _ Ao44 t253.length t253 := (Kd.V_at (base := w.heap.size) (Kd.V_mono (ok' := (fun k_ => (P0_ k_ ∨ w.heap.size ≤ k_))) (Kd.R_V HO_8.out) (fun k_ hk => (.inr (hk))))).2.2
        have hcut43 := cut_to3 (P := Try.prog) 29 5 .i64 Try.underlying29 hi043 Ao44 t253.length co44 t243 (odt (by first | (with_reducible assumption) | assumption)) q43 hroom43
        have hr43 := Kd.F_take (m := (t243 : Int).toNat) hC43 (by omega)
        have hy43 : y284.length = (t243 : Int).toNat := (by rw [Ny284.out, llt]; omega)
        rw [← Ny284.out] at hr43
        rw [← hy43] at hcut43
        have HO288 := aS (show Kd.V (Kd.int .u8) 5 _ w.heap.size _ (.slice Ao44 y284.length y284.length) y284 from Kd.V_mk (by omega) hr43)
        have HC288 := aS (show y284.length ≤ y284.length from by omega)
        clear hr43 hC43 hroom43 hi043 hsz43
        have KY43 := aS hy43
        clear hy43
        replace q43 := eq_true q43
        have q45 : (t243 : Int) ≤ ((t253.length : Int) : Int) := odt (by first | (with_reducible assumption) | assumption)
        obtain ⟨i045, hi045, _, hsz45, _⟩ := info_parts info5
        have hroom45 : t253.length ≤ co44 := (Kd.R_reads' HO_8.out).2.1
        have hC45 : Kd.F (Kd.int .u8) _ _ Ao44 t253.length t253 := (Kd.V_at (base := w.heap.size) (Kd.V_mono (ok' := (fun k_ => (P0_ k_ ∨ w.heap.size ≤ k_))) (Kd.R_V HO_8.out) (fun k_ hk => (.inr (hk))))).2.2
        have q045 : (0 : Int) ≤ (t243 : Int) := odt (by first | (with_reducible assumption) | assumption)
        have hcut45 := cut_from (P := Try.prog) 29 5 .i64 Try.underlying29 hi045 1 hsz45 Ao44 t253.length co44 t243 q045 q45
        have hr45 := Kd.F_cut (m := (t243 : Int).toNat) (c := co44) hC45 (by omega) hroom45
        obtain ⟨A45, hA45⟩ : ∃ A1_, A1_ = (if co44 = (t243 : Int).toNat then Ao44 else (Ao44 : Option Addr).map (·.add ((t243 : Int).toNat * 1))) := ⟨_, rfl⟩
        obtain ⟨c45, hc45⟩ : ∃ c1_, c1_ = co44 - (t243 : Int).toNat := ⟨_, rfl⟩
        have hy45 : y289.length = t253.length - (t243 : Int).toNat := (by rw [Ny289.out, lld] <;> omega)
        rw [show (t253).drop (t243 : Int).toNat = y289 from Ny289.out.symm] at hr45
        replace hr45 : Kd.F (Kd.int .u8) _ _ A45 y289.length y289 := (by rw [hA45]; exact hr45)
        rw [← hy45, ← hA45, ← hc45] at hcut45
        have HO293 := aS (show Kd.V (Kd.int .u8) 5 _ w.heap.size _ (.slice A45 y289.length c45) y289 from Kd.V_mk (by rw [hy45, hc45]; exact Nat.sub_le_sub_right hroom45 _) hr45)
        have HC293 := aS (show y289.length ≤ c45 from by rw [hy45, hc45]; exact Nat.sub_le_sub_right hroom45 _)
        clear hr45 hC45 hroom45 hi045 hsz45 hc45
        have KY45 := aS hy45
        have KA45 := aS hA45
        clear hy45 hA45
        replace q45 := eq_true q45
        refine start_ (n := 10) (S := fun w' => True) (ds := []) #[false, false, false, false, false, false, false, false, false, false] (by kernel_rfl) rfl rfl trivial (fun hHeld => ?_); refine with_tabW frame_Cut.tab7 frame_Cut.bits7 (fun HT_ HW_ => ?_)
        generalize wc.drew = w42 at HO_8 HB HO288 HO293 hHeld ⊢
        refine along_ [(0, 46), (1, 47), (2, 48), (3, 49), (4, 50), (5, 51), (6, 52), (7, 2), (8, 3), (9, 4)] ?_
        iterate 10 (apply pure1 HT_; (case hi => rfl); (case hN => rfl); (case hw => rfl); (case hc => kernel_rfl); (case hQ => exact fun _ _ _ h => h); (case hy => intro w'; go_simp; with_reducible rfl); (case ha => simp only [Act.put, lsa, lsz, lss, i64_w, i32_w]; rfl))
        refine lay_ #[true, true, true, true, true, true, true, true, true, true] (by kernel_rfl) ?_
        refine done_ (done_of HT_.out (by kernel_rfl)) ?_
        try go_wp2
        go_ret3
        exact ⟨_, _, rf3, by (with_reducible repeat (first | apply Kd.V_alloc | apply Kd.V_drewN | apply Kd.V_drew)); exact HO288.out, by (with_reducible repeat (first | apply Kd.V_alloc | apply Kd.V_drewN | apply Kd.V_drew)); exact HO293.out, bel⟩
       ·
        rw [if_neg c39] at H
        exact absurd H (by simp)
      ·
       rw [if_neg c38] at H
       exact absurd H (by simp)
  ·
   rw [if_neg c4] at H
   exact absurd H (by simp)

-- NOT PRINTED: function 35 (msg_Get_1)

/-! ### wire_CutText: function 38 -/
def wire_CutText.f (k : Nat) (l0 : List Int) : Option (ByteArray × List Int × Bool) := (wire_CutNum.f k l0).bind fun bt294 => (if bt294.2.2 = true then (if bt294.1 > (bt294.2.1.length : Int) then (some ((⟨#[]⟩ : ByteArray), ([] : List Int), false)) else (if 0 ≤ bt294.1 then (if bt294.1 ≤ (bt294.2.1.length : Int) then (some (strOfNums (bt294.2.1.take (bt294.1 : Int).toNat), (bt294.2.1.drop (bt294.1 : Int).toNat), true)) else (none)) else (none))) else (some ((⟨#[]⟩ : ByteArray), ([] : List Int), false)))
theorem wire_CutText.mono : ∀ a0 k, LeO (wire_CutText.f k a0) (wire_CutText.f (k + 1) a0) := by
 intro a0 k
 unfold wire_CutText.f
 repeat' first
   | (with_reducible exact wire_CutNum.mono _ _)
   | (with_reducible exact LeO.refl _)
   | (with_reducible exact LeO.none _)
   | (with_reducible refine LeO.ite ?_ ?_)
   | (with_reducible refine LeO.bind ?_ (fun _ => ?_))
   | exact LeO.none _
   | refine LeO.ite ?_ ?_
   | refine LeO.bind ?_ (fun _ => ?_)
set_option maxHeartbeats 8000000 in
set_option maxRecDepth 100000 in
theorem wire_CutText.calls (k : Nat) (A0 : Option Addr) (c0 : Nat) (l0 : List Int) (r1 : ByteArray) (r2 : List Int) (r3 : Bool) (w : World) (hr0 : Kd.C (Kd.int .u8) w A0 l0.length l0) (hc0 : l0.length ≤ c0) (h : wire_CutText.f k l0 = some (r1, r2, r3)) :
  Calls Try.prog 38 #[.slice A0 l0.length c0] w fun e w' => ∃ v1_ : Value, e = .returned (.tuple #[.string r1, v1_, .bool r3]) ∧ Kd.Q (Kd.int .u8) 5 w' w.heap.size (fun _ => True) v1_ r2 ∧ Below w.heap.size w w' := by
 have HR0 := aS hr0
 have HC0 := aS hc0
 clear hr0 hc0
 have HB := aS (Below.refl w.heap.size w)
 have H : ((wire_CutNum.f k l0).bind fun bt294 => (if bt294.2.2 = true then (if bt294.1 > (bt294.2.1.length : Int) then (some ((⟨#[]⟩ : ByteArray), ([] : List Int), false)) else (if 0 ≤ bt294.1 then (if bt294.1 ≤ (bt294.2.1.length : Int) then (some (strOfNums (bt294.2.1.take (bt294.1 : Int).toNat), (bt294.2.1.drop (bt294.1 : Int).toNat), true)) else (none)) else (none))) else (some ((⟨#[]⟩ : ByteArray), ([] : List Int), false)))) = some (r1, r2, r3) := h
 clear h
 replace H := obm H
 obtain ⟨⟨t294, t295, t296⟩, A20, H⟩ := H
 replace H : (if t296 = true then (if t294 > (t295.length : Int) then (some ((⟨#[]⟩ : ByteArray), ([] : List Int), false)) else (if 0 ≤ t294 then (if t294 ≤ (t295.length : Int) then (some (strOfNums (t295.take (t294 : Int).toNat), (t295.drop (t294 : Int).toNat), true)) else (none)) else (none))) else (some ((⟨#[]⟩ : ByteArray), ([] : List Int), false))) = some (r1, r2, r3) := H
 have A2 := aS A20
 clear A20
 by_cases c3 : t296 = true
 ·
  subst c3
  have H1 : (if t294 > (t295.length : Int) then (some ((⟨#[]⟩ : ByteArray), ([] : List Int), false)) else (if 0 ≤ t294 then (if t294 ≤ (t295.length : Int) then (some (strOfNums (t295.take (t294 : Int).toNat), (t295.drop (t294 : Int).toNat), true)) else (none)) else (none))) = some (r1, r2, r3) := by rw [if_pos rfl] at H; exact H
  clear H; have H := H1; clear H1
  by_cases c4 : t294 > (t295.length : Int)
  ·
   rw [if_pos c4] at H
   have c4b0 : decide ((t295.length : Int) < t294) = true := decide_eq_true c4
   clear c4
   simp only [Option.some.injEq, Prod.mk.injEq] at H
   obtain ⟨rfl, rfl, rfl⟩ := H
   go_enter Try.func38, Try.ntmps38
   go_wp2_with (first | (go_at_call 36; (with_reducible refine (wire_CutNum.calls k _ _ l0 t294 t295 true _ ?side1 ?side2 A2.out).mono ?_); (case side1 => exact cel HR0.out); (case side2 => exact HC0.out); rintro e w5 ⟨v297, rfl, ho0, hb⟩; have n0_ := aS (Kd.R_lower ho0 (below_size bel)); have n1_ := bstep hb; clear HB; have HO298 := n0_; have HB := n1_; clear n0_ n1_; (try clear hb); (try clear hb2); (try clear hk); (try clear hi); (try clear ho0); obtain ⟨Ao6, co6, eo6⟩ := Kd.R_slice HO298.out; subst eo6))
   repeat (go_quiet (first | (go_at_call 36; (with_reducible refine (wire_CutNum.calls k _ _ l0 t294 t295 true _ ?side1 ?side2 A2.out).mono ?_); (case side1 => exact cel HR0.out); (case side2 => exact HC0.out); rintro e w5 ⟨v297, rfl, ho0, hb⟩; have n0_ := aS (Kd.R_lower ho0 (below_size bel)); have n1_ := bstep hb; clear HB; have HO298 := n0_; have HB := n1_; clear n0_ n1_; (try clear hb); (try clear hb2); (try clear hk); (try clear hi); (try clear ho0); obtain ⟨Ao6, co6, eo6⟩ := Kd.R_slice HO298.out; subst eo6)); try go_wp2_with (first | (go_at_call 36; (with_reducible refine (wire_CutNum.calls k _ _ l0 t294 t295 true _ ?side1 ?side2 A2.out).mono ?_); (case side1 => exact cel HR0.out); (case side2 => exact HC0.out); rintro e w5 ⟨v297, rfl, ho0, hb⟩; have n0_ := aS (Kd.R_lower ho0 (below_size bel)); have n1_ := bstep hb; clear HB; have HO298 := n0_; have HB := n1_; clear n0_ n1_; (try clear hb); (try clear hb2); (try clear hk); (try clear hi); (try clear ho0); obtain ⟨Ao6, co6, eo6⟩ := Kd.R_slice HO298.out; subst eo6)))
   go_ret3
   exact ⟨_, rf3, Kd.Q_of_R (by first | exact Kd.R_nil _ _ _ _ _ | exact Kd.N_nil _ _ _ _ _ | exact Kd.V_nil _ _ _ _ _ | exact Kd.Q_nil _ _ _ _ _ | exact Kd.S_nil _ _ _ _ _), bel⟩
  ·
   rw [if_neg c4] at H
   have c4b0 : decide ((t295.length : Int) < t294) = false := decide_eq_false c4
   clear c4
   by_cases c7 : 0 ≤ t294
   ·
    rw [if_pos c7] at H
    have c7b0 := eq_true c7
    have c7b1 : decide (0 ≤ t294) = true := decide_eq_true c7
    clear c7
    by_cases c8 : t294 ≤ (t295.length : Int)
    ·
     rw [if_pos c8] at H
     have c8b0 := eq_true c8
     have c8b1 : decide (t294 ≤ (t295.length : Int)) = true := decide_eq_true c8
     clear c8
     obtain ⟨y299, hy299⟩ : ∃ y_ : List Int, y_ = (t295.take (t294 : Int).toNat) := ⟨_, rfl⟩
     replace H : (some (strOfNums y299, (t295.drop (t294 : Int).toNat), true)) = some (r1, r2, r3) := by first | (rw [hy299]; with_reducible exact H) | (have H2_ := (Option.bind_some _ _).symm.trans H; rw [hy299]; with_reducible exact H2_) | (have H2_ := (Option.bind_some _ _).symm.trans H; with_reducible exact H2_) | with_reducible exact H | (rw [hy299]; exact H) | exact H
     have Ny299 := aS hy299
     clear hy299
     have c9b0 := eq_true (odt (by first | (with_reducible assumption) | assumption) : t294 ≤ (t295.length : Int))
     obtain ⟨y303, hy303⟩ : ∃ y_ : List Int, y_ = (t295.drop (t294 : Int).toNat) := ⟨_, rfl⟩
     replace H : (some (strOfNums y299, y303, true)) = some (r1, r2, r3) := by first | (rw [hy303]; with_reducible exact H) | (have H2_ := (Option.bind_some _ _).symm.trans H; rw [hy303]; with_reducible exact H2_) | (have H2_ := (Option.bind_some _ _).symm.trans H; with_reducible exact H2_) | with_reducible exact H | (rw [hy303]; exact H) | exact H
     have Ny303 := aS hy303
     clear hy303
     simp only [Option.some.injEq, Prod.mk.injEq] at H
     obtain ⟨rfl, rfl, rfl⟩ := H
     go_enter Try.func38, Try.ntmps38
     go_wp2_with (first | (go_at_call 36; (with_reducible refine (wire_CutNum.calls k _ _ l0 t294 t295 true _ ?side1 ?side2 A2.out).mono ?_); (case side1 => exact cel HR0.out); (case side2 => exact HC0.out); rintro e w10 ⟨v297, rfl, ho0, hb⟩; have n0_ := aS (Kd.R_lower ho0 (below_size bel)); have n1_ := bstep hb; clear HB; have HO298 := n0_; have HB := n1_; clear n0_ n1_; (try clear hb); (try clear hb2); (try clear hk); (try clear hi); (try clear ho0); obtain ⟨Ao11, co11, eo11⟩ := Kd.R_slice HO298.out; subst eo11; have q12 : (t294 : Int) ≤ ((t295.length : Int) : Int) := odt (by first | (with_reducible assumption) | assumption); obtain ⟨i012, hi012, _, hsz12, _⟩ := info_parts info5; have hroom12 : t295.length ≤ co11 := (Kd.R_reads' HO298.out).2.1; have hC12 : Kd.C (Kd.int .u8) _ Ao11 t295.length t295 := (Kd.R_reads' HO298.out).2.2; have hcut12 := cut_to (P := Try.prog) 29 5 .i64 Try.underlying29 hi012 Ao11 t295.length co11 t294 (odt (by first | (with_reducible assumption) | assumption)) q12 hroom12; have hr12 := Kd.C_take (m := (t294 : Int).toNat) hC12 (by omega); have hy12 : y299.length = (t294 : Int).toNat := (by rw [Ny299.out, llt]; omega); rw [← Ny299.out] at hr12; rw [← hy12] at hcut12; have HR302 := aS hr12; have HC302 := aS (show y299.length ≤ co11 from by omega); clear hr12 hC12 hroom12 hi012 hsz12; have KY12 := aS hy12; clear hy12; have KL12 := aS (show (t294 : Int).toNat ≤ t295.length from by omega); replace q12 := eq_true q12; have hcv13 := Kd.C_string (P := Try.prog) (A := Ao11) (c := co11) Try.underlying29 Try.underlying5 Try.underlying9 (by repeat (first | (with_reducible exact HR302.out) | (with_reducible refine Kd.C_alloc ?_ _) | (with_reducible refine Kd.C_drewN ?_ _) | (with_reducible refine Kd.C_drew ?_) | exact HR302.out)); have hcv14 := fun (m_ : Nat) => Kd.C_string (P := Try.prog) (A := Ao11) (c := co11) Try.underlying29 Try.underlying5 Try.underlying9 (Kd.C_drewN ((by repeat (first | (with_reducible exact HR302.out) | (with_reducible refine Kd.C_alloc ?_ _) | (with_reducible refine Kd.C_drewN ?_ _) | (with_reducible refine Kd.C_drew ?_) | exact HR302.out))) m_); have q15 : (t294 : Int) ≤ ((t295.length : Int) : Int) := odt (by first | (with_reducible assumption) | assumption); obtain ⟨i015, hi015, _, hsz15, _⟩ := info_parts info5; have hcut15 := cut_from (P := Try.prog) 29 5 .i64 Try.underlying29 hi015 1 hsz15 Ao11 t295.length co11 t294 (odt (by first | (with_reducible assumption) | assumption)) q15; have hr15 := Kd.Q_drop (k := (t294 : Int).toNat) (Kd.Q_of_R HO298.out) (by omega); obtain ⟨A15, hA15⟩ : ∃ A1_, A1_ = (if co11 = (t294 : Int).toNat then Ao11 else (Ao11 : Option Addr).map (·.add ((t294 : Int).toNat * 1))) := ⟨_, rfl⟩; obtain ⟨c15, hc15⟩ : ∃ c1_, c1_ = co11 - (t294 : Int).toNat := ⟨_, rfl⟩; have hy15 : y303.length = t295.length - (t294 : Int).toNat := (by rw [Ny303.out, lld]); rw [← Ny303.out] at hr15; rw [← hy15, ← hA15, ← hc15] at hcut15; replace hr15 : Kd.Q (Kd.int .u8) 5 w10 w.heap.size (fun _ => True) (.slice A15 y303.length c15) y303 := (by rw [hA15, hc15, hy15]; exact hr15); have HE15 : Aside0 ((Value.slice A15 y303.length c15).ownBlock = (.slice Ao11 t295.length co11 : Value).ownBlock) := ⟨by rw [hA15]; split <;> (cases (Ao11 : Option Addr) <;> first | rfl | simp [Value.ownBlock, add_block])⟩; clear hy15 hi015 hsz15 HO298 hA15 hc15; have HO305 := aS hr15; clear hr15; replace q15 := eq_true q15))
     repeat (go_quiet (first | (go_at_call 36; (with_reducible refine (wire_CutNum.calls k _ _ l0 t294 t295 true _ ?side1 ?side2 A2.out).mono ?_); (case side1 => exact cel HR0.out); (case side2 => exact HC0.out); rintro e w10 ⟨v297, rfl, ho0, hb⟩; have n0_ := aS (Kd.R_lower ho0 (below_size bel)); have n1_ := bstep hb; clear HB; have HO298 := n0_; have HB := n1_; clear n0_ n1_; (try clear hb); (try clear hb2); (try clear hk); (try clear hi); (try clear ho0); obtain ⟨Ao11, co11, eo11⟩ := Kd.R_slice HO298.out; subst eo11; have q12 : (t294 : Int) ≤ ((t295.length : Int) : Int) := odt (by first | (with_reducible assumption) | assumption); obtain ⟨i012, hi012, _, hsz12, _⟩ := info_parts info5; have hroom12 : t295.length ≤ co11 := (Kd.R_reads' HO298.out).2.1; have hC12 : Kd.C (Kd.int .u8) _ Ao11 t295.length t295 := (Kd.R_reads' HO298.out).2.2; have hcut12 := cut_to (P := Try.prog) 29 5 .i64 Try.underlying29 hi012 Ao11 t295.length co11 t294 (odt (by first | (with_reducible assumption) | assumption)) q12 hroom12; have hr12 := Kd.C_take (m := (t294 : Int).toNat) hC12 (by omega); have hy12 : y299.length = (t294 : Int).toNat := (by rw [Ny299.out, llt]; omega); rw [← Ny299.out] at hr12; rw [← hy12] at hcut12; have HR302 := aS hr12; have HC302 := aS (show y299.length ≤ co11 from by omega); clear hr12 hC12 hroom12 hi012 hsz12; have KY12 := aS hy12; clear hy12; have KL12 := aS (show (t294 : Int).toNat ≤ t295.length from by omega); replace q12 := eq_true q12; have hcv13 := Kd.C_string (P := Try.prog) (A := Ao11) (c := co11) Try.underlying29 Try.underlying5 Try.underlying9 (by repeat (first | (with_reducible exact HR302.out) | (with_reducible refine Kd.C_alloc ?_ _) | (with_reducible refine Kd.C_drewN ?_ _) | (with_reducible refine Kd.C_drew ?_) | exact HR302.out)); have hcv14 := fun (m_ : Nat) => Kd.C_string (P := Try.prog) (A := Ao11) (c := co11) Try.underlying29 Try.underlying5 Try.underlying9 (Kd.C_drewN ((by repeat (first | (with_reducible exact HR302.out) | (with_reducible refine Kd.C_alloc ?_ _) | (with_reducible refine Kd.C_drewN ?_ _) | (with_reducible refine Kd.C_drew ?_) | exact HR302.out))) m_); have q15 : (t294 : Int) ≤ ((t295.length : Int) : Int) := odt (by first | (with_reducible assumption) | assumption); obtain ⟨i015, hi015, _, hsz15, _⟩ := info_parts info5; have hcut15 := cut_from (P := Try.prog) 29 5 .i64 Try.underlying29 hi015 1 hsz15 Ao11 t295.length co11 t294 (odt (by first | (with_reducible assumption) | assumption)) q15; have hr15 := Kd.Q_drop (k := (t294 : Int).toNat) (Kd.Q_of_R HO298.out) (by omega); obtain ⟨A15, hA15⟩ : ∃ A1_, A1_ = (if co11 = (t294 : Int).toNat then Ao11 else (Ao11 : Option Addr).map (·.add ((t294 : Int).toNat * 1))) := ⟨_, rfl⟩; obtain ⟨c15, hc15⟩ : ∃ c1_, c1_ = co11 - (t294 : Int).toNat := ⟨_, rfl⟩; have hy15 : y303.length = t295.length - (t294 : Int).toNat := (by rw [Ny303.out, lld]); rw [← Ny303.out] at hr15; rw [← hy15, ← hA15, ← hc15] at hcut15; replace hr15 : Kd.Q (Kd.int .u8) 5 w10 w.heap.size (fun _ => True) (.slice A15 y303.length c15) y303 := (by rw [hA15, hc15, hy15]; exact hr15); have HE15 : Aside0 ((Value.slice A15 y303.length c15).ownBlock = (.slice Ao11 t295.length co11 : Value).ownBlock) := ⟨by rw [hA15]; split <;> (cases (Ao11 : Option Addr) <;> first | rfl | simp [Value.ownBlock, add_block])⟩; clear hy15 hi015 hsz15 HO298 hA15 hc15; have HO305 := aS hr15; clear hr15; replace q15 := eq_true q15)); try go_wp2_with (first | (go_at_call 36; (with_reducible refine (wire_CutNum.calls k _ _ l0 t294 t295 true _ ?side1 ?side2 A2.out).mono ?_); (case side1 => exact cel HR0.out); (case side2 => exact HC0.out); rintro e w10 ⟨v297, rfl, ho0, hb⟩; have n0_ := aS (Kd.R_lower ho0 (below_size bel)); have n1_ := bstep hb; clear HB; have HO298 := n0_; have HB := n1_; clear n0_ n1_; (try clear hb); (try clear hb2); (try clear hk); (try clear hi); (try clear ho0); obtain ⟨Ao11, co11, eo11⟩ := Kd.R_slice HO298.out; subst eo11; have q12 : (t294 : Int) ≤ ((t295.length : Int) : Int) := odt (by first | (with_reducible assumption) | assumption); obtain ⟨i012, hi012, _, hsz12, _⟩ := info_parts info5; have hroom12 : t295.length ≤ co11 := (Kd.R_reads' HO298.out).2.1; have hC12 : Kd.C (Kd.int .u8) _ Ao11 t295.length t295 := (Kd.R_reads' HO298.out).2.2; have hcut12 := cut_to (P := Try.prog) 29 5 .i64 Try.underlying29 hi012 Ao11 t295.length co11 t294 (odt (by first | (with_reducible assumption) | assumption)) q12 hroom12; have hr12 := Kd.C_take (m := (t294 : Int).toNat) hC12 (by omega); have hy12 : y299.length = (t294 : Int).toNat := (by rw [Ny299.out, llt]; omega); rw [← Ny299.out] at hr12; rw [← hy12] at hcut12; have HR302 := aS hr12; have HC302 := aS (show y299.length ≤ co11 from by omega); clear hr12 hC12 hroom12 hi012 hsz12; have KY12 := aS hy12; clear hy12; have KL12 := aS (show (t294 : Int).toNat ≤ t295.length from by omega); replace q12 := eq_true q12; have hcv13 := Kd.C_string (P := Try.prog) (A := Ao11) (c := co11) Try.underlying29 Try.underlying5 Try.underlying9 (by repeat (first | (with_reducible exact HR302.out) | (with_reducible refine Kd.C_alloc ?_ _) | (with_reducible refine Kd.C_drewN ?_ _) | (with_reducible refine Kd.C_drew ?_) | exact HR302.out)); have hcv14 := fun (m_ : Nat) => Kd.C_string (P := Try.prog) (A := Ao11) (c := co11) Try.underlying29 Try.underlying5 Try.underlying9 (Kd.C_drewN ((by repeat (first | (with_reducible exact HR302.out) | (with_reducible refine Kd.C_alloc ?_ _) | (with_reducible refine Kd.C_drewN ?_ _) | (with_reducible refine Kd.C_drew ?_) | exact HR302.out))) m_); have q15 : (t294 : Int) ≤ ((t295.length : Int) : Int) := odt (by first | (with_reducible assumption) | assumption); obtain ⟨i015, hi015, _, hsz15, _⟩ := info_parts info5; have hcut15 := cut_from (P := Try.prog) 29 5 .i64 Try.underlying29 hi015 1 hsz15 Ao11 t295.length co11 t294 (odt (by first | (with_reducible assumption) | assumption)) q15; have hr15 := Kd.Q_drop (k := (t294 : Int).toNat) (Kd.Q_of_R HO298.out) (by omega); obtain ⟨A15, hA15⟩ : ∃ A1_, A1_ = (if co11 = (t294 : Int).toNat then Ao11 else (Ao11 : Option Addr).map (·.add ((t294 : Int).toNat * 1))) := ⟨_, rfl⟩; obtain ⟨c15, hc15⟩ : ∃ c1_, c1_ = co11 - (t294 : Int).toNat := ⟨_, rfl⟩; have hy15 : y303.length = t295.length - (t294 : Int).toNat := (by rw [Ny303.out, lld]); rw [← Ny303.out] at hr15; rw [← hy15, ← hA15, ← hc15] at hcut15; replace hr15 : Kd.Q (Kd.int .u8) 5 w10 w.heap.size (fun _ => True) (.slice A15 y303.length c15) y303 := (by rw [hA15, hc15, hy15]; exact hr15); have HE15 : Aside0 ((Value.slice A15 y303.length c15).ownBlock = (.slice Ao11 t295.length co11 : Value).ownBlock) := ⟨by rw [hA15]; split <;> (cases (Ao11 : Option Addr) <;> first | rfl | simp [Value.ownBlock, add_block])⟩; clear hy15 hi015 hsz15 HO298 hA15 hc15; have HO305 := aS hr15; clear hr15; replace q15 := eq_true q15)))
     go_ret3
     exact ⟨_, rf3, by (with_reducible repeat (first | apply Kd.Q_alloc | apply Kd.Q_drewN | apply Kd.Q_drew)); exact HO305.out, bel⟩
    ·
     rw [if_neg c8] at H
     exact absurd H (by simp)
   ·
    rw [if_neg c7] at H
    exact absurd H (by simp)
 ·
  replace c3 := Bool.eq_false_iff.mpr c3
  subst c3
  have H1 : (some ((⟨#[]⟩ : ByteArray), ([] : List Int), false)) = some (r1, r2, r3) := by rw [if_neg (show ¬ (false = true) by decide)] at H; exact H
  clear H; have H := H1; clear H1
  simp only [Option.some.injEq, Prod.mk.injEq] at H
  obtain ⟨rfl, rfl, rfl⟩ := H
  go_enter Try.func38, Try.ntmps38
  go_wp2_with (first | (go_at_call 36; (with_reducible refine (wire_CutNum.calls k _ _ l0 t294 t295 false _ ?side1 ?side2 A2.out).mono ?_); (case side1 => exact cel HR0.out); (case side2 => exact HC0.out); rintro e w16 ⟨v297, rfl, ho0, hb⟩; have n0_ := aS (Kd.R_lower ho0 (below_size bel)); have n1_ := bstep hb; clear HB; have HO298 := n0_; have HB := n1_; clear n0_ n1_; (try clear hb); (try clear hb2); (try clear hk); (try clear hi); (try clear ho0)))
  repeat (go_quiet (first | (go_at_call 36; (with_reducible refine (wire_CutNum.calls k _ _ l0 t294 t295 false _ ?side1 ?side2 A2.out).mono ?_); (case side1 => exact cel HR0.out); (case side2 => exact HC0.out); rintro e w16 ⟨v297, rfl, ho0, hb⟩; have n0_ := aS (Kd.R_lower ho0 (below_size bel)); have n1_ := bstep hb; clear HB; have HO298 := n0_; have HB := n1_; clear n0_ n1_; (try clear hb); (try clear hb2); (try clear hk); (try clear hi); (try clear ho0))); try go_wp2_with (first | (go_at_call 36; (with_reducible refine (wire_CutNum.calls k _ _ l0 t294 t295 false _ ?side1 ?side2 A2.out).mono ?_); (case side1 => exact cel HR0.out); (case side2 => exact HC0.out); rintro e w16 ⟨v297, rfl, ho0, hb⟩; have n0_ := aS (Kd.R_lower ho0 (below_size bel)); have n1_ := bstep hb; clear HB; have HO298 := n0_; have HB := n1_; clear n0_ n1_; (try clear hb); (try clear hb2); (try clear hk); (try clear hi); (try clear ho0))))
  go_ret3
  exact ⟨_, rf3, Kd.Q_of_R (by first | exact Kd.R_nil _ _ _ _ _ | exact Kd.N_nil _ _ _ _ _ | exact Kd.V_nil _ _ _ _ _ | exact Kd.Q_nil _ _ _ _ _ | exact Kd.S_nil _ _ _ _ _), bel⟩

-- NOT PRINTED: function 37 (msg_Get_2)

/-! ### slot_Promise: function 51 -/
def slot_Promise.f (a0 : Int) : Option (List Int × Int) := (slot_ballot.f a0).bind fun t306 => (if t306 = true then ((wire_Num.f 1).bind fun t307 => ((wire_Num.f a0).bind fun t310 => ((slices_Concat_byte_byte.f (([t307, t310] : List (List Int)))).bind fun t316 => (some (t316, 0))))) else (some (([] : List Int), 1)))
set_option maxHeartbeats 8000000 in
set_option maxRecDepth 100000 in
theorem slot_Promise.calls (a0 : Int) (r1 : List Int) (r2 : Int) (w : World) (h : slot_Promise.f a0 = some (r1, r2)) :
  Calls Try.prog 51 #[.int .i64 a0] w fun e w' => ∃ v0_ : Value, e = .returned (.tuple #[v0_, .int .i64 r2]) ∧ Kd.R (Kd.int .u8) 5 w' w.heap.size (fun _ => True) v0_ r1 ∧ Below w.heap.size w w' := by
 have HB := aS (Below.refl w.heap.size w)
 have H : ((slot_ballot.f a0).bind fun t306 => (if t306 = true then ((wire_Num.f 1).bind fun t307 => ((wire_Num.f a0).bind fun t310 => ((slices_Concat_byte_byte.f (([t307, t310] : List (List Int)))).bind fun t316 => (some (t316, 0))))) else (some (([] : List Int), 1)))) = some (r1, r2) := h
 clear h
 replace H := obm H
 obtain ⟨t306, A20, H⟩ := H
 replace H : (if t306 = true then ((wire_Num.f 1).bind fun t307 => ((wire_Num.f a0).bind fun t310 => ((slices_Concat_byte_byte.f (([t307, t310] : List (List Int)))).bind fun t316 => (some (t316, 0))))) else (some (([] : List Int), 1))) = some (r1, r2) := H
 have A2 := aS A20
 clear A20
 by_cases c3 : t306 = true
 ·
  subst c3
  have H1 : ((wire_Num.f 1).bind fun t307 => ((wire_Num.f a0).bind fun t310 => ((slices_Concat_byte_byte.f (([t307, t310] : List (List Int)))).bind fun t316 => (some (t316, 0))))) = some (r1, r2) := by rw [if_pos rfl] at H; exact H
  clear H; have H := H1; clear H1
  replace H := obm H
  obtain ⟨t307, A40, H⟩ := H
  replace H : ((wire_Num.f a0).bind fun t310 => ((slices_Concat_byte_byte.f (([t307, t310] : List (List Int)))).bind fun t316 => (some (t316, 0)))) = some (r1, r2) := H
  have A4 := aS A40
  clear A40
  replace H := obm H
  obtain ⟨t310, A50, H⟩ := H
  replace H : ((slices_Concat_byte_byte.f (([t307, t310] : List (List Int)))).bind fun t316 => (some (t316, 0))) = some (r1, r2) := H
  have A5 := aS A50
  clear A50
  obtain ⟨y313, hy313⟩ : ∃ y_ : List (List Int), y_ = (([t307, t310] : List (List Int))) := ⟨_, rfl⟩
  replace H : ((slices_Concat_byte_byte.f y313).bind fun t316 => (some (t316, 0))) = some (r1, r2) := by first | (rw [hy313]; with_reducible exact H) | (have H2_ := (Option.bind_some _ _).symm.trans H; rw [hy313]; with_reducible exact H2_) | (have H2_ := (Option.bind_some _ _).symm.trans H; with_reducible exact H2_) | with_reducible exact H | (rw [hy313]; exact H) | exact H
  have Ny313 := aS hy313
  clear hy313
  replace H := obm H
  obtain ⟨t316, A60, H⟩ := H
  replace H : (some (t316, 0)) = some (r1, r2) := H
  have A6 := aS A60
  clear A60
  simp only [Option.some.injEq, Prod.mk.injEq] at H
  obtain ⟨rfl, rfl⟩ := H
  go_enter Try.func51, Try.ntmps51
  go_wp2_with (first | ((with_reducible refine gate_callee (f := 45) rfl ?_); refine goesL_ (some 5) rfl rfl Try.func45 (by kernel_rfl) rfl #[.int .i64 a0] rfl agn ?_; (with_reducible refine (slot_ballot.calls a0 true _ A2.out).mono ?_); rintro e w' ⟨rfl, ⟨nd, rfl⟩⟩; refine ⟨_, rfl, ?_⟩) | ((with_reducible refine gate_callee (f := 17) rfl ?_); refine goesL_ (some 7) rfl rfl Try.func17 (by kernel_rfl) rfl #[.int .i64 1] rfl agn ?_; (with_reducible refine (wire_Num.calls 1 t307 _ A4.out).mono ?_); rintro e w7 ⟨v308, rfl, ho0, hb⟩; refine ⟨_, rfl, ?_⟩; have n0_ := aS (Kd.R_lower ho0 (below_size bel)); have n1_ := bstep hb; clear HB; have HO309 := n0_; have HB := n1_; clear n0_ n1_; (try clear hb); (try clear hb2); (try clear hk); (try clear hi); (try clear ho0)) | ((with_reducible refine gate_callee (f := 17) rfl ?_); refine goesL_ (some 9) rfl rfl Try.func17 (by kernel_rfl) rfl #[.int .i64 a0] rfl agn ?_; (with_reducible refine (wire_Num.calls a0 t310 _ A5.out).mono ?_); rintro e w8 ⟨v311, rfl, ho0, hb⟩; refine ⟨_, rfl, ?_⟩; have n0_ := aS (Kd.R_elder' (rel HO309.out) (by first | exact Kd.R_base ho0 | exact Kd.S_base ho0 | exact Kd.R_base ho0 | exact Kd.V_base ho0) hb); have n1_ := aS (Kd.R_lower (Kd.R_new' ho0 (Kd.R_lt (rel HO309.out))) (below_size bel)); have n2_ := bstep hb; clear HO309; clear HB; have HO309 := n0_; have HO312 := n1_; have HB := n2_; clear n0_ n1_ n2_; (try clear hb); (try clear hb2); (try clear hk); (try clear hi); (try clear ho0); obtain ⟨Ao9, co9, eo9⟩ := Kd.R_slice HO309.out; subst eo9; obtain ⟨Ao10, co10, eo10⟩ := Kd.R_slice HO312.out; subst eo10) | ((with_reducible refine gate_dst (N := 10) rfl ?_); refine Kd.N_lit (Kd.slice 5 (Kd.int .u8)) _ 29 ?hg (N' := 10) ?hd (xs := ([t307, t310] : List (List Int))) (inner := [.slice Ao9 t307.length co9, .slice Ao10 t310.length co10]) (ok := (fun _ => True)) (okp := (fun _ => True)) ?hr ?hp (fun _ hk => hk) ((show ∀ k_, w8.heap.size ≤ k_ → (fun _ => True) k_ from fun k_ hk => trivial) _ (Nat.le_refl _)) (Below.refl _ _) (Nat.le_refl _) (by simp) ?_; (case hd => rfl); (case hg => rfl); (case hr => first | (go_simp; done) | (go_simp; rfl)); (case hp => exact (Reps.one (show Kd.FK (Kd.slice 5 (Kd.int .u8)) _ _ t307 [.slice Ao9 t307.length co9] from (Kd.FK_slice_mk (Kd.R_reads' (Kd.R_mono (ok' := (fun _ => True)) (HO309.out) (fun k_ hk => trivial))).2.1 (Kd.R_F (Kd.R_mono (ok' := (fun _ => True)) (HO309.out) (fun k_ hk => trivial))))) (Reps.one (show Kd.FK (Kd.slice 5 (Kd.int .u8)) _ _ t310 [.slice Ao10 t310.length co10] from (Kd.FK_slice_mk (Kd.R_reads' (Kd.R_mono (ok' := (fun _ => True)) (HO312.out) (fun k_ hk => trivial))).2.1 (Kd.R_F (Kd.R_mono (ok' := (fun _ => True)) (HO312.out) (fun k_ hk => trivial))))) (Reps.none _ _)))); intro v314 w11 ho12 hb hg_ hnew_; clear hg_ hnew_; (first | rw [← Ny313.out] at ho12 | (simp only [Int.reduceToNat] at ho12; rw [← Ny313.out] at ho12)); have n0_ := aS (Kd.N_lower ho12 (below_size bel)); have n1_ := bstep hb; clear HB; clear HO309; clear HO312; have HO315 := n0_; have HB := n1_; clear n0_ n1_; clear hb ho12; obtain ⟨Ao13, co13, eo13⟩ := Kd.N_slice HO315.out; subst eo13) | ((with_reducible refine gate_callee (f := 42) rfl ?_); refine goesL_ (some 11) rfl rfl Try.func42 (by kernel_rfl) rfl #[.slice Ao13 y313.length co13] rfl agn ?_; (with_reducible refine (slices_Concat_byte_byte.calls _ _ y313 t316 _ ?side1 ?side2 A6.out).mono ?_); (case side1 => exact cel ((Kd.N_reads' HO315.out).2.2)); (case side2 => exact (Kd.N_reads' HO315.out).2.1); rintro e w14 ⟨v317, rfl, ho0, hb⟩; refine ⟨_, rfl, ?_⟩; have n0_ := aS (Kd.N_elder' (by (with_reducible repeat (first | apply Kd.N_alloc | apply Kd.N_drewN | apply Kd.N_drew)); exact HO315.out) (by first | exact Kd.R_base ho0 | exact Kd.S_base ho0 | exact Kd.R_base ho0 | exact Kd.V_base ho0) hb); have n1_ := aS (Kd.R_lower ho0 (below_size bel)); have n2_ := bstep hb; clear HO315; clear HB; have HO315 := n0_; have HO318 := n1_; have HB := n2_; clear n0_ n1_ n2_; (try clear hb); (try clear hb2); (try clear hk); (try clear hi); (try clear ho0)))
  go_ret2
  exact ⟨_, rf3, by (with_reducible repeat (first | apply Kd.R_alloc | apply Kd.R_drewN | apply Kd.R_drew)); exact HO318.out, bel⟩
 ·
  replace c3 := Bool.eq_false_iff.mpr c3
  subst c3
  have H1 : (some (([] : List Int), 1)) = some (r1, r2) := by rw [if_neg (show ¬ (false = true) by decide)] at H; exact H
  clear H; have H := H1; clear H1
  simp only [Option.some.injEq, Prod.mk.injEq] at H
  obtain ⟨rfl, rfl⟩ := H
  go_enter Try.func51, Try.ntmps51
  go_wp2_with (first | ((with_reducible refine gate_callee (f := 45) rfl ?_); refine goesL_ (some 5) rfl rfl Try.func45 (by kernel_rfl) rfl #[.int .i64 a0] rfl agn ?_; (with_reducible refine (slot_ballot.calls a0 false _ A2.out).mono ?_); rintro e w' ⟨rfl, ⟨nd, rfl⟩⟩; refine ⟨_, rfl, ?_⟩))
  go_ret2
  exact ⟨_, rf3, by first | exact Kd.R_nil _ _ _ _ _ | exact Kd.N_nil _ _ _ _ _ | exact Kd.V_nil _ _ _ _ _ | exact Kd.Q_nil _ _ _ _ _ | exact Kd.S_nil _ _ _ _ _, bel⟩

/-! ### slot_cut: function 52 -/
def slot_cut.l0 (k : Nat) : Nat → List Int → List Int → Bool → Option (List Int × List Int × Bool)
 | 0, ns, b, ok => some (ns, b, ok)
 | m + 1, ns, b, ok => if ok = true then (wire_CutNum.f k b).bind fun t => slot_cut.l0 k m (ns ++ [t.1]) t.2.1 t.2.2 else slot_cut.l0 k m (ns ++ [0]) b ok
def slot_cut.f (k : Nat) (l0 : List Int) : Option (Int × Int × Int × Bool × ByteArray) := (slot_cut.l0 k 4 [] l0 true).bind fun t => (wire_CutText.f k t.2.1).bind fun u => some (rd t.1 0, rd t.1 1, rd t.1 2, rd t.1 3 == 1, u.1)
theorem slot_cut.mono_l (k : Nat) : ∀ m ns b ok, LeO (slot_cut.l0 k m ns b ok) (slot_cut.l0 (k + 1) m ns b ok)
 | 0, _, _, _ => LeO.refl _
 | m + 1, ns, b, ok => by
  unfold slot_cut.l0
  exact LeO.ite (LeO.bind (wire_CutNum.mono _ _) (fun _ => slot_cut.mono_l k m _ _ _)) (slot_cut.mono_l k m _ _ _)
theorem slot_cut.mono : ∀ a0 k, LeO (slot_cut.f k a0) (slot_cut.f (k + 1) a0) := fun a0 k =>
 LeO.bind (slot_cut.mono_l k 4 [] a0 true) (fun _ => LeO.bind (wire_CutText.mono _ _) (fun _ => LeO.refl _))
theorem slot_cut.len (k : Nat) : ∀ m ns b ok t, slot_cut.l0 k m ns b ok = some t → t.1.length = ns.length + m
 | 0, ns, b, ok, t, h => by obtain rfl := Option.some.inj h; rfl
 | m + 1, ns, b, ok, t, h => by
  unfold slot_cut.l0 at h
  split at h
  ·
   obtain ⟨u, _, h⟩ := Option.bind_eq_some_iff.1 h
   have := slot_cut.len k m _ _ _ t h
   simp at this; omega
  ·
   have := slot_cut.len k m _ _ _ t h
   simp at this; omega
set_option maxHeartbeats 2000000 in
set_option maxRecDepth 100000 in
theorem slot_cut.calls (k : Nat) (A0 : Option Addr) (c0 : Nat) (l0 : List Int) (r1 r2 r3 : Int) (r4 : Bool) (r5 : ByteArray) (w : World) (hr0 : Kd.C (Kd.int .u8) w A0 l0.length l0) (hc0 : l0.length ≤ c0) (h : slot_cut.f k l0 = some (r1, r2, r3, r4, r5)) :
  Calls Try.prog 52 #[.slice A0 l0.length c0] w fun e w' => e = .returned (.agg #[.int .i64 r1, .int .i64 r2, .int .i64 r3, .bool r4, .string r5]) ∧ Below w.heap.size w w' := by
 have HR := aS hr0
 have HC := aS hc0
 clear hr0 hc0
 obtain ⟨⟨ns, b, ok⟩, h1, h2⟩ := Option.bind_eq_some_iff.1 h
 obtain ⟨⟨s, rest, is⟩, h3, h4⟩ := Option.bind_eq_some_iff.1 h2
 have H1 := aS h1
 have H3 := aS h3
 simp only [Option.some.injEq, Prod.mk.injEq] at h4
 obtain ⟨rfl, rfl, rfl, rfl, rfl⟩ := h4
 clear h h1 h2 h3; have hu1 := Try.underlying23; have hu2 := Try.underlying77
 go_enter Try.func52, Try.ntmps52
 go_wp2_with fail
 go_loopw [0, 4, 9] (fun v0 v4 v9 w2 => ∃ (i : Nat) (ms bb : List Int) (A : Option Addr) (c : Nat) (o : Bool), v9 = .int .i64 (i : Int) ∧ v4 = .bool o ∧ v0 = .slice A bb.length c ∧ Aside0 (i ≤ 4 ∧ ms.length = i) ∧ Aside0 (slot_cut.l0 k (4 - i) ms bb o = some (ns, b, ok)) ∧ Aside0 (Kd.C (Kd.int .u8) w2 A bb.length bb ∧ bb.length ≤ c) ∧ Aside0 (w2.heap[w.heap.size]? = some (.cells #[.int .i64 0, .int .i64 0, .int .i64 0, .bool false, .string ⟨#[]⟩] 23 (0, 0))) ∧ Aside0 (w2.heap[w.heap.size + 1]? = some (.cells ((ms ++ List.replicate (4 - i) 0).map (Value.int .i64)).toArray 77 (0, 0))) ∧ Aside0 (Below w.heap.size w w2)) (fun _ _ i _ => 4 - (intOf i).toNat)
 case atStart =>
  refine ⟨0, [], l0, A0, c0, true, rfl, rfl, rfl, ⟨by simp⟩, H1, ⟨Kd.C_below HR.out (bal (bal (Below.refl _ _) _) _), HC.out⟩, ⟨(two_new w _ _).1⟩, ⟨(two_new w _ _).2⟩, ⟨bal (bal (Below.refl _ _) _) _⟩⟩
 case round =>
  obtain ⟨i, ms, bb, A1, c1, o, rfl, rfl, rfl, hi, HA, HCC, HV, HN, HB⟩ := hrel
  have hi4 := hi.out.1
  obtain ⟨d, hd⟩ : ∃ d, 4 - i = d := ⟨_, rfl⟩
  rw [hd] at HA HN
  by_cases hlt : i < 4
  ·
   obtain ⟨m, rfl⟩ : ∃ m, d = m + 1 := ⟨d - 1, by omega⟩
   have hm : 4 - (i + 1) = m := by omega
   clear hd
   have HM := aS hm
   clear hm; have ha := HA.out
   unfold slot_cut.l0 at ha
   cases o with
   | true =>
    rw [if_pos rfl] at ha
    obtain ⟨⟨t1, t2, t3⟩, hx, ha⟩ := Option.bind_eq_some_iff.1 ha
    have HX := aS hx
    have HA2 := aS ha
    clear hx ha HA
    go_wp2_with (first
     | (go_at_call 36; (with_reducible refine (wire_CutNum.calls k A1 c1 bb t1 t2 t3 _ HCC.out.1 HCC.out.2 HX.out).mono ?_); rintro e w3 ⟨v1, rfl, ho, hb⟩; obtain ⟨A2, c2, rfl⟩ := Kd.R_slice ho; have HO := aS ho; have HB2 := aS hb; have HN3 := aS ((hb.block _ (blk_lt HN.out)).trans HN.out); have HV3 := aS ((hb.block _ (blk_lt HV.out)).trans HV.out); have hz := blk_cell HN3.out ms.length; rw [fill_cell, hi.out.2] at hz; have hfz := blk_frozen HN3.out i; clear ho hb))
    go_roundw
    case rel =>
     have hlt2 : w.heap.size + 1 < wr.heap.size := blk_lt HN.out
     have ho2 := Kd.R_far (p := ⟨w.heap.size + 1, i, none⟩) (Kd.R_mono (ok' := fun q => q ≠ w.heap.size + 1) (Kd.R_bound HO.out) (fun q hq => by have := hq.2.1; omega)) (fun _ hq => hq) (.int .i64 t1)
     have hs := blk_put HN3.out ms.length (.int .i64 t1) (fill_set (Value.int .i64) 0 t1 ms m)
     rw [hi.out.2] at hs
     have hm : 4 - (i + 1) = m := HM.out
     exact ⟨i + 1, ms ++ [t1], t2, A2, c2, t3, by go_num, rfl, rfl, ⟨by omega, by rw [List.length_append, hi.out.2]; rfl⟩, ⟨by rw [hm]; exact HA2.out⟩, ⟨(Kd.R_reads' ho2).2.2, (Kd.R_reads' ho2).2.1⟩, ⟨blk_far HV3.out (by simp) _⟩, ⟨by rw [hm]; exact hs⟩, ⟨(below_step HB.out HB2.out).setCell (by simp) _⟩⟩
    case measure => simp [intOf]; omega
   | false =>
    rw [if_neg (by decide)] at ha
    have HA2 := aS ha
    clear ha HA
    go_wp2
    go_roundw
    case rel =>
     have hm : 4 - (i + 1) = m := HM.out
     exact ⟨i + 1, ms ++ [0], bb, A1, c1, false, by go_num, rfl, rfl, ⟨by omega, by rw [List.length_append, hi.out.2]; rfl⟩, ⟨by rw [hm]; exact HA2.out⟩, HCC, HV, ⟨by rw [hm, List.append_assoc]; exact HN.out⟩, HB⟩
    case measure => simp [intOf]; omega
  ·
   have hd0 : d = 0 := by omega
   subst hd0
   have ha := HA.out
   unfold slot_cut.l0 at ha
   simp only [Option.some.injEq, Prod.mk.injEq] at ha
   obtain ⟨rfl, rfl, rfl⟩ := ha
   obtain ⟨n0, n1, n2, n3, rfl⟩ : ∃ n0 n1 n2 n3, ms = [n0, n1, n2, n3] := by
    have hl : ms.length = 4 := by have := hi.out.2; omega
    match ms, hl with
    | [a, b, c, d], _ => exact ⟨a, b, c, d, rfl⟩
   have hn4 : wr.heap[w.heap.size + 1]? = some (.cells #[.int .i64 n0, .int .i64 n1, .int .i64 n2, .int .i64 n3] 77 (0, 0)) := HN.out
   have HN4 := aS hn4
   clear hd HA HN hn4
   go_wp2_with (first
    | (go_at_call 38; (with_reducible refine (wire_CutText.calls k A1 c1 bb s rest is _ HCC.out.1 HCC.out.2 H3.out).mono ?_); rintro e w3 ⟨v1, rfl, ho, hb⟩; have HB2 := aS hb; have HN3 := aS ((hb.block _ (blk_lt HN4.out)).trans HN4.out); have HV3 := aS ((hb.block _ (blk_lt HV.out)).trans HV.out); have z0 := blk_cell HN3.out 0; have z1 := blk_cell HN3.out 1; have z2 := blk_cell HN3.out 2; have z3 := blk_cell HN3.out 3; have y0 := blk_cell HV3.out 0; have y1 := blk_cell HV3.out 1; have y2 := blk_cell HV3.out 2; have y3 := blk_cell HV3.out 3; have y4 := blk_cell HV3.out 4; have f0 := blk_frozen HV3.out 0; have f1 := blk_frozen HV3.out 1; have f2 := blk_frozen HV3.out 2; have f3 := blk_frozen HV3.out 3; have f4 := blk_frozen HV3.out 4; simp only [List.getElem?_toArray, List.getElem?_cons_zero, List.getElem?_cons_succ] at z0 z1 z2 z3 y0 y1 y2 y3 y4; clear ho hb))
   refine bodyPost_ret (results_single rfl (.cell w.heap.size 23 #[(.int .i64 n0), (.int .i64 n1), (.int .i64 n2), (.bool (n3 == 1)), (.string s)] (0, 0) _ rfl (by refine blk_put (cs := #[(.int .i64 n0), (.int .i64 n1), (.int .i64 n2), (.bool (n3 == 1)), .string ⟨#[]⟩]) ?_ 4 _ rfl; refine blk_put (cs := #[(.int .i64 n0), (.int .i64 n1), (.int .i64 n2), .bool false, .string ⟨#[]⟩]) ?_ 3 _ rfl; refine blk_put (cs := #[(.int .i64 n0), (.int .i64 n1), .int .i64 0, .bool false, .string ⟨#[]⟩]) ?_ 2 _ rfl; refine blk_put (cs := #[(.int .i64 n0), .int .i64 0, .int .i64 0, .bool false, .string ⟨#[]⟩]) ?_ 1 _ rfl; refine blk_put (cs := #[.int .i64 0, .int .i64 0, .int .i64 0, .bool false, .string ⟨#[]⟩]) ?_ 0 _ rfl; exact HV3.out) Try.underlying23 rfl (by kernel_rfl) .nil)) rfl ?_
   have hb0 := below_step HB.out HB2.out
   exact ⟨rfl, ((((hb0.setCell (Nat.le_refl _) _).setCell (Nat.le_refl _) _).setCell (Nat.le_refl _) _).setCell (Nat.le_refl _) _).setCell (Nat.le_refl _) _⟩

end Go.Proofs.Yteoklmfkofgfmaa.X
