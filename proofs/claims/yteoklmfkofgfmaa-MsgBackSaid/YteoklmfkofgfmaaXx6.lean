-- written by a program of this session's, over the kit's print
import Derived.Test.YteoklmfkofgfmaaXx0
import Derived.Test.YteoklmfkofgfmaaXx3
import Derived.Test.YteoklmfkofgfmaaXx4
import Derived.Test.YteoklmfkofgfmaaXx5
namespace Go.Proofs.Yteoklmfkofgfmaa.X
open Go.RowKit Go.Proofs.YteoklmfkofgfmaaW.PrintWords Go.Proofs.YteoklmfkofgfmaaW.PrintLast Go.Proofs.YteoklmfkofgfmaaW.PrintMore
attribute [local go_sem] max2_int min2_int max_two min_two max_three min_three max_four min_four gtr_str   -- for this text's walks alone
set_option linter.unusedVariables false
set_option linter.unusedSimpArgs false

/-! ### slot_Get: function 48 -/
mutual
def slot_Get.j0 : Nat → Int → Bool → Option (Int × Int × Int × Int × Bool × ByteArray × Int)
 | 0, _, _ => none
 | k + 1, x8, x42 => if x42 = true then (some (x8, 0, 0, 0, false, (⟨#[]⟩ : ByteArray), 0)) else (some (0, 0, 0, 0, false, (⟨#[]⟩ : ByteArray), 2))
def slot_Get.j1 : Nat → Bool → Int → Int → Int → Bool → ByteArray → Option (Int × Int × Int × Int × Bool × ByteArray × Int)
 | 0, _, _, _, _, _, _ => none
 | k + 1, x60, x341000, x341001, x341002, x341003, x341004 => if x60 = true then (some (0, x341000, x341001, x341002, x341003, x341004, 0)) else (some (0, 0, 0, 0, false, (⟨#[]⟩ : ByteArray), 2))
end
def slot_Get.f (k : Nat) (l0 : List Int) : Option (Int × Int × Int × Int × Bool × ByteArray × Int) := (wire_CutNum.f k l0).bind fun bt320 => (if bt320.1 = 1 then ((wire_CutNum.f k bt320.2.1).bind fun bt325 => ((slot_Promise.f bt325.1).bind fun bt330 => (if bt330.2 = 0 then ((slices_Equal_byte_byte.f k bt330.1 l0).bind fun t334 => (slot_Get.j0 k bt325.1 t334)) else (slot_Get.j0 k bt325.1 false)))) else (if bt320.1 = 2 then ((slot_cut.f k bt320.2.1).bind fun bt335 => ((slot_Put.f bt335.1 bt335.2.1 bt335.2.2.1 bt335.2.2.2.1 bt335.2.2.2.2).bind fun bt341 => (if bt341.2 = 0 then ((slices_Equal_byte_byte.f k bt341.1 l0).bind fun t345 => (slot_Get.j1 k t345 bt335.1 bt335.2.1 bt335.2.2.1 bt335.2.2.2.1 bt335.2.2.2.2)) else (slot_Get.j1 k false bt335.1 bt335.2.1 bt335.2.2.1 bt335.2.2.2.1 bt335.2.2.2.2)))) else (some (0, 0, 0, 0, false, (⟨#[]⟩ : ByteArray), 2))))
theorem slot_Get.mono_l : ∀ k, (∀ y0 y1, LeO (slot_Get.j0 k y0 y1) (slot_Get.j0 (k + 1) y0 y1)) ∧ (∀ y0 y1 y2 y3 y4 y5, LeO (slot_Get.j1 k y0 y1 y2 y3 y4 y5) (slot_Get.j1 (k + 1) y0 y1 y2 y3 y4 y5))
 | 0 => ⟨fun _ _ r h => by simp [slot_Get.j0] at h, fun _ _ _ _ _ _ r h => by simp [slot_Get.j1] at h⟩
 | k + 1 => by
  obtain ⟨ih0, ih1⟩ := slot_Get.mono_l k
  refine ⟨?_, ?_⟩
  ·
   intro y0 y1
   unfold slot_Get.j0
   repeat' first
   | (with_reducible exact ih0 _ _)
   | (with_reducible exact ih1 _ _ _ _ _ _)
   | (with_reducible exact slices_Equal_byte_byte.mono _ _ _)
   | (with_reducible exact slot_cut.mono _ _)
   | (with_reducible exact wire_CutNum.mono _ _)
   | (with_reducible exact LeO.refl _)
   | (with_reducible exact LeO.none _)
   | (with_reducible refine LeO.ite ?_ ?_)
   | (with_reducible refine LeO.bind ?_ (fun _ => ?_))
   | exact LeO.none _
   | refine LeO.ite ?_ ?_
   | refine LeO.bind ?_ (fun _ => ?_)
  ·
   intro y0 y1 y2 y3 y4 y5
   unfold slot_Get.j1
   repeat' first
   | (with_reducible exact ih0 _ _)
   | (with_reducible exact ih1 _ _ _ _ _ _)
   | (with_reducible exact slices_Equal_byte_byte.mono _ _ _)
   | (with_reducible exact slot_cut.mono _ _)
   | (with_reducible exact wire_CutNum.mono _ _)
   | (with_reducible exact LeO.refl _)
   | (with_reducible exact LeO.none _)
   | (with_reducible refine LeO.ite ?_ ?_)
   | (with_reducible refine LeO.bind ?_ (fun _ => ?_))
   | exact LeO.none _
   | refine LeO.ite ?_ ?_
   | refine LeO.bind ?_ (fun _ => ?_)
theorem slot_Get.mono : ∀ a0 k, LeO (slot_Get.f k a0) (slot_Get.f (k + 1) a0) := by
 intro a0 k
 obtain ⟨ih0, ih1⟩ := slot_Get.mono_l k
 unfold slot_Get.f
 repeat' first
   | (with_reducible exact ih0 _ _)
   | (with_reducible exact ih1 _ _ _ _ _ _)
   | (with_reducible exact slices_Equal_byte_byte.mono _ _ _)
   | (with_reducible exact slot_cut.mono _ _)
   | (with_reducible exact wire_CutNum.mono _ _)
   | (with_reducible exact LeO.refl _)
   | (with_reducible exact LeO.none _)
   | (with_reducible refine LeO.ite ?_ ?_)
   | (with_reducible refine LeO.bind ?_ (fun _ => ?_))
   | exact LeO.none _
   | refine LeO.ite ?_ ?_
   | refine LeO.bind ?_ (fun _ => ?_)
set_option maxHeartbeats 8000000 in
set_option maxRecDepth 100000 in
theorem slot_Get.calls (k : Nat) (A0 : Option Addr) (c0 : Nat) (l0 : List Int) (r1 : Int) (r2 : Int) (r3 : Int) (r4 : Int) (r5 : Bool) (r6 : ByteArray) (r7 : Int) (w : World) (hr0 : Kd.C (Kd.int .u8) w A0 l0.length l0) (hc0 : l0.length ≤ c0) (h : slot_Get.f k l0 = some (r1, r2, r3, r4, r5, r6, r7)) :
  Calls Try.prog 48 #[.slice A0 l0.length c0] w fun e w' => e = .returned (.tuple #[.int .i64 r1, .agg #[.int .i64 r2, .int .i64 r3, .int .i64 r4, .bool r5, .string r6], .int .i64 r7]) ∧ Below w.heap.size w w' := by
 have hu23 := Try.underlying23
 have HR0 := aS hr0
 have HC0 := aS hc0
 clear hr0 hc0
 have HB := aS (Below.refl w.heap.size w)
 have H : ((wire_CutNum.f k l0).bind fun bt320 => (if bt320.1 = 1 then ((wire_CutNum.f k bt320.2.1).bind fun bt325 => ((slot_Promise.f bt325.1).bind fun bt330 => (if bt330.2 = 0 then ((slices_Equal_byte_byte.f k bt330.1 l0).bind fun t334 => (slot_Get.j0 k bt325.1 t334)) else (slot_Get.j0 k bt325.1 false)))) else (if bt320.1 = 2 then ((slot_cut.f k bt320.2.1).bind fun bt335 => ((slot_Put.f bt335.1 bt335.2.1 bt335.2.2.1 bt335.2.2.2.1 bt335.2.2.2.2).bind fun bt341 => (if bt341.2 = 0 then ((slices_Equal_byte_byte.f k bt341.1 l0).bind fun t345 => (slot_Get.j1 k t345 bt335.1 bt335.2.1 bt335.2.2.1 bt335.2.2.2.1 bt335.2.2.2.2)) else (slot_Get.j1 k false bt335.1 bt335.2.1 bt335.2.2.1 bt335.2.2.2.1 bt335.2.2.2.2)))) else (some (0, 0, 0, 0, false, (⟨#[]⟩ : ByteArray), 2))))) = some (r1, r2, r3, r4, r5, r6, r7) := h
 clear h
 replace H := obm H
 obtain ⟨⟨t320, t321, t322⟩, A20, H⟩ := H
 replace H : (if t320 = 1 then ((wire_CutNum.f k t321).bind fun bt325 => ((slot_Promise.f bt325.1).bind fun bt330 => (if bt330.2 = 0 then ((slices_Equal_byte_byte.f k bt330.1 l0).bind fun t334 => (slot_Get.j0 k bt325.1 t334)) else (slot_Get.j0 k bt325.1 false)))) else (if t320 = 2 then ((slot_cut.f k t321).bind fun bt335 => ((slot_Put.f bt335.1 bt335.2.1 bt335.2.2.1 bt335.2.2.2.1 bt335.2.2.2.2).bind fun bt341 => (if bt341.2 = 0 then ((slices_Equal_byte_byte.f k bt341.1 l0).bind fun t345 => (slot_Get.j1 k t345 bt335.1 bt335.2.1 bt335.2.2.1 bt335.2.2.2.1 bt335.2.2.2.2)) else (slot_Get.j1 k false bt335.1 bt335.2.1 bt335.2.2.1 bt335.2.2.2.1 bt335.2.2.2.2)))) else (some (0, 0, 0, 0, false, (⟨#[]⟩ : ByteArray), 2)))) = some (r1, r2, r3, r4, r5, r6, r7) := H
 have A2 := aS A20
 clear A20
 by_cases c3 : t320 = 1
 ·
  rw [if_pos c3] at H
  obtain ⟨c3b0, c3b1⟩ := eqT c3
  clear c3
  replace H := obm H
  obtain ⟨⟨t325, t326, t327⟩, A40, H⟩ := H
  replace H : ((slot_Promise.f t325).bind fun bt330 => (if bt330.2 = 0 then ((slices_Equal_byte_byte.f k bt330.1 l0).bind fun t334 => (slot_Get.j0 k t325 t334)) else (slot_Get.j0 k t325 false))) = some (r1, r2, r3, r4, r5, r6, r7) := H
  have A4 := aS A40
  clear A40
  replace H := obm H
  obtain ⟨⟨t330, t331⟩, A50, H⟩ := H
  replace H : (if t331 = 0 then ((slices_Equal_byte_byte.f k t330 l0).bind fun t334 => (slot_Get.j0 k t325 t334)) else (slot_Get.j0 k t325 false)) = some (r1, r2, r3, r4, r5, r6, r7) := H
  have A5 := aS A50
  clear A50
  have HC6 := aS H
  clear H
  go_enter Try.func48, Try.ntmps48
  go_upto_region 6 with (first | ((with_reducible refine gate_dst (N := 3) rfl ?_); refine box_event ?hg (N := 3) ?hd (cs := #[.int .i64 0, .int .i64 0, .int .i64 0, .bool false, .string (⟨#[]⟩ : ByteArray)]) (t := 23) ?hr ?_; (case hd => rfl); (case hg => rfl); (case hr => first | (go_simp; done) | (go_simp; rfl)); intro gb319 hg w7 hbox hb; have n0_ := bstep hb; have n1_ := aS (hbox); have n2_ := bsize hg; have n3_ := bsize hg; clear HB; have HB := n0_; have BK319 := n1_; have GW319 := n2_; have GE319 := n3_; clear n0_ n1_ n2_ n3_; clear hb hbox hg) | ((with_reducible refine gate_callee (f := 36) rfl ?_); refine goesL_ (some 18) rfl rfl Try.func36 (by kernel_rfl) rfl #[.slice A0 l0.length c0] rfl agn ?_; (with_reducible refine (wire_CutNum.calls k _ _ l0 t320 t321 t322 _ ?side1 ?side2 A2.out).mono ?_); (case side1 => exact cel (Kd.C_below HR0.out HB.out)); (case side2 => exact HC0.out); rintro e w8 ⟨v323, rfl, ho0, hb⟩; refine ⟨_, rfl, ?_⟩; have n0_ := aS (Kd.R_lower ho0 (below_size bel)); have n1_ := aS (blk_below (g := gb319) (o := .cells #[.int .i64 0, .int .i64 0, .int .i64 0, .bool false, .string (⟨#[]⟩ : ByteArray)] 23 (0, 0)) (bkl BK319.out) hb); have n2_ := bstep hb; clear BK319; clear HB; have HO324 := n0_; have BK319 := n1_; have HB := n2_; clear n0_ n1_ n2_; (try clear hb); (try clear hb2); (try clear hk); (try clear hi); (try clear ho0); obtain ⟨Ao9, co9, eo9⟩ := Kd.R_slice HO324.out; subst eo9) | ((with_reducible refine gate_callee (f := 36) rfl ?_); refine goesL_ (some 27) rfl rfl Try.func36 (by kernel_rfl) rfl #[.slice Ao9 t321.length co9] rfl agn ?_; (with_reducible refine (wire_CutNum.calls k _ _ t321 t325 t326 t327 _ ?side1 ?side2 A4.out).mono ?_); (case side1 => exact cel ((Kd.R_reads' HO324.out).2.2)); (case side2 => exact (Kd.R_reads' HO324.out).2.1); rintro e w10 ⟨v328, rfl, ho0, hb⟩; refine ⟨_, rfl, ?_⟩; have n0_ := aS (Kd.R_elder' (rel HO324.out) (by first | exact Kd.R_base ho0 | exact Kd.S_base ho0 | exact Kd.R_base ho0 | exact Kd.V_base ho0) hb); have n1_ := aS (Kd.R_lower (Kd.R_new' ho0 (Kd.R_lt (rel HO324.out))) (below_size bel)); have n2_ := aS (blk_below (g := gb319) (o := .cells #[.int .i64 0, .int .i64 0, .int .i64 0, .bool false, .string (⟨#[]⟩ : ByteArray)] 23 (0, 0)) (bkl BK319.out) hb); have n3_ := bstep hb; clear HO324; clear BK319; clear HB; have HO324 := n0_; have HO329 := n1_; have BK319 := n2_; have HB := n3_; clear n0_ n1_ n2_ n3_; (try clear hb); (try clear hb2); (try clear hk); (try clear hi); (try clear ho0)) | ((with_reducible refine gate_callee (f := 51) rfl ?_); refine goesL_ (some 33) rfl rfl Try.func51 (by kernel_rfl) rfl #[.int .i64 t325] rfl agn ?_; (with_reducible refine (slot_Promise.calls t325 t330 t331 _ A5.out).mono ?_); rintro e w11 ⟨v332, rfl, ho0, hb⟩; refine ⟨_, rfl, ?_⟩; have n0_ := aS (Kd.R_elder' (rel HO324.out) (by first | exact Kd.R_base ho0 | exact Kd.S_base ho0 | exact Kd.R_base ho0 | exact Kd.V_base ho0) hb); have n1_ := aS (Kd.R_elder' (rel HO329.out) (by first | exact Kd.R_base ho0 | exact Kd.S_base ho0 | exact Kd.R_base ho0 | exact Kd.V_base ho0) hb); have n2_ := aS (Kd.R_lower (Kd.R_new' (Kd.R_new' ho0 (Kd.R_lt (rel HO324.out))) (Kd.R_lt (rel HO329.out))) (below_size bel)); have n3_ := aS (blk_below (g := gb319) (o := .cells #[.int .i64 0, .int .i64 0, .int .i64 0, .bool false, .string (⟨#[]⟩ : ByteArray)] 23 (0, 0)) (bkl BK319.out) hb); have n4_ := bstep hb; clear HO324; clear HO329; clear BK319; clear HB; have HO324 := n0_; have HO329 := n1_; have HO333 := n2_; have BK319 := n3_; have HB := n4_; clear n0_ n1_ n2_ n3_ n4_; (try clear hb); (try clear hb2); (try clear hk); (try clear hi); (try clear ho0)))
  (try simp only [Act.put, lsa, lsz, lss])
  go_cut [42] (fun v42 wc => ∃ (kq : Nat) (x42_5 : Bool), v42 = .bool x42_5 ∧ Aside0 (slot_Get.j0 kq t325 x42_5 = some (r1, r2, r3, r4, r5, r6, r7)) ∧ Aside0 (kq ≤ k) ∧ Aside0 (wc.heap[gb319]? = some (.cells #[.int .i64 0, .int .i64 0, .int .i64 0, .bool false, .string (⟨#[]⟩ : ByteArray)] 23 (0, 0))) ∧ Aside0 (Below w.heap.size w wc))
  case first =>
   have H := HC6.out; clear HC6
   by_cases c12 : t331 = 0
   ·
    rw [if_pos c12] at H
    obtain ⟨c12b0, c12b1⟩ := eqT c12
    clear c12
    (first | rw [c12b0] | (simp only [i64_w, i32_w]; rw [c12b0]) | skip)
    replace H := obm H
    obtain ⟨t334, A130, H⟩ := H
    replace H : (slot_Get.j0 k t325 t334) = some (r1, r2, r3, r4, r5, r6, r7) := H
    have A13 := aS A130
    clear A130
    have H' := aS H
    clear H
    obtain ⟨Ao14, co14, eo14⟩ := Kd.R_slice HO333.out
    subst eo14
    go_wp2_with (first | (go_at_call 41; (with_reducible refine (slices_Equal_byte_byte.calls k _ _ t330 _ _ l0 t334 _ ?side1 ?side2 ?side3 ?side4 A13.out).mono ?_); (case side1 => exact cel ((Kd.R_reads' HO333.out).2.2)); (case side2 => exact (Kd.R_reads' HO333.out).2.1); (case side3 => exact cel (Kd.C_below HR0.out HB.out)); (case side4 => exact HC0.out); rintro e w' ⟨rfl, ⟨nd, rfl⟩⟩))
    go_meet
    case rel => exact ⟨_, (t334), (by first | rfl | (simp; done) | (simp [*]; done) | (simp; exact (by decide : ∀ a_ b_ : Bool, (a_ == b_) = (!a_ != b_)) _ _)), H', ⟨by first | omega | exact Nat.le_refl _⟩, ⟨by (with_reducible repeat (first | refine blk_drewN ?_ _ | refine blk_drew ?_ | refine blk_alloc ?_ _)); exact BK319.out⟩, ⟨bel⟩⟩
   ·
    rw [if_neg c12] at H
    obtain ⟨c12b0, c12b1⟩ := eqF c12
    (first | rw [c12b0] | (simp only [i64_w, i32_w]; rw [c12b0]) | skip)
    have H' := aS H
    clear H
    go_wp2
    go_meet
    case rel => exact ⟨_, (false), (by first | rfl | (simp; done) | (simp [*]; done) | (simp; exact (by decide : ∀ a_ b_ : Bool, (a_ == b_) = (!a_ != b_)) _ _)), H', ⟨by first | omega | exact Nat.le_refl _⟩, ⟨by (with_reducible repeat (first | refine blk_drewN ?_ _ | refine blk_drew ?_ | refine blk_alloc ?_ _)); exact BK319.out⟩, ⟨bel⟩⟩
  case rest =>
   clear HC6; (try clear c1); (try clear p2); (try clear c3); (try clear c3b0); (try clear c3b1); (try clear c4); (try clear c5); (try clear c12); (try clear c12b0); (try clear c12b1)
   obtain ⟨kq, x42_5, rfl, HA, HJ5, BK319, HB⟩ := hcut
   cases kq with
   | zero => exact absurd HA.out (by simp [slot_Get.j0])
   | succ kj5 =>
    have H := HA.out; clear HA
    simp only [slot_Get.j0] at H
    by_cases c15 : x42_5 = true
    ·
     subst c15
     have H1 : (some (t325, 0, 0, 0, false, (⟨#[]⟩ : ByteArray), 0)) = some (r1, r2, r3, r4, r5, r6, r7) := by rw [if_pos rfl] at H; exact H
     clear H; have H := H1; clear H1
     simp only [Option.some.injEq, Prod.mk.injEq] at H
     obtain ⟨rfl, rfl, rfl, rfl, rfl, rfl, rfl⟩ := H
     have hcz16 := cK5 BK319
     go_wp2
     refine bodyPost_ret (results_list (rs := [.tmp 2, .cell 3 23, .tmp 4]) rfl (by simp) (.tmp (.cell gb319 23 #[.int .i64 0, .int .i64 0, .int .i64 0, .bool false, .string (⟨#[]⟩ : ByteArray)] (0, 0) _ rfl (by (with_reducible repeat (first | refine blk_drewN ?_ _ | refine blk_drew ?_ | refine blk_alloc ?_ _)); refine blk_put (cs := #[.int .i64 0, .int .i64 0, .int .i64 0, .bool false, .string (⟨#[]⟩ : ByteArray)]) ?_ 4 _ rfl; (with_reducible repeat (first | refine blk_drewN ?_ _ | refine blk_drew ?_ | refine blk_alloc ?_ _)); refine blk_put (cs := #[.int .i64 0, .int .i64 0, .int .i64 0, .bool false, .string (⟨#[]⟩ : ByteArray)]) ?_ 3 _ rfl; (with_reducible repeat (first | refine blk_drewN ?_ _ | refine blk_drew ?_ | refine blk_alloc ?_ _)); refine blk_put (cs := #[.int .i64 0, .int .i64 0, .int .i64 0, .bool false, .string (⟨#[]⟩ : ByteArray)]) ?_ 2 _ rfl; (with_reducible repeat (first | refine blk_drewN ?_ _ | refine blk_drew ?_ | refine blk_alloc ?_ _)); refine blk_put (cs := #[.int .i64 0, .int .i64 0, .int .i64 0, .bool false, .string (⟨#[]⟩ : ByteArray)]) ?_ 1 _ rfl; (with_reducible repeat (first | refine blk_drewN ?_ _ | refine blk_drew ?_ | refine blk_alloc ?_ _)); refine blk_put (cs := #[.int .i64 0, .int .i64 0, .int .i64 0, .bool false, .string (⟨#[]⟩ : ByteArray)]) ?_ 0 _ rfl; (with_reducible repeat (first | refine blk_drewN ?_ _ | refine blk_drew ?_ | refine blk_alloc ?_ _)); exact BK319.out) Try.underlying23 rfl (by kernel_rfl) (.tmp .nil)))) rfl ?_
     exact ⟨rf3, bel⟩
    ·
     replace c15 := Bool.eq_false_iff.mpr c15
     subst c15
     have H1 : (some (0, 0, 0, 0, false, (⟨#[]⟩ : ByteArray), 2)) = some (r1, r2, r3, r4, r5, r6, r7) := by rw [if_neg (show ¬ (false = true) by decide)] at H; exact H
     clear H; have H := H1; clear H1
     simp only [Option.some.injEq, Prod.mk.injEq] at H
     obtain ⟨rfl, rfl, rfl, rfl, rfl, rfl, rfl⟩ := H
     have hcz17 := cK5 BK319
     go_wp2
     refine bodyPost_ret (results_list (rs := [.tmp 2, .cell 3 23, .tmp 4]) rfl (by simp) (.tmp (.cell gb319 23 #[.int .i64 0, .int .i64 0, .int .i64 0, .bool false, .string (⟨#[]⟩ : ByteArray)] (0, 0) _ rfl (by (with_reducible repeat (first | refine blk_drewN ?_ _ | refine blk_drew ?_ | refine blk_alloc ?_ _)); refine blk_put (cs := #[.int .i64 0, .int .i64 0, .int .i64 0, .bool false, .string (⟨#[]⟩ : ByteArray)]) ?_ 4 _ rfl; (with_reducible repeat (first | refine blk_drewN ?_ _ | refine blk_drew ?_ | refine blk_alloc ?_ _)); refine blk_put (cs := #[.int .i64 0, .int .i64 0, .int .i64 0, .bool false, .string (⟨#[]⟩ : ByteArray)]) ?_ 3 _ rfl; (with_reducible repeat (first | refine blk_drewN ?_ _ | refine blk_drew ?_ | refine blk_alloc ?_ _)); refine blk_put (cs := #[.int .i64 0, .int .i64 0, .int .i64 0, .bool false, .string (⟨#[]⟩ : ByteArray)]) ?_ 2 _ rfl; (with_reducible repeat (first | refine blk_drewN ?_ _ | refine blk_drew ?_ | refine blk_alloc ?_ _)); refine blk_put (cs := #[.int .i64 0, .int .i64 0, .int .i64 0, .bool false, .string (⟨#[]⟩ : ByteArray)]) ?_ 1 _ rfl; (with_reducible repeat (first | refine blk_drewN ?_ _ | refine blk_drew ?_ | refine blk_alloc ?_ _)); refine blk_put (cs := #[.int .i64 0, .int .i64 0, .int .i64 0, .bool false, .string (⟨#[]⟩ : ByteArray)]) ?_ 0 _ rfl; (with_reducible repeat (first | refine blk_drewN ?_ _ | refine blk_drew ?_ | refine blk_alloc ?_ _)); exact BK319.out) Try.underlying23 rfl (by kernel_rfl) (.tmp .nil)))) rfl ?_
     exact ⟨rf3, bel⟩
 ·
  rw [if_neg c3] at H
  obtain ⟨c3b0, c3b1⟩ := eqF c3
  by_cases c18 : t320 = 2
  ·
   rw [if_pos c18] at H
   obtain ⟨c18b0, c18b1⟩ := eqT c18
   clear c18
   replace H := obm H
   obtain ⟨⟨t335, t336, t337, t338, t339⟩, A190, H⟩ := H
   replace H : ((slot_Put.f t335 t336 t337 t338 t339).bind fun bt341 => (if bt341.2 = 0 then ((slices_Equal_byte_byte.f k bt341.1 l0).bind fun t345 => (slot_Get.j1 k t345 t335 t336 t337 t338 t339)) else (slot_Get.j1 k false t335 t336 t337 t338 t339))) = some (r1, r2, r3, r4, r5, r6, r7) := H
   have A19 := aS A190
   clear A190
   replace H := obm H
   obtain ⟨⟨t341, t344⟩, A200, H⟩ := H
   replace H : (if t344 = 0 then ((slices_Equal_byte_byte.f k t341 l0).bind fun t345 => (slot_Get.j1 k t345 t335 t336 t337 t338 t339)) else (slot_Get.j1 k false t335 t336 t337 t338 t339)) = some (r1, r2, r3, r4, r5, r6, r7) := H
   have A20 := aS A200
   clear A200
   have HC21 := aS H
   clear H
   go_enter Try.func48, Try.ntmps48
   go_upto_region 11 with (first | ((with_reducible refine gate_dst (N := 3) rfl ?_); refine box_event ?hg (N := 3) ?hd (cs := #[.int .i64 0, .int .i64 0, .int .i64 0, .bool false, .string (⟨#[]⟩ : ByteArray)]) (t := 23) ?hr ?_; (case hd => rfl); (case hg => rfl); (case hr => first | (go_simp; done) | (go_simp; rfl)); intro gb319 hg w22 hbox hb; have n0_ := bstep hb; have n1_ := aS (hbox); have n2_ := bsize hg; have n3_ := bsize hg; clear HB; have HB := n0_; have BK319 := n1_; have GW319 := n2_; have GE319 := n3_; clear n0_ n1_ n2_ n3_; clear hb hbox hg) | ((with_reducible refine gate_callee (f := 36) rfl ?_); refine goesL_ (some 18) rfl rfl Try.func36 (by kernel_rfl) rfl #[.slice A0 l0.length c0] rfl agn ?_; (with_reducible refine (wire_CutNum.calls k _ _ l0 t320 t321 t322 _ ?side1 ?side2 A2.out).mono ?_); (case side1 => exact cel (Kd.C_below HR0.out HB.out)); (case side2 => exact HC0.out); rintro e w23 ⟨v323, rfl, ho0, hb⟩; refine ⟨_, rfl, ?_⟩; have n0_ := aS (Kd.R_lower ho0 (below_size bel)); have n1_ := aS (blk_below (g := gb319) (o := .cells #[.int .i64 0, .int .i64 0, .int .i64 0, .bool false, .string (⟨#[]⟩ : ByteArray)] 23 (0, 0)) (bkl BK319.out) hb); have n2_ := bstep hb; clear BK319; clear HB; have HO324 := n0_; have BK319 := n1_; have HB := n2_; clear n0_ n1_ n2_; (try clear hb); (try clear hb2); (try clear hk); (try clear hi); (try clear ho0); obtain ⟨Ao24, co24, eo24⟩ := Kd.R_slice HO324.out; subst eo24) | ((with_reducible refine gate_callee (f := 52) rfl ?_); refine goesL_ (some 48) rfl rfl Try.func52 (by kernel_rfl) rfl #[.slice Ao24 t321.length co24] rfl agn ?_; (with_reducible refine (slot_cut.calls k _ _ t321 t335 t336 t337 t338 t339 _ ?side1 ?side2 A19.out).mono ?_); (case side1 => exact cel ((Kd.R_reads' HO324.out).2.2)); (case side2 => exact (Kd.R_reads' HO324.out).2.1); rintro e w25 ⟨rfl, hb⟩; refine ⟨_, rfl, ?_⟩; have n0_ := aS (Kd.R_below (rel HO324.out) hb); have n1_ := aS (blk_below (g := gb319) (o := .cells #[.int .i64 0, .int .i64 0, .int .i64 0, .bool false, .string (⟨#[]⟩ : ByteArray)] 23 (0, 0)) (bkl BK319.out) hb); have n2_ := bstep hb; clear HO324; clear BK319; clear HB; have HO324 := n0_; have BK319 := n1_; have HB := n2_; clear n0_ n1_ n2_; (try clear hb); (try clear hb2); (try clear hk); (try clear hi)) | ((with_reducible refine gate_dst (N := 13) rfl ?_); refine box_event ?hg (N := 13) ?hd (cs := #[.int .i64 0, .int .i64 0, .int .i64 0, .bool false, .string (⟨#[]⟩ : ByteArray)]) (t := 23) ?hr ?_; (case hd => rfl); (case hg => rfl); (case hr => first | (go_simp; done) | (go_simp; rfl)); intro gb340 hg w26 hbox hb; have n0_ := aS (Kd.R_below (rel HO324.out) hb); have n1_ := aS (blk_below (g := gb319) (o := .cells #[.int .i64 0, .int .i64 0, .int .i64 0, .bool false, .string (⟨#[]⟩ : ByteArray)] 23 (0, 0)) (bkl BK319.out) hb); have n2_ := bstep hb; have n3_ := aS (hbox); have n4_ := bsize hg; have n5_ := bsize hg; have n6_ := aS ((by rw [hg]; exact Nat.ne_of_lt (blk_lt (g := gb319) (o := .cells #[.int .i64 0, .int .i64 0, .int .i64 0, .bool false, .string (⟨#[]⟩ : ByteArray)] 23 (0, 0)) (bkl BK319.out)) : gb319 ≠ gb340)); have n7_ := aS ((by rw [hg]; exact Nat.ne_of_gt (blk_lt (g := gb319) (o := .cells #[.int .i64 0, .int .i64 0, .int .i64 0, .bool false, .string (⟨#[]⟩ : ByteArray)] 23 (0, 0)) (bkl BK319.out)) : gb340 ≠ gb319)); clear HO324; clear BK319; clear HB; have HO324 := n0_; have BK319 := n1_; have HB := n2_; have BK340 := n3_; have GW340 := n4_; have GE340 := n5_; have NB319_340 := n6_; have NB340_319 := n7_; clear n0_ n1_ n2_ n3_ n4_ n5_ n6_ n7_; clear hb hbox hg; have hnb27 := NB340_319.out; have hnc27 := NB319_340.out; have hcz28 := cK5 BK340) | ((with_reducible refine gate_callee (f := 18) rfl ?_); refine goesL_ (some 51) rfl rfl Try.func18 (by kernel_rfl) rfl #[.agg #[.int .i64 t335, .int .i64 t336, .int .i64 t337, .bool t338, .string t339]] rfl agn ?_; (with_reducible refine (slot_Put.calls t335 t336 t337 t338 t339 t341 t344 _ A20.out).mono ?_); rintro e w29 ⟨v342, rfl, ho0, hb⟩; refine ⟨_, rfl, ?_⟩; have n0_ := aS (Kd.R_elder' (by (with_reducible repeat (first | apply Kd.R_alloc | apply Kd.R_drewN | apply Kd.R_drew)); exact (Kd.R_mono (Kd.R_far (p := ⟨gb340, 4, none⟩) (Kd.R_far (p := ⟨gb340, 3, none⟩) (Kd.R_far (p := ⟨gb340, 2, none⟩) (Kd.R_far (p := ⟨gb340, 1, none⟩) (Kd.R_far (p := ⟨gb340, 0, none⟩) (Kd.R_types HO324.out BK340.out (by decide)) (fun _ hk => hk.2) (.int .i64 t335)) (fun _ hk => hk.2) (.int .i64 t336)) (fun _ hk => hk.2) (.int .i64 t337)) (fun _ hk => hk.2) (.bool t338)) (fun _ hk => hk.2) (.string t339)) (fun _ h_ => h_.1))) (by first | exact Kd.R_base ho0 | exact Kd.S_base ho0 | exact Kd.R_base ho0 | exact Kd.V_base ho0) hb); have n1_ := aS (Kd.R_lower (Kd.R_new' ho0 (Kd.R_lt (by (with_reducible repeat (first | apply Kd.R_alloc | apply Kd.R_drewN | apply Kd.R_drew)); exact (Kd.R_mono (Kd.R_far (p := ⟨gb340, 4, none⟩) (Kd.R_far (p := ⟨gb340, 3, none⟩) (Kd.R_far (p := ⟨gb340, 2, none⟩) (Kd.R_far (p := ⟨gb340, 1, none⟩) (Kd.R_far (p := ⟨gb340, 0, none⟩) (Kd.R_types HO324.out BK340.out (by decide)) (fun _ hk => hk.2) (.int .i64 t335)) (fun _ hk => hk.2) (.int .i64 t336)) (fun _ hk => hk.2) (.int .i64 t337)) (fun _ hk => hk.2) (.bool t338)) (fun _ hk => hk.2) (.string t339)) (fun _ h_ => h_.1))))) (below_size bel)); have n2_ := aS (blk_below (g := gb319) (o := .cells #[.int .i64 0, .int .i64 0, .int .i64 0, .bool false, .string (⟨#[]⟩ : ByteArray)] 23 (0, 0)) (by (with_reducible repeat (first | refine blk_drewN ?_ _ | refine blk_drew ?_ | refine blk_alloc ?_ _)); refine blk_far ?_ NB319_340.out _; (with_reducible repeat (first | refine blk_drewN ?_ _ | refine blk_drew ?_ | refine blk_alloc ?_ _)); refine blk_far ?_ NB319_340.out _; (with_reducible repeat (first | refine blk_drewN ?_ _ | refine blk_drew ?_ | refine blk_alloc ?_ _)); refine blk_far ?_ NB319_340.out _; (with_reducible repeat (first | refine blk_drewN ?_ _ | refine blk_drew ?_ | refine blk_alloc ?_ _)); refine blk_far ?_ NB319_340.out _; (with_reducible repeat (first | refine blk_drewN ?_ _ | refine blk_drew ?_ | refine blk_alloc ?_ _)); refine blk_far ?_ NB319_340.out _; (with_reducible repeat (first | refine blk_drewN ?_ _ | refine blk_drew ?_ | refine blk_alloc ?_ _)); exact BK319.out) hb); have n3_ := aS (blk_below (g := gb340) (o := .cells #[.int .i64 t335, .int .i64 t336, .int .i64 t337, .bool t338, .string t339] 23 (0, 0)) (by (with_reducible repeat (first | refine blk_drewN ?_ _ | refine blk_drew ?_ | refine blk_alloc ?_ _)); refine blk_put (cs := #[.int .i64 t335, .int .i64 t336, .int .i64 t337, .bool t338, .string (⟨#[]⟩ : ByteArray)]) ?_ 4 _ rfl; (with_reducible repeat (first | refine blk_drewN ?_ _ | refine blk_drew ?_ | refine blk_alloc ?_ _)); refine blk_put (cs := #[.int .i64 t335, .int .i64 t336, .int .i64 t337, .bool false, .string (⟨#[]⟩ : ByteArray)]) ?_ 3 _ rfl; (with_reducible repeat (first | refine blk_drewN ?_ _ | refine blk_drew ?_ | refine blk_alloc ?_ _)); refine blk_put (cs := #[.int .i64 t335, .int .i64 t336, .int .i64 0, .bool false, .string (⟨#[]⟩ : ByteArray)]) ?_ 2 _ rfl; (with_reducible repeat (first | refine blk_drewN ?_ _ | refine blk_drew ?_ | refine blk_alloc ?_ _)); refine blk_put (cs := #[.int .i64 t335, .int .i64 0, .int .i64 0, .bool false, .string (⟨#[]⟩ : ByteArray)]) ?_ 1 _ rfl; (with_reducible repeat (first | refine blk_drewN ?_ _ | refine blk_drew ?_ | refine blk_alloc ?_ _)); refine blk_put (cs := #[.int .i64 0, .int .i64 0, .int .i64 0, .bool false, .string (⟨#[]⟩ : ByteArray)]) ?_ 0 _ rfl; (with_reducible repeat (first | refine blk_drewN ?_ _ | refine blk_drew ?_ | refine blk_alloc ?_ _)); exact BK340.out) hb); have n4_ := bstep hb; clear HO324; clear BK319; clear BK340; clear HB; have HO324 := n0_; have HO343 := n1_; have BK319 := n2_; have BK340 := n3_; have HB := n4_; clear n0_ n1_ n2_ n3_ n4_; (try clear hb); (try clear hb2); (try clear hk); (try clear hi); (try clear ho0)))
   (try simp only [Act.put, lsa, lsz, lss])
   go_cut [60] (fun v60 wc => ∃ (kq : Nat) (x60_20 : Bool), v60 = .bool x60_20 ∧ Aside0 (slot_Get.j1 kq x60_20 t335 t336 t337 t338 t339 = some (r1, r2, r3, r4, r5, r6, r7)) ∧ Aside0 (kq ≤ k) ∧ Aside0 (wc.heap[gb319]? = some (.cells #[.int .i64 0, .int .i64 0, .int .i64 0, .bool false, .string (⟨#[]⟩ : ByteArray)] 23 (0, 0))) ∧ Aside0 (wc.heap[gb340]? = some (.cells #[.int .i64 t335, .int .i64 t336, .int .i64 t337, .bool t338, .string t339] 23 (0, 0))) ∧ Aside0 (Below w.heap.size w wc))
   case first =>
    have H := HC21.out; clear HC21
    by_cases c30 : t344 = 0
    ·
     rw [if_pos c30] at H
     obtain ⟨c30b0, c30b1⟩ := eqT c30
     clear c30
     (first | rw [c30b0] | (simp only [i64_w, i32_w]; rw [c30b0]) | skip)
     replace H := obm H
     obtain ⟨t345, A310, H⟩ := H
     replace H : (slot_Get.j1 k t345 t335 t336 t337 t338 t339) = some (r1, r2, r3, r4, r5, r6, r7) := H
     have A31 := aS A310
     clear A310
     have H' := aS H
     clear H
     obtain ⟨Ao32, co32, eo32⟩ := Kd.R_slice HO343.out
     subst eo32
     go_wp2_with (first | (go_at_call 41; (with_reducible refine (slices_Equal_byte_byte.calls k _ _ t341 _ _ l0 t345 _ ?side1 ?side2 ?side3 ?side4 A31.out).mono ?_); (case side1 => exact cel ((Kd.R_reads' HO343.out).2.2)); (case side2 => exact (Kd.R_reads' HO343.out).2.1); (case side3 => exact cel (Kd.C_below HR0.out HB.out)); (case side4 => exact HC0.out); rintro e w' ⟨rfl, ⟨nd, rfl⟩⟩))
     go_meet
     case rel => exact ⟨_, (t345), (by first | rfl | (simp; done) | (simp [*]; done) | (simp; exact (by decide : ∀ a_ b_ : Bool, (a_ == b_) = (!a_ != b_)) _ _)), H', ⟨by first | omega | exact Nat.le_refl _⟩, ⟨by (with_reducible repeat (first | refine blk_drewN ?_ _ | refine blk_drew ?_ | refine blk_alloc ?_ _)); exact BK319.out⟩, ⟨by (with_reducible repeat (first | refine blk_drewN ?_ _ | refine blk_drew ?_ | refine blk_alloc ?_ _)); exact BK340.out⟩, ⟨bel⟩⟩
    ·
     rw [if_neg c30] at H
     obtain ⟨c30b0, c30b1⟩ := eqF c30
     (first | rw [c30b0] | (simp only [i64_w, i32_w]; rw [c30b0]) | skip)
     have H' := aS H
     clear H
     go_wp2
     go_meet
     case rel => exact ⟨_, (false), (by first | rfl | (simp; done) | (simp [*]; done) | (simp; exact (by decide : ∀ a_ b_ : Bool, (a_ == b_) = (!a_ != b_)) _ _)), H', ⟨by first | omega | exact Nat.le_refl _⟩, ⟨by (with_reducible repeat (first | refine blk_drewN ?_ _ | refine blk_drew ?_ | refine blk_alloc ?_ _)); exact BK319.out⟩, ⟨by (with_reducible repeat (first | refine blk_drewN ?_ _ | refine blk_drew ?_ | refine blk_alloc ?_ _)); exact BK340.out⟩, ⟨bel⟩⟩
   case rest =>
    clear HC21; (try clear c1); (try clear c2); (try clear p2); (try clear c3); (try clear c3b0); (try clear c3b1); (try clear c4); (try clear c5); (try clear c12); (try clear c12b0); (try clear c12b1); (try clear c15); (try clear c18); (try clear c18b0); (try clear c18b1); (try clear c27); (try clear c30); (try clear c30b0); (try clear c30b1); (try clear hcz16); (try clear hcz17); (try clear hcz28)
    obtain ⟨kq, x60_20, rfl, HA, HJ20, BK319, BK340, HB⟩ := hcut
    cases kq with
    | zero => exact absurd HA.out (by simp [slot_Get.j1])
    | succ kj20 =>
     have H := HA.out; clear HA
     simp only [slot_Get.j1] at H
     by_cases c33 : x60_20 = true
     ·
      subst c33
      have H1 : (some (0, t335, t336, t337, t338, t339, 0)) = some (r1, r2, r3, r4, r5, r6, r7) := by rw [if_pos rfl] at H; exact H
      clear H; have H := H1; clear H1
      simp only [Option.some.injEq, Prod.mk.injEq] at H
      obtain ⟨rfl, rfl, rfl, rfl, rfl, rfl, rfl⟩ := H
      try go_wp2
      have n0_ := aS (blk_drew BK319.out)
      have n1_ := aS (blk_drew BK340.out)
      have n2_ := aS (bdo HB.out)
      clear BK319; clear BK340; clear HB
      have BK319 := n0_
      have BK340 := n1_
      have HB := n2_
      clear n0_ n1_ n2_
      refine start_ (n := 4) (S := fun w' => w'.cell? ⟨gb340, 0, none⟩ = some (.int .i64 t335) ∧ w'.cell? ⟨gb340, 1, none⟩ = some (.int .i64 t336) ∧ w'.cell? ⟨gb340, 2, none⟩ = some (.int .i64 t337) ∧ w'.cell? ⟨gb340, 3, none⟩ = some (.bool t338) ∧ w'.cell? ⟨gb340, 4, none⟩ = some (.string t339)) (ds := []) #[false, false, false, false] (by kernel_rfl) rfl rfl ⟨(blk_cell BK340.out 0).trans rfl, (blk_cell BK340.out 1).trans rfl, (blk_cell BK340.out 2).trans rfl, (blk_cell BK340.out 3).trans rfl, (blk_cell BK340.out 4).trans rfl⟩ (fun hHeld => ?_)
      generalize wc.drew = w34 at BK319 BK340 HB hHeld ⊢
      refine pure_ (i := 1) (N := some 2) (v := ?_) (a' := ?_) #[false, true, false, false] rfl rfl (by kernel_rfl) (fun _ _ _ h => h) (Or.inl ⟨by rfl, ?_⟩) ?_ ?_
      rotate_left
      ·
       intro w'
       go_simp
       with_reducible rfl
      rotate_left
      ·
       simp only [Act.put, lsa, lsz, lss, i64_w, i32_w]
       rfl
      refine take_ (i := 0) (N := some 61) (v := ?_) (a' := ?_) #[true, true, false, false] rfl rfl (by kernel_rfl) (fun _ _ _ h => h) (Or.inl ⟨by rfl, ?_⟩) hHeld ?_ ?_
      rotate_left
      ·
       rintro w' ⟨s0, s1, s2, s3, s4⟩
       go_simp
       with_reducible rfl
      rotate_left
      ·
       simp only [Act.put, lsa, lsz, lss, i64_w, i32_w]
       rfl
      refine one_ (i := 2) (N := none) #[true, true, true, false] rfl rfl (by kernel_rfl) (by decide) (fun K hK => ?_)
      have hs35 : w34.cell? ⟨gb319, 0, none⟩ = some (.int .i64 0) := (blk_cell BK319.out 0).trans rfl
      have hfs35 := blk_frozen BK319.out 0
      have hns35_1 := NB340_319.out; have hms35_1 := NB319_340.out
      have hs36 : w34.cell? ⟨gb319, 1, none⟩ = some (.int .i64 0) := (blk_cell BK319.out 1).trans rfl
      have hfs36 := blk_frozen BK319.out 1
      have hns36_1 := NB340_319.out; have hms36_1 := NB319_340.out
      have hs37 : w34.cell? ⟨gb319, 2, none⟩ = some (.int .i64 0) := (blk_cell BK319.out 2).trans rfl
      have hfs37 := blk_frozen BK319.out 2
      have hns37_1 := NB340_319.out; have hms37_1 := NB319_340.out
      have hs38 : w34.cell? ⟨gb319, 3, none⟩ = some (.bool false) := (blk_cell BK319.out 3).trans rfl
      have hfs38 := blk_frozen BK319.out 3
      have hns38_1 := NB340_319.out; have hms38_1 := NB319_340.out
      have hs39 : w34.cell? ⟨gb319, 4, none⟩ = some (.string (⟨#[]⟩ : ByteArray)) := (blk_cell BK319.out 4).trans rfl
      have hfs39 := blk_frozen BK319.out 4
      have hns39_1 := NB340_319.out; have hms39_1 := NB319_340.out
      refine skip_ (w1 := ?_) (by rfl) rfl ?_ ?_
      rotate_left
      ·
       go_simp
       rfl
      refine hK.out _ _ ⟨((cell_far (p := ⟨gb319, _, none⟩) NB340_319.out _).trans (((cell_far (p := ⟨gb319, _, none⟩) NB340_319.out _).trans (((cell_far (p := ⟨gb319, _, none⟩) NB340_319.out _).trans (((cell_far (p := ⟨gb319, _, none⟩) NB340_319.out _).trans (((cell_far (p := ⟨gb319, _, none⟩) NB340_319.out _).trans (hHeld.1)))))))))), ((cell_far (p := ⟨gb319, _, none⟩) NB340_319.out _).trans (((cell_far (p := ⟨gb319, _, none⟩) NB340_319.out _).trans (((cell_far (p := ⟨gb319, _, none⟩) NB340_319.out _).trans (((cell_far (p := ⟨gb319, _, none⟩) NB340_319.out _).trans (((cell_far (p := ⟨gb319, _, none⟩) NB340_319.out _).trans (hHeld.2.1)))))))))), ((cell_far (p := ⟨gb319, _, none⟩) NB340_319.out _).trans (((cell_far (p := ⟨gb319, _, none⟩) NB340_319.out _).trans (((cell_far (p := ⟨gb319, _, none⟩) NB340_319.out _).trans (((cell_far (p := ⟨gb319, _, none⟩) NB340_319.out _).trans (((cell_far (p := ⟨gb319, _, none⟩) NB340_319.out _).trans (hHeld.2.2.1)))))))))), ((cell_far (p := ⟨gb319, _, none⟩) NB340_319.out _).trans (((cell_far (p := ⟨gb319, _, none⟩) NB340_319.out _).trans (((cell_far (p := ⟨gb319, _, none⟩) NB340_319.out _).trans (((cell_far (p := ⟨gb319, _, none⟩) NB340_319.out _).trans (((cell_far (p := ⟨gb319, _, none⟩) NB340_319.out _).trans (hHeld.2.2.2.1)))))))))), ((cell_far (p := ⟨gb319, _, none⟩) NB340_319.out _).trans (((cell_far (p := ⟨gb319, _, none⟩) NB340_319.out _).trans (((cell_far (p := ⟨gb319, _, none⟩) NB340_319.out _).trans (((cell_far (p := ⟨gb319, _, none⟩) NB340_319.out _).trans (((cell_far (p := ⟨gb319, _, none⟩) NB340_319.out _).trans (hHeld.2.2.2.2))))))))))⟩ (fun hHeld => ?_)
      clear hK K
      refine pure_ (i := 3) (N := some 4) (v := ?_) (a' := ?_) #[true, true, true, true] rfl rfl (by kernel_rfl) (fun _ _ _ h => h) (Or.inl ⟨by rfl, ?_⟩) ?_ ?_
      rotate_left
      ·
       intro w'
       go_simp
       with_reducible rfl
      rotate_left
      ·
       simp only [Act.put, lsa, lsz, lss, i64_w, i32_w]
       rfl
      refine done_ (by kernel_rfl) ?_
      try go_wp2
      refine bodyPost_ret (results_list (rs := [.tmp 2, .cell 3 23, .tmp 4]) rfl (by simp) (.tmp (.cell gb319 23 #[.int .i64 t335, .int .i64 t336, .int .i64 t337, .bool t338, .string t339] (0, 0) _ rfl (by (with_reducible repeat (first | refine blk_drewN ?_ _ | refine blk_drew ?_ | refine blk_alloc ?_ _)); refine blk_put (cs := #[.int .i64 t335, .int .i64 t336, .int .i64 t337, .bool t338, .string (⟨#[]⟩ : ByteArray)]) ?_ 4 _ rfl; (with_reducible repeat (first | refine blk_drewN ?_ _ | refine blk_drew ?_ | refine blk_alloc ?_ _)); refine blk_put (cs := #[.int .i64 t335, .int .i64 t336, .int .i64 t337, .bool false, .string (⟨#[]⟩ : ByteArray)]) ?_ 3 _ rfl; (with_reducible repeat (first | refine blk_drewN ?_ _ | refine blk_drew ?_ | refine blk_alloc ?_ _)); refine blk_put (cs := #[.int .i64 t335, .int .i64 t336, .int .i64 0, .bool false, .string (⟨#[]⟩ : ByteArray)]) ?_ 2 _ rfl; (with_reducible repeat (first | refine blk_drewN ?_ _ | refine blk_drew ?_ | refine blk_alloc ?_ _)); refine blk_put (cs := #[.int .i64 t335, .int .i64 0, .int .i64 0, .bool false, .string (⟨#[]⟩ : ByteArray)]) ?_ 1 _ rfl; (with_reducible repeat (first | refine blk_drewN ?_ _ | refine blk_drew ?_ | refine blk_alloc ?_ _)); refine blk_put (cs := #[.int .i64 0, .int .i64 0, .int .i64 0, .bool false, .string (⟨#[]⟩ : ByteArray)]) ?_ 0 _ rfl; (with_reducible repeat (first | refine blk_drewN ?_ _ | refine blk_drew ?_ | refine blk_alloc ?_ _)); exact BK319.out) Try.underlying23 rfl (by kernel_rfl) (.tmp .nil)))) rfl ?_
      exact ⟨rf3, bel⟩
     ·
      replace c33 := Bool.eq_false_iff.mpr c33
      subst c33
      have H1 : (some (0, 0, 0, 0, false, (⟨#[]⟩ : ByteArray), 2)) = some (r1, r2, r3, r4, r5, r6, r7) := by rw [if_neg (show ¬ (false = true) by decide)] at H; exact H
      clear H; have H := H1; clear H1
      simp only [Option.some.injEq, Prod.mk.injEq] at H
      obtain ⟨rfl, rfl, rfl, rfl, rfl, rfl, rfl⟩ := H
      have hnb40 := NB319_340.out; have hnc40 := NB340_319.out
      have hcz41 := cK5 BK319
      go_wp2
      refine bodyPost_ret (results_list (rs := [.tmp 2, .cell 3 23, .tmp 4]) rfl (by simp) (.tmp (.cell gb319 23 #[.int .i64 0, .int .i64 0, .int .i64 0, .bool false, .string (⟨#[]⟩ : ByteArray)] (0, 0) _ rfl (by (with_reducible repeat (first | refine blk_drewN ?_ _ | refine blk_drew ?_ | refine blk_alloc ?_ _)); refine blk_put (cs := #[.int .i64 0, .int .i64 0, .int .i64 0, .bool false, .string (⟨#[]⟩ : ByteArray)]) ?_ 4 _ rfl; (with_reducible repeat (first | refine blk_drewN ?_ _ | refine blk_drew ?_ | refine blk_alloc ?_ _)); refine blk_put (cs := #[.int .i64 0, .int .i64 0, .int .i64 0, .bool false, .string (⟨#[]⟩ : ByteArray)]) ?_ 3 _ rfl; (with_reducible repeat (first | refine blk_drewN ?_ _ | refine blk_drew ?_ | refine blk_alloc ?_ _)); refine blk_put (cs := #[.int .i64 0, .int .i64 0, .int .i64 0, .bool false, .string (⟨#[]⟩ : ByteArray)]) ?_ 2 _ rfl; (with_reducible repeat (first | refine blk_drewN ?_ _ | refine blk_drew ?_ | refine blk_alloc ?_ _)); refine blk_put (cs := #[.int .i64 0, .int .i64 0, .int .i64 0, .bool false, .string (⟨#[]⟩ : ByteArray)]) ?_ 1 _ rfl; (with_reducible repeat (first | refine blk_drewN ?_ _ | refine blk_drew ?_ | refine blk_alloc ?_ _)); refine blk_put (cs := #[.int .i64 0, .int .i64 0, .int .i64 0, .bool false, .string (⟨#[]⟩ : ByteArray)]) ?_ 0 _ rfl; (with_reducible repeat (first | refine blk_drewN ?_ _ | refine blk_drew ?_ | refine blk_alloc ?_ _)); exact BK319.out) Try.underlying23 rfl (by kernel_rfl) (.tmp .nil)))) rfl ?_
      exact ⟨rf3, bel⟩
  ·
   rw [if_neg c18] at H
   obtain ⟨c18b0, c18b1⟩ := eqF c18
   simp only [Option.some.injEq, Prod.mk.injEq] at H
   obtain ⟨rfl, rfl, rfl, rfl, rfl, rfl, rfl⟩ := H
   go_enter Try.func48, Try.ntmps48
   go_wp2_with (first | ((with_reducible refine gate_dst (N := 3) rfl ?_); refine box_event ?hg (N := 3) ?hd (cs := #[.int .i64 0, .int .i64 0, .int .i64 0, .bool false, .string (⟨#[]⟩ : ByteArray)]) (t := 23) ?hr ?_; (case hd => rfl); (case hg => rfl); (case hr => first | (go_simp; done) | (go_simp; rfl)); intro gb319 hg w42 hbox hb; have n0_ := bstep hb; have n1_ := aS (hbox); have n2_ := bsize hg; have n3_ := bsize hg; clear HB; have HB := n0_; have BK319 := n1_; have GW319 := n2_; have GE319 := n3_; clear n0_ n1_ n2_ n3_; clear hb hbox hg) | ((with_reducible refine gate_callee (f := 36) rfl ?_); refine goesL_ (some 18) rfl rfl Try.func36 (by kernel_rfl) rfl #[.slice A0 l0.length c0] rfl agn ?_; (with_reducible refine (wire_CutNum.calls k _ _ l0 t320 t321 t322 _ ?side1 ?side2 A2.out).mono ?_); (case side1 => exact cel (Kd.C_below HR0.out HB.out)); (case side2 => exact HC0.out); rintro e w43 ⟨v323, rfl, ho0, hb⟩; refine ⟨_, rfl, ?_⟩; have n0_ := aS (Kd.R_lower ho0 (below_size bel)); have n1_ := aS (blk_below (g := gb319) (o := .cells #[.int .i64 0, .int .i64 0, .int .i64 0, .bool false, .string (⟨#[]⟩ : ByteArray)] 23 (0, 0)) (bkl BK319.out) hb); have n2_ := bstep hb; clear BK319; clear HB; have HO324 := n0_; have BK319 := n1_; have HB := n2_; clear n0_ n1_ n2_; (try clear hb); (try clear hb2); (try clear hk); (try clear hi); (try clear ho0); have hcz44 := cK5 BK319))
   refine bodyPost_ret (results_list (rs := [.tmp 2, .cell 3 23, .tmp 4]) rfl (by simp) (.tmp (.cell gb319 23 #[.int .i64 0, .int .i64 0, .int .i64 0, .bool false, .string (⟨#[]⟩ : ByteArray)] (0, 0) _ rfl (by (with_reducible repeat (first | refine blk_drewN ?_ _ | refine blk_drew ?_ | refine blk_alloc ?_ _)); refine blk_put (cs := #[.int .i64 0, .int .i64 0, .int .i64 0, .bool false, .string (⟨#[]⟩ : ByteArray)]) ?_ 4 _ rfl; (with_reducible repeat (first | refine blk_drewN ?_ _ | refine blk_drew ?_ | refine blk_alloc ?_ _)); refine blk_put (cs := #[.int .i64 0, .int .i64 0, .int .i64 0, .bool false, .string (⟨#[]⟩ : ByteArray)]) ?_ 3 _ rfl; (with_reducible repeat (first | refine blk_drewN ?_ _ | refine blk_drew ?_ | refine blk_alloc ?_ _)); refine blk_put (cs := #[.int .i64 0, .int .i64 0, .int .i64 0, .bool false, .string (⟨#[]⟩ : ByteArray)]) ?_ 2 _ rfl; (with_reducible repeat (first | refine blk_drewN ?_ _ | refine blk_drew ?_ | refine blk_alloc ?_ _)); refine blk_put (cs := #[.int .i64 0, .int .i64 0, .int .i64 0, .bool false, .string (⟨#[]⟩ : ByteArray)]) ?_ 1 _ rfl; (with_reducible repeat (first | refine blk_drewN ?_ _ | refine blk_drew ?_ | refine blk_alloc ?_ _)); refine blk_put (cs := #[.int .i64 0, .int .i64 0, .int .i64 0, .bool false, .string (⟨#[]⟩ : ByteArray)]) ?_ 0 _ rfl; (with_reducible repeat (first | refine blk_drewN ?_ _ | refine blk_drew ?_ | refine blk_alloc ?_ _)); exact BK319.out) Try.underlying23 rfl (by kernel_rfl) (.tmp .nil)))) rfl ?_
   exact ⟨rf3, bel⟩

/-! ### msg_vote: function 39 -/
def msg_vote.f (k : Nat) (a0 : ByteArray) : Option (Int × Int × Int × Bool × ByteArray) := if a0.size ≤ 9223372036854775807 then ((slot_Get.f k (bytesOf a0)).bind fun bt350 => (some (bt350.2.1, bt350.2.2.1, bt350.2.2.2.1, bt350.2.2.2.2.1, bt350.2.2.2.2.2.1))) else (none)
theorem msg_vote.mono : ∀ a0 k, LeO (msg_vote.f k a0) (msg_vote.f (k + 1) a0) := by
 intro a0 k
 unfold msg_vote.f
 repeat' first
   | (with_reducible exact slot_Get.mono _ _)
   | (with_reducible exact LeO.refl _)
   | (with_reducible exact LeO.none _)
   | (with_reducible refine LeO.ite ?_ ?_)
   | (with_reducible refine LeO.bind ?_ (fun _ => ?_))
   | exact LeO.none _
   | refine LeO.ite ?_ ?_
   | refine LeO.bind ?_ (fun _ => ?_)
set_option maxHeartbeats 8000000 in
set_option maxRecDepth 100000 in
theorem msg_vote.calls (k : Nat) (a0 : ByteArray) (r1 : Int) (r2 : Int) (r3 : Int) (r4 : Bool) (r5 : ByteArray) (w : World) (h : msg_vote.f k a0 = some (r1, r2, r3, r4, r5)) :
  Calls Try.prog 39 #[.string a0] w fun e w' => e = .returned (.agg #[.int .i64 r1, .int .i64 r2, .int .i64 r3, .bool r4, .string r5]) ∧ Below w.heap.size w w' := by
 have hu23 := Try.underlying23
 have HB := aS (Below.refl w.heap.size w)
 have H : (if a0.size ≤ 9223372036854775807 then ((slot_Get.f k (bytesOf a0)).bind fun bt350 => (some (bt350.2.1, bt350.2.2.1, bt350.2.2.2.1, bt350.2.2.2.2.1, bt350.2.2.2.2.2.1))) else (none)) = some (r1, r2, r3, r4, r5) := h
 clear h
 by_cases c2 : a0.size ≤ 9223372036854775807
 ·
  rw [if_pos c2] at H
  have c2b0 := eq_true c2
  have c2b1 : decide (a0.size ≤ 9223372036854775807) = true := decide_eq_true c2
  try have c2b2 : (9223372036854775807 < a0.size) = False := eq_false (Nat.not_lt.2 c2)
  clear c2
  obtain ⟨y347, hy347⟩ : ∃ y_ : List Int, y_ = (bytesOf a0) := ⟨_, rfl⟩
  replace H : ((slot_Get.f k y347).bind fun bt350 => (some (bt350.2.1, bt350.2.2.1, bt350.2.2.2.1, bt350.2.2.2.2.1, bt350.2.2.2.2.2.1))) = some (r1, r2, r3, r4, r5) := by first | (rw [hy347]; with_reducible exact H) | (have H2_ := (Option.bind_some _ _).symm.trans H; rw [hy347]; with_reducible exact H2_) | (have H2_ := (Option.bind_some _ _).symm.trans H; with_reducible exact H2_) | with_reducible exact H | (rw [hy347]; exact H) | exact H
  have Ny347 := aS hy347
  clear hy347
  replace H := obm H
  obtain ⟨⟨t350, t351, t352, t353, t354, t355, t356⟩, A30, H⟩ := H
  replace H : (some (t351, t352, t353, t354, t355)) = some (r1, r2, r3, r4, r5) := H
  have A3 := aS A30
  clear A30
  simp only [Option.some.injEq, Prod.mk.injEq] at H
  obtain ⟨rfl, rfl, rfl, rfl, rfl⟩ := H
  go_enter Try.func39, Try.ntmps39
  go_wp2_with (first | ((with_reducible refine gate_dst (N := 2) rfl ?_); refine box_event ?hg (N := 2) ?hd (cs := #[.int .i64 0, .int .i64 0, .int .i64 0, .bool false, .string (⟨#[]⟩ : ByteArray)]) (t := 23) ?hr ?_; (case hd => rfl); (case hg => rfl); (case hr => first | (go_simp; done) | (go_simp; rfl)); intro gb346 hg w4 hbox hb; have n0_ := bstep hb; have n1_ := aS (hbox); have n2_ := bsize hg; have n3_ := bsize hg; clear HB; have HB := n0_; have BK346 := n1_; have GW346 := n2_; have GE346 := n3_; clear n0_ n1_ n2_ n3_; clear hb hbox hg) | ((with_reducible refine gate_dst (N := 8) rfl ?_); refine Kd.V_bytes rfl (N := 8) rfl 9 29 5 _ a0 rfl rfl Try.underlying9 Try.underlying29 Try.underlying5 (odt (by first | (with_reducible assumption) | assumption)) ?_; intro v348 w5 ho6 hb; rw [← Ny347.out] at ho6; have n0_ := aS (Kd.V_lower (Kd.V_mono (ok' := fun k_ => k_ ≠ gb346) ho6 (fun k_ hk_ => (Kd.freshB (g := gb346) (o := .cells #[.int .i64 0, .int .i64 0, .int .i64 0, .bool false, .string (⟨#[]⟩ : ByteArray)] 23 (0, 0)) (bkl BK346.out) k_ hk_))) (below_size bel)); have n1_ := aS (blk_below (g := gb346) (o := .cells #[.int .i64 0, .int .i64 0, .int .i64 0, .bool false, .string (⟨#[]⟩ : ByteArray)] 23 (0, 0)) (bkl BK346.out) hb); have n2_ := bstep hb; clear BK346; clear HB; have HO349 := n0_; have BK346 := n1_; have HB := n2_; clear n0_ n1_ n2_; clear hb ho6; obtain ⟨Ao7, co7, eo7⟩ := Kd.V_slice HO349.out; subst eo7) | ((with_reducible refine gate_callee (f := 48) rfl ?_); refine goesL_ (some 9) rfl rfl Try.func48 (by kernel_rfl) rfl #[.slice Ao7 y347.length co7] rfl agn ?_; (with_reducible refine (slot_Get.calls k _ _ y347 t350 t351 t352 t353 t354 t355 t356 _ ?side1 ?side2 A3.out).mono ?_); (case side1 => exact cel ((Kd.V_reads' HO349.out).2.2)); (case side2 => exact (Kd.V_reads' HO349.out).2.1); rintro e w8 ⟨rfl, hb⟩; refine ⟨_, rfl, ?_⟩; have n0_ := aS (Kd.V_below (sel HO349.out) hb); have n1_ := aS (blk_below (g := gb346) (o := .cells #[.int .i64 0, .int .i64 0, .int .i64 0, .bool false, .string (⟨#[]⟩ : ByteArray)] 23 (0, 0)) (bkl BK346.out) hb); have n2_ := bstep hb; clear HO349; clear BK346; clear HB; have HO349 := n0_; have BK346 := n1_; have HB := n2_; clear n0_ n1_ n2_; (try clear hb); (try clear hb2); (try clear hk); (try clear hi)) | ((with_reducible refine gate_dst (N := 4) rfl ?_); refine box_event ?hg (N := 4) ?hd (cs := #[.int .i64 0, .int .i64 0, .int .i64 0, .bool false, .string (⟨#[]⟩ : ByteArray)]) (t := 23) ?hr ?_; (case hd => rfl); (case hg => rfl); (case hr => first | (go_simp; done) | (go_simp; rfl)); intro gb357 hg w9 hbox hb; have n0_ := aS (Kd.V_below (Kd.V_elderB (sel HO349.out) gb357 (Nat.le_of_eq hg.symm)) hb); have n1_ := aS (blk_below (g := gb346) (o := .cells #[.int .i64 0, .int .i64 0, .int .i64 0, .bool false, .string (⟨#[]⟩ : ByteArray)] 23 (0, 0)) (bkl BK346.out) hb); have n2_ := bstep hb; have n3_ := aS (hbox); have n4_ := bsize hg; have n5_ := bsize hg; have n6_ := aS ((by rw [hg]; exact Nat.ne_of_lt (blk_lt (g := gb346) (o := .cells #[.int .i64 0, .int .i64 0, .int .i64 0, .bool false, .string (⟨#[]⟩ : ByteArray)] 23 (0, 0)) (bkl BK346.out)) : gb346 ≠ gb357)); have n7_ := aS ((by rw [hg]; exact Nat.ne_of_gt (blk_lt (g := gb346) (o := .cells #[.int .i64 0, .int .i64 0, .int .i64 0, .bool false, .string (⟨#[]⟩ : ByteArray)] 23 (0, 0)) (bkl BK346.out)) : gb357 ≠ gb346)); clear HO349; clear BK346; clear HB; have HO349 := n0_; have BK346 := n1_; have HB := n2_; have BK357 := n3_; have GW357 := n4_; have GE357 := n5_; have NB346_357 := n6_; have NB357_346 := n7_; clear n0_ n1_ n2_ n3_ n4_ n5_ n6_ n7_; clear hb hbox hg; have hnb10 := NB357_346.out; have hnc10 := NB346_357.out; have hcz11 := cK5 BK357; have hcz12 := cK5 BK346))
  refine bodyPost_ret (results_cell_row rfl _ _ gb346 23 #[.int .i64 t351, .int .i64 t352, .int .i64 t353, .bool t354, .string t355] (0, 0) _ rfl (by (with_reducible repeat (first | refine blk_drewN ?_ _ | refine blk_drew ?_ | refine blk_alloc ?_ _)); refine blk_put (cs := #[.int .i64 t351, .int .i64 t352, .int .i64 t353, .bool t354, .string (⟨#[]⟩ : ByteArray)]) ?_ 4 _ rfl; (with_reducible repeat (first | refine blk_drewN ?_ _ | refine blk_drew ?_ | refine blk_alloc ?_ _)); refine blk_put (cs := #[.int .i64 t351, .int .i64 t352, .int .i64 t353, .bool false, .string (⟨#[]⟩ : ByteArray)]) ?_ 3 _ rfl; (with_reducible repeat (first | refine blk_drewN ?_ _ | refine blk_drew ?_ | refine blk_alloc ?_ _)); refine blk_put (cs := #[.int .i64 t351, .int .i64 t352, .int .i64 0, .bool false, .string (⟨#[]⟩ : ByteArray)]) ?_ 2 _ rfl; (with_reducible repeat (first | refine blk_drewN ?_ _ | refine blk_drew ?_ | refine blk_alloc ?_ _)); refine blk_put (cs := #[.int .i64 t351, .int .i64 0, .int .i64 0, .bool false, .string (⟨#[]⟩ : ByteArray)]) ?_ 1 _ rfl; (with_reducible repeat (first | refine blk_drewN ?_ _ | refine blk_drew ?_ | refine blk_alloc ?_ _)); refine blk_put (cs := #[.int .i64 0, .int .i64 0, .int .i64 0, .bool false, .string (⟨#[]⟩ : ByteArray)]) ?_ 0 _ rfl; (with_reducible repeat (first | refine blk_drewN ?_ _ | refine blk_drew ?_ | refine blk_alloc ?_ _)); refine blk_far ?_ NB346_357.out _; (with_reducible repeat (first | refine blk_drewN ?_ _ | refine blk_drew ?_ | refine blk_alloc ?_ _)); refine blk_far ?_ NB346_357.out _; (with_reducible repeat (first | refine blk_drewN ?_ _ | refine blk_drew ?_ | refine blk_alloc ?_ _)); refine blk_far ?_ NB346_357.out _; (with_reducible repeat (first | refine blk_drewN ?_ _ | refine blk_drew ?_ | refine blk_alloc ?_ _)); refine blk_far ?_ NB346_357.out _; (with_reducible repeat (first | refine blk_drewN ?_ _ | refine blk_drew ?_ | refine blk_alloc ?_ _)); refine blk_far ?_ NB346_357.out _; (with_reducible repeat (first | refine blk_drewN ?_ _ | refine blk_drew ?_ | refine blk_alloc ?_ _)); exact BK346.out) Try.underlying23 rfl (by kernel_rfl)) rfl ?_
  exact ⟨rf3, bel⟩
 ·
  rw [if_neg c2] at H
  exact absurd H (by simp)

/-! ### wire_CutTexts: function 40 -/
mutual
def wire_CutTexts.l0 : Nat → Int → List Int → Bool → List ByteArray → Option (List ByteArray × List Int × Bool)
 | 0, _, _, _, _ => none
 | k + 1, x5, x6, x7, x8 => if x7 = true then (wire_CutTexts.j1 k x5 x6 x7 x8 (decide (x5 > 0))) else (wire_CutTexts.j1 k x5 x6 x7 x8 false)
def wire_CutTexts.j1 : Nat → Int → List Int → Bool → List ByteArray → Bool → Option (List ByteArray × List Int × Bool)
 | 0, _, _, _, _, _ => none
 | k + 1, x5, x6, x7, x8, x20 => if x20 = true then ((wire_CutText.f k x6).bind fun bt363 => (if bt363.2.2 = true then (if x8.length < 8796093022208 then (wire_CutTexts.l0 k (wrap64 (x5 - 1)) bt363.2.1 bt363.2.2 (x8 ++ [bt363.1])) else (none)) else (wire_CutTexts.l0 k (wrap64 (x5 - 1)) bt363.2.1 bt363.2.2 x8))) else (if x7 = true then (some (x8, x6, true)) else (some (([] : List ByteArray), ([] : List Int), false)))
end
def wire_CutTexts.f (k : Nat) (l0 : List Int) : Option (List ByteArray × List Int × Bool) := (wire_CutNum.f k l0).bind fun bt358 => (wire_CutTexts.l0 k bt358.1 bt358.2.1 bt358.2.2 ([] : List ByteArray))
theorem wire_CutTexts.mono_l : ∀ k, (∀ y0 y1 y2 y3, LeO (wire_CutTexts.l0 k y0 y1 y2 y3) (wire_CutTexts.l0 (k + 1) y0 y1 y2 y3)) ∧ (∀ y0 y1 y2 y3 y4, LeO (wire_CutTexts.j1 k y0 y1 y2 y3 y4) (wire_CutTexts.j1 (k + 1) y0 y1 y2 y3 y4))
 | 0 => ⟨fun _ _ _ _ r h => by simp [wire_CutTexts.l0] at h, fun _ _ _ _ _ r h => by simp [wire_CutTexts.j1] at h⟩
 | k + 1 => by
  obtain ⟨ih0, ih1⟩ := wire_CutTexts.mono_l k
  refine ⟨?_, ?_⟩
  ·
   intro y0 y1 y2 y3
   unfold wire_CutTexts.l0
   repeat' first
   | (with_reducible exact ih0 _ _ _ _)
   | (with_reducible exact ih1 _ _ _ _ _)
   | (with_reducible exact wire_CutNum.mono _ _)
   | (with_reducible exact wire_CutText.mono _ _)
   | (with_reducible exact LeO.refl _)
   | (with_reducible exact LeO.none _)
   | (with_reducible refine LeO.ite ?_ ?_)
   | (with_reducible refine LeO.bind ?_ (fun _ => ?_))
   | exact LeO.none _
   | refine LeO.ite ?_ ?_
   | refine LeO.bind ?_ (fun _ => ?_)
  ·
   intro y0 y1 y2 y3 y4
   unfold wire_CutTexts.j1
   repeat' first
   | (with_reducible exact ih0 _ _ _ _)
   | (with_reducible exact ih1 _ _ _ _ _)
   | (with_reducible exact wire_CutNum.mono _ _)
   | (with_reducible exact wire_CutText.mono _ _)
   | (with_reducible exact LeO.refl _)
   | (with_reducible exact LeO.none _)
   | (with_reducible refine LeO.ite ?_ ?_)
   | (with_reducible refine LeO.bind ?_ (fun _ => ?_))
   | exact LeO.none _
   | refine LeO.ite ?_ ?_
   | refine LeO.bind ?_ (fun _ => ?_)
theorem wire_CutTexts.mono : ∀ a0 k, LeO (wire_CutTexts.f k a0) (wire_CutTexts.f (k + 1) a0) := by
 intro a0 k
 obtain ⟨ih0, ih1⟩ := wire_CutTexts.mono_l k
 unfold wire_CutTexts.f
 repeat' first
   | (with_reducible exact ih0 _ _ _ _)
   | (with_reducible exact ih1 _ _ _ _ _)
   | (with_reducible exact wire_CutNum.mono _ _)
   | (with_reducible exact wire_CutText.mono _ _)
   | (with_reducible exact LeO.refl _)
   | (with_reducible exact LeO.none _)
   | (with_reducible refine LeO.ite ?_ ?_)
   | (with_reducible refine LeO.bind ?_ (fun _ => ?_))
   | exact LeO.none _
   | refine LeO.ite ?_ ?_
   | refine LeO.bind ?_ (fun _ => ?_)
set_option maxHeartbeats 8000000 in
set_option maxRecDepth 100000 in
theorem wire_CutTexts.calls (k : Nat) (A0 : Option Addr) (c0 : Nat) (l0 : List Int) (r1 : List ByteArray) (r2 : List Int) (r3 : Bool) (w : World) (hr0 : Kd.C (Kd.int .u8) w A0 l0.length l0) (hc0 : l0.length ≤ c0) (h : wire_CutTexts.f k l0 = some (r1, r2, r3)) :
  Calls Try.prog 40 #[.slice A0 l0.length c0] w fun e w' => ∃ v0_ v1_ : Value, e = .returned (.tuple #[v0_, v1_, .bool r3]) ∧ Kd.R Kd.string 9 w' w.heap.size (fun _ => True) v0_ r1 ∧ Kd.Q (Kd.int .u8) 5 w' w.heap.size (fun _ => True) v1_ r2 ∧ Below w.heap.size w w' := by
 have HR0 := aS hr0
 have HC0 := aS hc0
 clear hr0 hc0
 have HB := aS (Below.refl w.heap.size w)
 have H : ((wire_CutNum.f k l0).bind fun bt358 => (wire_CutTexts.l0 k bt358.1 bt358.2.1 bt358.2.2 ([] : List ByteArray))) = some (r1, r2, r3) := h
 clear h
 replace H := obm H
 obtain ⟨⟨t358, t359, t360⟩, A20, H⟩ := H
 replace H : (wire_CutTexts.l0 k t358 t359 t360 ([] : List ByteArray)) = some (r1, r2, r3) := H
 have A2 := aS A20
 clear A20
 have H' := aS H
 clear H
 go_enter Try.func40, Try.ntmps40
 go_wp2_with (first | ((with_reducible refine gate_callee (f := 36) rfl ?_); refine goesL_ (some 12) rfl rfl Try.func36 (by kernel_rfl) rfl #[.slice A0 l0.length c0] rfl agn ?_; (with_reducible refine (wire_CutNum.calls k _ _ l0 t358 t359 t360 _ ?side1 ?side2 A2.out).mono ?_); (case side1 => exact cel HR0.out); (case side2 => exact HC0.out); rintro e w3 ⟨v361, rfl, ho0, hb⟩; refine ⟨_, rfl, ?_⟩; have n0_ := aS (Kd.R_lower ho0 (below_size bel)); have n1_ := bstep hb; clear HB; have HO362 := n0_; have HB := n1_; clear n0_ n1_; (try clear hb); (try clear hb2); (try clear hk); (try clear hi); (try clear ho0)))
 go_loopg [5, 6, 7, 8] k (fun kq v5 v6 v7 v8 w' => ∃ (x5_1 : Int) (x6_1 : List Int) (x7_1 : Bool) (x8_1 : List ByteArray), v5 = .int .i64 x5_1 ∧ v7 = .bool x7_1 ∧ Aside0 (wire_CutTexts.l0 kq x5_1 x6_1 x7_1 x8_1 = some (r1, r2, r3)) ∧ Aside0 (kq ≤ k) ∧ Aside0 (Kd.Q (Kd.int .u8) 5 w' w.heap.size (fun _ => True) v6 x6_1) ∧ Aside0 (Kd.R Kd.string 9 w' w.heap.size (fun _ => True) v8 x8_1) ∧ Aside0 (Below w.heap.size w w'))
 case atStart => exact ⟨(t358), (t359), (t360), (([] : List ByteArray)), (by first | rfl | (simp; done) | (simp [*]; done) | (simp; exact (by decide : ∀ a_ b_ : Bool, (a_ == b_) = (!a_ != b_)) _ _)), (by first | rfl | (simp; done) | (simp [*]; done) | (simp; exact (by decide : ∀ a_ b_ : Bool, (a_ == b_) = (!a_ != b_)) _ _)), H', ⟨Nat.le_refl _⟩, ⟨Kd.Q_of_R (rel HO362.out)⟩, ⟨by first | exact Kd.R_nil _ _ _ _ _ | exact Kd.N_nil _ _ _ _ _ | exact Kd.V_nil _ _ _ _ _ | exact Kd.Q_nil _ _ _ _ _ | exact Kd.S_nil _ _ _ _ _⟩, ⟨bel⟩⟩
 case round =>
  clear H'; (try clear p2); (try clear c3)
  obtain ⟨x5_1, x6_1, x7_1, x8_1, rfl, rfl, HA, HK1, HO_6, HO_8, HB⟩ := hrel
  cases gk with
  | zero => exact absurd HA.out (by simp [wire_CutTexts.l0])
  | succ k1 =>
   have H := HA.out; clear HA
   simp only [wire_CutTexts.l0] at H
   have HC4 := aS H
   clear H
   go_upto_region 3 with (fail)
   go_cut [20] (fun v20 wc => ∃ (kq : Nat) (x20_3 : Bool), v20 = .bool x20_3 ∧ Aside0 (wire_CutTexts.j1 kq x5_1 x6_1 x7_1 x8_1 x20_3 = some (r1, r2, r3)) ∧ Aside0 (kq ≤ k1) ∧ Aside0 (Kd.Q (Kd.int .u8) 5 wc w.heap.size (fun _ => True) u6 x6_1) ∧ Aside0 (Kd.R Kd.string 9 wc w.heap.size (fun _ => True) u8 x8_1) ∧ Aside0 (Below w.heap.size w wc))
   case first =>
    have H := HC4.out; clear HC4
    by_cases c5 : x7_1 = true
    ·
     subst c5
     have H1 : (wire_CutTexts.j1 k1 x5_1 x6_1 true x8_1 (decide (x5_1 > 0))) = some (r1, r2, r3) := by rw [if_pos rfl] at H; exact H
     clear H; have H := H1; clear H1
     have H' := aS H
     clear H
     go_wp2
     go_meet
     case rel => exact ⟨_, (decide (x5_1 > 0)), (by first | rfl | (simp; done) | (simp [*]; done) | (simp; exact (by decide : ∀ a_ b_ : Bool, (a_ == b_) = (!a_ != b_)) _ _)), H', ⟨by have := HK1.out; first | omega | exact Nat.le_refl _⟩, ⟨by (with_reducible repeat (first | apply Kd.Q_alloc | apply Kd.Q_drewN | apply Kd.Q_drew)); exact HO_6.out⟩, ⟨by (with_reducible repeat (first | apply Kd.R_alloc | apply Kd.R_drewN | apply Kd.R_drew)); exact HO_8.out⟩, ⟨bel⟩⟩
    ·
     replace c5 := Bool.eq_false_iff.mpr c5
     subst c5
     have H1 : (wire_CutTexts.j1 k1 x5_1 x6_1 false x8_1 false) = some (r1, r2, r3) := by rw [if_neg (show ¬ (false = true) by decide)] at H; exact H
     clear H; have H := H1; clear H1
     have H' := aS H
     clear H
     go_wp2
     go_meet
     case rel => exact ⟨_, (false), (by first | rfl | (simp; done) | (simp [*]; done) | (simp; exact (by decide : ∀ a_ b_ : Bool, (a_ == b_) = (!a_ != b_)) _ _)), H', ⟨by have := HK1.out; first | omega | exact Nat.le_refl _⟩, ⟨by (with_reducible repeat (first | apply Kd.Q_alloc | apply Kd.Q_drewN | apply Kd.Q_drew)); exact HO_6.out⟩, ⟨by (with_reducible repeat (first | apply Kd.R_alloc | apply Kd.R_drewN | apply Kd.R_drew)); exact HO_8.out⟩, ⟨bel⟩⟩
   case rest =>
    clear HC4; (try clear p2); (try clear c3); (try clear c4); (try clear c5)
    obtain ⟨kq, x20_3, rfl, HA, HJ3, HO_6, HO_8, HB⟩ := hcut
    cases kq with
    | zero => exact absurd HA.out (by simp [wire_CutTexts.j1])
    | succ kj3 =>
     have H := HA.out; clear HA
     simp only [wire_CutTexts.j1] at H
     by_cases c6 : x20_3 = true
     ·
      subst c6
      have H1 : ((wire_CutText.f kj3 x6_1).bind fun bt363 => (if bt363.2.2 = true then (if x8_1.length < 8796093022208 then (wire_CutTexts.l0 kj3 (wrap64 (x5_1 - 1)) bt363.2.1 bt363.2.2 (x8_1 ++ [bt363.1])) else (none)) else (wire_CutTexts.l0 kj3 (wrap64 (x5_1 - 1)) bt363.2.1 bt363.2.2 x8_1))) = some (r1, r2, r3) := by rw [if_pos rfl] at H; exact H
      clear H; have H := H1; clear H1
      replace H := obm H
      obtain ⟨⟨t363, t364, t365⟩, A70, H⟩ := H
      replace H : (if t365 = true then (if x8_1.length < 8796093022208 then (wire_CutTexts.l0 kj3 (wrap64 (x5_1 - 1)) t364 t365 (x8_1 ++ [t363])) else (none)) else (wire_CutTexts.l0 kj3 (wrap64 (x5_1 - 1)) t364 t365 x8_1)) = some (r1, r2, r3) := H
      have A7 := aS A70
      clear A70
      by_cases c8 : t365 = true
      ·
       subst c8
       have H1 : (if x8_1.length < 8796093022208 then (wire_CutTexts.l0 kj3 (wrap64 (x5_1 - 1)) t364 true (x8_1 ++ [t363])) else (none)) = some (r1, r2, r3) := by rw [if_pos rfl] at H; exact H
       clear H; have H := H1; clear H1
       by_cases c9 : x8_1.length < 8796093022208
       ·
        rw [if_pos c9] at H
        have LMc9 := aS c9
        clear c9
        obtain ⟨y368, hy368⟩ : ∃ y_ : List ByteArray, y_ = (x8_1 ++ [t363]) := ⟨_, rfl⟩
        replace H : (wire_CutTexts.l0 kj3 (wrap64 (x5_1 - 1)) t364 true y368) = some (r1, r2, r3) := by first | (rw [hy368]; with_reducible exact H) | (have H2_ := (Option.bind_some _ _).symm.trans H; rw [hy368]; with_reducible exact H2_) | (have H2_ := (Option.bind_some _ _).symm.trans H; with_reducible exact H2_) | with_reducible exact H | (rw [hy368]; exact H) | exact H
        have Ny368 := aS hy368
        clear hy368
        have H' := aS H
        clear H
        obtain ⟨Ao10, co10, eo10, _⟩ := Kd.Q_slice HO_6.out
        subst eo10
        go_wp2_with (first | ((with_reducible refine gate_callee (f := 38) rfl ?_); refine goesL_ (some 25) rfl rfl Try.func38 (by kernel_rfl) rfl #[.slice Ao10 x6_1.length co10] rfl agn ?_; (with_reducible refine (wire_CutText.calls kj3 _ _ x6_1 t363 t364 true _ ?side1 ?side2 A7.out).mono ?_); (case side1 => exact cel ((Kd.Q_reads' HO_6.out).2.2)); (case side2 => exact (Kd.Q_reads' HO_6.out).2.1); rintro e w11 ⟨v366, rfl, ho0, hb⟩; refine ⟨_, rfl, ?_⟩; have n0_ := aS (Kd.Q_elder' (by (with_reducible repeat (first | apply Kd.Q_alloc | apply Kd.Q_drewN | apply Kd.Q_drew)); exact HO_6.out) (by first | exact Kd.Q_base ho0 | exact Kd.S_base ho0 | exact Kd.R_base ho0 | exact Kd.V_base ho0) hb); have n1_ := aS (Kd.R_below (rel HO_8.out) hb); have n2_ := aS (Kd.Q_lower (Kd.Q_new' ho0 (Kd.Q_lt (by (with_reducible repeat (first | apply Kd.Q_alloc | apply Kd.Q_drewN | apply Kd.Q_drew)); exact HO_6.out))) (below_size bel)); have n3_ := bstep hb; clear HO_6; clear HO_8; clear HB; have HO_6 := n0_; have HO_8 := n1_; have HO367 := n2_; have HB := n3_; clear n0_ n1_ n2_ n3_; (try clear hb); (try clear hb2); (try clear hk); (try clear hi); (try clear ho0)) | ((with_reducible refine gate_builtin (b := .append) (xs := #[.tmp 30, .tmp 32]) rfl ?_); at_builtin; refine Kd.R_append Kd.string (w0 := w) w.heap.size rfl (.tmp 30) (.tmp 32) 45 9 (.string ⟨#[]⟩) 16 rfl Try.underlying45 info9 rfl (by decide) (by omega) u8 x8_1 t363 [.string t363] (fun _ => True) (fun _ => False) rfl rfl ?aP (fun _ hk => hk.elim) ?aF ?aO ?aB ?aS ?aL ?_; (case aP => exact rfl); (case aB => exact bel); (case aF => exact (fun _ _ => trivial)); (case aO => exact (rel HO_8.out)); (case aS => exact (below_size bel)); (case aL => have := LMc9.out; omega); intro v369 w12 ho hb hg hat; rw [← Ny368.out] at ho; have n0_ := aS (Kd.Q_over' (by (with_reducible repeat (first | apply Kd.Q_alloc | apply Kd.Q_drewN | apply Kd.Q_drew)); exact HO_6.out) (Kd.R_typed (rel HO_8.out)) (by decide) hg); have n1_ := aS (Kd.Q_over' (by (with_reducible repeat (first | apply Kd.Q_alloc | apply Kd.Q_drewN | apply Kd.Q_drew)); exact HO367.out) (Kd.R_typed (rel HO_8.out)) (by decide) hg); have n2_ := aS (hb); have n3_ := aS (ho); clear HO_6; clear HO367; clear HB; clear HO_8; have HO_6 := n0_; have HO367 := n1_; have HB := n2_; have HO370 := n3_; clear n0_ n1_ n2_ n3_; clear ho hb hg hat))
        go_roundg kj3
        case measure => have := HK1.out; have := HJ3.out; omega
        case rel => exact ⟨(wrap64 (x5_1 - 1)), (t364), (true), (y368), (by first | rfl | (simp; done) | (simp [*]; done) | (simp; exact (by decide : ∀ a_ b_ : Bool, (a_ == b_) = (!a_ != b_)) _ _)), (by first | rfl | (simp; done) | (simp [*]; done) | (simp; exact (by decide : ∀ a_ b_ : Bool, (a_ == b_) = (!a_ != b_)) _ _)), H', ⟨by have := HK1.out; have := HJ3.out; omega⟩, ⟨by (with_reducible repeat (first | apply Kd.Q_alloc | apply Kd.Q_drewN | apply Kd.Q_drew)); exact Kd.Q_mono HO367.out (fun _ hk => trivial)⟩, ⟨by (with_reducible repeat (first | apply Kd.R_alloc | apply Kd.R_drewN | apply Kd.R_drew)); exact HO370.out⟩, ⟨bel⟩⟩
       ·
        rw [if_neg c9] at H
        exact absurd H (by simp)
      ·
       replace c8 := Bool.eq_false_iff.mpr c8
       subst c8
       have H1 : (wire_CutTexts.l0 kj3 (wrap64 (x5_1 - 1)) t364 false x8_1) = some (r1, r2, r3) := by rw [if_neg (show ¬ (false = true) by decide)] at H; exact H
       clear H; have H := H1; clear H1
       have H' := aS H
       clear H
       obtain ⟨Ao13, co13, eo13, _⟩ := Kd.Q_slice HO_6.out
       subst eo13
       go_wp2_with (first | ((with_reducible refine gate_callee (f := 38) rfl ?_); refine goesL_ (some 25) rfl rfl Try.func38 (by kernel_rfl) rfl #[.slice Ao13 x6_1.length co13] rfl agn ?_; (with_reducible refine (wire_CutText.calls kj3 _ _ x6_1 t363 t364 false _ ?side1 ?side2 A7.out).mono ?_); (case side1 => exact cel ((Kd.Q_reads' HO_6.out).2.2)); (case side2 => exact (Kd.Q_reads' HO_6.out).2.1); rintro e w14 ⟨v366, rfl, ho0, hb⟩; refine ⟨_, rfl, ?_⟩; have n0_ := aS (Kd.Q_elder' (by (with_reducible repeat (first | apply Kd.Q_alloc | apply Kd.Q_drewN | apply Kd.Q_drew)); exact HO_6.out) (by first | exact Kd.Q_base ho0 | exact Kd.S_base ho0 | exact Kd.R_base ho0 | exact Kd.V_base ho0) hb); have n1_ := aS (Kd.R_below (rel HO_8.out) hb); have n2_ := aS (Kd.Q_lower (Kd.Q_new' ho0 (Kd.Q_lt (by (with_reducible repeat (first | apply Kd.Q_alloc | apply Kd.Q_drewN | apply Kd.Q_drew)); exact HO_6.out))) (below_size bel)); have n3_ := bstep hb; clear HO_6; clear HO_8; clear HB; have HO_6 := n0_; have HO_8 := n1_; have HO367 := n2_; have HB := n3_; clear n0_ n1_ n2_ n3_; (try clear hb); (try clear hb2); (try clear hk); (try clear hi); (try clear ho0)))
       go_roundg kj3
       case measure => have := HK1.out; have := HJ3.out; omega
       case rel => exact ⟨(wrap64 (x5_1 - 1)), (t364), (false), (x8_1), (by first | rfl | (simp; done) | (simp [*]; done) | (simp; exact (by decide : ∀ a_ b_ : Bool, (a_ == b_) = (!a_ != b_)) _ _)), (by first | rfl | (simp; done) | (simp [*]; done) | (simp; exact (by decide : ∀ a_ b_ : Bool, (a_ == b_) = (!a_ != b_)) _ _)), H', ⟨by have := HK1.out; have := HJ3.out; omega⟩, ⟨by (with_reducible repeat (first | apply Kd.Q_alloc | apply Kd.Q_drewN | apply Kd.Q_drew)); exact Kd.Q_mono HO367.out (fun _ hk => trivial)⟩, ⟨by (with_reducible repeat (first | apply Kd.R_alloc | apply Kd.R_drewN | apply Kd.R_drew)); exact HO_8.out⟩, ⟨bel⟩⟩
     ·
      replace c6 := Bool.eq_false_iff.mpr c6
      subst c6
      have H1 : (if x7_1 = true then (some (x8_1, x6_1, true)) else (some (([] : List ByteArray), ([] : List Int), false))) = some (r1, r2, r3) := by rw [if_neg (show ¬ (false = true) by decide)] at H; exact H
      clear H; have H := H1; clear H1
      by_cases c15 : x7_1 = true
      ·
       subst c15
       have H1 : (some (x8_1, x6_1, true)) = some (r1, r2, r3) := by rw [if_pos rfl] at H; exact H
       clear H; have H := H1; clear H1
       simp only [Option.some.injEq, Prod.mk.injEq] at H
       obtain ⟨rfl, rfl, rfl⟩ := H
       go_wp2
       go_ret3
       exact ⟨_, _, rf3, by (with_reducible repeat (first | apply Kd.R_alloc | apply Kd.R_drewN | apply Kd.R_drew)); exact HO_8.out, by (with_reducible repeat (first | apply Kd.Q_alloc | apply Kd.Q_drewN | apply Kd.Q_drew)); exact HO_6.out, bel⟩
      ·
       replace c15 := Bool.eq_false_iff.mpr c15
       subst c15
       have H1 : (some (([] : List ByteArray), ([] : List Int), false)) = some (r1, r2, r3) := by rw [if_neg (show ¬ (false = true) by decide)] at H; exact H
       clear H; have H := H1; clear H1
       simp only [Option.some.injEq, Prod.mk.injEq] at H
       obtain ⟨rfl, rfl, rfl⟩ := H
       go_wp2
       go_ret3
       exact ⟨_, _, rf3, by first | exact Kd.R_nil _ _ _ _ _ | exact Kd.N_nil _ _ _ _ _ | exact Kd.V_nil _ _ _ _ _ | exact Kd.Q_nil _ _ _ _ _ | exact Kd.S_nil _ _ _ _ _, Kd.Q_of_R (by first | exact Kd.R_nil _ _ _ _ _ | exact Kd.N_nil _ _ _ _ _ | exact Kd.V_nil _ _ _ _ _ | exact Kd.Q_nil _ _ _ _ _ | exact Kd.S_nil _ _ _ _ _), bel⟩

/-! ### msg_Get: function 16 -/
theorem msg_Get.left {w : World} {A' : Option Addr} {c' g4 g6 : Nat} {l' : List Int} {C4 : Array Value} {b : Bool} (hlt : g4 < g6) (h4 : w.heap[g4]? = some (.cells C4 29 (0, 0))) (h6 : w.heap[g6]? = some (.cells #[.bool b] 4 (0, 0))) (hC : C4.size = 1) {w3 : World} (hb : Below w.heap.size w w3) {v : Value} (o : Bool) (hv : v = .slice A' l'.length c')
  (hF : Kd.F (Kd.int .u8) w3 (fun q => w.heap.size ≤ q) A' l'.length l') :
  ((w3.setCell ⟨g4, 0, none⟩ v).setCell ⟨g6, 0, none⟩ (.bool o)).heap[g4]? = some (.cells #[.slice A' l'.length c'] 29 (0, 0)) ∧ ((w3.setCell ⟨g4, 0, none⟩ v).setCell ⟨g6, 0, none⟩ (.bool o)).heap[g6]? = some (.cells #[.bool o] 4 (0, 0)) ∧
  Kd.F (Kd.int .u8) ((w3.setCell ⟨g4, 0, none⟩ v).setCell ⟨g6, 0, none⟩ (.bool o)) (fun q => w.heap.size ≤ q) A' l'.length l' ∧ Below g4 w ((w3.setCell ⟨g4, 0, none⟩ v).setCell ⟨g6, 0, none⟩ (.bool o)) := by
 subst hv
 have l4 := blk_lt h4
 have l6 := blk_lt h6
 obtain ⟨L, hL⟩ : ∃ x, C4 = #[x] := by
  cases C4 with
  | mk l => match l, hC with
   | [x], _ => exact ⟨x, rfl⟩
 subst hL
 have p4 := blk_below h4 hb
 have p6 := blk_below h6 hb
 refine ⟨?_, ?_, ?_, ?_⟩
 ·
  exact blk_far (p := ⟨g6, 0, none⟩) (blk_put (cs := #[L]) p4 0 (.slice A' l'.length c') rfl) (by show g4 ≠ g6; omega) _
 ·
  exact blk_put (cs := #[.bool b]) (blk_far (p := ⟨g4, 0, none⟩) p6 (by show g6 ≠ g4; omega) _) 0 (.bool o) rfl
 ·
  exact Kd.F_far (Kd.F_far hF (fun q hq => by show q ≠ g4; omega) _) (fun q hq => by show q ≠ g6; omega) _
 ·
  exact Below.setCell (Below.setCell (hb.mono (Nat.le_of_lt l4)) (p := ⟨g4, 0, none⟩) (Nat.le_refl _) _) (p := ⟨g6, 0, none⟩) (Nat.le_of_lt hlt) _
theorem msg_Get.num (k : Nat) (g4 g6 : Nat) (A : Option Addr) (c : Nat) (l : List Int) (ok : Bool) (n : Int) (l' : List Int) (is : Bool) (w : World) (hlt : g4 < g6)
  (h4 : w.heap[g4]? = some (.cells #[.slice A l.length c] 29 (0, 0))) (h6 : w.heap[g6]? = some (.cells #[.bool ok] 4 (0, 0))) (hc : l.length ≤ c) (hr : Kd.C (Kd.int .u8) w A l.length l)
  (h : wire_CutNum.f k l = some (n, l', is)) :
  Calls Try.prog 35 #[.pointer (some ⟨g4, 0, none⟩), .pointer (some ⟨g6, 0, none⟩)] w fun e w' => e = .returned (.int .i64 n) ∧ ∃ A' c', w'.heap[g4]? = some (.cells #[.slice A' l'.length c'] 29 (0, 0)) ∧ w'.heap[g6]? = some (.cells #[.bool (ok && is)] 4 (0, 0)) ∧ l'.length ≤ c' ∧ Kd.F (Kd.int .u8) w' (fun q => w.heap.size ≤ q) A' l'.length l' ∧ Below g4 w w' := by
 have Q4 := cK1 ⟨h4⟩
 have Q6 := cK1 ⟨h6⟩
 go_enter Try.func35, Try.ntmps35
 go_wp2_with (fail)
 refine (wire_CutNum.calls k A c l n l' is _ hr hc h).mono ?_
 rintro e w3 ⟨v, rfl, ho, hb⟩
 obtain ⟨A', c', rfl⟩ := Kd.R_slice ho
 have hz := aS (Kd.R_reads' ho).2.1
 have hF := aS (Kd.F_mono (Kd.R_F (Kd.R_bound ho)) (fun q hq => hq.2.1))
 have HT := aS (fun o : Bool => msg_Get.left (b := ok) (c' := c') hlt h4 h6 rfl hb o rfl hF.out)
 have Q4 := cK1 ⟨blk_below h4 hb⟩
 have Q6 := cK1 ⟨blk_below h6 hb⟩
 clear h4 h6 hb ho
 cases ok <;> cases is <;> (go_wp2; go_ret; exact ⟨rfl, A', c', (HT.out _).1, (HT.out _).2.1, hz.out, (HT.out _).2.2⟩)
theorem msg_Get.text (k : Nat) (g4 g6 : Nat) (A : Option Addr) (c : Nat) (l : List Int) (ok : Bool) (n : ByteArray) (l' : List Int) (is : Bool) (w : World) (hlt : g4 < g6)
  (h4 : w.heap[g4]? = some (.cells #[.slice A l.length c] 29 (0, 0))) (h6 : w.heap[g6]? = some (.cells #[.bool ok] 4 (0, 0))) (hc : l.length ≤ c) (hr : Kd.C (Kd.int .u8) w A l.length l)
  (h : wire_CutText.f k l = some (n, l', is)) :
  Calls Try.prog 37 #[.pointer (some ⟨g4, 0, none⟩), .pointer (some ⟨g6, 0, none⟩)] w fun e w' => e = .returned (.string n) ∧ ∃ A' c', w'.heap[g4]? = some (.cells #[.slice A' l'.length c'] 29 (0, 0)) ∧ w'.heap[g6]? = some (.cells #[.bool (ok && is)] 4 (0, 0)) ∧ l'.length ≤ c' ∧ Kd.F (Kd.int .u8) w' (fun q => w.heap.size ≤ q) A' l'.length l' ∧ Below g4 w w' := by
 have Q4 := cK1 ⟨h4⟩
 have Q6 := cK1 ⟨h6⟩
 go_enter Try.func37, Try.ntmps37
 go_wp2_with (fail)
 refine (wire_CutText.calls k A c l n l' is _ hr hc h).mono ?_
 rintro e w3 ⟨v, rfl, ho, hb⟩
 obtain ⟨A', c', rfl, hz0⟩ := Kd.Q_slice ho
 have hz := aS hz0
 have hF := aS (Kd.F_mono (Kd.Q_F (Kd.Q_bound ho)) (fun q hq => hq.2.1))
 have HT := aS (fun o : Bool => msg_Get.left (b := ok) (c' := c') hlt h4 h6 rfl hb o rfl hF.out)
 have Q4 := cK1 ⟨blk_below h4 hb⟩
 have Q6 := cK1 ⟨blk_below h6 hb⟩
 clear h4 h6 hb ho hz0
 cases ok <;> cases is <;> (go_wp2; go_ret; exact ⟨rfl, A', c', (HT.out _).1, (HT.out _).2.1, hz.out, (HT.out _).2.2⟩)
--MAIN
abbrev msg_Get.T := Int × Int × Int × Int × Int × Int × Int × Int × Bool × ByteArray × List S23 × Int
abbrev msg_Get.V := Int × Int × Int × Bool × ByteArray
def msg_Get.bad : msg_Get.T := (0, 0, 0, 0, 0, 0, 0, 0, false, ⟨#[]⟩, [], 2)
def msg_Get.l0 (k : Nat) : List ByteArray → List S23 → Option (List S23)
 | [], acc => some acc
 | s :: r, acc => (msg_vote.f k s).bind fun v => if acc.length < 2932031007402 then msg_Get.l0 k r (acc ++ [⟨v.1, v.2.1, v.2.2.1, v.2.2.2.1, v.2.2.2.2⟩]) else none
def msg_Get.fin (k : Nat) (b : List Int) (n0 n1 n2 n3 n4 : Int) (v : msg_Get.V) (vs : List S23) (ok : Bool) (rest : List Int) : Option msg_Get.T :=
 (msg_Put.f k n0 n1 n2 n3 n4 v.1 v.2.1 v.2.2.1 v.2.2.2.1 v.2.2.2.2 vs).bind fun p => if ok = true then if (rest.length : Int) > 0 then some msg_Get.bad else if p.2 = 0 then (slices_Equal_byte_byte.f k p.1 b).bind fun q => if q = true then some (n0, n1, n2, n3, n4, v.1, v.2.1, v.2.2.1, v.2.2.2.1, v.2.2.2.2, vs, 0) else some msg_Get.bad else some msg_Get.bad else some msg_Get.bad
def msg_Get.f (k : Nat) (b : List Int) : Option (Int × Int × Int × Int × Int × Int × Int × Int × Bool × ByteArray × List S23 × Int) :=
 (frame_Cut.f k b).bind fun t => (wire_CutNum.f k t.1).bind fun t0 => (wire_CutNum.f k t0.2.1).bind fun t1 => (wire_CutNum.f k t1.2.1).bind fun t2 => (wire_CutNum.f k t2.2.1).bind fun t3 => (wire_CutNum.f k t3.2.1).bind fun t4 =>
  (wire_CutText.f k t4.2.1).bind fun s => (msg_vote.f k s.1).bind fun v => (wire_CutTexts.f k s.2.1).bind fun u => (msg_Get.l0 k u.1 []).bind fun vs => msg_Get.fin k b t0.1 t1.1 t2.1 t3.1 t4.1 v vs ((((((t.2.2 && t0.2.2) && t1.2.2) && t2.2.2) && t3.2.2) && t4.2.2) && s.2.2) t.2.1
theorem msg_Get.mono_l (k : Nat) : ∀ l acc, LeO (msg_Get.l0 k l acc) (msg_Get.l0 (k + 1) l acc)
 | [], _ => LeO.refl _
 | s :: r, acc => LeO.bind (msg_vote.mono _ _) fun _ => LeO.ite (msg_Get.mono_l k r _) (LeO.refl _)
theorem msg_Get.mono : ∀ a0 k, LeO (msg_Get.f k a0) (msg_Get.f (k + 1) a0) := fun a0 k =>
 LeO.bind (frame_Cut.mono _ _) fun _ => LeO.bind (wire_CutNum.mono _ _) fun _ => LeO.bind (wire_CutNum.mono _ _) fun _ => LeO.bind (wire_CutNum.mono _ _) fun _ => LeO.bind (wire_CutNum.mono _ _) fun _ => LeO.bind (wire_CutNum.mono _ _) fun _ =>
  LeO.bind (wire_CutText.mono _ _) fun _ => LeO.bind (msg_vote.mono _ _) fun _ => LeO.bind (wire_CutTexts.mono _ _) fun _ => LeO.bind (msg_Get.mono_l k _ _) fun _ =>
   LeO.bind (msg_Put.mono _ _ _ _ _ _ _ _ _ _ _ _) fun _ => LeO.ite (LeO.ite (LeO.refl _) (LeO.ite (LeO.bind (slices_Equal_byte_byte.mono _ _ _) fun _ => LeO.refl _) (LeO.refl _))) (LeO.refl _)
structure msg_Get.St (w0 : World) (g2 g4 g6 : Nat) (W : World) (A : Option Addr) (c : Nat) (l : List Int) (ok : Bool) : Prop where
 b2 : W.heap[g2]? = some (.cells #[.int .i64 0, .int .i64 0, .int .i64 0, .int .i64 0, .int .i64 0, .int .i64 0, .int .i64 0, .int .i64 0, .bool false, .string ⟨#[]⟩, .slice none 0 0] 26 (0, 0))
 b4 : W.heap[g4]? = some (.cells #[.slice A l.length c] 29 (0, 0))
 b6 : W.heap[g6]? = some (.cells #[.bool ok] 4 (0, 0))
 hl : l.length ≤ c
 rd : Kd.C (Kd.int .u8) W A l.length l
 bel : Below w0.heap.size w0 W
theorem msg_Get.St.next {w0 W W' : World} {g2 g4 g6 : Nat} {A A' : Option Addr} {c c' : Nat} {l l' : List Int} {ok ok' : Bool} {P : Nat → Prop} (S : msg_Get.St w0 g2 g4 g6 W A c l ok) (h24 : g2 < g4) (h04 : w0.heap.size ≤ g4)
  (b4 : W'.heap[g4]? = some (.cells #[.slice A' l'.length c'] 29 (0, 0))) (b6 : W'.heap[g6]? = some (.cells #[.bool ok'] 4 (0, 0))) (hl : l'.length ≤ c') (F : Kd.F (Kd.int .u8) W' P A' l'.length l') (hb : Below g4 W W') : msg_Get.St w0 g2 g4 g6 W' A' c' l' ok' :=
 ⟨(hb.block g2 h24).trans S.b2, b4, b6, hl, Kd.F_now F, S.bel.trans (hb.mono h04)⟩
set_option maxHeartbeats 8000000 in
set_option maxRecDepth 100000 in
theorem msg_Get.calls (k : Nat) (A0 : Option Addr) (c0 : Nat) (l0 : List Int) (r1 r2 r3 r4 r5 r6 r7 r8 : Int) (r9 : Bool) (r10 : ByteArray) (r11 : List S23) (r12 : Int) (w : World) (hr0 : Kd.C (Kd.int .u8) w A0 l0.length l0) (hc0 : l0.length ≤ c0) (h : msg_Get.f k l0 = some (r1, r2, r3, r4, r5, r6, r7, r8, r9, r10, r11, r12)) :
  Calls Try.prog 16 #[.slice A0 l0.length c0] w fun e w' => ∃ v0_ : Value, e = .returned (.tuple #[.agg #[.int .i64 r1, .int .i64 r2, .int .i64 r3, .int .i64 r4, .int .i64 r5, .int .i64 r6, .int .i64 r7, .int .i64 r8, .bool r9, .string r10, v0_], .int .i64 r12]) ∧ Kd.R k23 23 w' w.heap.size (fun _ => True) v0_ r11 ∧ Below w.heap.size w w' := by
 have hu26 := Try.underlying26; have hu23 := Try.underlying23
 have HV := aS (show Kd.V (Kd.int .u8) 5 w w.heap.size (fun q => q < w.heap.size) (.slice A0 l0.length c0) l0 from ⟨A0, c0, rfl, hc0, Kd.C_F (Kd.heap_int _) hr0⟩)
 clear hr0 hc0
 unfold msg_Get.f at h
 replace h := obm h; obtain ⟨⟨rec, rest, ok⟩, x0, h⟩ := h
 replace h := obm h; obtain ⟨⟨n0, b0, i0⟩, x1, h⟩ := h
 replace h := obm h; obtain ⟨⟨n1, b1, i1⟩, x2, h⟩ := h
 replace h := obm h; obtain ⟨⟨n2, b2, i2⟩, x3, h⟩ := h
 replace h := obm h; obtain ⟨⟨n3, b3, i3⟩, x4, h⟩ := h
 replace h := obm h; obtain ⟨⟨n4, b4, i4⟩, x5, h⟩ := h
 replace h := obm h; obtain ⟨⟨s, b5, i5⟩, x6, h⟩ := h
 replace h := obm h; obtain ⟨⟨e0, e1, e2, e3, e4⟩, x7, h⟩ := h
 replace h := obm h; obtain ⟨⟨ts, b6, i6⟩, x8, h⟩ := h
 replace h := obm h; obtain ⟨vs, x9, h⟩ := h
 have X0 := aS x0; have X1 := aS x1; have X2 := aS x2; have X3 := aS x3; have X4 := aS x4; have X5 := aS x5; have X6 := aS x6; have X7 := aS x7; have X8 := aS x8; have X9 := aS x9
 have H := aS h
 clear x0 x1 x2 x3 x4 x5 x6 x7 x8 x9 h
 go_enter Try.func16, Try.ntmps16
 go_upto_region 1 with ((with_reducible refine gate_dst (N := 2) rfl ?_); refine box_event ?hg (N := 2) ?hd (cs := #[.int .i64 0, .int .i64 0, .int .i64 0, .int .i64 0, .int .i64 0, .int .i64 0, .int .i64 0, .int .i64 0, .bool false, .string ⟨#[]⟩, .slice none 0 0]) (t := 26) ?hr ?_; (case hd => rfl); (case hg => rfl); (case hr => (first | (go_simp; done) | (go_simp; rfl))); intro g2 hg w1 hb hbl; have G2 := aS hg; have B2 := aS hb; have HB := aS hbl; clear hg hb hbl)
 have HV1 := aS (Kd.V_mono (Kd.V_below (Kd.V_bound HV.out) HB.out) (ok' := fun q => q < w.heap.size) (fun q hq => hq.2))
 go_upto_region 2 with (first | (go_at_call 34; (with_reducible refine (frame_Cut.calls k _ A0 c0 l0 rec rest ok _ HV1.out X0.out).mono ?_); rintro e w2 ⟨vr, vt, rfl, hor, hot, hb⟩; obtain ⟨A1, c1, rfl⟩ := Kd.V_slice hor; obtain ⟨At, ct, rfl⟩ := Kd.V_slice hot; have HR := aS hor; have HB2 := aS (below_step HB.out hb); have B22 := aS (blk_below B2.out hb); clear hor hot hb HV1 HB B2) | ((with_reducible refine gate_dst (N := 4) rfl ?_); refine box_event ?hg (N := 4) ?hd (cs := #[.slice none 0 0]) (t := 29) ?hr ?_; (case hd => rfl); (case hg => rfl); (case hr => (first | (go_simp; done) | (go_simp; rfl))); intro g4 hg w3 hb hbl; have G4 := aS hg; have B4 := aS hb; have HB3 := aS hbl; clear hg hb hbl) | ((with_reducible refine gate_dst (N := 6) rfl ?_); refine box_event ?hg (N := 6) ?hd (cs := #[.bool false]) (t := 4) ?hr ?_; (case hd => rfl); (case hg => rfl); (case hr => (first | (go_simp; done) | (go_simp; rfl))); intro g6 hg w4 hb hbl; have G6 := aS hg; have B6 := aS hb; have HB4 := aS hbl; have B44 := aS (blk_below B4.out hbl); have h46 : g4 < g6 := (by have := blk_lt B4.out; have := G6.out; omega); have hne : g6 ≠ g4 := (by omega); clear hg hb hbl B4; have q4 := cK1 B44; have q6 := cK1 B6))
 have l2 := blk_lt B22.out
 have l4 := blk_lt B44.out
 have h02 : w.heap.size ≤ g2 := by rw [G2.out]; exact Nat.le_refl _
 have h24 : g2 < g4 := by have := G4.out; omega
 have s0 : msg_Get.St w g2 g4 g6 ((w4.setCell ⟨g4, 0, none⟩ (.slice A1 rec.length c1)).setCell ⟨g6, 0, none⟩ (.bool ok)) A1 c1 rec ok := by
  have hr := Kd.V_at HR.out; have hb := HB3.out.trans (HB4.out.mono (by have := HB3.out.size; omega)); have hF := Kd.F_far (p := ⟨g6, 0, none⟩) (Kd.F_far (p := ⟨g4, 0, none⟩) (Kd.F_mono (Kd.F_below (Kd.F_bound hr.2.2) hb) (ok' := fun q => q < w2.heap.size) (fun q hq => hq.2)) (fun q hq => by show q ≠ g4; have := G4.out; omega) (.slice A1 rec.length c1)) (fun q hq => by show q ≠ g6; have := G4.out; omega) (.bool ok)
  refine ⟨?_, ?_, ?_, hr.2.1, Kd.F_now hF, ?_⟩
  ·
   exact blk_far (blk_far (blk_below (blk_below B22.out HB3.out) HB4.out) (by show g2 ≠ g4; omega) _) (by show g2 ≠ g6; omega) _
  ·
   exact blk_far (blk_put (cs := #[.slice none 0 0]) B44.out 0 _ rfl) (by show g4 ≠ g6; omega) _
  ·
   exact blk_put (cs := #[.bool false]) (blk_far B6.out (by show g6 ≠ g4; omega) _) 0 _ rfl
  ·
   exact below_set (below_set (below_step HB2.out hb) (by omega)) (by omega)
 have S0 := aS s0
 have LT := aS (And.intro h02 (And.intro h24 h46))
 clear s0 HR B22 B44 B6 HB2 HB3 HB4 G2 G4 G6 q4 q6 l2 l4 h02 h24 h46 hne
 generalize (w4.setCell ⟨g4, 0, none⟩ (.slice A1 rec.length c1)).setCell ⟨g6, 0, none⟩ (.bool ok) = w5 at S0 ⊢
 go_wp2_with (fail)
 refine (msg_Get.num k g4 g6 A1 c1 rec _ n0 b0 i0 _ LT.out.2.2 S0.out.b4 S0.out.b6 S0.out.hl S0.out.rd X1.out).mono ?_
 rintro e w6 ⟨rfl, A2, c2, h1, h2, h3, h4, h5⟩
 have S1 := aS (S0.out.next LT.out.2.1 (by have := LT.out; omega) h1 h2 h3 h4 h5)
 clear h1 h2 h3 h4 h5 S0
 go_wp2_with (fail)
 refine (msg_Get.num k g4 g6 A2 c2 b0 _ n1 b1 i1 _ LT.out.2.2 S1.out.b4 S1.out.b6 S1.out.hl S1.out.rd X2.out).mono ?_
 rintro e w7 ⟨rfl, A3, c3, h1, h2, h3, h4, h5⟩
 have S2 := aS (S1.out.next LT.out.2.1 (by have := LT.out; omega) h1 h2 h3 h4 h5)
 clear h1 h2 h3 h4 h5 S1
 go_wp2_with (fail)
 refine (msg_Get.num k g4 g6 A3 c3 b1 _ n2 b2 i2 _ LT.out.2.2 S2.out.b4 S2.out.b6 S2.out.hl S2.out.rd X3.out).mono ?_
 rintro e w8 ⟨rfl, A4, c4, h1, h2, h3, h4, h5⟩
 have S3 := aS (S2.out.next LT.out.2.1 (by have := LT.out; omega) h1 h2 h3 h4 h5)
 clear h1 h2 h3 h4 h5 S2
 go_wp2_with (fail)
 refine (msg_Get.num k g4 g6 A4 c4 b2 _ n3 b3 i3 _ LT.out.2.2 S3.out.b4 S3.out.b6 S3.out.hl S3.out.rd X4.out).mono ?_
 rintro e w9 ⟨rfl, A5, c5, h1, h2, h3, h4, h5⟩
 have S4 := aS (S3.out.next LT.out.2.1 (by have := LT.out; omega) h1 h2 h3 h4 h5)
 clear h1 h2 h3 h4 h5 S3
 go_wp2_with (fail)
 refine (msg_Get.num k g4 g6 A5 c5 b3 _ n4 b4 i4 _ LT.out.2.2 S4.out.b4 S4.out.b6 S4.out.hl S4.out.rd X5.out).mono ?_
 rintro e w10 ⟨rfl, A6, c6, h1, h2, h3, h4, h5⟩
 have S5 := aS (S4.out.next LT.out.2.1 (by have := LT.out; omega) h1 h2 h3 h4 h5)
 clear h1 h2 h3 h4 h5 S4
 go_wp2_with (fail)
 refine (msg_Get.text k g4 g6 A6 c6 b4 _ s b5 i5 _ LT.out.2.2 S5.out.b4 S5.out.b6 S5.out.hl S5.out.rd X6.out).mono ?_
 rintro e w11 ⟨rfl, A7, c7, h1, h2, h3, h4, h5⟩
 have S6 := aS (S5.out.next LT.out.2.1 (by have := LT.out; omega) h1 h2 h3 h4 h5)
 clear h1 h2 h3 h4 h5 S5
 go_wp2_with (fail)
 refine (msg_vote.calls k s e0 e1 e2 e3 e4 _ X7.out).mono ?_
 rintro e w12 ⟨rfl, hb⟩
 have HB := aS hb
 clear hb
 go_upto_region 5 with (first | ((with_reducible refine gate_dst (N := 9) rfl ?_); refine box_event ?hg (N := 9) ?hd (cs := #[.int .i64 0, .int .i64 0, .int .i64 0, .int .i64 0, .int .i64 0, .int .i64 0, .int .i64 0, .int .i64 0, .bool false, .string ⟨#[]⟩, .slice none 0 0]) (t := 26) ?hr ?_; (case hd => rfl); (case hg => rfl); (case hr => (first | (go_simp; done) | (go_simp; rfl))); intro g9 hg w13 hb hbl; have G9 := aS hg; have B9 := aS hb; have HB2 := aS (below_step HB.out hbl); clear hg hb hbl) | ((with_reducible refine gate_store (t := 26) (p := 9) rfl ?_); refine wpList_store_row rfl 26 _ _ rfl g9 #[.int .i64 n0, .int .i64 n1, .int .i64 n2, .int .i64 n3, .int .i64 n4, .int .i64 e0, .int .i64 e1, .int .i64 e2, .bool e3, .string e4, .slice none 0 0] rfl rfl 26 _ B9.out (by kernel_rfl) rfl (by kernel_rfl) ?_; have B91 := aS (setRow_heap w13 g9 _ #[.int .i64 n0, .int .i64 n1, .int .i64 n2, .int .i64 n3, .int .i64 n4, .int .i64 e0, .int .i64 e1, .int .i64 e2, .bool e3, .string e4, .slice none 0 0] _ _ B9.out); have HB3 := aS (below_setRow HB2.out (show w11.heap.size ≤ g9 by rw [G9.out]; exact HB.out.size) #[.int .i64 n0, .int .i64 n1, .int .i64 n2, .int .i64 n3, .int .i64 n4, .int .i64 e0, .int .i64 e1, .int .i64 e2, .bool e3, .string e4, .slice none 0 0]); clear B9 HB2; generalize World.setRow w13 g9 #[.int .i64 n0, .int .i64 n1, .int .i64 n2, .int .i64 n3, .int .i64 n4, .int .i64 e0, .int .i64 e1, .int .i64 e2, .bool e3, .string e4, .slice none 0 0] = w14 at B91 HB3 ⊢))
 have HL9 := aS (blk_lt B91.out)
 have q4 := cK1 ⟨blk_below S6.out.b4 HB3.out⟩
 go_upto_region 6 with (fail)
 refine (wire_CutTexts.calls k A7 c7 b5 ts b6 i6 _ (Kd.C_below S6.out.rd HB3.out) S6.out.hl X8.out).mono ?_
 rintro e w15 ⟨vl, vb, rfl, hol, hob, hb⟩
 obtain ⟨Al, cl, rfl⟩ := Kd.R_slice hol
 obtain ⟨Ab, cb, rfl, _⟩ := Kd.Q_slice hob
 have HLR := aS (Kd.F_mono (Kd.R_F (Kd.R_bound hol)) (ok' := fun q => w14.heap.size ≤ q) (fun q hq => hq.2.1))
 have HLc := aS (Kd.R_reads' hol).2.1
 have B92 := aS (blk_below B91.out hb)
 have HB4 := aS (below_step HB3.out hb)
 clear hol hob hb B91 q4
 have hl9 : w11.heap.size ≤ g9 ∧ g9 < w14.heap.size := by
  have := G9.out
  have h1 := HB.out.size
  have h2 := blk_lt B92.out
  exact ⟨by omega, HL9.out⟩
 have L9 := aS hl9
 clear hl9 G9 HL9
 go_wp2_with (fail)
 go_loopw [47] (fun v47 wr => ∃ (i : Nat) (acc : List S23) (v9 : Value), v47 = .int .i64 (i : Int) ∧ Aside0 (i ≤ ts.length) ∧ Aside0 (msg_Get.l0 k (ts.drop i) acc = some vs) ∧ Aside0 (wr.heap[g9]? = some (.cells #[.int .i64 n0, .int .i64 n1, .int .i64 n2, .int .i64 n3, .int .i64 n4, .int .i64 e0, .int .i64 e1, .int .i64 e2, .bool e3, .string e4, v9] 26 (0, 0))) ∧ Aside0 (Kd.R k23 23 wr w15.heap.size (fun _ => True) v9 acc) ∧ Aside0 (KeepBut w15 wr g9 none) ∧ Aside0 (Below w11.heap.size w11 wr)) (fun i _ => ts.length - (intOf i).toNat)
 case atStart => exact ⟨0, [], _, rfl, ⟨Nat.zero_le _⟩, X9, B92, ⟨Kd.R_nil _ _ _ _ _⟩, ⟨KeepBut.refl _ _ _⟩, HB4⟩
 case round =>
  obtain ⟨i, acc, v9, rfl, hi, HA, B9, HR9, HK, HBr⟩ := hrel
  by_cases hlt : i < ts.length
  ·
   have ha := HA.out
   rw [List.drop_eq_getElem_cons hlt] at ha
   unfold msg_Get.l0 at ha
   replace ha := obm ha; obtain ⟨⟨f0, f1, f2, f3, f4⟩, y1, ha⟩ := ha
   by_cases hbd : acc.length < 2932031007402
   rotate_left
   ·
    rw [if_neg hbd] at ha; cases ha
   rw [if_pos hbd] at ha
   have Y1 := aS y1
   have HA2 : Aside0 (msg_Get.l0 k (ts.drop (i + 1)) (acc ++ [(⟨f0, f1, f2, f3, f4⟩ : S23)]) = some vs) := aS ha
   have HBD := aS hbd
   clear y1 ha hbd HA
   obtain ⟨ad, had, hx⟩ := Kd.at_string (Kd.F_now (Kd.F_keep HLR.out HK.out (fun q hq => by have := L9.out; omega))) (i : Int) (by omega) (by omega)
   rw [show rdOf ByteArray.empty ts (i : Int) = ts[i] by simp [rdOf, hlt], Int.toNat_natCast] at hx
   cases had
   have hmx : ts.length ≤ 9223372036854775807 := Kd.F_max HLR.out
   generalize ts[i] = s9 at hx Y1
   go_upto_region 9 with (fail)
   refine start_ (n := 8) (ds := [5, 7]) (S := fun w' => w'.cell? ⟨g9, 10, none⟩ = some v9) #[false, false, false, false, false, false, false, false] (by kernel_rfl) rfl rfl ((blk_cell (blk_drew B9.out) 10).trans rfl) (fun hHeld => ?_)
   generalize hw16 : wr.drew = w16 at hHeld ⊢
   have B9d : Aside0 (w16.heap[g9]? = _) := aS (hw16 ▸ blk_drew B9.out)
   have HR9d : Aside0 (Kd.R _ _ w16 w15.heap.size _ _ _) := aS (hw16 ▸ Kd.R_drew HR9.out)
   have HKd : Aside0 (KeepBut w15 w16 g9 none) := aS (hw16 ▸ keep_drew HK.out)
   have HBd : Aside0 (Below w11.heap.size w11 w16) := aS (hw16 ▸ bdo HBr.out)
   clear hw16 B9 HR9 HK HBr hx hi
   refine with_tabW (T := (true, [([], []), ([0], [0]), ([], []), ([2], [2]), ([3], [3]), ([1, 4, 3], [1, 4]), ([0, 1, 2, 3, 4, 5], []), ([6, 5, 5, 0, 1, 2, 3, 4, 5], [5, 6])])) (B := [0, 1, 0, 4, 12, 31, 63, 127]) (by kernel_rfl) (by kernel_rfl) (fun HT_ HW_ => ?_)
   refine along_ [(0, 51), (2, 53)] ?_
   iterate 2 (apply pure1 HT_; (case hi => rfl); (case hN => rfl); (case hw => rfl); (case hc => kernel_rfl); (case hQ => exact fun _ _ _ h => h); (case hy => intro w'; go_simp; with_reducible rfl); (case ha => simp only [Act.put, lsa, lsz, lss, i64_w, i32_w]; rfl))
   refine lay_ #[true, false, true, false, false, false, false, false] (by kernel_rfl) ?_
   refine along_ [(1, 52)] ?_
   iterate 1 (apply take1 HT_ HW_ hHeld; (case hi => rfl); (case hN => rfl); (case hw => rfl); (case hc => kernel_rfl); (case hQ => exact fun _ _ _ h => h); (case hy => intro w' hs_; go_simp; with_reducible rfl); (case ha => simp only [Act.put, lsa, lsz, lss, i64_w, i32_w]; rfl))
   refine lay_ #[true, true, true, false, false, false, false, false] (by kernel_rfl) ?_
   refine one_ (i := 3) (N := (some 54)) #[true, true, true, true, false, false, false, false] rfl rfl (one_of HT_.out (by kernel_rfl)) (by decide) (fun K hK => ?_)
   refine goes_ Try.func39 (by kernel_rfl) rfl #[.string s9] (by rfl) rfl rfl agn ?_
   with_reducible refine (msg_vote.calls k s9 f0 f1 f2 f3 f4 _ Y1.out).mono ?_
   rintro e w17 ⟨rfl, hb⟩
   refine ⟨_, rfl, ?_⟩
   have B10 := aS (blk_below B9d.out hb)
   have HR9 := aS (Kd.R_below HR9d.out hb)
   have HK := aS (HKd.out.trans (KeepBut.of_below hb g9 none) (.inl rfl))
   have HBr := aS (below_step HBd.out hb)
   clear hb B9d HR9d HKd HBd
   refine hK.out _ _ ((blk_cell B10.out 10).trans rfl) (fun hHeld => ?_)
   clear hK K
   refine norm_ (a' := ?_) ?_ ?_
   rotate_left
   ·
    show Act.put _ (some 54) _ = _
    simp only [Act.put, lsa, lsz, lss, i64_w, i32_w]
    rfl
   refine one_ (i := 4) (N := (some 55)) #[true, true, true, true, true, false, false, false] rfl rfl (one_of HT_.out (by kernel_rfl)) (by decide) (fun K hK => ?_)
   refine value_ (w1 := ?_) (v := ?_) (by rfl) rfl ?_ ?_
   rotate_left 2
   ·
    go_simp
    constructor
    ·
     rfl
    ·
     rfl
   refine hK.out _ _ ((blk_cell (blk_alloc B10.out _) 10).trans rfl) (fun hHeld => ?_)
   clear hK K
   refine norm_ (a' := ?_) ?_ ?_
   rotate_left
   ·
    show Act.put _ (some 55) _ = _
    simp only [Act.put, lsa, lsz, lss, i64_w, i32_w]
    rfl
   refine last_ (i := 5) (N := (some 56)) #[true, true, true, true, true, true, false, false] rfl rfl (one_of HT_.out (by kernel_rfl)) (by decide) (fun K hK => ?_)
   refine Kd.R_append_step k23 (w0 := w17) w15.heap.size (by rfl) (.tmp 52) (.tmp 55) 24 23 (.agg #[.int .i64 0, .int .i64 0, .int .i64 0, .bool false, .string ⟨#[]⟩]) 48 rfl Try.underlying24 info23 rfl (by show 0 < 5; omega) (by omega) v9 acc ⟨f0, f1, f2, f3, f4⟩ [.int .i64 f0, .int .i64 f1, .int .i64 f2, .bool f3, .string f4] (fun _ => True) (fun _ => False) rfl rfl ?aP (fun _ hk => hk.elim) (fun _ _ => trivial) HR9.out (Below.refl _ _) ?aS ?aL ?_
   case aP => exact k23_mkM _ _ _ ⟨f0, f1, f2, f3, f4⟩
   case aS => exact HK.out.1
   case aL => have := HBD.out; omega
   intro v10 w18 ho hb hg hat
   generalize acc ++ [(⟨f0, f1, f2, f3, f4⟩ : S23)] = acc2 at ho HA2
   have X10 := aS (blk_grown B10.out (w1 := w18) hg (Kd.R_ne HR9.out B10.out (by decide)))
   have HR10 := aS ho
   have HK1 := aS (HK.out.trans (KeepBut.of_grown hg g9) (by first | (rcases Kd.R_own HR9.out with ⟨_, hown⟩; cases hv : v9.ownBlock with | none => exact .inl rfl | some q => exact .inr ⟨q, rfl, Kd.R_base HR9.out q hv⟩)))
   have HB5 := aS (pw_below_grown HBr.out _ (by have := HK.out.1; have := HBr.out.size; omega) hg (fun q hq => by have := Kd.R_base HR9.out q hq; have := HB4.out.size; omega))
   clear ho hb hg hat HR9 HK HBr
   refine hK.out _ _ ?_
   clear hK K
   refine norm_ (a' := ?_) ?_ ?_
   rotate_left
   ·
    show Act.put _ (some 56) _ = _
    simp only [Act.put, lsa, lsz, lss, i64_w, i32_w]
    rfl
   refine along_ [(6, 57)] ?_
   iterate 1 (apply pure1 HT_; (case hi => rfl); (case hN => rfl); (case hw => rfl); (case hc => kernel_rfl); (case hQ => exact fun _ _ _ h => h); (case hy => intro w'; go_simp; with_reducible rfl); (case ha => simp only [Act.put, lsa, lsz, lss, i64_w, i32_w]; rfl))
   refine lay_ #[true, true, true, true, true, true, true, false] (by kernel_rfl) ?_
   refine last_ (i := 7) (N := none) #[true, true, true, true, true, true, true, true] rfl rfl (one_of HT_.out (by kernel_rfl)) (by decide) (fun K hK => ?_)
   rw [if_pos (by rfl)]
   obtain ⟨Av, cv, rfl⟩ := Kd.R_slice HR10.out
   have hfz := blk_frozen X10.out 10
   have hcl := (blk_cell X10.out 10).trans rfl
   have B11 : Aside0 ((w18.setCell ⟨g9, 10, none⟩ (.slice Av acc2.length cv)).heap[g9]? = some (.cells #[.int .i64 n0, .int .i64 n1, .int .i64 n2, .int .i64 n3, .int .i64 n4, .int .i64 e0, .int .i64 e1, .int .i64 e2, .bool e3, .string e4, .slice Av acc2.length cv] 26 (0, 0))) := aS (blk_put X10.out 10 _ rfl)
   unfold Oper.wp
   go_simp
   refine hK.out _ _ ?_
   clear hK K
   refine done_ (by kernel_rfl) ?_
   have HR11 := aS (Kd.R_set HR10.out X10.out (by decide) 10 (.slice Av acc2.length cv))
   have HK2 := aS (HK1.out.set_ 10 (.slice Av acc2.length cv))
   have HB6 := aS (Below.setCell HB5.out (p := ⟨g9, 10, none⟩) L9.out.1 (.slice Av acc2.length cv))
   clear HR10 HK1 HB5 X10 hfz hcl B10 hHeld HT_ HW_
   generalize w18.setCell ⟨g9, 10, none⟩ (.slice Av acc2.length cv) = w19 at B11 HR11 HK2 HB6 ⊢
   go_wp2
   go_roundw
   case rel =>
    have o9 := HR11.out
    exact ⟨i + 1, _, _, by go_num, ⟨hlt⟩, HA2, B11, ⟨o9⟩, HK2, HB6⟩
   case measure => simp [intOf]; omega
  ·
   have hd : ts.drop i = [] := List.drop_eq_nil_of_le (by omega)
   have ha := HA.out
   rw [hd] at ha
   unfold msg_Get.l0 at ha
   obtain rfl := Option.some.inj ha
   clear ha hd HA hi
   go_upto_region 11 with (fail)
   obtain ⟨Av, cv, rfl⟩ := Kd.R_slice HR9.out
   have h := H.out
   unfold msg_Get.fin at h
   replace h := obm h; obtain ⟨⟨p1, p2⟩, z1, h⟩ := h
   have Z1 := aS z1
   have H2 := aS h
   have HBw := aS (below_step S6.out.bel HBr.out)
   have hg26 : g2 < w15.heap.size ∧ w.heap.size ≤ g2 := by
    have h1 := HB4.out.size
    have h2 := blk_lt S6.out.b2
    exact ⟨by omega, LT.out.1⟩
   have L2 := aS hg26
   have b2 := aS (blk_below S6.out.b2 HBr.out)
   have b6 := aS (blk_below S6.out.b6 HBr.out)
   have HVw := aS (Kd.V_below HV.out HBw.out)
   have HR := aS (Kd.R_mono (Kd.R_bound HR9.out) (ok' := fun q => w15.heap.size ≤ q) (fun q hq => hq.2.1))
   have hcv := aS (Kd.R_reads' HR9.out).2.1
   have hCv := aS (Kd.R_reads' HR9.out).2.2
   have q9 := cK11 B9
   clear h z1 H S6 HBr HK HR9 HLR HLc HB3 HB4 HB B92 hg26
   generalize hoo : ((((((ok && i0) && i1) && i2) && i3) && i4) && i5) = oo at b6 H2
   clear hoo
   go_upto_region 12 with (go_at_call 9; (with_reducible refine (msg_Put.calls k n0 n1 n2 n3 n4 e0 e1 e2 e3 e4 Av cv acc p1 p2 _ hCv.out hcv.out Z1.out).mono ?_); rintro e w20 ⟨vp, rfl, hop, hb⟩; obtain ⟨Ap, cp, rfl⟩ := Kd.R_slice hop; have PC := aS (Kd.R_reads' hop).2; have B2 := aS (blk_below b2.out hb); have B6 := aS (blk_below b6.out hb); have B10 := aS (blk_below B9.out hb); have HR2 := aS (Kd.R_below HR.out hb); have HB2 := aS (below_step HBw.out hb); have HV2 := aS (Kd.V_below HVw.out hb); clear hop hb b2 b6 B9 HR HBw HVw hCv hcv Z1 q9; have q9 := cK11 B10; have q6 := cK1 B6)
   have h := H2.out; clear H2
   have key : ∀ (cs : Array Value) (v : Value) (vs' : List S23) (w3 : World), w3 = w20 ∨ (∃ n, w3 = w20.drewN n) → cs.size = 11 → ((v = .slice none 0 0 ∧ vs' = []) ∨ (v = .slice Av acc.length cv ∧ vs' = acc)) → (w3.setRow g2 cs).heap[g2]? = some (.cells cs 26 (0, 0)) ∧ Kd.R k23 23 (w3.setRow g2 cs) w.heap.size (fun _ => True) v vs' ∧ Below w.heap.size w (w3.setRow g2 cs) := by
    intro cs v vs' w3 hw hn hv
    have hR3 : Kd.R k23 23 w3 w15.heap.size (fun q => w15.heap.size ≤ q) (.slice Av acc.length cv) acc := by rcases hw with rfl | ⟨n, rfl⟩; exact HR2.out; exact Kd.R_drewN HR2.out n
    have hB3 : w3.heap[g2]? = some (.cells #[.int .i64 0, .int .i64 0, .int .i64 0, .int .i64 0, .int .i64 0, .int .i64 0, .int .i64 0, .int .i64 0, .bool false, .string ⟨#[]⟩, .slice none 0 0] 26 (0, 0)) := by rcases hw with rfl | ⟨n, rfl⟩; exact B2.out; exact blk_drewN B2.out n
    have hBw3 : Below w.heap.size w w3 := by rcases hw with rfl | ⟨n, rfl⟩; exact HB2.out; exact bdN HB2.out n
    refine ⟨setRow_heap _ _ _ _ _ _ hB3, ?_, below_setRow hBw3 L2.out.2 _⟩
    rcases hv with ⟨rfl, rfl⟩ | ⟨rfl, rfl⟩
    ·
     exact Kd.R_nil _ _ _ _ _
    ·
     exact Kd.R_lower (Kd.R_mono (Kd.R_step hR3 (fun q hq _ => setRow_other _ _ _ _ (by have := L2.out; omega))) (fun _ _ => trivial)) (by have := L2.out; omega)
   have KEY := aS key
   clear key
   have B2d : ∀ n, Aside0 ((w20.drewN n).heap[g2]? = some (.cells #[.int .i64 0, .int .i64 0, .int .i64 0, .int .i64 0, .int .i64 0, .int .i64 0, .int .i64 0, .int .i64 0, .bool false, .string ⟨#[]⟩, .slice none 0 0] 26 (0, 0))) := fun n => aS (blk_drewN B2.out n)
   cases oo with
   | false =>
    rw [if_neg Bool.false_ne_true] at h
    simp only [msg_Get.bad, Option.some.injEq, Prod.mk.injEq] at h
    obtain ⟨rfl, rfl, rfl, rfl, rfl, rfl, rfl, rfl, rfl, rfl, rfl, rfl⟩ := h
    go_wp2_with (first | ((with_reducible refine gate_store (t := 26) (p := 2) rfl ?_); refine wpList_store_row rfl 26 _ _ rfl g2 #[.int .i64 0, .int .i64 0, .int .i64 0, .int .i64 0, .int .i64 0, .int .i64 0, .int .i64 0, .int .i64 0, .bool false, .string ⟨#[]⟩, .slice none 0 0] rfl rfl 26 _ B2.out (by kernel_rfl) rfl (by kernel_rfl) ?_))
    exact (fun K3 => bodyPost_ret (results_ct rfl _ _ g2 26 #[.int .i64 0, .int .i64 0, .int .i64 0, .int .i64 0, .int .i64 0, .int .i64 0, .int .i64 0, .int .i64 0, .bool false, .string ⟨#[]⟩, .slice none 0 0] (0, 0) _ rfl K3.1 Try.underlying26 rfl (by kernel_rfl)) rfl ⟨_, rfl, K3.2⟩) (KEY.out _ _ _ _ (.inl rfl) rfl (.inl ⟨rfl, rfl⟩))
   | true =>
    rw [if_pos rfl] at h
    by_cases hre : (rest.length : Int) > 0
    ·
     rw [if_pos hre] at h
     simp only [msg_Get.bad, Option.some.injEq, Prod.mk.injEq] at h
     obtain ⟨rfl, rfl, rfl, rfl, rfl, rfl, rfl, rfl, rfl, rfl, rfl, rfl⟩ := h
     have hr1 : decide ((0 : Int) < (rest.length : Int)) = true := decide_eq_true hre
     have hr2 : decide (0 < rest.length) = true := decide_eq_true (by omega)
     clear hre
     go_wp2_with (first | ((with_reducible refine gate_store (t := 26) (p := 2) rfl ?_); refine wpList_store_row rfl 26 _ _ rfl g2 #[.int .i64 0, .int .i64 0, .int .i64 0, .int .i64 0, .int .i64 0, .int .i64 0, .int .i64 0, .int .i64 0, .bool false, .string ⟨#[]⟩, .slice none 0 0] rfl rfl 26 _ B2.out (by kernel_rfl) rfl (by kernel_rfl) ?_))
     exact (fun K3 => bodyPost_ret (results_ct rfl _ _ g2 26 #[.int .i64 0, .int .i64 0, .int .i64 0, .int .i64 0, .int .i64 0, .int .i64 0, .int .i64 0, .int .i64 0, .bool false, .string ⟨#[]⟩, .slice none 0 0] (0, 0) _ rfl K3.1 Try.underlying26 rfl (by kernel_rfl)) rfl ⟨_, rfl, K3.2⟩) (KEY.out _ _ _ _ (.inl rfl) rfl (.inl ⟨rfl, rfl⟩))
    ·
     rw [if_neg hre] at h
     have hr1 : decide ((0 : Int) < (rest.length : Int)) = false := decide_eq_false hre
     have hr2 : decide (0 < rest.length) = false := decide_eq_false (by omega)
     clear hre
     by_cases hp : p2 = 0
     ·
      rw [if_pos hp] at h
      obtain ⟨hp1, hp2⟩ := eqT hp
      clear hp
      replace h := obm h; obtain ⟨q, z2, h⟩ := h
      have Z2 := aS z2
      clear z2
      cases q with
      | true =>
       rw [if_pos rfl] at h
       simp only [Option.some.injEq, Prod.mk.injEq] at h
       obtain ⟨rfl, rfl, rfl, rfl, rfl, rfl, rfl, rfl, rfl, rfl, rfl, rfl⟩ := h
       go_wp2_with (first | ((with_reducible refine gate_store (t := 26) (p := 2) rfl ?_); refine wpList_store_row rfl 26 _ _ rfl g2 #[.int .i64 n0, .int .i64 n1, .int .i64 n2, .int .i64 n3, .int .i64 n4, .int .i64 e0, .int .i64 e1, .int .i64 e2, .bool e3, .string e4, .slice Av acc.length cv] rfl rfl 26 _ (B2d _).out (by kernel_rfl) rfl (by kernel_rfl) ?_) | (go_at_call 41; (with_reducible refine (slices_Equal_byte_byte.calls k Ap cp p1 A0 c0 l0 true _ PC.out.2 PC.out.1 (Kd.F_now (Kd.V_at HV2.out).2.2) (Kd.V_at HV2.out).2.1 Z2.out).mono ?_); rintro e w21 ⟨rfl, ⟨nd, rfl⟩⟩))
       exact (fun K3 => bodyPost_ret (results_ct rfl _ _ g2 26 #[.int .i64 n0, .int .i64 n1, .int .i64 n2, .int .i64 n3, .int .i64 n4, .int .i64 e0, .int .i64 e1, .int .i64 e2, .bool e3, .string e4, .slice Av acc.length cv] (0, 0) _ rfl K3.1 Try.underlying26 rfl (by kernel_rfl)) rfl ⟨_, rfl, K3.2⟩) (KEY.out _ _ _ _ (.inr ⟨_, rfl⟩) rfl (.inr ⟨rfl, rfl⟩))
      | false =>
       rw [if_neg Bool.false_ne_true] at h
       simp only [msg_Get.bad, Option.some.injEq, Prod.mk.injEq] at h
       obtain ⟨rfl, rfl, rfl, rfl, rfl, rfl, rfl, rfl, rfl, rfl, rfl, rfl⟩ := h
       go_wp2_with (first | ((with_reducible refine gate_store (t := 26) (p := 2) rfl ?_); refine wpList_store_row rfl 26 _ _ rfl g2 #[.int .i64 0, .int .i64 0, .int .i64 0, .int .i64 0, .int .i64 0, .int .i64 0, .int .i64 0, .int .i64 0, .bool false, .string ⟨#[]⟩, .slice none 0 0] rfl rfl 26 _ (B2d _).out (by kernel_rfl) rfl (by kernel_rfl) ?_) | (go_at_call 41; (with_reducible refine (slices_Equal_byte_byte.calls k Ap cp p1 A0 c0 l0 false _ PC.out.2 PC.out.1 (Kd.F_now (Kd.V_at HV2.out).2.2) (Kd.V_at HV2.out).2.1 Z2.out).mono ?_); rintro e w21 ⟨rfl, ⟨nd, rfl⟩⟩))
       exact (fun K3 => bodyPost_ret (results_ct rfl _ _ g2 26 #[.int .i64 0, .int .i64 0, .int .i64 0, .int .i64 0, .int .i64 0, .int .i64 0, .int .i64 0, .int .i64 0, .bool false, .string ⟨#[]⟩, .slice none 0 0] (0, 0) _ rfl K3.1 Try.underlying26 rfl (by kernel_rfl)) rfl ⟨_, rfl, K3.2⟩) (KEY.out _ _ _ _ (.inr ⟨_, rfl⟩) rfl (.inl ⟨rfl, rfl⟩))
     ·
      rw [if_neg hp] at h
      simp only [msg_Get.bad, Option.some.injEq, Prod.mk.injEq] at h
      obtain ⟨rfl, rfl, rfl, rfl, rfl, rfl, rfl, rfl, rfl, rfl, rfl, rfl⟩ := h
      obtain ⟨hp1, hp2⟩ := eqF hp
      clear hp
      go_wp2_with (first | ((with_reducible refine gate_store (t := 26) (p := 2) rfl ?_); refine wpList_store_row rfl 26 _ _ rfl g2 #[.int .i64 0, .int .i64 0, .int .i64 0, .int .i64 0, .int .i64 0, .int .i64 0, .int .i64 0, .int .i64 0, .bool false, .string ⟨#[]⟩, .slice none 0 0] rfl rfl 26 _ B2.out (by kernel_rfl) rfl (by kernel_rfl) ?_))
      exact (fun K3 => bodyPost_ret (results_ct rfl _ _ g2 26 #[.int .i64 0, .int .i64 0, .int .i64 0, .int .i64 0, .int .i64 0, .int .i64 0, .int .i64 0, .int .i64 0, .bool false, .string ⟨#[]⟩, .slice none 0 0] (0, 0) _ rfl K3.1 Try.underlying26 rfl (by kernel_rfl)) rfl ⟨_, rfl, K3.2⟩) (KEY.out _ _ _ _ (.inl rfl) rfl (.inl ⟨rfl, rfl⟩))

/-! ### shardloglaw19_awake: function 7 -/
def shardloglaw19_awake.f (k : Nat)  : Option (Bool) := (msg_Put.f k 1 1 2 9 0 0 0 0 false (⟨#[]⟩ : ByteArray) ([] : List (S23))).bind fun bt372 => ((msg_Get.f k bt372.1).bind fun bt376 => ((msg_Get.f k ([] : List Int)).bind fun bt391 => (if bt372.2 = 0 then (if (bt372.1.length : Int) = 40 then (if bt376.2.2.2.2.2.2.2.2.2.2.2 = 0 then ((msg_Same.f k 1 1 2 9 0 0 0 0 false (⟨#[]⟩ : ByteArray) ([] : List (S23)) bt376.1 bt376.2.1 bt376.2.2.1 bt376.2.2.2.1 bt376.2.2.2.2.1 bt376.2.2.2.2.2.1 bt376.2.2.2.2.2.2.1 bt376.2.2.2.2.2.2.2.1 bt376.2.2.2.2.2.2.2.2.1 bt376.2.2.2.2.2.2.2.2.2.1 bt376.2.2.2.2.2.2.2.2.2.2.1).bind fun t406 => (if t406 = true then (if bt376.2.2.2.1 = 9 then (if bt391.2.2.2.2.2.2.2.2.2.2.2 = 2 then ((msg_Right.f k 1 1 2 9 0 0 0 0 false (⟨#[]⟩ : ByteArray) ([] : List (S23))).bind fun t407 => (if t407 = true then ((msg_Right.f k 0 0 0 0 0 0 0 0 false (⟨#[]⟩ : ByteArray) ([] : List (S23))).bind fun t408 => (some (!t408))) else (none))) else (none)) else (none)) else (none))) else (none)) else (none)) else (none))))
theorem shardloglaw19_awake.mono : ∀ k, LeO (shardloglaw19_awake.f k ) (shardloglaw19_awake.f (k + 1) ) := by
 intro  k
 unfold shardloglaw19_awake.f
 repeat' first
   | (with_reducible exact msg_Get.mono _ _)
   | (with_reducible exact msg_Put.mono _ _ _ _ _ _ _ _ _ _ _ _)
   | (with_reducible exact msg_Right.mono _ _ _ _ _ _ _ _ _ _ _ _)
   | (with_reducible exact msg_Same.mono _ _ _ _ _ _ _ _ _ _ _ _ _ _ _ _ _ _ _ _ _ _ _)
   | (with_reducible exact LeO.refl _)
   | (with_reducible exact LeO.none _)
   | (with_reducible refine LeO.ite ?_ ?_)
   | (with_reducible refine LeO.bind ?_ (fun _ => ?_))
   | exact LeO.none _
   | refine LeO.ite ?_ ?_
   | refine LeO.bind ?_ (fun _ => ?_)
set_option maxHeartbeats 8000000 in
set_option maxRecDepth 100000 in
theorem shardloglaw19_awake.calls (k : Nat)  (r : Bool) (w : World) (h : shardloglaw19_awake.f k  = some r) :
  Calls Try.prog 7 #[] w fun e w' => e = .returned (.bool r) ∧ Below w.heap.size w w' := by
 have hu26 := Try.underlying26
 have HB := aS (Below.refl w.heap.size w)
 have H : ((msg_Put.f k 1 1 2 9 0 0 0 0 false (⟨#[]⟩ : ByteArray) ([] : List (S23))).bind fun bt372 => ((msg_Get.f k bt372.1).bind fun bt376 => ((msg_Get.f k ([] : List Int)).bind fun bt391 => (if bt372.2 = 0 then (if (bt372.1.length : Int) = 40 then (if bt376.2.2.2.2.2.2.2.2.2.2.2 = 0 then ((msg_Same.f k 1 1 2 9 0 0 0 0 false (⟨#[]⟩ : ByteArray) ([] : List (S23)) bt376.1 bt376.2.1 bt376.2.2.1 bt376.2.2.2.1 bt376.2.2.2.2.1 bt376.2.2.2.2.2.1 bt376.2.2.2.2.2.2.1 bt376.2.2.2.2.2.2.2.1 bt376.2.2.2.2.2.2.2.2.1 bt376.2.2.2.2.2.2.2.2.2.1 bt376.2.2.2.2.2.2.2.2.2.2.1).bind fun t406 => (if t406 = true then (if bt376.2.2.2.1 = 9 then (if bt391.2.2.2.2.2.2.2.2.2.2.2 = 2 then ((msg_Right.f k 1 1 2 9 0 0 0 0 false (⟨#[]⟩ : ByteArray) ([] : List (S23))).bind fun t407 => (if t407 = true then ((msg_Right.f k 0 0 0 0 0 0 0 0 false (⟨#[]⟩ : ByteArray) ([] : List (S23))).bind fun t408 => (some (!t408))) else (none))) else (none)) else (none)) else (none))) else (none)) else (none)) else (none))))) = some r := h
 clear h
 replace H := obm H
 obtain ⟨⟨t372, t375⟩, A10, H⟩ := H
 replace H : ((msg_Get.f k t372).bind fun bt376 => ((msg_Get.f k ([] : List Int)).bind fun bt391 => (if t375 = 0 then (if (t372.length : Int) = 40 then (if bt376.2.2.2.2.2.2.2.2.2.2.2 = 0 then ((msg_Same.f k 1 1 2 9 0 0 0 0 false (⟨#[]⟩ : ByteArray) ([] : List (S23)) bt376.1 bt376.2.1 bt376.2.2.1 bt376.2.2.2.1 bt376.2.2.2.2.1 bt376.2.2.2.2.2.1 bt376.2.2.2.2.2.2.1 bt376.2.2.2.2.2.2.2.1 bt376.2.2.2.2.2.2.2.2.1 bt376.2.2.2.2.2.2.2.2.2.1 bt376.2.2.2.2.2.2.2.2.2.2.1).bind fun t406 => (if t406 = true then (if bt376.2.2.2.1 = 9 then (if bt391.2.2.2.2.2.2.2.2.2.2.2 = 2 then ((msg_Right.f k 1 1 2 9 0 0 0 0 false (⟨#[]⟩ : ByteArray) ([] : List (S23))).bind fun t407 => (if t407 = true then ((msg_Right.f k 0 0 0 0 0 0 0 0 false (⟨#[]⟩ : ByteArray) ([] : List (S23))).bind fun t408 => (some (!t408))) else (none))) else (none)) else (none)) else (none))) else (none)) else (none)) else (none)))) = some r := H
 have A1 := aS A10
 clear A10
 replace H := obm H
 obtain ⟨⟨t376, t377, t378, t379, t380, t381, t382, t383, t384, t385, t386, t389⟩, A20, H⟩ := H
 replace H : ((msg_Get.f k ([] : List Int)).bind fun bt391 => (if t375 = 0 then (if (t372.length : Int) = 40 then (if t389 = 0 then ((msg_Same.f k 1 1 2 9 0 0 0 0 false (⟨#[]⟩ : ByteArray) ([] : List (S23)) t376 t377 t378 t379 t380 t381 t382 t383 t384 t385 t386).bind fun t406 => (if t406 = true then (if t379 = 9 then (if bt391.2.2.2.2.2.2.2.2.2.2.2 = 2 then ((msg_Right.f k 1 1 2 9 0 0 0 0 false (⟨#[]⟩ : ByteArray) ([] : List (S23))).bind fun t407 => (if t407 = true then ((msg_Right.f k 0 0 0 0 0 0 0 0 false (⟨#[]⟩ : ByteArray) ([] : List (S23))).bind fun t408 => (some (!t408))) else (none))) else (none)) else (none)) else (none))) else (none)) else (none)) else (none))) = some r := H
 have A2 := aS A20
 clear A20
 replace H := obm H
 obtain ⟨⟨t391, t392, t393, t394, t395, t396, t397, t398, t399, t400, t401, t404⟩, A30, H⟩ := H
 replace H : (if t375 = 0 then (if (t372.length : Int) = 40 then (if t389 = 0 then ((msg_Same.f k 1 1 2 9 0 0 0 0 false (⟨#[]⟩ : ByteArray) ([] : List (S23)) t376 t377 t378 t379 t380 t381 t382 t383 t384 t385 t386).bind fun t406 => (if t406 = true then (if t379 = 9 then (if t404 = 2 then ((msg_Right.f k 1 1 2 9 0 0 0 0 false (⟨#[]⟩ : ByteArray) ([] : List (S23))).bind fun t407 => (if t407 = true then ((msg_Right.f k 0 0 0 0 0 0 0 0 false (⟨#[]⟩ : ByteArray) ([] : List (S23))).bind fun t408 => (some (!t408))) else (none))) else (none)) else (none)) else (none))) else (none)) else (none)) else (none)) = some r := H
 have A3 := aS A30
 clear A30
 by_cases c4 : t375 = 0
 ·
  rw [if_pos c4] at H
  obtain ⟨c4b0, c4b1⟩ := eqT c4
  clear c4
  by_cases c5 : (t372.length : Int) = 40
  ·
   rw [if_pos c5] at H
   obtain ⟨c5b0, c5b1⟩ := eqT c5
   clear c5
   by_cases c6 : t389 = 0
   ·
    rw [if_pos c6] at H
    obtain ⟨c6b0, c6b1⟩ := eqT c6
    clear c6
    replace H := obm H
    obtain ⟨t406, A70, H⟩ := H
    replace H : (if t406 = true then (if t379 = 9 then (if t404 = 2 then ((msg_Right.f k 1 1 2 9 0 0 0 0 false (⟨#[]⟩ : ByteArray) ([] : List (S23))).bind fun t407 => (if t407 = true then ((msg_Right.f k 0 0 0 0 0 0 0 0 false (⟨#[]⟩ : ByteArray) ([] : List (S23))).bind fun t408 => (some (!t408))) else (none))) else (none)) else (none)) else (none)) = some r := H
    have A7 := aS A70
    clear A70
    by_cases c8 : t406 = true
    ·
     subst c8
     have H1 : (if t379 = 9 then (if t404 = 2 then ((msg_Right.f k 1 1 2 9 0 0 0 0 false (⟨#[]⟩ : ByteArray) ([] : List (S23))).bind fun t407 => (if t407 = true then ((msg_Right.f k 0 0 0 0 0 0 0 0 false (⟨#[]⟩ : ByteArray) ([] : List (S23))).bind fun t408 => (some (!t408))) else (none))) else (none)) else (none)) = some r := by rw [if_pos rfl] at H; exact H
     clear H; have H := H1; clear H1
     by_cases c9 : t379 = 9
     ·
      rw [if_pos c9] at H
      obtain ⟨c9b0, c9b1⟩ := eqT c9
      clear c9
      by_cases c10 : t404 = 2
      ·
       rw [if_pos c10] at H
       obtain ⟨c10b0, c10b1⟩ := eqT c10
       clear c10
       replace H := obm H
       obtain ⟨t407, A110, H⟩ := H
       replace H : (if t407 = true then ((msg_Right.f k 0 0 0 0 0 0 0 0 false (⟨#[]⟩ : ByteArray) ([] : List (S23))).bind fun t408 => (some (!t408))) else (none)) = some r := H
       have A11 := aS A110
       clear A110
       by_cases c12 : t407 = true
       ·
        subst c12
        have H1 : ((msg_Right.f k 0 0 0 0 0 0 0 0 false (⟨#[]⟩ : ByteArray) ([] : List (S23))).bind fun t408 => (some (!t408))) = some r := by rw [if_pos rfl] at H; exact H
        clear H; have H := H1; clear H1
        replace H := obm H
        obtain ⟨t408, A130, H⟩ := H
        replace H : (some (!t408)) = some r := H
        have A13 := aS A130
        clear A130
        obtain rfl := Option.some.inj H
        go_enter Try.func7, Try.ntmps7
        go_wp2_with (first | ((with_reducible refine gate_dst (N := 1) rfl ?_); (try (refine gate_guard (by rfl) ?_; dsimp only)); refine box_event ?hg (N := 1) ?hd (cs := #[.int .i64 0, .int .i64 0, .int .i64 0, .int .i64 0, .int .i64 0, .int .i64 0, .int .i64 0, .int .i64 0, .bool false, .string (⟨#[]⟩ : ByteArray), .slice none 0 0]) (t := 26) ?hr ?_; (case hd => rfl); (case hg => rfl); (case hr => first | (go_simp; done) | (go_simp; rfl)); intro gb371 hg w14 hbox hb; have n0_ := bstep hb; have n1_ := aS (hbox); have n2_ := bsize hg; have n3_ := bsize hg; clear HB; have HB := n0_; have BK371 := n1_; have GW371 := n2_; have GE371 := n3_; clear n0_ n1_ n2_ n3_; clear hb hbox hg; have hcz15 := cK11 BK371) | ((with_reducible refine gate_callee (f := 9) rfl ?_); refine goesL_ (some 11) rfl rfl Try.func9 (by kernel_rfl) rfl #[.agg #[.int .i64 1, .int .i64 1, .int .i64 2, .int .i64 9, .int .i64 0, .int .i64 0, .int .i64 0, .int .i64 0, .bool false, .string (⟨#[]⟩ : ByteArray), .slice none 0 0]] rfl agn ?_; (refine (msg_Put.calls k 1 1 2 9 0 0 0 0 false (⟨#[]⟩ : ByteArray) _ _ ([] : List (S23)) t372 t375 _ ?side1 ?side2 A1.out).mono ?_); (case side1 => exact Kd.C_nil _ _); (case side2 => exact Nat.le_refl _); rintro e w16 ⟨v373, rfl, ho0, hb⟩; refine ⟨_, rfl, ?_⟩; have n0_ := aS (Kd.R_lower ho0 (below_size bel)); have n1_ := aS (blk_below (g := gb371) (o := .cells #[.int .i64 1, .int .i64 1, .int .i64 2, .int .i64 9, .int .i64 0, .int .i64 0, .int .i64 0, .int .i64 0, .bool false, .string (⟨#[]⟩ : ByteArray), .slice none 0 0] 26 (0, 0)) (by (with_reducible repeat (first | refine blk_drewN ?_ _ | refine blk_drew ?_ | refine blk_alloc ?_ _)); refine blk_put (cs := #[.int .i64 1, .int .i64 1, .int .i64 2, .int .i64 9, .int .i64 0, .int .i64 0, .int .i64 0, .int .i64 0, .bool false, .string (⟨#[]⟩ : ByteArray), .slice none 0 0]) ?_ 10 _ rfl; (with_reducible repeat (first | refine blk_drewN ?_ _ | refine blk_drew ?_ | refine blk_alloc ?_ _)); refine blk_put (cs := #[.int .i64 1, .int .i64 1, .int .i64 2, .int .i64 9, .int .i64 0, .int .i64 0, .int .i64 0, .int .i64 0, .bool false, .string (⟨#[]⟩ : ByteArray), .slice none 0 0]) ?_ 9 _ rfl; (with_reducible repeat (first | refine blk_drewN ?_ _ | refine blk_drew ?_ | refine blk_alloc ?_ _)); refine blk_put (cs := #[.int .i64 1, .int .i64 1, .int .i64 2, .int .i64 9, .int .i64 0, .int .i64 0, .int .i64 0, .int .i64 0, .bool false, .string (⟨#[]⟩ : ByteArray), .slice none 0 0]) ?_ 8 _ rfl; (with_reducible repeat (first | refine blk_drewN ?_ _ | refine blk_drew ?_ | refine blk_alloc ?_ _)); refine blk_put (cs := #[.int .i64 1, .int .i64 1, .int .i64 2, .int .i64 9, .int .i64 0, .int .i64 0, .int .i64 0, .int .i64 0, .bool false, .string (⟨#[]⟩ : ByteArray), .slice none 0 0]) ?_ 7 _ rfl; (with_reducible repeat (first | refine blk_drewN ?_ _ | refine blk_drew ?_ | refine blk_alloc ?_ _)); refine blk_put (cs := #[.int .i64 1, .int .i64 1, .int .i64 2, .int .i64 9, .int .i64 0, .int .i64 0, .int .i64 0, .int .i64 0, .bool false, .string (⟨#[]⟩ : ByteArray), .slice none 0 0]) ?_ 6 _ rfl; (with_reducible repeat (first | refine blk_drewN ?_ _ | refine blk_drew ?_ | refine blk_alloc ?_ _)); refine blk_put (cs := #[.int .i64 1, .int .i64 1, .int .i64 2, .int .i64 9, .int .i64 0, .int .i64 0, .int .i64 0, .int .i64 0, .bool false, .string (⟨#[]⟩ : ByteArray), .slice none 0 0]) ?_ 5 _ rfl; (with_reducible repeat (first | refine blk_drewN ?_ _ | refine blk_drew ?_ | refine blk_alloc ?_ _)); refine blk_put (cs := #[.int .i64 1, .int .i64 1, .int .i64 2, .int .i64 9, .int .i64 0, .int .i64 0, .int .i64 0, .int .i64 0, .bool false, .string (⟨#[]⟩ : ByteArray), .slice none 0 0]) ?_ 4 _ rfl; (with_reducible repeat (first | refine blk_drewN ?_ _ | refine blk_drew ?_ | refine blk_alloc ?_ _)); refine blk_put (cs := #[.int .i64 1, .int .i64 1, .int .i64 2, .int .i64 0, .int .i64 0, .int .i64 0, .int .i64 0, .int .i64 0, .bool false, .string (⟨#[]⟩ : ByteArray), .slice none 0 0]) ?_ 3 _ rfl; (with_reducible repeat (first | refine blk_drewN ?_ _ | refine blk_drew ?_ | refine blk_alloc ?_ _)); refine blk_put (cs := #[.int .i64 1, .int .i64 1, .int .i64 0, .int .i64 0, .int .i64 0, .int .i64 0, .int .i64 0, .int .i64 0, .bool false, .string (⟨#[]⟩ : ByteArray), .slice none 0 0]) ?_ 2 _ rfl; (with_reducible repeat (first | refine blk_drewN ?_ _ | refine blk_drew ?_ | refine blk_alloc ?_ _)); refine blk_put (cs := #[.int .i64 1, .int .i64 0, .int .i64 0, .int .i64 0, .int .i64 0, .int .i64 0, .int .i64 0, .int .i64 0, .bool false, .string (⟨#[]⟩ : ByteArray), .slice none 0 0]) ?_ 1 _ rfl; (with_reducible repeat (first | refine blk_drewN ?_ _ | refine blk_drew ?_ | refine blk_alloc ?_ _)); refine blk_put (cs := #[.int .i64 0, .int .i64 0, .int .i64 0, .int .i64 0, .int .i64 0, .int .i64 0, .int .i64 0, .int .i64 0, .bool false, .string (⟨#[]⟩ : ByteArray), .slice none 0 0]) ?_ 0 _ rfl; (with_reducible repeat (first | refine blk_drewN ?_ _ | refine blk_drew ?_ | refine blk_alloc ?_ _)); exact BK371.out) hb); have n2_ := bstep hb; clear BK371; clear HB; have HO374 := n0_; have BK371 := n1_; have HB := n2_; clear n0_ n1_ n2_; (try clear hb); (try clear hb2); (try clear hk); (try clear hi); (try clear ho0); obtain ⟨Ao17, co17, eo17⟩ := Kd.R_slice HO374.out; subst eo17) | ((with_reducible refine gate_callee (f := 16) rfl ?_); refine goesL_ (some 16) rfl rfl Try.func16 (by kernel_rfl) rfl #[.slice Ao17 t372.length co17] rfl agn ?_; (with_reducible refine (msg_Get.calls k _ _ t372 t376 t377 t378 t379 t380 t381 t382 t383 t384 t385 t386 t389 _ ?side1 ?side2 A2.out).mono ?_); (case side1 => exact cel ((Kd.R_reads' HO374.out).2.2)); (case side2 => exact (Kd.R_reads' HO374.out).2.1); rintro e w18 ⟨v387, rfl, ho0, hb⟩; refine ⟨_, rfl, ?_⟩; have n0_ := aS (Kd.R_below (rel HO374.out) hb); have n1_ := aS (Kd.R_lower ho0 (below_size bel)); have n2_ := aS (blk_below (g := gb371) (o := .cells #[.int .i64 1, .int .i64 1, .int .i64 2, .int .i64 9, .int .i64 0, .int .i64 0, .int .i64 0, .int .i64 0, .bool false, .string (⟨#[]⟩ : ByteArray), .slice none 0 0] 26 (0, 0)) (bkl BK371.out) hb); have n3_ := bstep hb; clear HO374; clear BK371; clear HB; have HO374 := n0_; have HO388 := n1_; have BK371 := n2_; have HB := n3_; clear n0_ n1_ n2_ n3_; (try clear hb); (try clear hb2); (try clear hk); (try clear hi); (try clear ho0)) | ((with_reducible refine gate_dst (N := 4) rfl ?_); (try (refine gate_guard (by rfl) ?_; dsimp only)); refine box_event ?hg (N := 4) ?hd (cs := #[.int .i64 0, .int .i64 0, .int .i64 0, .int .i64 0, .int .i64 0, .int .i64 0, .int .i64 0, .int .i64 0, .bool false, .string (⟨#[]⟩ : ByteArray), .slice none 0 0]) (t := 26) ?hr ?_; (case hd => rfl); (case hg => rfl); (case hr => first | (go_simp; done) | (go_simp; rfl)); intro gb390 hg w19 hbox hb; have n0_ := aS (Kd.R_below (rel HO374.out) hb); have n1_ := aS (Kd.R_below (rel HO388.out) hb); have n2_ := aS (blk_below (g := gb371) (o := .cells #[.int .i64 1, .int .i64 1, .int .i64 2, .int .i64 9, .int .i64 0, .int .i64 0, .int .i64 0, .int .i64 0, .bool false, .string (⟨#[]⟩ : ByteArray), .slice none 0 0] 26 (0, 0)) (bkl BK371.out) hb); have n3_ := bstep hb; have n4_ := aS (hbox); have n5_ := bsize hg; have n6_ := bsize hg; have n7_ := aS ((by rw [hg]; exact Nat.ne_of_lt (blk_lt (g := gb371) (o := .cells #[.int .i64 1, .int .i64 1, .int .i64 2, .int .i64 9, .int .i64 0, .int .i64 0, .int .i64 0, .int .i64 0, .bool false, .string (⟨#[]⟩ : ByteArray), .slice none 0 0] 26 (0, 0)) (bkl BK371.out)) : gb371 ≠ gb390)); have n8_ := aS ((by rw [hg]; exact Nat.ne_of_gt (blk_lt (g := gb371) (o := .cells #[.int .i64 1, .int .i64 1, .int .i64 2, .int .i64 9, .int .i64 0, .int .i64 0, .int .i64 0, .int .i64 0, .bool false, .string (⟨#[]⟩ : ByteArray), .slice none 0 0] 26 (0, 0)) (bkl BK371.out)) : gb390 ≠ gb371)); clear HO374; clear HO388; clear BK371; clear HB; have HO374 := n0_; have HO388 := n1_; have BK371 := n2_; have HB := n3_; have BK390 := n4_; have GW390 := n5_; have GE390 := n6_; have NB371_390 := n7_; have NB390_371 := n8_; clear n0_ n1_ n2_ n3_ n4_ n5_ n6_ n7_ n8_; clear hb hbox hg; have hnb20 := NB390_371.out; have hnc20 := NB371_390.out; have hcz21 := cK11 BK390; obtain ⟨Ao22, co22, eo22⟩ := Kd.R_slice HO388.out; subst eo22) | ((with_reducible refine gate_callee (f := 16) rfl ?_); refine goesL_ (some 20) rfl rfl Try.func16 (by kernel_rfl) rfl #[.slice none 0 0] rfl agn ?_; (refine (msg_Get.calls k _ _ ([] : List Int) t391 t392 t393 t394 t395 t396 t397 t398 t399 t400 t401 t404 _ ?side1 ?side2 A3.out).mono ?_); (case side1 => exact Kd.C_nil _ _); (case side2 => exact Nat.le_refl _); rintro e w23 ⟨v402, rfl, ho0, hb⟩; refine ⟨_, rfl, ?_⟩; have n0_ := aS (Kd.R_below (by (with_reducible repeat (first | apply Kd.R_alloc | apply Kd.R_drewN | apply Kd.R_drew)); exact (Kd.R_mono (Kd.R_far (p := ⟨gb390, 10, none⟩) (Kd.R_far (p := ⟨gb390, 9, none⟩) (Kd.R_far (p := ⟨gb390, 8, none⟩) (Kd.R_far (p := ⟨gb390, 7, none⟩) (Kd.R_far (p := ⟨gb390, 6, none⟩) (Kd.R_far (p := ⟨gb390, 5, none⟩) (Kd.R_far (p := ⟨gb390, 4, none⟩) (Kd.R_far (p := ⟨gb390, 3, none⟩) (Kd.R_far (p := ⟨gb390, 2, none⟩) (Kd.R_far (p := ⟨gb390, 1, none⟩) (Kd.R_far (p := ⟨gb390, 0, none⟩) (Kd.R_types HO374.out BK390.out (by decide)) (fun _ hk => hk.2) (.int .i64 t376)) (fun _ hk => hk.2) (.int .i64 t377)) (fun _ hk => hk.2) (.int .i64 t378)) (fun _ hk => hk.2) (.int .i64 t379)) (fun _ hk => hk.2) (.int .i64 t380)) (fun _ hk => hk.2) (.int .i64 t381)) (fun _ hk => hk.2) (.int .i64 t382)) (fun _ hk => hk.2) (.int .i64 t383)) (fun _ hk => hk.2) (.bool t384)) (fun _ hk => hk.2) (.string t385)) (fun _ hk => hk.2) (.slice Ao22 t386.length co22)) (fun _ h_ => h_.1))) hb); have n1_ := aS (Kd.R_elder' (by (with_reducible repeat (first | apply Kd.R_alloc | apply Kd.R_drewN | apply Kd.R_drew)); exact (Kd.R_mono (Kd.R_far (p := ⟨gb390, 10, none⟩) (Kd.R_far (p := ⟨gb390, 9, none⟩) (Kd.R_far (p := ⟨gb390, 8, none⟩) (Kd.R_far (p := ⟨gb390, 7, none⟩) (Kd.R_far (p := ⟨gb390, 6, none⟩) (Kd.R_far (p := ⟨gb390, 5, none⟩) (Kd.R_far (p := ⟨gb390, 4, none⟩) (Kd.R_far (p := ⟨gb390, 3, none⟩) (Kd.R_far (p := ⟨gb390, 2, none⟩) (Kd.R_far (p := ⟨gb390, 1, none⟩) (Kd.R_far (p := ⟨gb390, 0, none⟩) (Kd.R_types HO388.out BK390.out (by decide)) (fun _ hk => hk.2) (.int .i64 t376)) (fun _ hk => hk.2) (.int .i64 t377)) (fun _ hk => hk.2) (.int .i64 t378)) (fun _ hk => hk.2) (.int .i64 t379)) (fun _ hk => hk.2) (.int .i64 t380)) (fun _ hk => hk.2) (.int .i64 t381)) (fun _ hk => hk.2) (.int .i64 t382)) (fun _ hk => hk.2) (.int .i64 t383)) (fun _ hk => hk.2) (.bool t384)) (fun _ hk => hk.2) (.string t385)) (fun _ hk => hk.2) (.slice Ao22 t386.length co22)) (fun _ h_ => h_.1))) (by first | exact Kd.R_base ho0 | exact Kd.S_base ho0 | exact Kd.R_base ho0 | exact Kd.V_base ho0) hb); have n2_ := aS (Kd.R_lower (Kd.R_new' ho0 (Kd.R_lt (by (with_reducible repeat (first | apply Kd.R_alloc | apply Kd.R_drewN | apply Kd.R_drew)); exact (Kd.R_mono (Kd.R_far (p := ⟨gb390, 10, none⟩) (Kd.R_far (p := ⟨gb390, 9, none⟩) (Kd.R_far (p := ⟨gb390, 8, none⟩) (Kd.R_far (p := ⟨gb390, 7, none⟩) (Kd.R_far (p := ⟨gb390, 6, none⟩) (Kd.R_far (p := ⟨gb390, 5, none⟩) (Kd.R_far (p := ⟨gb390, 4, none⟩) (Kd.R_far (p := ⟨gb390, 3, none⟩) (Kd.R_far (p := ⟨gb390, 2, none⟩) (Kd.R_far (p := ⟨gb390, 1, none⟩) (Kd.R_far (p := ⟨gb390, 0, none⟩) (Kd.R_types HO388.out BK390.out (by decide)) (fun _ hk => hk.2) (.int .i64 t376)) (fun _ hk => hk.2) (.int .i64 t377)) (fun _ hk => hk.2) (.int .i64 t378)) (fun _ hk => hk.2) (.int .i64 t379)) (fun _ hk => hk.2) (.int .i64 t380)) (fun _ hk => hk.2) (.int .i64 t381)) (fun _ hk => hk.2) (.int .i64 t382)) (fun _ hk => hk.2) (.int .i64 t383)) (fun _ hk => hk.2) (.bool t384)) (fun _ hk => hk.2) (.string t385)) (fun _ hk => hk.2) (.slice Ao22 t386.length co22)) (fun _ h_ => h_.1))))) (below_size bel)); have n3_ := aS (blk_below (g := gb371) (o := .cells #[.int .i64 1, .int .i64 1, .int .i64 2, .int .i64 9, .int .i64 0, .int .i64 0, .int .i64 0, .int .i64 0, .bool false, .string (⟨#[]⟩ : ByteArray), .slice none 0 0] 26 (0, 0)) (by (with_reducible repeat (first | refine blk_drewN ?_ _ | refine blk_drew ?_ | refine blk_alloc ?_ _)); refine blk_far ?_ NB371_390.out _; (with_reducible repeat (first | refine blk_drewN ?_ _ | refine blk_drew ?_ | refine blk_alloc ?_ _)); refine blk_far ?_ NB371_390.out _; (with_reducible repeat (first | refine blk_drewN ?_ _ | refine blk_drew ?_ | refine blk_alloc ?_ _)); refine blk_far ?_ NB371_390.out _; (with_reducible repeat (first | refine blk_drewN ?_ _ | refine blk_drew ?_ | refine blk_alloc ?_ _)); refine blk_far ?_ NB371_390.out _; (with_reducible repeat (first | refine blk_drewN ?_ _ | refine blk_drew ?_ | refine blk_alloc ?_ _)); refine blk_far ?_ NB371_390.out _; (with_reducible repeat (first | refine blk_drewN ?_ _ | refine blk_drew ?_ | refine blk_alloc ?_ _)); refine blk_far ?_ NB371_390.out _; (with_reducible repeat (first | refine blk_drewN ?_ _ | refine blk_drew ?_ | refine blk_alloc ?_ _)); refine blk_far ?_ NB371_390.out _; (with_reducible repeat (first | refine blk_drewN ?_ _ | refine blk_drew ?_ | refine blk_alloc ?_ _)); refine blk_far ?_ NB371_390.out _; (with_reducible repeat (first | refine blk_drewN ?_ _ | refine blk_drew ?_ | refine blk_alloc ?_ _)); refine blk_far ?_ NB371_390.out _; (with_reducible repeat (first | refine blk_drewN ?_ _ | refine blk_drew ?_ | refine blk_alloc ?_ _)); refine blk_far ?_ NB371_390.out _; (with_reducible repeat (first | refine blk_drewN ?_ _ | refine blk_drew ?_ | refine blk_alloc ?_ _)); refine blk_far ?_ NB371_390.out _; (with_reducible repeat (first | refine blk_drewN ?_ _ | refine blk_drew ?_ | refine blk_alloc ?_ _)); exact BK371.out) hb); have n4_ := aS (blk_below (g := gb390) (o := .cells #[.int .i64 t376, .int .i64 t377, .int .i64 t378, .int .i64 t379, .int .i64 t380, .int .i64 t381, .int .i64 t382, .int .i64 t383, .bool t384, .string t385, .slice Ao22 t386.length co22] 26 (0, 0)) (by (with_reducible repeat (first | refine blk_drewN ?_ _ | refine blk_drew ?_ | refine blk_alloc ?_ _)); refine blk_put (cs := #[.int .i64 t376, .int .i64 t377, .int .i64 t378, .int .i64 t379, .int .i64 t380, .int .i64 t381, .int .i64 t382, .int .i64 t383, .bool t384, .string t385, .slice none 0 0]) ?_ 10 _ rfl; (with_reducible repeat (first | refine blk_drewN ?_ _ | refine blk_drew ?_ | refine blk_alloc ?_ _)); refine blk_put (cs := #[.int .i64 t376, .int .i64 t377, .int .i64 t378, .int .i64 t379, .int .i64 t380, .int .i64 t381, .int .i64 t382, .int .i64 t383, .bool t384, .string (⟨#[]⟩ : ByteArray), .slice none 0 0]) ?_ 9 _ rfl; (with_reducible repeat (first | refine blk_drewN ?_ _ | refine blk_drew ?_ | refine blk_alloc ?_ _)); refine blk_put (cs := #[.int .i64 t376, .int .i64 t377, .int .i64 t378, .int .i64 t379, .int .i64 t380, .int .i64 t381, .int .i64 t382, .int .i64 t383, .bool false, .string (⟨#[]⟩ : ByteArray), .slice none 0 0]) ?_ 8 _ rfl; (with_reducible repeat (first | refine blk_drewN ?_ _ | refine blk_drew ?_ | refine blk_alloc ?_ _)); refine blk_put (cs := #[.int .i64 t376, .int .i64 t377, .int .i64 t378, .int .i64 t379, .int .i64 t380, .int .i64 t381, .int .i64 t382, .int .i64 0, .bool false, .string (⟨#[]⟩ : ByteArray), .slice none 0 0]) ?_ 7 _ rfl; (with_reducible repeat (first | refine blk_drewN ?_ _ | refine blk_drew ?_ | refine blk_alloc ?_ _)); refine blk_put (cs := #[.int .i64 t376, .int .i64 t377, .int .i64 t378, .int .i64 t379, .int .i64 t380, .int .i64 t381, .int .i64 0, .int .i64 0, .bool false, .string (⟨#[]⟩ : ByteArray), .slice none 0 0]) ?_ 6 _ rfl; (with_reducible repeat (first | refine blk_drewN ?_ _ | refine blk_drew ?_ | refine blk_alloc ?_ _)); refine blk_put (cs := #[.int .i64 t376, .int .i64 t377, .int .i64 t378, .int .i64 t379, .int .i64 t380, .int .i64 0, .int .i64 0, .int .i64 0, .bool false, .string (⟨#[]⟩ : ByteArray), .slice none 0 0]) ?_ 5 _ rfl; (with_reducible repeat (first | refine blk_drewN ?_ _ | refine blk_drew ?_ | refine blk_alloc ?_ _)); refine blk_put (cs := #[.int .i64 t376, .int .i64 t377, .int .i64 t378, .int .i64 t379, .int .i64 0, .int .i64 0, .int .i64 0, .int .i64 0, .bool false, .string (⟨#[]⟩ : ByteArray), .slice none 0 0]) ?_ 4 _ rfl; (with_reducible repeat (first | refine blk_drewN ?_ _ | refine blk_drew ?_ | refine blk_alloc ?_ _)); refine blk_put (cs := #[.int .i64 t376, .int .i64 t377, .int .i64 t378, .int .i64 0, .int .i64 0, .int .i64 0, .int .i64 0, .int .i64 0, .bool false, .string (⟨#[]⟩ : ByteArray), .slice none 0 0]) ?_ 3 _ rfl; (with_reducible repeat (first | refine blk_drewN ?_ _ | refine blk_drew ?_ | refine blk_alloc ?_ _)); refine blk_put (cs := #[.int .i64 t376, .int .i64 t377, .int .i64 0, .int .i64 0, .int .i64 0, .int .i64 0, .int .i64 0, .int .i64 0, .bool false, .string (⟨#[]⟩ : ByteArray), .slice none 0 0]) ?_ 2 _ rfl; (with_reducible repeat (first | refine blk_drewN ?_ _ | refine blk_drew ?_ | refine blk_alloc ?_ _)); refine blk_put (cs := #[.int .i64 t376, .int .i64 0, .int .i64 0, .int .i64 0, .int .i64 0, .int .i64 0, .int .i64 0, .int .i64 0, .bool false, .string (⟨#[]⟩ : ByteArray), .slice none 0 0]) ?_ 1 _ rfl; (with_reducible repeat (first | refine blk_drewN ?_ _ | refine blk_drew ?_ | refine blk_alloc ?_ _)); refine blk_put (cs := #[.int .i64 0, .int .i64 0, .int .i64 0, .int .i64 0, .int .i64 0, .int .i64 0, .int .i64 0, .int .i64 0, .bool false, .string (⟨#[]⟩ : ByteArray), .slice none 0 0]) ?_ 0 _ rfl; (with_reducible repeat (first | refine blk_drewN ?_ _ | refine blk_drew ?_ | refine blk_alloc ?_ _)); exact BK390.out) hb); have n5_ := bstep hb; clear HO374; clear HO388; clear BK371; clear BK390; clear HB; have HO374 := n0_; have HO388 := n1_; have HO403 := n2_; have BK371 := n3_; have BK390 := n4_; have HB := n5_; clear n0_ n1_ n2_ n3_ n4_ n5_; (try clear hb); (try clear hb2); (try clear hk); (try clear hi); (try clear ho0)) | ((with_reducible refine gate_dst (N := 6) rfl ?_); (try (refine gate_guard (by rfl) ?_; dsimp only)); refine box_event ?hg (N := 6) ?hd (cs := #[.int .i64 0, .int .i64 0, .int .i64 0, .int .i64 0, .int .i64 0, .int .i64 0, .int .i64 0, .int .i64 0, .bool false, .string (⟨#[]⟩ : ByteArray), .slice none 0 0]) (t := 26) ?hr ?_; (case hd => rfl); (case hg => rfl); (case hr => first | (go_simp; done) | (go_simp; rfl)); intro gb405 hg w24 hbox hb; have n0_ := aS (Kd.R_below (rel HO374.out) hb); have n1_ := aS (Kd.R_below (rel HO388.out) hb); have n2_ := aS (Kd.R_below (rel HO403.out) hb); have n3_ := aS (blk_below (g := gb371) (o := .cells #[.int .i64 1, .int .i64 1, .int .i64 2, .int .i64 9, .int .i64 0, .int .i64 0, .int .i64 0, .int .i64 0, .bool false, .string (⟨#[]⟩ : ByteArray), .slice none 0 0] 26 (0, 0)) (bkl BK371.out) hb); have n4_ := aS (blk_below (g := gb390) (o := .cells #[.int .i64 t376, .int .i64 t377, .int .i64 t378, .int .i64 t379, .int .i64 t380, .int .i64 t381, .int .i64 t382, .int .i64 t383, .bool t384, .string t385, .slice Ao22 t386.length co22] 26 (0, 0)) (bkl BK390.out) hb); have n5_ := bstep hb; have n6_ := aS (hbox); have n7_ := bsize hg; have n8_ := bsize hg; have n9_ := aS ((by rw [hg]; exact Nat.ne_of_lt (blk_lt (g := gb371) (o := .cells #[.int .i64 1, .int .i64 1, .int .i64 2, .int .i64 9, .int .i64 0, .int .i64 0, .int .i64 0, .int .i64 0, .bool false, .string (⟨#[]⟩ : ByteArray), .slice none 0 0] 26 (0, 0)) (bkl BK371.out)) : gb371 ≠ gb405)); have n10_ := aS ((by rw [hg]; exact Nat.ne_of_gt (blk_lt (g := gb371) (o := .cells #[.int .i64 1, .int .i64 1, .int .i64 2, .int .i64 9, .int .i64 0, .int .i64 0, .int .i64 0, .int .i64 0, .bool false, .string (⟨#[]⟩ : ByteArray), .slice none 0 0] 26 (0, 0)) (bkl BK371.out)) : gb405 ≠ gb371)); have n11_ := aS ((by rw [hg]; exact Nat.ne_of_lt (blk_lt (g := gb390) (o := .cells #[.int .i64 t376, .int .i64 t377, .int .i64 t378, .int .i64 t379, .int .i64 t380, .int .i64 t381, .int .i64 t382, .int .i64 t383, .bool t384, .string t385, .slice Ao22 t386.length co22] 26 (0, 0)) (bkl BK390.out)) : gb390 ≠ gb405)); have n12_ := aS ((by rw [hg]; exact Nat.ne_of_gt (blk_lt (g := gb390) (o := .cells #[.int .i64 t376, .int .i64 t377, .int .i64 t378, .int .i64 t379, .int .i64 t380, .int .i64 t381, .int .i64 t382, .int .i64 t383, .bool t384, .string t385, .slice Ao22 t386.length co22] 26 (0, 0)) (bkl BK390.out)) : gb405 ≠ gb390)); clear HO374; clear HO388; clear HO403; clear BK371; clear BK390; clear HB; have HO374 := n0_; have HO388 := n1_; have HO403 := n2_; have BK371 := n3_; have BK390 := n4_; have HB := n5_; have BK405 := n6_; have GW405 := n7_; have GE405 := n8_; have NB371_405 := n9_; have NB405_371 := n10_; have NB390_405 := n11_; have NB405_390 := n12_; clear n0_ n1_ n2_ n3_ n4_ n5_ n6_ n7_ n8_ n9_ n10_ n11_ n12_; clear hb hbox hg; have hnb25 := NB405_371.out; have hnc25 := NB371_405.out; have hnb26 := NB405_390.out; have hnc26 := NB390_405.out; have hcz27 := cK11 BK405; obtain ⟨Ao28, co28, eo28⟩ := Kd.R_slice HO403.out; subst eo28; have hcz29 := cK11 BK371; have hcz30 := cK11 BK390) | (go_at_call 12; (refine (msg_Same.calls k 1 1 2 9 0 0 0 0 false (⟨#[]⟩ : ByteArray) _ _ ([] : List (S23)) t376 t377 t378 t379 t380 t381 t382 t383 t384 t385 _ _ t386 true _ ?side1 ?side2 ?side3 ?side4 A7.out).mono ?_); (case side1 => exact Kd.C_nil _ _); (case side2 => exact Nat.le_refl _); (case side3 => refine (Kd.R_reads' (e := 23) (base := w.heap.size) (ok := fun k_ => (True ∧ some k_ ≠ (.slice Ao28 t401.length co28 : Value).ownBlock)) (n := t386.length) (c := co22) ?_).2.2; exact (by (with_reducible repeat (first | apply Kd.R_alloc | apply Kd.R_drewN | apply Kd.R_drew)); exact (Kd.R_mono (Kd.R_far (p := ⟨gb405, 10, none⟩) (Kd.R_far (p := ⟨gb405, 9, none⟩) (Kd.R_far (p := ⟨gb405, 8, none⟩) (Kd.R_far (p := ⟨gb405, 7, none⟩) (Kd.R_far (p := ⟨gb405, 6, none⟩) (Kd.R_far (p := ⟨gb405, 5, none⟩) (Kd.R_far (p := ⟨gb405, 4, none⟩) (Kd.R_far (p := ⟨gb405, 3, none⟩) (Kd.R_far (p := ⟨gb405, 2, none⟩) (Kd.R_far (p := ⟨gb405, 1, none⟩) (Kd.R_far (p := ⟨gb405, 0, none⟩) (Kd.R_types HO388.out BK405.out (by decide)) (fun _ hk => hk.2) (.int .i64 t391)) (fun _ hk => hk.2) (.int .i64 t392)) (fun _ hk => hk.2) (.int .i64 t393)) (fun _ hk => hk.2) (.int .i64 t394)) (fun _ hk => hk.2) (.int .i64 t395)) (fun _ hk => hk.2) (.int .i64 t396)) (fun _ hk => hk.2) (.int .i64 t397)) (fun _ hk => hk.2) (.int .i64 t398)) (fun _ hk => hk.2) (.bool t399)) (fun _ hk => hk.2) (.string t400)) (fun _ hk => hk.2) (.slice Ao28 t401.length co28)) (fun _ h_ => h_.1)))); (case side4 => exact (Kd.R_reads' HO388.out).2.1); rintro e w31 ⟨rfl, hb⟩; have n0_ := aS (Kd.R_below (by (with_reducible repeat (first | apply Kd.R_alloc | apply Kd.R_drewN | apply Kd.R_drew)); exact (Kd.R_mono (Kd.R_far (p := ⟨gb405, 10, none⟩) (Kd.R_far (p := ⟨gb405, 9, none⟩) (Kd.R_far (p := ⟨gb405, 8, none⟩) (Kd.R_far (p := ⟨gb405, 7, none⟩) (Kd.R_far (p := ⟨gb405, 6, none⟩) (Kd.R_far (p := ⟨gb405, 5, none⟩) (Kd.R_far (p := ⟨gb405, 4, none⟩) (Kd.R_far (p := ⟨gb405, 3, none⟩) (Kd.R_far (p := ⟨gb405, 2, none⟩) (Kd.R_far (p := ⟨gb405, 1, none⟩) (Kd.R_far (p := ⟨gb405, 0, none⟩) (Kd.R_types HO374.out BK405.out (by decide)) (fun _ hk => hk.2) (.int .i64 t391)) (fun _ hk => hk.2) (.int .i64 t392)) (fun _ hk => hk.2) (.int .i64 t393)) (fun _ hk => hk.2) (.int .i64 t394)) (fun _ hk => hk.2) (.int .i64 t395)) (fun _ hk => hk.2) (.int .i64 t396)) (fun _ hk => hk.2) (.int .i64 t397)) (fun _ hk => hk.2) (.int .i64 t398)) (fun _ hk => hk.2) (.bool t399)) (fun _ hk => hk.2) (.string t400)) (fun _ hk => hk.2) (.slice Ao28 t401.length co28)) (fun _ h_ => h_.1))) hb); have n1_ := aS (Kd.R_below (by (with_reducible repeat (first | apply Kd.R_alloc | apply Kd.R_drewN | apply Kd.R_drew)); exact (Kd.R_mono (Kd.R_far (p := ⟨gb405, 10, none⟩) (Kd.R_far (p := ⟨gb405, 9, none⟩) (Kd.R_far (p := ⟨gb405, 8, none⟩) (Kd.R_far (p := ⟨gb405, 7, none⟩) (Kd.R_far (p := ⟨gb405, 6, none⟩) (Kd.R_far (p := ⟨gb405, 5, none⟩) (Kd.R_far (p := ⟨gb405, 4, none⟩) (Kd.R_far (p := ⟨gb405, 3, none⟩) (Kd.R_far (p := ⟨gb405, 2, none⟩) (Kd.R_far (p := ⟨gb405, 1, none⟩) (Kd.R_far (p := ⟨gb405, 0, none⟩) (Kd.R_types HO388.out BK405.out (by decide)) (fun _ hk => hk.2) (.int .i64 t391)) (fun _ hk => hk.2) (.int .i64 t392)) (fun _ hk => hk.2) (.int .i64 t393)) (fun _ hk => hk.2) (.int .i64 t394)) (fun _ hk => hk.2) (.int .i64 t395)) (fun _ hk => hk.2) (.int .i64 t396)) (fun _ hk => hk.2) (.int .i64 t397)) (fun _ hk => hk.2) (.int .i64 t398)) (fun _ hk => hk.2) (.bool t399)) (fun _ hk => hk.2) (.string t400)) (fun _ hk => hk.2) (.slice Ao28 t401.length co28)) (fun _ h_ => h_.1))) hb); have n2_ := aS (Kd.R_below (by (with_reducible repeat (first | apply Kd.R_alloc | apply Kd.R_drewN | apply Kd.R_drew)); exact (Kd.R_mono (Kd.R_far (p := ⟨gb405, 10, none⟩) (Kd.R_far (p := ⟨gb405, 9, none⟩) (Kd.R_far (p := ⟨gb405, 8, none⟩) (Kd.R_far (p := ⟨gb405, 7, none⟩) (Kd.R_far (p := ⟨gb405, 6, none⟩) (Kd.R_far (p := ⟨gb405, 5, none⟩) (Kd.R_far (p := ⟨gb405, 4, none⟩) (Kd.R_far (p := ⟨gb405, 3, none⟩) (Kd.R_far (p := ⟨gb405, 2, none⟩) (Kd.R_far (p := ⟨gb405, 1, none⟩) (Kd.R_far (p := ⟨gb405, 0, none⟩) (Kd.R_types HO403.out BK405.out (by decide)) (fun _ hk => hk.2) (.int .i64 t391)) (fun _ hk => hk.2) (.int .i64 t392)) (fun _ hk => hk.2) (.int .i64 t393)) (fun _ hk => hk.2) (.int .i64 t394)) (fun _ hk => hk.2) (.int .i64 t395)) (fun _ hk => hk.2) (.int .i64 t396)) (fun _ hk => hk.2) (.int .i64 t397)) (fun _ hk => hk.2) (.int .i64 t398)) (fun _ hk => hk.2) (.bool t399)) (fun _ hk => hk.2) (.string t400)) (fun _ hk => hk.2) (.slice Ao28 t401.length co28)) (fun _ h_ => h_.1))) hb); have n3_ := aS (blk_below (g := gb371) (o := .cells #[.int .i64 1, .int .i64 1, .int .i64 2, .int .i64 9, .int .i64 0, .int .i64 0, .int .i64 0, .int .i64 0, .bool false, .string (⟨#[]⟩ : ByteArray), .slice none 0 0] 26 (0, 0)) (by (with_reducible repeat (first | refine blk_drewN ?_ _ | refine blk_drew ?_ | refine blk_alloc ?_ _)); refine blk_far ?_ NB371_405.out _; (with_reducible repeat (first | refine blk_drewN ?_ _ | refine blk_drew ?_ | refine blk_alloc ?_ _)); refine blk_far ?_ NB371_405.out _; (with_reducible repeat (first | refine blk_drewN ?_ _ | refine blk_drew ?_ | refine blk_alloc ?_ _)); refine blk_far ?_ NB371_405.out _; (with_reducible repeat (first | refine blk_drewN ?_ _ | refine blk_drew ?_ | refine blk_alloc ?_ _)); refine blk_far ?_ NB371_405.out _; (with_reducible repeat (first | refine blk_drewN ?_ _ | refine blk_drew ?_ | refine blk_alloc ?_ _)); refine blk_far ?_ NB371_405.out _; (with_reducible repeat (first | refine blk_drewN ?_ _ | refine blk_drew ?_ | refine blk_alloc ?_ _)); refine blk_far ?_ NB371_405.out _; (with_reducible repeat (first | refine blk_drewN ?_ _ | refine blk_drew ?_ | refine blk_alloc ?_ _)); refine blk_far ?_ NB371_405.out _; (with_reducible repeat (first | refine blk_drewN ?_ _ | refine blk_drew ?_ | refine blk_alloc ?_ _)); refine blk_far ?_ NB371_405.out _; (with_reducible repeat (first | refine blk_drewN ?_ _ | refine blk_drew ?_ | refine blk_alloc ?_ _)); refine blk_far ?_ NB371_405.out _; (with_reducible repeat (first | refine blk_drewN ?_ _ | refine blk_drew ?_ | refine blk_alloc ?_ _)); refine blk_far ?_ NB371_405.out _; (with_reducible repeat (first | refine blk_drewN ?_ _ | refine blk_drew ?_ | refine blk_alloc ?_ _)); refine blk_far ?_ NB371_405.out _; (with_reducible repeat (first | refine blk_drewN ?_ _ | refine blk_drew ?_ | refine blk_alloc ?_ _)); exact BK371.out) hb); have n4_ := aS (blk_below (g := gb390) (o := .cells #[.int .i64 t376, .int .i64 t377, .int .i64 t378, .int .i64 t379, .int .i64 t380, .int .i64 t381, .int .i64 t382, .int .i64 t383, .bool t384, .string t385, .slice Ao22 t386.length co22] 26 (0, 0)) (by (with_reducible repeat (first | refine blk_drewN ?_ _ | refine blk_drew ?_ | refine blk_alloc ?_ _)); refine blk_far ?_ NB390_405.out _; (with_reducible repeat (first | refine blk_drewN ?_ _ | refine blk_drew ?_ | refine blk_alloc ?_ _)); refine blk_far ?_ NB390_405.out _; (with_reducible repeat (first | refine blk_drewN ?_ _ | refine blk_drew ?_ | refine blk_alloc ?_ _)); refine blk_far ?_ NB390_405.out _; (with_reducible repeat (first | refine blk_drewN ?_ _ | refine blk_drew ?_ | refine blk_alloc ?_ _)); refine blk_far ?_ NB390_405.out _; (with_reducible repeat (first | refine blk_drewN ?_ _ | refine blk_drew ?_ | refine blk_alloc ?_ _)); refine blk_far ?_ NB390_405.out _; (with_reducible repeat (first | refine blk_drewN ?_ _ | refine blk_drew ?_ | refine blk_alloc ?_ _)); refine blk_far ?_ NB390_405.out _; (with_reducible repeat (first | refine blk_drewN ?_ _ | refine blk_drew ?_ | refine blk_alloc ?_ _)); refine blk_far ?_ NB390_405.out _; (with_reducible repeat (first | refine blk_drewN ?_ _ | refine blk_drew ?_ | refine blk_alloc ?_ _)); refine blk_far ?_ NB390_405.out _; (with_reducible repeat (first | refine blk_drewN ?_ _ | refine blk_drew ?_ | refine blk_alloc ?_ _)); refine blk_far ?_ NB390_405.out _; (with_reducible repeat (first | refine blk_drewN ?_ _ | refine blk_drew ?_ | refine blk_alloc ?_ _)); refine blk_far ?_ NB390_405.out _; (with_reducible repeat (first | refine blk_drewN ?_ _ | refine blk_drew ?_ | refine blk_alloc ?_ _)); refine blk_far ?_ NB390_405.out _; (with_reducible repeat (first | refine blk_drewN ?_ _ | refine blk_drew ?_ | refine blk_alloc ?_ _)); exact BK390.out) hb); have n5_ := aS (blk_below (g := gb405) (o := .cells #[.int .i64 t391, .int .i64 t392, .int .i64 t393, .int .i64 t394, .int .i64 t395, .int .i64 t396, .int .i64 t397, .int .i64 t398, .bool t399, .string t400, .slice Ao28 t401.length co28] 26 (0, 0)) (by (with_reducible repeat (first | refine blk_drewN ?_ _ | refine blk_drew ?_ | refine blk_alloc ?_ _)); refine blk_put (cs := #[.int .i64 t391, .int .i64 t392, .int .i64 t393, .int .i64 t394, .int .i64 t395, .int .i64 t396, .int .i64 t397, .int .i64 t398, .bool t399, .string t400, .slice none 0 0]) ?_ 10 _ rfl; (with_reducible repeat (first | refine blk_drewN ?_ _ | refine blk_drew ?_ | refine blk_alloc ?_ _)); refine blk_put (cs := #[.int .i64 t391, .int .i64 t392, .int .i64 t393, .int .i64 t394, .int .i64 t395, .int .i64 t396, .int .i64 t397, .int .i64 t398, .bool t399, .string (⟨#[]⟩ : ByteArray), .slice none 0 0]) ?_ 9 _ rfl; (with_reducible repeat (first | refine blk_drewN ?_ _ | refine blk_drew ?_ | refine blk_alloc ?_ _)); refine blk_put (cs := #[.int .i64 t391, .int .i64 t392, .int .i64 t393, .int .i64 t394, .int .i64 t395, .int .i64 t396, .int .i64 t397, .int .i64 t398, .bool false, .string (⟨#[]⟩ : ByteArray), .slice none 0 0]) ?_ 8 _ rfl; (with_reducible repeat (first | refine blk_drewN ?_ _ | refine blk_drew ?_ | refine blk_alloc ?_ _)); refine blk_put (cs := #[.int .i64 t391, .int .i64 t392, .int .i64 t393, .int .i64 t394, .int .i64 t395, .int .i64 t396, .int .i64 t397, .int .i64 0, .bool false, .string (⟨#[]⟩ : ByteArray), .slice none 0 0]) ?_ 7 _ rfl; (with_reducible repeat (first | refine blk_drewN ?_ _ | refine blk_drew ?_ | refine blk_alloc ?_ _)); refine blk_put (cs := #[.int .i64 t391, .int .i64 t392, .int .i64 t393, .int .i64 t394, .int .i64 t395, .int .i64 t396, .int .i64 0, .int .i64 0, .bool false, .string (⟨#[]⟩ : ByteArray), .slice none 0 0]) ?_ 6 _ rfl; (with_reducible repeat (first | refine blk_drewN ?_ _ | refine blk_drew ?_ | refine blk_alloc ?_ _)); refine blk_put (cs := #[.int .i64 t391, .int .i64 t392, .int .i64 t393, .int .i64 t394, .int .i64 t395, .int .i64 0, .int .i64 0, .int .i64 0, .bool false, .string (⟨#[]⟩ : ByteArray), .slice none 0 0]) ?_ 5 _ rfl; (with_reducible repeat (first | refine blk_drewN ?_ _ | refine blk_drew ?_ | refine blk_alloc ?_ _)); refine blk_put (cs := #[.int .i64 t391, .int .i64 t392, .int .i64 t393, .int .i64 t394, .int .i64 0, .int .i64 0, .int .i64 0, .int .i64 0, .bool false, .string (⟨#[]⟩ : ByteArray), .slice none 0 0]) ?_ 4 _ rfl; (with_reducible repeat (first | refine blk_drewN ?_ _ | refine blk_drew ?_ | refine blk_alloc ?_ _)); refine blk_put (cs := #[.int .i64 t391, .int .i64 t392, .int .i64 t393, .int .i64 0, .int .i64 0, .int .i64 0, .int .i64 0, .int .i64 0, .bool false, .string (⟨#[]⟩ : ByteArray), .slice none 0 0]) ?_ 3 _ rfl; (with_reducible repeat (first | refine blk_drewN ?_ _ | refine blk_drew ?_ | refine blk_alloc ?_ _)); refine blk_put (cs := #[.int .i64 t391, .int .i64 t392, .int .i64 0, .int .i64 0, .int .i64 0, .int .i64 0, .int .i64 0, .int .i64 0, .bool false, .string (⟨#[]⟩ : ByteArray), .slice none 0 0]) ?_ 2 _ rfl; (with_reducible repeat (first | refine blk_drewN ?_ _ | refine blk_drew ?_ | refine blk_alloc ?_ _)); refine blk_put (cs := #[.int .i64 t391, .int .i64 0, .int .i64 0, .int .i64 0, .int .i64 0, .int .i64 0, .int .i64 0, .int .i64 0, .bool false, .string (⟨#[]⟩ : ByteArray), .slice none 0 0]) ?_ 1 _ rfl; (with_reducible repeat (first | refine blk_drewN ?_ _ | refine blk_drew ?_ | refine blk_alloc ?_ _)); refine blk_put (cs := #[.int .i64 0, .int .i64 0, .int .i64 0, .int .i64 0, .int .i64 0, .int .i64 0, .int .i64 0, .int .i64 0, .bool false, .string (⟨#[]⟩ : ByteArray), .slice none 0 0]) ?_ 0 _ rfl; (with_reducible repeat (first | refine blk_drewN ?_ _ | refine blk_drew ?_ | refine blk_alloc ?_ _)); exact BK405.out) hb); have n6_ := bstep hb; clear HO374; clear HO388; clear HO403; clear BK371; clear BK390; clear BK405; clear HB; have HO374 := n0_; have HO388 := n1_; have HO403 := n2_; have BK371 := n3_; have BK390 := n4_; have BK405 := n5_; have HB := n6_; clear n0_ n1_ n2_ n3_ n4_ n5_ n6_; (try clear hb); (try clear hb2); (try clear hk); (try clear hi); have hcz32 := cK11 BK390; have hcz33 := cK11 BK371) | (go_at_call 10; (with_reducible refine calls_of_args (args' := #[.agg #[.int .i64 1, .int .i64 1, .int .i64 2, .int .i64 9, .int .i64 0, .int .i64 0, .int .i64 0, .int .i64 0, .bool false, .string (⟨#[]⟩ : ByteArray), .slice none 0 0]]) rfl ?_); (refine (msg_Right.calls k 1 1 2 9 0 0 0 0 false (⟨#[]⟩ : ByteArray) _ _ ([] : List (S23)) true _ ?side1 ?side2 A11.out).mono ?_); (case side1 => exact Kd.C_nil _ _); (case side2 => exact Nat.le_refl _); rintro e w34 ⟨rfl, hb⟩; have n0_ := aS (Kd.R_below (rel HO374.out) hb); have n1_ := aS (Kd.R_below (rel HO388.out) hb); have n2_ := aS (Kd.R_below (rel HO403.out) hb); have n3_ := aS (blk_below (g := gb371) (o := .cells #[.int .i64 1, .int .i64 1, .int .i64 2, .int .i64 9, .int .i64 0, .int .i64 0, .int .i64 0, .int .i64 0, .bool false, .string (⟨#[]⟩ : ByteArray), .slice none 0 0] 26 (0, 0)) (bkl BK371.out) hb); have n4_ := aS (blk_below (g := gb390) (o := .cells #[.int .i64 t376, .int .i64 t377, .int .i64 t378, .int .i64 t379, .int .i64 t380, .int .i64 t381, .int .i64 t382, .int .i64 t383, .bool t384, .string t385, .slice Ao22 t386.length co22] 26 (0, 0)) (bkl BK390.out) hb); have n5_ := aS (blk_below (g := gb405) (o := .cells #[.int .i64 t391, .int .i64 t392, .int .i64 t393, .int .i64 t394, .int .i64 t395, .int .i64 t396, .int .i64 t397, .int .i64 t398, .bool t399, .string t400, .slice Ao28 t401.length co28] 26 (0, 0)) (bkl BK405.out) hb); have n6_ := bstep hb; clear HO374; clear HO388; clear HO403; clear BK371; clear BK390; clear BK405; clear HB; have HO374 := n0_; have HO388 := n1_; have HO403 := n2_; have BK371 := n3_; have BK390 := n4_; have BK405 := n5_; have HB := n6_; clear n0_ n1_ n2_ n3_ n4_ n5_ n6_; (try clear hb); (try clear hb2); (try clear hk); (try clear hi)) | (go_at_call 10; (with_reducible refine calls_of_args (args' := #[.agg #[.int .i64 0, .int .i64 0, .int .i64 0, .int .i64 0, .int .i64 0, .int .i64 0, .int .i64 0, .int .i64 0, .bool false, .string (⟨#[]⟩ : ByteArray), .slice none 0 0]]) rfl ?_); (refine (msg_Right.calls k 0 0 0 0 0 0 0 0 false (⟨#[]⟩ : ByteArray) _ _ ([] : List (S23)) t408 _ ?side1 ?side2 A13.out).mono ?_); (case side1 => exact Kd.C_nil _ _); (case side2 => exact Nat.le_refl _); rintro e w35 ⟨rfl, hb⟩; have n0_ := aS (Kd.R_below (rel HO374.out) hb); have n1_ := aS (Kd.R_below (rel HO388.out) hb); have n2_ := aS (Kd.R_below (rel HO403.out) hb); have n3_ := aS (blk_below (g := gb371) (o := .cells #[.int .i64 1, .int .i64 1, .int .i64 2, .int .i64 9, .int .i64 0, .int .i64 0, .int .i64 0, .int .i64 0, .bool false, .string (⟨#[]⟩ : ByteArray), .slice none 0 0] 26 (0, 0)) (bkl BK371.out) hb); have n4_ := aS (blk_below (g := gb390) (o := .cells #[.int .i64 t376, .int .i64 t377, .int .i64 t378, .int .i64 t379, .int .i64 t380, .int .i64 t381, .int .i64 t382, .int .i64 t383, .bool t384, .string t385, .slice Ao22 t386.length co22] 26 (0, 0)) (bkl BK390.out) hb); have n5_ := aS (blk_below (g := gb405) (o := .cells #[.int .i64 t391, .int .i64 t392, .int .i64 t393, .int .i64 t394, .int .i64 t395, .int .i64 t396, .int .i64 t397, .int .i64 t398, .bool t399, .string t400, .slice Ao28 t401.length co28] 26 (0, 0)) (bkl BK405.out) hb); have n6_ := bstep hb; clear HO374; clear HO388; clear HO403; clear BK371; clear BK390; clear BK405; clear HB; have HO374 := n0_; have HO388 := n1_; have HO403 := n2_; have BK371 := n3_; have BK390 := n4_; have BK405 := n5_; have HB := n6_; clear n0_ n1_ n2_ n3_ n4_ n5_ n6_; (try clear hb); (try clear hb2); (try clear hk); (try clear hi)))
        go_ret
        exact ⟨rf3, bel⟩
       ·
        replace c12 := Bool.eq_false_iff.mpr c12
        subst c12
        have H1 : (none) = some r := by rw [if_neg (show ¬ (false = true) by decide)] at H; exact H
        clear H; have H := H1; clear H1
        exact absurd H (by simp)
      ·
       rw [if_neg c10] at H
       exact absurd H (by simp)
     ·
      rw [if_neg c9] at H
      exact absurd H (by simp)
    ·
     replace c8 := Bool.eq_false_iff.mpr c8
     subst c8
     have H1 : (none) = some r := by rw [if_neg (show ¬ (false = true) by decide)] at H; exact H
     clear H; have H := H1; clear H1
     exact absurd H (by simp)
   ·
    rw [if_neg c6] at H
    exact absurd H (by simp)
  ·
   rw [if_neg c5] at H
   exact absurd H (by simp)
 ·
  rw [if_neg c4] at H
  exact absurd H (by simp)

end Go.Proofs.Yteoklmfkofgfmaa.X
