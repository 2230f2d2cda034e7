-- written by a program of this session's, over the kit's print
import Derived.Test.YtgcicgjfimfhpaaXx0
import Derived.Test.YtgcicgjfimfhpaaXx2
import Derived.Test.YtgcicgjfimfhpaaXx3
namespace Go.Proofs.Ytgcicgjfimfhpaa.X
open Go.RowKit Go.Proofs.YtgcicgjfimfhpaaW.PrintWords Go.Proofs.YtgcicgjfimfhpaaW.PrintLast Go.Proofs.YtgcicgjfimfhpaaW.PrintMore
attribute [local go_sem] max2_int min2_int max_two min_two max_three min_three max_four min_four gtr_str   -- for this text's walks alone
set_option linter.unusedVariables false
set_option linter.unusedSimpArgs false

/-! ### cell_Newest: function 34 -/
def cell_Newest.j0 : Nat → List (S29) → Int → Bool → Option (ByteArray × ByteArray × Int × ByteArray × Bool × Bool)
 | 0, _, _, _ => none
 | k + 1, x0, x10, x42 => if x42 = true then (some ((⟨#[]⟩ : ByteArray), (⟨#[]⟩ : ByteArray), 0, (⟨#[]⟩ : ByteArray), false, false)) else (if 0 ≤ x10 then (if x10 < (x0.length : Int) then (some ((rd_T29 x0 x10).f0, (rd_T29 x0 x10).f1, (rd_T29 x0 x10).f2, (rd_T29 x0 x10).f3, (rd_T29 x0 x10).f4, true)) else (none)) else (none))
def cell_Newest.f (k : Nat) (l0 : List (S29)) (a1 : ByteArray) (a2 : ByteArray) (a3 : Int) : Option (ByteArray × ByteArray × Int × ByteArray × Bool × Bool) := (api_Cell_26.f k l0 a1 a2 a3 (⟨#[]⟩ : ByteArray) false).bind fun bt160 => (if bt160.1 = (l0.length : Int) then (cell_Newest.j0 k l0 bt160.1 true) else (if 0 ≤ bt160.1 then (if bt160.1 < (l0.length : Int) then (if ((rd_T29 l0 bt160.1).f0).toList = a1.toList then (cell_Newest.j0 k l0 bt160.1 (((rd_T29 l0 bt160.1).f1).toList != a2.toList)) else (cell_Newest.j0 k l0 bt160.1 true)) else (none)) else (none)))
theorem cell_Newest.mono_l : ∀ k, (∀ y0 y1 y2, LeO (cell_Newest.j0 k y0 y1 y2) (cell_Newest.j0 (k + 1) y0 y1 y2))
 | 0 => fun _ _ _ r h => by simp [cell_Newest.j0] at h
 | k + 1 => by
  have ih0 := cell_Newest.mono_l k
  ·
   intro y0 y1 y2
   unfold cell_Newest.j0
   repeat' first
   | (with_reducible exact ih0 _ _ _)
   | (with_reducible exact api_Cell_26.mono _ _ _ _ _ _ _)
   | (with_reducible exact LeO.refl _)
   | (with_reducible exact LeO.none _)
   | (with_reducible refine LeO.ite ?_ ?_)
   | (with_reducible refine LeO.bind ?_ (fun _ => ?_))
   | exact LeO.none _
   | refine LeO.ite ?_ ?_
   | refine LeO.bind ?_ (fun _ => ?_)
theorem cell_Newest.mono : ∀ a0 a1 a2 a3 k, LeO (cell_Newest.f k a0 a1 a2 a3) (cell_Newest.f (k + 1) a0 a1 a2 a3) := by
 intro a0 a1 a2 a3 k
 have ih0 := cell_Newest.mono_l k
 unfold cell_Newest.f
 repeat' first
   | (with_reducible exact ih0 _ _ _)
   | (with_reducible exact api_Cell_26.mono _ _ _ _ _ _ _)
   | (with_reducible exact LeO.refl _)
   | (with_reducible exact LeO.none _)
   | (with_reducible refine LeO.ite ?_ ?_)
   | (with_reducible refine LeO.bind ?_ (fun _ => ?_))
   | exact LeO.none _
   | refine LeO.ite ?_ ?_
   | refine LeO.bind ?_ (fun _ => ?_)
set_option maxHeartbeats 8000000 in
set_option maxRecDepth 100000 in
theorem cell_Newest.calls (k : Nat) (A0 : Option Addr) (c0 : Nat) (l0 : List (S29)) (a1 : ByteArray) (a2 : ByteArray) (a3 : Int) (r1 : ByteArray) (r2 : ByteArray) (r3 : Int) (r4 : ByteArray) (r5 : Bool) (r6 : Bool) (w : World) (hr0 : Kd.C k29 w A0 l0.length l0) (hc0 : l0.length ≤ c0) (h : cell_Newest.f k l0 a1 a2 a3 = some (r1, r2, r3, r4, r5, r6)) :
  Calls Try.prog 34 #[.slice A0 l0.length c0, .string a1, .string a2, .int .i64 a3] w fun e w' => e = .returned (.tuple #[.agg #[.string r1, .string r2, .int .i64 r3, .string r4, .bool r5], .bool r6]) ∧ Below w.heap.size w w' := by
 have hu29 := Try.underlying29
 have HR0 := aS hr0
 have HC0 := aS hc0
 clear hr0 hc0
 have HB := aS (Below.refl w.heap.size w)
 have H : ((api_Cell_26.f k l0 a1 a2 a3 (⟨#[]⟩ : ByteArray) false).bind fun bt160 => (if bt160.1 = (l0.length : Int) then (cell_Newest.j0 k l0 bt160.1 true) else (if 0 ≤ bt160.1 then (if bt160.1 < (l0.length : Int) then (if ((rd_T29 l0 bt160.1).f0).toList = a1.toList then (cell_Newest.j0 k l0 bt160.1 (((rd_T29 l0 bt160.1).f1).toList != a2.toList)) else (cell_Newest.j0 k l0 bt160.1 true)) else (none)) else (none)))) = some (r1, r2, r3, r4, r5, r6) := h
 clear h
 replace H := obm H
 obtain ⟨⟨t160, t161⟩, A50, H⟩ := H
 replace H : (if t160 = (l0.length : Int) then (cell_Newest.j0 k l0 t160 true) else (if 0 ≤ t160 then (if t160 < (l0.length : Int) then (if ((rd_T29 l0 t160).f0).toList = a1.toList then (cell_Newest.j0 k l0 t160 (((rd_T29 l0 t160).f1).toList != a2.toList)) else (cell_Newest.j0 k l0 t160 true)) else (none)) else (none))) = some (r1, r2, r3, r4, r5, r6) := H
 have A5 := aS A50
 clear A50
 have HC6 := aS H
 clear H
 go_enter Try.func34, Try.ntmps34
 go_upto_region 2 with (first | ((with_reducible refine gate_dst (N := 8) rfl ?_); refine box_event ?hg (N := 8) ?hd (cs := #[.string (⟨#[]⟩ : ByteArray), .string (⟨#[]⟩ : ByteArray), .int .i64 0, .string (⟨#[]⟩ : ByteArray), .bool false]) (t := 29) ?hr ?_; (case hd => rfl); (case hg => rfl); (case hr => first | (go_simp; done) | (go_simp; rfl)); intro gb159 hg w7 hbox hb; have n0_ := bstep hb; have n1_ := aS (hbox); have n2_ := bsize hg; have n3_ := bsize hg; clear HB; have HB := n0_; have BK159 := n1_; have GW159 := n2_; have GE159 := n3_; clear n0_ n1_ n2_ n3_; clear hb hbox hg) | ((with_reducible refine gate_callee (f := 26) rfl ?_); refine goesL_ (some 18) rfl rfl Try.func26 (by kernel_rfl) rfl #[.slice A0 l0.length c0, .agg #[.string a1, .string a2, .int .i64 a3, .string (⟨#[]⟩ : ByteArray), .bool false], .func (.func 27) #[] #[]] rfl agn ?_; (with_reducible refine (api_Cell_26.calls k _ _ l0 a1 a2 a3 (⟨#[]⟩ : ByteArray) false  t160 t161 _ ?side1 ?side2 A5.out).mono ?_); (case side1 => exact cel (Kd.C_below HR0.out HB.out)); (case side2 => exact HC0.out); rintro e w8 ⟨rfl, hb⟩; refine ⟨_, rfl, ?_⟩; have n0_ := aS (blk_below (g := gb159) (o := .cells #[.string (⟨#[]⟩ : ByteArray), .string (⟨#[]⟩ : ByteArray), .int .i64 0, .string (⟨#[]⟩ : ByteArray), .bool false] 29 (0, 0)) (bkl BK159.out) hb); have n1_ := bstep hb; clear BK159; clear HB; have BK159 := n0_; have HB := n1_; clear n0_ n1_; (try clear hb); (try clear hb2); (try clear hk); (try clear hi)))
 (try simp only [Act.put, lsa, lsz, lss])
 go_cut [42] (fun v42 wc => ∃ (kq : Nat) (x42_5 : Bool), v42 = .bool x42_5 ∧ Aside0 (cell_Newest.j0 kq l0 t160 x42_5 = some (r1, r2, r3, r4, r5, r6)) ∧ Aside0 (kq ≤ k) ∧ Aside0 (wc.heap[gb159]? = some (.cells #[.string (⟨#[]⟩ : ByteArray), .string (⟨#[]⟩ : ByteArray), .int .i64 0, .string (⟨#[]⟩ : ByteArray), .bool false] 29 (0, 0))) ∧ Aside0 (Below w.heap.size w wc))
 case first =>
  have H := HC6.out; clear HC6
  by_cases c9 : t160 = (l0.length : Int)
  ·
   rw [if_pos c9] at H
   obtain ⟨c9b0, c9b1⟩ := eqT c9
   clear c9
   (first | rw [c9b0] | (simp only [i64_w, i32_w]; rw [c9b0]) | skip)
   have H' := aS H
   clear H
   go_wp2
   go_meet
   case rel => exact ⟨_, (true), (by first | rfl | (simp; done) | (simp [*]; done) | (simp; exact (by decide : ∀ a_ b_ : Bool, (a_ == b_) = (!a_ != b_)) _ _)), H', ⟨by first | omega | exact Nat.le_refl _⟩, ⟨by (with_reducible repeat (first | refine blk_drewN ?_ _ | refine blk_drew ?_ | refine blk_alloc ?_ _)); exact BK159.out⟩, ⟨bel⟩⟩
  ·
   rw [if_neg c9] at H
   obtain ⟨c9b0, c9b1⟩ := eqF c9
   (first | rw [c9b0] | (simp only [i64_w, i32_w]; rw [c9b0]) | skip)
   by_cases c10 : 0 ≤ t160
   ·
    rw [if_pos c10] at H
    have c10b0 : decide (0 ≤ t160) = true := decide_eq_true c10
    clear c10
    by_cases c11 : t160 < (l0.length : Int)
    ·
     rw [if_pos c11] at H
     have c11b0 : decide (t160 < (l0.length : Int)) = true := decide_eq_true c11
     clear c11
     by_cases c12 : ((rd_T29 l0 t160).f0).toList = a1.toList
     ·
      rw [if_pos c12] at H
      obtain ⟨c12b0, c12b1⟩ := eqT c12
      clear c12
      have H' := aS H
      clear H
      have p162 : 0 ≤ (t160 : Int) := odt (by first | (with_reducible assumption) | assumption)
      have q162 : t160 < (l0.length : Int) := odt (by first | (with_reducible assumption) | assumption)
      obtain ⟨ad162, e162, hx162_0, hx162_1, hx162_2, hx162_3, hx162_4⟩ := at_T29 HR0.out t160 p162 q162
      cases e162
      replace hx162_0 := (HB.out.cell (wbl w _ hx162_0)).trans hx162_0
      replace hx162_1 := (HB.out.cell (wbl w _ hx162_1)).trans hx162_1
      replace hx162_2 := (HB.out.cell (wbl w _ hx162_2)).trans hx162_2
      replace hx162_3 := (HB.out.cell (wbl w _ hx162_3)).trans hx162_3
      replace hx162_4 := (HB.out.cell (wbl w _ hx162_4)).trans hx162_4
      replace p162 := eq_true p162
      replace q162 := eq_true q162
      have p163 : 0 ≤ (t160 : Int) := odt (by first | (with_reducible assumption) | assumption)
      have q163 : t160 < (l0.length : Int) := odt (by first | (with_reducible assumption) | assumption)
      obtain ⟨ad163, e163, hx163_0, hx163_1, hx163_2, hx163_3, hx163_4⟩ := at_T29 HR0.out t160 p163 q163
      obtain rfl : ad162 = ad163 := (by injection e163)
      replace hx163_0 := (HB.out.cell (wbl w _ hx163_0)).trans hx163_0
      replace hx163_1 := (HB.out.cell (wbl w _ hx163_1)).trans hx163_1
      replace hx163_2 := (HB.out.cell (wbl w _ hx163_2)).trans hx163_2
      replace hx163_3 := (HB.out.cell (wbl w _ hx163_3)).trans hx163_3
      replace hx163_4 := (HB.out.cell (wbl w _ hx163_4)).trans hx163_4
      replace p163 := eq_true p163
      replace q163 := eq_true q163
      go_wp2
      go_meet
      case rel => exact ⟨_, ((((rd_T29 l0 t160).f1).toList != a2.toList)), (by first | rfl | (simp; done) | (simp [*]; done) | (simp; exact (by decide : ∀ a_ b_ : Bool, (a_ == b_) = (!a_ != b_)) _ _)), H', ⟨by first | omega | exact Nat.le_refl _⟩, ⟨by (with_reducible repeat (first | refine blk_drewN ?_ _ | refine blk_drew ?_ | refine blk_alloc ?_ _)); exact BK159.out⟩, ⟨bel⟩⟩
     ·
      rw [if_neg c12] at H
      obtain ⟨c12b0, c12b1⟩ := eqF c12
      have H' := aS H
      clear H
      have p162 : 0 ≤ (t160 : Int) := odt (by first | (with_reducible assumption) | assumption)
      have q162 : t160 < (l0.length : Int) := odt (by first | (with_reducible assumption) | assumption)
      obtain ⟨ad162, e162, hx162_0, hx162_1, hx162_2, hx162_3, hx162_4⟩ := at_T29 HR0.out t160 p162 q162
      cases e162
      replace hx162_0 := (HB.out.cell (wbl w _ hx162_0)).trans hx162_0
      replace hx162_1 := (HB.out.cell (wbl w _ hx162_1)).trans hx162_1
      replace hx162_2 := (HB.out.cell (wbl w _ hx162_2)).trans hx162_2
      replace hx162_3 := (HB.out.cell (wbl w _ hx162_3)).trans hx162_3
      replace hx162_4 := (HB.out.cell (wbl w _ hx162_4)).trans hx162_4
      replace p162 := eq_true p162
      replace q162 := eq_true q162
      go_wp2
      go_meet
      case rel => exact ⟨_, (true), (by first | rfl | (simp; done) | (simp [*]; done) | (simp; exact (by decide : ∀ a_ b_ : Bool, (a_ == b_) = (!a_ != b_)) _ _)), H', ⟨by first | omega | exact Nat.le_refl _⟩, ⟨by (with_reducible repeat (first | refine blk_drewN ?_ _ | refine blk_drew ?_ | refine blk_alloc ?_ _)); exact BK159.out⟩, ⟨bel⟩⟩
    ·
     rw [if_neg c11] at H
     exact absurd H (by simp)
   ·
    rw [if_neg c10] at H
    exact absurd H (by simp)
 case rest =>
  clear HC6; (try clear c1); (try clear p1); (try clear q1); (try clear hx1); (try clear c2); (try clear p2); (try clear c3); (try clear c9); (try clear c9b0); (try clear c9b1); (try clear c10); (try clear c10b0); (try clear c11); (try clear c11b0); (try clear c12); (try clear c12b0); (try clear c12b1); (try clear hx162_0); (try clear hx162_1); (try clear hx162_2); (try clear hx162_3); (try clear hx162_4); (try clear hx163_0); (try clear hx163_1); (try clear hx163_2); (try clear hx163_3); (try clear hx163_4); (try clear p162); (try clear p163); (try clear q162); (try clear q163)
  obtain ⟨kq, x42_5, rfl, HA, HJ5, BK159, HB⟩ := hcut
  cases kq with
  | zero => exact absurd HA.out (by simp [cell_Newest.j0])
  | succ kj5 =>
   have H := HA.out; clear HA
   simp only [cell_Newest.j0] at H
   by_cases c13 : x42_5 = true
   ·
    subst c13
    have H1 : (some ((⟨#[]⟩ : ByteArray), (⟨#[]⟩ : ByteArray), 0, (⟨#[]⟩ : ByteArray), false, false)) = some (r1, r2, r3, r4, r5, r6) := by rw [if_pos rfl] at H; exact H
    clear H; have H := H1; clear H1
    simp only [Option.some.injEq, Prod.mk.injEq] at H
    obtain ⟨rfl, rfl, rfl, rfl, rfl, rfl⟩ := H
    have hcz14 := cK5 BK159
    go_wp2
    refine bodyPost_ret (results_ct rfl _ _ gb159 29 #[.string (⟨#[]⟩ : ByteArray), .string (⟨#[]⟩ : ByteArray), .int .i64 0, .string (⟨#[]⟩ : ByteArray), .bool false] (0, 0) _ rfl (by (with_reducible repeat (first | refine blk_drewN ?_ _ | refine blk_drew ?_ | refine blk_alloc ?_ _)); refine blk_put (cs := #[.string (⟨#[]⟩ : ByteArray), .string (⟨#[]⟩ : ByteArray), .int .i64 0, .string (⟨#[]⟩ : ByteArray), .bool false]) ?_ 4 _ rfl; (with_reducible repeat (first | refine blk_drewN ?_ _ | refine blk_drew ?_ | refine blk_alloc ?_ _)); refine blk_put (cs := #[.string (⟨#[]⟩ : ByteArray), .string (⟨#[]⟩ : ByteArray), .int .i64 0, .string (⟨#[]⟩ : ByteArray), .bool false]) ?_ 3 _ rfl; (with_reducible repeat (first | refine blk_drewN ?_ _ | refine blk_drew ?_ | refine blk_alloc ?_ _)); refine blk_put (cs := #[.string (⟨#[]⟩ : ByteArray), .string (⟨#[]⟩ : ByteArray), .int .i64 0, .string (⟨#[]⟩ : ByteArray), .bool false]) ?_ 2 _ rfl; (with_reducible repeat (first | refine blk_drewN ?_ _ | refine blk_drew ?_ | refine blk_alloc ?_ _)); refine blk_put (cs := #[.string (⟨#[]⟩ : ByteArray), .string (⟨#[]⟩ : ByteArray), .int .i64 0, .string (⟨#[]⟩ : ByteArray), .bool false]) ?_ 1 _ rfl; (with_reducible repeat (first | refine blk_drewN ?_ _ | refine blk_drew ?_ | refine blk_alloc ?_ _)); refine blk_put (cs := #[.string (⟨#[]⟩ : ByteArray), .string (⟨#[]⟩ : ByteArray), .int .i64 0, .string (⟨#[]⟩ : ByteArray), .bool false]) ?_ 0 _ rfl; (with_reducible repeat (first | refine blk_drewN ?_ _ | refine blk_drew ?_ | refine blk_alloc ?_ _)); exact BK159.out) Try.underlying29 rfl (by kernel_rfl)) rfl ?_
    exact ⟨rf3, bel⟩
   ·
    replace c13 := Bool.eq_false_iff.mpr c13
    subst c13
    have H1 : (if 0 ≤ t160 then (if t160 < (l0.length : Int) then (some ((rd_T29 l0 t160).f0, (rd_T29 l0 t160).f1, (rd_T29 l0 t160).f2, (rd_T29 l0 t160).f3, (rd_T29 l0 t160).f4, true)) else (none)) else (none)) = some (r1, r2, r3, r4, r5, r6) := by rw [if_neg (show ¬ (false = true) by decide)] at H; exact H
    clear H; have H := H1; clear H1
    by_cases c15 : 0 ≤ t160
    ·
     rw [if_pos c15] at H
     have c15b0 : decide (0 ≤ t160) = true := decide_eq_true c15
     clear c15
     by_cases c16 : t160 < (l0.length : Int)
     ·
      rw [if_pos c16] at H
      have c16b0 : decide (t160 < (l0.length : Int)) = true := decide_eq_true c16
      clear c16
      simp only [Option.some.injEq, Prod.mk.injEq] at H
      obtain ⟨rfl, rfl, rfl, rfl, rfl, rfl⟩ := H
      have p164 : 0 ≤ (t160 : Int) := odt (by first | (with_reducible assumption) | assumption)
      have q164 : t160 < (l0.length : Int) := odt (by first | (with_reducible assumption) | assumption)
      obtain ⟨ad164, e164, hx164_0, hx164_1, hx164_2, hx164_3, hx164_4⟩ := at_T29 HR0.out t160 p164 q164
      cases e164
      replace hx164_0 := (HB.out.cell (wbl w _ hx164_0)).trans hx164_0
      replace hx164_1 := (HB.out.cell (wbl w _ hx164_1)).trans hx164_1
      replace hx164_2 := (HB.out.cell (wbl w _ hx164_2)).trans hx164_2
      replace hx164_3 := (HB.out.cell (wbl w _ hx164_3)).trans hx164_3
      replace hx164_4 := (HB.out.cell (wbl w _ hx164_4)).trans hx164_4
      replace p164 := eq_true p164
      replace q164 := eq_true q164
      have hcz17 := cK5 BK159
      go_wp2
      refine bodyPost_ret (results_ct rfl _ _ gb159 29 #[.string ((rd_T29 l0 t160).f0), .string ((rd_T29 l0 t160).f1), .int .i64 ((rd_T29 l0 t160).f2), .string ((rd_T29 l0 t160).f3), .bool ((rd_T29 l0 t160).f4)] (0, 0) _ rfl (by (with_reducible repeat (first | refine blk_drewN ?_ _ | refine blk_drew ?_ | refine blk_alloc ?_ _)); refine blk_put (cs := #[.string ((rd_T29 l0 t160).f0), .string ((rd_T29 l0 t160).f1), .int .i64 ((rd_T29 l0 t160).f2), .string ((rd_T29 l0 t160).f3), .bool false]) ?_ 4 _ rfl; (with_reducible repeat (first | refine blk_drewN ?_ _ | refine blk_drew ?_ | refine blk_alloc ?_ _)); refine blk_put (cs := #[.string ((rd_T29 l0 t160).f0), .string ((rd_T29 l0 t160).f1), .int .i64 ((rd_T29 l0 t160).f2), .string (⟨#[]⟩ : ByteArray), .bool false]) ?_ 3 _ rfl; (with_reducible repeat (first | refine blk_drewN ?_ _ | refine blk_drew ?_ | refine blk_alloc ?_ _)); refine blk_put (cs := #[.string ((rd_T29 l0 t160).f0), .string ((rd_T29 l0 t160).f1), .int .i64 0, .string (⟨#[]⟩ : ByteArray), .bool false]) ?_ 2 _ rfl; (with_reducible repeat (first | refine blk_drewN ?_ _ | refine blk_drew ?_ | refine blk_alloc ?_ _)); refine blk_put (cs := #[.string ((rd_T29 l0 t160).f0), .string (⟨#[]⟩ : ByteArray), .int .i64 0, .string (⟨#[]⟩ : ByteArray), .bool false]) ?_ 1 _ rfl; (with_reducible repeat (first | refine blk_drewN ?_ _ | refine blk_drew ?_ | refine blk_alloc ?_ _)); refine blk_put (cs := #[.string (⟨#[]⟩ : ByteArray), .string (⟨#[]⟩ : ByteArray), .int .i64 0, .string (⟨#[]⟩ : ByteArray), .bool false]) ?_ 0 _ rfl; (with_reducible repeat (first | refine blk_drewN ?_ _ | refine blk_drew ?_ | refine blk_alloc ?_ _)); exact BK159.out) Try.underlying29 rfl (by kernel_rfl)) rfl ?_
      exact ⟨rf3, bel⟩
     ·
      rw [if_neg c16] at H
      exact absurd H (by simp)
    ·
     rw [if_neg c15] at H
     exact absurd H (by simp)

/-! ### mem_Mem_Get: function 21 -/
set_option maxHeartbeats 8000000 in
set_option maxRecDepth 100000 in
theorem mem_Mem_Get.calls (k g base : Nat) (xs : List S29) (n : Int) (v : Value) (a1 a2 : ByteArray) (a3 : Int) (r1 r2 : ByteArray) (r3 : Int) (r4 : ByteArray) (r5 r6 : Bool) (w : World) (hA : mem_New.At w base g xs n v) (h : cell_Newest.f k xs a1 a2 a3 = some (r1, r2, r3, r4, r5, r6)) :
  Calls Try.prog 21 #[.pointer (some ⟨g, 0, none⟩), .string a1, .string a2, .int .i64 a3] w fun e w' => e = .returned (.tuple #[.agg #[.string r1, .string r2, .int .i64 r3, .string r4, .bool r5], .bool r6]) ∧ Below w.heap.size w w' := by
 have hu46 := Try.underlying46; have hu29 := Try.underlying29
 obtain ⟨A, cc, rfl, hcl, hC⟩ := hA.rows
 have B := aS hA.2.1
 have HC := aS hC
 have HL := aS hcl
 have X := aS h
 clear hA hcl hC h
 go_enter Try.func21, Try.ntmps21
 go_upto_region 1 with ((with_reducible refine gate_dst (N := 8) rfl ?_); refine box_event ?hg (N := 8) ?hd (cs := #[.string ⟨#[]⟩, .string ⟨#[]⟩, .int .i64 0, .string ⟨#[]⟩, .bool false]) (t := 29) ?hr ?_; (case hd => rfl); (case hg => rfl); (case hr => (first | (go_simp; done) | (go_simp; rfl))); intro p3 hg w1 hb hbl; have B3 := aS hb; have GE : Aside0 (w.heap.size ≤ p3) := aS (by rw [hg]; exact Nat.le_refl _); have HB := aS hbl; have B1 := aS (blk_below B.out hbl); have HC1 := aS (Kd.C_below HC.out hbl); clear hg hb hbl B HC)
 have q0 := cK2 B1
 go_wp2_with (first | (go_at_call 34; (with_reducible refine (cell_Newest.calls k A cc xs a1 a2 a3 r1 r2 r3 r4 r5 r6 _ HC1.out HL.out X.out).mono ?_); rintro e_ w2 ⟨rfl, hb⟩; have B4 := aS (blk_below B3.out hb); have HB2 := aS (below_step HB.out hb); clear B3 HB hb) | ((with_reducible refine gate_store (t := 29) (p := 8) rfl ?_); refine wpList_store_row rfl 29 _ _ rfl p3 #[.string r1, .string r2, .int .i64 r3, .string r4, .bool r5] rfl rfl 29 _ B4.out (by kernel_rfl) rfl (by kernel_rfl) ?_; have B5 := aS (setRow_heap w2 p3 _ #[.string r1, .string r2, .int .i64 r3, .string r4, .bool r5] _ _ B4.out); have HB3 := aS (below_setRow HB2.out GE.out #[.string r1, .string r2, .int .i64 r3, .string r4, .bool r5]); clear B4 HB2; generalize World.setRow w2 p3 #[.string r1, .string r2, .int .i64 r3, .string r4, .bool r5] = w3 at B5 HB3 ⊢; have q5 := cK5 B5))
 try simp only [Exit.inBlock, Exit.then]
 refine bodyPost_ret (results_ct rfl _ _ p3 29 #[.string r1, .string r2, .int .i64 r3, .string r4, .bool r5] (0, 0) _ rfl B5.out hu29 rfl (by kernel_rfl)) rfl ?_
 exact ⟨rfl, HB3.out⟩

/-! ### mem_Mem_Rows: function 24 -/
/-- Is a cell's row one of those asked for? -/
def mem_Mem_Rows.keep (a b : ByteArray) (c : S29) : Bool := !(Op.bytesLess c.f0.toList a.toList) && (b.toList == [] || Op.bytesLess c.f0.toList b.toList)
def mem_Mem_Rows.f (xs : List S29) (a b : ByteArray) : Option (List S29) := if xs.length < 2199023255552 then some (xs.filter (mem_Mem_Rows.keep a b)) else none
attribute [local go_sem] geq_str
set_option maxHeartbeats 8000000 in
set_option maxRecDepth 100000 in
theorem mem_Mem_Rows.calls (g base : Nat) (xs r : List S29) (n : Int) (v : Value) (a b : ByteArray) (w : World) (hA : mem_New.At w base g xs n v) (h : mem_Mem_Rows.f xs a b = some r) :
  Calls Try.prog 24 #[.pointer (some ⟨g, 0, none⟩), .string a, .string b] w fun e w' => ∃ v0_ : Value, e = .returned v0_ ∧ Kd.R k29 29 w' w.heap.size (fun _ => True) v0_ r ∧ Below w.heap.size w w' := by
 have hu46 := Try.underlying46; have hu22 := Try.underlying22; have hu29 := Try.underlying29
 unfold mem_Mem_Rows.f at h
 by_cases hlim : xs.length < 2199023255552
 case neg => rw [if_neg hlim] at h; cases h
 rw [if_pos hlim] at h
 obtain rfl := Option.some.inj h
 obtain ⟨A, cc, rfl, hcl, hC⟩ := hA.rows
 have B := aS hA.2.1
 have HC := aS hC
 have HL := aS hcl
 have HLM := aS hlim
 clear hA hcl hC h hlim
 have q0 := cK2 B
 go_enter Try.func24, Try.ntmps24
 go_wp2
 clear q0
 go_loopw [7, 15] (fun v7 v15 wr => ∃ (i : Nat), v15 = .int .i64 (i : Int) ∧ Aside0 (i ≤ xs.length) ∧ Aside0 (Kd.R k29 29 wr w.heap.size (fun _ => True) v7 (xs.take i |>.filter (mem_Mem_Rows.keep a b))) ∧ Aside0 (Below w.heap.size w wr)) (fun _ i _ => xs.length - (intOf i).toNat)
 case atStart => exact ⟨0, rfl, ⟨Nat.zero_le _⟩, ⟨Kd.R_nil _ _ _ _ _⟩, ⟨Below.refl _ _⟩⟩
 case round =>
  obtain ⟨i, rfl, hi, HR, HBr⟩ := hrel
  by_cases hlt : i < xs.length
  ·
   have hq1 : (i : Int) < (xs.length : Int) := by omega
   have hq0 : (0 : Int) ≤ (i : Int) := by omega
   obtain ⟨ad, e_, hx0, hx1, hx2, hx3, hx4⟩ := at_T29 (Kd.C_below HC.out HBr.out) (i : Int) hq0 hq1
   subst e_
   obtain ⟨x, hx⟩ : ∃ x, x = rd_T29 xs (i : Int) := ⟨_, rfl⟩
   rw [← hx] at hx0 hx1 hx2 hx3 hx4
   have hxe : x = xs[i] := by rw [hx]; unfold rd_T29; rw [Int.toNat_natCast, List.getD_eq_getElem?_getD, List.getElem?_eq_getElem hlt]; rfl
   have HT : Aside0 ((xs.take (i + 1) |>.filter (mem_Mem_Rows.keep a b)) = (xs.take i |>.filter (mem_Mem_Rows.keep a b)) ++ if mem_Mem_Rows.keep a b x = true then [x] else []) := aS (by
    rw [List.take_succ_eq_append_getElem hlt, List.filter_append, ← hxe]
    congr 1
    by_cases hk : mem_Mem_Rows.keep a b x = true <;> simp [hk])
   have HLA : Aside0 ((xs.take i |>.filter (mem_Mem_Rows.keep a b)).length < 2199023255552) := aS (Nat.lt_of_le_of_lt (List.length_filter_le _ _) (by rw [llt]; have := HLM.out; omega))
   have hix : ∀ W : World, (Instr.indexAt 22 (.slice (some ad) xs.length cc) (.int .i64 (i : Int))).run Try.prog W = .ok (.pointer (some (ad.add (i * 5)))) W := by
    obtain ⟨i0, hi0, hz⟩ := Option.map_eq_some_iff.1 info29
    simp only [Prod.mk.injEq] at hz
    exact index_ad 22 29 hu22 hi0 5 hz.2.1 ad xs.length cc (i : Int) hq0 hq1
   have hwr : wrap64 ((i : Int) + 1) = (i : Int) + 1 := by rw [← i64_w, IntKind.wrap_i64]; have := HLM.out; omega
   rw [Int.toNat_natCast] at hx0 hx1 hx2 hx3 hx4
   clear hx hxe hi hq0
   by_cases c8 : Op.bytesLess x.f0.toList a.toList = true
   ·
    have HP : Aside0 (mem_Mem_Rows.keep a b x = false) := aS (by unfold mem_Mem_Rows.keep; rw [c8]; rfl)
    go_wp2_with (first | ((with_reducible refine gate_dst (N := 9) rfl ?_); refine box_event ?hg (N := 9) ?hd (cs := #[.string ⟨#[]⟩, .string ⟨#[]⟩, .int .i64 0, .string ⟨#[]⟩, .bool false]) (t := 29) ?hr ?_; (case hd => rfl); (case hg => rfl); (case hr => (first | (go_simp; done) | (go_simp; rfl))); intro p9 hg w1 hb hbl; have B9 := aS hb; have G9 : Aside0 (wr.heap.size ≤ p9) := aS (by rw [hg]; exact Nat.le_refl _); have HB1 := aS hbl; clear hg hb hbl) | ((with_reducible refine gate_store (t := 29) (p := 9) rfl ?_); refine wpList_store_row rfl 29 _ _ rfl p9 #[.string x.f0, .string x.f1, .int .i64 x.f2, .string x.f3, .bool x.f4] rfl rfl 29 _ B9.out (by kernel_rfl) rfl (by kernel_rfl) ?_; have B5 := aS (setRow_heap w1 p9 _ #[.string x.f0, .string x.f1, .int .i64 x.f2, .string x.f3, .bool x.f4] _ _ B9.out); have HB2 := aS (below_setRow HB1.out G9.out #[.string x.f0, .string x.f1, .int .i64 x.f2, .string x.f3, .bool x.f4]); clear B9 HB1; generalize World.setRow w1 p9 #[.string x.f0, .string x.f1, .int .i64 x.f2, .string x.f3, .bool x.f4] = w2 at B5 HB2 ⊢; have HR2 := aS (Kd.R_below HR.out HB2.out); have HB3 := aS (below_step HBr.out HB2.out); clear HR HBr HB2; have q5 := cK5 B5))
    go_roundw
    case rel => exact ⟨i + 1, by rw [hwr]; rfl, ⟨hlt⟩, ⟨by rw [HT.out, HP.out, if_neg Bool.false_ne_true, List.append_nil]; exact HR2.out⟩, HB3⟩
    case measure => exact meas1 hwr hlt
   ·
    replace c8 : Op.bytesLess x.f0.toList a.toList = false := by simpa using c8
    by_cases c9 : b.toList = ([] : List UInt8)
    ·
     have HP : Aside0 (mem_Mem_Rows.keep a b x = true) := aS (by unfold mem_Mem_Rows.keep; rw [c8, c9]; rfl)
     obtain ⟨c9a, c9b⟩ := eqT c9
     clear c9
     go_wp2_with (first | ((with_reducible refine gate_dst (N := 9) rfl ?_); refine box_event ?hg (N := 9) ?hd (cs := #[.string ⟨#[]⟩, .string ⟨#[]⟩, .int .i64 0, .string ⟨#[]⟩, .bool false]) (t := 29) ?hr ?_; (case hd => rfl); (case hg => rfl); (case hr => (first | (go_simp; done) | (go_simp; rfl))); intro p9 hg w1 hb hbl; have B9 := aS hb; have G9 : Aside0 (wr.heap.size ≤ p9) := aS (by rw [hg]; exact Nat.le_refl _); have HB1 := aS hbl; clear hg hb hbl) | ((with_reducible refine gate_store (t := 29) (p := 9) rfl ?_); refine wpList_store_row rfl 29 _ _ rfl p9 #[.string x.f0, .string x.f1, .int .i64 x.f2, .string x.f3, .bool x.f4] rfl rfl 29 _ B9.out (by kernel_rfl) rfl (by kernel_rfl) ?_; have B5 := aS (setRow_heap w1 p9 _ #[.string x.f0, .string x.f1, .int .i64 x.f2, .string x.f3, .bool x.f4] _ _ B9.out); have HB2 := aS (below_setRow HB1.out G9.out #[.string x.f0, .string x.f1, .int .i64 x.f2, .string x.f3, .bool x.f4]); clear B9 HB1; generalize World.setRow w1 p9 #[.string x.f0, .string x.f1, .int .i64 x.f2, .string x.f3, .bool x.f4] = w2 at B5 HB2 ⊢; have HR2 := aS (Kd.R_below HR.out HB2.out); have HB3 := aS (below_step HBr.out HB2.out); clear HR HBr HB2; have q5 := cK5 B5) | (at_builtin; refine Kd.R_append k29 (w0 := w) w.heap.size rfl _ _ 22 29 _ _ rfl hu22 info29 rfl (by decide) (by decide) u7 (xs.take i |>.filter (mem_Mem_Rows.keep a b)) x [.string x.f0, .string x.f1, .int .i64 x.f2, .string x.f3, .bool x.f4] (fun _ => True) (fun _ => False) rfl rfl (k29_mkM _ _ _ x) (fun _ hk => hk.elim) (fun _ _ => trivial) HR2.out HB3.out HB3.out.size (by have := HLA.out; clear hwr; omega) ?_; intro v8 w4 ho hb hg hat; have HR4 := aS ho; have HB4 := aS hb; clear ho hb hg hat HR2 HB3))
     go_roundw
     case rel => exact ⟨i + 1, by rw [hwr]; rfl, ⟨hlt⟩, ⟨by rw [HT.out, HP.out, if_pos rfl]; exact HR4.out⟩, HB4⟩
     case measure => exact meas1 hwr hlt
    ·
     obtain ⟨c9a, c9b⟩ := eqF c9
     by_cases c10 : Op.bytesLess x.f0.toList b.toList = true
     ·
      have HP : Aside0 (mem_Mem_Rows.keep a b x = true) := aS (by unfold mem_Mem_Rows.keep; rw [c8, c9a, c10]; rfl)
      go_wp2_with (first | ((with_reducible refine gate_dst (N := 9) rfl ?_); refine box_event ?hg (N := 9) ?hd (cs := #[.string ⟨#[]⟩, .string ⟨#[]⟩, .int .i64 0, .string ⟨#[]⟩, .bool false]) (t := 29) ?hr ?_; (case hd => rfl); (case hg => rfl); (case hr => (first | (go_simp; done) | (go_simp; rfl))); intro p9 hg w1 hb hbl; have B9 := aS hb; have G9 : Aside0 (wr.heap.size ≤ p9) := aS (by rw [hg]; exact Nat.le_refl _); have HB1 := aS hbl; clear hg hb hbl) | ((with_reducible refine gate_store (t := 29) (p := 9) rfl ?_); refine wpList_store_row rfl 29 _ _ rfl p9 #[.string x.f0, .string x.f1, .int .i64 x.f2, .string x.f3, .bool x.f4] rfl rfl 29 _ B9.out (by kernel_rfl) rfl (by kernel_rfl) ?_; have B5 := aS (setRow_heap w1 p9 _ #[.string x.f0, .string x.f1, .int .i64 x.f2, .string x.f3, .bool x.f4] _ _ B9.out); have HB2 := aS (below_setRow HB1.out G9.out #[.string x.f0, .string x.f1, .int .i64 x.f2, .string x.f3, .bool x.f4]); clear B9 HB1; generalize World.setRow w1 p9 #[.string x.f0, .string x.f1, .int .i64 x.f2, .string x.f3, .bool x.f4] = w2 at B5 HB2 ⊢; have HR2 := aS (Kd.R_below HR.out HB2.out); have HB3 := aS (below_step HBr.out HB2.out); clear HR HBr HB2; have q5 := cK5 B5) | (at_builtin; refine Kd.R_append k29 (w0 := w) w.heap.size rfl _ _ 22 29 _ _ rfl hu22 info29 rfl (by decide) (by decide) u7 (xs.take i |>.filter (mem_Mem_Rows.keep a b)) x [.string x.f0, .string x.f1, .int .i64 x.f2, .string x.f3, .bool x.f4] (fun _ => True) (fun _ => False) rfl rfl (k29_mkM _ _ _ x) (fun _ hk => hk.elim) (fun _ _ => trivial) HR2.out HB3.out HB3.out.size (by have := HLA.out; clear hwr; omega) ?_; intro v8 w4 ho hb hg hat; have HR4 := aS ho; have HB4 := aS hb; clear ho hb hg hat HR2 HB3))
      go_roundw
      case rel => exact ⟨i + 1, by rw [hwr]; rfl, ⟨hlt⟩, ⟨by rw [HT.out, HP.out, if_pos rfl]; exact HR4.out⟩, HB4⟩
      case measure => exact meas1 hwr hlt
     ·
      replace c10 : Op.bytesLess x.f0.toList b.toList = false := by simpa using c10
      have HP : Aside0 (mem_Mem_Rows.keep a b x = false) := aS (by unfold mem_Mem_Rows.keep; rw [c8, c9a, c10]; rfl)
      go_wp2_with (first | ((with_reducible refine gate_dst (N := 9) rfl ?_); refine box_event ?hg (N := 9) ?hd (cs := #[.string ⟨#[]⟩, .string ⟨#[]⟩, .int .i64 0, .string ⟨#[]⟩, .bool false]) (t := 29) ?hr ?_; (case hd => rfl); (case hg => rfl); (case hr => (first | (go_simp; done) | (go_simp; rfl))); intro p9 hg w1 hb hbl; have B9 := aS hb; have G9 : Aside0 (wr.heap.size ≤ p9) := aS (by rw [hg]; exact Nat.le_refl _); have HB1 := aS hbl; clear hg hb hbl) | ((with_reducible refine gate_store (t := 29) (p := 9) rfl ?_); refine wpList_store_row rfl 29 _ _ rfl p9 #[.string x.f0, .string x.f1, .int .i64 x.f2, .string x.f3, .bool x.f4] rfl rfl 29 _ B9.out (by kernel_rfl) rfl (by kernel_rfl) ?_; have B5 := aS (setRow_heap w1 p9 _ #[.string x.f0, .string x.f1, .int .i64 x.f2, .string x.f3, .bool x.f4] _ _ B9.out); have HB2 := aS (below_setRow HB1.out G9.out #[.string x.f0, .string x.f1, .int .i64 x.f2, .string x.f3, .bool x.f4]); clear B9 HB1; generalize World.setRow w1 p9 #[.string x.f0, .string x.f1, .int .i64 x.f2, .string x.f3, .bool x.f4] = w2 at B5 HB2 ⊢; have HR2 := aS (Kd.R_below HR.out HB2.out); have HB3 := aS (below_step HBr.out HB2.out); clear HR HBr HB2; have q5 := cK5 B5))
      go_roundw
      case rel => exact ⟨i + 1, by rw [hwr]; rfl, ⟨hlt⟩, ⟨by rw [HT.out, HP.out, if_neg Bool.false_ne_true, List.append_nil]; exact HR2.out⟩, HB3⟩
      case measure => exact meas1 hwr hlt
  ·
   have e_ : xs.take i = xs := List.take_of_length_le (by omega)
   have hge : ¬ ((i : Int) < (xs.length : Int)) := by omega
   go_wp2
   go_ret
   exact ⟨_, rfl, by rw [← e_]; exact HR.out, HBr.out⟩

/-! ### shardloglaw09_awake: function 7 -/
def shardloglaw09_awake.ab : List S29 := [⟨⟨#[97]⟩, ⟨#[120]⟩, 1, ⟨#[49]⟩, false⟩, ⟨⟨#[97]⟩, ⟨#[120]⟩, 1, ⟨#[116, 119, 111]⟩, false⟩]
/-- The one way that is true (every other is `none`). -/
def shardloglaw09_awake.f (k : Nat) : Option Bool :=
 (shardloglaw09_filled.f k shardloglaw09_awake.ab).bind fun q => (cell_Newest.f k q.1 ⟨#[97]⟩ ⟨#[120]⟩ 5).bind fun r => (mem_Mem_Rows.f q.1 ⟨#[97]⟩ ⟨#[98]⟩).bind fun s =>
  (mem_Mem_Put.f k q.1 q.2 ⟨#[]⟩ ⟨#[]⟩ 0 ⟨#[]⟩ false).bind fun p => (api_Cell_33.f p.1).bind fun c =>
   if q.1.length = 1 ∧ r = (⟨#[97]⟩, ⟨#[120]⟩, 1, ⟨#[116, 119, 111]⟩, false, true) ∧ q.2 = 22 ∧ s.length = 1 ∧ p.2.2 = false ∧ c.length = 1 then some true else none
theorem shardloglaw09_awake.mono : ∀ k, LeO (shardloglaw09_awake.f k) (shardloglaw09_awake.f (k + 1)) := fun k =>
 LeO.bind (shardloglaw09_filled.mono _ _) fun _ => LeO.bind (cell_Newest.mono _ _ _ _ _) fun _ => LeO.bind (LeO.refl _) fun _ => LeO.bind (mem_Mem_Put.mono _ _ _ _ _ _ _ _) fun _ => LeO.refl _
set_option maxHeartbeats 8000000 in
set_option maxRecDepth 100000 in
theorem shardloglaw09_awake.calls (k : Nat) (r : Bool) (w : World) (h : shardloglaw09_awake.f k = some r) : Calls Try.prog 7 #[] w fun e w' => e = .returned (.bool r) ∧ Below w.heap.size w w' := by
 have hu29 := Try.underlying29; have hu22 := Try.underlying22
 unfold shardloglaw09_awake.f at h
 replace h := obm h
 obtain ⟨⟨xs, n⟩, x1, h⟩ := h
 replace h := obm h
 obtain ⟨rr, x2, h⟩ := h
 replace h := obm h
 obtain ⟨s, x3, h⟩ := h
 replace h := obm h
 obtain ⟨⟨ys, m, pr⟩, x4, h⟩ := h
 replace h := obm h
 obtain ⟨c, x5, h⟩ := h
 split at h
 case isFalse => cases h
 rename_i hc
 obtain ⟨hc1, rfl, hc3, hc4, hc5, hc6⟩ := hc
 replace hc1 : xs.length = 1 := hc1
 replace hc3 : n = 22 := hc3
 replace hc5 : pr = false := hc5
 subst hc3 hc5
 obtain rfl := Option.some.inj h
 have X1 := aS x1
 have X2 := aS x2
 have X3 := aS x3
 have X4 := aS x4
 have X5 := aS x5
 have C1 := aS hc1
 have C4 := aS hc4
 have C6 := aS hc6
 clear x1 x2 x3 x4 x5 hc1 hc4 hc6 h
 go_enter Try.func7, Try.ntmps7
 go_upto_region 3 with (first | ((with_reducible refine gate_dst (N := 1) rfl ?_); refine box_event ?hg (N := 1) ?hd (cs := #[.string ⟨#[]⟩, .string ⟨#[]⟩, .int .i64 0, .string ⟨#[]⟩, .bool false]) (t := 29) ?hr ?_; (case hd => rfl); (case hg => rfl); (case hr => (first | (go_simp; done) | (go_simp; rfl))); intro g1 hg w1 hb hbl; have B1 := aS hb; have G1 : Aside0 (w.heap.size ≤ g1) := aS (by rw [hg]; exact Nat.le_refl _); have HB1 := aS hbl; clear hg hb hbl) | ((with_reducible refine gate_store (t := 29) (p := 1) rfl ?_); refine wpList_store_row rfl 29 _ _ rfl g1 #[.string ⟨#[97]⟩, .string ⟨#[120]⟩, .int .i64 1, .string ⟨#[49]⟩, .bool false] rfl rfl 29 _ B1.out (by kernel_rfl) rfl (by kernel_rfl) ?_; have B2 := aS (setRow_heap w1 g1 _ #[.string ⟨#[97]⟩, .string ⟨#[120]⟩, .int .i64 1, .string ⟨#[49]⟩, .bool false] _ _ B1.out); have HB2 := aS (below_setRow HB1.out G1.out #[.string ⟨#[97]⟩, .string ⟨#[120]⟩, .int .i64 1, .string ⟨#[49]⟩, .bool false]); clear B1 HB1; generalize World.setRow w1 g1 #[.string ⟨#[97]⟩, .string ⟨#[120]⟩, .int .i64 1, .string ⟨#[49]⟩, .bool false] = w2 at B2 HB2 ⊢) | ((with_reducible refine gate_dst (N := 2) rfl ?_); refine box_event ?hg (N := 2) ?hd (cs := #[.string ⟨#[]⟩, .string ⟨#[]⟩, .int .i64 0, .string ⟨#[]⟩, .bool false]) (t := 29) ?hr ?_; (case hd => rfl); (case hg => rfl); (case hr => (first | (go_simp; done) | (go_simp; rfl))); intro g2 hg w3 hb hbl; have B3 := aS hb; have G2 : Aside0 (w.heap.size ≤ g2 ∧ g1 < g2) := aS (by rw [hg]; exact ⟨HB2.out.size, blk_lt B2.out⟩); have B4 := aS (blk_below B2.out hbl); have HB3 := aS (below_step HB2.out hbl); clear hg hb hbl B2 HB2) | ((with_reducible refine gate_store (t := 29) (p := 2) rfl ?_); refine wpList_store_row rfl 29 _ _ rfl g2 #[.string ⟨#[97]⟩, .string ⟨#[120]⟩, .int .i64 1, .string ⟨#[116, 119, 111]⟩, .bool false] rfl rfl 29 _ B3.out (by kernel_rfl) rfl (by kernel_rfl) ?_; have B5 := aS (setRow_heap w3 g2 _ #[.string ⟨#[97]⟩, .string ⟨#[120]⟩, .int .i64 1, .string ⟨#[116, 119, 111]⟩, .bool false] _ _ B3.out); have HB4 := aS (below_setRow HB3.out G2.out.1 #[.string ⟨#[97]⟩, .string ⟨#[120]⟩, .int .i64 1, .string ⟨#[116, 119, 111]⟩, .bool false]); have B6 := aS (show (World.setRow w3 g2 #[.string ⟨#[97]⟩, .string ⟨#[120]⟩, .int .i64 1, .string ⟨#[116, 119, 111]⟩, .bool false]).heap[g1]? = _ from (setRow_other w3 g2 g1 _ (by have := G2.out; omega)).trans B4.out); clear B3 HB3 B4; generalize World.setRow w3 g2 #[.string ⟨#[97]⟩, .string ⟨#[120]⟩, .int .i64 1, .string ⟨#[116, 119, 111]⟩, .bool false] = w4 at B5 B6 HB4 ⊢; have q5 := cK5 B5; have q6 := cK5 B6))
 go_upto_region 4 with (first | ((with_reducible refine gate_dst (N := 10) rfl ?_); refine Kd.R_lit k29 _ 29 ?hg (N := 10) ?hd (xs := shardloglaw09_awake.ab) (inner := [.string ⟨#[97]⟩, .string ⟨#[120]⟩, .int .i64 1, .string ⟨#[49]⟩, .bool false] ++ [.string ⟨#[97]⟩, .string ⟨#[120]⟩, .int .i64 1, .string ⟨#[116, 119, 111]⟩, .bool false]) (ok := fun _ => True) (okp := fun _ => True) ?hr ?hp (fun _ hk => hk) trivial (Below.refl _ _) (Nat.le_refl _) (by decide) ?_; (case hd => rfl); (case hg => rfl); (case hr => (first | (go_simp; done) | (go_simp; rfl))); (case hp => exact Reps.c5 (k29_mkM _ _ _ (⟨⟨#[97]⟩, ⟨#[120]⟩, 1, ⟨#[49]⟩, false⟩ : S29)) (Reps.c5 (k29_mkM _ _ _ (⟨⟨#[97]⟩, ⟨#[120]⟩, 1, ⟨#[116, 119, 111]⟩, false⟩ : S29)) (Reps.none _ _))); intro v10 w5 ho hb hg_ hnew; obtain ⟨A, cc, rfl, hcl, hC⟩ := Kd.R_reads ho; have HC := aS hC; have HL := aS hcl; have HB5 := aS (below_step HB4.out hb); have B7 := aS (blk_below B5.out hb); clear ho hb hg_ hnew hC hcl HB4 B5 B6) | (go_at_call 19; (with_reducible refine (shardloglaw09_filled.calls k A cc shardloglaw09_awake.ab xs 22 _ HC.out HL.out X1.out).mono ?_); rintro e_ w6 ⟨g, rfl, ⟨v, ha⟩, hb⟩; have HA := aS ha; have HB6 := aS (below_step HB5.out hb); have B8 := aS (blk_below B7.out hb); have HZ : Aside0 (w.heap.size ≤ w5.heap.size) := aS HB5.out.size; clear ha hb HB5 B7))
 go_upto_region 7 with (first | (go_at_call 21; (with_reducible refine (mem_Mem_Get.calls k g _ xs 22 v ⟨#[97]⟩ ⟨#[120]⟩ 5 _ _ _ _ _ _ _ HA.out X2.out).mono ?_); rintro e_ w7 ⟨rfl, hb⟩; have HB7 := aS (below_step HB6.out hb); have HA7 := aS (HA.out.below hb); have B9 := aS (blk_below B8.out hb); clear hb HB6 HA B8) | ((with_reducible refine gate_dst (N := 4) rfl ?_); refine box_event ?hg (N := 4) ?hd (cs := #[.string ⟨#[]⟩, .string ⟨#[]⟩, .int .i64 0, .string ⟨#[]⟩, .bool false]) (t := 29) ?hr ?_; (case hd => rfl); (case hg => rfl); (case hr => (first | (go_simp; done) | (go_simp; rfl))); intro g4 hg w8 hb hbl; have B10 := aS hb; have G4 : Aside0 (w7.heap.size ≤ g4) := aS (by rw [hg]; exact Nat.le_refl _); have HL8 := aS hbl; clear hg hb hbl) | ((with_reducible refine gate_store (t := 29) (p := 4) rfl ?_); refine wpList_store_row rfl 29 _ _ rfl g4 #[.string ⟨#[97]⟩, .string ⟨#[120]⟩, .int .i64 1, .string ⟨#[116, 119, 111]⟩, .bool false] rfl rfl 29 _ B10.out (by kernel_rfl) rfl (by kernel_rfl) ?_; have B11 := aS (setRow_heap w8 g4 _ #[.string ⟨#[97]⟩, .string ⟨#[120]⟩, .int .i64 1, .string ⟨#[116, 119, 111]⟩, .bool false] _ _ B10.out); have HS := aS (below_setRow HL8.out G4.out #[.string ⟨#[97]⟩, .string ⟨#[120]⟩, .int .i64 1, .string ⟨#[116, 119, 111]⟩, .bool false]); have B12 := aS (blk_below B9.out HS.out); have HA9 := aS (HA7.out.below HS.out); have HB9 := aS (below_step HB7.out HS.out); clear B10 HL8 HS HA7 HB7 B9 G4; generalize World.setRow w8 g4 #[.string ⟨#[97]⟩, .string ⟨#[120]⟩, .int .i64 1, .string ⟨#[116, 119, 111]⟩, .bool false] = w9 at B11 B12 HA9 HB9 ⊢; have q7 := cK5 B11; have q8 := cK5 B12))
 go_wp2_with (first | (go_at_call 16; (with_reducible refine (mem_Mem_Len.calls g _ xs 22 v _ HA9.out).mono ?_);  rintro e_ w10 ⟨he, hb⟩; obtain rfl : e_ = .returned (.int .i64 1) := he.trans (by rw [C1.out]; rfl); have HB10 := aS (below_step HB9.out hb); have HA10 := aS (HA9.out.below hb); have B13 := aS (blk_below B11.out hb); have B14 := aS (blk_below B12.out hb); clear hb he B11 B12 HB9 HA9; have q9 := cK5 B13; have q10 := cK5 B14) | (go_at_call 17; (with_reducible refine (mem_Mem_Size.calls g _ xs 22 v _ HA10.out).mono ?_); rintro e_ w11 ⟨rfl, hb⟩; have HB11 := aS (below_step HB10.out hb); have HA11 := aS (HA10.out.below hb); clear hb HB10 HA10) | (go_at_call 24; (with_reducible refine (mem_Mem_Rows.calls g _ xs s 22 v _ _ _ HA11.out X3.out).mono ?_); rintro e_ w12 ⟨u, rfl, ho, hb⟩; obtain ⟨A2, cc2, hv, -, -⟩ := Kd.R_reads ho; rw [C4.out] at hv; subst hv; have HB12 := aS (below_step HB11.out hb); have HA12 := aS (HA11.out.below hb); clear hb ho HB11 HA11) | (go_at_call 10; (with_reducible refine (mem_Mem_Put.calls k g _ xs 22 v _ _ _ _ _ ys m false _ HA12.out X4.out).mono ?_); rintro e_ w13 ⟨rfl, v', ha, hw, -⟩; have HB13 := aS (hw.below HA12.out HZ.out HB12.out); have HA13 := aS ha; clear ha hw HB12 HA12) | (go_at_call 15; (with_reducible refine (mem_Mem_Cells.calls g _ ys c m v' _ HA13.out X5.out).mono ?_); rintro e_ w14 ⟨u, rfl, ho, hb⟩; obtain ⟨A3, cc3, hv, -, -⟩ := Kd.R_reads ho; rw [C6.out] at hv; subst hv; have HB14 := aS (below_step HB13.out hb); clear hb ho HB13 HA13))
 go_ret
 exact ⟨rfl, HB14.out⟩

/-! ### shardloglaw09_few: function 8 -/
mutual
def shardloglaw09_few.l0 : Nat → List (S29) → Int → Option (Bool)
 | 0, _, _ => none
 | k + 1, x0, x3 => if x3 < (x0.length : Int) then (shardloglaw09_few.j1 k x0 x3 (decide (x3 < 100))) else (shardloglaw09_few.j1 k x0 x3 false)
def shardloglaw09_few.j1 : Nat → List (S29) → Int → Bool → Option (Bool)
 | 0, _, _, _ => none
 | k + 1, x0, x3, x11 => if x11 = true then (if 0 ≤ x3 then (if x3 < (x0.length : Int) then (if (((rd_T29 x0 x3).f0).size : Int) > 200 then (some false) else (if (((rd_T29 x0 x3).f1).size : Int) > 200 then (some false) else (if (((rd_T29 x0 x3).f3).size : Int) > 400 then (some false) else (shardloglaw09_few.l0 k x0 (wrap64 (x3 + 1)))))) else (none)) else (none)) else (some (decide ((x0.length : Int) ≤ 60)))
end
def shardloglaw09_few.f (k : Nat) (l0 : List (S29)) : Option (Bool) := shardloglaw09_few.l0 k l0 0
theorem shardloglaw09_few.mono_l : ∀ k, (∀ y0 y1, LeO (shardloglaw09_few.l0 k y0 y1) (shardloglaw09_few.l0 (k + 1) y0 y1)) ∧ (∀ y0 y1 y2, LeO (shardloglaw09_few.j1 k y0 y1 y2) (shardloglaw09_few.j1 (k + 1) y0 y1 y2))
 | 0 => ⟨fun _ _ r h => by simp [shardloglaw09_few.l0] at h, fun _ _ _ r h => by simp [shardloglaw09_few.j1] at h⟩
 | k + 1 => by
  obtain ⟨ih0, ih1⟩ := shardloglaw09_few.mono_l k
  refine ⟨?_, ?_⟩
  ·
   intro y0 y1
   unfold shardloglaw09_few.l0
   repeat' first
   | (with_reducible exact ih0 _ _)
   | (with_reducible exact ih1 _ _ _)
   | (with_reducible exact LeO.refl _)
   | (with_reducible exact LeO.none _)
   | (with_reducible refine LeO.ite ?_ ?_)
   | (with_reducible refine LeO.bind ?_ (fun _ => ?_))
   | exact LeO.none _
   | refine LeO.ite ?_ ?_
   | refine LeO.bind ?_ (fun _ => ?_)
  ·
   intro y0 y1 y2
   unfold shardloglaw09_few.j1
   repeat' first
   | (with_reducible exact ih0 _ _)
   | (with_reducible exact ih1 _ _ _)
   | (with_reducible exact LeO.refl _)
   | (with_reducible exact LeO.none _)
   | (with_reducible refine LeO.ite ?_ ?_)
   | (with_reducible refine LeO.bind ?_ (fun _ => ?_))
   | exact LeO.none _
   | refine LeO.ite ?_ ?_
   | refine LeO.bind ?_ (fun _ => ?_)
theorem shardloglaw09_few.mono : ∀ a0 k, LeO (shardloglaw09_few.f k a0) (shardloglaw09_few.f (k + 1) a0) := by
 intro a0 k
 obtain ⟨ih0, ih1⟩ := shardloglaw09_few.mono_l k
 unfold shardloglaw09_few.f
 repeat' first
   | (with_reducible exact ih0 _ _)
   | (with_reducible exact ih1 _ _ _)
   | (with_reducible exact LeO.refl _)
   | (with_reducible exact LeO.none _)
   | (with_reducible refine LeO.ite ?_ ?_)
   | (with_reducible refine LeO.bind ?_ (fun _ => ?_))
   | exact LeO.none _
   | refine LeO.ite ?_ ?_
   | refine LeO.bind ?_ (fun _ => ?_)
set_option maxHeartbeats 8000000 in
set_option maxRecDepth 100000 in
theorem shardloglaw09_few.calls (k : Nat) (A0 : Option Addr) (c0 : Nat) (l0 : List (S29)) (r : Bool) (w : World) (hr0 : Kd.C k29 w A0 l0.length l0) (hc0 : l0.length ≤ c0) (h : shardloglaw09_few.f k l0 = some r) :
  Calls Try.prog 8 #[.slice A0 l0.length c0] w fun e w' => e = .returned (.bool r) ∧ Drawn0 w w' := by
 have HR0 := aS hr0
 have HC0 := aS hc0
 clear hr0 hc0
 have H : (shardloglaw09_few.l0 k l0 0) = some r := h
 clear h
 have H' := aS H
 clear H
 go_enter Try.func8, Try.ntmps8
 go_wp2
 go_loopg [3] k (fun kq v3 w' => ∃ (x3_1 : Int), v3 = .int .i64 x3_1 ∧ Aside0 (shardloglaw09_few.l0 kq l0 x3_1 = some r) ∧ Aside0 (kq ≤ k) ∧ Drawn0 w w')
 case atStart => exact ⟨(0), (by first | rfl | (simp; done) | (simp [*]; done) | (simp; exact (by decide : ∀ a_ b_ : Bool, (a_ == b_) = (!a_ != b_)) _ _)), H', ⟨Nat.le_refl _⟩, by repeat (first | exact Drawn0.refl _ | apply Drawn0.step)⟩
 case round =>
  clear H'
  obtain ⟨x3_1, rfl, HA, HK1, ⟨m1, rfl⟩⟩ := hrel
  cases gk with
  | zero => exact absurd HA.out (by simp [shardloglaw09_few.l0])
  | succ k1 =>
   have H := HA.out; clear HA
   simp only [shardloglaw09_few.l0] at H
   have HC2 := aS H
   clear H
   go_upto_region 2 with (fail)
   go_cut [11] (fun v11 wc => ∃ (kq : Nat) (x11_1 : Bool), v11 = .bool x11_1 ∧ Aside0 (shardloglaw09_few.j1 kq l0 x3_1 x11_1 = some r) ∧ Aside0 (kq ≤ k1) ∧ Drawn0 w wc)
   case first =>
    have H := HC2.out; clear HC2
    by_cases c3 : x3_1 < (l0.length : Int)
    ·
     rw [if_pos c3] at H
     have c3b0 : decide (x3_1 < (l0.length : Int)) = true := decide_eq_true c3
     clear c3
     (first | rw [c3b0] | (simp only [i64_w, i32_w]; rw [c3b0]) | skip)
     have H' := aS H
     clear H
     go_wp2
     go_meet
     case rel => exact ⟨_, (decide (x3_1 < 100)), (by first | rfl | (simp; done) | (simp [*]; done) | (simp; exact (by decide : ∀ a_ b_ : Bool, (a_ == b_) = (!a_ != b_)) _ _)), H', ⟨by have := HK1.out; first | omega | exact Nat.le_refl _⟩, by repeat (first | exact Drawn0.refl _ | apply Drawn0.step)⟩
    ·
     rw [if_neg c3] at H
     have c3b0 : decide (x3_1 < (l0.length : Int)) = false := decide_eq_false c3
     clear c3
     (first | rw [c3b0] | (simp only [i64_w, i32_w]; rw [c3b0]) | skip)
     have H' := aS H
     clear H
     go_wp2
     go_meet
     case rel => exact ⟨_, (false), (by first | rfl | (simp; done) | (simp [*]; done) | (simp; exact (by decide : ∀ a_ b_ : Bool, (a_ == b_) = (!a_ != b_)) _ _)), H', ⟨by have := HK1.out; first | omega | exact Nat.le_refl _⟩, by repeat (first | exact Drawn0.refl _ | apply Drawn0.step)⟩
   case rest =>
    clear HC2; (try clear p2); (try clear c3); (try clear c3b0)
    obtain ⟨kq, x11_1, rfl, HA, HJ1, ⟨mc1, rfl⟩⟩ := hcut
    cases kq with
    | zero => exact absurd HA.out (by simp [shardloglaw09_few.j1])
    | succ kj1 =>
     have H := HA.out; clear HA
     simp only [shardloglaw09_few.j1] at H
     by_cases c4 : x11_1 = true
     ·
      subst c4
      have H1 : (if 0 ≤ x3_1 then (if x3_1 < (l0.length : Int) then (if (((rd_T29 l0 x3_1).f0).size : Int) > 200 then (some false) else (if (((rd_T29 l0 x3_1).f1).size : Int) > 200 then (some false) else (if (((rd_T29 l0 x3_1).f3).size : Int) > 400 then (some false) else (shardloglaw09_few.l0 kj1 l0 (wrap64 (x3_1 + 1)))))) else (none)) else (none)) = some r := by rw [if_pos rfl] at H; exact H
      clear H; have H := H1; clear H1
      by_cases c5 : 0 ≤ x3_1
      ·
       rw [if_pos c5] at H
       have c5b0 : decide (0 ≤ x3_1) = true := decide_eq_true c5
       clear c5
       by_cases c6 : x3_1 < (l0.length : Int)
       ·
        rw [if_pos c6] at H
        have c6b0 : decide (x3_1 < (l0.length : Int)) = true := decide_eq_true c6
        clear c6
        by_cases c7 : (((rd_T29 l0 x3_1).f0).size : Int) > 200
        ·
         rw [if_pos c7] at H
         have c7b0 : decide (200 < (((rd_T29 l0 x3_1).f0).size : Int)) = true := decide_eq_true c7
         have c7b1 : decide (200 < ((rd_T29 l0 x3_1).f0).size) = true := decide_eq_true (by omega)
         clear c7
         obtain rfl := Option.some.inj H
         have p165 : 0 ≤ (x3_1 : Int) := odt (by first | (with_reducible assumption) | assumption)
         have q165 : x3_1 < (l0.length : Int) := odt (by first | (with_reducible assumption) | assumption)
         obtain ⟨ad165, e165, hx165_0, hx165_1, hx165_2, hx165_3, hx165_4⟩ := at_T29 HR0.out x3_1 p165 q165
         cases e165
         replace p165 := eq_true p165
         replace q165 := eq_true q165
         go_wp2
         go_ret
         exact ⟨by first | rfl | (simp; done) | (simp [*]; done) | (simp; exact (by decide : ∀ a_ b_ : Bool, (a_ == b_) = (!a_ != b_)) _ _), by repeat (first | exact Drawn0.refl _ | apply Drawn0.step)⟩
        ·
         rw [if_neg c7] at H
         have c7b0 : decide (200 < (((rd_T29 l0 x3_1).f0).size : Int)) = false := decide_eq_false c7
         have c7b1 : decide (200 < ((rd_T29 l0 x3_1).f0).size) = false := decide_eq_false (by omega)
         clear c7
         by_cases c8 : (((rd_T29 l0 x3_1).f1).size : Int) > 200
         ·
          rw [if_pos c8] at H
          have c8b0 : decide (200 < (((rd_T29 l0 x3_1).f1).size : Int)) = true := decide_eq_true c8
          have c8b1 : decide (200 < ((rd_T29 l0 x3_1).f1).size) = true := decide_eq_true (by omega)
          clear c8
          obtain rfl := Option.some.inj H
          have p165 : 0 ≤ (x3_1 : Int) := odt (by first | (with_reducible assumption) | assumption)
          have q165 : x3_1 < (l0.length : Int) := odt (by first | (with_reducible assumption) | assumption)
          obtain ⟨ad165, e165, hx165_0, hx165_1, hx165_2, hx165_3, hx165_4⟩ := at_T29 HR0.out x3_1 p165 q165
          cases e165
          replace p165 := eq_true p165
          replace q165 := eq_true q165
          have p166 : 0 ≤ (x3_1 : Int) := odt (by first | (with_reducible assumption) | assumption)
          have q166 : x3_1 < (l0.length : Int) := odt (by first | (with_reducible assumption) | assumption)
          obtain ⟨ad166, e166, hx166_0, hx166_1, hx166_2, hx166_3, hx166_4⟩ := at_T29 HR0.out x3_1 p166 q166
          obtain rfl : ad165 = ad166 := (by injection e166)
          replace p166 := eq_true p166
          replace q166 := eq_true q166
          go_wp2
          go_ret
          exact ⟨by first | rfl | (simp; done) | (simp [*]; done) | (simp; exact (by decide : ∀ a_ b_ : Bool, (a_ == b_) = (!a_ != b_)) _ _), by repeat (first | exact Drawn0.refl _ | apply Drawn0.step)⟩
         ·
          rw [if_neg c8] at H
          have c8b0 : decide (200 < (((rd_T29 l0 x3_1).f1).size : Int)) = false := decide_eq_false c8
          have c8b1 : decide (200 < ((rd_T29 l0 x3_1).f1).size) = false := decide_eq_false (by omega)
          clear c8
          by_cases c9 : (((rd_T29 l0 x3_1).f3).size : Int) > 400
          ·
           rw [if_pos c9] at H
           have c9b0 : decide (400 < (((rd_T29 l0 x3_1).f3).size : Int)) = true := decide_eq_true c9
           have c9b1 : decide (400 < ((rd_T29 l0 x3_1).f3).size) = true := decide_eq_true (by omega)
           clear c9
           obtain rfl := Option.some.inj H
           have p165 : 0 ≤ (x3_1 : Int) := odt (by first | (with_reducible assumption) | assumption)
           have q165 : x3_1 < (l0.length : Int) := odt (by first | (with_reducible assumption) | assumption)
           obtain ⟨ad165, e165, hx165_0, hx165_1, hx165_2, hx165_3, hx165_4⟩ := at_T29 HR0.out x3_1 p165 q165
           cases e165
           replace p165 := eq_true p165
           replace q165 := eq_true q165
           have p166 : 0 ≤ (x3_1 : Int) := odt (by first | (with_reducible assumption) | assumption)
           have q166 : x3_1 < (l0.length : Int) := odt (by first | (with_reducible assumption) | assumption)
           obtain ⟨ad166, e166, hx166_0, hx166_1, hx166_2, hx166_3, hx166_4⟩ := at_T29 HR0.out x3_1 p166 q166
           obtain rfl : ad165 = ad166 := (by injection e166)
           replace p166 := eq_true p166
           replace q166 := eq_true q166
           have p167 : 0 ≤ (x3_1 : Int) := odt (by first | (with_reducible assumption) | assumption)
           have q167 : x3_1 < (l0.length : Int) := odt (by first | (with_reducible assumption) | assumption)
           obtain ⟨ad167, e167, hx167_0, hx167_1, hx167_2, hx167_3, hx167_4⟩ := at_T29 HR0.out x3_1 p167 q167
           obtain rfl : ad165 = ad167 := (by injection e167)
           replace p167 := eq_true p167
           replace q167 := eq_true q167
           go_wp2
           go_ret
           exact ⟨by first | rfl | (simp; done) | (simp [*]; done) | (simp; exact (by decide : ∀ a_ b_ : Bool, (a_ == b_) = (!a_ != b_)) _ _), by repeat (first | exact Drawn0.refl _ | apply Drawn0.step)⟩
          ·
           rw [if_neg c9] at H
           have c9b0 : decide (400 < (((rd_T29 l0 x3_1).f3).size : Int)) = false := decide_eq_false c9
           have c9b1 : decide (400 < ((rd_T29 l0 x3_1).f3).size) = false := decide_eq_false (by omega)
           clear c9
           have H' := aS H
           clear H
           have p165 : 0 ≤ (x3_1 : Int) := odt (by first | (with_reducible assumption) | assumption)
           have q165 : x3_1 < (l0.length : Int) := odt (by first | (with_reducible assumption) | assumption)
           obtain ⟨ad165, e165, hx165_0, hx165_1, hx165_2, hx165_3, hx165_4⟩ := at_T29 HR0.out x3_1 p165 q165
           cases e165
           replace p165 := eq_true p165
           replace q165 := eq_true q165
           have p166 : 0 ≤ (x3_1 : Int) := odt (by first | (with_reducible assumption) | assumption)
           have q166 : x3_1 < (l0.length : Int) := odt (by first | (with_reducible assumption) | assumption)
           obtain ⟨ad166, e166, hx166_0, hx166_1, hx166_2, hx166_3, hx166_4⟩ := at_T29 HR0.out x3_1 p166 q166
           obtain rfl : ad165 = ad166 := (by injection e166)
           replace p166 := eq_true p166
           replace q166 := eq_true q166
           have p167 : 0 ≤ (x3_1 : Int) := odt (by first | (with_reducible assumption) | assumption)
           have q167 : x3_1 < (l0.length : Int) := odt (by first | (with_reducible assumption) | assumption)
           obtain ⟨ad167, e167, hx167_0, hx167_1, hx167_2, hx167_3, hx167_4⟩ := at_T29 HR0.out x3_1 p167 q167
           obtain rfl : ad165 = ad167 := (by injection e167)
           replace p167 := eq_true p167
           replace q167 := eq_true q167
           go_wp2
           go_roundg kj1
           case measure => have := HK1.out; have := HJ1.out; omega
           case rel => exact ⟨(wrap64 (x3_1 + 1)), (by first | rfl | (simp; done) | (simp [*]; done) | (simp; exact (by decide : ∀ a_ b_ : Bool, (a_ == b_) = (!a_ != b_)) _ _)), H', ⟨by have := HK1.out; have := HJ1.out; omega⟩, by repeat (first | exact Drawn0.refl _ | apply Drawn0.step)⟩
       ·
        rw [if_neg c6] at H
        exact absurd H (by simp)
      ·
       rw [if_neg c5] at H
       exact absurd H (by simp)
     ·
      replace c4 := Bool.eq_false_iff.mpr c4
      subst c4
      have H1 : (some (decide ((l0.length : Int) ≤ 60))) = some r := by rw [if_neg (show ¬ (false = true) by decide)] at H; exact H
      clear H; have H := H1; clear H1
      obtain rfl := Option.some.inj H
      go_wp2
      go_ret
      exact ⟨by first | rfl | (simp; done) | (simp [*]; done) | (simp; exact (by decide : ∀ a_ b_ : Bool, (a_ == b_) = (!a_ != b_)) _ _), by repeat (first | exact Drawn0.refl _ | apply Drawn0.step)⟩

/-! ### shardlogref08_Right: function 11 -/
def shardlogref08_Right.f (a0_0 : ByteArray) (a0_1 : ByteArray) (a0_2 : Int) (a0_3 : ByteArray) (a0_4 : Bool) : Option (Bool) := if (a0_0.size : Int) < 1 then (some false) else (if (a0_0.size : Int) > 64 then (some false) else (if (a0_1.size : Int) < 1 then (some false) else (if (a0_1.size : Int) > 64 then (some false) else (if a0_2 < 0 then (some false) else (if a0_2 > 4294967295 then (some false) else (if (a0_3.size : Int) ≤ 256 then (if a0_4 = true then (some (a0_3.toList == ([] : List UInt8))) else (some true)) else (some false)))))))
set_option maxHeartbeats 8000000 in
set_option maxRecDepth 100000 in
theorem shardlogref08_Right.calls (a0_0 : ByteArray) (a0_1 : ByteArray) (a0_2 : Int) (a0_3 : ByteArray) (a0_4 : Bool) (r : Bool) (w : World) (h : shardlogref08_Right.f a0_0 a0_1 a0_2 a0_3 a0_4 = some r) :
  Calls Try.prog 11 #[.agg #[.string a0_0, .string a0_1, .int .i64 a0_2, .string a0_3, .bool a0_4]] w fun e w' => e = .returned (.bool r) ∧ Below w.heap.size w w' := by
 have hu29 := Try.underlying29
 have HB := aS (Below.refl w.heap.size w)
 have H : (if (a0_0.size : Int) < 1 then (some false) else (if (a0_0.size : Int) > 64 then (some false) else (if (a0_1.size : Int) < 1 then (some false) else (if (a0_1.size : Int) > 64 then (some false) else (if a0_2 < 0 then (some false) else (if a0_2 > 4294967295 then (some false) else (if (a0_3.size : Int) ≤ 256 then (if a0_4 = true then (some (a0_3.toList == ([] : List UInt8))) else (some true)) else (some false)))))))) = some r := h
 clear h
 by_cases c2 : (a0_0.size : Int) < 1
 ·
  rw [if_pos c2] at H
  have c2b0 : decide ((a0_0.size : Int) < 1) = true := decide_eq_true c2
  have c2b1 : decide (a0_0.size < 1) = true := decide_eq_true (by omega)
  clear c2
  obtain rfl := Option.some.inj H
  go_enter Try.func11, Try.ntmps11
  go_wp2_with (first | ((with_reducible refine gate_dst (N := 1) rfl ?_); (try (refine gate_guard (by rfl) ?_; dsimp only)); refine box_event ?hg (N := 1) ?hd (cs := #[.string a0_0, .string a0_1, .int .i64 a0_2, .string a0_3, .bool a0_4]) (t := 29) ?hr ?_; (case hd => rfl); (case hg => rfl); (case hr => first | (go_simp; done) | (go_simp; rfl)); intro gb168 hg w3 hbox hb; have n0_ := bstep hb; have n1_ := aS (hbox); have n2_ := bsize hg; have n3_ := bsize hg; clear HB; have HB := n0_; have BK168 := n1_; have GW168 := n2_; have GE168 := n3_; clear n0_ n1_ n2_ n3_; clear hb hbox hg; have hcz4 := cK5 BK168))
  go_ret
  exact ⟨rf3, bel⟩
 ·
  rw [if_neg c2] at H
  have c2b0 : decide ((a0_0.size : Int) < 1) = false := decide_eq_false c2
  have c2b1 : decide (a0_0.size < 1) = false := decide_eq_false (by omega)
  clear c2
  by_cases c5 : (a0_0.size : Int) > 64
  ·
   rw [if_pos c5] at H
   have c5b0 : decide (64 < (a0_0.size : Int)) = true := decide_eq_true c5
   have c5b1 : decide (64 < a0_0.size) = true := decide_eq_true (by omega)
   clear c5
   obtain rfl := Option.some.inj H
   go_enter Try.func11, Try.ntmps11
   go_wp2_with (first | ((with_reducible refine gate_dst (N := 1) rfl ?_); (try (refine gate_guard (by rfl) ?_; dsimp only)); refine box_event ?hg (N := 1) ?hd (cs := #[.string a0_0, .string a0_1, .int .i64 a0_2, .string a0_3, .bool a0_4]) (t := 29) ?hr ?_; (case hd => rfl); (case hg => rfl); (case hr => first | (go_simp; done) | (go_simp; rfl)); intro gb168 hg w6 hbox hb; have n0_ := bstep hb; have n1_ := aS (hbox); have n2_ := bsize hg; have n3_ := bsize hg; clear HB; have HB := n0_; have BK168 := n1_; have GW168 := n2_; have GE168 := n3_; clear n0_ n1_ n2_ n3_; clear hb hbox hg; have hcz7 := cK5 BK168))
   go_ret
   exact ⟨rf3, bel⟩
  ·
   rw [if_neg c5] at H
   have c5b0 : decide (64 < (a0_0.size : Int)) = false := decide_eq_false c5
   have c5b1 : decide (64 < a0_0.size) = false := decide_eq_false (by omega)
   clear c5
   by_cases c8 : (a0_1.size : Int) < 1
   ·
    rw [if_pos c8] at H
    have c8b0 : decide ((a0_1.size : Int) < 1) = true := decide_eq_true c8
    have c8b1 : decide (a0_1.size < 1) = true := decide_eq_true (by omega)
    clear c8
    obtain rfl := Option.some.inj H
    go_enter Try.func11, Try.ntmps11
    go_wp2_with (first | ((with_reducible refine gate_dst (N := 1) rfl ?_); (try (refine gate_guard (by rfl) ?_; dsimp only)); refine box_event ?hg (N := 1) ?hd (cs := #[.string a0_0, .string a0_1, .int .i64 a0_2, .string a0_3, .bool a0_4]) (t := 29) ?hr ?_; (case hd => rfl); (case hg => rfl); (case hr => first | (go_simp; done) | (go_simp; rfl)); intro gb168 hg w9 hbox hb; have n0_ := bstep hb; have n1_ := aS (hbox); have n2_ := bsize hg; have n3_ := bsize hg; clear HB; have HB := n0_; have BK168 := n1_; have GW168 := n2_; have GE168 := n3_; clear n0_ n1_ n2_ n3_; clear hb hbox hg; have hcz10 := cK5 BK168))
    go_ret
    exact ⟨rf3, bel⟩
   ·
    rw [if_neg c8] at H
    have c8b0 : decide ((a0_1.size : Int) < 1) = false := decide_eq_false c8
    have c8b1 : decide (a0_1.size < 1) = false := decide_eq_false (by omega)
    clear c8
    by_cases c11 : (a0_1.size : Int) > 64
    ·
     rw [if_pos c11] at H
     have c11b0 : decide (64 < (a0_1.size : Int)) = true := decide_eq_true c11
     have c11b1 : decide (64 < a0_1.size) = true := decide_eq_true (by omega)
     clear c11
     obtain rfl := Option.some.inj H
     go_enter Try.func11, Try.ntmps11
     go_wp2_with (first | ((with_reducible refine gate_dst (N := 1) rfl ?_); (try (refine gate_guard (by rfl) ?_; dsimp only)); refine box_event ?hg (N := 1) ?hd (cs := #[.string a0_0, .string a0_1, .int .i64 a0_2, .string a0_3, .bool a0_4]) (t := 29) ?hr ?_; (case hd => rfl); (case hg => rfl); (case hr => first | (go_simp; done) | (go_simp; rfl)); intro gb168 hg w12 hbox hb; have n0_ := bstep hb; have n1_ := aS (hbox); have n2_ := bsize hg; have n3_ := bsize hg; clear HB; have HB := n0_; have BK168 := n1_; have GW168 := n2_; have GE168 := n3_; clear n0_ n1_ n2_ n3_; clear hb hbox hg; have hcz13 := cK5 BK168))
     go_ret
     exact ⟨rf3, bel⟩
    ·
     rw [if_neg c11] at H
     have c11b0 : decide (64 < (a0_1.size : Int)) = false := decide_eq_false c11
     have c11b1 : decide (64 < a0_1.size) = false := decide_eq_false (by omega)
     clear c11
     by_cases c14 : a0_2 < 0
     ·
      rw [if_pos c14] at H
      have c14b0 : decide (a0_2 < 0) = true := decide_eq_true c14
      clear c14
      obtain rfl := Option.some.inj H
      go_enter Try.func11, Try.ntmps11
      go_wp2_with (first | ((with_reducible refine gate_dst (N := 1) rfl ?_); (try (refine gate_guard (by rfl) ?_; dsimp only)); refine box_event ?hg (N := 1) ?hd (cs := #[.string a0_0, .string a0_1, .int .i64 a0_2, .string a0_3, .bool a0_4]) (t := 29) ?hr ?_; (case hd => rfl); (case hg => rfl); (case hr => first | (go_simp; done) | (go_simp; rfl)); intro gb168 hg w15 hbox hb; have n0_ := bstep hb; have n1_ := aS (hbox); have n2_ := bsize hg; have n3_ := bsize hg; clear HB; have HB := n0_; have BK168 := n1_; have GW168 := n2_; have GE168 := n3_; clear n0_ n1_ n2_ n3_; clear hb hbox hg; have hcz16 := cK5 BK168))
      go_ret
      exact ⟨rf3, bel⟩
     ·
      rw [if_neg c14] at H
      have c14b0 : decide (a0_2 < 0) = false := decide_eq_false c14
      clear c14
      by_cases c17 : a0_2 > 4294967295
      ·
       rw [if_pos c17] at H
       have c17b0 : decide (4294967295 < a0_2) = true := decide_eq_true c17
       clear c17
       obtain rfl := Option.some.inj H
       go_enter Try.func11, Try.ntmps11
       go_wp2_with (first | ((with_reducible refine gate_dst (N := 1) rfl ?_); (try (refine gate_guard (by rfl) ?_; dsimp only)); refine box_event ?hg (N := 1) ?hd (cs := #[.string a0_0, .string a0_1, .int .i64 a0_2, .string a0_3, .bool a0_4]) (t := 29) ?hr ?_; (case hd => rfl); (case hg => rfl); (case hr => first | (go_simp; done) | (go_simp; rfl)); intro gb168 hg w18 hbox hb; have n0_ := bstep hb; have n1_ := aS (hbox); have n2_ := bsize hg; have n3_ := bsize hg; clear HB; have HB := n0_; have BK168 := n1_; have GW168 := n2_; have GE168 := n3_; clear n0_ n1_ n2_ n3_; clear hb hbox hg; have hcz19 := cK5 BK168))
       go_ret
       exact ⟨rf3, bel⟩
      ·
       rw [if_neg c17] at H
       have c17b0 : decide (4294967295 < a0_2) = false := decide_eq_false c17
       clear c17
       by_cases c20 : (a0_3.size : Int) ≤ 256
       ·
        rw [if_pos c20] at H
        have c20b0 : decide ((a0_3.size : Int) ≤ 256) = true := decide_eq_true c20
        have c20b1 : decide (a0_3.size ≤ 256) = true := decide_eq_true (by omega)
        clear c20
        by_cases c21 : a0_4 = true
        ·
         subst c21
         have H1 : (some (a0_3.toList == ([] : List UInt8))) = some r := by rw [if_pos rfl] at H; exact H
         clear H; have H := H1; clear H1
         obtain rfl := Option.some.inj H
         go_enter Try.func11, Try.ntmps11
         go_wp2_with (first | ((with_reducible refine gate_dst (N := 1) rfl ?_); (try (refine gate_guard (by rfl) ?_; dsimp only)); refine box_event ?hg (N := 1) ?hd (cs := #[.string a0_0, .string a0_1, .int .i64 a0_2, .string a0_3, .bool true]) (t := 29) ?hr ?_; (case hd => rfl); (case hg => rfl); (case hr => first | (go_simp; done) | (go_simp; rfl)); intro gb168 hg w22 hbox hb; have n0_ := bstep hb; have n1_ := aS (hbox); have n2_ := bsize hg; have n3_ := bsize hg; clear HB; have HB := n0_; have BK168 := n1_; have GW168 := n2_; have GE168 := n3_; clear n0_ n1_ n2_ n3_; clear hb hbox hg; have hcz23 := cK5 BK168))
         go_ret
         exact ⟨rf3, bel⟩
        ·
         replace c21 := Bool.eq_false_iff.mpr c21
         subst c21
         have H1 : (some true) = some r := by rw [if_neg (show ¬ (false = true) by decide)] at H; exact H
         clear H; have H := H1; clear H1
         obtain rfl := Option.some.inj H
         go_enter Try.func11, Try.ntmps11
         go_wp2_with (first | ((with_reducible refine gate_dst (N := 1) rfl ?_); (try (refine gate_guard (by rfl) ?_; dsimp only)); refine box_event ?hg (N := 1) ?hd (cs := #[.string a0_0, .string a0_1, .int .i64 a0_2, .string a0_3, .bool false]) (t := 29) ?hr ?_; (case hd => rfl); (case hg => rfl); (case hr => first | (go_simp; done) | (go_simp; rfl)); intro gb168 hg w24 hbox hb; have n0_ := bstep hb; have n1_ := aS (hbox); have n2_ := bsize hg; have n3_ := bsize hg; clear HB; have HB := n0_; have BK168 := n1_; have GW168 := n2_; have GE168 := n3_; clear n0_ n1_ n2_ n3_; clear hb hbox hg; have hcz25 := cK5 BK168))
         go_ret
         exact ⟨rf3, bel⟩
       ·
        rw [if_neg c20] at H
        have c20b0 : decide ((a0_3.size : Int) ≤ 256) = false := decide_eq_false c20
        have c20b1 : decide (a0_3.size ≤ 256) = false := decide_eq_false (by omega)
        clear c20
        obtain rfl := Option.some.inj H
        go_enter Try.func11, Try.ntmps11
        go_wp2_with (first | ((with_reducible refine gate_dst (N := 1) rfl ?_); (try (refine gate_guard (by rfl) ?_; dsimp only)); refine box_event ?hg (N := 1) ?hd (cs := #[.string a0_0, .string a0_1, .int .i64 a0_2, .string a0_3, .bool a0_4]) (t := 29) ?hr ?_; (case hd => rfl); (case hg => rfl); (case hr => first | (go_simp; done) | (go_simp; rfl)); intro gb168 hg w26 hbox hb; have n0_ := bstep hb; have n1_ := aS (hbox); have n2_ := bsize hg; have n3_ := bsize hg; clear HB; have HB := n0_; have BK168 := n1_; have GW168 := n2_; have GE168 := n3_; clear n0_ n1_ n2_ n3_; clear hb hbox hg; have hcz27 := cK5 BK168))
        go_ret
        exact ⟨rf3, bel⟩

/-! ### shardlogref08_Text: function 23 -/
mutual
def shardlogref08_Text.l0 : Nat → ByteArray → ByteArray → Int → Option (Int)
 | 0, _, _, _ => none
 | k + 1, x0, x1, x5 => if x5 < (x0.size : Int) then (shardlogref08_Text.j1 k x0 x1 x5 (decide (x5 < (x1.size : Int)))) else (shardlogref08_Text.j1 k x0 x1 x5 false)
def shardlogref08_Text.j1 : Nat → ByteArray → ByteArray → Int → Bool → Option (Int)
 | 0, _, _, _, _ => none
 | k + 1, x0, x1, x5, x15 => if x15 = true then (if 0 ≤ x5 then (if x5 < (x0.size : Int) then (if x5 < (x1.size : Int) then (if (bt x0 x5) < (bt x1 x5) then (some (-1)) else (if (bt x0 x5) > (bt x1 x5) then (some 1) else (shardlogref08_Text.l0 k x0 x1 (wrap64 (x5 + 1))))) else (none)) else (none)) else (none)) else (if (x0.size : Int) < (x1.size : Int) then (some (-1)) else (if (x0.size : Int) > (x1.size : Int) then (some 1) else (some 0)))
end
def shardlogref08_Text.f (k : Nat) (a0 : ByteArray) (a1 : ByteArray) : Option (Int) := shardlogref08_Text.l0 k a0 a1 0
theorem shardlogref08_Text.mono_l : ∀ k, (∀ y0 y1 y2, LeO (shardlogref08_Text.l0 k y0 y1 y2) (shardlogref08_Text.l0 (k + 1) y0 y1 y2)) ∧ (∀ y0 y1 y2 y3, LeO (shardlogref08_Text.j1 k y0 y1 y2 y3) (shardlogref08_Text.j1 (k + 1) y0 y1 y2 y3))
 | 0 => ⟨fun _ _ _ r h => by simp [shardlogref08_Text.l0] at h, fun _ _ _ _ r h => by simp [shardlogref08_Text.j1] at h⟩
 | k + 1 => by
  obtain ⟨ih0, ih1⟩ := shardlogref08_Text.mono_l k
  refine ⟨?_, ?_⟩
  ·
   intro y0 y1 y2
   unfold shardlogref08_Text.l0
   repeat' first
   | (with_reducible exact ih0 _ _ _)
   | (with_reducible exact ih1 _ _ _ _)
   | (with_reducible exact LeO.refl _)
   | (with_reducible exact LeO.none _)
   | (with_reducible refine LeO.ite ?_ ?_)
   | (with_reducible refine LeO.bind ?_ (fun _ => ?_))
   | exact LeO.none _
   | refine LeO.ite ?_ ?_
   | refine LeO.bind ?_ (fun _ => ?_)
  ·
   intro y0 y1 y2 y3
   unfold shardlogref08_Text.j1
   repeat' first
   | (with_reducible exact ih0 _ _ _)
   | (with_reducible exact ih1 _ _ _ _)
   | (with_reducible exact LeO.refl _)
   | (with_reducible exact LeO.none _)
   | (with_reducible refine LeO.ite ?_ ?_)
   | (with_reducible refine LeO.bind ?_ (fun _ => ?_))
   | exact LeO.none _
   | refine LeO.ite ?_ ?_
   | refine LeO.bind ?_ (fun _ => ?_)
theorem shardlogref08_Text.mono : ∀ a0 a1 k, LeO (shardlogref08_Text.f k a0 a1) (shardlogref08_Text.f (k + 1) a0 a1) := by
 intro a0 a1 k
 obtain ⟨ih0, ih1⟩ := shardlogref08_Text.mono_l k
 unfold shardlogref08_Text.f
 repeat' first
   | (with_reducible exact ih0 _ _ _)
   | (with_reducible exact ih1 _ _ _ _)
   | (with_reducible exact LeO.refl _)
   | (with_reducible exact LeO.none _)
   | (with_reducible refine LeO.ite ?_ ?_)
   | (with_reducible refine LeO.bind ?_ (fun _ => ?_))
   | exact LeO.none _
   | refine LeO.ite ?_ ?_
   | refine LeO.bind ?_ (fun _ => ?_)
set_option maxHeartbeats 8000000 in
set_option maxRecDepth 100000 in
theorem shardlogref08_Text.calls (k : Nat) (a0 : ByteArray) (a1 : ByteArray) (r : Int) (w : World) (h : shardlogref08_Text.f k a0 a1 = some r) :
  Calls Try.prog 23 #[.string a0, .string a1] w fun e w' => e = .returned (.int .i64 r) ∧ Drawn0 w w' := by
 have H : (shardlogref08_Text.l0 k a0 a1 0) = some r := h
 clear h
 have H' := aS H
 clear H
 go_enter Try.func23, Try.ntmps23
 go_wp2
 repeat (go_quiet (fail); try go_wp2)
 go_loopg [5] k (fun kq v5 w' => ∃ (x5_1 : Int), v5 = .int .i64 x5_1 ∧ Aside0 (shardlogref08_Text.l0 kq a0 a1 x5_1 = some r) ∧ Aside0 (kq ≤ k) ∧ Drawn0 w w')
 case atStart => exact ⟨(0), (by first | rfl | (simp; done) | (simp [*]; done) | (simp; exact (by decide : ∀ a_ b_ : Bool, (a_ == b_) = (!a_ != b_)) _ _)), H', ⟨Nat.le_refl _⟩, by repeat (first | exact Drawn0.refl _ | apply Drawn0.step)⟩
 case round =>
  clear H'; (try clear c2); (try clear p2)
  obtain ⟨x5_1, rfl, HA, HK1, ⟨m1, rfl⟩⟩ := hrel
  cases gk with
  | zero => exact absurd HA.out (by simp [shardlogref08_Text.l0])
  | succ k1 =>
   have H := HA.out; clear HA
   simp only [shardlogref08_Text.l0] at H
   have HC3 := aS H
   clear H
   go_upto_region 2 with (fail)
   repeat (go_quiet (fail); go_upto_region 2 with (fail))
   go_cut [15] (fun v15 wc => ∃ (kq : Nat) (x15_2 : Bool), v15 = .bool x15_2 ∧ Aside0 (shardlogref08_Text.j1 kq a0 a1 x5_1 x15_2 = some r) ∧ Aside0 (kq ≤ k1) ∧ Drawn0 w wc)
   case first =>
    have H := HC3.out; clear HC3
    by_cases c4 : x5_1 < (a0.size : Int)
    ·
     rw [if_pos c4] at H
     have c4b0 : decide (x5_1 < (a0.size : Int)) = true := decide_eq_true c4
     clear c4
     (first | rw [c4b0] | (simp only [i64_w, i32_w]; rw [c4b0]) | skip)
     have H' := aS H
     clear H
     go_wp2
     repeat (go_quiet (fail); try go_wp2)
     go_meet
     case rel => exact ⟨_, (decide (x5_1 < (a1.size : Int))), (by first | rfl | (simp; done) | (simp [*]; done) | (simp; exact (by decide : ∀ a_ b_ : Bool, (a_ == b_) = (!a_ != b_)) _ _)), H', ⟨by have := HK1.out; first | omega | exact Nat.le_refl _⟩, by repeat (first | exact Drawn0.refl _ | apply Drawn0.step)⟩
    ·
     rw [if_neg c4] at H
     have c4b0 : decide (x5_1 < (a0.size : Int)) = false := decide_eq_false c4
     clear c4
     (first | rw [c4b0] | (simp only [i64_w, i32_w]; rw [c4b0]) | skip)
     have H' := aS H
     clear H
     go_wp2
     repeat (go_quiet (fail); try go_wp2)
     go_meet
     case rel => exact ⟨_, (false), (by first | rfl | (simp; done) | (simp [*]; done) | (simp; exact (by decide : ∀ a_ b_ : Bool, (a_ == b_) = (!a_ != b_)) _ _)), H', ⟨by have := HK1.out; first | omega | exact Nat.le_refl _⟩, by repeat (first | exact Drawn0.refl _ | apply Drawn0.step)⟩
   case rest =>
    clear HC3; (try clear c2); (try clear p2); (try clear c4); (try clear c4b0)
    obtain ⟨kq, x15_2, rfl, HA, HJ2, ⟨mc2, rfl⟩⟩ := hcut
    cases kq with
    | zero => exact absurd HA.out (by simp [shardlogref08_Text.j1])
    | succ kj2 =>
     have H := HA.out; clear HA
     simp only [shardlogref08_Text.j1] at H
     by_cases c5 : x15_2 = true
     ·
      subst c5
      have H1 : (if 0 ≤ x5_1 then (if x5_1 < (a0.size : Int) then (if x5_1 < (a1.size : Int) then (if (bt a0 x5_1) < (bt a1 x5_1) then (some (-1)) else (if (bt a0 x5_1) > (bt a1 x5_1) then (some 1) else (shardlogref08_Text.l0 kj2 a0 a1 (wrap64 (x5_1 + 1))))) else (none)) else (none)) else (none)) = some r := by rw [if_pos rfl] at H; exact H
      clear H; have H := H1; clear H1
      by_cases c6 : 0 ≤ x5_1
      ·
       rw [if_pos c6] at H
       have c6b0 : decide (0 ≤ x5_1) = true := decide_eq_true c6
       clear c6
       by_cases c7 : x5_1 < (a0.size : Int)
       ·
        rw [if_pos c7] at H
        have c7b0 : decide (x5_1 < (a0.size : Int)) = true := decide_eq_true c7
        clear c7
        by_cases c9 : x5_1 < (a1.size : Int)
        ·
         rw [if_pos c9] at H
         have c9b0 : decide (x5_1 < (a1.size : Int)) = true := decide_eq_true c9
         clear c9
         by_cases c11 : (bt a0 x5_1) < (bt a1 x5_1)
         ·
          rw [if_pos c11] at H
          have c11b0 : decide ((bt a0 x5_1) < (bt a1 x5_1)) = true := decide_eq_true c11
          clear c11
          obtain rfl := Option.some.inj H
          have p8 : 0 ≤ (x5_1 : Int) := odt (by first | (with_reducible assumption) | assumption)
          have q8 : x5_1 < (a0.size : Int) := odt (by first | (with_reducible assumption) | assumption)
          have hx8 := bt_at a0 x5_1
          replace p8 := eq_true p8
          replace q8 := eq_true q8
          have p10 : 0 ≤ (x5_1 : Int) := odt (by first | (with_reducible assumption) | assumption)
          have q10 : x5_1 < (a1.size : Int) := odt (by first | (with_reducible assumption) | assumption)
          have hx10 := bt_at a1 x5_1
          replace p10 := eq_true p10
          replace q10 := eq_true q10
          go_wp2
          repeat (go_quiet (fail); try go_wp2)
          go_ret
          exact ⟨by first | rfl | (simp; done) | (simp [*]; done) | (simp; exact (by decide : ∀ a_ b_ : Bool, (a_ == b_) = (!a_ != b_)) _ _), by repeat (first | exact Drawn0.refl _ | apply Drawn0.step)⟩
         ·
          rw [if_neg c11] at H
          have c11b0 : decide ((bt a0 x5_1) < (bt a1 x5_1)) = false := decide_eq_false c11
          clear c11
          by_cases c14 : (bt a0 x5_1) > (bt a1 x5_1)
          ·
           rw [if_pos c14] at H
           have c14b0 : decide ((bt a1 x5_1) < (bt a0 x5_1)) = true := decide_eq_true c14
           clear c14
           obtain rfl := Option.some.inj H
           have p8 : 0 ≤ (x5_1 : Int) := odt (by first | (with_reducible assumption) | assumption)
           have q8 : x5_1 < (a0.size : Int) := odt (by first | (with_reducible assumption) | assumption)
           have hx8 := bt_at a0 x5_1
           replace p8 := eq_true p8
           replace q8 := eq_true q8
           have p10 : 0 ≤ (x5_1 : Int) := odt (by first | (with_reducible assumption) | assumption)
           have q10 : x5_1 < (a1.size : Int) := odt (by first | (with_reducible assumption) | assumption)
           have hx10 := bt_at a1 x5_1
           replace p10 := eq_true p10
           replace q10 := eq_true q10
           have p12 : 0 ≤ (x5_1 : Int) := odt (by first | (with_reducible assumption) | assumption)
           have q12 : x5_1 < (a0.size : Int) := odt (by first | (with_reducible assumption) | assumption)
           have hx12 := bt_at a0 x5_1
           replace p12 := eq_true p12
           replace q12 := eq_true q12
           have p13 : 0 ≤ (x5_1 : Int) := odt (by first | (with_reducible assumption) | assumption)
           have q13 : x5_1 < (a1.size : Int) := odt (by first | (with_reducible assumption) | assumption)
           have hx13 := bt_at a1 x5_1
           replace p13 := eq_true p13
           replace q13 := eq_true q13
           go_wp2
           repeat (go_quiet (fail); try go_wp2)
           go_ret
           exact ⟨by first | rfl | (simp; done) | (simp [*]; done) | (simp; exact (by decide : ∀ a_ b_ : Bool, (a_ == b_) = (!a_ != b_)) _ _), by repeat (first | exact Drawn0.refl _ | apply Drawn0.step)⟩
          ·
           rw [if_neg c14] at H
           have c14b0 : decide ((bt a1 x5_1) < (bt a0 x5_1)) = false := decide_eq_false c14
           clear c14
           have H' := aS H
           clear H
           have p8 : 0 ≤ (x5_1 : Int) := odt (by first | (with_reducible assumption) | assumption)
           have q8 : x5_1 < (a0.size : Int) := odt (by first | (with_reducible assumption) | assumption)
           have hx8 := bt_at a0 x5_1
           replace p8 := eq_true p8
           replace q8 := eq_true q8
           have p10 : 0 ≤ (x5_1 : Int) := odt (by first | (with_reducible assumption) | assumption)
           have q10 : x5_1 < (a1.size : Int) := odt (by first | (with_reducible assumption) | assumption)
           have hx10 := bt_at a1 x5_1
           replace p10 := eq_true p10
           replace q10 := eq_true q10
           have p12 : 0 ≤ (x5_1 : Int) := odt (by first | (with_reducible assumption) | assumption)
           have q12 : x5_1 < (a0.size : Int) := odt (by first | (with_reducible assumption) | assumption)
           have hx12 := bt_at a0 x5_1
           replace p12 := eq_true p12
           replace q12 := eq_true q12
           have p13 : 0 ≤ (x5_1 : Int) := odt (by first | (with_reducible assumption) | assumption)
           have q13 : x5_1 < (a1.size : Int) := odt (by first | (with_reducible assumption) | assumption)
           have hx13 := bt_at a1 x5_1
           replace p13 := eq_true p13
           replace q13 := eq_true q13
           go_wp2
           repeat (go_quiet (fail); try go_wp2)
           go_roundg kj2
           case measure => have := HK1.out; have := HJ2.out; omega
           case rel => exact ⟨(wrap64 (x5_1 + 1)), (by first | rfl | (simp; done) | (simp [*]; done) | (simp; exact (by decide : ∀ a_ b_ : Bool, (a_ == b_) = (!a_ != b_)) _ _)), H', ⟨by have := HK1.out; have := HJ2.out; omega⟩, by repeat (first | exact Drawn0.refl _ | apply Drawn0.step)⟩
        ·
         rw [if_neg c9] at H
         exact absurd H (by simp)
       ·
        rw [if_neg c7] at H
        exact absurd H (by simp)
      ·
       rw [if_neg c6] at H
       exact absurd H (by simp)
     ·
      replace c5 := Bool.eq_false_iff.mpr c5
      subst c5
      have H1 : (if (a0.size : Int) < (a1.size : Int) then (some (-1)) else (if (a0.size : Int) > (a1.size : Int) then (some 1) else (some 0))) = some r := by rw [if_neg (show ¬ (false = true) by decide)] at H; exact H
      clear H; have H := H1; clear H1
      by_cases c15 : (a0.size : Int) < (a1.size : Int)
      ·
       rw [if_pos c15] at H
       have c15b0 : decide ((a0.size : Int) < (a1.size : Int)) = true := decide_eq_true c15
       have c15b1 : decide (a0.size < a1.size) = true := decide_eq_true (Int.ofNat_lt.mp c15)
       clear c15
       obtain rfl := Option.some.inj H
       go_wp2
       repeat (go_quiet (fail); try go_wp2)
       go_ret
       exact ⟨by first | rfl | (simp; done) | (simp [*]; done) | (simp; exact (by decide : ∀ a_ b_ : Bool, (a_ == b_) = (!a_ != b_)) _ _), by repeat (first | exact Drawn0.refl _ | apply Drawn0.step)⟩
      ·
       rw [if_neg c15] at H
       have c15b0 : decide ((a0.size : Int) < (a1.size : Int)) = false := decide_eq_false c15
       have c15b1 : decide (a0.size < a1.size) = false := decide_eq_false (fun h => c15 (Int.ofNat_lt.mpr h))
       clear c15
       by_cases c16 : (a0.size : Int) > (a1.size : Int)
       ·
        rw [if_pos c16] at H
        have c16b0 : decide ((a1.size : Int) < (a0.size : Int)) = true := decide_eq_true c16
        have c16b1 : decide (a1.size < a0.size) = true := decide_eq_true (Int.ofNat_lt.mp c16)
        clear c16
        obtain rfl := Option.some.inj H
        go_wp2
        repeat (go_quiet (fail); try go_wp2)
        go_ret
        exact ⟨by first | rfl | (simp; done) | (simp [*]; done) | (simp; exact (by decide : ∀ a_ b_ : Bool, (a_ == b_) = (!a_ != b_)) _ _), by repeat (first | exact Drawn0.refl _ | apply Drawn0.step)⟩
       ·
        rw [if_neg c16] at H
        have c16b0 : decide ((a1.size : Int) < (a0.size : Int)) = false := decide_eq_false c16
        have c16b1 : decide (a1.size < a0.size) = false := decide_eq_false (fun h => c16 (Int.ofNat_lt.mpr h))
        clear c16
        obtain rfl := Option.some.inj H
        go_wp2
        repeat (go_quiet (fail); try go_wp2)
        go_ret
        exact ⟨by first | rfl | (simp; done) | (simp [*]; done) | (simp; exact (by decide : ∀ a_ b_ : Bool, (a_ == b_) = (!a_ != b_)) _ _), by repeat (first | exact Drawn0.refl _ | apply Drawn0.step)⟩

/-! ### shardlogref08_Compare: function 30 -/
def shardlogref08_Compare.f (k : Nat) (a0_0 : ByteArray) (a0_1 : ByteArray) (a0_2 : Int) (a0_3 : ByteArray) (a0_4 : Bool) (a1_0 : ByteArray) (a1_1 : ByteArray) (a1_2 : Int) (a1_3 : ByteArray) (a1_4 : Bool) : Option (Int) := if a0_0.toList = a1_0.toList then (if a0_1.toList = a1_1.toList then (if a0_2 > a1_2 then (some (-1)) else (if a0_2 < a1_2 then (some 1) else (some 0))) else ((shardlogref08_Text.f k a0_1 a1_1).bind fun t172 => (some t172))) else ((shardlogref08_Text.f k a0_0 a1_0).bind fun t171 => (some t171))
theorem shardlogref08_Compare.mono : ∀ a0 a1 a2 a3 a4 a5 a6 a7 a8 a9 k, LeO (shardlogref08_Compare.f k a0 a1 a2 a3 a4 a5 a6 a7 a8 a9) (shardlogref08_Compare.f (k + 1) a0 a1 a2 a3 a4 a5 a6 a7 a8 a9) := by
 intro a0 a1 a2 a3 a4 a5 a6 a7 a8 a9 k
 unfold shardlogref08_Compare.f
 repeat' first
   | (with_reducible exact shardlogref08_Text.mono _ _ _)
   | (with_reducible exact LeO.refl _)
   | (with_reducible exact LeO.none _)
   | (with_reducible refine LeO.ite ?_ ?_)
   | (with_reducible refine LeO.bind ?_ (fun _ => ?_))
   | exact LeO.none _
   | refine LeO.ite ?_ ?_
   | refine LeO.bind ?_ (fun _ => ?_)
set_option maxHeartbeats 8000000 in
set_option maxRecDepth 100000 in
theorem shardlogref08_Compare.calls (k : Nat) (a0_0 : ByteArray) (a0_1 : ByteArray) (a0_2 : Int) (a0_3 : ByteArray) (a0_4 : Bool) (a1_0 : ByteArray) (a1_1 : ByteArray) (a1_2 : Int) (a1_3 : ByteArray) (a1_4 : Bool) (r : Int) (w : World) (h : shardlogref08_Compare.f k a0_0 a0_1 a0_2 a0_3 a0_4 a1_0 a1_1 a1_2 a1_3 a1_4 = some r) :
  Calls Try.prog 30 #[.agg #[.string a0_0, .string a0_1, .int .i64 a0_2, .string a0_3, .bool a0_4], .agg #[.string a1_0, .string a1_1, .int .i64 a1_2, .string a1_3, .bool a1_4]] w fun e w' => e = .returned (.int .i64 r) ∧ Below w.heap.size w w' := by
 have hu29 := Try.underlying29
 have HB := aS (Below.refl w.heap.size w)
 have H : (if a0_0.toList = a1_0.toList then (if a0_1.toList = a1_1.toList then (if a0_2 > a1_2 then (some (-1)) else (if a0_2 < a1_2 then (some 1) else (some 0))) else ((shardlogref08_Text.f k a0_1 a1_1).bind fun t172 => (some t172))) else ((shardlogref08_Text.f k a0_0 a1_0).bind fun t171 => (some t171))) = some r := h
 clear h
 by_cases c3 : a0_0.toList = a1_0.toList
 ·
  rw [if_pos c3] at H
  obtain ⟨c3b0, c3b1⟩ := eqT c3
  clear c3
  by_cases c4 : a0_1.toList = a1_1.toList
  ·
   rw [if_pos c4] at H
   obtain ⟨c4b0, c4b1⟩ := eqT c4
   clear c4
   by_cases c5 : a0_2 > a1_2
   ·
    rw [if_pos c5] at H
    have c5b0 : decide (a1_2 < a0_2) = true := decide_eq_true c5
    clear c5
    obtain rfl := Option.some.inj H
    go_enter Try.func30, Try.ntmps30
    go_wp2_with (first | ((with_reducible refine gate_dst (N := 2) rfl ?_); refine box_event ?hg (N := 2) ?hd (cs := #[.string a0_0, .string a0_1, .int .i64 a0_2, .string a0_3, .bool a0_4]) (t := 29) ?hr ?_; (case hd => rfl); (case hg => rfl); (case hr => first | (go_simp; done) | (go_simp; rfl)); intro gb169 hg w6 hbox hb; have n0_ := bstep hb; have n1_ := aS (hbox); have n2_ := bsize hg; have n3_ := bsize hg; clear HB; have HB := n0_; have BK169 := n1_; have GW169 := n2_; have GE169 := n3_; clear n0_ n1_ n2_ n3_; clear hb hbox hg) | ((with_reducible refine gate_dst (N := 3) rfl ?_); refine box_event ?hg (N := 3) ?hd (cs := #[.string a1_0, .string a1_1, .int .i64 a1_2, .string a1_3, .bool a1_4]) (t := 29) ?hr ?_; (case hd => rfl); (case hg => rfl); (case hr => first | (go_simp; done) | (go_simp; rfl)); intro gb170 hg w7 hbox hb; have n0_ := aS (blk_below (g := gb169) (o := .cells #[.string a0_0, .string a0_1, .int .i64 a0_2, .string a0_3, .bool a0_4] 29 (0, 0)) (bkl BK169.out) hb); have n1_ := bstep hb; have n2_ := aS (hbox); have n3_ := bsize hg; have n4_ := bsize hg; have n5_ := aS ((by rw [hg]; exact Nat.ne_of_lt (blk_lt (g := gb169) (o := .cells #[.string a0_0, .string a0_1, .int .i64 a0_2, .string a0_3, .bool a0_4] 29 (0, 0)) (bkl BK169.out)) : gb169 ≠ gb170)); have n6_ := aS ((by rw [hg]; exact Nat.ne_of_gt (blk_lt (g := gb169) (o := .cells #[.string a0_0, .string a0_1, .int .i64 a0_2, .string a0_3, .bool a0_4] 29 (0, 0)) (bkl BK169.out)) : gb170 ≠ gb169)); clear BK169; clear HB; have BK169 := n0_; have HB := n1_; have BK170 := n2_; have GW170 := n3_; have GE170 := n4_; have NB169_170 := n5_; have NB170_169 := n6_; clear n0_ n1_ n2_ n3_ n4_ n5_ n6_; clear hb hbox hg; have hnb8 := NB169_170.out; have hnc8 := NB170_169.out; have hcz9 := cK5 BK169; have hcz10 := cK5 BK170))
    go_ret
    exact ⟨rf3, bel⟩
   ·
    rw [if_neg c5] at H
    have c5b0 : decide (a1_2 < a0_2) = false := decide_eq_false c5
    clear c5
    by_cases c11 : a0_2 < a1_2
    ·
     rw [if_pos c11] at H
     have c11b0 : decide (a0_2 < a1_2) = true := decide_eq_true c11
     clear c11
     obtain rfl := Option.some.inj H
     go_enter Try.func30, Try.ntmps30
     go_wp2_with (first | ((with_reducible refine gate_dst (N := 2) rfl ?_); refine box_event ?hg (N := 2) ?hd (cs := #[.string a0_0, .string a0_1, .int .i64 a0_2, .string a0_3, .bool a0_4]) (t := 29) ?hr ?_; (case hd => rfl); (case hg => rfl); (case hr => first | (go_simp; done) | (go_simp; rfl)); intro gb169 hg w12 hbox hb; have n0_ := bstep hb; have n1_ := aS (hbox); have n2_ := bsize hg; have n3_ := bsize hg; clear HB; have HB := n0_; have BK169 := n1_; have GW169 := n2_; have GE169 := n3_; clear n0_ n1_ n2_ n3_; clear hb hbox hg) | ((with_reducible refine gate_dst (N := 3) rfl ?_); refine box_event ?hg (N := 3) ?hd (cs := #[.string a1_0, .string a1_1, .int .i64 a1_2, .string a1_3, .bool a1_4]) (t := 29) ?hr ?_; (case hd => rfl); (case hg => rfl); (case hr => first | (go_simp; done) | (go_simp; rfl)); intro gb170 hg w13 hbox hb; have n0_ := aS (blk_below (g := gb169) (o := .cells #[.string a0_0, .string a0_1, .int .i64 a0_2, .string a0_3, .bool a0_4] 29 (0, 0)) (bkl BK169.out) hb); have n1_ := bstep hb; have n2_ := aS (hbox); have n3_ := bsize hg; have n4_ := bsize hg; have n5_ := aS ((by rw [hg]; exact Nat.ne_of_lt (blk_lt (g := gb169) (o := .cells #[.string a0_0, .string a0_1, .int .i64 a0_2, .string a0_3, .bool a0_4] 29 (0, 0)) (bkl BK169.out)) : gb169 ≠ gb170)); have n6_ := aS ((by rw [hg]; exact Nat.ne_of_gt (blk_lt (g := gb169) (o := .cells #[.string a0_0, .string a0_1, .int .i64 a0_2, .string a0_3, .bool a0_4] 29 (0, 0)) (bkl BK169.out)) : gb170 ≠ gb169)); clear BK169; clear HB; have BK169 := n0_; have HB := n1_; have BK170 := n2_; have GW170 := n3_; have GE170 := n4_; have NB169_170 := n5_; have NB170_169 := n6_; clear n0_ n1_ n2_ n3_ n4_ n5_ n6_; clear hb hbox hg; have hnb14 := NB169_170.out; have hnc14 := NB170_169.out; have hcz15 := cK5 BK169; have hcz16 := cK5 BK170))
     go_ret
     exact ⟨rf3, bel⟩
    ·
     rw [if_neg c11] at H
     have c11b0 : decide (a0_2 < a1_2) = false := decide_eq_false c11
     clear c11
     obtain rfl := Option.some.inj H
     go_enter Try.func30, Try.ntmps30
     go_wp2_with (first | ((with_reducible refine gate_dst (N := 2) rfl ?_); refine box_event ?hg (N := 2) ?hd (cs := #[.string a0_0, .string a0_1, .int .i64 a0_2, .string a0_3, .bool a0_4]) (t := 29) ?hr ?_; (case hd => rfl); (case hg => rfl); (case hr => first | (go_simp; done) | (go_simp; rfl)); intro gb169 hg w17 hbox hb; have n0_ := bstep hb; have n1_ := aS (hbox); have n2_ := bsize hg; have n3_ := bsize hg; clear HB; have HB := n0_; have BK169 := n1_; have GW169 := n2_; have GE169 := n3_; clear n0_ n1_ n2_ n3_; clear hb hbox hg) | ((with_reducible refine gate_dst (N := 3) rfl ?_); refine box_event ?hg (N := 3) ?hd (cs := #[.string a1_0, .string a1_1, .int .i64 a1_2, .string a1_3, .bool a1_4]) (t := 29) ?hr ?_; (case hd => rfl); (case hg => rfl); (case hr => first | (go_simp; done) | (go_simp; rfl)); intro gb170 hg w18 hbox hb; have n0_ := aS (blk_below (g := gb169) (o := .cells #[.string a0_0, .string a0_1, .int .i64 a0_2, .string a0_3, .bool a0_4] 29 (0, 0)) (bkl BK169.out) hb); have n1_ := bstep hb; have n2_ := aS (hbox); have n3_ := bsize hg; have n4_ := bsize hg; have n5_ := aS ((by rw [hg]; exact Nat.ne_of_lt (blk_lt (g := gb169) (o := .cells #[.string a0_0, .string a0_1, .int .i64 a0_2, .string a0_3, .bool a0_4] 29 (0, 0)) (bkl BK169.out)) : gb169 ≠ gb170)); have n6_ := aS ((by rw [hg]; exact Nat.ne_of_gt (blk_lt (g := gb169) (o := .cells #[.string a0_0, .string a0_1, .int .i64 a0_2, .string a0_3, .bool a0_4] 29 (0, 0)) (bkl BK169.out)) : gb170 ≠ gb169)); clear BK169; clear HB; have BK169 := n0_; have HB := n1_; have BK170 := n2_; have GW170 := n3_; have GE170 := n4_; have NB169_170 := n5_; have NB170_169 := n6_; clear n0_ n1_ n2_ n3_ n4_ n5_ n6_; clear hb hbox hg; have hnb19 := NB169_170.out; have hnc19 := NB170_169.out; have hcz20 := cK5 BK169; have hcz21 := cK5 BK170))
     go_ret
     exact ⟨rf3, bel⟩
  ·
   rw [if_neg c4] at H
   obtain ⟨c4b0, c4b1⟩ := eqF c4
   replace H := obm H
   obtain ⟨t172, A220, H⟩ := H
   replace H : (some t172) = some r := H
   have A22 := aS A220
   clear A220
   obtain rfl := Option.some.inj H
   go_enter Try.func30, Try.ntmps30
   go_wp2_with (first | ((with_reducible refine gate_dst (N := 2) rfl ?_); refine box_event ?hg (N := 2) ?hd (cs := #[.string a0_0, .string a0_1, .int .i64 a0_2, .string a0_3, .bool a0_4]) (t := 29) ?hr ?_; (case hd => rfl); (case hg => rfl); (case hr => first | (go_simp; done) | (go_simp; rfl)); intro gb169 hg w23 hbox hb; have n0_ := bstep hb; have n1_ := aS (hbox); have n2_ := bsize hg; have n3_ := bsize hg; clear HB; have HB := n0_; have BK169 := n1_; have GW169 := n2_; have GE169 := n3_; clear n0_ n1_ n2_ n3_; clear hb hbox hg) | ((with_reducible refine gate_dst (N := 3) rfl ?_); refine box_event ?hg (N := 3) ?hd (cs := #[.string a1_0, .string a1_1, .int .i64 a1_2, .string a1_3, .bool a1_4]) (t := 29) ?hr ?_; (case hd => rfl); (case hg => rfl); (case hr => first | (go_simp; done) | (go_simp; rfl)); intro gb170 hg w24 hbox hb; have n0_ := aS (blk_below (g := gb169) (o := .cells #[.string a0_0, .string a0_1, .int .i64 a0_2, .string a0_3, .bool a0_4] 29 (0, 0)) (bkl BK169.out) hb); have n1_ := bstep hb; have n2_ := aS (hbox); have n3_ := bsize hg; have n4_ := bsize hg; have n5_ := aS ((by rw [hg]; exact Nat.ne_of_lt (blk_lt (g := gb169) (o := .cells #[.string a0_0, .string a0_1, .int .i64 a0_2, .string a0_3, .bool a0_4] 29 (0, 0)) (bkl BK169.out)) : gb169 ≠ gb170)); have n6_ := aS ((by rw [hg]; exact Nat.ne_of_gt (blk_lt (g := gb169) (o := .cells #[.string a0_0, .string a0_1, .int .i64 a0_2, .string a0_3, .bool a0_4] 29 (0, 0)) (bkl BK169.out)) : gb170 ≠ gb169)); clear BK169; clear HB; have BK169 := n0_; have HB := n1_; have BK170 := n2_; have GW170 := n3_; have GE170 := n4_; have NB169_170 := n5_; have NB170_169 := n6_; clear n0_ n1_ n2_ n3_ n4_ n5_ n6_; clear hb hbox hg; have hnb25 := NB169_170.out; have hnc25 := NB170_169.out; have hcz26 := cK5 BK169; have hcz27 := cK5 BK170) | ((with_reducible refine gate_callee (f := 23) rfl ?_); refine goesL_ (some 24) rfl rfl Try.func23 (by kernel_rfl) rfl #[.string a0_1, .string a1_1] rfl agn ?_; (with_reducible refine (shardlogref08_Text.calls k a0_1 a1_1 t172 _ A22.out).mono ?_); rintro e w' ⟨rfl, ⟨nd, rfl⟩⟩; refine ⟨_, rfl, ?_⟩))
   go_ret
   exact ⟨rf3, bel⟩
 ·
  rw [if_neg c3] at H
  obtain ⟨c3b0, c3b1⟩ := eqF c3
  replace H := obm H
  obtain ⟨t171, A280, H⟩ := H
  replace H : (some t171) = some r := H
  have A28 := aS A280
  clear A280
  obtain rfl := Option.some.inj H
  go_enter Try.func30, Try.ntmps30
  go_wp2_with (first | ((with_reducible refine gate_dst (N := 2) rfl ?_); refine box_event ?hg (N := 2) ?hd (cs := #[.string a0_0, .string a0_1, .int .i64 a0_2, .string a0_3, .bool a0_4]) (t := 29) ?hr ?_; (case hd => rfl); (case hg => rfl); (case hr => first | (go_simp; done) | (go_simp; rfl)); intro gb169 hg w29 hbox hb; have n0_ := bstep hb; have n1_ := aS (hbox); have n2_ := bsize hg; have n3_ := bsize hg; clear HB; have HB := n0_; have BK169 := n1_; have GW169 := n2_; have GE169 := n3_; clear n0_ n1_ n2_ n3_; clear hb hbox hg) | ((with_reducible refine gate_dst (N := 3) rfl ?_); refine box_event ?hg (N := 3) ?hd (cs := #[.string a1_0, .string a1_1, .int .i64 a1_2, .string a1_3, .bool a1_4]) (t := 29) ?hr ?_; (case hd => rfl); (case hg => rfl); (case hr => first | (go_simp; done) | (go_simp; rfl)); intro gb170 hg w30 hbox hb; have n0_ := aS (blk_below (g := gb169) (o := .cells #[.string a0_0, .string a0_1, .int .i64 a0_2, .string a0_3, .bool a0_4] 29 (0, 0)) (bkl BK169.out) hb); have n1_ := bstep hb; have n2_ := aS (hbox); have n3_ := bsize hg; have n4_ := bsize hg; have n5_ := aS ((by rw [hg]; exact Nat.ne_of_lt (blk_lt (g := gb169) (o := .cells #[.string a0_0, .string a0_1, .int .i64 a0_2, .string a0_3, .bool a0_4] 29 (0, 0)) (bkl BK169.out)) : gb169 ≠ gb170)); have n6_ := aS ((by rw [hg]; exact Nat.ne_of_gt (blk_lt (g := gb169) (o := .cells #[.string a0_0, .string a0_1, .int .i64 a0_2, .string a0_3, .bool a0_4] 29 (0, 0)) (bkl BK169.out)) : gb170 ≠ gb169)); clear BK169; clear HB; have BK169 := n0_; have HB := n1_; have BK170 := n2_; have GW170 := n3_; have GE170 := n4_; have NB169_170 := n5_; have NB170_169 := n6_; clear n0_ n1_ n2_ n3_ n4_ n5_ n6_; clear hb hbox hg; have hnb31 := NB169_170.out; have hnc31 := NB170_169.out; have hcz32 := cK5 BK169; have hcz33 := cK5 BK170) | ((with_reducible refine gate_callee (f := 23) rfl ?_); refine goesL_ (some 14) rfl rfl Try.func23 (by kernel_rfl) rfl #[.string a0_0, .string a1_0] rfl agn ?_; (with_reducible refine (shardlogref08_Text.calls k a0_0 a1_0 t171 _ A28.out).mono ?_); rintro e w' ⟨rfl, ⟨nd, rfl⟩⟩; refine ⟨_, rfl, ?_⟩))
  go_ret
  exact ⟨rf3, bel⟩

end Go.Proofs.Ytgcicgjfimfhpaa.X
