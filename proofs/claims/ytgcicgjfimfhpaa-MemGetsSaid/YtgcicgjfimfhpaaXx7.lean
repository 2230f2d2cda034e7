-- written by a program of this session's, over the kit's print
import Derived.Test.YtgcicgjfimfhpaaXx0
import Derived.Test.YtgcicgjfimfhpaaXx2
import Derived.Test.YtgcicgjfimfhpaaXx3
import Derived.Test.YtgcicgjfimfhpaaXx4
import Derived.Test.YtgcicgjfimfhpaaXx6
namespace Go.Proofs.Ytgcicgjfimfhpaa.X
open Go.RowKit Go.Proofs.YtgcicgjfimfhpaaW.PrintWords Go.Proofs.YtgcicgjfimfhpaaW.PrintLast Go.Proofs.YtgcicgjfimfhpaaW.PrintMore
attribute [local go_sem] max2_int min2_int max_two min_two max_three min_three max_four min_four gtr_str   -- for this text's walks alone
set_option linter.unusedVariables false
set_option linter.unusedSimpArgs false

/-! ### shardlogref08_Newest: function 22 -/
def shardlogref08_Newest.l0 : Nat → List (S29) → ByteArray → ByteArray → Int → Int → ByteArray → ByteArray → Int → ByteArray → Bool → Option (ByteArray × ByteArray × Int × ByteArray × Bool × Bool)
 | 0, _, _, _, _, _, _, _, _, _, _ => none
 | k + 1, x0, x1, x2, x3, x11, x280000, x280001, x280002, x280003, x280004 => if x11 < (x0.length : Int) then (if 0 ≤ x11 then (if ((rd_T29 x0 x11).f0).toList = x1.toList then (if ((rd_T29 x0 x11).f1).toList = x2.toList then (if ((rd_T29 x0 x11).f2) ≤ x3 then (if ((rd_T29 x0 x11).f2) > x280002 then (shardlogref08_Newest.l0 k x0 x1 x2 x3 (wrap64 (x11 + 1)) ((rd_T29 x0 x11).f0) ((rd_T29 x0 x11).f1) ((rd_T29 x0 x11).f2) ((rd_T29 x0 x11).f3) ((rd_T29 x0 x11).f4)) else (shardlogref08_Newest.l0 k x0 x1 x2 x3 (wrap64 (x11 + 1)) x280000 x280001 x280002 x280003 x280004)) else (shardlogref08_Newest.l0 k x0 x1 x2 x3 (wrap64 (x11 + 1)) x280000 x280001 x280002 x280003 x280004)) else (shardlogref08_Newest.l0 k x0 x1 x2 x3 (wrap64 (x11 + 1)) x280000 x280001 x280002 x280003 x280004)) else (shardlogref08_Newest.l0 k x0 x1 x2 x3 (wrap64 (x11 + 1)) x280000 x280001 x280002 x280003 x280004)) else (none)) else (if x280002 < 0 then (some ((⟨#[]⟩ : ByteArray), (⟨#[]⟩ : ByteArray), 0, (⟨#[]⟩ : ByteArray), false, false)) else (some (x280000, x280001, x280002, x280003, x280004, true)))
def shardlogref08_Newest.f (k : Nat) (l0 : List (S29)) (a1 : ByteArray) (a2 : ByteArray) (a3 : Int) : Option (ByteArray × ByteArray × Int × ByteArray × Bool × Bool) := shardlogref08_Newest.l0 k l0 a1 a2 a3 0 (⟨#[]⟩ : ByteArray) (⟨#[]⟩ : ByteArray) (-1) (⟨#[]⟩ : ByteArray) false
theorem shardlogref08_Newest.mono_l : ∀ k, (∀ y0 y1 y2 y3 y4 y5 y6 y7 y8 y9, LeO (shardlogref08_Newest.l0 k y0 y1 y2 y3 y4 y5 y6 y7 y8 y9) (shardlogref08_Newest.l0 (k + 1) y0 y1 y2 y3 y4 y5 y6 y7 y8 y9))
 | 0 => fun _ _ _ _ _ _ _ _ _ _ r h => by simp [shardlogref08_Newest.l0] at h
 | k + 1 => by
  have ih0 := shardlogref08_Newest.mono_l k
  ·
   intro y0 y1 y2 y3 y4 y5 y6 y7 y8 y9
   unfold shardlogref08_Newest.l0
   repeat' first
   | (with_reducible exact ih0 _ _ _ _ _ _ _ _ _ _)
   | (with_reducible exact LeO.refl _)
   | (with_reducible exact LeO.none _)
   | (with_reducible refine LeO.ite ?_ ?_)
   | (with_reducible refine LeO.bind ?_ (fun _ => ?_))
   | exact LeO.none _
   | refine LeO.ite ?_ ?_
   | refine LeO.bind ?_ (fun _ => ?_)
theorem shardlogref08_Newest.mono : ∀ a0 a1 a2 a3 k, LeO (shardlogref08_Newest.f k a0 a1 a2 a3) (shardlogref08_Newest.f (k + 1) a0 a1 a2 a3) := by
 intro a0 a1 a2 a3 k
 have ih0 := shardlogref08_Newest.mono_l k
 unfold shardlogref08_Newest.f
 repeat' first
   | (with_reducible exact ih0 _ _ _ _ _ _ _ _ _ _)
   | (with_reducible exact LeO.refl _)
   | (with_reducible exact LeO.none _)
   | (with_reducible refine LeO.ite ?_ ?_)
   | (with_reducible refine LeO.bind ?_ (fun _ => ?_))
   | exact LeO.none _
   | refine LeO.ite ?_ ?_
   | refine LeO.bind ?_ (fun _ => ?_)
set_option maxHeartbeats 8000000 in
set_option maxRecDepth 100000 in
theorem shardlogref08_Newest.calls (k : Nat) (A0 : Option Addr) (c0 : Nat) (l0 : List (S29)) (a1 : ByteArray) (a2 : ByteArray) (a3 : Int) (r1 : ByteArray) (r2 : ByteArray) (r3 : Int) (r4 : ByteArray) (r5 : Bool) (r6 : Bool) (w : World) (hr0 : Kd.C k29 w A0 l0.length l0) (hc0 : l0.length ≤ c0) (h : shardlogref08_Newest.f k l0 a1 a2 a3 = some (r1, r2, r3, r4, r5, r6)) :
  Calls Try.prog 22 #[.slice A0 l0.length c0, .string a1, .string a2, .int .i64 a3] w fun e w' => e = .returned (.tuple #[.agg #[.string r1, .string r2, .int .i64 r3, .string r4, .bool r5], .bool r6]) ∧ Below w.heap.size w w' := by
 have hu29 := Try.underlying29
 have HR0 := aS hr0
 have HC0 := aS hc0
 clear hr0 hc0
 have HB := aS (Below.refl w.heap.size w)
 have H : (shardlogref08_Newest.l0 k l0 a1 a2 a3 0 (⟨#[]⟩ : ByteArray) (⟨#[]⟩ : ByteArray) (-1) (⟨#[]⟩ : ByteArray) false) = some (r1, r2, r3, r4, r5, r6) := h
 clear h
 have H' := aS H
 clear H
 go_enter Try.func22, Try.ntmps22
 go_wp2_with (first | ((with_reducible refine gate_dst (N := 8) rfl ?_); refine box_event ?hg (N := 8) ?hd (cs := #[.string (⟨#[]⟩ : ByteArray), .string (⟨#[]⟩ : ByteArray), .int .i64 0, .string (⟨#[]⟩ : ByteArray), .bool false]) (t := 29) ?hr ?_; (case hd => rfl); (case hg => rfl); (case hr => first | (go_simp; done) | (go_simp; rfl)); intro gb278 hg w5 hbox hb; have n0_ := bstep hb; have n1_ := aS (hbox); have n2_ := bsize hg; have n3_ := bsize hg; clear HB; have HB := n0_; have BK278 := n1_; have GW278 := n2_; have GE278 := n3_; clear n0_ n1_ n2_ n3_; clear hb hbox hg) | ((with_reducible refine gate_dst (N := 10) rfl ?_); refine box_event ?hg (N := 10) ?hd (cs := #[.string (⟨#[]⟩ : ByteArray), .string (⟨#[]⟩ : ByteArray), .int .i64 0, .string (⟨#[]⟩ : ByteArray), .bool false]) (t := 29) ?hr ?_; (case hd => rfl); (case hg => rfl); (case hr => first | (go_simp; done) | (go_simp; rfl)); intro gb279 hg w6 hbox hb; have n0_ := aS (blk_below (g := gb278) (o := .cells #[.string (⟨#[]⟩ : ByteArray), .string (⟨#[]⟩ : ByteArray), .int .i64 0, .string (⟨#[]⟩ : ByteArray), .bool false] 29 (0, 0)) (bkl BK278.out) hb); have n1_ := bstep hb; have n2_ := aS (hbox); have n3_ := bsize hg; have n4_ := bsize hg; have n5_ := aS ((by rw [hg]; exact Nat.ne_of_lt (blk_lt (g := gb278) (o := .cells #[.string (⟨#[]⟩ : ByteArray), .string (⟨#[]⟩ : ByteArray), .int .i64 0, .string (⟨#[]⟩ : ByteArray), .bool false] 29 (0, 0)) (bkl BK278.out)) : gb278 ≠ gb279)); have n6_ := aS ((by rw [hg]; exact Nat.ne_of_gt (blk_lt (g := gb278) (o := .cells #[.string (⟨#[]⟩ : ByteArray), .string (⟨#[]⟩ : ByteArray), .int .i64 0, .string (⟨#[]⟩ : ByteArray), .bool false] 29 (0, 0)) (bkl BK278.out)) : gb279 ≠ gb278)); clear BK278; clear HB; have BK278 := n0_; have HB := n1_; have BK279 := n2_; have GW279 := n3_; have GE279 := n4_; have NB278_279 := n5_; have NB279_278 := n6_; clear n0_ n1_ n2_ n3_ n4_ n5_ n6_; clear hb hbox hg; have hnb7 := NB279_278.out; have hnc7 := NB278_279.out; have hcz8 := cK5 BK279))
 repeat (go_quiet (first | ((with_reducible refine gate_dst (N := 8) rfl ?_); refine box_event ?hg (N := 8) ?hd (cs := #[.string (⟨#[]⟩ : ByteArray), .string (⟨#[]⟩ : ByteArray), .int .i64 0, .string (⟨#[]⟩ : ByteArray), .bool false]) (t := 29) ?hr ?_; (case hd => rfl); (case hg => rfl); (case hr => first | (go_simp; done) | (go_simp; rfl)); intro gb278 hg w5 hbox hb; have n0_ := bstep hb; have n1_ := aS (hbox); have n2_ := bsize hg; have n3_ := bsize hg; clear HB; have HB := n0_; have BK278 := n1_; have GW278 := n2_; have GE278 := n3_; clear n0_ n1_ n2_ n3_; clear hb hbox hg) | ((with_reducible refine gate_dst (N := 10) rfl ?_); refine box_event ?hg (N := 10) ?hd (cs := #[.string (⟨#[]⟩ : ByteArray), .string (⟨#[]⟩ : ByteArray), .int .i64 0, .string (⟨#[]⟩ : ByteArray), .bool false]) (t := 29) ?hr ?_; (case hd => rfl); (case hg => rfl); (case hr => first | (go_simp; done) | (go_simp; rfl)); intro gb279 hg w6 hbox hb; have n0_ := aS (blk_below (g := gb278) (o := .cells #[.string (⟨#[]⟩ : ByteArray), .string (⟨#[]⟩ : ByteArray), .int .i64 0, .string (⟨#[]⟩ : ByteArray), .bool false] 29 (0, 0)) (bkl BK278.out) hb); have n1_ := bstep hb; have n2_ := aS (hbox); have n3_ := bsize hg; have n4_ := bsize hg; have n5_ := aS ((by rw [hg]; exact Nat.ne_of_lt (blk_lt (g := gb278) (o := .cells #[.string (⟨#[]⟩ : ByteArray), .string (⟨#[]⟩ : ByteArray), .int .i64 0, .string (⟨#[]⟩ : ByteArray), .bool false] 29 (0, 0)) (bkl BK278.out)) : gb278 ≠ gb279)); have n6_ := aS ((by rw [hg]; exact Nat.ne_of_gt (blk_lt (g := gb278) (o := .cells #[.string (⟨#[]⟩ : ByteArray), .string (⟨#[]⟩ : ByteArray), .int .i64 0, .string (⟨#[]⟩ : ByteArray), .bool false] 29 (0, 0)) (bkl BK278.out)) : gb279 ≠ gb278)); clear BK278; clear HB; have BK278 := n0_; have HB := n1_; have BK279 := n2_; have GW279 := n3_; have GE279 := n4_; have NB278_279 := n5_; have NB279_278 := n6_; clear n0_ n1_ n2_ n3_ n4_ n5_ n6_; clear hb hbox hg; have hnb7 := NB279_278.out; have hnc7 := NB278_279.out; have hcz8 := cK5 BK279)); try go_wp2_with (first | ((with_reducible refine gate_dst (N := 8) rfl ?_); refine box_event ?hg (N := 8) ?hd (cs := #[.string (⟨#[]⟩ : ByteArray), .string (⟨#[]⟩ : ByteArray), .int .i64 0, .string (⟨#[]⟩ : ByteArray), .bool false]) (t := 29) ?hr ?_; (case hd => rfl); (case hg => rfl); (case hr => first | (go_simp; done) | (go_simp; rfl)); intro gb278 hg w5 hbox hb; have n0_ := bstep hb; have n1_ := aS (hbox); have n2_ := bsize hg; have n3_ := bsize hg; clear HB; have HB := n0_; have BK278 := n1_; have GW278 := n2_; have GE278 := n3_; clear n0_ n1_ n2_ n3_; clear hb hbox hg) | ((with_reducible refine gate_dst (N := 10) rfl ?_); refine box_event ?hg (N := 10) ?hd (cs := #[.string (⟨#[]⟩ : ByteArray), .string (⟨#[]⟩ : ByteArray), .int .i64 0, .string (⟨#[]⟩ : ByteArray), .bool false]) (t := 29) ?hr ?_; (case hd => rfl); (case hg => rfl); (case hr => first | (go_simp; done) | (go_simp; rfl)); intro gb279 hg w6 hbox hb; have n0_ := aS (blk_below (g := gb278) (o := .cells #[.string (⟨#[]⟩ : ByteArray), .string (⟨#[]⟩ : ByteArray), .int .i64 0, .string (⟨#[]⟩ : ByteArray), .bool false] 29 (0, 0)) (bkl BK278.out) hb); have n1_ := bstep hb; have n2_ := aS (hbox); have n3_ := bsize hg; have n4_ := bsize hg; have n5_ := aS ((by rw [hg]; exact Nat.ne_of_lt (blk_lt (g := gb278) (o := .cells #[.string (⟨#[]⟩ : ByteArray), .string (⟨#[]⟩ : ByteArray), .int .i64 0, .string (⟨#[]⟩ : ByteArray), .bool false] 29 (0, 0)) (bkl BK278.out)) : gb278 ≠ gb279)); have n6_ := aS ((by rw [hg]; exact Nat.ne_of_gt (blk_lt (g := gb278) (o := .cells #[.string (⟨#[]⟩ : ByteArray), .string (⟨#[]⟩ : ByteArray), .int .i64 0, .string (⟨#[]⟩ : ByteArray), .bool false] 29 (0, 0)) (bkl BK278.out)) : gb279 ≠ gb278)); clear BK278; clear HB; have BK278 := n0_; have HB := n1_; have BK279 := n2_; have GW279 := n3_; have GE279 := n4_; have NB278_279 := n5_; have NB279_278 := n6_; clear n0_ n1_ n2_ n3_ n4_ n5_ n6_; clear hb hbox hg; have hnb7 := NB279_278.out; have hnc7 := NB278_279.out; have hcz8 := cK5 BK279)))
 go_loopg [11] k (fun kq v11 w' => ∃ (x11_1 : Int) (x280000_1 : ByteArray) (x280001_1 : ByteArray) (x280002_1 : Int) (x280003_1 : ByteArray) (x280004_1 : Bool), v11 = .int .i64 x11_1 ∧ Aside0 (shardlogref08_Newest.l0 kq l0 a1 a2 a3 x11_1 x280000_1 x280001_1 x280002_1 x280003_1 x280004_1 = some (r1, r2, r3, r4, r5, r6)) ∧ Aside0 (kq ≤ k) ∧ Aside0 (w'.heap[gb278]? = some (.cells #[.string (⟨#[]⟩ : ByteArray), .string (⟨#[]⟩ : ByteArray), .int .i64 0, .string (⟨#[]⟩ : ByteArray), .bool false] 29 (0, 0))) ∧ Aside0 (w'.heap[gb279]? = some (.cells #[.string x280000_1, .string x280001_1, .int .i64 x280002_1, .string x280003_1, .bool x280004_1] 29 (0, 0))) ∧ Aside0 (Below w.heap.size w w'))
 case atStart => exact ⟨(0), ((⟨#[]⟩ : ByteArray)), ((⟨#[]⟩ : ByteArray)), ((-1)), ((⟨#[]⟩ : ByteArray)), (false), (by first | rfl | (simp; done) | (simp [*]; done) | (simp; exact (by decide : ∀ a_ b_ : Bool, (a_ == b_) = (!a_ != b_)) _ _)), H', ⟨Nat.le_refl _⟩, ⟨by (with_reducible repeat (first | refine blk_drewN ?_ _ | refine blk_drew ?_ | refine blk_alloc ?_ _)); refine blk_far ?_ NB278_279.out _; (with_reducible repeat (first | refine blk_drewN ?_ _ | refine blk_drew ?_ | refine blk_alloc ?_ _)); refine blk_far ?_ NB278_279.out _; (with_reducible repeat (first | refine blk_drewN ?_ _ | refine blk_drew ?_ | refine blk_alloc ?_ _)); refine blk_far ?_ NB278_279.out _; (with_reducible repeat (first | refine blk_drewN ?_ _ | refine blk_drew ?_ | refine blk_alloc ?_ _)); refine blk_far ?_ NB278_279.out _; (with_reducible repeat (first | refine blk_drewN ?_ _ | refine blk_drew ?_ | refine blk_alloc ?_ _)); refine blk_far ?_ NB278_279.out _; (with_reducible repeat (first | refine blk_drewN ?_ _ | refine blk_drew ?_ | refine blk_alloc ?_ _)); exact BK278.out⟩, ⟨by (with_reducible repeat (first | refine blk_drewN ?_ _ | refine blk_drew ?_ | refine blk_alloc ?_ _)); refine blk_put (cs := #[.string (⟨#[]⟩ : ByteArray), .string (⟨#[]⟩ : ByteArray), .int .i64 (-1), .string (⟨#[]⟩ : ByteArray), .bool false]) ?_ 4 _ rfl; (with_reducible repeat (first | refine blk_drewN ?_ _ | refine blk_drew ?_ | refine blk_alloc ?_ _)); refine blk_put (cs := #[.string (⟨#[]⟩ : ByteArray), .string (⟨#[]⟩ : ByteArray), .int .i64 (-1), .string (⟨#[]⟩ : ByteArray), .bool false]) ?_ 3 _ rfl; (with_reducible repeat (first | refine blk_drewN ?_ _ | refine blk_drew ?_ | refine blk_alloc ?_ _)); refine blk_put (cs := #[.string (⟨#[]⟩ : ByteArray), .string (⟨#[]⟩ : ByteArray), .int .i64 0, .string (⟨#[]⟩ : ByteArray), .bool false]) ?_ 2 _ rfl; (with_reducible repeat (first | refine blk_drewN ?_ _ | refine blk_drew ?_ | refine blk_alloc ?_ _)); refine blk_put (cs := #[.string (⟨#[]⟩ : ByteArray), .string (⟨#[]⟩ : ByteArray), .int .i64 0, .string (⟨#[]⟩ : ByteArray), .bool false]) ?_ 1 _ rfl; (with_reducible repeat (first | refine blk_drewN ?_ _ | refine blk_drew ?_ | refine blk_alloc ?_ _)); refine blk_put (cs := #[.string (⟨#[]⟩ : ByteArray), .string (⟨#[]⟩ : ByteArray), .int .i64 0, .string (⟨#[]⟩ : ByteArray), .bool false]) ?_ 0 _ rfl; (with_reducible repeat (first | refine blk_drewN ?_ _ | refine blk_drew ?_ | refine blk_alloc ?_ _)); exact BK279.out⟩, ⟨bel⟩⟩
 case round =>
  clear H'; (try clear c2); (try clear p2); (try clear c7); (try clear hcz8)
  obtain ⟨x11_1, x280000_1, x280001_1, x280002_1, x280003_1, x280004_1, rfl, HA, HK1, BK278, BK279, HB⟩ := hrel
  cases gk with
  | zero => exact absurd HA.out (by simp [shardlogref08_Newest.l0])
  | succ k1 =>
   have H := HA.out; clear HA
   simp only [shardlogref08_Newest.l0] at H
   by_cases c9 : x11_1 < (l0.length : Int)
   ·
    rw [if_pos c9] at H
    have c9b0 : decide (x11_1 < (l0.length : Int)) = true := decide_eq_true c9
    clear c9
    by_cases c10 : 0 ≤ x11_1
    ·
     rw [if_pos c10] at H
     have c10b0 : decide (0 ≤ x11_1) = true := decide_eq_true c10
     clear c10
     by_cases c11 : ((rd_T29 l0 x11_1).f0).toList = a1.toList
     ·
      rw [if_pos c11] at H
      obtain ⟨c11b0, c11b1⟩ := eqT c11
      clear c11
      by_cases c12 : ((rd_T29 l0 x11_1).f1).toList = a2.toList
      ·
       rw [if_pos c12] at H
       obtain ⟨c12b0, c12b1⟩ := eqT c12
       clear c12
       by_cases c13 : ((rd_T29 l0 x11_1).f2) ≤ a3
       ·
        rw [if_pos c13] at H
        have c13b0 : decide (((rd_T29 l0 x11_1).f2) ≤ a3) = true := decide_eq_true c13
        clear c13
        by_cases c14 : ((rd_T29 l0 x11_1).f2) > x280002_1
        ·
         rw [if_pos c14] at H
         have c14b0 : decide (x280002_1 < ((rd_T29 l0 x11_1).f2)) = true := decide_eq_true c14
         clear c14
         have H' := aS H
         clear H
         have p280 : 0 ≤ (x11_1 : Int) := odt (by first | (with_reducible assumption) | assumption)
         have q280 : x11_1 < (l0.length : Int) := odt (by first | (with_reducible assumption) | assumption)
         obtain ⟨ad280, e280, hx280_0, hx280_1, hx280_2, hx280_3, hx280_4⟩ := at_T29 HR0.out x11_1 p280 q280
         cases e280
         replace hx280_0 := (HB.out.cell (wbl w _ hx280_0)).trans hx280_0
         replace hx280_1 := (HB.out.cell (wbl w _ hx280_1)).trans hx280_1
         replace hx280_2 := (HB.out.cell (wbl w _ hx280_2)).trans hx280_2
         replace hx280_3 := (HB.out.cell (wbl w _ hx280_3)).trans hx280_3
         replace hx280_4 := (HB.out.cell (wbl w _ hx280_4)).trans hx280_4
         replace p280 := eq_true p280
         replace q280 := eq_true q280
         have p281 : 0 ≤ (x11_1 : Int) := odt (by first | (with_reducible assumption) | assumption)
         have q281 : x11_1 < (l0.length : Int) := odt (by first | (with_reducible assumption) | assumption)
         obtain ⟨ad281, e281, hx281_0, hx281_1, hx281_2, hx281_3, hx281_4⟩ := at_T29 HR0.out x11_1 p281 q281
         obtain rfl : ad280 = ad281 := (by injection e281)
         replace hx281_0 := (HB.out.cell (wbl w _ hx281_0)).trans hx281_0
         replace hx281_1 := (HB.out.cell (wbl w _ hx281_1)).trans hx281_1
         replace hx281_2 := (HB.out.cell (wbl w _ hx281_2)).trans hx281_2
         replace hx281_3 := (HB.out.cell (wbl w _ hx281_3)).trans hx281_3
         replace hx281_4 := (HB.out.cell (wbl w _ hx281_4)).trans hx281_4
         replace p281 := eq_true p281
         replace q281 := eq_true q281
         have p282 : 0 ≤ (x11_1 : Int) := odt (by first | (with_reducible assumption) | assumption)
         have q282 : x11_1 < (l0.length : Int) := odt (by first | (with_reducible assumption) | assumption)
         obtain ⟨ad282, e282, hx282_0, hx282_1, hx282_2, hx282_3, hx282_4⟩ := at_T29 HR0.out x11_1 p282 q282
         obtain rfl : ad280 = ad282 := (by injection e282)
         replace hx282_0 := (HB.out.cell (wbl w _ hx282_0)).trans hx282_0
         replace hx282_1 := (HB.out.cell (wbl w _ hx282_1)).trans hx282_1
         replace hx282_2 := (HB.out.cell (wbl w _ hx282_2)).trans hx282_2
         replace hx282_3 := (HB.out.cell (wbl w _ hx282_3)).trans hx282_3
         replace hx282_4 := (HB.out.cell (wbl w _ hx282_4)).trans hx282_4
         replace p282 := eq_true p282
         replace q282 := eq_true q282
         have p283 : 0 ≤ (x11_1 : Int) := odt (by first | (with_reducible assumption) | assumption)
         have q283 : x11_1 < (l0.length : Int) := odt (by first | (with_reducible assumption) | assumption)
         obtain ⟨ad283, e283, hx283_0, hx283_1, hx283_2, hx283_3, hx283_4⟩ := at_T29 HR0.out x11_1 p283 q283
         obtain rfl : ad280 = ad283 := (by injection e283)
         replace hx283_0 := (HB.out.cell (wbl w _ hx283_0)).trans hx283_0
         replace hx283_1 := (HB.out.cell (wbl w _ hx283_1)).trans hx283_1
         replace hx283_2 := (HB.out.cell (wbl w _ hx283_2)).trans hx283_2
         replace hx283_3 := (HB.out.cell (wbl w _ hx283_3)).trans hx283_3
         replace hx283_4 := (HB.out.cell (wbl w _ hx283_4)).trans hx283_4
         replace p283 := eq_true p283
         replace q283 := eq_true q283
         have hnb15 := NB279_278.out; have hnc15 := NB278_279.out
         have hcz16 := cK5 BK279
         have p284 : 0 ≤ (x11_1 : Int) := odt (by first | (with_reducible assumption) | assumption)
         have q284 : x11_1 < (l0.length : Int) := odt (by first | (with_reducible assumption) | assumption)
         obtain ⟨ad284, e284, hx284_0, hx284_1, hx284_2, hx284_3, hx284_4⟩ := at_T29 HR0.out x11_1 p284 q284
         obtain rfl : ad280 = ad284 := (by injection e284)
         replace hx284_0 := (HB.out.cell (wbl w _ hx284_0)).trans hx284_0
         replace hx284_1 := (HB.out.cell (wbl w _ hx284_1)).trans hx284_1
         replace hx284_2 := (HB.out.cell (wbl w _ hx284_2)).trans hx284_2
         replace hx284_3 := (HB.out.cell (wbl w _ hx284_3)).trans hx284_3
         replace hx284_4 := (HB.out.cell (wbl w _ hx284_4)).trans hx284_4
         replace p284 := eq_true p284
         replace q284 := eq_true q284
         go_wp2
         repeat (go_quiet (fail); try go_wp2)
         go_roundg k1
         case measure => have := HK1.out; omega
         case rel => exact ⟨(wrap64 (x11_1 + 1)), ((rd_T29 l0 x11_1).f0), ((rd_T29 l0 x11_1).f1), ((rd_T29 l0 x11_1).f2), ((rd_T29 l0 x11_1).f3), ((rd_T29 l0 x11_1).f4), (by first | rfl | (simp; done) | (simp [*]; done) | (simp; exact (by decide : ∀ a_ b_ : Bool, (a_ == b_) = (!a_ != b_)) _ _)), H', ⟨by have := HK1.out; omega⟩, ⟨by (with_reducible repeat (first | refine blk_drewN ?_ _ | refine blk_drew ?_ | refine blk_alloc ?_ _)); refine blk_far ?_ NB278_279.out _; (with_reducible repeat (first | refine blk_drewN ?_ _ | refine blk_drew ?_ | refine blk_alloc ?_ _)); refine blk_far ?_ NB278_279.out _; (with_reducible repeat (first | refine blk_drewN ?_ _ | refine blk_drew ?_ | refine blk_alloc ?_ _)); refine blk_far ?_ NB278_279.out _; (with_reducible repeat (first | refine blk_drewN ?_ _ | refine blk_drew ?_ | refine blk_alloc ?_ _)); refine blk_far ?_ NB278_279.out _; (with_reducible repeat (first | refine blk_drewN ?_ _ | refine blk_drew ?_ | refine blk_alloc ?_ _)); refine blk_far ?_ NB278_279.out _; (with_reducible repeat (first | refine blk_drewN ?_ _ | refine blk_drew ?_ | refine blk_alloc ?_ _)); exact BK278.out⟩, ⟨by (with_reducible repeat (first | refine blk_drewN ?_ _ | refine blk_drew ?_ | refine blk_alloc ?_ _)); refine blk_put (cs := #[.string ((rd_T29 l0 x11_1).f0), .string ((rd_T29 l0 x11_1).f1), .int .i64 ((rd_T29 l0 x11_1).f2), .string ((rd_T29 l0 x11_1).f3), .bool x280004_1]) ?_ 4 _ rfl; (with_reducible repeat (first | refine blk_drewN ?_ _ | refine blk_drew ?_ | refine blk_alloc ?_ _)); refine blk_put (cs := #[.string ((rd_T29 l0 x11_1).f0), .string ((rd_T29 l0 x11_1).f1), .int .i64 ((rd_T29 l0 x11_1).f2), .string x280003_1, .bool x280004_1]) ?_ 3 _ rfl; (with_reducible repeat (first | refine blk_drewN ?_ _ | refine blk_drew ?_ | refine blk_alloc ?_ _)); refine blk_put (cs := #[.string ((rd_T29 l0 x11_1).f0), .string ((rd_T29 l0 x11_1).f1), .int .i64 x280002_1, .string x280003_1, .bool x280004_1]) ?_ 2 _ rfl; (with_reducible repeat (first | refine blk_drewN ?_ _ | refine blk_drew ?_ | refine blk_alloc ?_ _)); refine blk_put (cs := #[.string ((rd_T29 l0 x11_1).f0), .string x280001_1, .int .i64 x280002_1, .string x280003_1, .bool x280004_1]) ?_ 1 _ rfl; (with_reducible repeat (first | refine blk_drewN ?_ _ | refine blk_drew ?_ | refine blk_alloc ?_ _)); refine blk_put (cs := #[.string x280000_1, .string x280001_1, .int .i64 x280002_1, .string x280003_1, .bool x280004_1]) ?_ 0 _ rfl; (with_reducible repeat (first | refine blk_drewN ?_ _ | refine blk_drew ?_ | refine blk_alloc ?_ _)); exact BK279.out⟩, ⟨bel⟩⟩
        ·
         rw [if_neg c14] at H
         have c14b0 : decide (x280002_1 < ((rd_T29 l0 x11_1).f2)) = false := decide_eq_false c14
         clear c14
         have H' := aS H
         clear H
         have p280 : 0 ≤ (x11_1 : Int) := odt (by first | (with_reducible assumption) | assumption)
         have q280 : x11_1 < (l0.length : Int) := odt (by first | (with_reducible assumption) | assumption)
         obtain ⟨ad280, e280, hx280_0, hx280_1, hx280_2, hx280_3, hx280_4⟩ := at_T29 HR0.out x11_1 p280 q280
         cases e280
         replace hx280_0 := (HB.out.cell (wbl w _ hx280_0)).trans hx280_0
         replace hx280_1 := (HB.out.cell (wbl w _ hx280_1)).trans hx280_1
         replace hx280_2 := (HB.out.cell (wbl w _ hx280_2)).trans hx280_2
         replace hx280_3 := (HB.out.cell (wbl w _ hx280_3)).trans hx280_3
         replace hx280_4 := (HB.out.cell (wbl w _ hx280_4)).trans hx280_4
         replace p280 := eq_true p280
         replace q280 := eq_true q280
         have p281 : 0 ≤ (x11_1 : Int) := odt (by first | (with_reducible assumption) | assumption)
         have q281 : x11_1 < (l0.length : Int) := odt (by first | (with_reducible assumption) | assumption)
         obtain ⟨ad281, e281, hx281_0, hx281_1, hx281_2, hx281_3, hx281_4⟩ := at_T29 HR0.out x11_1 p281 q281
         obtain rfl : ad280 = ad281 := (by injection e281)
         replace hx281_0 := (HB.out.cell (wbl w _ hx281_0)).trans hx281_0
         replace hx281_1 := (HB.out.cell (wbl w _ hx281_1)).trans hx281_1
         replace hx281_2 := (HB.out.cell (wbl w _ hx281_2)).trans hx281_2
         replace hx281_3 := (HB.out.cell (wbl w _ hx281_3)).trans hx281_3
         replace hx281_4 := (HB.out.cell (wbl w _ hx281_4)).trans hx281_4
         replace p281 := eq_true p281
         replace q281 := eq_true q281
         have p282 : 0 ≤ (x11_1 : Int) := odt (by first | (with_reducible assumption) | assumption)
         have q282 : x11_1 < (l0.length : Int) := odt (by first | (with_reducible assumption) | assumption)
         obtain ⟨ad282, e282, hx282_0, hx282_1, hx282_2, hx282_3, hx282_4⟩ := at_T29 HR0.out x11_1 p282 q282
         obtain rfl : ad280 = ad282 := (by injection e282)
         replace hx282_0 := (HB.out.cell (wbl w _ hx282_0)).trans hx282_0
         replace hx282_1 := (HB.out.cell (wbl w _ hx282_1)).trans hx282_1
         replace hx282_2 := (HB.out.cell (wbl w _ hx282_2)).trans hx282_2
         replace hx282_3 := (HB.out.cell (wbl w _ hx282_3)).trans hx282_3
         replace hx282_4 := (HB.out.cell (wbl w _ hx282_4)).trans hx282_4
         replace p282 := eq_true p282
         replace q282 := eq_true q282
         have p283 : 0 ≤ (x11_1 : Int) := odt (by first | (with_reducible assumption) | assumption)
         have q283 : x11_1 < (l0.length : Int) := odt (by first | (with_reducible assumption) | assumption)
         obtain ⟨ad283, e283, hx283_0, hx283_1, hx283_2, hx283_3, hx283_4⟩ := at_T29 HR0.out x11_1 p283 q283
         obtain rfl : ad280 = ad283 := (by injection e283)
         replace hx283_0 := (HB.out.cell (wbl w _ hx283_0)).trans hx283_0
         replace hx283_1 := (HB.out.cell (wbl w _ hx283_1)).trans hx283_1
         replace hx283_2 := (HB.out.cell (wbl w _ hx283_2)).trans hx283_2
         replace hx283_3 := (HB.out.cell (wbl w _ hx283_3)).trans hx283_3
         replace hx283_4 := (HB.out.cell (wbl w _ hx283_4)).trans hx283_4
         replace p283 := eq_true p283
         replace q283 := eq_true q283
         have hnb17 := NB279_278.out; have hnc17 := NB278_279.out
         have hcz18 := cK5 BK279
         go_wp2
         repeat (go_quiet (fail); try go_wp2)
         go_roundg k1
         case measure => have := HK1.out; omega
         case rel => exact ⟨(wrap64 (x11_1 + 1)), (x280000_1), (x280001_1), (x280002_1), (x280003_1), (x280004_1), (by first | rfl | (simp; done) | (simp [*]; done) | (simp; exact (by decide : ∀ a_ b_ : Bool, (a_ == b_) = (!a_ != b_)) _ _)), H', ⟨by have := HK1.out; omega⟩, ⟨by (with_reducible repeat (first | refine blk_drewN ?_ _ | refine blk_drew ?_ | refine blk_alloc ?_ _)); exact BK278.out⟩, ⟨by (with_reducible repeat (first | refine blk_drewN ?_ _ | refine blk_drew ?_ | refine blk_alloc ?_ _)); exact BK279.out⟩, ⟨bel⟩⟩
       ·
        rw [if_neg c13] at H
        have c13b0 : decide (((rd_T29 l0 x11_1).f2) ≤ a3) = false := decide_eq_false c13
        clear c13
        have H' := aS H
        clear H
        have p280 : 0 ≤ (x11_1 : Int) := odt (by first | (with_reducible assumption) | assumption)
        have q280 : x11_1 < (l0.length : Int) := odt (by first | (with_reducible assumption) | assumption)
        obtain ⟨ad280, e280, hx280_0, hx280_1, hx280_2, hx280_3, hx280_4⟩ := at_T29 HR0.out x11_1 p280 q280
        cases e280
        replace hx280_0 := (HB.out.cell (wbl w _ hx280_0)).trans hx280_0
        replace hx280_1 := (HB.out.cell (wbl w _ hx280_1)).trans hx280_1
        replace hx280_2 := (HB.out.cell (wbl w _ hx280_2)).trans hx280_2
        replace hx280_3 := (HB.out.cell (wbl w _ hx280_3)).trans hx280_3
        replace hx280_4 := (HB.out.cell (wbl w _ hx280_4)).trans hx280_4
        replace p280 := eq_true p280
        replace q280 := eq_true q280
        have p281 : 0 ≤ (x11_1 : Int) := odt (by first | (with_reducible assumption) | assumption)
        have q281 : x11_1 < (l0.length : Int) := odt (by first | (with_reducible assumption) | assumption)
        obtain ⟨ad281, e281, hx281_0, hx281_1, hx281_2, hx281_3, hx281_4⟩ := at_T29 HR0.out x11_1 p281 q281
        obtain rfl : ad280 = ad281 := (by injection e281)
        replace hx281_0 := (HB.out.cell (wbl w _ hx281_0)).trans hx281_0
        replace hx281_1 := (HB.out.cell (wbl w _ hx281_1)).trans hx281_1
        replace hx281_2 := (HB.out.cell (wbl w _ hx281_2)).trans hx281_2
        replace hx281_3 := (HB.out.cell (wbl w _ hx281_3)).trans hx281_3
        replace hx281_4 := (HB.out.cell (wbl w _ hx281_4)).trans hx281_4
        replace p281 := eq_true p281
        replace q281 := eq_true q281
        have p282 : 0 ≤ (x11_1 : Int) := odt (by first | (with_reducible assumption) | assumption)
        have q282 : x11_1 < (l0.length : Int) := odt (by first | (with_reducible assumption) | assumption)
        obtain ⟨ad282, e282, hx282_0, hx282_1, hx282_2, hx282_3, hx282_4⟩ := at_T29 HR0.out x11_1 p282 q282
        obtain rfl : ad280 = ad282 := (by injection e282)
        replace hx282_0 := (HB.out.cell (wbl w _ hx282_0)).trans hx282_0
        replace hx282_1 := (HB.out.cell (wbl w _ hx282_1)).trans hx282_1
        replace hx282_2 := (HB.out.cell (wbl w _ hx282_2)).trans hx282_2
        replace hx282_3 := (HB.out.cell (wbl w _ hx282_3)).trans hx282_3
        replace hx282_4 := (HB.out.cell (wbl w _ hx282_4)).trans hx282_4
        replace p282 := eq_true p282
        replace q282 := eq_true q282
        go_wp2
        repeat (go_quiet (fail); try go_wp2)
        go_roundg k1
        case measure => have := HK1.out; omega
        case rel => exact ⟨(wrap64 (x11_1 + 1)), (x280000_1), (x280001_1), (x280002_1), (x280003_1), (x280004_1), (by first | rfl | (simp; done) | (simp [*]; done) | (simp; exact (by decide : ∀ a_ b_ : Bool, (a_ == b_) = (!a_ != b_)) _ _)), H', ⟨by have := HK1.out; omega⟩, ⟨by (with_reducible repeat (first | refine blk_drewN ?_ _ | refine blk_drew ?_ | refine blk_alloc ?_ _)); exact BK278.out⟩, ⟨by (with_reducible repeat (first | refine blk_drewN ?_ _ | refine blk_drew ?_ | refine blk_alloc ?_ _)); exact BK279.out⟩, ⟨bel⟩⟩
      ·
       rw [if_neg c12] at H
       obtain ⟨c12b0, c12b1⟩ := eqF c12
       have H' := aS H
       clear H
       have p280 : 0 ≤ (x11_1 : Int) := odt (by first | (with_reducible assumption) | assumption)
       have q280 : x11_1 < (l0.length : Int) := odt (by first | (with_reducible assumption) | assumption)
       obtain ⟨ad280, e280, hx280_0, hx280_1, hx280_2, hx280_3, hx280_4⟩ := at_T29 HR0.out x11_1 p280 q280
       cases e280
       replace hx280_0 := (HB.out.cell (wbl w _ hx280_0)).trans hx280_0
       replace hx280_1 := (HB.out.cell (wbl w _ hx280_1)).trans hx280_1
       replace hx280_2 := (HB.out.cell (wbl w _ hx280_2)).trans hx280_2
       replace hx280_3 := (HB.out.cell (wbl w _ hx280_3)).trans hx280_3
       replace hx280_4 := (HB.out.cell (wbl w _ hx280_4)).trans hx280_4
       replace p280 := eq_true p280
       replace q280 := eq_true q280
       have p281 : 0 ≤ (x11_1 : Int) := odt (by first | (with_reducible assumption) | assumption)
       have q281 : x11_1 < (l0.length : Int) := odt (by first | (with_reducible assumption) | assumption)
       obtain ⟨ad281, e281, hx281_0, hx281_1, hx281_2, hx281_3, hx281_4⟩ := at_T29 HR0.out x11_1 p281 q281
       obtain rfl : ad280 = ad281 := (by injection e281)
       replace hx281_0 := (HB.out.cell (wbl w _ hx281_0)).trans hx281_0
       replace hx281_1 := (HB.out.cell (wbl w _ hx281_1)).trans hx281_1
       replace hx281_2 := (HB.out.cell (wbl w _ hx281_2)).trans hx281_2
       replace hx281_3 := (HB.out.cell (wbl w _ hx281_3)).trans hx281_3
       replace hx281_4 := (HB.out.cell (wbl w _ hx281_4)).trans hx281_4
       replace p281 := eq_true p281
       replace q281 := eq_true q281
       go_wp2
       repeat (go_quiet (fail); try go_wp2)
       go_roundg k1
       case measure => have := HK1.out; omega
       case rel => exact ⟨(wrap64 (x11_1 + 1)), (x280000_1), (x280001_1), (x280002_1), (x280003_1), (x280004_1), (by first | rfl | (simp; done) | (simp [*]; done) | (simp; exact (by decide : ∀ a_ b_ : Bool, (a_ == b_) = (!a_ != b_)) _ _)), H', ⟨by have := HK1.out; omega⟩, ⟨by (with_reducible repeat (first | refine blk_drewN ?_ _ | refine blk_drew ?_ | refine blk_alloc ?_ _)); exact BK278.out⟩, ⟨by (with_reducible repeat (first | refine blk_drewN ?_ _ | refine blk_drew ?_ | refine blk_alloc ?_ _)); exact BK279.out⟩, ⟨bel⟩⟩
     ·
      rw [if_neg c11] at H
      obtain ⟨c11b0, c11b1⟩ := eqF c11
      have H' := aS H
      clear H
      have p280 : 0 ≤ (x11_1 : Int) := odt (by first | (with_reducible assumption) | assumption)
      have q280 : x11_1 < (l0.length : Int) := odt (by first | (with_reducible assumption) | assumption)
      obtain ⟨ad280, e280, hx280_0, hx280_1, hx280_2, hx280_3, hx280_4⟩ := at_T29 HR0.out x11_1 p280 q280
      cases e280
      replace hx280_0 := (HB.out.cell (wbl w _ hx280_0)).trans hx280_0
      replace hx280_1 := (HB.out.cell (wbl w _ hx280_1)).trans hx280_1
      replace hx280_2 := (HB.out.cell (wbl w _ hx280_2)).trans hx280_2
      replace hx280_3 := (HB.out.cell (wbl w _ hx280_3)).trans hx280_3
      replace hx280_4 := (HB.out.cell (wbl w _ hx280_4)).trans hx280_4
      replace p280 := eq_true p280
      replace q280 := eq_true q280
      go_wp2
      repeat (go_quiet (fail); try go_wp2)
      go_roundg k1
      case measure => have := HK1.out; omega
      case rel => exact ⟨(wrap64 (x11_1 + 1)), (x280000_1), (x280001_1), (x280002_1), (x280003_1), (x280004_1), (by first | rfl | (simp; done) | (simp [*]; done) | (simp; exact (by decide : ∀ a_ b_ : Bool, (a_ == b_) = (!a_ != b_)) _ _)), H', ⟨by have := HK1.out; omega⟩, ⟨by (with_reducible repeat (first | refine blk_drewN ?_ _ | refine blk_drew ?_ | refine blk_alloc ?_ _)); exact BK278.out⟩, ⟨by (with_reducible repeat (first | refine blk_drewN ?_ _ | refine blk_drew ?_ | refine blk_alloc ?_ _)); exact BK279.out⟩, ⟨bel⟩⟩
    ·
     rw [if_neg c10] at H
     exact absurd H (by simp)
   ·
    rw [if_neg c9] at H
    have c9b0 : decide (x11_1 < (l0.length : Int)) = false := decide_eq_false c9
    clear c9
    by_cases c19 : x280002_1 < 0
    ·
     rw [if_pos c19] at H
     have c19b0 : decide (x280002_1 < 0) = true := decide_eq_true c19
     clear c19
     simp only [Option.some.injEq, Prod.mk.injEq] at H
     obtain ⟨rfl, rfl, rfl, rfl, rfl, rfl⟩ := H
     have hnb20 := NB279_278.out; have hnc20 := NB278_279.out
     have hcz21 := cK5 BK279
     have hcz22 := cK5 BK278
     go_wp2
     repeat (go_quiet (fail); try go_wp2)
     refine bodyPost_ret (results_ct rfl _ _ gb278 29 #[.string (⟨#[]⟩ : ByteArray), .string (⟨#[]⟩ : ByteArray), .int .i64 0, .string (⟨#[]⟩ : ByteArray), .bool false] (0, 0) _ rfl (by (with_reducible repeat (first | refine blk_drewN ?_ _ | refine blk_drew ?_ | refine blk_alloc ?_ _)); refine blk_put (cs := #[.string (⟨#[]⟩ : ByteArray), .string (⟨#[]⟩ : ByteArray), .int .i64 0, .string (⟨#[]⟩ : ByteArray), .bool false]) ?_ 4 _ rfl; (with_reducible repeat (first | refine blk_drewN ?_ _ | refine blk_drew ?_ | refine blk_alloc ?_ _)); refine blk_put (cs := #[.string (⟨#[]⟩ : ByteArray), .string (⟨#[]⟩ : ByteArray), .int .i64 0, .string (⟨#[]⟩ : ByteArray), .bool false]) ?_ 3 _ rfl; (with_reducible repeat (first | refine blk_drewN ?_ _ | refine blk_drew ?_ | refine blk_alloc ?_ _)); refine blk_put (cs := #[.string (⟨#[]⟩ : ByteArray), .string (⟨#[]⟩ : ByteArray), .int .i64 0, .string (⟨#[]⟩ : ByteArray), .bool false]) ?_ 2 _ rfl; (with_reducible repeat (first | refine blk_drewN ?_ _ | refine blk_drew ?_ | refine blk_alloc ?_ _)); refine blk_put (cs := #[.string (⟨#[]⟩ : ByteArray), .string (⟨#[]⟩ : ByteArray), .int .i64 0, .string (⟨#[]⟩ : ByteArray), .bool false]) ?_ 1 _ rfl; (with_reducible repeat (first | refine blk_drewN ?_ _ | refine blk_drew ?_ | refine blk_alloc ?_ _)); refine blk_put (cs := #[.string (⟨#[]⟩ : ByteArray), .string (⟨#[]⟩ : ByteArray), .int .i64 0, .string (⟨#[]⟩ : ByteArray), .bool false]) ?_ 0 _ rfl; (with_reducible repeat (first | refine blk_drewN ?_ _ | refine blk_drew ?_ | refine blk_alloc ?_ _)); exact BK278.out) Try.underlying29 rfl (by kernel_rfl)) rfl ?_
     exact ⟨rf3, bel⟩
    ·
     rw [if_neg c19] at H
     have c19b0 : decide (x280002_1 < 0) = false := decide_eq_false c19
     clear c19
     simp only [Option.some.injEq, Prod.mk.injEq] at H
     obtain ⟨rfl, rfl, rfl, rfl, rfl, rfl⟩ := H
     have hnb23 := NB279_278.out; have hnc23 := NB278_279.out
     have hcz24 := cK5 BK279
     have hcz25 := cK5 BK278
     go_wp2
     repeat (go_quiet (fail); try go_wp2)
     refine bodyPost_ret (results_ct rfl _ _ gb278 29 #[.string x280000_1, .string x280001_1, .int .i64 x280002_1, .string x280003_1, .bool x280004_1] (0, 0) _ rfl (by (with_reducible repeat (first | refine blk_drewN ?_ _ | refine blk_drew ?_ | refine blk_alloc ?_ _)); refine blk_put (cs := #[.string x280000_1, .string x280001_1, .int .i64 x280002_1, .string x280003_1, .bool false]) ?_ 4 _ rfl; (with_reducible repeat (first | refine blk_drewN ?_ _ | refine blk_drew ?_ | refine blk_alloc ?_ _)); refine blk_put (cs := #[.string x280000_1, .string x280001_1, .int .i64 x280002_1, .string (⟨#[]⟩ : ByteArray), .bool false]) ?_ 3 _ rfl; (with_reducible repeat (first | refine blk_drewN ?_ _ | refine blk_drew ?_ | refine blk_alloc ?_ _)); refine blk_put (cs := #[.string x280000_1, .string x280001_1, .int .i64 0, .string (⟨#[]⟩ : ByteArray), .bool false]) ?_ 2 _ rfl; (with_reducible repeat (first | refine blk_drewN ?_ _ | refine blk_drew ?_ | refine blk_alloc ?_ _)); refine blk_put (cs := #[.string x280000_1, .string (⟨#[]⟩ : ByteArray), .int .i64 0, .string (⟨#[]⟩ : ByteArray), .bool false]) ?_ 1 _ rfl; (with_reducible repeat (first | refine blk_drewN ?_ _ | refine blk_drew ?_ | refine blk_alloc ?_ _)); refine blk_put (cs := #[.string (⟨#[]⟩ : ByteArray), .string (⟨#[]⟩ : ByteArray), .int .i64 0, .string (⟨#[]⟩ : ByteArray), .bool false]) ?_ 0 _ rfl; (with_reducible repeat (first | refine blk_drewN ?_ _ | refine blk_drew ?_ | refine blk_alloc ?_ _)); exact BK278.out) Try.underlying29 rfl (by kernel_rfl)) rfl ?_
     exact ⟨rf3, bel⟩

/-! ### shardloglaw09_MemGets: function 4 -/
def shardloglaw09_MemGets.fl (k : Nat) (a1 a4 : ByteArray) : List S29 → List S29 → Option (List S29)
 | [], acc => some acc
 | c :: r, acc => (shardlogref08_Text.f k c.f0 a1).bind fun p => if 0 ≤ p then (if a4.toList = ([] : List UInt8) then (if acc.length < 2199023255551 then shardloglaw09_MemGets.fl k a1 a4 r (acc ++ [c]) else none) else (shardlogref08_Text.f k c.f0 a4).bind fun p2 => if p2 < 0 then (if acc.length < 2199023255551 then shardloglaw09_MemGets.fl k a1 a4 r (acc ++ [c]) else none) else shardloglaw09_MemGets.fl k a1 a4 r acc) else shardloglaw09_MemGets.fl k a1 a4 r acc
def shardloglaw09_MemGets.main (k : Nat) (l : List S29) (a1 a2 : ByteArray) (a3 : Int) (a4 : ByteArray) : Option Bool :=
 (shardloglaw09_filled.f k l).bind fun q => (shardlogref08_Sort.f k l).bind fun al => (cell_Newest.f k q.1 a1 a2 a3).bind fun c => (shardlogref08_Newest.f k al a1 a2 a3).bind fun d => (shardloglaw09_MemGets.fl k a1 a4 al []).bind fun sm => (mem_Mem_Rows.f q.1 a1 a4).bind fun rr => (shardlogref08_Same.f k rr sm).bind fun e => if c = d ∧ e = true then some true else none
def shardloglaw09_MemGets.f (k : Nat) (l : List S29) (a1 a2 : ByteArray) (a3 : Int) (a4 : ByteArray) : Option Bool :=
 (shardloglaw09_awake.f k).bind fun t => if t = true then (shardlogref08_Few.f k l).bind fun u => if u = true then (if (a1.size : Int) ≤ 100 then (if (a2.size : Int) ≤ 100 then (if (a4.size : Int) ≤ 100 then shardloglaw09_MemGets.main k l a1 a2 a3 a4 else some true) else some true) else some true) else some true else none
theorem shardloglaw09_MemGets.mono_fl (k : Nat) (a1 a4 : ByteArray) : ∀ l acc, LeO (shardloglaw09_MemGets.fl k a1 a4 l acc) (shardloglaw09_MemGets.fl (k + 1) a1 a4 l acc)
 | [], _ => LeO.refl _
 | c :: r, acc => LeO.bind (shardlogref08_Text.mono _ _ _) fun _ => LeO.ite (LeO.ite (LeO.ite (shardloglaw09_MemGets.mono_fl k a1 a4 r _) (LeO.refl _)) (LeO.bind (shardlogref08_Text.mono _ _ _) fun _ => LeO.ite (LeO.ite (shardloglaw09_MemGets.mono_fl k a1 a4 r _) (LeO.refl _)) (shardloglaw09_MemGets.mono_fl k a1 a4 r _))) (shardloglaw09_MemGets.mono_fl k a1 a4 r _)
theorem shardloglaw09_MemGets.mono : ∀ a0 a1 a2 a3 a4 k, LeO (shardloglaw09_MemGets.f k a0 a1 a2 a3 a4) (shardloglaw09_MemGets.f (k + 1) a0 a1 a2 a3 a4) := fun _ _ _ _ _ k =>
 LeO.bind (shardloglaw09_awake.mono _) fun _ => LeO.ite (LeO.bind (shardlogref08_Few.mono _ _) fun _ => LeO.ite (LeO.ite (LeO.ite (LeO.ite (LeO.bind (shardloglaw09_filled.mono _ _) fun _ => LeO.bind (shardlogref08_Sort.mono _ _) fun _ => LeO.bind (cell_Newest.mono _ _ _ _ _) fun _ => LeO.bind (shardlogref08_Newest.mono _ _ _ _ _) fun _ => LeO.bind (shardloglaw09_MemGets.mono_fl k _ _ _ _) fun _ => LeO.bind (LeO.refl _) fun _ => LeO.bind (shardlogref08_Same.mono _ _ _) fun _ => LeO.refl _) (LeO.refl _)) (LeO.refl _)) (LeO.refl _)) (LeO.refl _)) (LeO.refl _)
attribute [local go_sem] geq_str
set_option maxHeartbeats 8000000 in
set_option maxRecDepth 100000 in
theorem shardloglaw09_MemGets.calls (k : Nat) (A0 : Option Addr) (c0 : Nat) (l : List S29) (a1 a2 : ByteArray) (a3 : Int) (a4 : ByteArray) (r : Bool) (w : World) (hr0 : Kd.C k29 w A0 l.length l) (hc0 : l.length ≤ c0) (h : shardloglaw09_MemGets.f k l a1 a2 a3 a4 = some r) :
  Calls Try.prog 4 #[.slice A0 l.length c0, .string a1, .string a2, .int .i64 a3, .string a4] w fun e w' => e = .returned (.bool r) ∧ Below w.heap.size w w' := by
 have hu22 := Try.underlying22; have hu29 := Try.underlying29
 have HR := aS hr0
 have HC := aS hc0
 have HB := aS (Below.refl w.heap.size w)
 clear hr0 hc0
 unfold shardloglaw09_MemGets.f at h
 replace h := obm h
 obtain ⟨t, x1, h⟩ := h
 cases t with
 | false =>
  rw [if_neg Bool.false_ne_true] at h
  cases h
 | true =>
 rw [if_pos rfl] at h
 replace h := obm h
 obtain ⟨u, x2, h⟩ := h
 have X1 := aS x1
 have X2 := aS x2
 clear x1 x2
 cases u with
 | false =>
  rw [if_neg Bool.false_ne_true] at h
  obtain rfl := Option.some.inj h
  clear h
  go_enter Try.func4, Try.ntmps4
  go_wp2_with (first | (go_at_call 7; (with_reducible refine (shardloglaw09_awake.calls k true _ X1.out).mono ?_); rintro e_ w1_ ⟨rfl, hb⟩; have n1_ := aS (below_step HB.out hb); clear HB; have HB := n1_; clear n1_; clear hb) | (go_at_call 18; (with_reducible refine (shardlogref08_Few.calls k A0 c0 l false _ (Kd.C_below HR.out HB.out) HC.out X2.out).mono ?_); rintro e_ w1_ ⟨rfl, hb⟩; have n1_ := aS (below_step HB.out hb); clear HB; have HB := n1_; clear n1_; clear hb))
  go_ret
  exact ⟨rfl, HB.out⟩
 | true =>
 rw [if_pos rfl] at h
 by_cases hs1 : (a1.size : Int) ≤ 100
 rotate_left
 ·
  rw [if_neg hs1] at h
  obtain rfl := Option.some.inj h
  have z1 : decide ((100 : Int) < (a1.size : Int)) = true := decide_eq_true (by omega)
  have y1 : decide (100 < a1.size) = true := decide_eq_true (by omega)
  clear h hs1
  go_enter Try.func4, Try.ntmps4
  go_wp2_with (first | (go_at_call 7; (with_reducible refine (shardloglaw09_awake.calls k true _ X1.out).mono ?_); rintro e_ w1_ ⟨rfl, hb⟩; have n1_ := aS (below_step HB.out hb); clear HB; have HB := n1_; clear n1_; clear hb) | (go_at_call 18; (with_reducible refine (shardlogref08_Few.calls k A0 c0 l true _ (Kd.C_below HR.out HB.out) HC.out X2.out).mono ?_); rintro e_ w1_ ⟨rfl, hb⟩; have n1_ := aS (below_step HB.out hb); clear HB; have HB := n1_; clear n1_; clear hb))
  go_ret
  exact ⟨rfl, HB.out⟩
 rw [if_pos hs1] at h
 have z1 : decide ((100 : Int) < (a1.size : Int)) = false := decide_eq_false (by omega)
 have y1 : decide (100 < a1.size) = false := decide_eq_false (by omega)
 clear hs1
 by_cases hs2 : (a2.size : Int) ≤ 100
 rotate_left
 ·
  rw [if_neg hs2] at h
  obtain rfl := Option.some.inj h
  have z2 : decide ((100 : Int) < (a2.size : Int)) = true := decide_eq_true (by omega)
  have y2 : decide (100 < a2.size) = true := decide_eq_true (by omega)
  clear h hs2
  go_enter Try.func4, Try.ntmps4
  go_wp2_with (first | (go_at_call 7; (with_reducible refine (shardloglaw09_awake.calls k true _ X1.out).mono ?_); rintro e_ w1_ ⟨rfl, hb⟩; have n1_ := aS (below_step HB.out hb); clear HB; have HB := n1_; clear n1_; clear hb) | (go_at_call 18; (with_reducible refine (shardlogref08_Few.calls k A0 c0 l true _ (Kd.C_below HR.out HB.out) HC.out X2.out).mono ?_); rintro e_ w1_ ⟨rfl, hb⟩; have n1_ := aS (below_step HB.out hb); clear HB; have HB := n1_; clear n1_; clear hb))
  go_ret
  exact ⟨rfl, HB.out⟩
 rw [if_pos hs2] at h
 have z2 : decide ((100 : Int) < (a2.size : Int)) = false := decide_eq_false (by omega)
 have y2 : decide (100 < a2.size) = false := decide_eq_false (by omega)
 clear hs2
 by_cases hs4 : (a4.size : Int) ≤ 100
 rotate_left
 ·
  rw [if_neg hs4] at h
  obtain rfl := Option.some.inj h
  have z4 : decide ((100 : Int) < (a4.size : Int)) = true := decide_eq_true (by omega)
  have y4 : decide (100 < a4.size) = true := decide_eq_true (by omega)
  clear h hs4
  go_enter Try.func4, Try.ntmps4
  go_wp2_with (first | (go_at_call 7; (with_reducible refine (shardloglaw09_awake.calls k true _ X1.out).mono ?_); rintro e_ w1_ ⟨rfl, hb⟩; have n1_ := aS (below_step HB.out hb); clear HB; have HB := n1_; clear n1_; clear hb) | (go_at_call 18; (with_reducible refine (shardlogref08_Few.calls k A0 c0 l true _ (Kd.C_below HR.out HB.out) HC.out X2.out).mono ?_); rintro e_ w1_ ⟨rfl, hb⟩; have n1_ := aS (below_step HB.out hb); clear HB; have HB := n1_; clear n1_; clear hb))
  go_ret
  exact ⟨rfl, HB.out⟩
 rw [if_pos hs4] at h
 have z4 : decide ((100 : Int) < (a4.size : Int)) = false := decide_eq_false (by omega)
 have y4 : decide (100 < a4.size) = false := decide_eq_false (by omega)
 clear hs4
 unfold shardloglaw09_MemGets.main at h
 replace h := obm h
 obtain ⟨⟨xs, n⟩, x3, h⟩ := h
 replace h := obm h
 obtain ⟨al, x4, h⟩ := h
 replace h := obm h
 obtain ⟨⟨q1, q2, q3, q4, q5, q6⟩, x5, h⟩ := h
 replace h := obm h
 obtain ⟨d, x6, h⟩ := h
 replace h := obm h
 obtain ⟨sm, x7, h⟩ := h
 replace h := obm h
 obtain ⟨rr, x8, h⟩ := h
 replace h := obm h
 obtain ⟨e, x9, h⟩ := h
 split at h
 case isFalse => cases h
 rename_i hc
 obtain ⟨rfl, rfl⟩ := hc
 obtain rfl := Option.some.inj h
 have X3 := aS x3
 have X4 := aS x4
 have X5 := aS x5
 have X6 := aS x6
 have X7 := aS x7
 have X8 := aS x8
 have X9 := aS x9
 clear x3 x4 x5 x6 x7 x8 x9 h
 go_enter Try.func4, Try.ntmps4
 go_wp2_with (first | (go_at_call 7; (with_reducible refine (shardloglaw09_awake.calls k true _ X1.out).mono ?_); rintro e_ w1_ ⟨rfl, hb⟩; have n1_ := aS (below_step HB.out hb); clear HB; have HB := n1_; clear n1_; clear hb) | (go_at_call 18; (with_reducible refine (shardlogref08_Few.calls k A0 c0 l true _ (Kd.C_below HR.out HB.out) HC.out X2.out).mono ?_); rintro e_ w1_ ⟨rfl, hb⟩; have n1_ := aS (below_step HB.out hb); clear HB; have HB := n1_; clear n1_; clear hb) | (go_at_call 19; (with_reducible refine (shardloglaw09_filled.calls k A0 c0 l xs n _ (Kd.C_below HR.out HB.out) HC.out X3.out).mono ?_); rintro e_ w3 ⟨g, rfl, ⟨v, ha⟩, hb⟩; have HA3 := aS (ha.lower HB.out.size); have HB3 := aS (below_step HB.out hb); clear ha hb HB) | (go_at_call 20; (with_reducible refine (shardlogref08_Sort.calls k A0 c0 l al _ (Kd.C_below HR.out HB3.out) HC.out X4.out).mono ?_); rintro e_ w4 ⟨v12, rfl, ho, hb⟩; obtain ⟨A4, c4, rfl, hcl, hC⟩ := Kd.R_reads ho; have HL4 := aS hcl; have HC4 := aS hC; have HA4 := aS (HA3.out.below hb); have HB4 := aS (below_step HB3.out hb); clear ho hb hcl hC HA3 HB3) | (go_at_call 21; (with_reducible refine (mem_Mem_Get.calls k g _ xs n v a1 a2 a3 q1 q2 q3 q4 q5 q6 _ HA4.out X5.out).mono ?_); rintro e_ w5 ⟨rfl, hb⟩; have HA5 := aS (HA4.out.below hb); have HB5 := aS (below_step HB4.out hb); have HC5 := aS (Kd.C_below HC4.out hb); clear hb HA4 HB4 HC4) | ((with_reducible refine gate_dst (N := 13) rfl ?_); refine box_event ?hg (N := 13) ?hd (cs := #[.string ⟨#[]⟩, .string ⟨#[]⟩, .int .i64 0, .string ⟨#[]⟩, .bool false]) (t := 29) ?hr ?_; (case hd => rfl); (case hg => rfl); (case hr => (first | (go_simp; done) | (go_simp; rfl))); intro g13 hg w6 hb hbl; have B6 := aS hb; have G6 : Aside0 (w5.heap.size ≤ g13) := aS (by rw [hg]; exact Nat.le_refl _); have L6 := aS hbl; clear hg hb hbl) | ((with_reducible refine gate_store (t := 29) (p := 13) rfl ?_); refine wpList_store_row rfl 29 _ _ rfl g13 #[.string q1, .string q2, .int .i64 q3, .string q4, .bool q5] rfl rfl 29 _ B6.out (by kernel_rfl) rfl (by kernel_rfl) ?_; have B7 := aS (setRow_heap w6 g13 _ #[.string q1, .string q2, .int .i64 q3, .string q4, .bool q5] _ _ B6.out); have HS := aS (below_setRow L6.out G6.out #[.string q1, .string q2, .int .i64 q3, .string q4, .bool q5]); have HA7 := aS (HA5.out.below HS.out); have HB7 := aS (below_step HB5.out HS.out); have HC7 := aS (Kd.C_below HC5.out HS.out); clear B6 L6 HS HA5 HB5 HC5 G6; generalize World.setRow w6 g13 #[.string q1, .string q2, .int .i64 q3, .string q4, .bool q5] = w7 at B7 HA7 HB7 HC7 ⊢) | (go_at_call 22; (with_reducible refine (shardlogref08_Newest.calls k A4 c4 al a1 a2 a3 q1 q2 q3 q4 q5 q6 _ HC7.out HL4.out X6.out).mono ?_); rintro e_ w8 ⟨rfl, hb⟩; have B8 := aS (blk_below B7.out hb); have HA8 := aS (HA7.out.below hb); have HB8 := aS (below_step HB7.out hb); have HC8 := aS (Kd.C_below HC7.out hb); clear hb B7 HA7 HB7 HC7) | ((with_reducible refine gate_dst (N := 15) rfl ?_); refine box_event ?hg (N := 15) ?hd (cs := #[.string ⟨#[]⟩, .string ⟨#[]⟩, .int .i64 0, .string ⟨#[]⟩, .bool false]) (t := 29) ?hr ?_; (case hd => rfl); (case hg => rfl); (case hr => (first | (go_simp; done) | (go_simp; rfl))); intro g15 hg w9 hb hbl; have B9 := aS hb; have G9 : Aside0 (w8.heap.size ≤ g15) := aS (by rw [hg]; exact Nat.le_refl _); have L9 := aS hbl; clear hg hb hbl) | ((with_reducible refine gate_store (t := 29) (p := 15) rfl ?_); refine wpList_store_row rfl 29 _ _ rfl g15 #[.string q1, .string q2, .int .i64 q3, .string q4, .bool q5] rfl rfl 29 _ B9.out (by kernel_rfl) rfl (by kernel_rfl) ?_; have BB := aS (setRow_heap w9 g15 _ #[.string q1, .string q2, .int .i64 q3, .string q4, .bool q5] _ _ B9.out); have HS := aS (below_setRow L9.out G9.out #[.string q1, .string q2, .int .i64 q3, .string q4, .bool q5]); have BA := aS (blk_below B8.out HS.out); have HAA := aS (HA8.out.below HS.out); have HBA := aS (below_step HB8.out HS.out); have HCA := aS (Kd.C_below HC8.out HS.out); clear B8 B9 L9 HS HA8 HB8 HC8 G9; generalize World.setRow w9 g15 #[.string q1, .string q2, .int .i64 q3, .string q4, .bool q5] = wA at BB BA HAA HBA HCA ⊢))
 have HML : Aside0 (al.length ≤ 9223372036854775807) := aS HCA.out.2.1
 go_loopw [17, 18] (fun v17 v18 wr => ∃ (i : Nat) (acc : List S29), v18 = .int .i64 (i : Int) ∧ Aside0 (i ≤ al.length) ∧ Aside0 (shardloglaw09_MemGets.fl k a1 a4 (al.drop i) acc = some sm) ∧ Aside0 (Kd.R k29 29 wr wA.heap.size (fun _ => True) v17 acc) ∧ Aside0 (Below wA.heap.size wA wr)) (fun _ i _ => al.length - (intOf i).toNat)
 case atStart => exact ⟨0, [], rfl, ⟨Nat.zero_le _⟩, X7, ⟨Kd.R_nil _ _ _ _ _⟩, ⟨Below.refl _ _⟩⟩
 case round =>
  obtain ⟨i, acc, rfl, hi, HA, HRr, HBr⟩ := hrel
  clear X1 X2 X3 X4 X5 X6 X7
  by_cases hlt : i < al.length
  ·
   have hq1 : (i : Int) < (al.length : Int) := by omega
   have hq0 : (0 : Int) ≤ (i : Int) := by omega
   obtain ⟨ad, e_, _⟩ := at_T29 HCA.out (i : Int) hq0 hq1
   subst e_
   obtain ⟨x, hx⟩ : ∃ x, x = rd_T29 al (i : Int) := ⟨_, rfl⟩
   have hxe : x = al[i] := by rw [hx]; unfold rd_T29; rw [Int.toNat_natCast, List.getD_eq_getElem?_getD, List.getElem?_eq_getElem hlt]; rfl
   have HS : Aside0 (∀ W, Below wA.heap.size wA W → (W.cell? (ad.add (i * 5)) = some (.string x.f0) ∧ W.cell? ⟨(ad.add (i * 5)).block, (ad.add (i * 5)).off + 1, none⟩ = some (.string x.f1) ∧ W.cell? ⟨(ad.add (i * 5)).block, (ad.add (i * 5)).off + 2, none⟩ = some (.int .i64 x.f2) ∧ W.cell? ⟨(ad.add (i * 5)).block, (ad.add (i * 5)).off + 3, none⟩ = some (.string x.f3) ∧ W.cell? ⟨(ad.add (i * 5)).block, (ad.add (i * 5)).off + 4, none⟩ = some (.bool x.f4))) := aS (fun W hb => by
    obtain ⟨ad', e', hs⟩ := at_T29 (Kd.C_below HCA.out hb) (i : Int) hq0 hq1
    cases e'
    rw [← hx, Int.toNat_natCast] at hs
    exact hs)
   have ha := HA.out
   rw [List.drop_eq_getElem_cons hlt, ← hxe] at ha
   unfold shardloglaw09_MemGets.fl at ha
   replace ha := obm ha
   obtain ⟨p, y1, ha⟩ := ha
   have Y1 := aS y1
   have hix : ∀ W : World, (Instr.indexAt 22 (.slice (some ad) al.length c4) (.int .i64 (i : Int))).run Try.prog W = .ok (.pointer (some (ad.add (i * 5)))) W := by
    obtain ⟨i0, hi0, hz⟩ := Option.map_eq_some_iff.1 info29
    simp only [Prod.mk.injEq] at hz
    exact index_ad 22 29 hu22 hi0 5 hz.2.1 ad al.length c4 (i : Int) hq0 hq1
   have hwr : wrap64 ((i : Int) + 1) = (i : Int) + 1 := by rw [← i64_w, IntKind.wrap_i64]; have := HML.out; omega
   obtain ⟨hx0, hx1, hx2, hx3, hx4⟩ := HS.out _ HBr.out
   clear hx hxe hi hq0 y1 HA
   by_cases hp : 0 ≤ p
   rotate_left
   ·
    rw [if_neg hp] at ha
    have HA2 := aS ha
    have hp0 : decide (0 ≤ p) = false := decide_eq_false hp
    clear ha hp
    go_wp2_with (first | (go_at_call 23; (with_reducible refine (shardlogref08_Text.calls k x.f0 a1 p _ Y1.out).mono ?_); rintro e_ w11 ⟨rfl, hb⟩; have HR2 := aS (Kd.R_below HRr.out hb.below); have HB2 := aS (below_step HBr.out hb.below); clear hb HRr HBr))
    go_roundw
    case rel => exact ⟨i + 1, acc, by rw [hwr]; rfl, ⟨hlt⟩, HA2, HR2, HB2⟩
    case measure => exact meas1 hwr hlt
   rw [if_pos hp] at ha
   have hp0 : decide (0 ≤ p) = true := decide_eq_true hp
   clear hp
   by_cases he : a4.toList = ([] : List UInt8)
   ·
    rw [if_pos he] at ha
    obtain ⟨he1, he2⟩ := eqT he
    clear he
    by_cases hg : acc.length < 2199023255551
    rotate_left
    ·
     rw [if_neg hg] at ha
     cases ha
    rw [if_pos hg] at ha
    have HA2 := aS ha
    have HG := aS hg
    clear ha hg
    go_wp2_with (first | (go_at_call 23; (with_reducible refine (shardlogref08_Text.calls k x.f0 a1 p _ Y1.out).mono ?_); rintro e_ w11 ⟨rfl, hb⟩; have HR2 := aS (Kd.R_below HRr.out hb.below); have HB2 := aS (below_step HBr.out hb.below); clear hb HRr HBr; clear hx0 hx1 hx2 hx3 hx4; obtain ⟨hx0, hx1, hx2, hx3, hx4⟩ := HS.out _ HB2.out) | (at_builtin; refine Kd.R_append k29 (w0 := wA) wA.heap.size rfl _ _ 22 29 _ _ rfl hu22 info29 rfl (by decide) (by decide) u17 acc x [.string x.f0, .string x.f1, .int .i64 x.f2, .string x.f3, .bool x.f4] (fun _ => True) (fun _ => False) rfl rfl (k29_mkM _ _ _ x) (fun _ hk => hk.elim) (fun _ _ => trivial) HR2.out HB2.out HB2.out.size (by have := HG.out; clear hwr; omega) ?_; intro v8 w14 ho hb hg hat; have HR4 := aS ho; have HB4 := aS hb; clear ho hb hg hat HR2 HB2))
    go_roundw
    case rel => exact ⟨i + 1, acc ++ [x], by rw [hwr]; rfl, ⟨hlt⟩, HA2, HR4, HB4⟩
    case measure => exact meas1 hwr hlt
   ·
    rw [if_neg he] at ha
    obtain ⟨he1, he2⟩ := eqF he
    clear he
    replace ha := obm ha
    obtain ⟨p2, y2, ha⟩ := ha
    have Y2 := aS y2
    clear y2
    by_cases hp2 : p2 < 0
    ·
     rw [if_pos hp2] at ha
     have hp3 : decide (p2 < 0) = true := decide_eq_true hp2
     clear hp2
     by_cases hg : acc.length < 2199023255551
     rotate_left
     ·
      rw [if_neg hg] at ha
      cases ha
     rw [if_pos hg] at ha
     have HA2 := aS ha
     have HG := aS hg
     clear ha hg
     go_wp2_with (first | (go_at_call 23; (with_reducible refine (shardlogref08_Text.calls k x.f0 a1 p _ Y1.out).mono ?_); rintro e_ w11 ⟨rfl, hb⟩; have HR2 := aS (Kd.R_below HRr.out hb.below); have HB2 := aS (below_step HBr.out hb.below); clear hb HRr HBr; clear hx0 hx1 hx2 hx3 hx4; obtain ⟨hx0, hx1, hx2, hx3, hx4⟩ := HS.out _ HB2.out) | (go_at_call 23; (with_reducible refine (shardlogref08_Text.calls k x.f0 a4 p2 _ Y2.out).mono ?_); rintro e_ w12 ⟨rfl, hb⟩; have HR3 := aS (Kd.R_below HR2.out hb.below); have HB3 := aS (below_step HB2.out hb.below); clear hb HR2 HB2; clear hx0 hx1 hx2 hx3 hx4; obtain ⟨hx0, hx1, hx2, hx3, hx4⟩ := HS.out _ HB3.out) | (at_builtin; refine Kd.R_append k29 (w0 := wA) wA.heap.size rfl _ _ 22 29 _ _ rfl hu22 info29 rfl (by decide) (by decide) u17 acc x [.string x.f0, .string x.f1, .int .i64 x.f2, .string x.f3, .bool x.f4] (fun _ => True) (fun _ => False) rfl rfl (k29_mkM _ _ _ x) (fun _ hk => hk.elim) (fun _ _ => trivial) HR3.out HB3.out HB3.out.size (by have := HG.out; clear hwr; omega) ?_; intro v8 w14 ho hb hg hat; have HR4 := aS ho; have HB4 := aS hb; clear ho hb hg hat HR3 HB3))
     go_roundw
     case rel => exact ⟨i + 1, acc ++ [x], by rw [hwr]; rfl, ⟨hlt⟩, HA2, HR4, HB4⟩
     case measure => exact meas1 hwr hlt
    ·
     rw [if_neg hp2] at ha
     have hp3 : decide (p2 < 0) = false := decide_eq_false hp2
     have HA2 := aS ha
     clear ha hp2
     go_wp2_with (first | (go_at_call 23; (with_reducible refine (shardlogref08_Text.calls k x.f0 a1 p _ Y1.out).mono ?_); rintro e_ w11 ⟨rfl, hb⟩; have HR2 := aS (Kd.R_below HRr.out hb.below); have HB2 := aS (below_step HBr.out hb.below); clear hb HRr HBr; clear hx0 hx1 hx2 hx3 hx4; obtain ⟨hx0, hx1, hx2, hx3, hx4⟩ := HS.out _ HB2.out) | (go_at_call 23; (with_reducible refine (shardlogref08_Text.calls k x.f0 a4 p2 _ Y2.out).mono ?_); rintro e_ w12 ⟨rfl, hb⟩; have HR3 := aS (Kd.R_below HR2.out hb.below); have HB3 := aS (below_step HB2.out hb.below); clear hb HR2 HB2; clear hx0 hx1 hx2 hx3 hx4; obtain ⟨hx0, hx1, hx2, hx3, hx4⟩ := HS.out _ HB3.out))
     go_roundw
     case rel => exact ⟨i + 1, acc, by rw [hwr]; rfl, ⟨hlt⟩, HA2, HR3, HB3⟩
     case measure => exact meas1 hwr hlt
  ·
   have e_ : al.drop i = [] := List.drop_eq_nil_of_le (by omega)
   have hge : ¬ ((i : Int) < (al.length : Int)) := by omega
   have ha := HA.out
   rw [e_] at ha
   unfold shardloglaw09_MemGets.fl at ha
   obtain e1 := Option.some.inj ha
   subst e1
   obtain ⟨A7, c7, rfl, hcl, hC⟩ := Kd.R_reads HRr.out
   have HL7 := aS hcl
   have HC7 := aS hC
   have BA2 := aS (blk_below BA.out HBr.out)
   have BB2 := aS (blk_below BB.out HBr.out)
   have HM7 := aS (HAA.out.below HBr.out)
   have HB7 := aS (below_step HBA.out HBr.out)
   clear e_ HA hcl hC HRr
   have q13 := cK5 BA2
   have q15 := cK5 BB2
   go_wp2_with (first | (go_at_call 24; (with_reducible refine (mem_Mem_Rows.calls g _ xs rr n v a1 a4 _ HM7.out X8.out).mono ?_); rintro e_ w15 ⟨v111, rfl, ho, hb⟩; obtain ⟨A8, c8, rfl, hcl8, hC8⟩ := Kd.R_reads ho; have HC8 := aS (show rr.length ≤ c8 ∧ Kd.C k29 w15 A8 rr.length rr from ⟨hcl8, hC8⟩); have HC9 := aS (Kd.C_below HC7.out hb); have HB8 := aS (below_step HB7.out hb); clear ho hb hcl8 hC8 HB7 HC7) | (go_at_call 14; (with_reducible refine (shardlogref08_Same.calls k A8 c8 rr A7 c7 acc true _ HC8.out.2 HC8.out.1 HC9.out HL7.out X9.out).mono ?_); rintro e_ w16 ⟨rfl, hb⟩; have HB9 := aS (below_step HB8.out hb.below); clear hb HB8))
   go_ret
   exact ⟨rfl, HB9.out⟩


/-- THE ONE PURE STATEMENT of shardloglaw09_MemGets. -/
def shardloglaw09_MemGets.Pure : Prop := ∀ (l0 : List (S29)) (a1 : ByteArray) (a2 : ByteArray) (a3 : Int) (a4 : ByteArray), (l0.length ≤ maxLen ∧ l0.length * 64 ≤ 140737488351232 ∧ ∀ y0_ ∈ l0, (y0_.f0.size ≤ 140737488351232 ∧ y0_.f1.size ≤ 140737488351232 ∧ (Lit.int .i64 y0_.f2).wf = true ∧ y0_.f3.size ≤ 140737488351232 ∧ True)) → a1.size ≤ 140737488351232 → a2.size ≤ 140737488351232 → (Lit.int .i64 a3).wf = true → a4.size ≤ 140737488351232 → ∃ k, shardloglaw09_MemGets.f k l0 a1 a2 a3 a4 = some true
theorem shardloglaw09_MemGets.walk (P : shardloglaw09_MemGets.Pure) (A0 : Option Addr) (c0 : Nat) (l0 : List (S29)) (a1 : ByteArray) (a2 : ByteArray) (a3 : Int) (a4 : ByteArray) (w : World) (wf0 : (l0.length ≤ maxLen ∧ l0.length * 64 ≤ 140737488351232 ∧ ∀ y0_ ∈ l0, (y0_.f0.size ≤ 140737488351232 ∧ y0_.f1.size ≤ 140737488351232 ∧ (Lit.int .i64 y0_.f2).wf = true ∧ y0_.f3.size ≤ 140737488351232 ∧ True))) (hr0 : Kd.C k29 w A0 l0.length l0) (hc0 : l0.length ≤ c0) (wf1 : a1.size ≤ 140737488351232) (wf2 : a2.size ≤ 140737488351232) (wf3 : (Lit.int .i64 a3).wf = true) (wf4 : a4.size ≤ 140737488351232) :
  Calls Try.prog 4 #[.slice A0 l0.length c0, .string a1, .string a2, .int .i64 a3, .string a4] w fun e w' => e = .returned (.bool true) ∧ Below w.heap.size w w' := by
 obtain ⟨k, h⟩ := P l0 a1 a2 a3 a4 wf0 wf1 wf2 wf3 wf4
 refine (shardloglaw09_MemGets.calls k A0 c0 l0 a1 a2 a3 a4 true w hr0 hc0 h).mono ?_
 rintro e w' ⟨rfl, hd⟩
 exact ⟨rfl, hd⟩

/-! ### shardloglaw09_MemOrders: function 5 -/
def shardloglaw09_MemOrders.tail (k : Nat) (s : List S29) (j : Nat) : Option Bool :=
 (shardloglaw09_filled.f k s).bind fun a => (shardloglaw09_filled.f k (s.drop j ++ s.take j)).bind fun b => (api_Cell_33.f a.1).bind fun ca => (api_Cell_33.f b.1).bind fun cb => (shardlogref08_Same.f k ca cb).bind fun e1 => (shardlogref08_Same.f k ca s).bind fun e2 => if e1 = true ∧ a.2 = b.2 ∧ e2 = true then some true else none
def shardloglaw09_MemOrders.main (k : Nat) (l : List S29) (a1 : Int) : Option Bool :=
 (shardlogref08_Sort.f k l).bind fun s => if (s.length : Int) = 0 then none else if s.length < 2199023255552 ∧ 0 ≤ Int.tmod (wrap64 a1) s.length ∧ Int.tmod (wrap64 a1) s.length < (s.length : Int) then shardloglaw09_MemOrders.tail k s (Int.tmod (wrap64 a1) s.length).toNat else none
def shardloglaw09_MemOrders.f (k : Nat) (l : List S29) (a1 : Int) : Option Bool :=
 (shardloglaw09_awake.f k).bind fun t => if t = true then (shardlogref08_Few.f k l).bind fun u => if u = true then (if (l.length : Int) = 0 then some true else shardloglaw09_MemOrders.main k l a1) else some true else none
theorem shardloglaw09_MemOrders.mono : ∀ a0 a1 k, LeO (shardloglaw09_MemOrders.f k a0 a1) (shardloglaw09_MemOrders.f (k + 1) a0 a1) := fun _ _ k =>
 LeO.bind (shardloglaw09_awake.mono _) fun _ => LeO.ite (LeO.bind (shardlogref08_Few.mono _ _) fun _ => LeO.ite (LeO.ite (LeO.refl _) (LeO.bind (shardlogref08_Sort.mono _ _) fun _ => LeO.ite (LeO.refl _) (LeO.ite (LeO.bind (shardloglaw09_filled.mono _ _) fun _ => LeO.bind (shardloglaw09_filled.mono _ _) fun _ => LeO.bind (LeO.refl _) fun _ => LeO.bind (LeO.refl _) fun _ => LeO.bind (shardlogref08_Same.mono _ _ _) fun _ => LeO.bind (shardlogref08_Same.mono _ _ _) fun _ => LeO.refl _) (LeO.refl _)))) (LeO.refl _)) (LeO.refl _)
set_option maxHeartbeats 8000000 in
set_option maxRecDepth 100000 in
theorem shardloglaw09_MemOrders.calls (k : Nat) (A0 : Option Addr) (c0 : Nat) (l : List S29) (a1 : Int) (r : Bool) (w : World) (hr0 : Kd.C k29 w A0 l.length l) (hc0 : l.length ≤ c0) (h : shardloglaw09_MemOrders.f k l a1 = some r) :
  Calls Try.prog 5 #[.slice A0 l.length c0, .int .u8 a1] w fun e w' => e = .returned (.bool r) ∧ Below w.heap.size w w' := by
 have hu22 := Try.underlying22; have hu29 := Try.underlying29
 have HR := aS hr0
 have HC := aS hc0
 have HB := aS (Below.refl w.heap.size w)
 clear hr0 hc0
 unfold shardloglaw09_MemOrders.f at h
 replace h := obm h
 obtain ⟨t, x1, h⟩ := h
 cases t with
 | false =>
  rw [if_neg Bool.false_ne_true] at h
  cases h
 | true =>
 rw [if_pos rfl] at h
 replace h := obm h
 obtain ⟨u, x2, h⟩ := h
 have X1 := aS x1
 have X2 := aS x2
 clear x1 x2
 cases u with
 | false =>
  rw [if_neg Bool.false_ne_true] at h
  obtain rfl := Option.some.inj h
  clear h
  go_enter Try.func5, Try.ntmps5
  go_wp2_with (first | (go_at_call 7; (with_reducible refine (shardloglaw09_awake.calls k true _ X1.out).mono ?_); rintro e_ w1_ ⟨rfl, hb⟩; have n1_ := aS (below_step HB.out hb); clear HB; have HB := n1_; clear n1_; clear hb) | (go_at_call 18; (with_reducible refine (shardlogref08_Few.calls k A0 c0 l false _ (Kd.C_below HR.out HB.out) HC.out X2.out).mono ?_); rintro e_ w1_ ⟨rfl, hb⟩; have n1_ := aS (below_step HB.out hb); clear HB; have HB := n1_; clear n1_; clear hb))
  go_ret
  exact ⟨rfl, HB.out⟩
 | true =>
 rw [if_pos rfl] at h
 by_cases hz : (l.length : Int) = 0
 ·
  rw [if_pos hz] at h
  obtain rfl := Option.some.inj h
  obtain ⟨hz1, hz2⟩ := eqT hz
  have hz3 : (l.length == 0) = true := by simpa using hz
  clear h hz
  go_enter Try.func5, Try.ntmps5
  go_wp2_with (first | (go_at_call 7; (with_reducible refine (shardloglaw09_awake.calls k true _ X1.out).mono ?_); rintro e_ w1_ ⟨rfl, hb⟩; have n1_ := aS (below_step HB.out hb); clear HB; have HB := n1_; clear n1_; clear hb) | (go_at_call 18; (with_reducible refine (shardlogref08_Few.calls k A0 c0 l true _ (Kd.C_below HR.out HB.out) HC.out X2.out).mono ?_); rintro e_ w1_ ⟨rfl, hb⟩; have n1_ := aS (below_step HB.out hb); clear HB; have HB := n1_; clear n1_; clear hb))
  go_ret
  exact ⟨rfl, HB.out⟩
 rw [if_neg hz] at h
 obtain ⟨hy1, hy2⟩ := eqF hz
 have hy3 : (l.length == 0) = false := by simpa using hz
 clear hz
 unfold shardloglaw09_MemOrders.main at h
 replace h := obm h
 obtain ⟨s, x3, h⟩ := h
 have X3 := aS x3
 clear x3
 by_cases hz : (s.length : Int) = 0
 ·
  rw [if_pos hz] at h
  cases h
 rw [if_neg hz] at h
 obtain ⟨hz1, hz2⟩ := eqF hz
 obtain ⟨j, hj⟩ : ∃ j_ : Int, Int.tmod (wrap64 a1) (s.length : Int) = j_ := ⟨_, rfl⟩
 rw [hj] at h
 by_cases hjj : s.length < 2199023255552 ∧ 0 ≤ j ∧ j < (s.length : Int)
 rotate_left
 ·
  rw [if_neg hjj] at h
  cases h
 rw [if_pos hjj] at h
 have HJ := aS hjj
 have hz4 : ¬ s = [] := fun he => hz (by rw [he]; rfl)
 clear hjj hz
 unfold shardloglaw09_MemOrders.tail at h
 replace h := obm h
 obtain ⟨⟨xs, n⟩, x4, h⟩ := h
 replace h := obm h
 obtain ⟨⟨ys, m⟩, x5, h⟩ := h
 replace h := obm h
 obtain ⟨ca, x6, h⟩ := h
 replace h := obm h
 obtain ⟨cb, x7, h⟩ := h
 replace h := obm h
 obtain ⟨e1, x8, h⟩ := h
 replace h := obm h
 obtain ⟨e2, x9, h⟩ := h
 split at h
 case isFalse => cases h
 rename_i hc
 obtain ⟨rfl, hnm, rfl⟩ := hc
 replace hnm : n = m := hnm
 subst hnm
 obtain rfl := Option.some.inj h
 have X4 := aS x4
 have X5 := aS x5
 have X6 := aS x6
 have X7 := aS x7
 have X8 := aS x8
 have X9 := aS x9
 clear x4 x5 x6 x7 x8 x9 h
 go_enter Try.func5, Try.ntmps5
 go_upto_region 6 with (first | (go_at_call 7; (with_reducible refine (shardloglaw09_awake.calls k true _ X1.out).mono ?_); rintro e_ w1_ ⟨rfl, hb⟩; have n1_ := aS (below_step HB.out hb); clear HB; have HB := n1_; clear n1_; clear hb) | (go_at_call 18; (with_reducible refine (shardlogref08_Few.calls k A0 c0 l true _ (Kd.C_below HR.out HB.out) HC.out X2.out).mono ?_); rintro e_ w1_ ⟨rfl, hb⟩; have n1_ := aS (below_step HB.out hb); clear HB; have HB := n1_; clear n1_; clear hb) | (go_at_call 20; (with_reducible refine (shardlogref08_Sort.calls k A0 c0 l s _ (Kd.C_below HR.out HB.out) HC.out X3.out).mono ?_); rintro e_ w3 ⟨v5, rfl, ho, hb⟩; obtain ⟨As, cs, rfl, hcl, hC⟩ := Kd.R_reads ho; have HLs := aS hcl; have HCs := aS hC; have HB3 := aS (below_step HB.out hb); clear ho hb hcl hC HB) | (go_at_call 19; (with_reducible refine (shardloglaw09_filled.calls k As cs s xs n _ HCs.out HLs.out X4.out).mono ?_); rintro e_ w5 ⟨g, rfl, ⟨v, ha⟩, hb⟩; have HA5 := aS (ha.lower HB3.out.size); have HC5 := aS (Kd.C_below HCs.out hb); have HB5 := aS (below_step HB3.out hb); clear ha hb HB3 HCs))
 obtain ⟨ii, hii, _, hsz, _⟩ := info_parts info29
 have hcut1 := cut_from (P := Try.prog) 22 29 .i64 hu22 hii 5 hsz As s.length cs j HJ.out.2.1 (by have := HJ.out; omega)
 have hcut2 := cut_to (P := Try.prog) 22 29 .i64 hu22 hii As s.length cs j HJ.out.2.1 (by have := HJ.out; omega) HLs.out
 have HCd := aS (Kd.C_drop HC5.out (m := j.toNat) (by have := HJ.out; omega) HLs.out)
 rw [show (k29).sz = 5 from rfl, lld] at HCd
 generalize (if cs = j.toNat then As else As.map (·.add (j.toNat * 5))) = Ad at hcut1 HCd
 have HCt := aS (Kd.C_take HC5.out (m := j.toNat) (by have := HJ.out; omega))
 rw [llt, Nat.min_eq_left (by have := HJ.out; omega)] at HCt
 obtain ⟨sd, hsd⟩ : ∃ sd, sd = s.drop j.toNat := ⟨_, rfl⟩
 obtain ⟨st, hst⟩ : ∃ st, st = s.take j.toNat := ⟨_, rfl⟩
 have hl1 : sd.length ≤ s.length := by rw [hsd, lld]; omega
 have hl2 : sd.length + j.toNat ≤ s.length := by rw [hsd, lld]; have := HJ.out; omega
 rw [← hsd, ← hst] at X5
 rw [← hsd] at HCd
 rw [← hst] at HCt
 have HSL := aS (And.intro hl1 hl2)
 clear hsd hst hl1 hl2 hii hsz hj hz1 hz2
 refine start_ (n := 11) (ds := []) (S := fun w' => True) #[false, false, false, false, false, false, false, false, false, false, false] (by kernel_rfl) rfl rfl trivial (fun hHeld => ?_)
 generalize hw_ : World.drew _ = w6 at hHeld ⊢
 have HA6 : Aside0 (mem_New.At w6 w.heap.size g xs n v) := aS (hw_ ▸ HA5.out.below (below_drew (Below.refl _ _)))
 have HB6 : Aside0 (Below w.heap.size w w6) := aS (hw_ ▸ below_step HB5.out (below_drew (Below.refl _ _)))
 have HD6 : Aside0 (Kd.C k29 w6 Ad (s.length - j.toNat) sd) := aS (hw_ ▸ Kd.C_below HCd.out (below_drew (Below.refl _ _)))
 have HT6 : Aside0 (Kd.C k29 w6 As j.toNat st) := aS (hw_ ▸ Kd.C_below HCt.out (below_drew (Below.refl _ _)))
 have HC6 : Aside0 (Kd.C k29 w6 As s.length s) := aS (hw_ ▸ Kd.C_below HC5.out (below_drew (Below.refl _ _)))
 clear hw_ HA5 HB5 HCd HCt HC5
 refine with_tabW (T := (true, [([], []), ([], []), ([], []), ([1, 2], [1, 2]), ([0, 3], [0, 3]), ([], []), ([], []), ([5, 6], [5, 6]), ([4, 7, 4], [4, 7]), ([8, 8], [8]), ([9, 9, 0, 1, 2, 3, 4, 5, 6, 7, 8, 9], [9])])) (B := [0, 0, 0, 6, 15, 0, 0, 96, 255, 511, 1023]) (by kernel_rfl) (by kernel_rfl) (fun HT_ HW_ => ?_)
 refine along_ [(1, 32), (2, 33), (3, 34), (5, 36), (6, 37), (7, 38)] ?_
 iterate 6 (apply pure1 HT_; (case hi => rfl); (case hN => rfl); (case hw => rfl); (case hc => kernel_rfl); (case hQ => exact fun _ _ _ h => h); (case hy => intro w'; go_simp; with_reducible rfl); (case ha => simp only [Act.put, lsa, lsz, lss, i64_w, i32_w]; rfl))
 refine lay_ #[false, true, true, true, false, true, true, true, false, false, false] (by kernel_rfl) ?_
 refine one_ (i := 0) (N := (some 31)) #[true, true, true, true, false, true, true, true, false, false, false] rfl rfl (one_of HT_.out (by kernel_rfl)) (by decide) (fun K hK => ?_)
 refine Kd.R_lit_step k29 w6.heap.size 29 (by rfl) (N := 31) rfl (w0 := w6) (xs := ([] : List S29)) (inner := []) (ok := fun _ => True) (okp := fun _ => False) ?hr (Reps.none _ _) (fun _ hk => hk.elim) trivial (Below.refl _ _) (Nat.le_refl _) (by decide) ?_
 (case hr => (first | (go_simp; done) | (go_simp; rfl)))
 intro v31 w7 ho hb hg_ hat
 have HE7 := aS ho
 have HB7 := aS hb
 clear ho hb hg_ hat
 refine hK.out _ _ trivial (fun hHeld => ?_)
 clear hK K
 refine norm_ (a' := ?_) ?_ ?_
 rotate_left
 ·
  show Act.put _ (some 31) _ = _
  simp only [Act.put, lsa, lsz, lss, i64_w, i32_w]
  rfl
 refine one_ (i := 4) (N := (some 35)) #[true, true, true, true, true, true, true, true, false, false, false] rfl rfl (one_of HT_.out (by kernel_rfl)) (by decide) (fun K hK => ?_)
 refine Kd.R_append_rows_step k29 (w0 := w6) w6.heap.size (by rfl) (.tmp 31) (.tmp 34) 22 29 (.agg #[(.string ⟨#[]⟩), (.string ⟨#[]⟩), (.int .i64 0), (.string ⟨#[]⟩), (.bool false)]) 64 rfl hu22 info29 rfl (by decide) (by decide) v31 [] sd _ _ _ (fun _ => True) (fun _ => False) rfl rfl HE7.out (Kd.C_below HD6.out HB7.out) (fun x cs hk => ?hKM) (fun _ hk => hk.elim) (fun _ _ => trivial) HB7.out HB7.out.size ?hl ?_
 (case hKM => obtain rfl := k29_open hk; exact k29_mkM _ _ _ x)
 (case hl => have := HSL.out; have := HJ.out; simp only [List.length_nil]; omega)
 intro v35 w8 ho hb hg_ hat
 rw [List.nil_append] at ho
 have HE8 := aS ho
 have HB8 := aS hb
 clear ho hb hg_ hat HE7 HB7 HD6
 refine hK.out _ _ trivial (fun hHeld => ?_)
 clear hK K
 refine norm_ (a' := ?_) ?_ ?_
 rotate_left
 ·
  show Act.put _ (some 35) _ = _
  simp only [Act.put, lsa, lsz, lss, i64_w, i32_w]
  rfl
 refine one_ (i := 8) (N := (some 39)) #[true, true, true, true, true, true, true, true, true, false, false] rfl rfl (one_of HT_.out (by kernel_rfl)) (by decide) (fun K hK => ?_)
 refine Kd.R_append_rows_step k29 (w0 := w6) w6.heap.size (by rfl) (.tmp 35) (.tmp 38) 22 29 (.agg #[(.string ⟨#[]⟩), (.string ⟨#[]⟩), (.int .i64 0), (.string ⟨#[]⟩), (.bool false)]) 64 rfl hu22 info29 rfl (by decide) (by decide) v35 sd st _ _ _ (fun _ => True) (fun _ => False) rfl rfl HE8.out (Kd.C_below HT6.out HB8.out) (fun x cs hk => ?hKM) (fun _ hk => hk.elim) (fun _ _ => trivial) HB8.out HB8.out.size ?hl ?_
 (case hKM => obtain rfl := k29_open hk; exact k29_mkM _ _ _ x)
 (case hl => have := HSL.out; have := HJ.out; omega)
 intro v39 w9 ho hb hg_ hat
 have HE9 := aS ho
 have HB9 := aS hb
 clear ho hb hg_ hat HE8 HB8 HT6
 obtain ⟨z, hz⟩ : ∃ z, z = sd ++ st := ⟨_, rfl⟩
 rw [← hz] at HE9 X5
 clear hz
 obtain ⟨A9, c9, rfl, hcl, hC⟩ := Kd.R_reads HE9.out
 have HL9 := aS hcl
 have HC9 := aS hC
 clear hcl hC HE9
 refine hK.out _ _ trivial (fun hHeld => ?_)
 clear hK K
 refine norm_ (a' := ?_) ?_ ?_
 rotate_left
 ·
  show Act.put _ (some 39) _ = _
  simp only [Act.put, lsa, lsz, lss, i64_w, i32_w]
  rfl
 refine one_ (i := 9) (N := (some 40)) #[true, true, true, true, true, true, true, true, true, true, false] rfl rfl (one_of HT_.out (by kernel_rfl)) (by decide) (fun K hK => ?_)
 refine goes_ Try.func19 (by kernel_rfl) rfl #[.slice A9 z.length c9] (by rfl) rfl rfl agn ?_
 with_reducible refine (shardloglaw09_filled.calls k A9 c9 z ys n _ HC9.out HL9.out X5.out).mono ?_
 rintro e_ w10 ⟨g2, rfl, ⟨v2, ha⟩, hb⟩
 refine ⟨_, rfl, ?_⟩
 have HB10 := aS (below_step HB9.out hb)
 have HAa := aS (HA6.out.below HB10.out)
 have HAb := aS ha
 have HCs := aS (Kd.C_below HC6.out HB10.out)
 have HBz := aS (below_step HB6.out HB10.out)
 clear ha hb HA6 HB6 HC6 HB9 HB10 HC9
 refine hK.out _ _ trivial (fun hHeld => ?_)
 clear hK K
 refine norm_ (a' := ?_) ?_ ?_
 rotate_left
 ·
  show Act.put _ (some 40) _ = _
  simp only [Act.put, lsa, lsz, lss, i64_w, i32_w]
  rfl
 refine along_ [(10, 8)] ?_
 iterate 1 (apply pure1 HT_; (case hi => rfl); (case hN => rfl); (case hw => rfl); (case hc => kernel_rfl); (case hQ => exact fun _ _ _ h => h); (case hy => intro w'; go_simp; with_reducible rfl); (case ha => simp only [Act.put, lsa, lsz, lss, i64_w, i32_w]; rfl))
 refine lay_ #[true, true, true, true, true, true, true, true, true, true, true] (by kernel_rfl) ?_
 refine done_ (done_of HT_.out (by kernel_rfl)) ?_
 clear HT_ HW_ hHeld hcut1 hcut2
 go_wp2_with (first | (go_at_call 15; (with_reducible refine (mem_Mem_Cells.calls g _ xs ca n v _ HAa.out X6.out).mono ?_); rintro e_ w11 ⟨u1, rfl, ho, hb⟩; obtain ⟨A11, c11, rfl, hcl, hC⟩ := Kd.R_reads ho; have HL11 := aS hcl; have HC11 := aS hC; clear ho hcl hC; have HAa1 := aS (HAa.out.below hb); have HAb1 := aS (HAb.out.below hb); have HCs1 := aS (Kd.C_below HCs.out hb); have HBz1 := aS (below_step HBz.out hb); clear hb HAa HAb HCs HBz) | (go_at_call 15; (with_reducible refine (mem_Mem_Cells.calls g2 _ ys cb n v2 _ HAb1.out X7.out).mono ?_); rintro e_ w12 ⟨u1, rfl, ho, hb⟩; obtain ⟨A12, c12, rfl, hcl, hC⟩ := Kd.R_reads ho; have HL12 := aS hcl; have HC12 := aS hC; have HC11' := aS (Kd.C_below HC11.out hb); clear ho hcl hC HC11; have HAa2 := aS (HAa1.out.below hb); have HAb2 := aS (HAb1.out.below hb); have HCs2 := aS (Kd.C_below HCs1.out hb); have HBz2 := aS (below_step HBz1.out hb); clear hb HAa1 HAb1 HCs1 HBz1) | (go_at_call 14; (with_reducible refine (shardlogref08_Same.calls k A11 c11 ca A12 c12 cb true _ HC11'.out HL11.out HC12.out HL12.out X8.out).mono ?_); rintro e_ w13 ⟨rfl, hb'⟩; have hb := hb'.below; clear hb' HC11' HC12; have HAa3 := aS (HAa2.out.below hb); have HAb3 := aS (HAb2.out.below hb); have HCs3 := aS (Kd.C_below HCs2.out hb); have HBz3 := aS (below_step HBz2.out hb); clear hb HAa2 HAb2 HCs2 HBz2) | (go_at_call 17; (with_reducible refine (mem_Mem_Size.calls g _ xs n v _ HAa3.out).mono ?_); rintro e_ w14 ⟨rfl, hb⟩; have HAa4 := aS (HAa3.out.below hb); have HAb4 := aS (HAb3.out.below hb); have HCs4 := aS (Kd.C_below HCs3.out hb); have HBz4 := aS (below_step HBz3.out hb); clear hb HAa3 HAb3 HCs3 HBz3) | (go_at_call 17; (with_reducible refine (mem_Mem_Size.calls g2 _ ys n v2 _ HAb4.out).mono ?_); rintro e_ w15 ⟨rfl, hb⟩; have HAa5 := aS (HAa4.out.below hb); have HCs5 := aS (Kd.C_below HCs4.out hb); have HBz5 := aS (below_step HBz4.out hb); clear hb HAa4 HCs4 HBz4; clear HAb4) | (go_at_call 15; (with_reducible refine (mem_Mem_Cells.calls g _ xs ca n v _ HAa5.out X6.out).mono ?_); rintro e_ w16 ⟨u1, rfl, ho, hb⟩; obtain ⟨A16, c16, rfl, hcl, hC⟩ := Kd.R_reads ho; have HL16 := aS hcl; have HC16 := aS hC; have HCs6 := aS (Kd.C_below HCs5.out hb); have HBz5' := aS (below_step HBz5.out hb); clear ho hcl hC hb HAa5 HCs5 HBz5) | (go_at_call 14; (with_reducible refine (shardlogref08_Same.calls k A16 c16 ca As cs s true _ HC16.out HL16.out HCs6.out HLs.out X9.out).mono ?_); rintro e_ w17 ⟨rfl, hb'⟩; have HBz6 := aS (below_step HBz5'.out hb'.below); clear hb' HBz5'))
 go_ret
 exact ⟨rfl, HBz6.out⟩


/-- THE ONE PURE STATEMENT of shardloglaw09_MemOrders. -/
def shardloglaw09_MemOrders.Pure : Prop := ∀ (l0 : List (S29)) (a1 : Int), (l0.length ≤ maxLen ∧ l0.length * 64 ≤ 140737488351232 ∧ ∀ y0_ ∈ l0, (y0_.f0.size ≤ 140737488351232 ∧ y0_.f1.size ≤ 140737488351232 ∧ (Lit.int .i64 y0_.f2).wf = true ∧ y0_.f3.size ≤ 140737488351232 ∧ True)) → (Lit.int .u8 a1).wf = true → ∃ k, shardloglaw09_MemOrders.f k l0 a1 = some true
theorem shardloglaw09_MemOrders.walk (P : shardloglaw09_MemOrders.Pure) (A0 : Option Addr) (c0 : Nat) (l0 : List (S29)) (a1 : Int) (w : World) (wf0 : (l0.length ≤ maxLen ∧ l0.length * 64 ≤ 140737488351232 ∧ ∀ y0_ ∈ l0, (y0_.f0.size ≤ 140737488351232 ∧ y0_.f1.size ≤ 140737488351232 ∧ (Lit.int .i64 y0_.f2).wf = true ∧ y0_.f3.size ≤ 140737488351232 ∧ True))) (hr0 : Kd.C k29 w A0 l0.length l0) (hc0 : l0.length ≤ c0) (wf1 : (Lit.int .u8 a1).wf = true) :
  Calls Try.prog 5 #[.slice A0 l0.length c0, .int .u8 a1] w fun e w' => e = .returned (.bool true) ∧ Below w.heap.size w w' := by
 obtain ⟨k, h⟩ := P l0 a1 wf0 wf1
 refine (shardloglaw09_MemOrders.calls k A0 c0 l0 a1 true w hr0 hc0 h).mono ?_
 rintro e w' ⟨rfl, hd⟩
 exact ⟨rfl, hd⟩

/-! ### shardloglaw09_MemKeeps: function 6 -/
def shardloglaw09_MemKeeps.tail (k : Nat) (xs l : List S29) : Option Bool :=
 (api_Cell_33.f xs).bind fun ca => (mem_Mem_Rows.f xs ⟨#[]⟩ ⟨#[]⟩).bind fun rr => (shardlogref08_Sort.f k l).bind fun s => (shardlogref08_Same.f k ca s).bind fun e => if e = true then some true else none
def shardloglaw09_MemKeeps.f (k : Nat) (l : List S29) : Option Bool :=
 (shardloglaw09_filled.f k l).bind fun q => (shardloglaw09_awake.f k).bind fun t => if t = true then (shardlogref08_Few.f k l).bind fun u => if u = true then shardloglaw09_MemKeeps.tail k q.1 l else some true else none
theorem shardloglaw09_MemKeeps.mono : ∀ a0 k, LeO (shardloglaw09_MemKeeps.f k a0) (shardloglaw09_MemKeeps.f (k + 1) a0) := fun _ k =>
 LeO.bind (shardloglaw09_filled.mono _ _) fun _ => LeO.bind (shardloglaw09_awake.mono _) fun _ => LeO.ite (LeO.bind (shardlogref08_Few.mono _ _) fun _ => LeO.ite (LeO.bind (LeO.refl _) fun _ => LeO.bind (LeO.refl _) fun _ => LeO.bind (shardlogref08_Sort.mono _ _) fun _ => LeO.bind (shardlogref08_Same.mono _ _ _) fun _ => LeO.refl _) (LeO.refl _)) (LeO.refl _)
set_option maxHeartbeats 8000000 in
set_option maxRecDepth 100000 in
theorem shardloglaw09_MemKeeps.calls (k : Nat) (A0 : Option Addr) (c0 : Nat) (l : List S29) (r : Bool) (w : World) (hr0 : Kd.C k29 w A0 l.length l) (hc0 : l.length ≤ c0) (h : shardloglaw09_MemKeeps.f k l = some r) :
  Calls Try.prog 6 #[.slice A0 l.length c0] w fun e w' => e = .returned (.bool r) ∧ Below w.heap.size w w' := by
 have hu22 := Try.underlying22; have hu29 := Try.underlying29
 have hsz : (Try.prog.info? 29).map (·.size) = some 5 := by
  obtain ⟨i0, hi0, hz⟩ := Option.map_eq_some_iff.1 info29
  simp only [Prod.mk.injEq] at hz
  rw [hi0]; simp [hz.2.1]
 have HR := aS hr0
 have HC := aS hc0
 clear hr0 hc0
 unfold shardloglaw09_MemKeeps.f at h
 replace h := obm h
 obtain ⟨⟨xs, n⟩, x0, h⟩ := h
 replace h := obm h
 obtain ⟨t, x1, h⟩ := h
 cases t with
 | false =>
  rw [if_neg Bool.false_ne_true] at h
  cases h
 | true =>
 rw [if_pos rfl] at h
 replace h := obm h
 obtain ⟨u, x2, h⟩ := h
 have X0 := aS x0
 have X1 := aS x1
 have X2 := aS x2
 clear x0 x1 x2
 cases u with
 | false =>
  rw [if_neg Bool.false_ne_true] at h
  obtain rfl := Option.some.inj h
  clear h
  go_enter Try.func6, Try.ntmps6
  go_wp2_with (first | (go_at_call 19; (with_reducible refine (shardloglaw09_filled.calls k A0 c0 l xs n _ HR.out HC.out X0.out).mono ?_); rintro e_ w1 ⟨g, rfl, ⟨v, ha⟩, hb⟩; have HA1 := aS ha; have HB1 := aS hb; clear ha hb) | (go_at_call 7; (with_reducible refine (shardloglaw09_awake.calls k true _ X1.out).mono ?_); rintro e_ w2_ ⟨rfl, hb⟩; have n0_ := aS (HA1.out.below hb); have n1_ := aS (below_step HB1.out hb); clear HA1 HB1; have HA1 := n0_; have HB1 := n1_; clear n0_ n1_; clear hb) | (go_at_call 18; (with_reducible refine (shardlogref08_Few.calls k A0 c0 l false _ (Kd.C_below HR.out HB1.out) HC.out X2.out).mono ?_); rintro e_ w3_ ⟨rfl, hb⟩; have n0_ := aS (HA1.out.below hb); have n1_ := aS (below_step HB1.out hb); clear HA1 HB1; have HA1 := n0_; have HB1 := n1_; clear n0_ n1_; clear hb))
  go_ret
  exact ⟨rfl, HB1.out⟩
 | true =>
 rw [if_pos rfl] at h
 unfold shardloglaw09_MemKeeps.tail at h
 replace h := obm h
 obtain ⟨ca, x3, h⟩ := h
 replace h := obm h
 obtain ⟨rr, x4, h⟩ := h
 replace h := obm h
 obtain ⟨s, x5, h⟩ := h
 replace h := obm h
 obtain ⟨e, x6, h⟩ := h
 split at h
 case isFalse => cases h
 rename_i hc
 subst hc
 obtain rfl := Option.some.inj h
 have X3 := aS x3
 have X4 := aS x4
 have X5 := aS x5
 have X6 := aS x6
 clear x3 x4 x5 x6 h
 go_enter Try.func6, Try.ntmps6
 go_upto_region 4 with (first | (go_at_call 19; (with_reducible refine (shardloglaw09_filled.calls k A0 c0 l xs n _ HR.out HC.out X0.out).mono ?_); rintro e_ w1 ⟨g, rfl, ⟨v, ha⟩, hb⟩; have HA1 := aS ha; have HB1 := aS hb; clear ha hb) | (go_at_call 7; (with_reducible refine (shardloglaw09_awake.calls k true _ X1.out).mono ?_); rintro e_ w2_ ⟨rfl, hb⟩; have n0_ := aS (HA1.out.below hb); have n1_ := aS (below_step HB1.out hb); clear HA1 HB1; have HA1 := n0_; have HB1 := n1_; clear n0_ n1_; clear hb) | (go_at_call 18; (with_reducible refine (shardlogref08_Few.calls k A0 c0 l true _ (Kd.C_below HR.out HB1.out) HC.out X2.out).mono ?_); rintro e_ w3_ ⟨rfl, hb⟩; have n0_ := aS (HA1.out.below hb); have n1_ := aS (below_step HB1.out hb); clear HA1 HB1; have HA1 := n0_; have HB1 := n1_; clear n0_ n1_; clear hb))
 obtain ⟨wA, hwA⟩ : ∃ wA, wA = w3_ := ⟨_, rfl⟩
 subst hwA
 have HA3 := aS HA1.out
 clear HA1
 go_upto_region 6 with (first | (go_at_call 15; (with_reducible refine (mem_Mem_Cells.calls g _ xs ca n v _ HA3.out X3.out).mono ?_); rintro e_ w4 ⟨u4, rfl, ho, hb⟩; have HX4 := aS ho; have HA4 := aS (HA3.out.below hb); have HW4 := aS hb; clear ho hb) | (go_at_call 24; (with_reducible refine (mem_Mem_Rows.calls g _ xs rr n v _ _ _ HA4.out X4.out).mono ?_); rintro e_ w5 ⟨u5, rfl, ho, hb⟩; have HY5 := aS ho; have HX5 := aS (Kd.R_below HX4.out hb); have HW5 := aS (below_step HW4.out hb); have H45 := aS hb; clear ho hb))
 have HX : Aside0 (Kd.R k29 29 w5 wA.heap.size (fun b => some b ≠ u5.ownBlock) u4 ca) := aS (Kd.R_reok rfl HX5.out (fun k hk he => by have h1 := Kd.R_base HY5.out k he.symm; have h2 := Kd.R_lt HX4.out k hk; omega))
 have HY : Aside0 (Kd.R k29 29 w5 wA.heap.size (fun b => some b ≠ u4.ownBlock) u5 rr) := aS (Kd.R_lower (Kd.R_reok rfl HY5.out (fun k hk he => by have h1 := Kd.R_base HY5.out k hk; have h2 := Kd.R_lt HX4.out k he.symm; omega)) HW4.out.size)
 clear HX4 HX5 HY5
 obtain ⟨Ax, cx, rfl⟩ := Kd.R_slice HX.out
 obtain ⟨Ay, cy, rfl⟩ := Kd.R_slice HY.out
 have HXM : Aside0 (ca.length ≤ 9223372036854775807) := aS (Kd.R_reads' HX.out).2.2.2.1
 go_wp2
 go_loopw [6] (fun v6 wr => ∃ (i : Nat) (xl yl : List S29), v6 = .int .i64 (i : Int) ∧ Aside0 (i ≤ ca.length) ∧ Aside0 (Kd.R k29 29 wr wA.heap.size (fun b => some b ≠ (Value.slice Ay rr.length cy).ownBlock) (.slice Ax ca.length cx) xl) ∧ Aside0 (Kd.R k29 29 wr wA.heap.size (fun b => some b ≠ (Value.slice Ax ca.length cx).ownBlock) (.slice Ay rr.length cy) yl) ∧ Aside0 (Below wA.heap.size wA wr)) (fun i _ => ca.length - (intOf i).toNat)
 case atStart => exact ⟨0, ca, rr, rfl, ⟨Nat.zero_le _⟩, HX, HY, HW5⟩
 case round =>
  clear HX HY HW5
  obtain ⟨i, xl, yl, rfl, hi, HX, HY, HBr⟩ := hrel
  by_cases hlt : i < ca.length
  ·
   have hq1 : (i : Int) < (ca.length : Int) := by omega
   have hq0 : (0 : Int) ≤ (i : Int) := by omega
   have d1 : decide ((i : Int) < (ca.length : Int)) = true := decide_eq_true hq1
   by_cases hlt2 : i < rr.length
   ·
    have hq2 : (i : Int) < (rr.length : Int) := by omega
    have d2 : decide ((i : Int) < (rr.length : Int)) = true := decide_eq_true hq2
    have lx : xl.length = ca.length := (Kd.R_reads' HX.out).1.symm
    have ly : yl.length = rr.length := (Kd.R_reads' HY.out).1.symm
    obtain ⟨gx, cx', ex, _, _, _⟩ := Kd.R_form HX.out (by omega)
    obtain ⟨gy, cy', ey, _, _, _⟩ := Kd.R_form HY.out (by omega)
    injection ex with ex1 ex2 ex3
    subst ex1 ex3
    injection ey with ey1 ey2 ey3
    subst ey1 ey3
    have hix : ∀ W : World, (Instr.indexAt 22 (.slice (some ⟨gx, 0, none⟩) ca.length cx) (.int .i64 (i : Int))).run Try.prog W = .ok (.pointer (some ⟨gx, i * 5, none⟩)) W := by
     obtain ⟨i0, hi0, hz⟩ := Option.map_eq_some_iff.1 info29
     simp only [Prod.mk.injEq] at hz
     have := index_at 22 29 hu22 hi0 5 hz.2.1 gx ca.length cx (i : Int) hq0 hq1
     simpa using this
    have hiy : ∀ W : World, (Instr.indexAt 22 (.slice (some ⟨gy, 0, none⟩) rr.length cy) (.int .i64 (i : Int))).run Try.prog W = .ok (.pointer (some ⟨gy, i * 5, none⟩)) W := by
     obtain ⟨i0, hi0, hz⟩ := Option.map_eq_some_iff.1 info29
     simp only [Prod.mk.injEq] at hz
     have := index_at 22 29 hu22 hi0 5 hz.2.1 gy rr.length cy (i : Int) hq0 hq2
     simpa using this
    have hwr : wrap64 ((i : Int) + 1) = (i : Int) + 1 := by rw [← i64_w, IntKind.wrap_i64]; have := HXM.out; omega
    clear hi ex2 ey2 lx ly
    obtain ⟨ce, hcel, hq_, hcc, hr_⟩ := Kd.R_elem HX.out z29 (i : Int) hq0 hq1
    have hM : Kd.M k29 wr wA.heap.size (fun _ => False) (⟨⟨#[]⟩, ⟨#[]⟩, 0, ⟨#[]⟩, false⟩ : S29) (ce.take 0 ++ [.string ⟨#[]⟩, .string ⟨#[]⟩, .int .i64 0, .string ⟨#[]⟩, .bool false] ++ ce.drop (0 + 5)) := by
     rw [List.take_zero, List.nil_append, List.drop_of_length_le (by rw [hcel]; exact Nat.le_refl 5), List.append_nil]
     exact k29_mkM wr _ (fun _ => False) (⟨⟨#[]⟩, ⟨#[]⟩, 0, ⟨#[]⟩, false⟩ : S29)
    go_upto_region 10 with (first | ((with_reducible refine gate_store (t := 29) (p := 40) rfl ?_); refine Kd.R_store k29 (w0 := wA) wA.heap.size rfl rfl 29 _ _ rfl 29 (i : Int) 0 xl (⟨⟨#[]⟩, ⟨#[]⟩, 0, ⟨#[]⟩, false⟩ : S29) (.agg #[.string ⟨#[]⟩, .string ⟨#[]⟩, .int .i64 0, .string ⟨#[]⟩, .bool false]) [.string ⟨#[]⟩, .string ⟨#[]⟩, .int .i64 0, .string ⟨#[]⟩, .bool false] ce _ (fun _ => False) rfl rfl rfl rfl hsz ((k29).K_one (k29_mk wr (⟨⟨#[]⟩, ⟨#[]⟩, 0, ⟨#[]⟩, false⟩ : S29))) HX.out hq0 hq1 hcel hcc (by decide) ?hM (fun _ hk => hk.elim) HBr.out ?_; (case hM => exact hM); intro w6 ho hb hg; have HX2 := aS ho; have HB2 := aS hb; have HY2 := aS (Kd.R_grown HY.out hg (fun k hk he => hk he)); clear ho hb hg HX HY HBr))
    clear hr_ hcc hq_ hM hcel ce
    obtain ⟨ce, hcel, hq_, hcc, hr_⟩ := Kd.R_elem HY2.out z29 (i : Int) hq0 hq2
    have hM : Kd.M k29 w6 wA.heap.size (fun _ => False) (⟨⟨#[]⟩, ⟨#[]⟩, 0, ⟨#[]⟩, false⟩ : S29) (ce.take 0 ++ [.string ⟨#[]⟩, .string ⟨#[]⟩, .int .i64 0, .string ⟨#[]⟩, .bool false] ++ ce.drop (0 + 5)) := by
     rw [List.take_zero, List.nil_append, List.drop_of_length_le (by rw [hcel]; exact Nat.le_refl 5), List.append_nil]
     exact k29_mkM w6 _ (fun _ => False) (⟨⟨#[]⟩, ⟨#[]⟩, 0, ⟨#[]⟩, false⟩ : S29)
    go_wp2_with (first | ((with_reducible refine gate_store (t := 29) (p := 44) rfl ?_); refine Kd.R_store k29 (w0 := wA) wA.heap.size rfl rfl 29 _ _ rfl 29 (i : Int) 0 yl (⟨⟨#[]⟩, ⟨#[]⟩, 0, ⟨#[]⟩, false⟩ : S29) (.agg #[.string ⟨#[]⟩, .string ⟨#[]⟩, .int .i64 0, .string ⟨#[]⟩, .bool false]) [.string ⟨#[]⟩, .string ⟨#[]⟩, .int .i64 0, .string ⟨#[]⟩, .bool false] ce _ (fun _ => False) rfl rfl rfl rfl hsz ((k29).K_one (k29_mk w6 (⟨⟨#[]⟩, ⟨#[]⟩, 0, ⟨#[]⟩, false⟩ : S29))) HY2.out hq0 hq2 hcel hcc (by decide) ?hM (fun _ hk => hk.elim) HB2.out ?_; (case hM => exact hM); intro w7 ho hb hg; have HY3 := aS ho; have HB3 := aS hb; have HX3 := aS (Kd.R_grown HX2.out hg (fun k hk he => hk he)); clear ho hb hg HX2 HY2 HB2))
    go_roundw
    case rel => exact ⟨i + 1, _, _, by rw [hwr]; rfl, ⟨hlt⟩, HX3, HY3, HB3⟩
    case measure => exact meas1 hwr hlt
   ·
    have d2 : decide ((i : Int) < (rr.length : Int)) = false := decide_eq_false (by omega)
    have HA5 := aS (HA3.out.below HBr.out)
    have HB5 := aS (below_step HB1.out HBr.out)
    clear hi HX HY
    go_wp2_with (first | (go_at_call 15; (with_reducible refine (mem_Mem_Cells.calls g _ xs ca n v _ HA5.out X3.out).mono ?_); rintro e_ w8 ⟨u8, rfl, ho, hb⟩; obtain ⟨A8, c8, rfl, hcl, hC⟩ := Kd.R_reads ho; have HL8 := aS hcl; have HC8 := aS hC; have HB6 := aS (below_step HB5.out hb); clear ho hb hcl hC HB5) | (go_at_call 20; (with_reducible refine (shardlogref08_Sort.calls k A0 c0 l s _ (Kd.C_below HR.out HB6.out) HC.out X5.out).mono ?_); rintro e_ w9 ⟨u9, rfl, ho, hb⟩; obtain ⟨A9, c9, rfl, hcl, hC⟩ := Kd.R_reads ho; have HL9 := aS hcl; have HC9 := aS hC; have HC8' := aS (Kd.C_below HC8.out hb); have HB7 := aS (below_step HB6.out hb); clear ho hb hcl hC HB6 HC8) | (go_at_call 14; (with_reducible refine (shardlogref08_Same.calls k A8 c8 ca A9 c9 s true _ HC8'.out HL8.out HC9.out HL9.out X6.out).mono ?_); rintro e_ w10 ⟨rfl, hb⟩; have HB8 := aS (below_step HB7.out hb.below); clear hb HB7))
    go_ret
    exact ⟨rfl, HB8.out⟩
  ·
   have d1 : decide ((i : Int) < (ca.length : Int)) = false := decide_eq_false (by omega)
   have hge : ¬ ((i : Int) < (ca.length : Int)) := by omega
   have HA5 := aS (HA3.out.below HBr.out)
   have HB5 := aS (below_step HB1.out HBr.out)
   clear hi HX HY
   go_wp2_with (first | (go_at_call 15; (with_reducible refine (mem_Mem_Cells.calls g _ xs ca n v _ HA5.out X3.out).mono ?_); rintro e_ w8 ⟨u8, rfl, ho, hb⟩; obtain ⟨A8, c8, rfl, hcl, hC⟩ := Kd.R_reads ho; have HL8 := aS hcl; have HC8 := aS hC; have HB6 := aS (below_step HB5.out hb); clear ho hb hcl hC HB5) | (go_at_call 20; (with_reducible refine (shardlogref08_Sort.calls k A0 c0 l s _ (Kd.C_below HR.out HB6.out) HC.out X5.out).mono ?_); rintro e_ w9 ⟨u9, rfl, ho, hb⟩; obtain ⟨A9, c9, rfl, hcl, hC⟩ := Kd.R_reads ho; have HL9 := aS hcl; have HC9 := aS hC; have HC8' := aS (Kd.C_below HC8.out hb); have HB7 := aS (below_step HB6.out hb); clear ho hb hcl hC HB6 HC8) | (go_at_call 14; (with_reducible refine (shardlogref08_Same.calls k A8 c8 ca A9 c9 s true _ HC8'.out HL8.out HC9.out HL9.out X6.out).mono ?_); rintro e_ w10 ⟨rfl, hb⟩; have HB8 := aS (below_step HB7.out hb.below); clear hb HB7))
   go_ret
   exact ⟨rfl, HB8.out⟩


/-- THE ONE PURE STATEMENT of shardloglaw09_MemKeeps. -/
def shardloglaw09_MemKeeps.Pure : Prop := ∀ (l0 : List (S29)), (l0.length ≤ maxLen ∧ l0.length * 64 ≤ 140737488351232 ∧ ∀ y0_ ∈ l0, (y0_.f0.size ≤ 140737488351232 ∧ y0_.f1.size ≤ 140737488351232 ∧ (Lit.int .i64 y0_.f2).wf = true ∧ y0_.f3.size ≤ 140737488351232 ∧ True)) → ∃ k, shardloglaw09_MemKeeps.f k l0 = some true
theorem shardloglaw09_MemKeeps.walk (P : shardloglaw09_MemKeeps.Pure) (A0 : Option Addr) (c0 : Nat) (l0 : List (S29)) (w : World) (wf0 : (l0.length ≤ maxLen ∧ l0.length * 64 ≤ 140737488351232 ∧ ∀ y0_ ∈ l0, (y0_.f0.size ≤ 140737488351232 ∧ y0_.f1.size ≤ 140737488351232 ∧ (Lit.int .i64 y0_.f2).wf = true ∧ y0_.f3.size ≤ 140737488351232 ∧ True))) (hr0 : Kd.C k29 w A0 l0.length l0) (hc0 : l0.length ≤ c0) :
  Calls Try.prog 6 #[.slice A0 l0.length c0] w fun e w' => e = .returned (.bool true) ∧ Below w.heap.size w w' := by
 obtain ⟨k, h⟩ := P l0 wf0
 refine (shardloglaw09_MemKeeps.calls k A0 c0 l0 true w hr0 hc0 h).mono ?_
 rintro e w' ⟨rfl, hd⟩
 exact ⟨rfl, hd⟩

end Go.Proofs.Ytgcicgjfimfhpaa.X
