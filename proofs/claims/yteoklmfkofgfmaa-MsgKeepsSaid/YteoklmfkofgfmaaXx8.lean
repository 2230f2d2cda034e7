-- written by a program of this session's, over the kit's print
import Derived.Test.YteoklmfkofgfmaaXx0
import Derived.Test.YteoklmfkofgfmaaXx1
import Derived.Test.YteoklmfkofgfmaaXx7
namespace Go.Proofs.Yteoklmfkofgfmaa.X
open Go.RowKit Go.Proofs.YteoklmfkofgfmaaW.PrintWords Go.Proofs.YteoklmfkofgfmaaW.PrintLast Go.Proofs.YteoklmfkofgfmaaW.PrintMore
attribute [local go_sem] max2_int min2_int max_two min_two max_three min_three max_four min_four gtr_str   -- for this text's walks alone
set_option linter.unusedVariables false
set_option linter.unusedSimpArgs false

attribute [local go_sem high] eqA23
/-! ### shardlogref19_Right: function 11 -/
mutual
def shardlogref19_Right.j0 : Nat → Bool → Int → Int → Int → Int → Int → Int → Int → Int → Bool → ByteArray → List (S23) → Option (Bool)
 | 0, _, _, _, _, _, _, _, _, _, _, _, _ => none
 | k + 1, x41, x413000, x413001, x413002, x413003, x413004, x413005, x413006, x413007, x413008, x413009, x413010 => if x41 = true then (some false) else (if x413000 = 2 then (if x413000 = 3 then (if x413000 = 4 then (shardlogref19_Right.j1 k false x413000 x413001 x413002 x413003 x413004 x413005 x413006 x413007 x413008 x413009 x413010) else (shardlogref19_Right.j1 k (x413004 != 0) x413000 x413001 x413002 x413003 x413004 x413005 x413006 x413007 x413008 x413009 x413010)) else (if (!(x413005 == 0) || (!(x413006 == 0) || (!(x413007 == 0) || (x413008 || (!(x413009.toList == ([] : List UInt8))))))) = true then (shardlogref19_Right.j1 k true x413000 x413001 x413002 x413003 x413004 x413005 x413006 x413007 x413008 x413009 x413010) else (if x413000 = 4 then (shardlogref19_Right.j1 k false x413000 x413001 x413002 x413003 x413004 x413005 x413006 x413007 x413008 x413009 x413010) else (shardlogref19_Right.j1 k (x413004 != 0) x413000 x413001 x413002 x413003 x413004 x413005 x413006 x413007 x413008 x413009 x413010)))) else (if (x413010.length : Int) > 0 then (shardlogref19_Right.j1 k true x413000 x413001 x413002 x413003 x413004 x413005 x413006 x413007 x413008 x413009 x413010) else (if x413000 = 3 then (if x413000 = 4 then (shardlogref19_Right.j1 k false x413000 x413001 x413002 x413003 x413004 x413005 x413006 x413007 x413008 x413009 x413010) else (shardlogref19_Right.j1 k (x413004 != 0) x413000 x413001 x413002 x413003 x413004 x413005 x413006 x413007 x413008 x413009 x413010)) else (if (!(x413005 == 0) || (!(x413006 == 0) || (!(x413007 == 0) || (x413008 || (!(x413009.toList == ([] : List UInt8))))))) = true then (shardlogref19_Right.j1 k true x413000 x413001 x413002 x413003 x413004 x413005 x413006 x413007 x413008 x413009 x413010) else (if x413000 = 4 then (shardlogref19_Right.j1 k false x413000 x413001 x413002 x413003 x413004 x413005 x413006 x413007 x413008 x413009 x413010) else (shardlogref19_Right.j1 k (x413004 != 0) x413000 x413001 x413002 x413003 x413004 x413005 x413006 x413007 x413008 x413009 x413010))))))
def shardlogref19_Right.j1 : Nat → Bool → Int → Int → Int → Int → Int → Int → Int → Int → Bool → ByteArray → List (S23) → Option (Bool)
 | 0, _, _, _, _, _, _, _, _, _, _, _, _ => none
 | k + 1, x71, x413000, x413001, x413002, x413003, x413004, x413005, x413006, x413007, x413008, x413009, x413010 => if x71 = true then (some false) else (shardlogref19_Right.l0 k 0 x413000 x413001 x413002 x413003 x413004 x413005 x413006 x413007 x413008 x413009 x413010)
def shardlogref19_Right.l0 : Nat → Int → Int → Int → Int → Int → Int → Int → Int → Int → Bool → ByteArray → List (S23) → Option (Bool)
 | 0, _, _, _, _, _, _, _, _, _, _, _, _ => none
 | k + 1, x3, x413000, x413001, x413002, x413003, x413004, x413005, x413006, x413007, x413008, x413009, x413010 => if x3 < (x413010.length : Int) then (if 0 ≤ x3 then ((shardlogref17_Right.f ((rd_T23 x413010 x3).f0) ((rd_T23 x413010 x3).f1) ((rd_T23 x413010 x3).f2) ((rd_T23 x413010 x3).f3) ((rd_T23 x413010 x3).f4)).bind fun t414 => (if t414 = true then (if ((rd_T23 x413010 x3).f1) ≥ x413003 then (some false) else (if x3 > 0 then (if 0 ≤ (wrap64 (x3 - 1)) then (if (wrap64 (x3 - 1)) < (x413010.length : Int) then (if ((rd_T23 x413010 (wrap64 (x3 - 1))).f0) ≥ ((rd_T23 x413010 x3).f0) then (some false) else (shardlogref19_Right.l0 k (wrap64 (x3 + 1)) x413000 x413001 x413002 x413003 x413004 x413005 x413006 x413007 x413008 x413009 x413010)) else (none)) else (none)) else (shardlogref19_Right.l0 k (wrap64 (x3 + 1)) x413000 x413001 x413002 x413003 x413004 x413005 x413006 x413007 x413008 x413009 x413010))) else (some false))) else (none)) else (if x413000 = 3 then ((shardlogref17_Right.f x413005 x413006 x413007 x413008 x413009).bind fun t418 => (if t418 = true then (if x413006 = x413003 then (if x413004 ≥ 0 then (some (decide (x413004 ≤ 63))) else (some false)) else (some false)) else (some false))) else (if x413004 ≥ 0 then (some (decide (x413004 ≤ 63))) else (some false)))
end
def shardlogref19_Right.f (k : Nat) (a0_0 : Int) (a0_1 : Int) (a0_2 : Int) (a0_3 : Int) (a0_4 : Int) (a0_5 : Int) (a0_6 : Int) (a0_7 : Int) (a0_8 : Bool) (a0_9 : ByteArray) (l0_10 : List (S23)) : Option (Bool) := if a0_0 < 1 then (shardlogref19_Right.j0 k true a0_0 a0_1 a0_2 a0_3 a0_4 a0_5 a0_6 a0_7 a0_8 a0_9 l0_10) else (if a0_0 > 5 then (shardlogref19_Right.j0 k true a0_0 a0_1 a0_2 a0_3 a0_4 a0_5 a0_6 a0_7 a0_8 a0_9 l0_10) else (if a0_1 < 0 then (shardlogref19_Right.j0 k true a0_0 a0_1 a0_2 a0_3 a0_4 a0_5 a0_6 a0_7 a0_8 a0_9 l0_10) else (if a0_1 > 6 then (shardlogref19_Right.j0 k true a0_0 a0_1 a0_2 a0_3 a0_4 a0_5 a0_6 a0_7 a0_8 a0_9 l0_10) else (if a0_2 < 0 then (shardlogref19_Right.j0 k true a0_0 a0_1 a0_2 a0_3 a0_4 a0_5 a0_6 a0_7 a0_8 a0_9 l0_10) else (if a0_2 > 6 then (shardlogref19_Right.j0 k true a0_0 a0_1 a0_2 a0_3 a0_4 a0_5 a0_6 a0_7 a0_8 a0_9 l0_10) else (if a0_3 < 1 then (shardlogref19_Right.j0 k true a0_0 a0_1 a0_2 a0_3 a0_4 a0_5 a0_6 a0_7 a0_8 a0_9 l0_10) else (shardlogref19_Right.j0 k (decide (a0_3 > 2147483647)) a0_0 a0_1 a0_2 a0_3 a0_4 a0_5 a0_6 a0_7 a0_8 a0_9 l0_10)))))))
theorem shardlogref19_Right.mono_l : ∀ k, (∀ y0 y1 y2 y3 y4 y5 y6 y7 y8 y9 y10 y11, LeO (shardlogref19_Right.j0 k y0 y1 y2 y3 y4 y5 y6 y7 y8 y9 y10 y11) (shardlogref19_Right.j0 (k + 1) y0 y1 y2 y3 y4 y5 y6 y7 y8 y9 y10 y11)) ∧ (∀ y0 y1 y2 y3 y4 y5 y6 y7 y8 y9 y10 y11, LeO (shardlogref19_Right.j1 k y0 y1 y2 y3 y4 y5 y6 y7 y8 y9 y10 y11) (shardlogref19_Right.j1 (k + 1) y0 y1 y2 y3 y4 y5 y6 y7 y8 y9 y10 y11)) ∧ (∀ y0 y1 y2 y3 y4 y5 y6 y7 y8 y9 y10 y11, LeO (shardlogref19_Right.l0 k y0 y1 y2 y3 y4 y5 y6 y7 y8 y9 y10 y11) (shardlogref19_Right.l0 (k + 1) y0 y1 y2 y3 y4 y5 y6 y7 y8 y9 y10 y11))
 | 0 => ⟨fun _ _ _ _ _ _ _ _ _ _ _ _ r h => by simp [shardlogref19_Right.j0] at h, fun _ _ _ _ _ _ _ _ _ _ _ _ r h => by simp [shardlogref19_Right.j1] at h, fun _ _ _ _ _ _ _ _ _ _ _ _ r h => by simp [shardlogref19_Right.l0] at h⟩
 | k + 1 => by
  obtain ⟨ih0, ih1, ih2⟩ := shardlogref19_Right.mono_l k
  refine ⟨?_, ?_, ?_⟩
  ·
   intro y0 y1 y2 y3 y4 y5 y6 y7 y8 y9 y10 y11
   unfold shardlogref19_Right.j0
   repeat' first
   | (with_reducible exact ih0 _ _ _ _ _ _ _ _ _ _ _ _)
   | (with_reducible exact ih1 _ _ _ _ _ _ _ _ _ _ _ _)
   | (with_reducible exact ih2 _ _ _ _ _ _ _ _ _ _ _ _)
   | (with_reducible exact LeO.refl _)
   | (with_reducible exact LeO.none _)
   | (with_reducible refine LeO.ite ?_ ?_)
   | (with_reducible refine LeO.bind ?_ (fun _ => ?_))
   | exact LeO.none _
   | refine LeO.ite ?_ ?_
   | refine LeO.bind ?_ (fun _ => ?_)
  ·
   intro y0 y1 y2 y3 y4 y5 y6 y7 y8 y9 y10 y11
   unfold shardlogref19_Right.j1
   repeat' first
   | (with_reducible exact ih0 _ _ _ _ _ _ _ _ _ _ _ _)
   | (with_reducible exact ih1 _ _ _ _ _ _ _ _ _ _ _ _)
   | (with_reducible exact ih2 _ _ _ _ _ _ _ _ _ _ _ _)
   | (with_reducible exact LeO.refl _)
   | (with_reducible exact LeO.none _)
   | (with_reducible refine LeO.ite ?_ ?_)
   | (with_reducible refine LeO.bind ?_ (fun _ => ?_))
   | exact LeO.none _
   | refine LeO.ite ?_ ?_
   | refine LeO.bind ?_ (fun _ => ?_)
  ·
   intro y0 y1 y2 y3 y4 y5 y6 y7 y8 y9 y10 y11
   unfold shardlogref19_Right.l0
   repeat' first
   | (with_reducible exact ih0 _ _ _ _ _ _ _ _ _ _ _ _)
   | (with_reducible exact ih1 _ _ _ _ _ _ _ _ _ _ _ _)
   | (with_reducible exact ih2 _ _ _ _ _ _ _ _ _ _ _ _)
   | (with_reducible exact LeO.refl _)
   | (with_reducible exact LeO.none _)
   | (with_reducible refine LeO.ite ?_ ?_)
   | (with_reducible refine LeO.bind ?_ (fun _ => ?_))
   | exact LeO.none _
   | refine LeO.ite ?_ ?_
   | refine LeO.bind ?_ (fun _ => ?_)
theorem shardlogref19_Right.mono : ∀ a0 a1 a2 a3 a4 a5 a6 a7 a8 a9 a10 k, LeO (shardlogref19_Right.f k a0 a1 a2 a3 a4 a5 a6 a7 a8 a9 a10) (shardlogref19_Right.f (k + 1) a0 a1 a2 a3 a4 a5 a6 a7 a8 a9 a10) := by
 intro a0 a1 a2 a3 a4 a5 a6 a7 a8 a9 a10 k
 obtain ⟨ih0, ih1, ih2⟩ := shardlogref19_Right.mono_l k
 unfold shardlogref19_Right.f
 repeat' first
   | (with_reducible exact ih0 _ _ _ _ _ _ _ _ _ _ _ _)
   | (with_reducible exact ih1 _ _ _ _ _ _ _ _ _ _ _ _)
   | (with_reducible exact ih2 _ _ _ _ _ _ _ _ _ _ _ _)
   | (with_reducible exact LeO.refl _)
   | (with_reducible exact LeO.none _)
   | (with_reducible refine LeO.ite ?_ ?_)
   | (with_reducible refine LeO.bind ?_ (fun _ => ?_))
   | exact LeO.none _
   | refine LeO.ite ?_ ?_
   | refine LeO.bind ?_ (fun _ => ?_)
def shardlogref19_Right.T8 : Bool × List (List Nat × List Nat) := (true, [([], []), ([0], [0]), ([], []), ([1, 2], [1, 2]), ([3], [3]), ([4], [4]), ([5], [5]), ([6, 5], [6]), ([7], [7]), ([8, 7], [7, 8]), ([7], [7]), ([9, 10, 7], [7, 9, 10]), ([11, 7], [7, 11]), ([12, 7], [7, 12]), ([7], [7]), ([14, 7], [7, 14]), ([13, 15, 7], [7, 13, 15]), ([7, 16], [7, 16]), ([17, 7], [17]), ([18], [18]), ([19, 18], [18, 19]), ([20, 18, 18], [18, 20]), ([21], [21]), ([22, 21], [21, 22]), ([21], [21]), ([24, 21], [21, 24]), ([23, 25, 21], [21, 23, 25]), ([26, 21], [21, 26]), ([27, 21], [21, 27]), ([21], [21]), ([29, 21], [21, 29]), ([21], [21]), ([30, 31, 21], [21, 30, 31]), ([32, 21], [21, 32]), ([33, 21], [21, 33]), ([28, 34, 21], [21, 28, 34]), ([21, 35, 18], [18, 21, 35]), ([18, 36], [18, 36])])
def shardlogref19_Right.B8 : List Nat := [0, 1, 0, 7, 15, 31, 63, 127, 255, 511, 255, 2047, 4095, 8191, 255, 16639, 65535, 131071, 262143, 524287, 1048575, 2097151, 4194303, 8388607, 4194303, 20971519, 67108863, 134217727, 268435455, 4194303, 541065215, 4194303, 3762290687, 8057257983, 16647192575, 34359738367, 68719476735, 137438953471]
theorem shardlogref19_Right.tab8 : rtab .any (opsOf Try.f11 8) = shardlogref19_Right.T8 := by kernel_rfl
theorem shardlogref19_Right.bits8 : waitsOk shardlogref19_Right.T8.2 shardlogref19_Right.B8 = true := by kernel_rfl
set_option maxHeartbeats 8000000 in
set_option maxRecDepth 100000 in
theorem shardlogref19_Right.calls (k : Nat) (a0_0 : Int) (a0_1 : Int) (a0_2 : Int) (a0_3 : Int) (a0_4 : Int) (a0_5 : Int) (a0_6 : Int) (a0_7 : Int) (a0_8 : Bool) (a0_9 : ByteArray) (A0_10 : Option Addr) (c0_10 : Nat) (l0_10 : List (S23)) (r : Bool) (w : World) (hr0_10 : Kd.C k23 w A0_10 l0_10.length l0_10) (hc0_10 : l0_10.length ≤ c0_10) (h : shardlogref19_Right.f k a0_0 a0_1 a0_2 a0_3 a0_4 a0_5 a0_6 a0_7 a0_8 a0_9 l0_10 = some r) :
  Calls Try.prog 11 #[.agg #[.int .i64 a0_0, .int .i64 a0_1, .int .i64 a0_2, .int .i64 a0_3, .int .i64 a0_4, .int .i64 a0_5, .int .i64 a0_6, .int .i64 a0_7, .bool a0_8, .string a0_9, .slice A0_10 l0_10.length c0_10]] w fun e w' => e = .returned (.bool r) ∧ Below w.heap.size w w' := by
 have hu26 := Try.underlying26; have hu23 := Try.underlying23
 have HR0_10 := aS hr0_10
 have HC0_10 := aS hc0_10
 clear hr0_10 hc0_10
 have HB := aS (Below.refl w.heap.size w)
 have H : (if a0_0 < 1 then (shardlogref19_Right.j0 k true a0_0 a0_1 a0_2 a0_3 a0_4 a0_5 a0_6 a0_7 a0_8 a0_9 l0_10) else (if a0_0 > 5 then (shardlogref19_Right.j0 k true a0_0 a0_1 a0_2 a0_3 a0_4 a0_5 a0_6 a0_7 a0_8 a0_9 l0_10) else (if a0_1 < 0 then (shardlogref19_Right.j0 k true a0_0 a0_1 a0_2 a0_3 a0_4 a0_5 a0_6 a0_7 a0_8 a0_9 l0_10) else (if a0_1 > 6 then (shardlogref19_Right.j0 k true a0_0 a0_1 a0_2 a0_3 a0_4 a0_5 a0_6 a0_7 a0_8 a0_9 l0_10) else (if a0_2 < 0 then (shardlogref19_Right.j0 k true a0_0 a0_1 a0_2 a0_3 a0_4 a0_5 a0_6 a0_7 a0_8 a0_9 l0_10) else (if a0_2 > 6 then (shardlogref19_Right.j0 k true a0_0 a0_1 a0_2 a0_3 a0_4 a0_5 a0_6 a0_7 a0_8 a0_9 l0_10) else (if a0_3 < 1 then (shardlogref19_Right.j0 k true a0_0 a0_1 a0_2 a0_3 a0_4 a0_5 a0_6 a0_7 a0_8 a0_9 l0_10) else (shardlogref19_Right.j0 k (decide (a0_3 > 2147483647)) a0_0 a0_1 a0_2 a0_3 a0_4 a0_5 a0_6 a0_7 a0_8 a0_9 l0_10)))))))) = some r := h
 clear h
 have HC2 := aS H
 clear H
 go_enter Try.func11, Try.ntmps11
 go_upto_region 1 with (first | ((with_reducible refine gate_dst (N := 1) rfl ?_); (try (refine gate_guard (by rfl) ?_; dsimp only)); refine box_event ?hg (N := 1) ?hd (cs := #[.int .i64 a0_0, .int .i64 a0_1, .int .i64 a0_2, .int .i64 a0_3, .int .i64 a0_4, .int .i64 a0_5, .int .i64 a0_6, .int .i64 a0_7, .bool a0_8, .string a0_9, .slice A0_10 l0_10.length c0_10]) (t := 26) ?hr ?_; (case hd => rfl); (case hg => rfl); (case hr => first | (go_simp; done) | (go_simp; rfl)); intro gb412 hg w3 hbox hb; have n0_ := bstep hb; have n1_ := aS (hbox); have n2_ := bsize hg; have n3_ := bsize hg; clear HB; have HB := n0_; have BK412 := n1_; have GW412 := n2_; have GE412 := n3_; clear n0_ n1_ n2_ n3_; clear hb hbox hg))
 (try simp only [Act.put, lsa, lsz, lss])
 go_cut [41] (fun v41 wc => ∃ (kq : Nat) (x41_1 : Bool), v41 = .bool x41_1 ∧ Aside0 (shardlogref19_Right.j0 kq x41_1 a0_0 a0_1 a0_2 a0_3 a0_4 a0_5 a0_6 a0_7 a0_8 a0_9 l0_10 = some r) ∧ Aside0 (kq ≤ k) ∧ Aside0 (wc.heap[gb412]? = some (.cells #[.int .i64 a0_0, .int .i64 a0_1, .int .i64 a0_2, .int .i64 a0_3, .int .i64 a0_4, .int .i64 a0_5, .int .i64 a0_6, .int .i64 a0_7, .bool a0_8, .string a0_9, (.slice A0_10 l0_10.length c0_10)] 26 (0, 0))) ∧ Aside0 (Below w.heap.size w wc))
 case first =>
  have H := HC2.out; clear HC2
  by_cases c4 : a0_0 < 1
  ·
   rw [if_pos c4] at H
   have c4b0 : decide (a0_0 < 1) = true := decide_eq_true c4
   clear c4
   (first | rw [c4b0] | (simp only [i64_w, i32_w]; rw [c4b0]) | skip)
   have H' := aS H
   clear H
   have hcz5 := cK11 BK412
   go_wp2
   go_meet
   case rel => exact ⟨_, (true), (by first | rfl | (simp; done) | (simp [*]; done) | (simp; exact (by decide : ∀ a_ b_ : Bool, (a_ == b_) = (!a_ != b_)) _ _)), H', ⟨by first | omega | exact Nat.le_refl _⟩, ⟨by (with_reducible repeat (first | refine blk_drewN ?_ _ | refine blk_drew ?_ | refine blk_alloc ?_ _)); exact BK412.out⟩, ⟨bel⟩⟩
  ·
   rw [if_neg c4] at H
   have c4b0 : decide (a0_0 < 1) = false := decide_eq_false c4
   clear c4
   (first | rw [c4b0] | (simp only [i64_w, i32_w]; rw [c4b0]) | skip)
   by_cases c6 : a0_0 > 5
   ·
    rw [if_pos c6] at H
    have c6b0 : decide (5 < a0_0) = true := decide_eq_true c6
    clear c6
    have H' := aS H
    clear H
    have hcz7 := cK11 BK412
    go_wp2
    go_meet
    case rel => exact ⟨_, (true), (by first | rfl | (simp; done) | (simp [*]; done) | (simp; exact (by decide : ∀ a_ b_ : Bool, (a_ == b_) = (!a_ != b_)) _ _)), H', ⟨by first | omega | exact Nat.le_refl _⟩, ⟨by (with_reducible repeat (first | refine blk_drewN ?_ _ | refine blk_drew ?_ | refine blk_alloc ?_ _)); exact BK412.out⟩, ⟨bel⟩⟩
   ·
    rw [if_neg c6] at H
    have c6b0 : decide (5 < a0_0) = false := decide_eq_false c6
    clear c6
    by_cases c8 : a0_1 < 0
    ·
     rw [if_pos c8] at H
     have c8b0 : decide (a0_1 < 0) = true := decide_eq_true c8
     clear c8
     have H' := aS H
     clear H
     have hcz9 := cK11 BK412
     go_wp2
     go_meet
     case rel => exact ⟨_, (true), (by first | rfl | (simp; done) | (simp [*]; done) | (simp; exact (by decide : ∀ a_ b_ : Bool, (a_ == b_) = (!a_ != b_)) _ _)), H', ⟨by first | omega | exact Nat.le_refl _⟩, ⟨by (with_reducible repeat (first | refine blk_drewN ?_ _ | refine blk_drew ?_ | refine blk_alloc ?_ _)); exact BK412.out⟩, ⟨bel⟩⟩
    ·
     rw [if_neg c8] at H
     have c8b0 : decide (a0_1 < 0) = false := decide_eq_false c8
     clear c8
     by_cases c10 : a0_1 > 6
     ·
      rw [if_pos c10] at H
      have c10b0 : decide (6 < a0_1) = true := decide_eq_true c10
      clear c10
      have H' := aS H
      clear H
      have hcz11 := cK11 BK412
      go_wp2
      go_meet
      case rel => exact ⟨_, (true), (by first | rfl | (simp; done) | (simp [*]; done) | (simp; exact (by decide : ∀ a_ b_ : Bool, (a_ == b_) = (!a_ != b_)) _ _)), H', ⟨by first | omega | exact Nat.le_refl _⟩, ⟨by (with_reducible repeat (first | refine blk_drewN ?_ _ | refine blk_drew ?_ | refine blk_alloc ?_ _)); exact BK412.out⟩, ⟨bel⟩⟩
     ·
      rw [if_neg c10] at H
      have c10b0 : decide (6 < a0_1) = false := decide_eq_false c10
      clear c10
      by_cases c12 : a0_2 < 0
      ·
       rw [if_pos c12] at H
       have c12b0 : decide (a0_2 < 0) = true := decide_eq_true c12
       clear c12
       have H' := aS H
       clear H
       have hcz13 := cK11 BK412
       go_wp2
       go_meet
       case rel => exact ⟨_, (true), (by first | rfl | (simp; done) | (simp [*]; done) | (simp; exact (by decide : ∀ a_ b_ : Bool, (a_ == b_) = (!a_ != b_)) _ _)), H', ⟨by first | omega | exact Nat.le_refl _⟩, ⟨by (with_reducible repeat (first | refine blk_drewN ?_ _ | refine blk_drew ?_ | refine blk_alloc ?_ _)); exact BK412.out⟩, ⟨bel⟩⟩
      ·
       rw [if_neg c12] at H
       have c12b0 : decide (a0_2 < 0) = false := decide_eq_false c12
       clear c12
       by_cases c14 : a0_2 > 6
       ·
        rw [if_pos c14] at H
        have c14b0 : decide (6 < a0_2) = true := decide_eq_true c14
        clear c14
        have H' := aS H
        clear H
        have hcz15 := cK11 BK412
        go_wp2
        go_meet
        case rel => exact ⟨_, (true), (by first | rfl | (simp; done) | (simp [*]; done) | (simp; exact (by decide : ∀ a_ b_ : Bool, (a_ == b_) = (!a_ != b_)) _ _)), H', ⟨by first | omega | exact Nat.le_refl _⟩, ⟨by (with_reducible repeat (first | refine blk_drewN ?_ _ | refine blk_drew ?_ | refine blk_alloc ?_ _)); exact BK412.out⟩, ⟨bel⟩⟩
       ·
        rw [if_neg c14] at H
        have c14b0 : decide (6 < a0_2) = false := decide_eq_false c14
        clear c14
        by_cases c16 : a0_3 < 1
        ·
         rw [if_pos c16] at H
         have c16b0 : decide (a0_3 < 1) = true := decide_eq_true c16
         clear c16
         have H' := aS H
         clear H
         have hcz17 := cK11 BK412
         go_wp2
         go_meet
         case rel => exact ⟨_, (true), (by first | rfl | (simp; done) | (simp [*]; done) | (simp; exact (by decide : ∀ a_ b_ : Bool, (a_ == b_) = (!a_ != b_)) _ _)), H', ⟨by first | omega | exact Nat.le_refl _⟩, ⟨by (with_reducible repeat (first | refine blk_drewN ?_ _ | refine blk_drew ?_ | refine blk_alloc ?_ _)); exact BK412.out⟩, ⟨bel⟩⟩
        ·
         rw [if_neg c16] at H
         have c16b0 : decide (a0_3 < 1) = false := decide_eq_false c16
         clear c16
         have H' := aS H
         clear H
         have hcz18 := cK11 BK412
         go_wp2
         go_meet
         case rel => exact ⟨_, (decide (a0_3 > 2147483647)), (by first | rfl | (simp; done) | (simp [*]; done) | (simp; exact (by decide : ∀ a_ b_ : Bool, (a_ == b_) = (!a_ != b_)) _ _)), H', ⟨by first | omega | exact Nat.le_refl _⟩, ⟨by (with_reducible repeat (first | refine blk_drewN ?_ _ | refine blk_drew ?_ | refine blk_alloc ?_ _)); exact BK412.out⟩, ⟨bel⟩⟩
 case rest =>
  clear HC2; (try clear c1); (try clear p2); (try clear c4); (try clear c4b0); (try clear c6); (try clear c6b0); (try clear c8); (try clear c8b0); (try clear c10); (try clear c10b0); (try clear c11); (try clear c12); (try clear c12b0); (try clear c14); (try clear c14b0); (try clear c16); (try clear c16b0); (try clear hcz11); (try clear hcz13); (try clear hcz15); (try clear hcz17); (try clear hcz18); (try clear hcz5); (try clear hcz7); (try clear hcz9)
  obtain ⟨kq, x41_1, rfl, HA, HJ1, BK412, HB⟩ := hcut
  cases kq with
  | zero => exact absurd HA.out (by simp [shardlogref19_Right.j0])
  | succ kj1 =>
   have H := HA.out; clear HA
   simp only [shardlogref19_Right.j0] at H
   by_cases c19 : x41_1 = true
   ·
    subst c19
    have H1 : (some false) = some r := by rw [if_pos rfl] at H; exact H
    clear H; have H := H1; clear H1
    obtain rfl := Option.some.inj H
    go_wp2
    go_ret
    exact ⟨rf3, bel⟩
   ·
    replace c19 := Bool.eq_false_iff.mpr c19
    subst c19
    have H1 : (if a0_0 = 2 then (if a0_0 = 3 then (if a0_0 = 4 then (shardlogref19_Right.j1 kj1 false a0_0 a0_1 a0_2 a0_3 a0_4 a0_5 a0_6 a0_7 a0_8 a0_9 l0_10) else (shardlogref19_Right.j1 kj1 (a0_4 != 0) a0_0 a0_1 a0_2 a0_3 a0_4 a0_5 a0_6 a0_7 a0_8 a0_9 l0_10)) else (if (!(a0_5 == 0) || (!(a0_6 == 0) || (!(a0_7 == 0) || (a0_8 || (!(a0_9.toList == ([] : List UInt8))))))) = true then (shardlogref19_Right.j1 kj1 true a0_0 a0_1 a0_2 a0_3 a0_4 a0_5 a0_6 a0_7 a0_8 a0_9 l0_10) else (if a0_0 = 4 then (shardlogref19_Right.j1 kj1 false a0_0 a0_1 a0_2 a0_3 a0_4 a0_5 a0_6 a0_7 a0_8 a0_9 l0_10) else (shardlogref19_Right.j1 kj1 (a0_4 != 0) a0_0 a0_1 a0_2 a0_3 a0_4 a0_5 a0_6 a0_7 a0_8 a0_9 l0_10)))) else (if (l0_10.length : Int) > 0 then (shardlogref19_Right.j1 kj1 true a0_0 a0_1 a0_2 a0_3 a0_4 a0_5 a0_6 a0_7 a0_8 a0_9 l0_10) else (if a0_0 = 3 then (if a0_0 = 4 then (shardlogref19_Right.j1 kj1 false a0_0 a0_1 a0_2 a0_3 a0_4 a0_5 a0_6 a0_7 a0_8 a0_9 l0_10) else (shardlogref19_Right.j1 kj1 (a0_4 != 0) a0_0 a0_1 a0_2 a0_3 a0_4 a0_5 a0_6 a0_7 a0_8 a0_9 l0_10)) else (if (!(a0_5 == 0) || (!(a0_6 == 0) || (!(a0_7 == 0) || (a0_8 || (!(a0_9.toList == ([] : List UInt8))))))) = true then (shardlogref19_Right.j1 kj1 true a0_0 a0_1 a0_2 a0_3 a0_4 a0_5 a0_6 a0_7 a0_8 a0_9 l0_10) else (if a0_0 = 4 then (shardlogref19_Right.j1 kj1 false a0_0 a0_1 a0_2 a0_3 a0_4 a0_5 a0_6 a0_7 a0_8 a0_9 l0_10) else (shardlogref19_Right.j1 kj1 (a0_4 != 0) a0_0 a0_1 a0_2 a0_3 a0_4 a0_5 a0_6 a0_7 a0_8 a0_9 l0_10)))))) = some r := by rw [if_neg (show ¬ (false = true) by decide)] at H; exact H
    clear H; have H := H1; clear H1
    have HC20 := aS H
    clear H
    go_upto_region 3 with (fail)
    go_cut [71] (fun v71 wc => ∃ (kq : Nat) (x71_19 : Bool), v71 = .bool x71_19 ∧ Aside0 (shardlogref19_Right.j1 kq x71_19 a0_0 a0_1 a0_2 a0_3 a0_4 a0_5 a0_6 a0_7 a0_8 a0_9 l0_10 = some r) ∧ Aside0 (kq ≤ kj1) ∧ Aside0 (wc.heap[gb412]? = some (.cells #[.int .i64 a0_0, .int .i64 a0_1, .int .i64 a0_2, .int .i64 a0_3, .int .i64 a0_4, .int .i64 a0_5, .int .i64 a0_6, .int .i64 a0_7, .bool a0_8, .string a0_9, (.slice A0_10 l0_10.length c0_10)] 26 (0, 0))) ∧ Aside0 (Below w.heap.size w wc))
    case first =>
     have H := HC20.out; clear HC20
     by_cases c21 : a0_0 = 2
     ·
      rw [if_pos c21] at H
      obtain ⟨c21b0, c21b1⟩ := eqT c21
      clear c21
      (first | rw [c21b0] | (simp only [i64_w, i32_w]; rw [c21b0]) | skip)
      by_cases c22 : a0_0 = 3
      ·
       rw [if_pos c22] at H
       obtain ⟨c22b0, c22b1⟩ := eqT c22
       clear c22
       by_cases c23 : a0_0 = 4
       ·
        rw [if_pos c23] at H
        obtain ⟨c23b0, c23b1⟩ := eqT c23
        clear c23
        have H' := aS H
        clear H
        have hcz24 := cK11 BK412
        go_wp2
        go_meet
        case rel => exact ⟨_, (false), (by first | rfl | (simp; done) | (simp [*]; done) | (simp; exact (by decide : ∀ a_ b_ : Bool, (a_ == b_) = (!a_ != b_)) _ _)), H', ⟨by have := HJ1.out; first | omega | exact Nat.le_refl _⟩, ⟨by (with_reducible repeat (first | refine blk_drewN ?_ _ | refine blk_drew ?_ | refine blk_alloc ?_ _)); exact BK412.out⟩, ⟨bel⟩⟩
       ·
        rw [if_neg c23] at H
        obtain ⟨c23b0, c23b1⟩ := eqF c23
        have H' := aS H
        clear H
        have hcz25 := cK11 BK412
        go_wp2
        go_meet
        case rel => exact ⟨_, ((a0_4 != 0)), (by first | rfl | (simp; done) | (simp [*]; done) | (simp; exact (by decide : ∀ a_ b_ : Bool, (a_ == b_) = (!a_ != b_)) _ _)), H', ⟨by have := HJ1.out; first | omega | exact Nat.le_refl _⟩, ⟨by (with_reducible repeat (first | refine blk_drewN ?_ _ | refine blk_drew ?_ | refine blk_alloc ?_ _)); exact BK412.out⟩, ⟨bel⟩⟩
      ·
       rw [if_neg c22] at H
       obtain ⟨c22b0, c22b1⟩ := eqF c22
       by_cases c26 : (!(a0_5 == 0) || (!(a0_6 == 0) || (!(a0_7 == 0) || (a0_8 || (!(a0_9.toList == ([] : List UInt8))))))) = true
       ·
        rw [if_pos c26] at H
        have c26b0 : (!(a0_5 == 0) || (!(a0_6 == 0) || (!(a0_7 == 0) || (a0_8 || (!(a0_9.toList == ([] : List UInt8))))))) = true := c26
        have c26b1 : (!(a0_5 == 0) || (!(a0_6 == 0) || (!(a0_7 == 0) || (a0_8 || !(a0_9.toList.isEmpty))))) = true := by simpa using c26
        clear c26
        have H' := aS H
        clear H
        have hcz27 := cK11 BK412
        go_wp2
        go_meet
        case rel => exact ⟨_, (true), (by first | rfl | (simp; done) | (simp [*]; done) | (simp; exact (by decide : ∀ a_ b_ : Bool, (a_ == b_) = (!a_ != b_)) _ _)), H', ⟨by have := HJ1.out; first | omega | exact Nat.le_refl _⟩, ⟨by (with_reducible repeat (first | refine blk_drewN ?_ _ | refine blk_drew ?_ | refine blk_alloc ?_ _)); exact BK412.out⟩, ⟨bel⟩⟩
       ·
        rw [if_neg c26] at H
        have c26b0 : (!(a0_5 == 0) || (!(a0_6 == 0) || (!(a0_7 == 0) || (a0_8 || (!(a0_9.toList == ([] : List UInt8))))))) = false := by simpa using c26
        have c26b1 : (!(a0_5 == 0) || (!(a0_6 == 0) || (!(a0_7 == 0) || (a0_8 || !(a0_9.toList.isEmpty))))) = false := by simpa using c26
        clear c26
        by_cases c28 : a0_0 = 4
        ·
         rw [if_pos c28] at H
         obtain ⟨c28b0, c28b1⟩ := eqT c28
         clear c28
         have H' := aS H
         clear H
         have hcz29 := cK11 BK412
         go_wp2
         go_meet
         case rel => exact ⟨_, (false), (by first | rfl | (simp; done) | (simp [*]; done) | (simp; exact (by decide : ∀ a_ b_ : Bool, (a_ == b_) = (!a_ != b_)) _ _)), H', ⟨by have := HJ1.out; first | omega | exact Nat.le_refl _⟩, ⟨by (with_reducible repeat (first | refine blk_drewN ?_ _ | refine blk_drew ?_ | refine blk_alloc ?_ _)); exact BK412.out⟩, ⟨bel⟩⟩
        ·
         rw [if_neg c28] at H
         obtain ⟨c28b0, c28b1⟩ := eqF c28
         have H' := aS H
         clear H
         have hcz30 := cK11 BK412
         go_wp2
         go_meet
         case rel => exact ⟨_, ((a0_4 != 0)), (by first | rfl | (simp; done) | (simp [*]; done) | (simp; exact (by decide : ∀ a_ b_ : Bool, (a_ == b_) = (!a_ != b_)) _ _)), H', ⟨by have := HJ1.out; first | omega | exact Nat.le_refl _⟩, ⟨by (with_reducible repeat (first | refine blk_drewN ?_ _ | refine blk_drew ?_ | refine blk_alloc ?_ _)); exact BK412.out⟩, ⟨bel⟩⟩
     ·
      rw [if_neg c21] at H
      obtain ⟨c21b0, c21b1⟩ := eqF c21
      (first | rw [c21b0] | (simp only [i64_w, i32_w]; rw [c21b0]) | skip)
      by_cases c31 : (l0_10.length : Int) > 0
      ·
       rw [if_pos c31] at H
       have c31b0 : decide (0 < (l0_10.length : Int)) = true := decide_eq_true c31
       have c31b1 : decide (0 < l0_10.length) = true := decide_eq_true (by omega)
       clear c31
       have H' := aS H
       clear H
       have hcz32 := cK11 BK412
       go_wp2
       go_meet
       case rel => exact ⟨_, (true), (by first | rfl | (simp; done) | (simp [*]; done) | (simp; exact (by decide : ∀ a_ b_ : Bool, (a_ == b_) = (!a_ != b_)) _ _)), H', ⟨by have := HJ1.out; first | omega | exact Nat.le_refl _⟩, ⟨by (with_reducible repeat (first | refine blk_drewN ?_ _ | refine blk_drew ?_ | refine blk_alloc ?_ _)); exact BK412.out⟩, ⟨bel⟩⟩
      ·
       rw [if_neg c31] at H
       have c31b0 : decide (0 < (l0_10.length : Int)) = false := decide_eq_false c31
       have c31b1 : decide (0 < l0_10.length) = false := decide_eq_false (by omega)
       clear c31
       by_cases c33 : a0_0 = 3
       ·
        rw [if_pos c33] at H
        obtain ⟨c33b0, c33b1⟩ := eqT c33
        clear c33
        by_cases c34 : a0_0 = 4
        ·
         rw [if_pos c34] at H
         obtain ⟨c34b0, c34b1⟩ := eqT c34
         clear c34
         have H' := aS H
         clear H
         have hcz35 := cK11 BK412
         go_wp2
         go_meet
         case rel => exact ⟨_, (false), (by first | rfl | (simp; done) | (simp [*]; done) | (simp; exact (by decide : ∀ a_ b_ : Bool, (a_ == b_) = (!a_ != b_)) _ _)), H', ⟨by have := HJ1.out; first | omega | exact Nat.le_refl _⟩, ⟨by (with_reducible repeat (first | refine blk_drewN ?_ _ | refine blk_drew ?_ | refine blk_alloc ?_ _)); exact BK412.out⟩, ⟨bel⟩⟩
        ·
         rw [if_neg c34] at H
         obtain ⟨c34b0, c34b1⟩ := eqF c34
         have H' := aS H
         clear H
         have hcz36 := cK11 BK412
         go_wp2
         go_meet
         case rel => exact ⟨_, ((a0_4 != 0)), (by first | rfl | (simp; done) | (simp [*]; done) | (simp; exact (by decide : ∀ a_ b_ : Bool, (a_ == b_) = (!a_ != b_)) _ _)), H', ⟨by have := HJ1.out; first | omega | exact Nat.le_refl _⟩, ⟨by (with_reducible repeat (first | refine blk_drewN ?_ _ | refine blk_drew ?_ | refine blk_alloc ?_ _)); exact BK412.out⟩, ⟨bel⟩⟩
       ·
        rw [if_neg c33] at H
        obtain ⟨c33b0, c33b1⟩ := eqF c33
        by_cases c37 : (!(a0_5 == 0) || (!(a0_6 == 0) || (!(a0_7 == 0) || (a0_8 || (!(a0_9.toList == ([] : List UInt8))))))) = true
        ·
         rw [if_pos c37] at H
         have c37b0 : (!(a0_5 == 0) || (!(a0_6 == 0) || (!(a0_7 == 0) || (a0_8 || (!(a0_9.toList == ([] : List UInt8))))))) = true := c37
         have c37b1 : (!(a0_5 == 0) || (!(a0_6 == 0) || (!(a0_7 == 0) || (a0_8 || !(a0_9.toList.isEmpty))))) = true := by simpa using c37
         clear c37
         have H' := aS H
         clear H
         have hcz38 := cK11 BK412
         go_wp2
         go_meet
         case rel => exact ⟨_, (true), (by first | rfl | (simp; done) | (simp [*]; done) | (simp; exact (by decide : ∀ a_ b_ : Bool, (a_ == b_) = (!a_ != b_)) _ _)), H', ⟨by have := HJ1.out; first | omega | exact Nat.le_refl _⟩, ⟨by (with_reducible repeat (first | refine blk_drewN ?_ _ | refine blk_drew ?_ | refine blk_alloc ?_ _)); exact BK412.out⟩, ⟨bel⟩⟩
        ·
         rw [if_neg c37] at H
         have c37b0 : (!(a0_5 == 0) || (!(a0_6 == 0) || (!(a0_7 == 0) || (a0_8 || (!(a0_9.toList == ([] : List UInt8))))))) = false := by simpa using c37
         have c37b1 : (!(a0_5 == 0) || (!(a0_6 == 0) || (!(a0_7 == 0) || (a0_8 || !(a0_9.toList.isEmpty))))) = false := by simpa using c37
         clear c37
         by_cases c39 : a0_0 = 4
         ·
          rw [if_pos c39] at H
          obtain ⟨c39b0, c39b1⟩ := eqT c39
          clear c39
          have H' := aS H
          clear H
          have hcz40 := cK11 BK412
          go_wp2
          go_meet
          case rel => exact ⟨_, (false), (by first | rfl | (simp; done) | (simp [*]; done) | (simp; exact (by decide : ∀ a_ b_ : Bool, (a_ == b_) = (!a_ != b_)) _ _)), H', ⟨by have := HJ1.out; first | omega | exact Nat.le_refl _⟩, ⟨by (with_reducible repeat (first | refine blk_drewN ?_ _ | refine blk_drew ?_ | refine blk_alloc ?_ _)); exact BK412.out⟩, ⟨bel⟩⟩
         ·
          rw [if_neg c39] at H
          obtain ⟨c39b0, c39b1⟩ := eqF c39
          have H' := aS H
          clear H
          have hcz41 := cK11 BK412
          go_wp2
          go_meet
          case rel => exact ⟨_, ((a0_4 != 0)), (by first | rfl | (simp; done) | (simp [*]; done) | (simp; exact (by decide : ∀ a_ b_ : Bool, (a_ == b_) = (!a_ != b_)) _ _)), H', ⟨by have := HJ1.out; first | omega | exact Nat.le_refl _⟩, ⟨by (with_reducible repeat (first | refine blk_drewN ?_ _ | refine blk_drew ?_ | refine blk_alloc ?_ _)); exact BK412.out⟩, ⟨bel⟩⟩
    case rest =>
     clear HC20; (try clear c1); (try clear c2); (try clear p2); (try clear c3); (try clear c8); (try clear c8b0); (try clear c10); (try clear c10b0); (try clear c11); (try clear c12); (try clear c12b0); (try clear c14); (try clear c14b0); (try clear c16); (try clear c16b0); (try clear c19); (try clear c21); (try clear c21b0); (try clear c21b1); (try clear c22); (try clear c22b0); (try clear c22b1); (try clear c23); (try clear c23b0); (try clear c23b1); (try clear c26); (try clear c26b0); (try clear c26b1); (try clear c28); (try clear c28b0); (try clear c28b1); (try clear c31); (try clear c31b0); (try clear c31b1); (try clear c33); (try clear c33b0); (try clear c33b1); (try clear c34); (try clear c34b0); (try clear c34b1); (try clear c37); (try clear c37b0); (try clear c37b1); (try clear c39); (try clear c39b0); (try clear c39b1); (try clear hcz11); (try clear hcz13); (try clear hcz15); (try clear hcz17); (try clear hcz18); (try clear hcz24); (try clear hcz25); (try clear hcz27); (try clear hcz29); (try clear hcz30); (try clear hcz32); (try clear hcz35); (try clear hcz36); (try clear hcz38); (try clear hcz40); (try clear hcz41); (try clear hcz5); (try clear hcz7); (try clear hcz9)
     obtain ⟨kq, x71_19, rfl, HA, HJ19, BK412, HB⟩ := hcut
     cases kq with
     | zero => exact absurd HA.out (by simp [shardlogref19_Right.j1])
     | succ kj19 =>
      have H := HA.out; clear HA
      simp only [shardlogref19_Right.j1] at H
      by_cases c42 : x71_19 = true
      ·
       subst c42
       have H1 : (some false) = some r := by rw [if_pos rfl] at H; exact H
       clear H; have H := H1; clear H1
       obtain rfl := Option.some.inj H
       go_wp2
       go_ret
       exact ⟨rf3, bel⟩
      ·
       replace c42 := Bool.eq_false_iff.mpr c42
       subst c42
       have H1 : (shardlogref19_Right.l0 kj19 0 a0_0 a0_1 a0_2 a0_3 a0_4 a0_5 a0_6 a0_7 a0_8 a0_9 l0_10) = some r := by rw [if_neg (show ¬ (false = true) by decide)] at H; exact H
       clear H; have H := H1; clear H1
       have H' := aS H
       clear H
       go_wp2
       go_loopg [3] kj19 (fun kq v3 w' => ∃ (x3_3 : Int), v3 = .int .i64 x3_3 ∧ Aside0 (shardlogref19_Right.l0 kq x3_3 a0_0 a0_1 a0_2 a0_3 a0_4 a0_5 a0_6 a0_7 a0_8 a0_9 l0_10 = some r) ∧ Aside0 (kq ≤ kj19) ∧ Aside0 (w'.heap[gb412]? = some (.cells #[.int .i64 a0_0, .int .i64 a0_1, .int .i64 a0_2, .int .i64 a0_3, .int .i64 a0_4, .int .i64 a0_5, .int .i64 a0_6, .int .i64 a0_7, .bool a0_8, .string a0_9, (.slice A0_10 l0_10.length c0_10)] 26 (0, 0))) ∧ Aside0 (Below w.heap.size w w'))
       case atStart => exact ⟨(0), (by first | rfl | (simp; done) | (simp [*]; done) | (simp; exact (by decide : ∀ a_ b_ : Bool, (a_ == b_) = (!a_ != b_)) _ _)), H', ⟨Nat.le_refl _⟩, ⟨by (with_reducible repeat (first | refine blk_drewN ?_ _ | refine blk_drew ?_ | refine blk_alloc ?_ _)); exact BK412.out⟩, ⟨bel⟩⟩
       case round =>
        clear H'; (try clear c1); (try clear c2); (try clear p2); (try clear c3); (try clear c4); (try clear c8); (try clear c8b0); (try clear c10); (try clear c10b0); (try clear c11); (try clear c12); (try clear c12b0); (try clear c14); (try clear c14b0); (try clear c16); (try clear c16b0); (try clear c19); (try clear c21); (try clear c21b0); (try clear c21b1); (try clear c22); (try clear c22b0); (try clear c22b1); (try clear c23); (try clear c23b0); (try clear c23b1); (try clear c26); (try clear c26b0); (try clear c26b1); (try clear c28); (try clear c28b0); (try clear c28b1); (try clear c31); (try clear c31b0); (try clear c31b1); (try clear c33); (try clear c33b0); (try clear c33b1); (try clear c34); (try clear c34b0); (try clear c34b1); (try clear c37); (try clear c37b0); (try clear c37b1); (try clear c39); (try clear c39b0); (try clear c39b1); (try clear c42); (try clear hcz11); (try clear hcz13); (try clear hcz15); (try clear hcz17); (try clear hcz18); (try clear hcz24); (try clear hcz25); (try clear hcz27); (try clear hcz29); (try clear hcz30); (try clear hcz32); (try clear hcz35); (try clear hcz36); (try clear hcz38); (try clear hcz40); (try clear hcz41); (try clear hcz5); (try clear hcz7); (try clear hcz9)
        obtain ⟨x3_3, rfl, HA, HK3, BK412, HB⟩ := hrel
        cases gk with
        | zero => exact absurd HA.out (by simp [shardlogref19_Right.l0])
        | succ k3 =>
         have H := HA.out; clear HA
         simp only [shardlogref19_Right.l0] at H
         by_cases c43 : x3_3 < (l0_10.length : Int)
         ·
          rw [if_pos c43] at H
          have c43b0 : decide (x3_3 < (l0_10.length : Int)) = true := decide_eq_true c43
          clear c43
          by_cases c44 : 0 ≤ x3_3
          ·
           rw [if_pos c44] at H
           have c44b0 : decide (0 ≤ x3_3) = true := decide_eq_true c44
           clear c44
           replace H := obm H
           obtain ⟨t414, A450, H⟩ := H
           replace H : (if t414 = true then (if ((rd_T23 l0_10 x3_3).f1) ≥ a0_3 then (some false) else (if x3_3 > 0 then (if 0 ≤ (wrap64 (x3_3 - 1)) then (if (wrap64 (x3_3 - 1)) < (l0_10.length : Int) then (if ((rd_T23 l0_10 (wrap64 (x3_3 - 1))).f0) ≥ ((rd_T23 l0_10 x3_3).f0) then (some false) else (shardlogref19_Right.l0 k3 (wrap64 (x3_3 + 1)) a0_0 a0_1 a0_2 a0_3 a0_4 a0_5 a0_6 a0_7 a0_8 a0_9 l0_10)) else (none)) else (none)) else (shardlogref19_Right.l0 k3 (wrap64 (x3_3 + 1)) a0_0 a0_1 a0_2 a0_3 a0_4 a0_5 a0_6 a0_7 a0_8 a0_9 l0_10))) else (some false)) = some r := H
           have A45 := aS A450
           clear A450
           by_cases c46 : t414 = true
           ·
            subst c46
            have H1 : (if ((rd_T23 l0_10 x3_3).f1) ≥ a0_3 then (some false) else (if x3_3 > 0 then (if 0 ≤ (wrap64 (x3_3 - 1)) then (if (wrap64 (x3_3 - 1)) < (l0_10.length : Int) then (if ((rd_T23 l0_10 (wrap64 (x3_3 - 1))).f0) ≥ ((rd_T23 l0_10 x3_3).f0) then (some false) else (shardlogref19_Right.l0 k3 (wrap64 (x3_3 + 1)) a0_0 a0_1 a0_2 a0_3 a0_4 a0_5 a0_6 a0_7 a0_8 a0_9 l0_10)) else (none)) else (none)) else (shardlogref19_Right.l0 k3 (wrap64 (x3_3 + 1)) a0_0 a0_1 a0_2 a0_3 a0_4 a0_5 a0_6 a0_7 a0_8 a0_9 l0_10))) = some r := by rw [if_pos rfl] at H; exact H
            clear H; have H := H1; clear H1
            by_cases c47 : ((rd_T23 l0_10 x3_3).f1) ≥ a0_3
            ·
             rw [if_pos c47] at H
             have c47b0 : decide (a0_3 ≤ ((rd_T23 l0_10 x3_3).f1)) = true := decide_eq_true c47
             clear c47
             obtain rfl := Option.some.inj H
             have hcz48 := cK11 BK412
             try go_wp2
             have n0_ := aS (blk_drew BK412.out)
             have n1_ := aS (bdo HB.out)
             clear BK412; clear HB
             have BK412 := n0_
             have HB := n1_
             clear n0_ n1_
             have p413 : 0 ≤ (x3_3 : Int) := odt (by first | (with_reducible assumption) | assumption)
             have q413 : x3_3 < (l0_10.length : Int) := odt (by first | (with_reducible assumption) | assumption)
             obtain ⟨ad413, e413, hx413_0, hx413_1, hx413_2, hx413_3, hx413_4⟩ := at_T23 HR0_10.out x3_3 p413 q413
             have hw413_4 := hx413_4
             have hw413_3 := hx413_3
             have hw413_2 := hx413_2
             have hw413_1 := hx413_1
             have hw413_0 := hx413_0
             cases e413
             replace hx413_0 := (HB.out.cell (wbl w _ hx413_0)).trans hx413_0
             replace hx413_1 := (HB.out.cell (wbl w _ hx413_1)).trans hx413_1
             replace hx413_2 := (HB.out.cell (wbl w _ hx413_2)).trans hx413_2
             replace hx413_3 := (HB.out.cell (wbl w _ hx413_3)).trans hx413_3
             replace hx413_4 := (HB.out.cell (wbl w _ hx413_4)).trans hx413_4
             replace p413 := eq_true p413
             replace q413 := eq_true q413
             have p415 : 0 ≤ (x3_3 : Int) := odt (by first | (with_reducible assumption) | assumption)
             have q415 : x3_3 < (l0_10.length : Int) := odt (by first | (with_reducible assumption) | assumption)
             obtain ⟨ad415, e415, hx415_0, hx415_1, hx415_2, hx415_3, hx415_4⟩ := at_T23 HR0_10.out x3_3 p415 q415
             have hw415_4 := hx415_4
             have hw415_3 := hx415_3
             have hw415_2 := hx415_2
             have hw415_1 := hx415_1
             have hw415_0 := hx415_0
             obtain rfl : ad413 = ad415 := (by injection e415)
             replace hx415_0 := (HB.out.cell (wbl w _ hx415_0)).trans hx415_0
             replace hx415_1 := (HB.out.cell (wbl w _ hx415_1)).trans hx415_1
             replace hx415_2 := (HB.out.cell (wbl w _ hx415_2)).trans hx415_2
             replace hx415_3 := (HB.out.cell (wbl w _ hx415_3)).trans hx415_3
             replace hx415_4 := (HB.out.cell (wbl w _ hx415_4)).trans hx415_4
             replace p415 := eq_true p415
             replace q415 := eq_true q415
             refine start_ (n := 38) (S := fun w' => w'.cell? ⟨gb412, 0, none⟩ = some (.int .i64 a0_0) ∧ w'.cell? ⟨gb412, 1, none⟩ = some (.int .i64 a0_1) ∧ w'.cell? ⟨gb412, 2, none⟩ = some (.int .i64 a0_2) ∧ w'.cell? ⟨gb412, 3, none⟩ = some (.int .i64 a0_3) ∧ w'.cell? ⟨gb412, 4, none⟩ = some (.int .i64 a0_4) ∧ w'.cell? ⟨gb412, 5, none⟩ = some (.int .i64 a0_5) ∧ w'.cell? ⟨gb412, 6, none⟩ = some (.int .i64 a0_6) ∧ w'.cell? ⟨gb412, 7, none⟩ = some (.int .i64 a0_7) ∧ w'.cell? ⟨gb412, 8, none⟩ = some (.bool a0_8) ∧ w'.cell? ⟨gb412, 9, none⟩ = some (.string a0_9) ∧ w'.cell? ⟨gb412, 10, none⟩ = some (.slice (some ad413) l0_10.length c0_10) ∧ w'.cell? (ad413.add ((x3_3).toNat * 5)) = some (.int .i64 ((rd_T23 l0_10 x3_3).f0)) ∧ w'.cell? ⟨(ad413.add ((x3_3).toNat * 5)).block, (ad413.add ((x3_3).toNat * 5)).off + 1, none⟩ = some (.int .i64 ((rd_T23 l0_10 x3_3).f1)) ∧ w'.cell? ⟨(ad413.add ((x3_3).toNat * 5)).block, (ad413.add ((x3_3).toNat * 5)).off + 2, none⟩ = some (.int .i64 ((rd_T23 l0_10 x3_3).f2)) ∧ w'.cell? ⟨(ad413.add ((x3_3).toNat * 5)).block, (ad413.add ((x3_3).toNat * 5)).off + 3, none⟩ = some (.bool ((rd_T23 l0_10 x3_3).f3)) ∧ w'.cell? ⟨(ad413.add ((x3_3).toNat * 5)).block, (ad413.add ((x3_3).toNat * 5)).off + 4, none⟩ = some (.string ((rd_T23 l0_10 x3_3).f4)) ∧ w'.cell? (ad413.add ((x3_3).toNat * 5)) = some (.int .i64 ((rd_T23 l0_10 x3_3).f0)) ∧ w'.cell? ⟨(ad413.add ((x3_3).toNat * 5)).block, (ad413.add ((x3_3).toNat * 5)).off + 1, none⟩ = some (.int .i64 ((rd_T23 l0_10 x3_3).f1)) ∧ w'.cell? ⟨(ad413.add ((x3_3).toNat * 5)).block, (ad413.add ((x3_3).toNat * 5)).off + 2, none⟩ = some (.int .i64 ((rd_T23 l0_10 x3_3).f2)) ∧ w'.cell? ⟨(ad413.add ((x3_3).toNat * 5)).block, (ad413.add ((x3_3).toNat * 5)).off + 3, none⟩ = some (.bool ((rd_T23 l0_10 x3_3).f3)) ∧ w'.cell? ⟨(ad413.add ((x3_3).toNat * 5)).block, (ad413.add ((x3_3).toNat * 5)).off + 4, none⟩ = some (.string ((rd_T23 l0_10 x3_3).f4))) (ds := []) #[false, false, false, false, false, false, false, false, false, false, false, false, false, false, false, false, false, false, false, false, false, false, false, false, false, false, false, false, false, false, false, false, false, false, false, false, false, false] (by kernel_rfl) rfl rfl ⟨(blk_cell BK412.out 0).trans rfl, (blk_cell BK412.out 1).trans rfl, (blk_cell BK412.out 2).trans rfl, (blk_cell BK412.out 3).trans rfl, (blk_cell BK412.out 4).trans rfl, (blk_cell BK412.out 5).trans rfl, (blk_cell BK412.out 6).trans rfl, (blk_cell BK412.out 7).trans rfl, (blk_cell BK412.out 8).trans rfl, (blk_cell BK412.out 9).trans rfl, (blk_cell BK412.out 10).trans rfl, ((HB.out.cell (wbl w _ hw413_0)).trans hw413_0), ((HB.out.cell (wbl w _ hw413_1)).trans hw413_1), ((HB.out.cell (wbl w _ hw413_2)).trans hw413_2), ((HB.out.cell (wbl w _ hw413_3)).trans hw413_3), ((HB.out.cell (wbl w _ hw413_4)).trans hw413_4), ((HB.out.cell (wbl w _ hw415_0)).trans hw415_0), ((HB.out.cell (wbl w _ hw415_1)).trans hw415_1), ((HB.out.cell (wbl w _ hw415_2)).trans hw415_2), ((HB.out.cell (wbl w _ hw415_3)).trans hw415_3), ((HB.out.cell (wbl w _ hw415_4)).trans hw415_4)⟩ (fun hHeld => ?_); refine with_tabW shardlogref19_Right.tab8 shardlogref19_Right.bits8 (fun HT_ HW_ => ?_)
             generalize wr.drew = w49 at BK412 HB hx413_0 hx413_1 hx413_2 hx413_3 hx413_4 hx415_0 hx415_1 hx415_2 hx415_3 hx415_4 hHeld ⊢
             refine along_ [(0, 79), (2, 81), (1, 80), (3, 82), (4, 83)] ?_
             iterate 5 (first | (apply pure1 HT_; (case hi => rfl); (case hN => rfl); (case hw => rfl); (case hc => kernel_rfl); (case hQ => exact fun _ _ _ h => h); (case hy => intro w'; go_simp; with_reducible rfl); (case ha => simp only [Act.put, lsa, lsz, lss, i64_w, i32_w]; rfl)) | (apply take1 HT_ HW_ hHeld; (case hi => rfl); (case hN => rfl); (case hw => rfl); (case hc => kernel_rfl); (case hQ => exact fun _ _ _ h => h); (case hy => intro w' hs_; go_simp; with_reducible rfl); (case ha => simp only [Act.put, lsa, lsz, lss, i64_w, i32_w]; rfl)))
             refine lay_ #[true, true, true, true, true, false, false, false, false, false, false, false, false, false, false, false, false, false, false, false, false, false, false, false, false, false, false, false, false, false, false, false, false, false, false, false, false, false] (by kernel_rfl) ?_
             refine one_ (i := 5) (N := some 84) #[true, true, true, true, true, true, false, false, false, false, false, false, false, false, false, false, false, false, false, false, false, false, false, false, false, false, false, false, false, false, false, false, false, false, false, false, false, false] rfl rfl (one_of HT_.out (by kernel_rfl)) (by decide) (fun K hK => ?_)
             refine goes_ Try.func26 (by kernel_rfl) rfl #[.agg #[.int .i64 ((rd_T23 l0_10 x3_3).f0), .int .i64 ((rd_T23 l0_10 x3_3).f1), .int .i64 ((rd_T23 l0_10 x3_3).f2), .bool ((rd_T23 l0_10 x3_3).f3), .string ((rd_T23 l0_10 x3_3).f4)]] (by rfl) rfl rfl agn ?_
             with_reducible refine (shardlogref17_Right.calls ((rd_T23 l0_10 x3_3).f0) ((rd_T23 l0_10 x3_3).f1) ((rd_T23 l0_10 x3_3).f2) ((rd_T23 l0_10 x3_3).f3) ((rd_T23 l0_10 x3_3).f4) true _ A45.out).mono ?_
             rintro e w50 ⟨rfl, hb⟩
             refine ⟨_, rfl, ?_⟩
             have n0_ := aS (blk_below (g := gb412) (o := .cells #[.int .i64 a0_0, .int .i64 a0_1, .int .i64 a0_2, .int .i64 a0_3, .int .i64 a0_4, .int .i64 a0_5, .int .i64 a0_6, .int .i64 a0_7, .bool a0_8, .string a0_9, .slice (some ad413) l0_10.length c0_10] 26 (0, 0)) (bkl BK412.out) hb)
             have n1_ := bstep hb
             clear BK412; clear HB
             have BK412 := n0_
             have HB := n1_
             clear n0_ n1_; (try clear hb); (try clear hb2); (try clear hk); (try clear hi)
             refine hK.out _ _ ⟨(blk_cell BK412.out 0).trans rfl, (blk_cell BK412.out 1).trans rfl, (blk_cell BK412.out 2).trans rfl, (blk_cell BK412.out 3).trans rfl, (blk_cell BK412.out 4).trans rfl, (blk_cell BK412.out 5).trans rfl, (blk_cell BK412.out 6).trans rfl, (blk_cell BK412.out 7).trans rfl, (blk_cell BK412.out 8).trans rfl, (blk_cell BK412.out 9).trans rfl, (blk_cell BK412.out 10).trans rfl, ((HB.out.cell (wbl w _ hw413_0)).trans hw413_0), ((HB.out.cell (wbl w _ hw413_1)).trans hw413_1), ((HB.out.cell (wbl w _ hw413_2)).trans hw413_2), ((HB.out.cell (wbl w _ hw413_3)).trans hw413_3), ((HB.out.cell (wbl w _ hw413_4)).trans hw413_4), ((HB.out.cell (wbl w _ hw415_0)).trans hw415_0), ((HB.out.cell (wbl w _ hw415_1)).trans hw415_1), ((HB.out.cell (wbl w _ hw415_2)).trans hw415_2), ((HB.out.cell (wbl w _ hw415_3)).trans hw415_3), ((HB.out.cell (wbl w _ hw415_4)).trans hw415_4)⟩ (fun hHeld => ?_)
             clear hK K
             refine norm_ (a' := ?_) ?_ ?_
             rotate_left
             ·
              show Act.put _ (some 84) _ = _
              simp only [Act.put, lsa, lsz, lss, i64_w, i32_w]
              rfl
             refine along_ [(6, 85), (7, 86), (8, 87), (10, 89), (14, 93), (9, 88), (11, 90), (12, 91), (13, 92), (15, 94), (16, 95), (17, 96), (18, 97), (19, 98), (20, 99), (21, 100), (22, 101), (23, 102), (24, 103), (25, 104), (26, 105), (27, 106), (28, 107), (29, 108), (30, 109), (31, 110), (32, 111), (33, 112), (34, 113), (35, 114), (36, 115), (37, 116)] ?_
             iterate 32 (first | (apply skip1 HT_; (case hi => rfl); (case hN => rfl); (case hw => rfl); (case hc => kernel_rfl); (case hQ => exact fun _ _ _ h => h); (case ha => simp only [Act.put, lsa, lsz, lss, i64_w, i32_w]; rfl)) | (apply pure1 HT_; (case hi => rfl); (case hN => rfl); (case hw => rfl); (case hc => kernel_rfl); (case hQ => exact fun _ _ _ h => h); (case hy => intro w'; go_simp; with_reducible rfl); (case ha => simp only [Act.put, lsa, lsz, lss, i64_w, i32_w]; rfl)) | (apply take1 HT_ HW_ hHeld; (case hi => rfl); (case hN => rfl); (case hw => rfl); (case hc => kernel_rfl); (case hQ => exact fun _ _ _ h => h); (case hy => intro w' hs_; go_simp; with_reducible rfl); (case ha => simp only [Act.put, lsa, lsz, lss, i64_w, i32_w]; rfl)))
             refine lay_ #[true, true, true, true, true, true, true, true, true, true, true, true, true, true, true, true, true, true, true, true, true, true, true, true, true, true, true, true, true, true, true, true, true, true, true, true, true, true] (by kernel_rfl) ?_
             refine done_ (done_of HT_.out (by kernel_rfl)) ?_
             try go_wp2
             go_ret
             exact ⟨rf3, bel⟩
            ·
             rw [if_neg c47] at H
             have c47b0 : decide (a0_3 ≤ ((rd_T23 l0_10 x3_3).f1)) = false := decide_eq_false c47
             clear c47
             by_cases c51 : x3_3 > 0
             ·
              rw [if_pos c51] at H
              have c51b0 : decide (0 < x3_3) = true := decide_eq_true c51
              clear c51
              obtain ⟨ji52, hji52⟩ : ∃ j_ : Int, (wrap64 (x3_3 - 1)) = j_ := ⟨_, rfl⟩
              replace H : (if 0 ≤ (ji52) then (if (ji52) < (l0_10.length : Int) then (if ((rd_T23 l0_10 (ji52)).f0) ≥ ((rd_T23 l0_10 x3_3).f0) then (some false) else (shardlogref19_Right.l0 k3 (wrap64 (x3_3 + 1)) a0_0 a0_1 a0_2 a0_3 a0_4 a0_5 a0_6 a0_7 a0_8 a0_9 l0_10)) else (none)) else (none)) = some r := by first | (rw [hji52] at H; exact H) | (simp only [hji52] at H ⊢; exact H)
              (try rw [hji52] at A45)
              have hji52w : (IntKind.i64.wrap (x3_3 - 1)) = ji52 := (i64_w _).trans hji52
              by_cases c53 : 0 ≤ (ji52)
              ·
               rw [if_pos c53] at H
               have c53b0 : decide (0 ≤ (ji52)) = true := decide_eq_true c53
               clear c53
               by_cases c54 : (ji52) < (l0_10.length : Int)
               ·
                rw [if_pos c54] at H
                have c54b0 : decide ((ji52) < (l0_10.length : Int)) = true := decide_eq_true c54
                clear c54
                by_cases c55 : ((rd_T23 l0_10 (ji52)).f0) ≥ ((rd_T23 l0_10 x3_3).f0)
                ·
                 rw [if_pos c55] at H
                 have c55b0 : decide (((rd_T23 l0_10 x3_3).f0) ≤ ((rd_T23 l0_10 (ji52)).f0)) = true := decide_eq_true c55
                 clear c55
                 obtain rfl := Option.some.inj H
                 have hcz56 := cK11 BK412
                 try go_wp2
                 have n0_ := aS (blk_drew BK412.out)
                 have n1_ := aS (bdo HB.out)
                 clear BK412; clear HB
                 have BK412 := n0_
                 have HB := n1_
                 clear n0_ n1_
                 have p413 : 0 ≤ (x3_3 : Int) := odt (by first | (with_reducible assumption) | assumption)
                 have q413 : x3_3 < (l0_10.length : Int) := odt (by first | (with_reducible assumption) | assumption)
                 obtain ⟨ad413, e413, hx413_0, hx413_1, hx413_2, hx413_3, hx413_4⟩ := at_T23 HR0_10.out x3_3 p413 q413
                 have hw413_4 := hx413_4
                 have hw413_3 := hx413_3
                 have hw413_2 := hx413_2
                 have hw413_1 := hx413_1
                 have hw413_0 := hx413_0
                 cases e413
                 replace hx413_0 := (HB.out.cell (wbl w _ hx413_0)).trans hx413_0
                 replace hx413_1 := (HB.out.cell (wbl w _ hx413_1)).trans hx413_1
                 replace hx413_2 := (HB.out.cell (wbl w _ hx413_2)).trans hx413_2
                 replace hx413_3 := (HB.out.cell (wbl w _ hx413_3)).trans hx413_3
                 replace hx413_4 := (HB.out.cell (wbl w _ hx413_4)).trans hx413_4
                 replace p413 := eq_true p413
                 replace q413 := eq_true q413
                 have p415 : 0 ≤ (x3_3 : Int) := odt (by first | (with_reducible assumption) | assumption)
                 have q415 : x3_3 < (l0_10.length : Int) := odt (by first | (with_reducible assumption) | assumption)
                 obtain ⟨ad415, e415, hx415_0, hx415_1, hx415_2, hx415_3, hx415_4⟩ := at_T23 HR0_10.out x3_3 p415 q415
                 have hw415_4 := hx415_4
                 have hw415_3 := hx415_3
                 have hw415_2 := hx415_2
                 have hw415_1 := hx415_1
                 have hw415_0 := hx415_0
                 obtain rfl : ad413 = ad415 := (by injection e415)
                 replace hx415_0 := (HB.out.cell (wbl w _ hx415_0)).trans hx415_0
                 replace hx415_1 := (HB.out.cell (wbl w _ hx415_1)).trans hx415_1
                 replace hx415_2 := (HB.out.cell (wbl w _ hx415_2)).trans hx415_2
                 replace hx415_3 := (HB.out.cell (wbl w _ hx415_3)).trans hx415_3
                 replace hx415_4 := (HB.out.cell (wbl w _ hx415_4)).trans hx415_4
                 replace p415 := eq_true p415
                 replace q415 := eq_true q415
                 have p416 : 0 ≤ ((ji52) : Int) := odt (by first | (with_reducible assumption) | assumption)
                 have q416 : (ji52) < (l0_10.length : Int) := odt (by first | (with_reducible assumption) | assumption)
                 obtain ⟨ad416, e416, hx416_0, hx416_1, hx416_2, hx416_3, hx416_4⟩ := at_T23 HR0_10.out (ji52) p416 q416
                 have hw416_4 := hx416_4
                 have hw416_3 := hx416_3
                 have hw416_2 := hx416_2
                 have hw416_1 := hx416_1
                 have hw416_0 := hx416_0
                 obtain rfl : ad413 = ad416 := (by injection e416)
                 replace hx416_0 := (HB.out.cell (wbl w _ hx416_0)).trans hx416_0
                 replace hx416_1 := (HB.out.cell (wbl w _ hx416_1)).trans hx416_1
                 replace hx416_2 := (HB.out.cell (wbl w _ hx416_2)).trans hx416_2
                 replace hx416_3 := (HB.out.cell (wbl w _ hx416_3)).trans hx416_3
                 replace hx416_4 := (HB.out.cell (wbl w _ hx416_4)).trans hx416_4
                 replace p416 := eq_true p416
                 replace q416 := eq_true q416
                 have p417 : 0 ≤ (x3_3 : Int) := odt (by first | (with_reducible assumption) | assumption)
                 have q417 : x3_3 < (l0_10.length : Int) := odt (by first | (with_reducible assumption) | assumption)
                 obtain ⟨ad417, e417, hx417_0, hx417_1, hx417_2, hx417_3, hx417_4⟩ := at_T23 HR0_10.out x3_3 p417 q417
                 have hw417_4 := hx417_4
                 have hw417_3 := hx417_3
                 have hw417_2 := hx417_2
                 have hw417_1 := hx417_1
                 have hw417_0 := hx417_0
                 obtain rfl : ad413 = ad417 := (by injection e417)
                 replace hx417_0 := (HB.out.cell (wbl w _ hx417_0)).trans hx417_0
                 replace hx417_1 := (HB.out.cell (wbl w _ hx417_1)).trans hx417_1
                 replace hx417_2 := (HB.out.cell (wbl w _ hx417_2)).trans hx417_2
                 replace hx417_3 := (HB.out.cell (wbl w _ hx417_3)).trans hx417_3
                 replace hx417_4 := (HB.out.cell (wbl w _ hx417_4)).trans hx417_4
                 replace p417 := eq_true p417
                 replace q417 := eq_true q417
                 refine start_ (n := 38) (S := fun w' => w'.cell? ⟨gb412, 0, none⟩ = some (.int .i64 a0_0) ∧ w'.cell? ⟨gb412, 1, none⟩ = some (.int .i64 a0_1) ∧ w'.cell? ⟨gb412, 2, none⟩ = some (.int .i64 a0_2) ∧ w'.cell? ⟨gb412, 3, none⟩ = some (.int .i64 a0_3) ∧ w'.cell? ⟨gb412, 4, none⟩ = some (.int .i64 a0_4) ∧ w'.cell? ⟨gb412, 5, none⟩ = some (.int .i64 a0_5) ∧ w'.cell? ⟨gb412, 6, none⟩ = some (.int .i64 a0_6) ∧ w'.cell? ⟨gb412, 7, none⟩ = some (.int .i64 a0_7) ∧ w'.cell? ⟨gb412, 8, none⟩ = some (.bool a0_8) ∧ w'.cell? ⟨gb412, 9, none⟩ = some (.string a0_9) ∧ w'.cell? ⟨gb412, 10, none⟩ = some (.slice (some ad413) l0_10.length c0_10) ∧ w'.cell? (ad413.add ((x3_3).toNat * 5)) = some (.int .i64 ((rd_T23 l0_10 x3_3).f0)) ∧ w'.cell? ⟨(ad413.add ((x3_3).toNat * 5)).block, (ad413.add ((x3_3).toNat * 5)).off + 1, none⟩ = some (.int .i64 ((rd_T23 l0_10 x3_3).f1)) ∧ w'.cell? ⟨(ad413.add ((x3_3).toNat * 5)).block, (ad413.add ((x3_3).toNat * 5)).off + 2, none⟩ = some (.int .i64 ((rd_T23 l0_10 x3_3).f2)) ∧ w'.cell? ⟨(ad413.add ((x3_3).toNat * 5)).block, (ad413.add ((x3_3).toNat * 5)).off + 3, none⟩ = some (.bool ((rd_T23 l0_10 x3_3).f3)) ∧ w'.cell? ⟨(ad413.add ((x3_3).toNat * 5)).block, (ad413.add ((x3_3).toNat * 5)).off + 4, none⟩ = some (.string ((rd_T23 l0_10 x3_3).f4)) ∧ w'.cell? (ad413.add ((x3_3).toNat * 5)) = some (.int .i64 ((rd_T23 l0_10 x3_3).f0)) ∧ w'.cell? ⟨(ad413.add ((x3_3).toNat * 5)).block, (ad413.add ((x3_3).toNat * 5)).off + 1, none⟩ = some (.int .i64 ((rd_T23 l0_10 x3_3).f1)) ∧ w'.cell? ⟨(ad413.add ((x3_3).toNat * 5)).block, (ad413.add ((x3_3).toNat * 5)).off + 2, none⟩ = some (.int .i64 ((rd_T23 l0_10 x3_3).f2)) ∧ w'.cell? ⟨(ad413.add ((x3_3).toNat * 5)).block, (ad413.add ((x3_3).toNat * 5)).off + 3, none⟩ = some (.bool ((rd_T23 l0_10 x3_3).f3)) ∧ w'.cell? ⟨(ad413.add ((x3_3).toNat * 5)).block, (ad413.add ((x3_3).toNat * 5)).off + 4, none⟩ = some (.string ((rd_T23 l0_10 x3_3).f4)) ∧ w'.cell? (ad413.add (((ji52)).toNat * 5)) = some (.int .i64 ((rd_T23 l0_10 (ji52)).f0)) ∧ w'.cell? ⟨(ad413.add (((ji52)).toNat * 5)).block, (ad413.add (((ji52)).toNat * 5)).off + 1, none⟩ = some (.int .i64 ((rd_T23 l0_10 (ji52)).f1)) ∧ w'.cell? ⟨(ad413.add (((ji52)).toNat * 5)).block, (ad413.add (((ji52)).toNat * 5)).off + 2, none⟩ = some (.int .i64 ((rd_T23 l0_10 (ji52)).f2)) ∧ w'.cell? ⟨(ad413.add (((ji52)).toNat * 5)).block, (ad413.add (((ji52)).toNat * 5)).off + 3, none⟩ = some (.bool ((rd_T23 l0_10 (ji52)).f3)) ∧ w'.cell? ⟨(ad413.add (((ji52)).toNat * 5)).block, (ad413.add (((ji52)).toNat * 5)).off + 4, none⟩ = some (.string ((rd_T23 l0_10 (ji52)).f4)) ∧ w'.cell? (ad413.add ((x3_3).toNat * 5)) = some (.int .i64 ((rd_T23 l0_10 x3_3).f0)) ∧ w'.cell? ⟨(ad413.add ((x3_3).toNat * 5)).block, (ad413.add ((x3_3).toNat * 5)).off + 1, none⟩ = some (.int .i64 ((rd_T23 l0_10 x3_3).f1)) ∧ w'.cell? ⟨(ad413.add ((x3_3).toNat * 5)).block, (ad413.add ((x3_3).toNat * 5)).off + 2, none⟩ = some (.int .i64 ((rd_T23 l0_10 x3_3).f2)) ∧ w'.cell? ⟨(ad413.add ((x3_3).toNat * 5)).block, (ad413.add ((x3_3).toNat * 5)).off + 3, none⟩ = some (.bool ((rd_T23 l0_10 x3_3).f3)) ∧ w'.cell? ⟨(ad413.add ((x3_3).toNat * 5)).block, (ad413.add ((x3_3).toNat * 5)).off + 4, none⟩ = some (.string ((rd_T23 l0_10 x3_3).f4))) (ds := []) #[false, false, false, false, false, false, false, false, false, false, false, false, false, false, false, false, false, false, false, false, false, false, false, false, false, false, false, false, false, false, false, false, false, false, false, false, false, false] (by kernel_rfl) rfl rfl ⟨(blk_cell BK412.out 0).trans rfl, (blk_cell BK412.out 1).trans rfl, (blk_cell BK412.out 2).trans rfl, (blk_cell BK412.out 3).trans rfl, (blk_cell BK412.out 4).trans rfl, (blk_cell BK412.out 5).trans rfl, (blk_cell BK412.out 6).trans rfl, (blk_cell BK412.out 7).trans rfl, (blk_cell BK412.out 8).trans rfl, (blk_cell BK412.out 9).trans rfl, (blk_cell BK412.out 10).trans rfl, ((HB.out.cell (wbl w _ hw413_0)).trans hw413_0), ((HB.out.cell (wbl w _ hw413_1)).trans hw413_1), ((HB.out.cell (wbl w _ hw413_2)).trans hw413_2), ((HB.out.cell (wbl w _ hw413_3)).trans hw413_3), ((HB.out.cell (wbl w _ hw413_4)).trans hw413_4), ((HB.out.cell (wbl w _ hw415_0)).trans hw415_0), ((HB.out.cell (wbl w _ hw415_1)).trans hw415_1), ((HB.out.cell (wbl w _ hw415_2)).trans hw415_2), ((HB.out.cell (wbl w _ hw415_3)).trans hw415_3), ((HB.out.cell (wbl w _ hw415_4)).trans hw415_4), ((HB.out.cell (wbl w _ hw416_0)).trans hw416_0), ((HB.out.cell (wbl w _ hw416_1)).trans hw416_1), ((HB.out.cell (wbl w _ hw416_2)).trans hw416_2), ((HB.out.cell (wbl w _ hw416_3)).trans hw416_3), ((HB.out.cell (wbl w _ hw416_4)).trans hw416_4), ((HB.out.cell (wbl w _ hw417_0)).trans hw417_0), ((HB.out.cell (wbl w _ hw417_1)).trans hw417_1), ((HB.out.cell (wbl w _ hw417_2)).trans hw417_2), ((HB.out.cell (wbl w _ hw417_3)).trans hw417_3), ((HB.out.cell (wbl w _ hw417_4)).trans hw417_4)⟩ (fun hHeld => ?_); refine with_tabW shardlogref19_Right.tab8 shardlogref19_Right.bits8 (fun HT_ HW_ => ?_)
                 generalize wr.drew = w57 at BK412 HB hx413_0 hx413_1 hx413_2 hx413_3 hx413_4 hx415_0 hx415_1 hx415_2 hx415_3 hx415_4 hx416_0 hx416_1 hx416_2 hx416_3 hx416_4 hx417_0 hx417_1 hx417_2 hx417_3 hx417_4 hHeld ⊢
                 refine along_ [(0, 79), (2, 81), (1, 80), (3, 82), (4, 83)] ?_
                 iterate 5 (first | (apply pure1 HT_; (case hi => rfl); (case hN => rfl); (case hw => rfl); (case hc => kernel_rfl); (case hQ => exact fun _ _ _ h => h); (case hy => intro w'; go_simp; with_reducible rfl); (case ha => simp only [Act.put, lsa, lsz, lss, i64_w, i32_w]; rfl)) | (apply take1 HT_ HW_ hHeld; (case hi => rfl); (case hN => rfl); (case hw => rfl); (case hc => kernel_rfl); (case hQ => exact fun _ _ _ h => h); (case hy => intro w' hs_; go_simp; with_reducible rfl); (case ha => simp only [Act.put, lsa, lsz, lss, i64_w, i32_w]; rfl)))
                 refine lay_ #[true, true, true, true, true, false, false, false, false, false, false, false, false, false, false, false, false, false, false, false, false, false, false, false, false, false, false, false, false, false, false, false, false, false, false, false, false, false] (by kernel_rfl) ?_
                 refine one_ (i := 5) (N := some 84) #[true, true, true, true, true, true, false, false, false, false, false, false, false, false, false, false, false, false, false, false, false, false, false, false, false, false, false, false, false, false, false, false, false, false, false, false, false, false] rfl rfl (one_of HT_.out (by kernel_rfl)) (by decide) (fun K hK => ?_)
                 refine goes_ Try.func26 (by kernel_rfl) rfl #[.agg #[.int .i64 ((rd_T23 l0_10 x3_3).f0), .int .i64 ((rd_T23 l0_10 x3_3).f1), .int .i64 ((rd_T23 l0_10 x3_3).f2), .bool ((rd_T23 l0_10 x3_3).f3), .string ((rd_T23 l0_10 x3_3).f4)]] (by rfl) rfl rfl agn ?_
                 with_reducible refine (shardlogref17_Right.calls ((rd_T23 l0_10 x3_3).f0) ((rd_T23 l0_10 x3_3).f1) ((rd_T23 l0_10 x3_3).f2) ((rd_T23 l0_10 x3_3).f3) ((rd_T23 l0_10 x3_3).f4) true _ A45.out).mono ?_
                 rintro e w58 ⟨rfl, hb⟩
                 refine ⟨_, rfl, ?_⟩
                 have n0_ := aS (blk_below (g := gb412) (o := .cells #[.int .i64 a0_0, .int .i64 a0_1, .int .i64 a0_2, .int .i64 a0_3, .int .i64 a0_4, .int .i64 a0_5, .int .i64 a0_6, .int .i64 a0_7, .bool a0_8, .string a0_9, .slice (some ad413) l0_10.length c0_10] 26 (0, 0)) (bkl BK412.out) hb)
                 have n1_ := bstep hb
                 clear BK412; clear HB
                 have BK412 := n0_
                 have HB := n1_
                 clear n0_ n1_; (try clear hb); (try clear hb2); (try clear hk); (try clear hi)
                 refine hK.out _ _ ⟨(blk_cell BK412.out 0).trans rfl, (blk_cell BK412.out 1).trans rfl, (blk_cell BK412.out 2).trans rfl, (blk_cell BK412.out 3).trans rfl, (blk_cell BK412.out 4).trans rfl, (blk_cell BK412.out 5).trans rfl, (blk_cell BK412.out 6).trans rfl, (blk_cell BK412.out 7).trans rfl, (blk_cell BK412.out 8).trans rfl, (blk_cell BK412.out 9).trans rfl, (blk_cell BK412.out 10).trans rfl, ((HB.out.cell (wbl w _ hw413_0)).trans hw413_0), ((HB.out.cell (wbl w _ hw413_1)).trans hw413_1), ((HB.out.cell (wbl w _ hw413_2)).trans hw413_2), ((HB.out.cell (wbl w _ hw413_3)).trans hw413_3), ((HB.out.cell (wbl w _ hw413_4)).trans hw413_4), ((HB.out.cell (wbl w _ hw415_0)).trans hw415_0), ((HB.out.cell (wbl w _ hw415_1)).trans hw415_1), ((HB.out.cell (wbl w _ hw415_2)).trans hw415_2), ((HB.out.cell (wbl w _ hw415_3)).trans hw415_3), ((HB.out.cell (wbl w _ hw415_4)).trans hw415_4), ((HB.out.cell (wbl w _ hw416_0)).trans hw416_0), ((HB.out.cell (wbl w _ hw416_1)).trans hw416_1), ((HB.out.cell (wbl w _ hw416_2)).trans hw416_2), ((HB.out.cell (wbl w _ hw416_3)).trans hw416_3), ((HB.out.cell (wbl w _ hw416_4)).trans hw416_4), ((HB.out.cell (wbl w _ hw417_0)).trans hw417_0), ((HB.out.cell (wbl w _ hw417_1)).trans hw417_1), ((HB.out.cell (wbl w _ hw417_2)).trans hw417_2), ((HB.out.cell (wbl w _ hw417_3)).trans hw417_3), ((HB.out.cell (wbl w _ hw417_4)).trans hw417_4)⟩ (fun hHeld => ?_)
                 clear hK K
                 refine norm_ (a' := ?_) ?_ ?_
                 rotate_left
                 ·
                  show Act.put _ (some 84) _ = _
                  simp only [Act.put, lsa, lsz, lss, i64_w, i32_w]
                  rfl
                 refine along_ [(6, 85), (7, 86), (8, 87), (10, 89), (14, 93), (9, 88), (11, 90), (12, 91), (13, 92), (15, 94), (16, 95), (17, 96), (18, 97), (19, 98), (20, 99), (21, 100), (22, 101), (24, 103), (25, 104), (29, 108), (31, 110), (23, 102), (26, 105), (27, 106), (28, 107), (30, 109), (32, 111), (33, 112), (34, 113), (35, 114), (36, 115), (37, 116)] ?_
                 iterate 32 (first | (apply pure1 HT_; (case hi => rfl); (case hN => rfl); (case hw => rfl); (case hc => kernel_rfl); (case hQ => exact fun _ _ _ h => h); (case hy => intro w'; go_simp; with_reducible rfl); (case ha => simp only [Act.put, lsa, lsz, lss, i64_w, i32_w]; rfl)) | (apply take1 HT_ HW_ hHeld; (case hi => rfl); (case hN => rfl); (case hw => rfl); (case hc => kernel_rfl); (case hQ => exact fun _ _ _ h => h); (case hy => intro w' hs_; go_simp; with_reducible rfl); (case ha => simp only [Act.put, lsa, lsz, lss, i64_w, i32_w]; rfl)))
                 refine lay_ #[true, true, true, true, true, true, true, true, true, true, true, true, true, true, true, true, true, true, true, true, true, true, true, true, true, true, true, true, true, true, true, true, true, true, true, true, true, true] (by kernel_rfl) ?_
                 refine done_ (done_of HT_.out (by kernel_rfl)) ?_
                 try go_wp2
                 go_ret
                 exact ⟨by first | rfl | (simp [errW_none, errW_some] <;> rfl) | (simp only [← hji52]; first | rfl | (simp [errW_none, errW_some] <;> rfl)) | (simp [*, errW_none, errW_some] <;> rfl), bel⟩
                ·
                 rw [if_neg c55] at H
                 have c55b0 : decide (((rd_T23 l0_10 x3_3).f0) ≤ ((rd_T23 l0_10 (ji52)).f0)) = false := decide_eq_false c55
                 clear c55
                 have H' := aS H
                 clear H
                 have hcz59 := cK11 BK412
                 try go_wp2
                 have n0_ := aS (blk_drew BK412.out)
                 have n1_ := aS (bdo HB.out)
                 clear BK412; clear HB
                 have BK412 := n0_
                 have HB := n1_
                 clear n0_ n1_
                 have p413 : 0 ≤ (x3_3 : Int) := odt (by first | (with_reducible assumption) | assumption)
                 have q413 : x3_3 < (l0_10.length : Int) := odt (by first | (with_reducible assumption) | assumption)
                 obtain ⟨ad413, e413, hx413_0, hx413_1, hx413_2, hx413_3, hx413_4⟩ := at_T23 HR0_10.out x3_3 p413 q413
                 have hw413_4 := hx413_4
                 have hw413_3 := hx413_3
                 have hw413_2 := hx413_2
                 have hw413_1 := hx413_1
                 have hw413_0 := hx413_0
                 cases e413
                 replace hx413_0 := (HB.out.cell (wbl w _ hx413_0)).trans hx413_0
                 replace hx413_1 := (HB.out.cell (wbl w _ hx413_1)).trans hx413_1
                 replace hx413_2 := (HB.out.cell (wbl w _ hx413_2)).trans hx413_2
                 replace hx413_3 := (HB.out.cell (wbl w _ hx413_3)).trans hx413_3
                 replace hx413_4 := (HB.out.cell (wbl w _ hx413_4)).trans hx413_4
                 replace p413 := eq_true p413
                 replace q413 := eq_true q413
                 have p415 : 0 ≤ (x3_3 : Int) := odt (by first | (with_reducible assumption) | assumption)
                 have q415 : x3_3 < (l0_10.length : Int) := odt (by first | (with_reducible assumption) | assumption)
                 obtain ⟨ad415, e415, hx415_0, hx415_1, hx415_2, hx415_3, hx415_4⟩ := at_T23 HR0_10.out x3_3 p415 q415
                 have hw415_4 := hx415_4
                 have hw415_3 := hx415_3
                 have hw415_2 := hx415_2
                 have hw415_1 := hx415_1
                 have hw415_0 := hx415_0
                 obtain rfl : ad413 = ad415 := (by injection e415)
                 replace hx415_0 := (HB.out.cell (wbl w _ hx415_0)).trans hx415_0
                 replace hx415_1 := (HB.out.cell (wbl w _ hx415_1)).trans hx415_1
                 replace hx415_2 := (HB.out.cell (wbl w _ hx415_2)).trans hx415_2
                 replace hx415_3 := (HB.out.cell (wbl w _ hx415_3)).trans hx415_3
                 replace hx415_4 := (HB.out.cell (wbl w _ hx415_4)).trans hx415_4
                 replace p415 := eq_true p415
                 replace q415 := eq_true q415
                 have p416 : 0 ≤ ((ji52) : Int) := odt (by first | (with_reducible assumption) | assumption)
                 have q416 : (ji52) < (l0_10.length : Int) := odt (by first | (with_reducible assumption) | assumption)
                 obtain ⟨ad416, e416, hx416_0, hx416_1, hx416_2, hx416_3, hx416_4⟩ := at_T23 HR0_10.out (ji52) p416 q416
                 have hw416_4 := hx416_4
                 have hw416_3 := hx416_3
                 have hw416_2 := hx416_2
                 have hw416_1 := hx416_1
                 have hw416_0 := hx416_0
                 obtain rfl : ad413 = ad416 := (by injection e416)
                 replace hx416_0 := (HB.out.cell (wbl w _ hx416_0)).trans hx416_0
                 replace hx416_1 := (HB.out.cell (wbl w _ hx416_1)).trans hx416_1
                 replace hx416_2 := (HB.out.cell (wbl w _ hx416_2)).trans hx416_2
                 replace hx416_3 := (HB.out.cell (wbl w _ hx416_3)).trans hx416_3
                 replace hx416_4 := (HB.out.cell (wbl w _ hx416_4)).trans hx416_4
                 replace p416 := eq_true p416
                 replace q416 := eq_true q416
                 have p417 : 0 ≤ (x3_3 : Int) := odt (by first | (with_reducible assumption) | assumption)
                 have q417 : x3_3 < (l0_10.length : Int) := odt (by first | (with_reducible assumption) | assumption)
                 obtain ⟨ad417, e417, hx417_0, hx417_1, hx417_2, hx417_3, hx417_4⟩ := at_T23 HR0_10.out x3_3 p417 q417
                 have hw417_4 := hx417_4
                 have hw417_3 := hx417_3
                 have hw417_2 := hx417_2
                 have hw417_1 := hx417_1
                 have hw417_0 := hx417_0
                 obtain rfl : ad413 = ad417 := (by injection e417)
                 replace hx417_0 := (HB.out.cell (wbl w _ hx417_0)).trans hx417_0
                 replace hx417_1 := (HB.out.cell (wbl w _ hx417_1)).trans hx417_1
                 replace hx417_2 := (HB.out.cell (wbl w _ hx417_2)).trans hx417_2
                 replace hx417_3 := (HB.out.cell (wbl w _ hx417_3)).trans hx417_3
                 replace hx417_4 := (HB.out.cell (wbl w _ hx417_4)).trans hx417_4
                 replace p417 := eq_true p417
                 replace q417 := eq_true q417
                 refine start_ (n := 38) (S := fun w' => w'.cell? ⟨gb412, 0, none⟩ = some (.int .i64 a0_0) ∧ w'.cell? ⟨gb412, 1, none⟩ = some (.int .i64 a0_1) ∧ w'.cell? ⟨gb412, 2, none⟩ = some (.int .i64 a0_2) ∧ w'.cell? ⟨gb412, 3, none⟩ = some (.int .i64 a0_3) ∧ w'.cell? ⟨gb412, 4, none⟩ = some (.int .i64 a0_4) ∧ w'.cell? ⟨gb412, 5, none⟩ = some (.int .i64 a0_5) ∧ w'.cell? ⟨gb412, 6, none⟩ = some (.int .i64 a0_6) ∧ w'.cell? ⟨gb412, 7, none⟩ = some (.int .i64 a0_7) ∧ w'.cell? ⟨gb412, 8, none⟩ = some (.bool a0_8) ∧ w'.cell? ⟨gb412, 9, none⟩ = some (.string a0_9) ∧ w'.cell? ⟨gb412, 10, none⟩ = some (.slice (some ad413) l0_10.length c0_10) ∧ w'.cell? (ad413.add ((x3_3).toNat * 5)) = some (.int .i64 ((rd_T23 l0_10 x3_3).f0)) ∧ w'.cell? ⟨(ad413.add ((x3_3).toNat * 5)).block, (ad413.add ((x3_3).toNat * 5)).off + 1, none⟩ = some (.int .i64 ((rd_T23 l0_10 x3_3).f1)) ∧ w'.cell? ⟨(ad413.add ((x3_3).toNat * 5)).block, (ad413.add ((x3_3).toNat * 5)).off + 2, none⟩ = some (.int .i64 ((rd_T23 l0_10 x3_3).f2)) ∧ w'.cell? ⟨(ad413.add ((x3_3).toNat * 5)).block, (ad413.add ((x3_3).toNat * 5)).off + 3, none⟩ = some (.bool ((rd_T23 l0_10 x3_3).f3)) ∧ w'.cell? ⟨(ad413.add ((x3_3).toNat * 5)).block, (ad413.add ((x3_3).toNat * 5)).off + 4, none⟩ = some (.string ((rd_T23 l0_10 x3_3).f4)) ∧ w'.cell? (ad413.add ((x3_3).toNat * 5)) = some (.int .i64 ((rd_T23 l0_10 x3_3).f0)) ∧ w'.cell? ⟨(ad413.add ((x3_3).toNat * 5)).block, (ad413.add ((x3_3).toNat * 5)).off + 1, none⟩ = some (.int .i64 ((rd_T23 l0_10 x3_3).f1)) ∧ w'.cell? ⟨(ad413.add ((x3_3).toNat * 5)).block, (ad413.add ((x3_3).toNat * 5)).off + 2, none⟩ = some (.int .i64 ((rd_T23 l0_10 x3_3).f2)) ∧ w'.cell? ⟨(ad413.add ((x3_3).toNat * 5)).block, (ad413.add ((x3_3).toNat * 5)).off + 3, none⟩ = some (.bool ((rd_T23 l0_10 x3_3).f3)) ∧ w'.cell? ⟨(ad413.add ((x3_3).toNat * 5)).block, (ad413.add ((x3_3).toNat * 5)).off + 4, none⟩ = some (.string ((rd_T23 l0_10 x3_3).f4)) ∧ w'.cell? (ad413.add (((ji52)).toNat * 5)) = some (.int .i64 ((rd_T23 l0_10 (ji52)).f0)) ∧ w'.cell? ⟨(ad413.add (((ji52)).toNat * 5)).block, (ad413.add (((ji52)).toNat * 5)).off + 1, none⟩ = some (.int .i64 ((rd_T23 l0_10 (ji52)).f1)) ∧ w'.cell? ⟨(ad413.add (((ji52)).toNat * 5)).block, (ad413.add (((ji52)).toNat * 5)).off + 2, none⟩ = some (.int .i64 ((rd_T23 l0_10 (ji52)).f2)) ∧ w'.cell? ⟨(ad413.add (((ji52)).toNat * 5)).block, (ad413.add (((ji52)).toNat * 5)).off + 3, none⟩ = some (.bool ((rd_T23 l0_10 (ji52)).f3)) ∧ w'.cell? ⟨(ad413.add (((ji52)).toNat * 5)).block, (ad413.add (((ji52)).toNat * 5)).off + 4, none⟩ = some (.string ((rd_T23 l0_10 (ji52)).f4)) ∧ w'.cell? (ad413.add ((x3_3).toNat * 5)) = some (.int .i64 ((rd_T23 l0_10 x3_3).f0)) ∧ w'.cell? ⟨(ad413.add ((x3_3).toNat * 5)).block, (ad413.add ((x3_3).toNat * 5)).off + 1, none⟩ = some (.int .i64 ((rd_T23 l0_10 x3_3).f1)) ∧ w'.cell? ⟨(ad413.add ((x3_3).toNat * 5)).block, (ad413.add ((x3_3).toNat * 5)).off + 2, none⟩ = some (.int .i64 ((rd_T23 l0_10 x3_3).f2)) ∧ w'.cell? ⟨(ad413.add ((x3_3).toNat * 5)).block, (ad413.add ((x3_3).toNat * 5)).off + 3, none⟩ = some (.bool ((rd_T23 l0_10 x3_3).f3)) ∧ w'.cell? ⟨(ad413.add ((x3_3).toNat * 5)).block, (ad413.add ((x3_3).toNat * 5)).off + 4, none⟩ = some (.string ((rd_T23 l0_10 x3_3).f4))) (ds := []) #[false, false, false, false, false, false, false, false, false, false, false, false, false, false, false, false, false, false, false, false, false, false, false, false, false, false, false, false, false, false, false, false, false, false, false, false, false, false] (by kernel_rfl) rfl rfl ⟨(blk_cell BK412.out 0).trans rfl, (blk_cell BK412.out 1).trans rfl, (blk_cell BK412.out 2).trans rfl, (blk_cell BK412.out 3).trans rfl, (blk_cell BK412.out 4).trans rfl, (blk_cell BK412.out 5).trans rfl, (blk_cell BK412.out 6).trans rfl, (blk_cell BK412.out 7).trans rfl, (blk_cell BK412.out 8).trans rfl, (blk_cell BK412.out 9).trans rfl, (blk_cell BK412.out 10).trans rfl, ((HB.out.cell (wbl w _ hw413_0)).trans hw413_0), ((HB.out.cell (wbl w _ hw413_1)).trans hw413_1), ((HB.out.cell (wbl w _ hw413_2)).trans hw413_2), ((HB.out.cell (wbl w _ hw413_3)).trans hw413_3), ((HB.out.cell (wbl w _ hw413_4)).trans hw413_4), ((HB.out.cell (wbl w _ hw415_0)).trans hw415_0), ((HB.out.cell (wbl w _ hw415_1)).trans hw415_1), ((HB.out.cell (wbl w _ hw415_2)).trans hw415_2), ((HB.out.cell (wbl w _ hw415_3)).trans hw415_3), ((HB.out.cell (wbl w _ hw415_4)).trans hw415_4), ((HB.out.cell (wbl w _ hw416_0)).trans hw416_0), ((HB.out.cell (wbl w _ hw416_1)).trans hw416_1), ((HB.out.cell (wbl w _ hw416_2)).trans hw416_2), ((HB.out.cell (wbl w _ hw416_3)).trans hw416_3), ((HB.out.cell (wbl w _ hw416_4)).trans hw416_4), ((HB.out.cell (wbl w _ hw417_0)).trans hw417_0), ((HB.out.cell (wbl w _ hw417_1)).trans hw417_1), ((HB.out.cell (wbl w _ hw417_2)).trans hw417_2), ((HB.out.cell (wbl w _ hw417_3)).trans hw417_3), ((HB.out.cell (wbl w _ hw417_4)).trans hw417_4)⟩ (fun hHeld => ?_); refine with_tabW shardlogref19_Right.tab8 shardlogref19_Right.bits8 (fun HT_ HW_ => ?_)
                 generalize wr.drew = w60 at BK412 HB hx413_0 hx413_1 hx413_2 hx413_3 hx413_4 hx415_0 hx415_1 hx415_2 hx415_3 hx415_4 hx416_0 hx416_1 hx416_2 hx416_3 hx416_4 hx417_0 hx417_1 hx417_2 hx417_3 hx417_4 hHeld ⊢
                 refine along_ [(0, 79), (2, 81), (1, 80), (3, 82), (4, 83)] ?_
                 iterate 5 (first | (apply pure1 HT_; (case hi => rfl); (case hN => rfl); (case hw => rfl); (case hc => kernel_rfl); (case hQ => exact fun _ _ _ h => h); (case hy => intro w'; go_simp; with_reducible rfl); (case ha => simp only [Act.put, lsa, lsz, lss, i64_w, i32_w]; rfl)) | (apply take1 HT_ HW_ hHeld; (case hi => rfl); (case hN => rfl); (case hw => rfl); (case hc => kernel_rfl); (case hQ => exact fun _ _ _ h => h); (case hy => intro w' hs_; go_simp; with_reducible rfl); (case ha => simp only [Act.put, lsa, lsz, lss, i64_w, i32_w]; rfl)))
                 refine lay_ #[true, true, true, true, true, false, false, false, false, false, false, false, false, false, false, false, false, false, false, false, false, false, false, false, false, false, false, false, false, false, false, false, false, false, false, false, false, false] (by kernel_rfl) ?_
                 refine one_ (i := 5) (N := some 84) #[true, true, true, true, true, true, false, false, false, false, false, false, false, false, false, false, false, false, false, false, false, false, false, false, false, false, false, false, false, false, false, false, false, false, false, false, false, false] rfl rfl (one_of HT_.out (by kernel_rfl)) (by decide) (fun K hK => ?_)
                 refine goes_ Try.func26 (by kernel_rfl) rfl #[.agg #[.int .i64 ((rd_T23 l0_10 x3_3).f0), .int .i64 ((rd_T23 l0_10 x3_3).f1), .int .i64 ((rd_T23 l0_10 x3_3).f2), .bool ((rd_T23 l0_10 x3_3).f3), .string ((rd_T23 l0_10 x3_3).f4)]] (by rfl) rfl rfl agn ?_
                 with_reducible refine (shardlogref17_Right.calls ((rd_T23 l0_10 x3_3).f0) ((rd_T23 l0_10 x3_3).f1) ((rd_T23 l0_10 x3_3).f2) ((rd_T23 l0_10 x3_3).f3) ((rd_T23 l0_10 x3_3).f4) true _ A45.out).mono ?_
                 rintro e w61 ⟨rfl, hb⟩
                 refine ⟨_, rfl, ?_⟩
                 have n0_ := aS (blk_below (g := gb412) (o := .cells #[.int .i64 a0_0, .int .i64 a0_1, .int .i64 a0_2, .int .i64 a0_3, .int .i64 a0_4, .int .i64 a0_5, .int .i64 a0_6, .int .i64 a0_7, .bool a0_8, .string a0_9, .slice (some ad413) l0_10.length c0_10] 26 (0, 0)) (bkl BK412.out) hb)
                 have n1_ := bstep hb
                 clear BK412; clear HB
                 have BK412 := n0_
                 have HB := n1_
                 clear n0_ n1_; (try clear hb); (try clear hb2); (try clear hk); (try clear hi)
                 refine hK.out _ _ ⟨(blk_cell BK412.out 0).trans rfl, (blk_cell BK412.out 1).trans rfl, (blk_cell BK412.out 2).trans rfl, (blk_cell BK412.out 3).trans rfl, (blk_cell BK412.out 4).trans rfl, (blk_cell BK412.out 5).trans rfl, (blk_cell BK412.out 6).trans rfl, (blk_cell BK412.out 7).trans rfl, (blk_cell BK412.out 8).trans rfl, (blk_cell BK412.out 9).trans rfl, (blk_cell BK412.out 10).trans rfl, ((HB.out.cell (wbl w _ hw413_0)).trans hw413_0), ((HB.out.cell (wbl w _ hw413_1)).trans hw413_1), ((HB.out.cell (wbl w _ hw413_2)).trans hw413_2), ((HB.out.cell (wbl w _ hw413_3)).trans hw413_3), ((HB.out.cell (wbl w _ hw413_4)).trans hw413_4), ((HB.out.cell (wbl w _ hw415_0)).trans hw415_0), ((HB.out.cell (wbl w _ hw415_1)).trans hw415_1), ((HB.out.cell (wbl w _ hw415_2)).trans hw415_2), ((HB.out.cell (wbl w _ hw415_3)).trans hw415_3), ((HB.out.cell (wbl w _ hw415_4)).trans hw415_4), ((HB.out.cell (wbl w _ hw416_0)).trans hw416_0), ((HB.out.cell (wbl w _ hw416_1)).trans hw416_1), ((HB.out.cell (wbl w _ hw416_2)).trans hw416_2), ((HB.out.cell (wbl w _ hw416_3)).trans hw416_3), ((HB.out.cell (wbl w _ hw416_4)).trans hw416_4), ((HB.out.cell (wbl w _ hw417_0)).trans hw417_0), ((HB.out.cell (wbl w _ hw417_1)).trans hw417_1), ((HB.out.cell (wbl w _ hw417_2)).trans hw417_2), ((HB.out.cell (wbl w _ hw417_3)).trans hw417_3), ((HB.out.cell (wbl w _ hw417_4)).trans hw417_4)⟩ (fun hHeld => ?_)
                 clear hK K
                 refine norm_ (a' := ?_) ?_ ?_
                 rotate_left
                 ·
                  show Act.put _ (some 84) _ = _
                  simp only [Act.put, lsa, lsz, lss, i64_w, i32_w]
                  rfl
                 refine along_ [(6, 85), (7, 86), (8, 87), (10, 89), (14, 93), (9, 88), (11, 90), (12, 91), (13, 92), (15, 94), (16, 95), (17, 96), (18, 97), (19, 98), (20, 99), (21, 100), (22, 101), (24, 103), (25, 104), (29, 108), (31, 110), (23, 102), (26, 105), (27, 106), (28, 107), (30, 109), (32, 111), (33, 112), (34, 113), (35, 114), (36, 115), (37, 116)] ?_
                 iterate 32 (first | (apply pure1 HT_; (case hi => rfl); (case hN => rfl); (case hw => rfl); (case hc => kernel_rfl); (case hQ => exact fun _ _ _ h => h); (case hy => intro w'; go_simp; with_reducible rfl); (case ha => simp only [Act.put, lsa, lsz, lss, i64_w, i32_w]; rfl)) | (apply take1 HT_ HW_ hHeld; (case hi => rfl); (case hN => rfl); (case hw => rfl); (case hc => kernel_rfl); (case hQ => exact fun _ _ _ h => h); (case hy => intro w' hs_; go_simp; with_reducible rfl); (case ha => simp only [Act.put, lsa, lsz, lss, i64_w, i32_w]; rfl)))
                 refine lay_ #[true, true, true, true, true, true, true, true, true, true, true, true, true, true, true, true, true, true, true, true, true, true, true, true, true, true, true, true, true, true, true, true, true, true, true, true, true, true] (by kernel_rfl) ?_
                 refine done_ (done_of HT_.out (by kernel_rfl)) ?_
                 try go_wp2
                 go_roundg k3
                 case measure => have := HJ1.out; have := HJ19.out; have := HK3.out; omega
                 case rel => exact ⟨(wrap64 (x3_3 + 1)), (by first | rfl | (simp; done) | (simp [*]; done) | (simp; exact (by decide : ∀ a_ b_ : Bool, (a_ == b_) = (!a_ != b_)) _ _)), H', ⟨by have := HJ1.out; have := HJ19.out; have := HK3.out; omega⟩, ⟨by (with_reducible repeat (first | refine blk_drewN ?_ _ | refine blk_drew ?_ | refine blk_alloc ?_ _)); exact BK412.out⟩, ⟨bel⟩⟩
               ·
                rw [if_neg c54] at H
                exact absurd H (by simp)
              ·
               rw [if_neg c53] at H
               exact absurd H (by simp)
             ·
              rw [if_neg c51] at H
              have c51b0 : decide (0 < x3_3) = false := decide_eq_false c51
              clear c51
              have H' := aS H
              clear H
              have hcz62 := cK11 BK412
              try go_wp2
              have n0_ := aS (blk_drew BK412.out)
              have n1_ := aS (bdo HB.out)
              clear BK412; clear HB
              have BK412 := n0_
              have HB := n1_
              clear n0_ n1_
              have p413 : 0 ≤ (x3_3 : Int) := odt (by first | (with_reducible assumption) | assumption)
              have q413 : x3_3 < (l0_10.length : Int) := odt (by first | (with_reducible assumption) | assumption)
              obtain ⟨ad413, e413, hx413_0, hx413_1, hx413_2, hx413_3, hx413_4⟩ := at_T23 HR0_10.out x3_3 p413 q413
              have hw413_4 := hx413_4
              have hw413_3 := hx413_3
              have hw413_2 := hx413_2
              have hw413_1 := hx413_1
              have hw413_0 := hx413_0
              cases e413
              replace hx413_0 := (HB.out.cell (wbl w _ hx413_0)).trans hx413_0
              replace hx413_1 := (HB.out.cell (wbl w _ hx413_1)).trans hx413_1
              replace hx413_2 := (HB.out.cell (wbl w _ hx413_2)).trans hx413_2
              replace hx413_3 := (HB.out.cell (wbl w _ hx413_3)).trans hx413_3
              replace hx413_4 := (HB.out.cell (wbl w _ hx413_4)).trans hx413_4
              replace p413 := eq_true p413
              replace q413 := eq_true q413
              have p415 : 0 ≤ (x3_3 : Int) := odt (by first | (with_reducible assumption) | assumption)
              have q415 : x3_3 < (l0_10.length : Int) := odt (by first | (with_reducible assumption) | assumption)
              obtain ⟨ad415, e415, hx415_0, hx415_1, hx415_2, hx415_3, hx415_4⟩ := at_T23 HR0_10.out x3_3 p415 q415
              have hw415_4 := hx415_4
              have hw415_3 := hx415_3
              have hw415_2 := hx415_2
              have hw415_1 := hx415_1
              have hw415_0 := hx415_0
              obtain rfl : ad413 = ad415 := (by injection e415)
              replace hx415_0 := (HB.out.cell (wbl w _ hx415_0)).trans hx415_0
              replace hx415_1 := (HB.out.cell (wbl w _ hx415_1)).trans hx415_1
              replace hx415_2 := (HB.out.cell (wbl w _ hx415_2)).trans hx415_2
              replace hx415_3 := (HB.out.cell (wbl w _ hx415_3)).trans hx415_3
              replace hx415_4 := (HB.out.cell (wbl w _ hx415_4)).trans hx415_4
              replace p415 := eq_true p415
              replace q415 := eq_true q415
              refine start_ (n := 38) (S := fun w' => w'.cell? ⟨gb412, 0, none⟩ = some (.int .i64 a0_0) ∧ w'.cell? ⟨gb412, 1, none⟩ = some (.int .i64 a0_1) ∧ w'.cell? ⟨gb412, 2, none⟩ = some (.int .i64 a0_2) ∧ w'.cell? ⟨gb412, 3, none⟩ = some (.int .i64 a0_3) ∧ w'.cell? ⟨gb412, 4, none⟩ = some (.int .i64 a0_4) ∧ w'.cell? ⟨gb412, 5, none⟩ = some (.int .i64 a0_5) ∧ w'.cell? ⟨gb412, 6, none⟩ = some (.int .i64 a0_6) ∧ w'.cell? ⟨gb412, 7, none⟩ = some (.int .i64 a0_7) ∧ w'.cell? ⟨gb412, 8, none⟩ = some (.bool a0_8) ∧ w'.cell? ⟨gb412, 9, none⟩ = some (.string a0_9) ∧ w'.cell? ⟨gb412, 10, none⟩ = some (.slice (some ad413) l0_10.length c0_10) ∧ w'.cell? (ad413.add ((x3_3).toNat * 5)) = some (.int .i64 ((rd_T23 l0_10 x3_3).f0)) ∧ w'.cell? ⟨(ad413.add ((x3_3).toNat * 5)).block, (ad413.add ((x3_3).toNat * 5)).off + 1, none⟩ = some (.int .i64 ((rd_T23 l0_10 x3_3).f1)) ∧ w'.cell? ⟨(ad413.add ((x3_3).toNat * 5)).block, (ad413.add ((x3_3).toNat * 5)).off + 2, none⟩ = some (.int .i64 ((rd_T23 l0_10 x3_3).f2)) ∧ w'.cell? ⟨(ad413.add ((x3_3).toNat * 5)).block, (ad413.add ((x3_3).toNat * 5)).off + 3, none⟩ = some (.bool ((rd_T23 l0_10 x3_3).f3)) ∧ w'.cell? ⟨(ad413.add ((x3_3).toNat * 5)).block, (ad413.add ((x3_3).toNat * 5)).off + 4, none⟩ = some (.string ((rd_T23 l0_10 x3_3).f4)) ∧ w'.cell? (ad413.add ((x3_3).toNat * 5)) = some (.int .i64 ((rd_T23 l0_10 x3_3).f0)) ∧ w'.cell? ⟨(ad413.add ((x3_3).toNat * 5)).block, (ad413.add ((x3_3).toNat * 5)).off + 1, none⟩ = some (.int .i64 ((rd_T23 l0_10 x3_3).f1)) ∧ w'.cell? ⟨(ad413.add ((x3_3).toNat * 5)).block, (ad413.add ((x3_3).toNat * 5)).off + 2, none⟩ = some (.int .i64 ((rd_T23 l0_10 x3_3).f2)) ∧ w'.cell? ⟨(ad413.add ((x3_3).toNat * 5)).block, (ad413.add ((x3_3).toNat * 5)).off + 3, none⟩ = some (.bool ((rd_T23 l0_10 x3_3).f3)) ∧ w'.cell? ⟨(ad413.add ((x3_3).toNat * 5)).block, (ad413.add ((x3_3).toNat * 5)).off + 4, none⟩ = some (.string ((rd_T23 l0_10 x3_3).f4))) (ds := []) #[false, false, false, false, false, false, false, false, false, false, false, false, false, false, false, false, false, false, false, false, false, false, false, false, false, false, false, false, false, false, false, false, false, false, false, false, false, false] (by kernel_rfl) rfl rfl ⟨(blk_cell BK412.out 0).trans rfl, (blk_cell BK412.out 1).trans rfl, (blk_cell BK412.out 2).trans rfl, (blk_cell BK412.out 3).trans rfl, (blk_cell BK412.out 4).trans rfl, (blk_cell BK412.out 5).trans rfl, (blk_cell BK412.out 6).trans rfl, (blk_cell BK412.out 7).trans rfl, (blk_cell BK412.out 8).trans rfl, (blk_cell BK412.out 9).trans rfl, (blk_cell BK412.out 10).trans rfl, ((HB.out.cell (wbl w _ hw413_0)).trans hw413_0), ((HB.out.cell (wbl w _ hw413_1)).trans hw413_1), ((HB.out.cell (wbl w _ hw413_2)).trans hw413_2), ((HB.out.cell (wbl w _ hw413_3)).trans hw413_3), ((HB.out.cell (wbl w _ hw413_4)).trans hw413_4), ((HB.out.cell (wbl w _ hw415_0)).trans hw415_0), ((HB.out.cell (wbl w _ hw415_1)).trans hw415_1), ((HB.out.cell (wbl w _ hw415_2)).trans hw415_2), ((HB.out.cell (wbl w _ hw415_3)).trans hw415_3), ((HB.out.cell (wbl w _ hw415_4)).trans hw415_4)⟩ (fun hHeld => ?_); refine with_tabW shardlogref19_Right.tab8 shardlogref19_Right.bits8 (fun HT_ HW_ => ?_)
              generalize wr.drew = w63 at BK412 HB hx413_0 hx413_1 hx413_2 hx413_3 hx413_4 hx415_0 hx415_1 hx415_2 hx415_3 hx415_4 hHeld ⊢
              refine along_ [(0, 79), (2, 81), (1, 80), (3, 82), (4, 83)] ?_
              iterate 5 (first | (apply pure1 HT_; (case hi => rfl); (case hN => rfl); (case hw => rfl); (case hc => kernel_rfl); (case hQ => exact fun _ _ _ h => h); (case hy => intro w'; go_simp; with_reducible rfl); (case ha => simp only [Act.put, lsa, lsz, lss, i64_w, i32_w]; rfl)) | (apply take1 HT_ HW_ hHeld; (case hi => rfl); (case hN => rfl); (case hw => rfl); (case hc => kernel_rfl); (case hQ => exact fun _ _ _ h => h); (case hy => intro w' hs_; go_simp; with_reducible rfl); (case ha => simp only [Act.put, lsa, lsz, lss, i64_w, i32_w]; rfl)))
              refine lay_ #[true, true, true, true, true, false, false, false, false, false, false, false, false, false, false, false, false, false, false, false, false, false, false, false, false, false, false, false, false, false, false, false, false, false, false, false, false, false] (by kernel_rfl) ?_
              refine one_ (i := 5) (N := some 84) #[true, true, true, true, true, true, false, false, false, false, false, false, false, false, false, false, false, false, false, false, false, false, false, false, false, false, false, false, false, false, false, false, false, false, false, false, false, false] rfl rfl (one_of HT_.out (by kernel_rfl)) (by decide) (fun K hK => ?_)
              refine goes_ Try.func26 (by kernel_rfl) rfl #[.agg #[.int .i64 ((rd_T23 l0_10 x3_3).f0), .int .i64 ((rd_T23 l0_10 x3_3).f1), .int .i64 ((rd_T23 l0_10 x3_3).f2), .bool ((rd_T23 l0_10 x3_3).f3), .string ((rd_T23 l0_10 x3_3).f4)]] (by rfl) rfl rfl agn ?_
              with_reducible refine (shardlogref17_Right.calls ((rd_T23 l0_10 x3_3).f0) ((rd_T23 l0_10 x3_3).f1) ((rd_T23 l0_10 x3_3).f2) ((rd_T23 l0_10 x3_3).f3) ((rd_T23 l0_10 x3_3).f4) true _ A45.out).mono ?_
              rintro e w64 ⟨rfl, hb⟩
              refine ⟨_, rfl, ?_⟩
              have n0_ := aS (blk_below (g := gb412) (o := .cells #[.int .i64 a0_0, .int .i64 a0_1, .int .i64 a0_2, .int .i64 a0_3, .int .i64 a0_4, .int .i64 a0_5, .int .i64 a0_6, .int .i64 a0_7, .bool a0_8, .string a0_9, .slice (some ad413) l0_10.length c0_10] 26 (0, 0)) (bkl BK412.out) hb)
              have n1_ := bstep hb
              clear BK412; clear HB
              have BK412 := n0_
              have HB := n1_
              clear n0_ n1_; (try clear hb); (try clear hb2); (try clear hk); (try clear hi)
              refine hK.out _ _ ⟨(blk_cell BK412.out 0).trans rfl, (blk_cell BK412.out 1).trans rfl, (blk_cell BK412.out 2).trans rfl, (blk_cell BK412.out 3).trans rfl, (blk_cell BK412.out 4).trans rfl, (blk_cell BK412.out 5).trans rfl, (blk_cell BK412.out 6).trans rfl, (blk_cell BK412.out 7).trans rfl, (blk_cell BK412.out 8).trans rfl, (blk_cell BK412.out 9).trans rfl, (blk_cell BK412.out 10).trans rfl, ((HB.out.cell (wbl w _ hw413_0)).trans hw413_0), ((HB.out.cell (wbl w _ hw413_1)).trans hw413_1), ((HB.out.cell (wbl w _ hw413_2)).trans hw413_2), ((HB.out.cell (wbl w _ hw413_3)).trans hw413_3), ((HB.out.cell (wbl w _ hw413_4)).trans hw413_4), ((HB.out.cell (wbl w _ hw415_0)).trans hw415_0), ((HB.out.cell (wbl w _ hw415_1)).trans hw415_1), ((HB.out.cell (wbl w _ hw415_2)).trans hw415_2), ((HB.out.cell (wbl w _ hw415_3)).trans hw415_3), ((HB.out.cell (wbl w _ hw415_4)).trans hw415_4)⟩ (fun hHeld => ?_)
              clear hK K
              refine norm_ (a' := ?_) ?_ ?_
              rotate_left
              ·
               show Act.put _ (some 84) _ = _
               simp only [Act.put, lsa, lsz, lss, i64_w, i32_w]
               rfl
              refine along_ [(6, 85), (7, 86), (8, 87), (10, 89), (14, 93), (9, 88), (11, 90), (12, 91), (13, 92), (15, 94), (16, 95), (17, 96), (18, 97), (19, 98), (20, 99), (21, 100), (22, 101), (23, 102), (24, 103), (25, 104), (26, 105), (27, 106), (28, 107), (29, 108), (30, 109), (31, 110), (32, 111), (33, 112), (34, 113), (35, 114), (36, 115), (37, 116)] ?_
              iterate 32 (first | (apply skip1 HT_; (case hi => rfl); (case hN => rfl); (case hw => rfl); (case hc => kernel_rfl); (case hQ => exact fun _ _ _ h => h); (case ha => simp only [Act.put, lsa, lsz, lss, i64_w, i32_w]; rfl)) | (apply pure1 HT_; (case hi => rfl); (case hN => rfl); (case hw => rfl); (case hc => kernel_rfl); (case hQ => exact fun _ _ _ h => h); (case hy => intro w'; go_simp; with_reducible rfl); (case ha => simp only [Act.put, lsa, lsz, lss, i64_w, i32_w]; rfl)) | (apply take1 HT_ HW_ hHeld; (case hi => rfl); (case hN => rfl); (case hw => rfl); (case hc => kernel_rfl); (case hQ => exact fun _ _ _ h => h); (case hy => intro w' hs_; go_simp; with_reducible rfl); (case ha => simp only [Act.put, lsa, lsz, lss, i64_w, i32_w]; rfl)))
              refine lay_ #[true, true, true, true, true, true, true, true, true, true, true, true, true, true, true, true, true, true, true, true, true, true, true, true, true, true, true, true, true, true, true, true, true, true, true, true, true, true] (by kernel_rfl) ?_
              refine done_ (done_of HT_.out (by kernel_rfl)) ?_
              try go_wp2
              go_roundg k3
              case measure => have := HJ1.out; have := HJ19.out; have := HK3.out; omega
              case rel => exact ⟨(wrap64 (x3_3 + 1)), (by first | rfl | (simp; done) | (simp [*]; done) | (simp; exact (by decide : ∀ a_ b_ : Bool, (a_ == b_) = (!a_ != b_)) _ _)), H', ⟨by have := HJ1.out; have := HJ19.out; have := HK3.out; omega⟩, ⟨by (with_reducible repeat (first | refine blk_drewN ?_ _ | refine blk_drew ?_ | refine blk_alloc ?_ _)); exact BK412.out⟩, ⟨bel⟩⟩
           ·
            replace c46 := Bool.eq_false_iff.mpr c46
            subst c46
            have H1 : (some false) = some r := by rw [if_neg (show ¬ (false = true) by decide)] at H; exact H
            clear H; have H := H1; clear H1
            obtain rfl := Option.some.inj H
            have hcz65 := cK11 BK412
            try go_wp2
            have n0_ := aS (blk_drew BK412.out)
            have n1_ := aS (bdo HB.out)
            clear BK412; clear HB
            have BK412 := n0_
            have HB := n1_
            clear n0_ n1_
            have p413 : 0 ≤ (x3_3 : Int) := odt (by first | (with_reducible assumption) | assumption)
            have q413 : x3_3 < (l0_10.length : Int) := odt (by first | (with_reducible assumption) | assumption)
            obtain ⟨ad413, e413, hx413_0, hx413_1, hx413_2, hx413_3, hx413_4⟩ := at_T23 HR0_10.out x3_3 p413 q413
            have hw413_4 := hx413_4
            have hw413_3 := hx413_3
            have hw413_2 := hx413_2
            have hw413_1 := hx413_1
            have hw413_0 := hx413_0
            cases e413
            replace hx413_0 := (HB.out.cell (wbl w _ hx413_0)).trans hx413_0
            replace hx413_1 := (HB.out.cell (wbl w _ hx413_1)).trans hx413_1
            replace hx413_2 := (HB.out.cell (wbl w _ hx413_2)).trans hx413_2
            replace hx413_3 := (HB.out.cell (wbl w _ hx413_3)).trans hx413_3
            replace hx413_4 := (HB.out.cell (wbl w _ hx413_4)).trans hx413_4
            replace p413 := eq_true p413
            replace q413 := eq_true q413
            refine start_ (n := 38) (S := fun w' => w'.cell? ⟨gb412, 0, none⟩ = some (.int .i64 a0_0) ∧ w'.cell? ⟨gb412, 1, none⟩ = some (.int .i64 a0_1) ∧ w'.cell? ⟨gb412, 2, none⟩ = some (.int .i64 a0_2) ∧ w'.cell? ⟨gb412, 3, none⟩ = some (.int .i64 a0_3) ∧ w'.cell? ⟨gb412, 4, none⟩ = some (.int .i64 a0_4) ∧ w'.cell? ⟨gb412, 5, none⟩ = some (.int .i64 a0_5) ∧ w'.cell? ⟨gb412, 6, none⟩ = some (.int .i64 a0_6) ∧ w'.cell? ⟨gb412, 7, none⟩ = some (.int .i64 a0_7) ∧ w'.cell? ⟨gb412, 8, none⟩ = some (.bool a0_8) ∧ w'.cell? ⟨gb412, 9, none⟩ = some (.string a0_9) ∧ w'.cell? ⟨gb412, 10, none⟩ = some (.slice (some ad413) l0_10.length c0_10) ∧ w'.cell? (ad413.add ((x3_3).toNat * 5)) = some (.int .i64 ((rd_T23 l0_10 x3_3).f0)) ∧ w'.cell? ⟨(ad413.add ((x3_3).toNat * 5)).block, (ad413.add ((x3_3).toNat * 5)).off + 1, none⟩ = some (.int .i64 ((rd_T23 l0_10 x3_3).f1)) ∧ w'.cell? ⟨(ad413.add ((x3_3).toNat * 5)).block, (ad413.add ((x3_3).toNat * 5)).off + 2, none⟩ = some (.int .i64 ((rd_T23 l0_10 x3_3).f2)) ∧ w'.cell? ⟨(ad413.add ((x3_3).toNat * 5)).block, (ad413.add ((x3_3).toNat * 5)).off + 3, none⟩ = some (.bool ((rd_T23 l0_10 x3_3).f3)) ∧ w'.cell? ⟨(ad413.add ((x3_3).toNat * 5)).block, (ad413.add ((x3_3).toNat * 5)).off + 4, none⟩ = some (.string ((rd_T23 l0_10 x3_3).f4))) (ds := []) #[false, false, false, false, false, false, false, false, false, false, false, false, false, false, false, false, false, false, false, false, false, false, false, false, false, false, false, false, false, false, false, false, false, false, false, false, false, false] (by kernel_rfl) rfl rfl ⟨(blk_cell BK412.out 0).trans rfl, (blk_cell BK412.out 1).trans rfl, (blk_cell BK412.out 2).trans rfl, (blk_cell BK412.out 3).trans rfl, (blk_cell BK412.out 4).trans rfl, (blk_cell BK412.out 5).trans rfl, (blk_cell BK412.out 6).trans rfl, (blk_cell BK412.out 7).trans rfl, (blk_cell BK412.out 8).trans rfl, (blk_cell BK412.out 9).trans rfl, (blk_cell BK412.out 10).trans rfl, ((HB.out.cell (wbl w _ hw413_0)).trans hw413_0), ((HB.out.cell (wbl w _ hw413_1)).trans hw413_1), ((HB.out.cell (wbl w _ hw413_2)).trans hw413_2), ((HB.out.cell (wbl w _ hw413_3)).trans hw413_3), ((HB.out.cell (wbl w _ hw413_4)).trans hw413_4)⟩ (fun hHeld => ?_); refine with_tabW shardlogref19_Right.tab8 shardlogref19_Right.bits8 (fun HT_ HW_ => ?_)
            generalize wr.drew = w66 at BK412 HB hx413_0 hx413_1 hx413_2 hx413_3 hx413_4 hHeld ⊢
            refine along_ [(0, 79), (2, 81), (1, 80), (3, 82), (4, 83)] ?_
            iterate 5 (first | (apply pure1 HT_; (case hi => rfl); (case hN => rfl); (case hw => rfl); (case hc => kernel_rfl); (case hQ => exact fun _ _ _ h => h); (case hy => intro w'; go_simp; with_reducible rfl); (case ha => simp only [Act.put, lsa, lsz, lss, i64_w, i32_w]; rfl)) | (apply take1 HT_ HW_ hHeld; (case hi => rfl); (case hN => rfl); (case hw => rfl); (case hc => kernel_rfl); (case hQ => exact fun _ _ _ h => h); (case hy => intro w' hs_; go_simp; with_reducible rfl); (case ha => simp only [Act.put, lsa, lsz, lss, i64_w, i32_w]; rfl)))
            refine lay_ #[true, true, true, true, true, false, false, false, false, false, false, false, false, false, false, false, false, false, false, false, false, false, false, false, false, false, false, false, false, false, false, false, false, false, false, false, false, false] (by kernel_rfl) ?_
            refine one_ (i := 5) (N := some 84) #[true, true, true, true, true, true, false, false, false, false, false, false, false, false, false, false, false, false, false, false, false, false, false, false, false, false, false, false, false, false, false, false, false, false, false, false, false, false] rfl rfl (one_of HT_.out (by kernel_rfl)) (by decide) (fun K hK => ?_)
            refine goes_ Try.func26 (by kernel_rfl) rfl #[.agg #[.int .i64 ((rd_T23 l0_10 x3_3).f0), .int .i64 ((rd_T23 l0_10 x3_3).f1), .int .i64 ((rd_T23 l0_10 x3_3).f2), .bool ((rd_T23 l0_10 x3_3).f3), .string ((rd_T23 l0_10 x3_3).f4)]] (by rfl) rfl rfl agn ?_
            with_reducible refine (shardlogref17_Right.calls ((rd_T23 l0_10 x3_3).f0) ((rd_T23 l0_10 x3_3).f1) ((rd_T23 l0_10 x3_3).f2) ((rd_T23 l0_10 x3_3).f3) ((rd_T23 l0_10 x3_3).f4) false _ A45.out).mono ?_
            rintro e w67 ⟨rfl, hb⟩
            refine ⟨_, rfl, ?_⟩
            have n0_ := aS (blk_below (g := gb412) (o := .cells #[.int .i64 a0_0, .int .i64 a0_1, .int .i64 a0_2, .int .i64 a0_3, .int .i64 a0_4, .int .i64 a0_5, .int .i64 a0_6, .int .i64 a0_7, .bool a0_8, .string a0_9, .slice (some ad413) l0_10.length c0_10] 26 (0, 0)) (bkl BK412.out) hb)
            have n1_ := bstep hb
            clear BK412; clear HB
            have BK412 := n0_
            have HB := n1_
            clear n0_ n1_; (try clear hb); (try clear hb2); (try clear hk); (try clear hi)
            refine hK.out _ _ ⟨(blk_cell BK412.out 0).trans rfl, (blk_cell BK412.out 1).trans rfl, (blk_cell BK412.out 2).trans rfl, (blk_cell BK412.out 3).trans rfl, (blk_cell BK412.out 4).trans rfl, (blk_cell BK412.out 5).trans rfl, (blk_cell BK412.out 6).trans rfl, (blk_cell BK412.out 7).trans rfl, (blk_cell BK412.out 8).trans rfl, (blk_cell BK412.out 9).trans rfl, (blk_cell BK412.out 10).trans rfl, ((HB.out.cell (wbl w _ hw413_0)).trans hw413_0), ((HB.out.cell (wbl w _ hw413_1)).trans hw413_1), ((HB.out.cell (wbl w _ hw413_2)).trans hw413_2), ((HB.out.cell (wbl w _ hw413_3)).trans hw413_3), ((HB.out.cell (wbl w _ hw413_4)).trans hw413_4)⟩ (fun hHeld => ?_)
            clear hK K
            refine norm_ (a' := ?_) ?_ ?_
            rotate_left
            ·
             show Act.put _ (some 84) _ = _
             simp only [Act.put, lsa, lsz, lss, i64_w, i32_w]
             rfl
            refine along_ [(6, 85), (7, 86), (8, 87), (9, 88), (10, 89), (11, 90), (12, 91), (13, 92), (14, 93), (15, 94), (16, 95), (17, 96), (18, 97), (19, 98), (20, 99), (21, 100), (22, 101), (23, 102), (24, 103), (25, 104), (26, 105), (27, 106), (28, 107), (29, 108), (30, 109), (31, 110), (32, 111), (33, 112), (34, 113), (35, 114), (36, 115), (37, 116)] ?_
            iterate 32 (first | (apply skip1 HT_; (case hi => rfl); (case hN => rfl); (case hw => rfl); (case hc => kernel_rfl); (case hQ => exact fun _ _ _ h => h); (case ha => simp only [Act.put, lsa, lsz, lss, i64_w, i32_w]; rfl)) | (apply pure1 HT_; (case hi => rfl); (case hN => rfl); (case hw => rfl); (case hc => kernel_rfl); (case hQ => exact fun _ _ _ h => h); (case hy => intro w'; go_simp; with_reducible rfl); (case ha => simp only [Act.put, lsa, lsz, lss, i64_w, i32_w]; rfl)))
            refine lay_ #[true, true, true, true, true, true, true, true, true, true, true, true, true, true, true, true, true, true, true, true, true, true, true, true, true, true, true, true, true, true, true, true, true, true, true, true, true, true] (by kernel_rfl) ?_
            refine done_ (done_of HT_.out (by kernel_rfl)) ?_
            try go_wp2
            go_ret
            exact ⟨rf3, bel⟩
          ·
           rw [if_neg c44] at H
           exact absurd H (by simp)
         ·
          rw [if_neg c43] at H
          have c43b0 : decide (x3_3 < (l0_10.length : Int)) = false := decide_eq_false c43
          clear c43
          by_cases c68 : a0_0 = 3
          ·
           rw [if_pos c68] at H
           obtain ⟨c68b0, c68b1⟩ := eqT c68
           clear c68
           replace H := obm H
           obtain ⟨t418, A690, H⟩ := H
           replace H : (if t418 = true then (if a0_6 = a0_3 then (if a0_4 ≥ 0 then (some (decide (a0_4 ≤ 63))) else (some false)) else (some false)) else (some false)) = some r := H
           have A69 := aS A690
           clear A690
           by_cases c70 : t418 = true
           ·
            subst c70
            have H1 : (if a0_6 = a0_3 then (if a0_4 ≥ 0 then (some (decide (a0_4 ≤ 63))) else (some false)) else (some false)) = some r := by rw [if_pos rfl] at H; exact H
            clear H; have H := H1; clear H1
            by_cases c71 : a0_6 = a0_3
            ·
             rw [if_pos c71] at H
             obtain ⟨c71b0, c71b1⟩ := eqT c71
             clear c71
             by_cases c72 : a0_4 ≥ 0
             ·
              rw [if_pos c72] at H
              have c72b0 : decide (0 ≤ a0_4) = true := decide_eq_true c72
              clear c72
              obtain rfl := Option.some.inj H
              have hcz73 := cK11 BK412
              go_wp2_with (first | (go_at_call 26; (with_reducible refine (shardlogref17_Right.calls a0_5 a0_6 a0_7 a0_8 a0_9 true _ A69.out).mono ?_); rintro e w74 ⟨rfl, hb⟩; have n0_ := aS (blk_below (g := gb412) (o := .cells #[.int .i64 a0_0, .int .i64 a0_1, .int .i64 a0_2, .int .i64 a0_3, .int .i64 a0_4, .int .i64 a0_5, .int .i64 a0_6, .int .i64 a0_7, .bool a0_8, .string a0_9, .slice A0_10 l0_10.length c0_10] 26 (0, 0)) (bkl BK412.out) hb); have n1_ := bstep hb; clear BK412; clear HB; have BK412 := n0_; have HB := n1_; clear n0_ n1_; (try clear hb); (try clear hb2); (try clear hk); (try clear hi); have hcz75 := cK11 BK412))
              go_ret
              exact ⟨rf3, bel⟩
             ·
              rw [if_neg c72] at H
              have c72b0 : decide (0 ≤ a0_4) = false := decide_eq_false c72
              clear c72
              obtain rfl := Option.some.inj H
              have hcz76 := cK11 BK412
              go_wp2_with (first | (go_at_call 26; (with_reducible refine (shardlogref17_Right.calls a0_5 a0_6 a0_7 a0_8 a0_9 true _ A69.out).mono ?_); rintro e w77 ⟨rfl, hb⟩; have n0_ := aS (blk_below (g := gb412) (o := .cells #[.int .i64 a0_0, .int .i64 a0_1, .int .i64 a0_2, .int .i64 a0_3, .int .i64 a0_4, .int .i64 a0_5, .int .i64 a0_6, .int .i64 a0_7, .bool a0_8, .string a0_9, .slice A0_10 l0_10.length c0_10] 26 (0, 0)) (bkl BK412.out) hb); have n1_ := bstep hb; clear BK412; clear HB; have BK412 := n0_; have HB := n1_; clear n0_ n1_; (try clear hb); (try clear hb2); (try clear hk); (try clear hi); have hcz78 := cK11 BK412))
              go_ret
              exact ⟨rf3, bel⟩
            ·
             rw [if_neg c71] at H
             obtain ⟨c71b0, c71b1⟩ := eqF c71
             obtain rfl := Option.some.inj H
             have hcz79 := cK11 BK412
             go_wp2_with (first | (go_at_call 26; (with_reducible refine (shardlogref17_Right.calls a0_5 a0_6 a0_7 a0_8 a0_9 true _ A69.out).mono ?_); rintro e w80 ⟨rfl, hb⟩; have n0_ := aS (blk_below (g := gb412) (o := .cells #[.int .i64 a0_0, .int .i64 a0_1, .int .i64 a0_2, .int .i64 a0_3, .int .i64 a0_4, .int .i64 a0_5, .int .i64 a0_6, .int .i64 a0_7, .bool a0_8, .string a0_9, .slice A0_10 l0_10.length c0_10] 26 (0, 0)) (bkl BK412.out) hb); have n1_ := bstep hb; clear BK412; clear HB; have BK412 := n0_; have HB := n1_; clear n0_ n1_; (try clear hb); (try clear hb2); (try clear hk); (try clear hi); have hcz81 := cK11 BK412))
             go_ret
             exact ⟨rf3, bel⟩
           ·
            replace c70 := Bool.eq_false_iff.mpr c70
            subst c70
            have H1 : (some false) = some r := by rw [if_neg (show ¬ (false = true) by decide)] at H; exact H
            clear H; have H := H1; clear H1
            obtain rfl := Option.some.inj H
            have hcz82 := cK11 BK412
            go_wp2_with (first | (go_at_call 26; (with_reducible refine (shardlogref17_Right.calls a0_5 a0_6 a0_7 a0_8 a0_9 false _ A69.out).mono ?_); rintro e w83 ⟨rfl, hb⟩; have n0_ := aS (blk_below (g := gb412) (o := .cells #[.int .i64 a0_0, .int .i64 a0_1, .int .i64 a0_2, .int .i64 a0_3, .int .i64 a0_4, .int .i64 a0_5, .int .i64 a0_6, .int .i64 a0_7, .bool a0_8, .string a0_9, .slice A0_10 l0_10.length c0_10] 26 (0, 0)) (bkl BK412.out) hb); have n1_ := bstep hb; clear BK412; clear HB; have BK412 := n0_; have HB := n1_; clear n0_ n1_; (try clear hb); (try clear hb2); (try clear hk); (try clear hi)))
            go_ret
            exact ⟨rf3, bel⟩
          ·
           rw [if_neg c68] at H
           obtain ⟨c68b0, c68b1⟩ := eqF c68
           by_cases c84 : a0_4 ≥ 0
           ·
            rw [if_pos c84] at H
            have c84b0 : decide (0 ≤ a0_4) = true := decide_eq_true c84
            clear c84
            obtain rfl := Option.some.inj H
            have hcz85 := cK11 BK412
            go_wp2
            go_ret
            exact ⟨rf3, bel⟩
           ·
            rw [if_neg c84] at H
            have c84b0 : decide (0 ≤ a0_4) = false := decide_eq_false c84
            clear c84
            obtain rfl := Option.some.inj H
            have hcz86 := cK11 BK412
            go_wp2
            go_ret
            exact ⟨rf3, bel⟩

end Go.Proofs.Yteoklmfkofgfmaa.X
