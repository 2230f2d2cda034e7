-- written by a program of this session's, over the kit's print
import Derived.Test.YteoklmfkofgfmaaXx0
import Derived.Test.YteoklmfkofgfmaaXx3
import Derived.Test.YteoklmfkofgfmaaXx4
import Derived.Test.YteoklmfkofgfmaaXx6
import Derived.Test.YteoklmfkofgfmaaXx7
import Derived.Test.YteoklmfkofgfmaaXx8
import Derived.Test.YteoklmfkofgfmaaXx9
import Derived.Test.YteoklmfkofgfmaaXx10
namespace Go.Proofs.Yteoklmfkofgfmaa.X
open Go.RowKit Go.Proofs.YteoklmfkofgfmaaW.PrintWords Go.Proofs.YteoklmfkofgfmaaW.PrintLast Go.Proofs.YteoklmfkofgfmaaW.PrintMore
attribute [local go_sem] max2_int min2_int max_two min_two max_three min_three max_four min_four gtr_str   -- for this text's walks alone
set_option linter.unusedVariables false
set_option linter.unusedSimpArgs false

/-! ### shardloglaw19_MsgPuts: function 3 -/
mutual
def shardloglaw19_MsgPuts.j0 : Nat → Bool → Int → Int → Int → Int → Int → Int → Int → Int → Bool → ByteArray → List (S23) → Int → Int → Int → Int → Int → Int → Int → Int → Bool → ByteArray → List (S23) → Option (Bool)
 | 0, _, _, _, _, _, _, _, _, _, _, _, _, _, _, _, _, _, _, _, _, _, _, _ => none
 | k + 1, x18, x527000, x527001, x527002, x527003, x527004, x527005, x527006, x527007, x527008, x527009, x527010, x528000, x528001, x528002, x528003, x528004, x528005, x528006, x528007, x528008, x528009, x528010 => if x18 = true then ((shardloglaw19_awake.f k).bind fun t531 => (some t531)) else ((msg_Put.f k x527000 x527001 x527002 x527003 x527004 x527005 x527006 x527007 x527008 x527009 x527010).bind fun bt532 => ((msg_Right.f k x527000 x527001 x527002 x527003 x527004 x527005 x527006 x527007 x527008 x527009 x527010).bind fun t536 => ((shardlogref19_Right.f k x527000 x527001 x527002 x527003 x527004 x527005 x527006 x527007 x527008 x527009 x527010).bind fun t537 => (if (t536 != t537) = true then (shardloglaw19_MsgPuts.j1 k bt532.1 bt532.2 true x527000 x527001 x527002 x527003 x527004 x527005 x527006 x527007 x527008 x527009 x527010) else ((msg_Same.f k x527000 x527001 x527002 x527003 x527004 x527005 x527006 x527007 x527008 x527009 x527010 x528000 x528001 x528002 x528003 x528004 x528005 x528006 x528007 x528008 x528009 x528010).bind fun t538 => ((shardlogref19_Same.f k x527000 x527001 x527002 x527003 x527004 x527005 x527006 x527007 x527008 x527009 x527010 x528000 x528001 x528002 x528003 x528004 x528005 x528006 x528007 x528008 x528009 x528010).bind fun t539 => (if (t538 != t539) = true then (shardloglaw19_MsgPuts.j1 k bt532.1 bt532.2 true x527000 x527001 x527002 x527003 x527004 x527005 x527006 x527007 x527008 x527009 x527010) else ((msg_Same.f k x527000 x527001 x527002 x527003 x527004 x527005 x527006 x527007 x527008 x527009 x527010 x527000 x527001 x527002 x527003 x527004 x527005 x527006 x527007 x527008 x527009 x527010).bind fun t540 => (shardloglaw19_MsgPuts.j1 k bt532.1 bt532.2 (!t540) x527000 x527001 x527002 x527003 x527004 x527005 x527006 x527007 x527008 x527009 x527010)))))))))
def shardloglaw19_MsgPuts.j1 : Nat → List Int → Int → Bool → Int → Int → Int → Int → Int → Int → Int → Int → Bool → ByteArray → List (S23) → Option (Bool)
 | 0, _, _, _, _, _, _, _, _, _, _, _, _, _, _ => none
 | k + 1, x5, x6, x44, x527000, x527001, x527002, x527003, x527004, x527005, x527006, x527007, x527008, x527009, x527010 => if x44 = true then (none) else ((shardlogref19_Right.f k x527000 x527001 x527002 x527003 x527004 x527005 x527006 x527007 x527008 x527009 x527010).bind fun t541 => (if t541 = true then (if x6 = 0 then ((shardlogref19_Put.f k x527000 x527001 x527002 x527003 x527004 x527005 x527006 x527007 x527008 x527009 x527010).bind fun t542 => ((shardlogref01_Same.f x5 t542).bind fun t545 => (some t545))) else (none)) else (if x6 = 1 then (some ((x5.length : Int) == 0)) else (none))))
end
def shardloglaw19_MsgPuts.f (k : Nat) (a0_0 : Int) (a0_1 : Int) (a0_2 : Int) (a0_3 : Int) (a0_4 : Int) (a0_5 : Int) (a0_6 : Int) (a0_7 : Int) (a0_8 : Bool) (a0_9 : ByteArray) (l0_10 : List (S23)) (a1_0 : Int) (a1_1 : Int) (a1_2 : Int) (a1_3 : Int) (a1_4 : Int) (a1_5 : Int) (a1_6 : Int) (a1_7 : Int) (a1_8 : Bool) (a1_9 : ByteArray) (l1_10 : List (S23)) : Option (Bool) := (shardloglaw19_awake.f k).bind fun t528 => (if t528 = true then ((shardlogref19_Small.f k a0_0 a0_1 a0_2 a0_3 a0_4 a0_5 a0_6 a0_7 a0_8 a0_9 l0_10).bind fun t529 => (if t529 = true then ((shardlogref19_Small.f k a1_0 a1_1 a1_2 a1_3 a1_4 a1_5 a1_6 a1_7 a1_8 a1_9 l1_10).bind fun t530 => (shardloglaw19_MsgPuts.j0 k (!t530) a0_0 a0_1 a0_2 a0_3 a0_4 a0_5 a0_6 a0_7 a0_8 a0_9 l0_10 a1_0 a1_1 a1_2 a1_3 a1_4 a1_5 a1_6 a1_7 a1_8 a1_9 l1_10)) else (shardloglaw19_MsgPuts.j0 k true a0_0 a0_1 a0_2 a0_3 a0_4 a0_5 a0_6 a0_7 a0_8 a0_9 l0_10 a1_0 a1_1 a1_2 a1_3 a1_4 a1_5 a1_6 a1_7 a1_8 a1_9 l1_10))) else (shardloglaw19_MsgPuts.j0 k true a0_0 a0_1 a0_2 a0_3 a0_4 a0_5 a0_6 a0_7 a0_8 a0_9 l0_10 a1_0 a1_1 a1_2 a1_3 a1_4 a1_5 a1_6 a1_7 a1_8 a1_9 l1_10))
theorem shardloglaw19_MsgPuts.mono_l : ∀ k, (∀ y0 y1 y2 y3 y4 y5 y6 y7 y8 y9 y10 y11 y12 y13 y14 y15 y16 y17 y18 y19 y20 y21 y22, LeO (shardloglaw19_MsgPuts.j0 k y0 y1 y2 y3 y4 y5 y6 y7 y8 y9 y10 y11 y12 y13 y14 y15 y16 y17 y18 y19 y20 y21 y22) (shardloglaw19_MsgPuts.j0 (k + 1) y0 y1 y2 y3 y4 y5 y6 y7 y8 y9 y10 y11 y12 y13 y14 y15 y16 y17 y18 y19 y20 y21 y22)) ∧ (∀ y0 y1 y2 y3 y4 y5 y6 y7 y8 y9 y10 y11 y12 y13, LeO (shardloglaw19_MsgPuts.j1 k y0 y1 y2 y3 y4 y5 y6 y7 y8 y9 y10 y11 y12 y13) (shardloglaw19_MsgPuts.j1 (k + 1) y0 y1 y2 y3 y4 y5 y6 y7 y8 y9 y10 y11 y12 y13))
 | 0 => ⟨fun _ _ _ _ _ _ _ _ _ _ _ _ _ _ _ _ _ _ _ _ _ _ _ r h => by simp [shardloglaw19_MsgPuts.j0] at h, fun _ _ _ _ _ _ _ _ _ _ _ _ _ _ r h => by simp [shardloglaw19_MsgPuts.j1] at h⟩
 | k + 1 => by
  obtain ⟨ih0, ih1⟩ := shardloglaw19_MsgPuts.mono_l k
  refine ⟨?_, ?_⟩
  ·
   intro y0 y1 y2 y3 y4 y5 y6 y7 y8 y9 y10 y11 y12 y13 y14 y15 y16 y17 y18 y19 y20 y21 y22
   unfold shardloglaw19_MsgPuts.j0
   repeat' first
   | (with_reducible exact ih0 _ _ _ _ _ _ _ _ _ _ _ _ _ _ _ _ _ _ _ _ _ _ _)
   | (with_reducible exact ih1 _ _ _ _ _ _ _ _ _ _ _ _ _ _)
   | (with_reducible exact msg_Put.mono _ _ _ _ _ _ _ _ _ _ _ _)
   | (with_reducible exact msg_Right.mono _ _ _ _ _ _ _ _ _ _ _ _)
   | (with_reducible exact msg_Same.mono _ _ _ _ _ _ _ _ _ _ _ _ _ _ _ _ _ _ _ _ _ _ _)
   | (with_reducible exact shardloglaw19_awake.mono _)
   | (with_reducible exact shardlogref19_Put.mono _ _ _ _ _ _ _ _ _ _ _ _)
   | (with_reducible exact shardlogref19_Right.mono _ _ _ _ _ _ _ _ _ _ _ _)
   | (with_reducible exact shardlogref19_Same.mono _ _ _ _ _ _ _ _ _ _ _ _ _ _ _ _ _ _ _ _ _ _ _)
   | (with_reducible exact shardlogref19_Small.mono _ _ _ _ _ _ _ _ _ _ _ _)
   | (with_reducible exact LeO.refl _)
   | (with_reducible exact LeO.none _)
   | (with_reducible refine LeO.ite ?_ ?_)
   | (with_reducible refine LeO.bind ?_ (fun _ => ?_))
   | exact LeO.none _
   | refine LeO.ite ?_ ?_
   | refine LeO.bind ?_ (fun _ => ?_)
  ·
   intro y0 y1 y2 y3 y4 y5 y6 y7 y8 y9 y10 y11 y12 y13
   unfold shardloglaw19_MsgPuts.j1
   repeat' first
   | (with_reducible exact ih0 _ _ _ _ _ _ _ _ _ _ _ _ _ _ _ _ _ _ _ _ _ _ _)
   | (with_reducible exact ih1 _ _ _ _ _ _ _ _ _ _ _ _ _ _)
   | (with_reducible exact msg_Put.mono _ _ _ _ _ _ _ _ _ _ _ _)
   | (with_reducible exact msg_Right.mono _ _ _ _ _ _ _ _ _ _ _ _)
   | (with_reducible exact msg_Same.mono _ _ _ _ _ _ _ _ _ _ _ _ _ _ _ _ _ _ _ _ _ _ _)
   | (with_reducible exact shardloglaw19_awake.mono _)
   | (with_reducible exact shardlogref19_Put.mono _ _ _ _ _ _ _ _ _ _ _ _)
   | (with_reducible exact shardlogref19_Right.mono _ _ _ _ _ _ _ _ _ _ _ _)
   | (with_reducible exact shardlogref19_Same.mono _ _ _ _ _ _ _ _ _ _ _ _ _ _ _ _ _ _ _ _ _ _ _)
   | (with_reducible exact shardlogref19_Small.mono _ _ _ _ _ _ _ _ _ _ _ _)
   | (with_reducible exact LeO.refl _)
   | (with_reducible exact LeO.none _)
   | (with_reducible refine LeO.ite ?_ ?_)
   | (with_reducible refine LeO.bind ?_ (fun _ => ?_))
   | exact LeO.none _
   | refine LeO.ite ?_ ?_
   | refine LeO.bind ?_ (fun _ => ?_)
theorem shardloglaw19_MsgPuts.mono : ∀ a0 a1 a2 a3 a4 a5 a6 a7 a8 a9 a10 a11 a12 a13 a14 a15 a16 a17 a18 a19 a20 a21 k, LeO (shardloglaw19_MsgPuts.f k a0 a1 a2 a3 a4 a5 a6 a7 a8 a9 a10 a11 a12 a13 a14 a15 a16 a17 a18 a19 a20 a21) (shardloglaw19_MsgPuts.f (k + 1) a0 a1 a2 a3 a4 a5 a6 a7 a8 a9 a10 a11 a12 a13 a14 a15 a16 a17 a18 a19 a20 a21) := by
 intro a0 a1 a2 a3 a4 a5 a6 a7 a8 a9 a10 a11 a12 a13 a14 a15 a16 a17 a18 a19 a20 a21 k
 obtain ⟨ih0, ih1⟩ := shardloglaw19_MsgPuts.mono_l k
 unfold shardloglaw19_MsgPuts.f
 repeat' first
   | (with_reducible exact ih0 _ _ _ _ _ _ _ _ _ _ _ _ _ _ _ _ _ _ _ _ _ _ _)
   | (with_reducible exact ih1 _ _ _ _ _ _ _ _ _ _ _ _ _ _)
   | (with_reducible exact msg_Put.mono _ _ _ _ _ _ _ _ _ _ _ _)
   | (with_reducible exact msg_Right.mono _ _ _ _ _ _ _ _ _ _ _ _)
   | (with_reducible exact msg_Same.mono _ _ _ _ _ _ _ _ _ _ _ _ _ _ _ _ _ _ _ _ _ _ _)
   | (with_reducible exact shardloglaw19_awake.mono _)
   | (with_reducible exact shardlogref19_Put.mono _ _ _ _ _ _ _ _ _ _ _ _)
   | (with_reducible exact shardlogref19_Right.mono _ _ _ _ _ _ _ _ _ _ _ _)
   | (with_reducible exact shardlogref19_Same.mono _ _ _ _ _ _ _ _ _ _ _ _ _ _ _ _ _ _ _ _ _ _ _)
   | (with_reducible exact shardlogref19_Small.mono _ _ _ _ _ _ _ _ _ _ _ _)
   | (with_reducible exact LeO.refl _)
   | (with_reducible exact LeO.none _)
   | (with_reducible refine LeO.ite ?_ ?_)
   | (with_reducible refine LeO.bind ?_ (fun _ => ?_))
   | exact LeO.none _
   | refine LeO.ite ?_ ?_
   | refine LeO.bind ?_ (fun _ => ?_)
def shardloglaw19_MsgPuts.T4 : Bool × List (List Nat × List Nat) := (true, [([], []), ([0], [0]), ([], []), ([2, 1], [2]), ([1, 3], [1, 3]), ([4, 3], [4]), ([5], [5]), ([5], [5]), ([6, 7, 5, 5], [5, 6, 7]), ([5], [5]), ([5], [5]), ([9, 10, 8, 5], [5, 9, 10]), ([8, 11, 5], [5, 8, 11]), ([5, 12], [5, 12]), ([13, 11], [13]), ([14], [14]), ([14], [14]), ([15, 16, 14, 14], [14, 15, 16]), ([17, 14], [14, 17]), ([14, 18], [14, 18])])
def shardloglaw19_MsgPuts.B4 : List Nat := [0, 1, 0, 7, 15, 31, 63, 63, 255, 63, 63, 2047, 4095, 8191, 16383, 32767, 32767, 131071, 262143, 524287]
theorem shardloglaw19_MsgPuts.tab4 : rtab .any (opsOf Try.f3 4) = shardloglaw19_MsgPuts.T4 := by kernel_rfl
theorem shardloglaw19_MsgPuts.bits4 : waitsOk shardloglaw19_MsgPuts.T4.2 shardloglaw19_MsgPuts.B4 = true := by kernel_rfl
set_option maxHeartbeats 8000000 in
set_option maxRecDepth 100000 in
theorem shardloglaw19_MsgPuts.calls (k : Nat) (a0_0 : Int) (a0_1 : Int) (a0_2 : Int) (a0_3 : Int) (a0_4 : Int) (a0_5 : Int) (a0_6 : Int) (a0_7 : Int) (a0_8 : Bool) (a0_9 : ByteArray) (A0_10 : Option Addr) (c0_10 : Nat) (l0_10 : List (S23)) (a1_0 : Int) (a1_1 : Int) (a1_2 : Int) (a1_3 : Int) (a1_4 : Int) (a1_5 : Int) (a1_6 : Int) (a1_7 : Int) (a1_8 : Bool) (a1_9 : ByteArray) (A1_10 : Option Addr) (c1_10 : Nat) (l1_10 : List (S23)) (r : Bool) (w : World) (hr0_10 : Kd.C k23 w A0_10 l0_10.length l0_10) (hc0_10 : l0_10.length ≤ c0_10) (hr1_10 : Kd.C k23 w A1_10 l1_10.length l1_10) (hc1_10 : l1_10.length ≤ c1_10) (h : shardloglaw19_MsgPuts.f k a0_0 a0_1 a0_2 a0_3 a0_4 a0_5 a0_6 a0_7 a0_8 a0_9 l0_10 a1_0 a1_1 a1_2 a1_3 a1_4 a1_5 a1_6 a1_7 a1_8 a1_9 l1_10 = some r) :
  Calls Try.prog 3 #[.agg #[.int .i64 a0_0, .int .i64 a0_1, .int .i64 a0_2, .int .i64 a0_3, .int .i64 a0_4, .int .i64 a0_5, .int .i64 a0_6, .int .i64 a0_7, .bool a0_8, .string a0_9, .slice A0_10 l0_10.length c0_10], .agg #[.int .i64 a1_0, .int .i64 a1_1, .int .i64 a1_2, .int .i64 a1_3, .int .i64 a1_4, .int .i64 a1_5, .int .i64 a1_6, .int .i64 a1_7, .bool a1_8, .string a1_9, .slice A1_10 l1_10.length c1_10]] w fun e w' => e = .returned (.bool r) ∧ Below w.heap.size w w' := by
 have hu26 := Try.underlying26
 have HR0_10 := aS hr0_10
 have HC0_10 := aS hc0_10
 clear hr0_10 hc0_10
 have HR1_10 := aS hr1_10
 have HC1_10 := aS hc1_10
 clear hr1_10 hc1_10
 have HB := aS (Below.refl w.heap.size w)
 have H : ((shardloglaw19_awake.f k).bind fun t528 => (if t528 = true then ((shardlogref19_Small.f k a0_0 a0_1 a0_2 a0_3 a0_4 a0_5 a0_6 a0_7 a0_8 a0_9 l0_10).bind fun t529 => (if t529 = true then ((shardlogref19_Small.f k a1_0 a1_1 a1_2 a1_3 a1_4 a1_5 a1_6 a1_7 a1_8 a1_9 l1_10).bind fun t530 => (shardloglaw19_MsgPuts.j0 k (!t530) a0_0 a0_1 a0_2 a0_3 a0_4 a0_5 a0_6 a0_7 a0_8 a0_9 l0_10 a1_0 a1_1 a1_2 a1_3 a1_4 a1_5 a1_6 a1_7 a1_8 a1_9 l1_10)) else (shardloglaw19_MsgPuts.j0 k true a0_0 a0_1 a0_2 a0_3 a0_4 a0_5 a0_6 a0_7 a0_8 a0_9 l0_10 a1_0 a1_1 a1_2 a1_3 a1_4 a1_5 a1_6 a1_7 a1_8 a1_9 l1_10))) else (shardloglaw19_MsgPuts.j0 k true a0_0 a0_1 a0_2 a0_3 a0_4 a0_5 a0_6 a0_7 a0_8 a0_9 l0_10 a1_0 a1_1 a1_2 a1_3 a1_4 a1_5 a1_6 a1_7 a1_8 a1_9 l1_10))) = some r := h
 clear h
 have HC3 := aS H
 clear H
 go_enter Try.func3, Try.ntmps3
 go_upto_region 1 with (first | ((with_reducible refine gate_dst (N := 2) rfl ?_); (try (refine gate_guard (by rfl) ?_; dsimp only)); refine box_event ?hg (N := 2) ?hd (cs := #[.int .i64 a0_0, .int .i64 a0_1, .int .i64 a0_2, .int .i64 a0_3, .int .i64 a0_4, .int .i64 a0_5, .int .i64 a0_6, .int .i64 a0_7, .bool a0_8, .string a0_9, .slice A0_10 l0_10.length c0_10]) (t := 26) ?hr ?_; (case hd => rfl); (case hg => rfl); (case hr => first | (go_simp; done) | (go_simp; rfl)); intro gb526 hg w4 hbox hb; have n0_ := bstep hb; have n1_ := aS (hbox); have n2_ := bsize hg; have n3_ := bsize hg; clear HB; have HB := n0_; have BK526 := n1_; have GW526 := n2_; have GE526 := n3_; clear n0_ n1_ n2_ n3_; clear hb hbox hg) | ((with_reducible refine gate_dst (N := 3) rfl ?_); (try (refine gate_guard (by rfl) ?_; dsimp only)); refine box_event ?hg (N := 3) ?hd (cs := #[.int .i64 a1_0, .int .i64 a1_1, .int .i64 a1_2, .int .i64 a1_3, .int .i64 a1_4, .int .i64 a1_5, .int .i64 a1_6, .int .i64 a1_7, .bool a1_8, .string a1_9, .slice A1_10 l1_10.length c1_10]) (t := 26) ?hr ?_; (case hd => rfl); (case hg => rfl); (case hr => first | (go_simp; done) | (go_simp; rfl)); intro gb527 hg w5 hbox hb; have n0_ := aS (blk_below (g := gb526) (o := .cells #[.int .i64 a0_0, .int .i64 a0_1, .int .i64 a0_2, .int .i64 a0_3, .int .i64 a0_4, .int .i64 a0_5, .int .i64 a0_6, .int .i64 a0_7, .bool a0_8, .string a0_9, .slice A0_10 l0_10.length c0_10] 26 (0, 0)) (bkl BK526.out) hb); have n1_ := bstep hb; have n2_ := aS (hbox); have n3_ := bsize hg; have n4_ := bsize hg; have n5_ := aS ((by rw [hg]; exact Nat.ne_of_lt (blk_lt (g := gb526) (o := .cells #[.int .i64 a0_0, .int .i64 a0_1, .int .i64 a0_2, .int .i64 a0_3, .int .i64 a0_4, .int .i64 a0_5, .int .i64 a0_6, .int .i64 a0_7, .bool a0_8, .string a0_9, .slice A0_10 l0_10.length c0_10] 26 (0, 0)) (bkl BK526.out)) : gb526 ≠ gb527)); have n6_ := aS ((by rw [hg]; exact Nat.ne_of_gt (blk_lt (g := gb526) (o := .cells #[.int .i64 a0_0, .int .i64 a0_1, .int .i64 a0_2, .int .i64 a0_3, .int .i64 a0_4, .int .i64 a0_5, .int .i64 a0_6, .int .i64 a0_7, .bool a0_8, .string a0_9, .slice A0_10 l0_10.length c0_10] 26 (0, 0)) (bkl BK526.out)) : gb527 ≠ gb526)); clear BK526; clear HB; have BK526 := n0_; have HB := n1_; have BK527 := n2_; have GW527 := n3_; have GE527 := n4_; have NB526_527 := n5_; have NB527_526 := n6_; clear n0_ n1_ n2_ n3_ n4_ n5_ n6_; clear hb hbox hg))
 (try simp only [Act.put, lsa, lsz, lss])
 go_cut [18] (fun v18 wc => ∃ (kq : Nat) (x18_2 : Bool), v18 = .bool x18_2 ∧ Aside0 (shardloglaw19_MsgPuts.j0 kq x18_2 a0_0 a0_1 a0_2 a0_3 a0_4 a0_5 a0_6 a0_7 a0_8 a0_9 l0_10 a1_0 a1_1 a1_2 a1_3 a1_4 a1_5 a1_6 a1_7 a1_8 a1_9 l1_10 = some r) ∧ Aside0 (kq ≤ k) ∧ Aside0 (wc.heap[gb526]? = some (.cells #[.int .i64 a0_0, .int .i64 a0_1, .int .i64 a0_2, .int .i64 a0_3, .int .i64 a0_4, .int .i64 a0_5, .int .i64 a0_6, .int .i64 a0_7, .bool a0_8, .string a0_9, (.slice A0_10 l0_10.length c0_10)] 26 (0, 0))) ∧ Aside0 (wc.heap[gb527]? = some (.cells #[.int .i64 a1_0, .int .i64 a1_1, .int .i64 a1_2, .int .i64 a1_3, .int .i64 a1_4, .int .i64 a1_5, .int .i64 a1_6, .int .i64 a1_7, .bool a1_8, .string a1_9, (.slice A1_10 l1_10.length c1_10)] 26 (0, 0))) ∧ Aside0 (Below w.heap.size w wc))
 case first =>
  have H := HC3.out; clear HC3
  replace H := obm H
  obtain ⟨t528, A60, H⟩ := H
  replace H : (if t528 = true then ((shardlogref19_Small.f k a0_0 a0_1 a0_2 a0_3 a0_4 a0_5 a0_6 a0_7 a0_8 a0_9 l0_10).bind fun t529 => (if t529 = true then ((shardlogref19_Small.f k a1_0 a1_1 a1_2 a1_3 a1_4 a1_5 a1_6 a1_7 a1_8 a1_9 l1_10).bind fun t530 => (shardloglaw19_MsgPuts.j0 k (!t530) a0_0 a0_1 a0_2 a0_3 a0_4 a0_5 a0_6 a0_7 a0_8 a0_9 l0_10 a1_0 a1_1 a1_2 a1_3 a1_4 a1_5 a1_6 a1_7 a1_8 a1_9 l1_10)) else (shardloglaw19_MsgPuts.j0 k true a0_0 a0_1 a0_2 a0_3 a0_4 a0_5 a0_6 a0_7 a0_8 a0_9 l0_10 a1_0 a1_1 a1_2 a1_3 a1_4 a1_5 a1_6 a1_7 a1_8 a1_9 l1_10))) else (shardloglaw19_MsgPuts.j0 k true a0_0 a0_1 a0_2 a0_3 a0_4 a0_5 a0_6 a0_7 a0_8 a0_9 l0_10 a1_0 a1_1 a1_2 a1_3 a1_4 a1_5 a1_6 a1_7 a1_8 a1_9 l1_10)) = some r := H
  have A6 := aS A60
  clear A60
  by_cases c7 : t528 = true
  ·
   subst c7
   have H1 : ((shardlogref19_Small.f k a0_0 a0_1 a0_2 a0_3 a0_4 a0_5 a0_6 a0_7 a0_8 a0_9 l0_10).bind fun t529 => (if t529 = true then ((shardlogref19_Small.f k a1_0 a1_1 a1_2 a1_3 a1_4 a1_5 a1_6 a1_7 a1_8 a1_9 l1_10).bind fun t530 => (shardloglaw19_MsgPuts.j0 k (!t530) a0_0 a0_1 a0_2 a0_3 a0_4 a0_5 a0_6 a0_7 a0_8 a0_9 l0_10 a1_0 a1_1 a1_2 a1_3 a1_4 a1_5 a1_6 a1_7 a1_8 a1_9 l1_10)) else (shardloglaw19_MsgPuts.j0 k true a0_0 a0_1 a0_2 a0_3 a0_4 a0_5 a0_6 a0_7 a0_8 a0_9 l0_10 a1_0 a1_1 a1_2 a1_3 a1_4 a1_5 a1_6 a1_7 a1_8 a1_9 l1_10))) = some r := by rw [if_pos rfl] at H; exact H
   clear H; have H := H1; clear H1
   replace H := obm H
   obtain ⟨t529, A80, H⟩ := H
   replace H : (if t529 = true then ((shardlogref19_Small.f k a1_0 a1_1 a1_2 a1_3 a1_4 a1_5 a1_6 a1_7 a1_8 a1_9 l1_10).bind fun t530 => (shardloglaw19_MsgPuts.j0 k (!t530) a0_0 a0_1 a0_2 a0_3 a0_4 a0_5 a0_6 a0_7 a0_8 a0_9 l0_10 a1_0 a1_1 a1_2 a1_3 a1_4 a1_5 a1_6 a1_7 a1_8 a1_9 l1_10)) else (shardloglaw19_MsgPuts.j0 k true a0_0 a0_1 a0_2 a0_3 a0_4 a0_5 a0_6 a0_7 a0_8 a0_9 l0_10 a1_0 a1_1 a1_2 a1_3 a1_4 a1_5 a1_6 a1_7 a1_8 a1_9 l1_10)) = some r := H
   have A8 := aS A80
   clear A80
   by_cases c9 : t529 = true
   ·
    subst c9
    have H1 : ((shardlogref19_Small.f k a1_0 a1_1 a1_2 a1_3 a1_4 a1_5 a1_6 a1_7 a1_8 a1_9 l1_10).bind fun t530 => (shardloglaw19_MsgPuts.j0 k (!t530) a0_0 a0_1 a0_2 a0_3 a0_4 a0_5 a0_6 a0_7 a0_8 a0_9 l0_10 a1_0 a1_1 a1_2 a1_3 a1_4 a1_5 a1_6 a1_7 a1_8 a1_9 l1_10)) = some r := by rw [if_pos rfl] at H; exact H
    clear H; have H := H1; clear H1
    replace H := obm H
    obtain ⟨t530, A100, H⟩ := H
    replace H : (shardloglaw19_MsgPuts.j0 k (!t530) a0_0 a0_1 a0_2 a0_3 a0_4 a0_5 a0_6 a0_7 a0_8 a0_9 l0_10 a1_0 a1_1 a1_2 a1_3 a1_4 a1_5 a1_6 a1_7 a1_8 a1_9 l1_10) = some r := H
    have A10 := aS A100
    clear A100
    have H' := aS H
    clear H
    go_wp2_with (first | ((with_reducible refine gate_callee (f := 7) rfl ?_); refine goesL_ (some 7) rfl rfl Try.func7 (by kernel_rfl) rfl #[] rfl agn ?_; (with_reducible refine (shardloglaw19_awake.calls k  true _ A6.out).mono ?_); rintro e w11 ⟨rfl, hb⟩; refine ⟨_, rfl, ?_⟩; have n0_ := aS (blk_below (g := gb526) (o := .cells #[.int .i64 a0_0, .int .i64 a0_1, .int .i64 a0_2, .int .i64 a0_3, .int .i64 a0_4, .int .i64 a0_5, .int .i64 a0_6, .int .i64 a0_7, .bool a0_8, .string a0_9, .slice A0_10 l0_10.length c0_10] 26 (0, 0)) (bkl BK526.out) hb); have n1_ := aS (blk_below (g := gb527) (o := .cells #[.int .i64 a1_0, .int .i64 a1_1, .int .i64 a1_2, .int .i64 a1_3, .int .i64 a1_4, .int .i64 a1_5, .int .i64 a1_6, .int .i64 a1_7, .bool a1_8, .string a1_9, .slice A1_10 l1_10.length c1_10] 26 (0, 0)) (bkl BK527.out) hb); have n2_ := bstep hb; clear BK526; clear BK527; clear HB; have BK526 := n0_; have BK527 := n1_; have HB := n2_; clear n0_ n1_ n2_; (try clear hb); (try clear hb2); (try clear hk); (try clear hi); have hnb12 := NB526_527.out; have hnc12 := NB527_526.out; have hcz13 := cK11 BK526) | (go_at_call 8; (with_reducible refine (shardlogref19_Small.calls k a0_0 a0_1 a0_2 a0_3 a0_4 a0_5 a0_6 a0_7 a0_8 a0_9 _ _ l0_10 true _ ?side1 ?side2 A8.out).mono ?_); (case side1 => exact cel (Kd.C_below HR0_10.out HB.out)); (case side2 => exact HC0_10.out); rintro e w14 ⟨rfl, hb⟩; have n0_ := aS (blk_below (g := gb526) (o := .cells #[.int .i64 a0_0, .int .i64 a0_1, .int .i64 a0_2, .int .i64 a0_3, .int .i64 a0_4, .int .i64 a0_5, .int .i64 a0_6, .int .i64 a0_7, .bool a0_8, .string a0_9, .slice A0_10 l0_10.length c0_10] 26 (0, 0)) (bkl BK526.out) hb); have n1_ := aS (blk_below (g := gb527) (o := .cells #[.int .i64 a1_0, .int .i64 a1_1, .int .i64 a1_2, .int .i64 a1_3, .int .i64 a1_4, .int .i64 a1_5, .int .i64 a1_6, .int .i64 a1_7, .bool a1_8, .string a1_9, .slice A1_10 l1_10.length c1_10] 26 (0, 0)) (bkl BK527.out) hb); have n2_ := bstep hb; clear BK526; clear BK527; clear HB; have BK526 := n0_; have BK527 := n1_; have HB := n2_; clear n0_ n1_ n2_; (try clear hb); (try clear hb2); (try clear hk); (try clear hi); have hcz15 := cK11 BK527) | (go_at_call 8; (with_reducible refine (shardlogref19_Small.calls k a1_0 a1_1 a1_2 a1_3 a1_4 a1_5 a1_6 a1_7 a1_8 a1_9 _ _ l1_10 t530 _ ?side1 ?side2 A10.out).mono ?_); (case side1 => exact cel (Kd.C_below HR1_10.out HB.out)); (case side2 => exact HC1_10.out); rintro e w16 ⟨rfl, hb⟩; have n0_ := aS (blk_below (g := gb526) (o := .cells #[.int .i64 a0_0, .int .i64 a0_1, .int .i64 a0_2, .int .i64 a0_3, .int .i64 a0_4, .int .i64 a0_5, .int .i64 a0_6, .int .i64 a0_7, .bool a0_8, .string a0_9, .slice A0_10 l0_10.length c0_10] 26 (0, 0)) (bkl BK526.out) hb); have n1_ := aS (blk_below (g := gb527) (o := .cells #[.int .i64 a1_0, .int .i64 a1_1, .int .i64 a1_2, .int .i64 a1_3, .int .i64 a1_4, .int .i64 a1_5, .int .i64 a1_6, .int .i64 a1_7, .bool a1_8, .string a1_9, .slice A1_10 l1_10.length c1_10] 26 (0, 0)) (bkl BK527.out) hb); have n2_ := bstep hb; clear BK526; clear BK527; clear HB; have BK526 := n0_; have BK527 := n1_; have HB := n2_; clear n0_ n1_ n2_; (try clear hb); (try clear hb2); (try clear hk); (try clear hi)))
    go_meet
    case rel => exact ⟨_, (!t530), (by first | rfl | (simp; done) | (simp [*]; done) | (simp; exact (by decide : ∀ a_ b_ : Bool, (a_ == b_) = (!a_ != b_)) _ _)), H', ⟨by first | omega | exact Nat.le_refl _⟩, ⟨by (with_reducible repeat (first | refine blk_drewN ?_ _ | refine blk_drew ?_ | refine blk_alloc ?_ _)); exact BK526.out⟩, ⟨by (with_reducible repeat (first | refine blk_drewN ?_ _ | refine blk_drew ?_ | refine blk_alloc ?_ _)); exact BK527.out⟩, ⟨bel⟩⟩
   ·
    replace c9 := Bool.eq_false_iff.mpr c9
    subst c9
    have H1 : (shardloglaw19_MsgPuts.j0 k true a0_0 a0_1 a0_2 a0_3 a0_4 a0_5 a0_6 a0_7 a0_8 a0_9 l0_10 a1_0 a1_1 a1_2 a1_3 a1_4 a1_5 a1_6 a1_7 a1_8 a1_9 l1_10) = some r := by rw [if_neg (show ¬ (false = true) by decide)] at H; exact H
    clear H; have H := H1; clear H1
    have H' := aS H
    clear H
    go_wp2_with (first | ((with_reducible refine gate_callee (f := 7) rfl ?_); refine goesL_ (some 7) rfl rfl Try.func7 (by kernel_rfl) rfl #[] rfl agn ?_; (with_reducible refine (shardloglaw19_awake.calls k  true _ A6.out).mono ?_); rintro e w17 ⟨rfl, hb⟩; refine ⟨_, rfl, ?_⟩; have n0_ := aS (blk_below (g := gb526) (o := .cells #[.int .i64 a0_0, .int .i64 a0_1, .int .i64 a0_2, .int .i64 a0_3, .int .i64 a0_4, .int .i64 a0_5, .int .i64 a0_6, .int .i64 a0_7, .bool a0_8, .string a0_9, .slice A0_10 l0_10.length c0_10] 26 (0, 0)) (bkl BK526.out) hb); have n1_ := aS (blk_below (g := gb527) (o := .cells #[.int .i64 a1_0, .int .i64 a1_1, .int .i64 a1_2, .int .i64 a1_3, .int .i64 a1_4, .int .i64 a1_5, .int .i64 a1_6, .int .i64 a1_7, .bool a1_8, .string a1_9, .slice A1_10 l1_10.length c1_10] 26 (0, 0)) (bkl BK527.out) hb); have n2_ := bstep hb; clear BK526; clear BK527; clear HB; have BK526 := n0_; have BK527 := n1_; have HB := n2_; clear n0_ n1_ n2_; (try clear hb); (try clear hb2); (try clear hk); (try clear hi); have hnb18 := NB526_527.out; have hnc18 := NB527_526.out; have hcz19 := cK11 BK526) | (go_at_call 8; (with_reducible refine (shardlogref19_Small.calls k a0_0 a0_1 a0_2 a0_3 a0_4 a0_5 a0_6 a0_7 a0_8 a0_9 _ _ l0_10 false _ ?side1 ?side2 A8.out).mono ?_); (case side1 => exact cel (Kd.C_below HR0_10.out HB.out)); (case side2 => exact HC0_10.out); rintro e w20 ⟨rfl, hb⟩; have n0_ := aS (blk_below (g := gb526) (o := .cells #[.int .i64 a0_0, .int .i64 a0_1, .int .i64 a0_2, .int .i64 a0_3, .int .i64 a0_4, .int .i64 a0_5, .int .i64 a0_6, .int .i64 a0_7, .bool a0_8, .string a0_9, .slice A0_10 l0_10.length c0_10] 26 (0, 0)) (bkl BK526.out) hb); have n1_ := aS (blk_below (g := gb527) (o := .cells #[.int .i64 a1_0, .int .i64 a1_1, .int .i64 a1_2, .int .i64 a1_3, .int .i64 a1_4, .int .i64 a1_5, .int .i64 a1_6, .int .i64 a1_7, .bool a1_8, .string a1_9, .slice A1_10 l1_10.length c1_10] 26 (0, 0)) (bkl BK527.out) hb); have n2_ := bstep hb; clear BK526; clear BK527; clear HB; have BK526 := n0_; have BK527 := n1_; have HB := n2_; clear n0_ n1_ n2_; (try clear hb); (try clear hb2); (try clear hk); (try clear hi)))
    go_meet
    case rel => exact ⟨_, (true), (by first | rfl | (simp; done) | (simp [*]; done) | (simp; exact (by decide : ∀ a_ b_ : Bool, (a_ == b_) = (!a_ != b_)) _ _)), H', ⟨by first | omega | exact Nat.le_refl _⟩, ⟨by (with_reducible repeat (first | refine blk_drewN ?_ _ | refine blk_drew ?_ | refine blk_alloc ?_ _)); exact BK526.out⟩, ⟨by (with_reducible repeat (first | refine blk_drewN ?_ _ | refine blk_drew ?_ | refine blk_alloc ?_ _)); exact BK527.out⟩, ⟨bel⟩⟩
  ·
   replace c7 := Bool.eq_false_iff.mpr c7
   subst c7
   have H1 : (shardloglaw19_MsgPuts.j0 k true a0_0 a0_1 a0_2 a0_3 a0_4 a0_5 a0_6 a0_7 a0_8 a0_9 l0_10 a1_0 a1_1 a1_2 a1_3 a1_4 a1_5 a1_6 a1_7 a1_8 a1_9 l1_10) = some r := by rw [if_neg (show ¬ (false = true) by decide)] at H; exact H
   clear H; have H := H1; clear H1
   have H' := aS H
   clear H
   go_wp2_with (first | ((with_reducible refine gate_callee (f := 7) rfl ?_); refine goesL_ (some 7) rfl rfl Try.func7 (by kernel_rfl) rfl #[] rfl agn ?_; (with_reducible refine (shardloglaw19_awake.calls k  false _ A6.out).mono ?_); rintro e w21 ⟨rfl, hb⟩; refine ⟨_, rfl, ?_⟩; have n0_ := aS (blk_below (g := gb526) (o := .cells #[.int .i64 a0_0, .int .i64 a0_1, .int .i64 a0_2, .int .i64 a0_3, .int .i64 a0_4, .int .i64 a0_5, .int .i64 a0_6, .int .i64 a0_7, .bool a0_8, .string a0_9, .slice A0_10 l0_10.length c0_10] 26 (0, 0)) (bkl BK526.out) hb); have n1_ := aS (blk_below (g := gb527) (o := .cells #[.int .i64 a1_0, .int .i64 a1_1, .int .i64 a1_2, .int .i64 a1_3, .int .i64 a1_4, .int .i64 a1_5, .int .i64 a1_6, .int .i64 a1_7, .bool a1_8, .string a1_9, .slice A1_10 l1_10.length c1_10] 26 (0, 0)) (bkl BK527.out) hb); have n2_ := bstep hb; clear BK526; clear BK527; clear HB; have BK526 := n0_; have BK527 := n1_; have HB := n2_; clear n0_ n1_ n2_; (try clear hb); (try clear hb2); (try clear hk); (try clear hi)))
   go_meet
   case rel => exact ⟨_, (true), (by first | rfl | (simp; done) | (simp [*]; done) | (simp; exact (by decide : ∀ a_ b_ : Bool, (a_ == b_) = (!a_ != b_)) _ _)), H', ⟨by first | omega | exact Nat.le_refl _⟩, ⟨by (with_reducible repeat (first | refine blk_drewN ?_ _ | refine blk_drew ?_ | refine blk_alloc ?_ _)); exact BK526.out⟩, ⟨by (with_reducible repeat (first | refine blk_drewN ?_ _ | refine blk_drew ?_ | refine blk_alloc ?_ _)); exact BK527.out⟩, ⟨bel⟩⟩
 case rest =>
  clear HC3; (try clear c1); (try clear p2); (try clear c3); (try clear c7); (try clear c9); (try clear c12); (try clear c18); (try clear hcz13); (try clear hcz15); (try clear hcz19)
  obtain ⟨kq, x18_2, rfl, HA, HJ2, BK526, BK527, HB⟩ := hcut
  cases kq with
  | zero => exact absurd HA.out (by simp [shardloglaw19_MsgPuts.j0])
  | succ kj2 =>
   have H := HA.out; clear HA
   simp only [shardloglaw19_MsgPuts.j0] at H
   by_cases c22 : x18_2 = true
   ·
    subst c22
    have H1 : ((shardloglaw19_awake.f kj2).bind fun t531 => (some t531)) = some r := by rw [if_pos rfl] at H; exact H
    clear H; have H := H1; clear H1
    replace H := obm H
    obtain ⟨t531, A230, H⟩ := H
    replace H : (some t531) = some r := H
    have A23 := aS A230
    clear A230
    obtain rfl := Option.some.inj H
    go_wp2_with (first | ((with_reducible refine gate_callee (f := 7) rfl ?_); refine goesL_ (some 19) rfl rfl Try.func7 (by kernel_rfl) rfl #[] rfl agn ?_; (with_reducible refine (shardloglaw19_awake.calls kj2  t531 _ A23.out).mono ?_); rintro e w24 ⟨rfl, hb⟩; refine ⟨_, rfl, ?_⟩; have n0_ := aS (blk_below (g := gb526) (o := .cells #[.int .i64 a0_0, .int .i64 a0_1, .int .i64 a0_2, .int .i64 a0_3, .int .i64 a0_4, .int .i64 a0_5, .int .i64 a0_6, .int .i64 a0_7, .bool a0_8, .string a0_9, .slice A0_10 l0_10.length c0_10] 26 (0, 0)) (bkl BK526.out) hb); have n1_ := aS (blk_below (g := gb527) (o := .cells #[.int .i64 a1_0, .int .i64 a1_1, .int .i64 a1_2, .int .i64 a1_3, .int .i64 a1_4, .int .i64 a1_5, .int .i64 a1_6, .int .i64 a1_7, .bool a1_8, .string a1_9, .slice A1_10 l1_10.length c1_10] 26 (0, 0)) (bkl BK527.out) hb); have n2_ := bstep hb; clear BK526; clear BK527; clear HB; have BK526 := n0_; have BK527 := n1_; have HB := n2_; clear n0_ n1_ n2_; (try clear hb); (try clear hb2); (try clear hk); (try clear hi)))
    go_ret
    exact ⟨rf3, bel⟩
   ·
    replace c22 := Bool.eq_false_iff.mpr c22
    subst c22
    have H1 : ((msg_Put.f kj2 a0_0 a0_1 a0_2 a0_3 a0_4 a0_5 a0_6 a0_7 a0_8 a0_9 l0_10).bind fun bt532 => ((msg_Right.f kj2 a0_0 a0_1 a0_2 a0_3 a0_4 a0_5 a0_6 a0_7 a0_8 a0_9 l0_10).bind fun t536 => ((shardlogref19_Right.f kj2 a0_0 a0_1 a0_2 a0_3 a0_4 a0_5 a0_6 a0_7 a0_8 a0_9 l0_10).bind fun t537 => (if (t536 != t537) = true then (shardloglaw19_MsgPuts.j1 kj2 bt532.1 bt532.2 true a0_0 a0_1 a0_2 a0_3 a0_4 a0_5 a0_6 a0_7 a0_8 a0_9 l0_10) else ((msg_Same.f kj2 a0_0 a0_1 a0_2 a0_3 a0_4 a0_5 a0_6 a0_7 a0_8 a0_9 l0_10 a1_0 a1_1 a1_2 a1_3 a1_4 a1_5 a1_6 a1_7 a1_8 a1_9 l1_10).bind fun t538 => ((shardlogref19_Same.f kj2 a0_0 a0_1 a0_2 a0_3 a0_4 a0_5 a0_6 a0_7 a0_8 a0_9 l0_10 a1_0 a1_1 a1_2 a1_3 a1_4 a1_5 a1_6 a1_7 a1_8 a1_9 l1_10).bind fun t539 => (if (t538 != t539) = true then (shardloglaw19_MsgPuts.j1 kj2 bt532.1 bt532.2 true a0_0 a0_1 a0_2 a0_3 a0_4 a0_5 a0_6 a0_7 a0_8 a0_9 l0_10) else ((msg_Same.f kj2 a0_0 a0_1 a0_2 a0_3 a0_4 a0_5 a0_6 a0_7 a0_8 a0_9 l0_10 a0_0 a0_1 a0_2 a0_3 a0_4 a0_5 a0_6 a0_7 a0_8 a0_9 l0_10).bind fun t540 => (shardloglaw19_MsgPuts.j1 kj2 bt532.1 bt532.2 (!t540) a0_0 a0_1 a0_2 a0_3 a0_4 a0_5 a0_6 a0_7 a0_8 a0_9 l0_10))))))))) = some r := by rw [if_neg (show ¬ (false = true) by decide)] at H; exact H
    clear H; have H := H1; clear H1
    replace H := obm H
    obtain ⟨⟨t532, t535⟩, A250, H⟩ := H
    replace H : ((msg_Right.f kj2 a0_0 a0_1 a0_2 a0_3 a0_4 a0_5 a0_6 a0_7 a0_8 a0_9 l0_10).bind fun t536 => ((shardlogref19_Right.f kj2 a0_0 a0_1 a0_2 a0_3 a0_4 a0_5 a0_6 a0_7 a0_8 a0_9 l0_10).bind fun t537 => (if (t536 != t537) = true then (shardloglaw19_MsgPuts.j1 kj2 t532 t535 true a0_0 a0_1 a0_2 a0_3 a0_4 a0_5 a0_6 a0_7 a0_8 a0_9 l0_10) else ((msg_Same.f kj2 a0_0 a0_1 a0_2 a0_3 a0_4 a0_5 a0_6 a0_7 a0_8 a0_9 l0_10 a1_0 a1_1 a1_2 a1_3 a1_4 a1_5 a1_6 a1_7 a1_8 a1_9 l1_10).bind fun t538 => ((shardlogref19_Same.f kj2 a0_0 a0_1 a0_2 a0_3 a0_4 a0_5 a0_6 a0_7 a0_8 a0_9 l0_10 a1_0 a1_1 a1_2 a1_3 a1_4 a1_5 a1_6 a1_7 a1_8 a1_9 l1_10).bind fun t539 => (if (t538 != t539) = true then (shardloglaw19_MsgPuts.j1 kj2 t532 t535 true a0_0 a0_1 a0_2 a0_3 a0_4 a0_5 a0_6 a0_7 a0_8 a0_9 l0_10) else ((msg_Same.f kj2 a0_0 a0_1 a0_2 a0_3 a0_4 a0_5 a0_6 a0_7 a0_8 a0_9 l0_10 a0_0 a0_1 a0_2 a0_3 a0_4 a0_5 a0_6 a0_7 a0_8 a0_9 l0_10).bind fun t540 => (shardloglaw19_MsgPuts.j1 kj2 t532 t535 (!t540) a0_0 a0_1 a0_2 a0_3 a0_4 a0_5 a0_6 a0_7 a0_8 a0_9 l0_10)))))))) = some r := H
    have A25 := aS A250
    clear A250
    have HC26 := aS H
    clear H; have hnb27 := NB526_527.out; have hnc27 := NB527_526.out
    have hcz28 := cK11 BK526
    go_upto_region 4 with (first | ((with_reducible refine gate_callee (f := 9) rfl ?_); refine goesL_ (some 22) rfl rfl Try.func9 (by kernel_rfl) rfl #[.agg #[.int .i64 a0_0, .int .i64 a0_1, .int .i64 a0_2, .int .i64 a0_3, .int .i64 a0_4, .int .i64 a0_5, .int .i64 a0_6, .int .i64 a0_7, .bool a0_8, .string a0_9, .slice A0_10 l0_10.length c0_10]] rfl agn ?_; (with_reducible refine (msg_Put.calls kj2 a0_0 a0_1 a0_2 a0_3 a0_4 a0_5 a0_6 a0_7 a0_8 a0_9 _ _ l0_10 t532 t535 _ ?side1 ?side2 A25.out).mono ?_); (case side1 => exact cel (Kd.C_below HR0_10.out HB.out)); (case side2 => exact HC0_10.out); rintro e w29 ⟨v533, rfl, ho0, hb⟩; refine ⟨_, rfl, ?_⟩; have n0_ := aS (Kd.R_lower ho0 (below_size bel)); have n1_ := aS (blk_below (g := gb526) (o := .cells #[.int .i64 a0_0, .int .i64 a0_1, .int .i64 a0_2, .int .i64 a0_3, .int .i64 a0_4, .int .i64 a0_5, .int .i64 a0_6, .int .i64 a0_7, .bool a0_8, .string a0_9, .slice A0_10 l0_10.length c0_10] 26 (0, 0)) (bkl BK526.out) hb); have n2_ := aS (blk_below (g := gb527) (o := .cells #[.int .i64 a1_0, .int .i64 a1_1, .int .i64 a1_2, .int .i64 a1_3, .int .i64 a1_4, .int .i64 a1_5, .int .i64 a1_6, .int .i64 a1_7, .bool a1_8, .string a1_9, .slice A1_10 l1_10.length c1_10] 26 (0, 0)) (bkl BK527.out) hb); have n3_ := bstep hb; clear BK526; clear BK527; clear HB; have HO534 := n0_; have BK526 := n1_; have BK527 := n2_; have HB := n3_; clear n0_ n1_ n2_ n3_; (try clear hb); (try clear hb2); (try clear hk); (try clear hi); (try clear ho0)))
    (try simp only [Act.put, lsa, lsz, lss])
    go_cut [44] (fun v44 wc => ∃ (kq : Nat) (x44_25 : Bool), v44 = .bool x44_25 ∧ Aside0 (shardloglaw19_MsgPuts.j1 kq t532 t535 x44_25 a0_0 a0_1 a0_2 a0_3 a0_4 a0_5 a0_6 a0_7 a0_8 a0_9 l0_10 = some r) ∧ Aside0 (kq ≤ kj2) ∧ Aside0 (Kd.R (Kd.int .u8) 5 wc w.heap.size (fun _ => True) v533 t532) ∧ Aside0 (wc.heap[gb526]? = some (.cells #[.int .i64 a0_0, .int .i64 a0_1, .int .i64 a0_2, .int .i64 a0_3, .int .i64 a0_4, .int .i64 a0_5, .int .i64 a0_6, .int .i64 a0_7, .bool a0_8, .string a0_9, (.slice A0_10 l0_10.length c0_10)] 26 (0, 0))) ∧ Aside0 (wc.heap[gb527]? = some (.cells #[.int .i64 a1_0, .int .i64 a1_1, .int .i64 a1_2, .int .i64 a1_3, .int .i64 a1_4, .int .i64 a1_5, .int .i64 a1_6, .int .i64 a1_7, .bool a1_8, .string a1_9, (.slice A1_10 l1_10.length c1_10)] 26 (0, 0))) ∧ Aside0 (Below w.heap.size w wc))
    case first =>
     have H := HC26.out; clear HC26
     replace H := obm H
     obtain ⟨t536, A300, H⟩ := H
     replace H : ((shardlogref19_Right.f kj2 a0_0 a0_1 a0_2 a0_3 a0_4 a0_5 a0_6 a0_7 a0_8 a0_9 l0_10).bind fun t537 => (if (t536 != t537) = true then (shardloglaw19_MsgPuts.j1 kj2 t532 t535 true a0_0 a0_1 a0_2 a0_3 a0_4 a0_5 a0_6 a0_7 a0_8 a0_9 l0_10) else ((msg_Same.f kj2 a0_0 a0_1 a0_2 a0_3 a0_4 a0_5 a0_6 a0_7 a0_8 a0_9 l0_10 a1_0 a1_1 a1_2 a1_3 a1_4 a1_5 a1_6 a1_7 a1_8 a1_9 l1_10).bind fun t538 => ((shardlogref19_Same.f kj2 a0_0 a0_1 a0_2 a0_3 a0_4 a0_5 a0_6 a0_7 a0_8 a0_9 l0_10 a1_0 a1_1 a1_2 a1_3 a1_4 a1_5 a1_6 a1_7 a1_8 a1_9 l1_10).bind fun t539 => (if (t538 != t539) = true then (shardloglaw19_MsgPuts.j1 kj2 t532 t535 true a0_0 a0_1 a0_2 a0_3 a0_4 a0_5 a0_6 a0_7 a0_8 a0_9 l0_10) else ((msg_Same.f kj2 a0_0 a0_1 a0_2 a0_3 a0_4 a0_5 a0_6 a0_7 a0_8 a0_9 l0_10 a0_0 a0_1 a0_2 a0_3 a0_4 a0_5 a0_6 a0_7 a0_8 a0_9 l0_10).bind fun t540 => (shardloglaw19_MsgPuts.j1 kj2 t532 t535 (!t540) a0_0 a0_1 a0_2 a0_3 a0_4 a0_5 a0_6 a0_7 a0_8 a0_9 l0_10))))))) = some r := H
     have A30 := aS A300
     clear A300
     replace H := obm H
     obtain ⟨t537, A310, H⟩ := H
     replace H : (if (t536 != t537) = true then (shardloglaw19_MsgPuts.j1 kj2 t532 t535 true a0_0 a0_1 a0_2 a0_3 a0_4 a0_5 a0_6 a0_7 a0_8 a0_9 l0_10) else ((msg_Same.f kj2 a0_0 a0_1 a0_2 a0_3 a0_4 a0_5 a0_6 a0_7 a0_8 a0_9 l0_10 a1_0 a1_1 a1_2 a1_3 a1_4 a1_5 a1_6 a1_7 a1_8 a1_9 l1_10).bind fun t538 => ((shardlogref19_Same.f kj2 a0_0 a0_1 a0_2 a0_3 a0_4 a0_5 a0_6 a0_7 a0_8 a0_9 l0_10 a1_0 a1_1 a1_2 a1_3 a1_4 a1_5 a1_6 a1_7 a1_8 a1_9 l1_10).bind fun t539 => (if (t538 != t539) = true then (shardloglaw19_MsgPuts.j1 kj2 t532 t535 true a0_0 a0_1 a0_2 a0_3 a0_4 a0_5 a0_6 a0_7 a0_8 a0_9 l0_10) else ((msg_Same.f kj2 a0_0 a0_1 a0_2 a0_3 a0_4 a0_5 a0_6 a0_7 a0_8 a0_9 l0_10 a0_0 a0_1 a0_2 a0_3 a0_4 a0_5 a0_6 a0_7 a0_8 a0_9 l0_10).bind fun t540 => (shardloglaw19_MsgPuts.j1 kj2 t532 t535 (!t540) a0_0 a0_1 a0_2 a0_3 a0_4 a0_5 a0_6 a0_7 a0_8 a0_9 l0_10)))))) = some r := H
     have A31 := aS A310
     clear A310
     by_cases c32 : (t536 != t537) = true
     ·
      rw [if_pos c32] at H
      have c32b0 : (t536 != t537) = true := c32
      (try (have c32b1 : decide (t536 = t537) = false := by simpa using c32))
      (try (have c32b2 : (t536 == t537) = false := by simpa using c32))
      (try (have c32b3 : ¬ (t536 = t537) := by simpa using c32))
      clear c32
      (first | rw [c32b0] | (simp only [i64_w, i32_w]; rw [c32b0]) | skip)
      have H' := aS H
      clear H
      try go_wp2
      have n0_ := aS (Kd.R_drew HO534.out)
      have n1_ := aS (blk_drew BK526.out)
      have n2_ := aS (blk_drew BK527.out)
      have n3_ := aS (bdo HB.out)
      clear HO534; clear BK526; clear BK527; clear HB
      have HO534 := n0_
      have BK526 := n1_
      have BK527 := n2_
      have HB := n3_
      clear n0_ n1_ n2_ n3_
      refine start_ (n := 20) (S := fun w' => w'.cell? ⟨gb526, 0, none⟩ = some (.int .i64 a0_0) ∧ w'.cell? ⟨gb526, 1, none⟩ = some (.int .i64 a0_1) ∧ w'.cell? ⟨gb526, 2, none⟩ = some (.int .i64 a0_2) ∧ w'.cell? ⟨gb526, 3, none⟩ = some (.int .i64 a0_3) ∧ w'.cell? ⟨gb526, 4, none⟩ = some (.int .i64 a0_4) ∧ w'.cell? ⟨gb526, 5, none⟩ = some (.int .i64 a0_5) ∧ w'.cell? ⟨gb526, 6, none⟩ = some (.int .i64 a0_6) ∧ w'.cell? ⟨gb526, 7, none⟩ = some (.int .i64 a0_7) ∧ w'.cell? ⟨gb526, 8, none⟩ = some (.bool a0_8) ∧ w'.cell? ⟨gb526, 9, none⟩ = some (.string a0_9) ∧ w'.cell? ⟨gb526, 10, none⟩ = some (.slice A0_10 l0_10.length c0_10)) (ds := []) #[false, false, false, false, false, false, false, false, false, false, false, false, false, false, false, false, false, false, false, false] (by kernel_rfl) rfl rfl ⟨(blk_cell BK526.out 0).trans rfl, (blk_cell BK526.out 1).trans rfl, (blk_cell BK526.out 2).trans rfl, (blk_cell BK526.out 3).trans rfl, (blk_cell BK526.out 4).trans rfl, (blk_cell BK526.out 5).trans rfl, (blk_cell BK526.out 6).trans rfl, (blk_cell BK526.out 7).trans rfl, (blk_cell BK526.out 8).trans rfl, (blk_cell BK526.out 9).trans rfl, (blk_cell BK526.out 10).trans rfl⟩ (fun hHeld => ?_); refine with_tabW shardloglaw19_MsgPuts.tab4 shardloglaw19_MsgPuts.bits4 (fun HT_ HW_ => ?_)
      generalize w29.drew = w33 at HO534 BK526 BK527 HB hHeld ⊢
      refine along_ [(0, 25), (2, 27)] ?_
      iterate 2 (apply take1 HT_ HW_ hHeld; (case hi => rfl); (case hN => rfl); (case hw => rfl); (case hc => kernel_rfl); (case hQ => exact fun _ _ _ h => h); (case hy => intro w' hs_; go_simp; with_reducible rfl); (case ha => simp only [Act.put, lsa, lsz, lss, i64_w, i32_w]; rfl))
      refine lay_ #[true, false, true, false, false, false, false, false, false, false, false, false, false, false, false, false, false, false, false, false] (by kernel_rfl) ?_
      refine one_ (i := 1) (N := some 26) #[true, true, true, false, false, false, false, false, false, false, false, false, false, false, false, false, false, false, false, false] rfl rfl (one_of HT_.out (by kernel_rfl)) (by decide) (fun K hK => ?_)
      refine goes_ Try.func10 (by kernel_rfl) rfl #[.agg #[.int .i64 a0_0, .int .i64 a0_1, .int .i64 a0_2, .int .i64 a0_3, .int .i64 a0_4, .int .i64 a0_5, .int .i64 a0_6, .int .i64 a0_7, .bool a0_8, .string a0_9, .slice A0_10 l0_10.length c0_10]] (by rfl) rfl rfl agn ?_
      with_reducible refine (msg_Right.calls kj2 a0_0 a0_1 a0_2 a0_3 a0_4 a0_5 a0_6 a0_7 a0_8 a0_9 _ _ l0_10 t536 _ ?side1 ?side2 A30.out).mono ?_
      (case side1 => exact cel (Kd.C_below HR0_10.out HB.out))
      (case side2 => exact HC0_10.out)
      rintro e w34 ⟨rfl, hb⟩
      refine ⟨_, rfl, ?_⟩
      have n0_ := aS (Kd.R_below (rel HO534.out) hb)
      have n1_ := aS (blk_below (g := gb526) (o := .cells #[.int .i64 a0_0, .int .i64 a0_1, .int .i64 a0_2, .int .i64 a0_3, .int .i64 a0_4, .int .i64 a0_5, .int .i64 a0_6, .int .i64 a0_7, .bool a0_8, .string a0_9, .slice A0_10 l0_10.length c0_10] 26 (0, 0)) (bkl BK526.out) hb)
      have n2_ := aS (blk_below (g := gb527) (o := .cells #[.int .i64 a1_0, .int .i64 a1_1, .int .i64 a1_2, .int .i64 a1_3, .int .i64 a1_4, .int .i64 a1_5, .int .i64 a1_6, .int .i64 a1_7, .bool a1_8, .string a1_9, .slice A1_10 l1_10.length c1_10] 26 (0, 0)) (bkl BK527.out) hb)
      have n3_ := bstep hb
      clear HO534; clear BK526; clear BK527; clear HB
      have HO534 := n0_
      have BK526 := n1_
      have BK527 := n2_
      have HB := n3_
      clear n0_ n1_ n2_ n3_; (try clear hb); (try clear hb2); (try clear hk); (try clear hi)
      refine hK.out _ _ ⟨(blk_cell BK526.out 0).trans rfl, (blk_cell BK526.out 1).trans rfl, (blk_cell BK526.out 2).trans rfl, (blk_cell BK526.out 3).trans rfl, (blk_cell BK526.out 4).trans rfl, (blk_cell BK526.out 5).trans rfl, (blk_cell BK526.out 6).trans rfl, (blk_cell BK526.out 7).trans rfl, (blk_cell BK526.out 8).trans rfl, (blk_cell BK526.out 9).trans rfl, (blk_cell BK526.out 10).trans rfl⟩ (fun hHeld => ?_)
      clear hK K
      refine norm_ (a' := ?_) ?_ ?_
      rotate_left
      ·
       show Act.put _ (some 26) _ = _
       simp only [Act.put, lsa, lsz, lss, i64_w, i32_w]
       rfl
      refine one_ (i := 3) (N := some 28) #[true, true, true, true, false, false, false, false, false, false, false, false, false, false, false, false, false, false, false, false] rfl rfl (one_of HT_.out (by kernel_rfl)) (by decide) (fun K hK => ?_)
      refine goes_ Try.func11 (by kernel_rfl) rfl #[.agg #[.int .i64 a0_0, .int .i64 a0_1, .int .i64 a0_2, .int .i64 a0_3, .int .i64 a0_4, .int .i64 a0_5, .int .i64 a0_6, .int .i64 a0_7, .bool a0_8, .string a0_9, .slice A0_10 l0_10.length c0_10]] (by rfl) rfl rfl agn ?_
      with_reducible refine (shardlogref19_Right.calls kj2 a0_0 a0_1 a0_2 a0_3 a0_4 a0_5 a0_6 a0_7 a0_8 a0_9 _ _ l0_10 t537 _ ?side1 ?side2 A31.out).mono ?_
      (case side1 => exact cel (Kd.C_below HR0_10.out HB.out))
      (case side2 => exact HC0_10.out)
      rintro e w35 ⟨rfl, hb⟩
      refine ⟨_, rfl, ?_⟩
      have n0_ := aS (Kd.R_below (rel HO534.out) hb)
      have n1_ := aS (blk_below (g := gb526) (o := .cells #[.int .i64 a0_0, .int .i64 a0_1, .int .i64 a0_2, .int .i64 a0_3, .int .i64 a0_4, .int .i64 a0_5, .int .i64 a0_6, .int .i64 a0_7, .bool a0_8, .string a0_9, .slice A0_10 l0_10.length c0_10] 26 (0, 0)) (bkl BK526.out) hb)
      have n2_ := aS (blk_below (g := gb527) (o := .cells #[.int .i64 a1_0, .int .i64 a1_1, .int .i64 a1_2, .int .i64 a1_3, .int .i64 a1_4, .int .i64 a1_5, .int .i64 a1_6, .int .i64 a1_7, .bool a1_8, .string a1_9, .slice A1_10 l1_10.length c1_10] 26 (0, 0)) (bkl BK527.out) hb)
      have n3_ := bstep hb
      clear HO534; clear BK526; clear BK527; clear HB
      have HO534 := n0_
      have BK526 := n1_
      have BK527 := n2_
      have HB := n3_
      clear n0_ n1_ n2_ n3_; (try clear hb); (try clear hb2); (try clear hk); (try clear hi)
      refine hK.out _ _ ⟨(blk_cell BK526.out 0).trans rfl, (blk_cell BK526.out 1).trans rfl, (blk_cell BK526.out 2).trans rfl, (blk_cell BK526.out 3).trans rfl, (blk_cell BK526.out 4).trans rfl, (blk_cell BK526.out 5).trans rfl, (blk_cell BK526.out 6).trans rfl, (blk_cell BK526.out 7).trans rfl, (blk_cell BK526.out 8).trans rfl, (blk_cell BK526.out 9).trans rfl, (blk_cell BK526.out 10).trans rfl⟩ (fun hHeld => ?_)
      clear hK K
      refine norm_ (a' := ?_) ?_ ?_
      rotate_left
      ·
       show Act.put _ (some 28) _ = _
       simp only [Act.put, lsa, lsz, lss, i64_w, i32_w]
       rfl
      refine along_ [(4, 29), (5, 30), (6, 31), (7, 32), (8, 33), (9, 34), (10, 35), (11, 36), (12, 37), (13, 38), (14, 39), (15, 40), (16, 41), (17, 42), (18, 43), (19, 44)] ?_
      iterate 16 (first | (apply skip1 HT_; (case hi => rfl); (case hN => rfl); (case hw => rfl); (case hc => kernel_rfl); (case hQ => exact fun _ _ _ h => h); (case ha => simp only [Act.put, lsa, lsz, lss, i64_w, i32_w]; rfl)) | (apply pure1 HT_; (case hi => rfl); (case hN => rfl); (case hw => rfl); (case hc => kernel_rfl); (case hQ => exact fun _ _ _ h => h); (case hy => intro w'; go_simp; with_reducible rfl); (case ha => simp only [Act.put, lsa, lsz, lss, i64_w, i32_w]; rfl)))
      refine lay_ #[true, true, true, true, true, true, true, true, true, true, true, true, true, true, true, true, true, true, true, true] (by kernel_rfl) ?_
      refine done_ (done_of HT_.out (by kernel_rfl)) ?_
      try go_wp2
      go_meet
      case rel => exact ⟨_, (true), (by first | rfl | (simp; done) | (simp [*]; done) | (simp; exact (by decide : ∀ a_ b_ : Bool, (a_ == b_) = (!a_ != b_)) _ _)), H', ⟨by have := HJ2.out; first | omega | exact Nat.le_refl _⟩, ⟨by (with_reducible repeat (first | apply Kd.R_alloc | apply Kd.R_drewN | apply Kd.R_drew)); exact HO534.out⟩, ⟨by (with_reducible repeat (first | refine blk_drewN ?_ _ | refine blk_drew ?_ | refine blk_alloc ?_ _)); exact BK526.out⟩, ⟨by (with_reducible repeat (first | refine blk_drewN ?_ _ | refine blk_drew ?_ | refine blk_alloc ?_ _)); exact BK527.out⟩, ⟨bel⟩⟩
     ·
      rw [if_neg c32] at H
      have c32b0 : (t536 != t537) = false := by simpa using c32
      (try (have c32b1 : decide (t536 = t537) = true := by simpa using c32))
      (try (have c32b2 : (t536 == t537) = true := by simpa using c32))
      clear c32
      (first | rw [c32b0] | (simp only [i64_w, i32_w]; rw [c32b0]) | skip)
      replace H := obm H
      obtain ⟨t538, A360, H⟩ := H
      replace H : ((shardlogref19_Same.f kj2 a0_0 a0_1 a0_2 a0_3 a0_4 a0_5 a0_6 a0_7 a0_8 a0_9 l0_10 a1_0 a1_1 a1_2 a1_3 a1_4 a1_5 a1_6 a1_7 a1_8 a1_9 l1_10).bind fun t539 => (if (t538 != t539) = true then (shardloglaw19_MsgPuts.j1 kj2 t532 t535 true a0_0 a0_1 a0_2 a0_3 a0_4 a0_5 a0_6 a0_7 a0_8 a0_9 l0_10) else ((msg_Same.f kj2 a0_0 a0_1 a0_2 a0_3 a0_4 a0_5 a0_6 a0_7 a0_8 a0_9 l0_10 a0_0 a0_1 a0_2 a0_3 a0_4 a0_5 a0_6 a0_7 a0_8 a0_9 l0_10).bind fun t540 => (shardloglaw19_MsgPuts.j1 kj2 t532 t535 (!t540) a0_0 a0_1 a0_2 a0_3 a0_4 a0_5 a0_6 a0_7 a0_8 a0_9 l0_10)))) = some r := H
      have A36 := aS A360
      clear A360
      replace H := obm H
      obtain ⟨t539, A370, H⟩ := H
      replace H : (if (t538 != t539) = true then (shardloglaw19_MsgPuts.j1 kj2 t532 t535 true a0_0 a0_1 a0_2 a0_3 a0_4 a0_5 a0_6 a0_7 a0_8 a0_9 l0_10) else ((msg_Same.f kj2 a0_0 a0_1 a0_2 a0_3 a0_4 a0_5 a0_6 a0_7 a0_8 a0_9 l0_10 a0_0 a0_1 a0_2 a0_3 a0_4 a0_5 a0_6 a0_7 a0_8 a0_9 l0_10).bind fun t540 => (shardloglaw19_MsgPuts.j1 kj2 t532 t535 (!t540) a0_0 a0_1 a0_2 a0_3 a0_4 a0_5 a0_6 a0_7 a0_8 a0_9 l0_10))) = some r := H
      have A37 := aS A370
      clear A370
      by_cases c38 : (t538 != t539) = true
      ·
       rw [if_pos c38] at H
       have c38b0 : (t538 != t539) = true := c38
       (try (have c38b1 : decide (t538 = t539) = false := by simpa using c38))
       (try (have c38b2 : (t538 == t539) = false := by simpa using c38))
       (try (have c38b3 : ¬ (t538 = t539) := by simpa using c38))
       clear c38
       have H' := aS H
       clear H
       try go_wp2
       have n0_ := aS (Kd.R_drew HO534.out)
       have n1_ := aS (blk_drew BK526.out)
       have n2_ := aS (blk_drew BK527.out)
       have n3_ := aS (bdo HB.out)
       clear HO534; clear BK526; clear BK527; clear HB
       have HO534 := n0_
       have BK526 := n1_
       have BK527 := n2_
       have HB := n3_
       clear n0_ n1_ n2_ n3_
       refine start_ (n := 20) (S := fun w' => w'.cell? ⟨gb526, 0, none⟩ = some (.int .i64 a0_0) ∧ w'.cell? ⟨gb526, 1, none⟩ = some (.int .i64 a0_1) ∧ w'.cell? ⟨gb526, 2, none⟩ = some (.int .i64 a0_2) ∧ w'.cell? ⟨gb526, 3, none⟩ = some (.int .i64 a0_3) ∧ w'.cell? ⟨gb526, 4, none⟩ = some (.int .i64 a0_4) ∧ w'.cell? ⟨gb526, 5, none⟩ = some (.int .i64 a0_5) ∧ w'.cell? ⟨gb526, 6, none⟩ = some (.int .i64 a0_6) ∧ w'.cell? ⟨gb526, 7, none⟩ = some (.int .i64 a0_7) ∧ w'.cell? ⟨gb526, 8, none⟩ = some (.bool a0_8) ∧ w'.cell? ⟨gb526, 9, none⟩ = some (.string a0_9) ∧ w'.cell? ⟨gb526, 10, none⟩ = some (.slice A0_10 l0_10.length c0_10) ∧ w'.cell? ⟨gb527, 0, none⟩ = some (.int .i64 a1_0) ∧ w'.cell? ⟨gb527, 1, none⟩ = some (.int .i64 a1_1) ∧ w'.cell? ⟨gb527, 2, none⟩ = some (.int .i64 a1_2) ∧ w'.cell? ⟨gb527, 3, none⟩ = some (.int .i64 a1_3) ∧ w'.cell? ⟨gb527, 4, none⟩ = some (.int .i64 a1_4) ∧ w'.cell? ⟨gb527, 5, none⟩ = some (.int .i64 a1_5) ∧ w'.cell? ⟨gb527, 6, none⟩ = some (.int .i64 a1_6) ∧ w'.cell? ⟨gb527, 7, none⟩ = some (.int .i64 a1_7) ∧ w'.cell? ⟨gb527, 8, none⟩ = some (.bool a1_8) ∧ w'.cell? ⟨gb527, 9, none⟩ = some (.string a1_9) ∧ w'.cell? ⟨gb527, 10, none⟩ = some (.slice A1_10 l1_10.length c1_10)) (ds := []) #[false, false, false, false, false, false, false, false, false, false, false, false, false, false, false, false, false, false, false, false] (by kernel_rfl) rfl rfl ⟨(blk_cell BK526.out 0).trans rfl, (blk_cell BK526.out 1).trans rfl, (blk_cell BK526.out 2).trans rfl, (blk_cell BK526.out 3).trans rfl, (blk_cell BK526.out 4).trans rfl, (blk_cell BK526.out 5).trans rfl, (blk_cell BK526.out 6).trans rfl, (blk_cell BK526.out 7).trans rfl, (blk_cell BK526.out 8).trans rfl, (blk_cell BK526.out 9).trans rfl, (blk_cell BK526.out 10).trans rfl, (blk_cell BK527.out 0).trans rfl, (blk_cell BK527.out 1).trans rfl, (blk_cell BK527.out 2).trans rfl, (blk_cell BK527.out 3).trans rfl, (blk_cell BK527.out 4).trans rfl, (blk_cell BK527.out 5).trans rfl, (blk_cell BK527.out 6).trans rfl, (blk_cell BK527.out 7).trans rfl, (blk_cell BK527.out 8).trans rfl, (blk_cell BK527.out 9).trans rfl, (blk_cell BK527.out 10).trans rfl⟩ (fun hHeld => ?_); refine with_tabW shardloglaw19_MsgPuts.tab4 shardloglaw19_MsgPuts.bits4 (fun HT_ HW_ => ?_)
       generalize w29.drew = w39 at HO534 BK526 BK527 HB hHeld ⊢
       refine along_ [(0, 25), (2, 27)] ?_
       iterate 2 (apply take1 HT_ HW_ hHeld; (case hi => rfl); (case hN => rfl); (case hw => rfl); (case hc => kernel_rfl); (case hQ => exact fun _ _ _ h => h); (case hy => intro w' hs_; go_simp; with_reducible rfl); (case ha => simp only [Act.put, lsa, lsz, lss, i64_w, i32_w]; rfl))
       refine lay_ #[true, false, true, false, false, false, false, false, false, false, false, false, false, false, false, false, false, false, false, false] (by kernel_rfl) ?_
       refine one_ (i := 1) (N := some 26) #[true, true, true, false, false, false, false, false, false, false, false, false, false, false, false, false, false, false, false, false] rfl rfl (one_of HT_.out (by kernel_rfl)) (by decide) (fun K hK => ?_)
       refine goes_ Try.func10 (by kernel_rfl) rfl #[.agg #[.int .i64 a0_0, .int .i64 a0_1, .int .i64 a0_2, .int .i64 a0_3, .int .i64 a0_4, .int .i64 a0_5, .int .i64 a0_6, .int .i64 a0_7, .bool a0_8, .string a0_9, .slice A0_10 l0_10.length c0_10]] (by rfl) rfl rfl agn ?_
       with_reducible refine (msg_Right.calls kj2 a0_0 a0_1 a0_2 a0_3 a0_4 a0_5 a0_6 a0_7 a0_8 a0_9 _ _ l0_10 t536 _ ?side1 ?side2 A30.out).mono ?_
       (case side1 => exact cel (Kd.C_below HR0_10.out HB.out))
       (case side2 => exact HC0_10.out)
       rintro e w40 ⟨rfl, hb⟩
       refine ⟨_, rfl, ?_⟩
       have n0_ := aS (Kd.R_below (rel HO534.out) hb)
       have n1_ := aS (blk_below (g := gb526) (o := .cells #[.int .i64 a0_0, .int .i64 a0_1, .int .i64 a0_2, .int .i64 a0_3, .int .i64 a0_4, .int .i64 a0_5, .int .i64 a0_6, .int .i64 a0_7, .bool a0_8, .string a0_9, .slice A0_10 l0_10.length c0_10] 26 (0, 0)) (bkl BK526.out) hb)
       have n2_ := aS (blk_below (g := gb527) (o := .cells #[.int .i64 a1_0, .int .i64 a1_1, .int .i64 a1_2, .int .i64 a1_3, .int .i64 a1_4, .int .i64 a1_5, .int .i64 a1_6, .int .i64 a1_7, .bool a1_8, .string a1_9, .slice A1_10 l1_10.length c1_10] 26 (0, 0)) (bkl BK527.out) hb)
       have n3_ := bstep hb
       clear HO534; clear BK526; clear BK527; clear HB
       have HO534 := n0_
       have BK526 := n1_
       have BK527 := n2_
       have HB := n3_
       clear n0_ n1_ n2_ n3_; (try clear hb); (try clear hb2); (try clear hk); (try clear hi)
       refine hK.out _ _ ⟨(blk_cell BK526.out 0).trans rfl, (blk_cell BK526.out 1).trans rfl, (blk_cell BK526.out 2).trans rfl, (blk_cell BK526.out 3).trans rfl, (blk_cell BK526.out 4).trans rfl, (blk_cell BK526.out 5).trans rfl, (blk_cell BK526.out 6).trans rfl, (blk_cell BK526.out 7).trans rfl, (blk_cell BK526.out 8).trans rfl, (blk_cell BK526.out 9).trans rfl, (blk_cell BK526.out 10).trans rfl, (blk_cell BK527.out 0).trans rfl, (blk_cell BK527.out 1).trans rfl, (blk_cell BK527.out 2).trans rfl, (blk_cell BK527.out 3).trans rfl, (blk_cell BK527.out 4).trans rfl, (blk_cell BK527.out 5).trans rfl, (blk_cell BK527.out 6).trans rfl, (blk_cell BK527.out 7).trans rfl, (blk_cell BK527.out 8).trans rfl, (blk_cell BK527.out 9).trans rfl, (blk_cell BK527.out 10).trans rfl⟩ (fun hHeld => ?_)
       clear hK K
       refine norm_ (a' := ?_) ?_ ?_
       rotate_left
       ·
        show Act.put _ (some 26) _ = _
        simp only [Act.put, lsa, lsz, lss, i64_w, i32_w]
        rfl
       refine one_ (i := 3) (N := some 28) #[true, true, true, true, false, false, false, false, false, false, false, false, false, false, false, false, false, false, false, false] rfl rfl (one_of HT_.out (by kernel_rfl)) (by decide) (fun K hK => ?_)
       refine goes_ Try.func11 (by kernel_rfl) rfl #[.agg #[.int .i64 a0_0, .int .i64 a0_1, .int .i64 a0_2, .int .i64 a0_3, .int .i64 a0_4, .int .i64 a0_5, .int .i64 a0_6, .int .i64 a0_7, .bool a0_8, .string a0_9, .slice A0_10 l0_10.length c0_10]] (by rfl) rfl rfl agn ?_
       with_reducible refine (shardlogref19_Right.calls kj2 a0_0 a0_1 a0_2 a0_3 a0_4 a0_5 a0_6 a0_7 a0_8 a0_9 _ _ l0_10 t537 _ ?side1 ?side2 A31.out).mono ?_
       (case side1 => exact cel (Kd.C_below HR0_10.out HB.out))
       (case side2 => exact HC0_10.out)
       rintro e w41 ⟨rfl, hb⟩
       refine ⟨_, rfl, ?_⟩
       have n0_ := aS (Kd.R_below (rel HO534.out) hb)
       have n1_ := aS (blk_below (g := gb526) (o := .cells #[.int .i64 a0_0, .int .i64 a0_1, .int .i64 a0_2, .int .i64 a0_3, .int .i64 a0_4, .int .i64 a0_5, .int .i64 a0_6, .int .i64 a0_7, .bool a0_8, .string a0_9, .slice A0_10 l0_10.length c0_10] 26 (0, 0)) (bkl BK526.out) hb)
       have n2_ := aS (blk_below (g := gb527) (o := .cells #[.int .i64 a1_0, .int .i64 a1_1, .int .i64 a1_2, .int .i64 a1_3, .int .i64 a1_4, .int .i64 a1_5, .int .i64 a1_6, .int .i64 a1_7, .bool a1_8, .string a1_9, .slice A1_10 l1_10.length c1_10] 26 (0, 0)) (bkl BK527.out) hb)
       have n3_ := bstep hb
       clear HO534; clear BK526; clear BK527; clear HB
       have HO534 := n0_
       have BK526 := n1_
       have BK527 := n2_
       have HB := n3_
       clear n0_ n1_ n2_ n3_; (try clear hb); (try clear hb2); (try clear hk); (try clear hi)
       refine hK.out _ _ ⟨(blk_cell BK526.out 0).trans rfl, (blk_cell BK526.out 1).trans rfl, (blk_cell BK526.out 2).trans rfl, (blk_cell BK526.out 3).trans rfl, (blk_cell BK526.out 4).trans rfl, (blk_cell BK526.out 5).trans rfl, (blk_cell BK526.out 6).trans rfl, (blk_cell BK526.out 7).trans rfl, (blk_cell BK526.out 8).trans rfl, (blk_cell BK526.out 9).trans rfl, (blk_cell BK526.out 10).trans rfl, (blk_cell BK527.out 0).trans rfl, (blk_cell BK527.out 1).trans rfl, (blk_cell BK527.out 2).trans rfl, (blk_cell BK527.out 3).trans rfl, (blk_cell BK527.out 4).trans rfl, (blk_cell BK527.out 5).trans rfl, (blk_cell BK527.out 6).trans rfl, (blk_cell BK527.out 7).trans rfl, (blk_cell BK527.out 8).trans rfl, (blk_cell BK527.out 9).trans rfl, (blk_cell BK527.out 10).trans rfl⟩ (fun hHeld => ?_)
       clear hK K
       refine norm_ (a' := ?_) ?_ ?_
       rotate_left
       ·
        show Act.put _ (some 28) _ = _
        simp only [Act.put, lsa, lsz, lss, i64_w, i32_w]
        rfl
       refine along_ [(4, 29), (5, 30), (6, 31), (7, 32), (9, 34), (10, 35)] ?_
       iterate 6 (first | (apply pure1 HT_; (case hi => rfl); (case hN => rfl); (case hw => rfl); (case hc => kernel_rfl); (case hQ => exact fun _ _ _ h => h); (case hy => intro w'; go_simp; with_reducible rfl); (case ha => simp only [Act.put, lsa, lsz, lss, i64_w, i32_w]; rfl)) | (apply take1 HT_ HW_ hHeld; (case hi => rfl); (case hN => rfl); (case hw => rfl); (case hc => kernel_rfl); (case hQ => exact fun _ _ _ h => h); (case hy => intro w' hs_; go_simp; with_reducible rfl); (case ha => simp only [Act.put, lsa, lsz, lss, i64_w, i32_w]; rfl)))
       refine lay_ #[true, true, true, true, true, true, true, true, false, true, true, false, false, false, false, false, false, false, false, false] (by kernel_rfl) ?_
       refine one_ (i := 8) (N := some 33) #[true, true, true, true, true, true, true, true, true, true, true, false, false, false, false, false, false, false, false, false] rfl rfl (one_of HT_.out (by kernel_rfl)) (by decide) (fun K hK => ?_)
       refine goes_ Try.func12 (by kernel_rfl) rfl #[.agg #[.int .i64 a0_0, .int .i64 a0_1, .int .i64 a0_2, .int .i64 a0_3, .int .i64 a0_4, .int .i64 a0_5, .int .i64 a0_6, .int .i64 a0_7, .bool a0_8, .string a0_9, .slice A0_10 l0_10.length c0_10], .agg #[.int .i64 a1_0, .int .i64 a1_1, .int .i64 a1_2, .int .i64 a1_3, .int .i64 a1_4, .int .i64 a1_5, .int .i64 a1_6, .int .i64 a1_7, .bool a1_8, .string a1_9, .slice A1_10 l1_10.length c1_10]] (by rfl) rfl rfl agn ?_
       with_reducible refine (msg_Same.calls kj2 a0_0 a0_1 a0_2 a0_3 a0_4 a0_5 a0_6 a0_7 a0_8 a0_9 _ _ l0_10 a1_0 a1_1 a1_2 a1_3 a1_4 a1_5 a1_6 a1_7 a1_8 a1_9 _ _ l1_10 t538 _ ?side1 ?side2 ?side3 ?side4 A36.out).mono ?_
       (case side1 => exact cel (Kd.C_below HR0_10.out HB.out))
       (case side2 => exact HC0_10.out)
       (case side3 => exact cel (Kd.C_below HR1_10.out HB.out))
       (case side4 => exact HC1_10.out)
       rintro e w42 ⟨rfl, hb⟩
       refine ⟨_, rfl, ?_⟩
       have n0_ := aS (Kd.R_below (rel HO534.out) hb)
       have n1_ := aS (blk_below (g := gb526) (o := .cells #[.int .i64 a0_0, .int .i64 a0_1, .int .i64 a0_2, .int .i64 a0_3, .int .i64 a0_4, .int .i64 a0_5, .int .i64 a0_6, .int .i64 a0_7, .bool a0_8, .string a0_9, .slice A0_10 l0_10.length c0_10] 26 (0, 0)) (bkl BK526.out) hb)
       have n2_ := aS (blk_below (g := gb527) (o := .cells #[.int .i64 a1_0, .int .i64 a1_1, .int .i64 a1_2, .int .i64 a1_3, .int .i64 a1_4, .int .i64 a1_5, .int .i64 a1_6, .int .i64 a1_7, .bool a1_8, .string a1_9, .slice A1_10 l1_10.length c1_10] 26 (0, 0)) (bkl BK527.out) hb)
       have n3_ := bstep hb
       clear HO534; clear BK526; clear BK527; clear HB
       have HO534 := n0_
       have BK526 := n1_
       have BK527 := n2_
       have HB := n3_
       clear n0_ n1_ n2_ n3_; (try clear hb); (try clear hb2); (try clear hk); (try clear hi)
       refine hK.out _ _ ⟨(blk_cell BK526.out 0).trans rfl, (blk_cell BK526.out 1).trans rfl, (blk_cell BK526.out 2).trans rfl, (blk_cell BK526.out 3).trans rfl, (blk_cell BK526.out 4).trans rfl, (blk_cell BK526.out 5).trans rfl, (blk_cell BK526.out 6).trans rfl, (blk_cell BK526.out 7).trans rfl, (blk_cell BK526.out 8).trans rfl, (blk_cell BK526.out 9).trans rfl, (blk_cell BK526.out 10).trans rfl, (blk_cell BK527.out 0).trans rfl, (blk_cell BK527.out 1).trans rfl, (blk_cell BK527.out 2).trans rfl, (blk_cell BK527.out 3).trans rfl, (blk_cell BK527.out 4).trans rfl, (blk_cell BK527.out 5).trans rfl, (blk_cell BK527.out 6).trans rfl, (blk_cell BK527.out 7).trans rfl, (blk_cell BK527.out 8).trans rfl, (blk_cell BK527.out 9).trans rfl, (blk_cell BK527.out 10).trans rfl⟩ (fun hHeld => ?_)
       clear hK K
       refine norm_ (a' := ?_) ?_ ?_
       rotate_left
       ·
        show Act.put _ (some 33) _ = _
        simp only [Act.put, lsa, lsz, lss, i64_w, i32_w]
        rfl
       refine one_ (i := 11) (N := some 36) #[true, true, true, true, true, true, true, true, true, true, true, true, false, false, false, false, false, false, false, false] rfl rfl (one_of HT_.out (by kernel_rfl)) (by decide) (fun K hK => ?_)
       refine goes_ Try.func13 (by kernel_rfl) rfl #[.agg #[.int .i64 a0_0, .int .i64 a0_1, .int .i64 a0_2, .int .i64 a0_3, .int .i64 a0_4, .int .i64 a0_5, .int .i64 a0_6, .int .i64 a0_7, .bool a0_8, .string a0_9, .slice A0_10 l0_10.length c0_10], .agg #[.int .i64 a1_0, .int .i64 a1_1, .int .i64 a1_2, .int .i64 a1_3, .int .i64 a1_4, .int .i64 a1_5, .int .i64 a1_6, .int .i64 a1_7, .bool a1_8, .string a1_9, .slice A1_10 l1_10.length c1_10]] (by rfl) rfl rfl agn ?_
       with_reducible refine (shardlogref19_Same.calls kj2 a0_0 a0_1 a0_2 a0_3 a0_4 a0_5 a0_6 a0_7 a0_8 a0_9 _ _ l0_10 a1_0 a1_1 a1_2 a1_3 a1_4 a1_5 a1_6 a1_7 a1_8 a1_9 _ _ l1_10 t539 _ ?side1 ?side2 ?side3 ?side4 A37.out).mono ?_
       (case side1 => exact cel (Kd.C_below HR0_10.out HB.out))
       (case side2 => exact HC0_10.out)
       (case side3 => exact cel (Kd.C_below HR1_10.out HB.out))
       (case side4 => exact HC1_10.out)
       rintro e w43 ⟨rfl, hb⟩
       refine ⟨_, rfl, ?_⟩
       have n0_ := aS (Kd.R_below (rel HO534.out) hb)
       have n1_ := aS (blk_below (g := gb526) (o := .cells #[.int .i64 a0_0, .int .i64 a0_1, .int .i64 a0_2, .int .i64 a0_3, .int .i64 a0_4, .int .i64 a0_5, .int .i64 a0_6, .int .i64 a0_7, .bool a0_8, .string a0_9, .slice A0_10 l0_10.length c0_10] 26 (0, 0)) (bkl BK526.out) hb)
       have n2_ := aS (blk_below (g := gb527) (o := .cells #[.int .i64 a1_0, .int .i64 a1_1, .int .i64 a1_2, .int .i64 a1_3, .int .i64 a1_4, .int .i64 a1_5, .int .i64 a1_6, .int .i64 a1_7, .bool a1_8, .string a1_9, .slice A1_10 l1_10.length c1_10] 26 (0, 0)) (bkl BK527.out) hb)
       have n3_ := bstep hb
       clear HO534; clear BK526; clear BK527; clear HB
       have HO534 := n0_
       have BK526 := n1_
       have BK527 := n2_
       have HB := n3_
       clear n0_ n1_ n2_ n3_; (try clear hb); (try clear hb2); (try clear hk); (try clear hi)
       refine hK.out _ _ ⟨(blk_cell BK526.out 0).trans rfl, (blk_cell BK526.out 1).trans rfl, (blk_cell BK526.out 2).trans rfl, (blk_cell BK526.out 3).trans rfl, (blk_cell BK526.out 4).trans rfl, (blk_cell BK526.out 5).trans rfl, (blk_cell BK526.out 6).trans rfl, (blk_cell BK526.out 7).trans rfl, (blk_cell BK526.out 8).trans rfl, (blk_cell BK526.out 9).trans rfl, (blk_cell BK526.out 10).trans rfl, (blk_cell BK527.out 0).trans rfl, (blk_cell BK527.out 1).trans rfl, (blk_cell BK527.out 2).trans rfl, (blk_cell BK527.out 3).trans rfl, (blk_cell BK527.out 4).trans rfl, (blk_cell BK527.out 5).trans rfl, (blk_cell BK527.out 6).trans rfl, (blk_cell BK527.out 7).trans rfl, (blk_cell BK527.out 8).trans rfl, (blk_cell BK527.out 9).trans rfl, (blk_cell BK527.out 10).trans rfl⟩ (fun hHeld => ?_)
       clear hK K
       refine norm_ (a' := ?_) ?_ ?_
       rotate_left
       ·
        show Act.put _ (some 36) _ = _
        simp only [Act.put, lsa, lsz, lss, i64_w, i32_w]
        rfl
       refine along_ [(12, 37), (13, 38), (14, 39), (15, 40), (16, 41), (17, 42), (18, 43), (19, 44)] ?_
       iterate 8 (first | (apply skip1 HT_; (case hi => rfl); (case hN => rfl); (case hw => rfl); (case hc => kernel_rfl); (case hQ => exact fun _ _ _ h => h); (case ha => simp only [Act.put, lsa, lsz, lss, i64_w, i32_w]; rfl)) | (apply pure1 HT_; (case hi => rfl); (case hN => rfl); (case hw => rfl); (case hc => kernel_rfl); (case hQ => exact fun _ _ _ h => h); (case hy => intro w'; go_simp; with_reducible rfl); (case ha => simp only [Act.put, lsa, lsz, lss, i64_w, i32_w]; rfl)))
       refine lay_ #[true, true, true, true, true, true, true, true, true, true, true, true, true, true, true, true, true, true, true, true] (by kernel_rfl) ?_
       refine done_ (done_of HT_.out (by kernel_rfl)) ?_
       try go_wp2
       go_meet
       case rel => exact ⟨_, (true), (by first | rfl | (simp; done) | (simp [*]; done) | (simp; exact (by decide : ∀ a_ b_ : Bool, (a_ == b_) = (!a_ != b_)) _ _)), H', ⟨by have := HJ2.out; first | omega | exact Nat.le_refl _⟩, ⟨by (with_reducible repeat (first | apply Kd.R_alloc | apply Kd.R_drewN | apply Kd.R_drew)); exact HO534.out⟩, ⟨by (with_reducible repeat (first | refine blk_drewN ?_ _ | refine blk_drew ?_ | refine blk_alloc ?_ _)); exact BK526.out⟩, ⟨by (with_reducible repeat (first | refine blk_drewN ?_ _ | refine blk_drew ?_ | refine blk_alloc ?_ _)); exact BK527.out⟩, ⟨bel⟩⟩
      ·
       rw [if_neg c38] at H
       have c38b0 : (t538 != t539) = false := by simpa using c38
       (try (have c38b1 : decide (t538 = t539) = true := by simpa using c38))
       (try (have c38b2 : (t538 == t539) = true := by simpa using c38))
       clear c38
       replace H := obm H
       obtain ⟨t540, A440, H⟩ := H
       replace H : (shardloglaw19_MsgPuts.j1 kj2 t532 t535 (!t540) a0_0 a0_1 a0_2 a0_3 a0_4 a0_5 a0_6 a0_7 a0_8 a0_9 l0_10) = some r := H
       have A44 := aS A440
       clear A440
       have H' := aS H
       clear H
       try go_wp2
       have n0_ := aS (Kd.R_drew HO534.out)
       have n1_ := aS (blk_drew BK526.out)
       have n2_ := aS (blk_drew BK527.out)
       have n3_ := aS (bdo HB.out)
       clear HO534; clear BK526; clear BK527; clear HB
       have HO534 := n0_
       have BK526 := n1_
       have BK527 := n2_
       have HB := n3_
       clear n0_ n1_ n2_ n3_
       refine start_ (n := 20) (S := fun w' => w'.cell? ⟨gb526, 0, none⟩ = some (.int .i64 a0_0) ∧ w'.cell? ⟨gb526, 1, none⟩ = some (.int .i64 a0_1) ∧ w'.cell? ⟨gb526, 2, none⟩ = some (.int .i64 a0_2) ∧ w'.cell? ⟨gb526, 3, none⟩ = some (.int .i64 a0_3) ∧ w'.cell? ⟨gb526, 4, none⟩ = some (.int .i64 a0_4) ∧ w'.cell? ⟨gb526, 5, none⟩ = some (.int .i64 a0_5) ∧ w'.cell? ⟨gb526, 6, none⟩ = some (.int .i64 a0_6) ∧ w'.cell? ⟨gb526, 7, none⟩ = some (.int .i64 a0_7) ∧ w'.cell? ⟨gb526, 8, none⟩ = some (.bool a0_8) ∧ w'.cell? ⟨gb526, 9, none⟩ = some (.string a0_9) ∧ w'.cell? ⟨gb526, 10, none⟩ = some (.slice A0_10 l0_10.length c0_10) ∧ w'.cell? ⟨gb527, 0, none⟩ = some (.int .i64 a1_0) ∧ w'.cell? ⟨gb527, 1, none⟩ = some (.int .i64 a1_1) ∧ w'.cell? ⟨gb527, 2, none⟩ = some (.int .i64 a1_2) ∧ w'.cell? ⟨gb527, 3, none⟩ = some (.int .i64 a1_3) ∧ w'.cell? ⟨gb527, 4, none⟩ = some (.int .i64 a1_4) ∧ w'.cell? ⟨gb527, 5, none⟩ = some (.int .i64 a1_5) ∧ w'.cell? ⟨gb527, 6, none⟩ = some (.int .i64 a1_6) ∧ w'.cell? ⟨gb527, 7, none⟩ = some (.int .i64 a1_7) ∧ w'.cell? ⟨gb527, 8, none⟩ = some (.bool a1_8) ∧ w'.cell? ⟨gb527, 9, none⟩ = some (.string a1_9) ∧ w'.cell? ⟨gb527, 10, none⟩ = some (.slice A1_10 l1_10.length c1_10)) (ds := []) #[false, false, false, false, false, false, false, false, false, false, false, false, false, false, false, false, false, false, false, false] (by kernel_rfl) rfl rfl ⟨(blk_cell BK526.out 0).trans rfl, (blk_cell BK526.out 1).trans rfl, (blk_cell BK526.out 2).trans rfl, (blk_cell BK526.out 3).trans rfl, (blk_cell BK526.out 4).trans rfl, (blk_cell BK526.out 5).trans rfl, (blk_cell BK526.out 6).trans rfl, (blk_cell BK526.out 7).trans rfl, (blk_cell BK526.out 8).trans rfl, (blk_cell BK526.out 9).trans rfl, (blk_cell BK526.out 10).trans rfl, (blk_cell BK527.out 0).trans rfl, (blk_cell BK527.out 1).trans rfl, (blk_cell BK527.out 2).trans rfl, (blk_cell BK527.out 3).trans rfl, (blk_cell BK527.out 4).trans rfl, (blk_cell BK527.out 5).trans rfl, (blk_cell BK527.out 6).trans rfl, (blk_cell BK527.out 7).trans rfl, (blk_cell BK527.out 8).trans rfl, (blk_cell BK527.out 9).trans rfl, (blk_cell BK527.out 10).trans rfl⟩ (fun hHeld => ?_); refine with_tabW shardloglaw19_MsgPuts.tab4 shardloglaw19_MsgPuts.bits4 (fun HT_ HW_ => ?_)
       generalize w29.drew = w45 at HO534 BK526 BK527 HB hHeld ⊢
       refine along_ [(0, 25), (2, 27)] ?_
       iterate 2 (apply take1 HT_ HW_ hHeld; (case hi => rfl); (case hN => rfl); (case hw => rfl); (case hc => kernel_rfl); (case hQ => exact fun _ _ _ h => h); (case hy => intro w' hs_; go_simp; with_reducible rfl); (case ha => simp only [Act.put, lsa, lsz, lss, i64_w, i32_w]; rfl))
       refine lay_ #[true, false, true, false, false, false, false, false, false, false, false, false, false, false, false, false, false, false, false, false] (by kernel_rfl) ?_
       refine one_ (i := 1) (N := some 26) #[true, true, true, false, false, false, false, false, false, false, false, false, false, false, false, false, false, false, false, false] rfl rfl (one_of HT_.out (by kernel_rfl)) (by decide) (fun K hK => ?_)
       refine goes_ Try.func10 (by kernel_rfl) rfl #[.agg #[.int .i64 a0_0, .int .i64 a0_1, .int .i64 a0_2, .int .i64 a0_3, .int .i64 a0_4, .int .i64 a0_5, .int .i64 a0_6, .int .i64 a0_7, .bool a0_8, .string a0_9, .slice A0_10 l0_10.length c0_10]] (by rfl) rfl rfl agn ?_
       with_reducible refine (msg_Right.calls kj2 a0_0 a0_1 a0_2 a0_3 a0_4 a0_5 a0_6 a0_7 a0_8 a0_9 _ _ l0_10 t536 _ ?side1 ?side2 A30.out).mono ?_
       (case side1 => exact cel (Kd.C_below HR0_10.out HB.out))
       (case side2 => exact HC0_10.out)
       rintro e w46 ⟨rfl, hb⟩
       refine ⟨_, rfl, ?_⟩
       have n0_ := aS (Kd.R_below (rel HO534.out) hb)
       have n1_ := aS (blk_below (g := gb526) (o := .cells #[.int .i64 a0_0, .int .i64 a0_1, .int .i64 a0_2, .int .i64 a0_3, .int .i64 a0_4, .int .i64 a0_5, .int .i64 a0_6, .int .i64 a0_7, .bool a0_8, .string a0_9, .slice A0_10 l0_10.length c0_10] 26 (0, 0)) (bkl BK526.out) hb)
       have n2_ := aS (blk_below (g := gb527) (o := .cells #[.int .i64 a1_0, .int .i64 a1_1, .int .i64 a1_2, .int .i64 a1_3, .int .i64 a1_4, .int .i64 a1_5, .int .i64 a1_6, .int .i64 a1_7, .bool a1_8, .string a1_9, .slice A1_10 l1_10.length c1_10] 26 (0, 0)) (bkl BK527.out) hb)
       have n3_ := bstep hb
       clear HO534; clear BK526; clear BK527; clear HB
       have HO534 := n0_
       have BK526 := n1_
       have BK527 := n2_
       have HB := n3_
       clear n0_ n1_ n2_ n3_; (try clear hb); (try clear hb2); (try clear hk); (try clear hi)
       refine hK.out _ _ ⟨(blk_cell BK526.out 0).trans rfl, (blk_cell BK526.out 1).trans rfl, (blk_cell BK526.out 2).trans rfl, (blk_cell BK526.out 3).trans rfl, (blk_cell BK526.out 4).trans rfl, (blk_cell BK526.out 5).trans rfl, (blk_cell BK526.out 6).trans rfl, (blk_cell BK526.out 7).trans rfl, (blk_cell BK526.out 8).trans rfl, (blk_cell BK526.out 9).trans rfl, (blk_cell BK526.out 10).trans rfl, (blk_cell BK527.out 0).trans rfl, (blk_cell BK527.out 1).trans rfl, (blk_cell BK527.out 2).trans rfl, (blk_cell BK527.out 3).trans rfl, (blk_cell BK527.out 4).trans rfl, (blk_cell BK527.out 5).trans rfl, (blk_cell BK527.out 6).trans rfl, (blk_cell BK527.out 7).trans rfl, (blk_cell BK527.out 8).trans rfl, (blk_cell BK527.out 9).trans rfl, (blk_cell BK527.out 10).trans rfl⟩ (fun hHeld => ?_)
       clear hK K
       refine norm_ (a' := ?_) ?_ ?_
       rotate_left
       ·
        show Act.put _ (some 26) _ = _
        simp only [Act.put, lsa, lsz, lss, i64_w, i32_w]
        rfl
       refine one_ (i := 3) (N := some 28) #[true, true, true, true, false, false, false, false, false, false, false, false, false, false, false, false, false, false, false, false] rfl rfl (one_of HT_.out (by kernel_rfl)) (by decide) (fun K hK => ?_)
       refine goes_ Try.func11 (by kernel_rfl) rfl #[.agg #[.int .i64 a0_0, .int .i64 a0_1, .int .i64 a0_2, .int .i64 a0_3, .int .i64 a0_4, .int .i64 a0_5, .int .i64 a0_6, .int .i64 a0_7, .bool a0_8, .string a0_9, .slice A0_10 l0_10.length c0_10]] (by rfl) rfl rfl agn ?_
       with_reducible refine (shardlogref19_Right.calls kj2 a0_0 a0_1 a0_2 a0_3 a0_4 a0_5 a0_6 a0_7 a0_8 a0_9 _ _ l0_10 t537 _ ?side1 ?side2 A31.out).mono ?_
       (case side1 => exact cel (Kd.C_below HR0_10.out HB.out))
       (case side2 => exact HC0_10.out)
       rintro e w47 ⟨rfl, hb⟩
       refine ⟨_, rfl, ?_⟩
       have n0_ := aS (Kd.R_below (rel HO534.out) hb)
       have n1_ := aS (blk_below (g := gb526) (o := .cells #[.int .i64 a0_0, .int .i64 a0_1, .int .i64 a0_2, .int .i64 a0_3, .int .i64 a0_4, .int .i64 a0_5, .int .i64 a0_6, .int .i64 a0_7, .bool a0_8, .string a0_9, .slice A0_10 l0_10.length c0_10] 26 (0, 0)) (bkl BK526.out) hb)
       have n2_ := aS (blk_below (g := gb527) (o := .cells #[.int .i64 a1_0, .int .i64 a1_1, .int .i64 a1_2, .int .i64 a1_3, .int .i64 a1_4, .int .i64 a1_5, .int .i64 a1_6, .int .i64 a1_7, .bool a1_8, .string a1_9, .slice A1_10 l1_10.length c1_10] 26 (0, 0)) (bkl BK527.out) hb)
       have n3_ := bstep hb
       clear HO534; clear BK526; clear BK527; clear HB
       have HO534 := n0_
       have BK526 := n1_
       have BK527 := n2_
       have HB := n3_
       clear n0_ n1_ n2_ n3_; (try clear hb); (try clear hb2); (try clear hk); (try clear hi)
       refine hK.out _ _ ⟨(blk_cell BK526.out 0).trans rfl, (blk_cell BK526.out 1).trans rfl, (blk_cell BK526.out 2).trans rfl, (blk_cell BK526.out 3).trans rfl, (blk_cell BK526.out 4).trans rfl, (blk_cell BK526.out 5).trans rfl, (blk_cell BK526.out 6).trans rfl, (blk_cell BK526.out 7).trans rfl, (blk_cell BK526.out 8).trans rfl, (blk_cell BK526.out 9).trans rfl, (blk_cell BK526.out 10).trans rfl, (blk_cell BK527.out 0).trans rfl, (blk_cell BK527.out 1).trans rfl, (blk_cell BK527.out 2).trans rfl, (blk_cell BK527.out 3).trans rfl, (blk_cell BK527.out 4).trans rfl, (blk_cell BK527.out 5).trans rfl, (blk_cell BK527.out 6).trans rfl, (blk_cell BK527.out 7).trans rfl, (blk_cell BK527.out 8).trans rfl, (blk_cell BK527.out 9).trans rfl, (blk_cell BK527.out 10).trans rfl⟩ (fun hHeld => ?_)
       clear hK K
       refine norm_ (a' := ?_) ?_ ?_
       rotate_left
       ·
        show Act.put _ (some 28) _ = _
        simp only [Act.put, lsa, lsz, lss, i64_w, i32_w]
        rfl
       refine along_ [(4, 29), (5, 30), (6, 31), (7, 32), (9, 34), (10, 35)] ?_
       iterate 6 (first | (apply pure1 HT_; (case hi => rfl); (case hN => rfl); (case hw => rfl); (case hc => kernel_rfl); (case hQ => exact fun _ _ _ h => h); (case hy => intro w'; go_simp; with_reducible rfl); (case ha => simp only [Act.put, lsa, lsz, lss, i64_w, i32_w]; rfl)) | (apply take1 HT_ HW_ hHeld; (case hi => rfl); (case hN => rfl); (case hw => rfl); (case hc => kernel_rfl); (case hQ => exact fun _ _ _ h => h); (case hy => intro w' hs_; go_simp; with_reducible rfl); (case ha => simp only [Act.put, lsa, lsz, lss, i64_w, i32_w]; rfl)))
       refine lay_ #[true, true, true, true, true, true, true, true, false, true, true, false, false, false, false, false, false, false, false, false] (by kernel_rfl) ?_
       refine one_ (i := 8) (N := some 33) #[true, true, true, true, true, true, true, true, true, true, true, false, false, false, false, false, false, false, false, false] rfl rfl (one_of HT_.out (by kernel_rfl)) (by decide) (fun K hK => ?_)
       refine goes_ Try.func12 (by kernel_rfl) rfl #[.agg #[.int .i64 a0_0, .int .i64 a0_1, .int .i64 a0_2, .int .i64 a0_3, .int .i64 a0_4, .int .i64 a0_5, .int .i64 a0_6, .int .i64 a0_7, .bool a0_8, .string a0_9, .slice A0_10 l0_10.length c0_10], .agg #[.int .i64 a1_0, .int .i64 a1_1, .int .i64 a1_2, .int .i64 a1_3, .int .i64 a1_4, .int .i64 a1_5, .int .i64 a1_6, .int .i64 a1_7, .bool a1_8, .string a1_9, .slice A1_10 l1_10.length c1_10]] (by rfl) rfl rfl agn ?_
       with_reducible refine (msg_Same.calls kj2 a0_0 a0_1 a0_2 a0_3 a0_4 a0_5 a0_6 a0_7 a0_8 a0_9 _ _ l0_10 a1_0 a1_1 a1_2 a1_3 a1_4 a1_5 a1_6 a1_7 a1_8 a1_9 _ _ l1_10 t538 _ ?side1 ?side2 ?side3 ?side4 A36.out).mono ?_
       (case side1 => exact cel (Kd.C_below HR0_10.out HB.out))
       (case side2 => exact HC0_10.out)
       (case side3 => exact cel (Kd.C_below HR1_10.out HB.out))
       (case side4 => exact HC1_10.out)
       rintro e w48 ⟨rfl, hb⟩
       refine ⟨_, rfl, ?_⟩
       have n0_ := aS (Kd.R_below (rel HO534.out) hb)
       have n1_ := aS (blk_below (g := gb526) (o := .cells #[.int .i64 a0_0, .int .i64 a0_1, .int .i64 a0_2, .int .i64 a0_3, .int .i64 a0_4, .int .i64 a0_5, .int .i64 a0_6, .int .i64 a0_7, .bool a0_8, .string a0_9, .slice A0_10 l0_10.length c0_10] 26 (0, 0)) (bkl BK526.out) hb)
       have n2_ := aS (blk_below (g := gb527) (o := .cells #[.int .i64 a1_0, .int .i64 a1_1, .int .i64 a1_2, .int .i64 a1_3, .int .i64 a1_4, .int .i64 a1_5, .int .i64 a1_6, .int .i64 a1_7, .bool a1_8, .string a1_9, .slice A1_10 l1_10.length c1_10] 26 (0, 0)) (bkl BK527.out) hb)
       have n3_ := bstep hb
       clear HO534; clear BK526; clear BK527; clear HB
       have HO534 := n0_
       have BK526 := n1_
       have BK527 := n2_
       have HB := n3_
       clear n0_ n1_ n2_ n3_; (try clear hb); (try clear hb2); (try clear hk); (try clear hi)
       refine hK.out _ _ ⟨(blk_cell BK526.out 0).trans rfl, (blk_cell BK526.out 1).trans rfl, (blk_cell BK526.out 2).trans rfl, (blk_cell BK526.out 3).trans rfl, (blk_cell BK526.out 4).trans rfl, (blk_cell BK526.out 5).trans rfl, (blk_cell BK526.out 6).trans rfl, (blk_cell BK526.out 7).trans rfl, (blk_cell BK526.out 8).trans rfl, (blk_cell BK526.out 9).trans rfl, (blk_cell BK526.out 10).trans rfl, (blk_cell BK527.out 0).trans rfl, (blk_cell BK527.out 1).trans rfl, (blk_cell BK527.out 2).trans rfl, (blk_cell BK527.out 3).trans rfl, (blk_cell BK527.out 4).trans rfl, (blk_cell BK527.out 5).trans rfl, (blk_cell BK527.out 6).trans rfl, (blk_cell BK527.out 7).trans rfl, (blk_cell BK527.out 8).trans rfl, (blk_cell BK527.out 9).trans rfl, (blk_cell BK527.out 10).trans rfl⟩ (fun hHeld => ?_)
       clear hK K
       refine norm_ (a' := ?_) ?_ ?_
       rotate_left
       ·
        show Act.put _ (some 33) _ = _
        simp only [Act.put, lsa, lsz, lss, i64_w, i32_w]
        rfl
       refine one_ (i := 11) (N := some 36) #[true, true, true, true, true, true, true, true, true, true, true, true, false, false, false, false, false, false, false, false] rfl rfl (one_of HT_.out (by kernel_rfl)) (by decide) (fun K hK => ?_)
       refine goes_ Try.func13 (by kernel_rfl) rfl #[.agg #[.int .i64 a0_0, .int .i64 a0_1, .int .i64 a0_2, .int .i64 a0_3, .int .i64 a0_4, .int .i64 a0_5, .int .i64 a0_6, .int .i64 a0_7, .bool a0_8, .string a0_9, .slice A0_10 l0_10.length c0_10], .agg #[.int .i64 a1_0, .int .i64 a1_1, .int .i64 a1_2, .int .i64 a1_3, .int .i64 a1_4, .int .i64 a1_5, .int .i64 a1_6, .int .i64 a1_7, .bool a1_8, .string a1_9, .slice A1_10 l1_10.length c1_10]] (by rfl) rfl rfl agn ?_
       with_reducible refine (shardlogref19_Same.calls kj2 a0_0 a0_1 a0_2 a0_3 a0_4 a0_5 a0_6 a0_7 a0_8 a0_9 _ _ l0_10 a1_0 a1_1 a1_2 a1_3 a1_4 a1_5 a1_6 a1_7 a1_8 a1_9 _ _ l1_10 t539 _ ?side1 ?side2 ?side3 ?side4 A37.out).mono ?_
       (case side1 => exact cel (Kd.C_below HR0_10.out HB.out))
       (case side2 => exact HC0_10.out)
       (case side3 => exact cel (Kd.C_below HR1_10.out HB.out))
       (case side4 => exact HC1_10.out)
       rintro e w49 ⟨rfl, hb⟩
       refine ⟨_, rfl, ?_⟩
       have n0_ := aS (Kd.R_below (rel HO534.out) hb)
       have n1_ := aS (blk_below (g := gb526) (o := .cells #[.int .i64 a0_0, .int .i64 a0_1, .int .i64 a0_2, .int .i64 a0_3, .int .i64 a0_4, .int .i64 a0_5, .int .i64 a0_6, .int .i64 a0_7, .bool a0_8, .string a0_9, .slice A0_10 l0_10.length c0_10] 26 (0, 0)) (bkl BK526.out) hb)
       have n2_ := aS (blk_below (g := gb527) (o := .cells #[.int .i64 a1_0, .int .i64 a1_1, .int .i64 a1_2, .int .i64 a1_3, .int .i64 a1_4, .int .i64 a1_5, .int .i64 a1_6, .int .i64 a1_7, .bool a1_8, .string a1_9, .slice A1_10 l1_10.length c1_10] 26 (0, 0)) (bkl BK527.out) hb)
       have n3_ := bstep hb
       clear HO534; clear BK526; clear BK527; clear HB
       have HO534 := n0_
       have BK526 := n1_
       have BK527 := n2_
       have HB := n3_
       clear n0_ n1_ n2_ n3_; (try clear hb); (try clear hb2); (try clear hk); (try clear hi)
       refine hK.out _ _ ⟨(blk_cell BK526.out 0).trans rfl, (blk_cell BK526.out 1).trans rfl, (blk_cell BK526.out 2).trans rfl, (blk_cell BK526.out 3).trans rfl, (blk_cell BK526.out 4).trans rfl, (blk_cell BK526.out 5).trans rfl, (blk_cell BK526.out 6).trans rfl, (blk_cell BK526.out 7).trans rfl, (blk_cell BK526.out 8).trans rfl, (blk_cell BK526.out 9).trans rfl, (blk_cell BK526.out 10).trans rfl, (blk_cell BK527.out 0).trans rfl, (blk_cell BK527.out 1).trans rfl, (blk_cell BK527.out 2).trans rfl, (blk_cell BK527.out 3).trans rfl, (blk_cell BK527.out 4).trans rfl, (blk_cell BK527.out 5).trans rfl, (blk_cell BK527.out 6).trans rfl, (blk_cell BK527.out 7).trans rfl, (blk_cell BK527.out 8).trans rfl, (blk_cell BK527.out 9).trans rfl, (blk_cell BK527.out 10).trans rfl⟩ (fun hHeld => ?_)
       clear hK K
       refine norm_ (a' := ?_) ?_ ?_
       rotate_left
       ·
        show Act.put _ (some 36) _ = _
        simp only [Act.put, lsa, lsz, lss, i64_w, i32_w]
        rfl
       refine along_ [(12, 37), (13, 38), (14, 39), (15, 40), (16, 41)] ?_
       iterate 5 (first | (apply pure1 HT_; (case hi => rfl); (case hN => rfl); (case hw => rfl); (case hc => kernel_rfl); (case hQ => exact fun _ _ _ h => h); (case hy => intro w'; go_simp; with_reducible rfl); (case ha => simp only [Act.put, lsa, lsz, lss, i64_w, i32_w]; rfl)) | (apply take1 HT_ HW_ hHeld; (case hi => rfl); (case hN => rfl); (case hw => rfl); (case hc => kernel_rfl); (case hQ => exact fun _ _ _ h => h); (case hy => intro w' hs_; go_simp; with_reducible rfl); (case ha => simp only [Act.put, lsa, lsz, lss, i64_w, i32_w]; rfl)))
       refine lay_ #[true, true, true, true, true, true, true, true, true, true, true, true, true, true, true, true, true, false, false, false] (by kernel_rfl) ?_
       refine one_ (i := 17) (N := some 42) #[true, true, true, true, true, true, true, true, true, true, true, true, true, true, true, true, true, true, false, false] rfl rfl (one_of HT_.out (by kernel_rfl)) (by decide) (fun K hK => ?_)
       refine goes_ Try.func12 (by kernel_rfl) rfl #[.agg #[.int .i64 a0_0, .int .i64 a0_1, .int .i64 a0_2, .int .i64 a0_3, .int .i64 a0_4, .int .i64 a0_5, .int .i64 a0_6, .int .i64 a0_7, .bool a0_8, .string a0_9, .slice A0_10 l0_10.length c0_10], .agg #[.int .i64 a0_0, .int .i64 a0_1, .int .i64 a0_2, .int .i64 a0_3, .int .i64 a0_4, .int .i64 a0_5, .int .i64 a0_6, .int .i64 a0_7, .bool a0_8, .string a0_9, .slice A0_10 l0_10.length c0_10]] (by rfl) rfl rfl agn ?_
       with_reducible refine (msg_Same.calls kj2 a0_0 a0_1 a0_2 a0_3 a0_4 a0_5 a0_6 a0_7 a0_8 a0_9 _ _ l0_10 a0_0 a0_1 a0_2 a0_3 a0_4 a0_5 a0_6 a0_7 a0_8 a0_9 _ _ l0_10 t540 _ ?side1 ?side2 ?side3 ?side4 A44.out).mono ?_
       (case side1 => exact cel (Kd.C_below HR0_10.out HB.out))
       (case side2 => exact HC0_10.out)
       (case side3 => exact cel (Kd.C_below HR0_10.out HB.out))
       (case side4 => exact HC0_10.out)
       rintro e w50 ⟨rfl, hb⟩
       refine ⟨_, rfl, ?_⟩
       have n0_ := aS (Kd.R_below (rel HO534.out) hb)
       have n1_ := aS (blk_below (g := gb526) (o := .cells #[.int .i64 a0_0, .int .i64 a0_1, .int .i64 a0_2, .int .i64 a0_3, .int .i64 a0_4, .int .i64 a0_5, .int .i64 a0_6, .int .i64 a0_7, .bool a0_8, .string a0_9, .slice A0_10 l0_10.length c0_10] 26 (0, 0)) (bkl BK526.out) hb)
       have n2_ := aS (blk_below (g := gb527) (o := .cells #[.int .i64 a1_0, .int .i64 a1_1, .int .i64 a1_2, .int .i64 a1_3, .int .i64 a1_4, .int .i64 a1_5, .int .i64 a1_6, .int .i64 a1_7, .bool a1_8, .string a1_9, .slice A1_10 l1_10.length c1_10] 26 (0, 0)) (bkl BK527.out) hb)
       have n3_ := bstep hb
       clear HO534; clear BK526; clear BK527; clear HB
       have HO534 := n0_
       have BK526 := n1_
       have BK527 := n2_
       have HB := n3_
       clear n0_ n1_ n2_ n3_; (try clear hb); (try clear hb2); (try clear hk); (try clear hi)
       refine hK.out _ _ ⟨(blk_cell BK526.out 0).trans rfl, (blk_cell BK526.out 1).trans rfl, (blk_cell BK526.out 2).trans rfl, (blk_cell BK526.out 3).trans rfl, (blk_cell BK526.out 4).trans rfl, (blk_cell BK526.out 5).trans rfl, (blk_cell BK526.out 6).trans rfl, (blk_cell BK526.out 7).trans rfl, (blk_cell BK526.out 8).trans rfl, (blk_cell BK526.out 9).trans rfl, (blk_cell BK526.out 10).trans rfl, (blk_cell BK527.out 0).trans rfl, (blk_cell BK527.out 1).trans rfl, (blk_cell BK527.out 2).trans rfl, (blk_cell BK527.out 3).trans rfl, (blk_cell BK527.out 4).trans rfl, (blk_cell BK527.out 5).trans rfl, (blk_cell BK527.out 6).trans rfl, (blk_cell BK527.out 7).trans rfl, (blk_cell BK527.out 8).trans rfl, (blk_cell BK527.out 9).trans rfl, (blk_cell BK527.out 10).trans rfl⟩ (fun hHeld => ?_)
       clear hK K
       refine norm_ (a' := ?_) ?_ ?_
       rotate_left
       ·
        show Act.put _ (some 42) _ = _
        simp only [Act.put, lsa, lsz, lss, i64_w, i32_w]
        rfl
       refine along_ [(18, 43), (19, 44)] ?_
       iterate 2 (apply pure1 HT_; (case hi => rfl); (case hN => rfl); (case hw => rfl); (case hc => kernel_rfl); (case hQ => exact fun _ _ _ h => h); (case hy => intro w'; go_simp; with_reducible rfl); (case ha => simp only [Act.put, lsa, lsz, lss, i64_w, i32_w]; rfl))
       refine lay_ #[true, true, true, true, true, true, true, true, true, true, true, true, true, true, true, true, true, true, true, true] (by kernel_rfl) ?_
       refine done_ (done_of HT_.out (by kernel_rfl)) ?_
       try go_wp2
       go_meet
       case rel => exact ⟨_, (!t540), (by first | rfl | (simp; done) | (simp [*]; done) | (simp; exact (by decide : ∀ a_ b_ : Bool, (a_ == b_) = (!a_ != b_)) _ _)), H', ⟨by have := HJ2.out; first | omega | exact Nat.le_refl _⟩, ⟨by (with_reducible repeat (first | apply Kd.R_alloc | apply Kd.R_drewN | apply Kd.R_drew)); exact HO534.out⟩, ⟨by (with_reducible repeat (first | refine blk_drewN ?_ _ | refine blk_drew ?_ | refine blk_alloc ?_ _)); exact BK526.out⟩, ⟨by (with_reducible repeat (first | refine blk_drewN ?_ _ | refine blk_drew ?_ | refine blk_alloc ?_ _)); exact BK527.out⟩, ⟨bel⟩⟩
    case rest =>
     clear HC26; (try clear c1); (try clear p2); (try clear c3); (try clear c10); (try clear c11); (try clear c12); (try clear c13); (try clear c32); (try clear c32b0); (try clear c32b1); (try clear c32b2); (try clear c38); (try clear c38b0); (try clear c38b1); (try clear c38b2)
     obtain ⟨kq, x44_25, rfl, HA, HJ25, HO_5, BK526, BK527, HB⟩ := hcut
     cases kq with
     | zero => exact absurd HA.out (by simp [shardloglaw19_MsgPuts.j1])
     | succ kj25 =>
      have H := HA.out; clear HA
      simp only [shardloglaw19_MsgPuts.j1] at H
      by_cases c51 : x44_25 = true
      ·
       subst c51
       have H1 : (none) = some r := by rw [if_pos rfl] at H; exact H
       clear H; have H := H1; clear H1
       exact absurd H (by simp)
      ·
       replace c51 := Bool.eq_false_iff.mpr c51
       subst c51
       have H1 : ((shardlogref19_Right.f kj25 a0_0 a0_1 a0_2 a0_3 a0_4 a0_5 a0_6 a0_7 a0_8 a0_9 l0_10).bind fun t541 => (if t541 = true then (if t535 = 0 then ((shardlogref19_Put.f kj25 a0_0 a0_1 a0_2 a0_3 a0_4 a0_5 a0_6 a0_7 a0_8 a0_9 l0_10).bind fun t542 => ((shardlogref01_Same.f t532 t542).bind fun t545 => (some t545))) else (none)) else (if t535 = 1 then (some ((t532.length : Int) == 0)) else (none)))) = some r := by rw [if_neg (show ¬ (false = true) by decide)] at H; exact H
       clear H; have H := H1; clear H1
       replace H := obm H
       obtain ⟨t541, A520, H⟩ := H
       replace H : (if t541 = true then (if t535 = 0 then ((shardlogref19_Put.f kj25 a0_0 a0_1 a0_2 a0_3 a0_4 a0_5 a0_6 a0_7 a0_8 a0_9 l0_10).bind fun t542 => ((shardlogref01_Same.f t532 t542).bind fun t545 => (some t545))) else (none)) else (if t535 = 1 then (some ((t532.length : Int) == 0)) else (none))) = some r := H
       have A52 := aS A520
       clear A520
       by_cases c53 : t541 = true
       ·
        subst c53
        have H1 : (if t535 = 0 then ((shardlogref19_Put.f kj25 a0_0 a0_1 a0_2 a0_3 a0_4 a0_5 a0_6 a0_7 a0_8 a0_9 l0_10).bind fun t542 => ((shardlogref01_Same.f t532 t542).bind fun t545 => (some t545))) else (none)) = some r := by rw [if_pos rfl] at H; exact H
        clear H; have H := H1; clear H1
        by_cases c54 : t535 = 0
        ·
         rw [if_pos c54] at H
         obtain ⟨c54b0, c54b1⟩ := eqT c54
         clear c54
         replace H := obm H
         obtain ⟨t542, A550, H⟩ := H
         replace H : ((shardlogref01_Same.f t532 t542).bind fun t545 => (some t545)) = some r := H
         have A55 := aS A550
         clear A550
         replace H := obm H
         obtain ⟨t545, A560, H⟩ := H
         replace H : (some t545) = some r := H
         have A56 := aS A560
         clear A560
         obtain rfl := Option.some.inj H
         have hnb57 := NB526_527.out; have hnc57 := NB527_526.out
         have hcz58 := cK11 BK526
         go_wp2_with (first | ((with_reducible refine gate_callee (f := 11) rfl ?_); refine goesL_ (some 46) rfl rfl Try.func11 (by kernel_rfl) rfl #[.agg #[.int .i64 a0_0, .int .i64 a0_1, .int .i64 a0_2, .int .i64 a0_3, .int .i64 a0_4, .int .i64 a0_5, .int .i64 a0_6, .int .i64 a0_7, .bool a0_8, .string a0_9, .slice A0_10 l0_10.length c0_10]] rfl agn ?_; (with_reducible refine (shardlogref19_Right.calls kj25 a0_0 a0_1 a0_2 a0_3 a0_4 a0_5 a0_6 a0_7 a0_8 a0_9 _ _ l0_10 true _ ?side1 ?side2 A52.out).mono ?_); (case side1 => exact cel (Kd.C_below HR0_10.out HB.out)); (case side2 => exact HC0_10.out); rintro e w59 ⟨rfl, hb⟩; refine ⟨_, rfl, ?_⟩; have n0_ := aS (Kd.R_below (rel HO_5.out) hb); have n1_ := aS (blk_below (g := gb526) (o := .cells #[.int .i64 a0_0, .int .i64 a0_1, .int .i64 a0_2, .int .i64 a0_3, .int .i64 a0_4, .int .i64 a0_5, .int .i64 a0_6, .int .i64 a0_7, .bool a0_8, .string a0_9, .slice A0_10 l0_10.length c0_10] 26 (0, 0)) (bkl BK526.out) hb); have n2_ := aS (blk_below (g := gb527) (o := .cells #[.int .i64 a1_0, .int .i64 a1_1, .int .i64 a1_2, .int .i64 a1_3, .int .i64 a1_4, .int .i64 a1_5, .int .i64 a1_6, .int .i64 a1_7, .bool a1_8, .string a1_9, .slice A1_10 l1_10.length c1_10] 26 (0, 0)) (bkl BK527.out) hb); have n3_ := bstep hb; clear HO_5; clear BK526; clear BK527; clear HB; have HO_5 := n0_; have BK526 := n1_; have BK527 := n2_; have HB := n3_; clear n0_ n1_ n2_ n3_; (try clear hb); (try clear hb2); (try clear hk); (try clear hi); have hcz60 := cK11 BK526) | (go_at_call 15; (with_reducible refine (shardlogref19_Put.calls kj25 a0_0 a0_1 a0_2 a0_3 a0_4 a0_5 a0_6 a0_7 a0_8 a0_9 _ _ l0_10 t542 _ ?side1 ?side2 A55.out).mono ?_); (case side1 => exact cel (Kd.C_below HR0_10.out HB.out)); (case side2 => exact HC0_10.out); rintro e w61 ⟨v543, rfl, ho0, hb⟩; have n0_ := aS (Kd.R_elder' (rel HO_5.out) (by first | exact Kd.R_base ho0 | exact Kd.S_base ho0 | exact Kd.R_base ho0 | exact Kd.V_base ho0) hb); have n1_ := aS (Kd.R_lower (Kd.R_new' ho0 (Kd.R_lt (rel HO_5.out))) (below_size bel)); have n2_ := aS (blk_below (g := gb526) (o := .cells #[.int .i64 a0_0, .int .i64 a0_1, .int .i64 a0_2, .int .i64 a0_3, .int .i64 a0_4, .int .i64 a0_5, .int .i64 a0_6, .int .i64 a0_7, .bool a0_8, .string a0_9, .slice A0_10 l0_10.length c0_10] 26 (0, 0)) (bkl BK526.out) hb); have n3_ := aS (blk_below (g := gb527) (o := .cells #[.int .i64 a1_0, .int .i64 a1_1, .int .i64 a1_2, .int .i64 a1_3, .int .i64 a1_4, .int .i64 a1_5, .int .i64 a1_6, .int .i64 a1_7, .bool a1_8, .string a1_9, .slice A1_10 l1_10.length c1_10] 26 (0, 0)) (bkl BK527.out) hb); have n4_ := bstep hb; clear HO_5; clear BK526; clear BK527; clear HB; have HO_5 := n0_; have HO544 := n1_; have BK526 := n2_; have BK527 := n3_; have HB := n4_; clear n0_ n1_ n2_ n3_ n4_; (try clear hb); (try clear hb2); (try clear hk); (try clear hi); (try clear ho0); obtain ⟨Ao62, co62, eo62⟩ := Kd.R_slice HO_5.out; subst eo62; obtain ⟨Ao63, co63, eo63⟩ := Kd.R_slice HO544.out; subst eo63) | (go_at_call 14; (with_reducible refine (shardlogref01_Same.calls _ _ t532 _ _ t542 t545 _ ?side1 ?side2 ?side3 ?side4 A56.out).mono ?_); (case side1 => exact cel ((Kd.R_reads' HO_5.out).2.2)); (case side2 => exact (Kd.R_reads' HO_5.out).2.1); (case side3 => exact cel ((Kd.R_reads' HO544.out).2.2)); (case side4 => exact (Kd.R_reads' HO544.out).2.1); rintro e w' ⟨rfl, ⟨nd, rfl⟩⟩))
         go_ret
         exact ⟨rf3, bel⟩
        ·
         rw [if_neg c54] at H
         exact absurd H (by simp)
       ·
        replace c53 := Bool.eq_false_iff.mpr c53
        subst c53
        have H1 : (if t535 = 1 then (some ((t532.length : Int) == 0)) else (none)) = some r := by rw [if_neg (show ¬ (false = true) by decide)] at H; exact H
        clear H; have H := H1; clear H1
        by_cases c64 : t535 = 1
        ·
         rw [if_pos c64] at H
         obtain ⟨c64b0, c64b1⟩ := eqT c64
         clear c64
         obtain rfl := Option.some.inj H
         have hnb65 := NB526_527.out; have hnc65 := NB527_526.out
         have hcz66 := cK11 BK526
         go_wp2_with (first | ((with_reducible refine gate_callee (f := 11) rfl ?_); refine goesL_ (some 46) rfl rfl Try.func11 (by kernel_rfl) rfl #[.agg #[.int .i64 a0_0, .int .i64 a0_1, .int .i64 a0_2, .int .i64 a0_3, .int .i64 a0_4, .int .i64 a0_5, .int .i64 a0_6, .int .i64 a0_7, .bool a0_8, .string a0_9, .slice A0_10 l0_10.length c0_10]] rfl agn ?_; (with_reducible refine (shardlogref19_Right.calls kj25 a0_0 a0_1 a0_2 a0_3 a0_4 a0_5 a0_6 a0_7 a0_8 a0_9 _ _ l0_10 false _ ?side1 ?side2 A52.out).mono ?_); (case side1 => exact cel (Kd.C_below HR0_10.out HB.out)); (case side2 => exact HC0_10.out); rintro e w67 ⟨rfl, hb⟩; refine ⟨_, rfl, ?_⟩; have n0_ := aS (Kd.R_below (rel HO_5.out) hb); have n1_ := aS (blk_below (g := gb526) (o := .cells #[.int .i64 a0_0, .int .i64 a0_1, .int .i64 a0_2, .int .i64 a0_3, .int .i64 a0_4, .int .i64 a0_5, .int .i64 a0_6, .int .i64 a0_7, .bool a0_8, .string a0_9, .slice A0_10 l0_10.length c0_10] 26 (0, 0)) (bkl BK526.out) hb); have n2_ := aS (blk_below (g := gb527) (o := .cells #[.int .i64 a1_0, .int .i64 a1_1, .int .i64 a1_2, .int .i64 a1_3, .int .i64 a1_4, .int .i64 a1_5, .int .i64 a1_6, .int .i64 a1_7, .bool a1_8, .string a1_9, .slice A1_10 l1_10.length c1_10] 26 (0, 0)) (bkl BK527.out) hb); have n3_ := bstep hb; clear HO_5; clear BK526; clear BK527; clear HB; have HO_5 := n0_; have BK526 := n1_; have BK527 := n2_; have HB := n3_; clear n0_ n1_ n2_ n3_; (try clear hb); (try clear hb2); (try clear hk); (try clear hi); obtain ⟨Ao68, co68, eo68⟩ := Kd.R_slice HO_5.out; subst eo68))
         go_ret
         exact ⟨rf3, bel⟩
        ·
         rw [if_neg c64] at H
         exact absurd H (by simp)

/-- THE ONE PURE STATEMENT of shardloglaw19_MsgPuts. -/
def shardloglaw19_MsgPuts.Pure : Prop := ∀ (a0_0 : Int) (a0_1 : Int) (a0_2 : Int) (a0_3 : Int) (a0_4 : Int) (a0_5 : Int) (a0_6 : Int) (a0_7 : Int) (a0_8 : Bool) (a0_9 : ByteArray) (l0_10 : List (S23)) (a1_0 : Int) (a1_1 : Int) (a1_2 : Int) (a1_3 : Int) (a1_4 : Int) (a1_5 : Int) (a1_6 : Int) (a1_7 : Int) (a1_8 : Bool) (a1_9 : ByteArray) (l1_10 : List (S23)), (Lit.int .i64 a0_0).wf = true → (Lit.int .i64 a0_1).wf = true → (Lit.int .i64 a0_2).wf = true → (Lit.int .i64 a0_3).wf = true → (Lit.int .i64 a0_4).wf = true → (Lit.int .i64 a0_5).wf = true → (Lit.int .i64 a0_6).wf = true → (Lit.int .i64 a0_7).wf = true → a0_9.size ≤ 140737488351232 → (l0_10.length ≤ maxLen ∧ l0_10.length * 48 ≤ 140737488351232 ∧ ∀ y0_ ∈ l0_10, ((Lit.int .i64 y0_.f0).wf = true ∧ (Lit.int .i64 y0_.f1).wf = true ∧ (Lit.int .i64 y0_.f2).wf = true ∧ True ∧ y0_.f4.size ≤ 140737488351232)) → (Lit.int .i64 a1_0).wf = true → (Lit.int .i64 a1_1).wf = true → (Lit.int .i64 a1_2).wf = true → (Lit.int .i64 a1_3).wf = true → (Lit.int .i64 a1_4).wf = true → (Lit.int .i64 a1_5).wf = true → (Lit.int .i64 a1_6).wf = true → (Lit.int .i64 a1_7).wf = true → a1_9.size ≤ 140737488351232 → (l1_10.length ≤ maxLen ∧ l1_10.length * 48 ≤ 140737488351232 ∧ ∀ y0_ ∈ l1_10, ((Lit.int .i64 y0_.f0).wf = true ∧ (Lit.int .i64 y0_.f1).wf = true ∧ (Lit.int .i64 y0_.f2).wf = true ∧ True ∧ y0_.f4.size ≤ 140737488351232)) → ∃ k, shardloglaw19_MsgPuts.f k a0_0 a0_1 a0_2 a0_3 a0_4 a0_5 a0_6 a0_7 a0_8 a0_9 l0_10 a1_0 a1_1 a1_2 a1_3 a1_4 a1_5 a1_6 a1_7 a1_8 a1_9 l1_10 = some true
theorem shardloglaw19_MsgPuts.walk (P : shardloglaw19_MsgPuts.Pure) (a0_0 : Int) (a0_1 : Int) (a0_2 : Int) (a0_3 : Int) (a0_4 : Int) (a0_5 : Int) (a0_6 : Int) (a0_7 : Int) (a0_8 : Bool) (a0_9 : ByteArray) (A0_10 : Option Addr) (c0_10 : Nat) (l0_10 : List (S23)) (a1_0 : Int) (a1_1 : Int) (a1_2 : Int) (a1_3 : Int) (a1_4 : Int) (a1_5 : Int) (a1_6 : Int) (a1_7 : Int) (a1_8 : Bool) (a1_9 : ByteArray) (A1_10 : Option Addr) (c1_10 : Nat) (l1_10 : List (S23)) (w : World) (wf0_0 : (Lit.int .i64 a0_0).wf = true) (wf0_1 : (Lit.int .i64 a0_1).wf = true) (wf0_2 : (Lit.int .i64 a0_2).wf = true) (wf0_3 : (Lit.int .i64 a0_3).wf = true) (wf0_4 : (Lit.int .i64 a0_4).wf = true) (wf0_5 : (Lit.int .i64 a0_5).wf = true) (wf0_6 : (Lit.int .i64 a0_6).wf = true) (wf0_7 : (Lit.int .i64 a0_7).wf = true) (wf0_9 : a0_9.size ≤ 140737488351232) (wf0_10 : (l0_10.length ≤ maxLen ∧ l0_10.length * 48 ≤ 140737488351232 ∧ ∀ y0_ ∈ l0_10, ((Lit.int .i64 y0_.f0).wf = true ∧ (Lit.int .i64 y0_.f1).wf = true ∧ (Lit.int .i64 y0_.f2).wf = true ∧ True ∧ y0_.f4.size ≤ 140737488351232))) (hr0_10 : Kd.C k23 w A0_10 l0_10.length l0_10) (hc0_10 : l0_10.length ≤ c0_10) (wf1_0 : (Lit.int .i64 a1_0).wf = true) (wf1_1 : (Lit.int .i64 a1_1).wf = true) (wf1_2 : (Lit.int .i64 a1_2).wf = true) (wf1_3 : (Lit.int .i64 a1_3).wf = true) (wf1_4 : (Lit.int .i64 a1_4).wf = true) (wf1_5 : (Lit.int .i64 a1_5).wf = true) (wf1_6 : (Lit.int .i64 a1_6).wf = true) (wf1_7 : (Lit.int .i64 a1_7).wf = true) (wf1_9 : a1_9.size ≤ 140737488351232) (wf1_10 : (l1_10.length ≤ maxLen ∧ l1_10.length * 48 ≤ 140737488351232 ∧ ∀ y0_ ∈ l1_10, ((Lit.int .i64 y0_.f0).wf = true ∧ (Lit.int .i64 y0_.f1).wf = true ∧ (Lit.int .i64 y0_.f2).wf = true ∧ True ∧ y0_.f4.size ≤ 140737488351232))) (hr1_10 : Kd.C k23 w A1_10 l1_10.length l1_10) (hc1_10 : l1_10.length ≤ c1_10) :
  Calls Try.prog 3 #[.agg #[.int .i64 a0_0, .int .i64 a0_1, .int .i64 a0_2, .int .i64 a0_3, .int .i64 a0_4, .int .i64 a0_5, .int .i64 a0_6, .int .i64 a0_7, .bool a0_8, .string a0_9, .slice A0_10 l0_10.length c0_10], .agg #[.int .i64 a1_0, .int .i64 a1_1, .int .i64 a1_2, .int .i64 a1_3, .int .i64 a1_4, .int .i64 a1_5, .int .i64 a1_6, .int .i64 a1_7, .bool a1_8, .string a1_9, .slice A1_10 l1_10.length c1_10]] w fun e w' => e = .returned (.bool true) ∧ Below w.heap.size w w' := by
 obtain ⟨k, h⟩ := P a0_0 a0_1 a0_2 a0_3 a0_4 a0_5 a0_6 a0_7 a0_8 a0_9 l0_10 a1_0 a1_1 a1_2 a1_3 a1_4 a1_5 a1_6 a1_7 a1_8 a1_9 l1_10 wf0_0 wf0_1 wf0_2 wf0_3 wf0_4 wf0_5 wf0_6 wf0_7 wf0_9 wf0_10 wf1_0 wf1_1 wf1_2 wf1_3 wf1_4 wf1_5 wf1_6 wf1_7 wf1_9 wf1_10
 refine (shardloglaw19_MsgPuts.calls k a0_0 a0_1 a0_2 a0_3 a0_4 a0_5 a0_6 a0_7 a0_8 a0_9 A0_10 c0_10 l0_10 a1_0 a1_1 a1_2 a1_3 a1_4 a1_5 a1_6 a1_7 a1_8 a1_9 A1_10 c1_10 l1_10 true w hr0_10 hc0_10 hr1_10 hc1_10 h).mono ?_
 rintro e w' ⟨rfl, hd⟩
 exact ⟨rfl, hd⟩

/-! ### shardloglaw19_MsgGets: function 5 -/
def shardloglaw19_MsgGets.j0 : Nat → List Int → Bool → Option (Bool)
 | 0, _, _ => none
 | k + 1, x0, x11 => if x11 = true then ((shardloglaw19_awake.f k).bind fun t547 => (some t547)) else ((msg_Get.f k x0).bind fun bt548 => (if bt548.2.2.2.2.2.2.2.2.2.2.2 = 0 then ((shardlogref19_Right.f k bt548.1 bt548.2.1 bt548.2.2.1 bt548.2.2.2.1 bt548.2.2.2.2.1 bt548.2.2.2.2.2.1 bt548.2.2.2.2.2.2.1 bt548.2.2.2.2.2.2.2.1 bt548.2.2.2.2.2.2.2.2.1 bt548.2.2.2.2.2.2.2.2.2.1 bt548.2.2.2.2.2.2.2.2.2.2.1).bind fun t563 => (if t563 = true then ((shardlogref19_Put.f k bt548.1 bt548.2.1 bt548.2.2.1 bt548.2.2.2.1 bt548.2.2.2.2.1 bt548.2.2.2.2.2.1 bt548.2.2.2.2.2.2.1 bt548.2.2.2.2.2.2.2.1 bt548.2.2.2.2.2.2.2.2.1 bt548.2.2.2.2.2.2.2.2.2.1 bt548.2.2.2.2.2.2.2.2.2.2.1).bind fun t564 => ((shardlogref01_Same.f t564 x0).bind fun t567 => (some t567))) else (none))) else (if bt548.2.2.2.2.2.2.2.2.2.2.2 = 2 then ((shardlogref19_Same.f k bt548.1 bt548.2.1 bt548.2.2.1 bt548.2.2.2.1 bt548.2.2.2.2.1 bt548.2.2.2.2.2.1 bt548.2.2.2.2.2.2.1 bt548.2.2.2.2.2.2.2.1 bt548.2.2.2.2.2.2.2.2.1 bt548.2.2.2.2.2.2.2.2.2.1 bt548.2.2.2.2.2.2.2.2.2.2.1 0 0 0 0 0 0 0 0 false (⟨#[]⟩ : ByteArray) ([] : List (S23))).bind fun t568 => (some t568)) else (none))))
def shardloglaw19_MsgGets.f (k : Nat) (l0 : List Int) : Option (Bool) := (shardloglaw19_awake.f k).bind fun t546 => (if t546 = true then (shardloglaw19_MsgGets.j0 k l0 (decide ((l0.length : Int) > 3000))) else (shardloglaw19_MsgGets.j0 k l0 true))
theorem shardloglaw19_MsgGets.mono_l : ∀ k, (∀ y0 y1, LeO (shardloglaw19_MsgGets.j0 k y0 y1) (shardloglaw19_MsgGets.j0 (k + 1) y0 y1))
 | 0 => fun _ _ r h => by simp [shardloglaw19_MsgGets.j0] at h
 | k + 1 => by
  have ih0 := shardloglaw19_MsgGets.mono_l k
  ·
   intro y0 y1
   unfold shardloglaw19_MsgGets.j0
   repeat' first
   | (with_reducible exact ih0 _ _)
   | (with_reducible exact msg_Get.mono _ _)
   | (with_reducible exact shardloglaw19_awake.mono _)
   | (with_reducible exact shardlogref19_Put.mono _ _ _ _ _ _ _ _ _ _ _ _)
   | (with_reducible exact shardlogref19_Right.mono _ _ _ _ _ _ _ _ _ _ _ _)
   | (with_reducible exact shardlogref19_Same.mono _ _ _ _ _ _ _ _ _ _ _ _ _ _ _ _ _ _ _ _ _ _ _)
   | (with_reducible exact LeO.refl _)
   | (with_reducible exact LeO.none _)
   | (with_reducible refine LeO.ite ?_ ?_)
   | (with_reducible refine LeO.bind ?_ (fun _ => ?_))
   | exact LeO.none _
   | refine LeO.ite ?_ ?_
   | refine LeO.bind ?_ (fun _ => ?_)
theorem shardloglaw19_MsgGets.mono : ∀ a0 k, LeO (shardloglaw19_MsgGets.f k a0) (shardloglaw19_MsgGets.f (k + 1) a0) := by
 intro a0 k
 have ih0 := shardloglaw19_MsgGets.mono_l k
 unfold shardloglaw19_MsgGets.f
 repeat' first
   | (with_reducible exact ih0 _ _)
   | (with_reducible exact msg_Get.mono _ _)
   | (with_reducible exact shardloglaw19_awake.mono _)
   | (with_reducible exact shardlogref19_Put.mono _ _ _ _ _ _ _ _ _ _ _ _)
   | (with_reducible exact shardlogref19_Right.mono _ _ _ _ _ _ _ _ _ _ _ _)
   | (with_reducible exact shardlogref19_Same.mono _ _ _ _ _ _ _ _ _ _ _ _ _ _ _ _ _ _ _ _ _ _ _)
   | (with_reducible exact LeO.refl _)
   | (with_reducible exact LeO.none _)
   | (with_reducible refine LeO.ite ?_ ?_)
   | (with_reducible refine LeO.bind ?_ (fun _ => ?_))
   | exact LeO.none _
   | refine LeO.ite ?_ ?_
   | refine LeO.bind ?_ (fun _ => ?_)
set_option maxHeartbeats 8000000 in
set_option maxRecDepth 100000 in
theorem shardloglaw19_MsgGets.calls (k : Nat) (A0 : Option Addr) (c0 : Nat) (l0 : List Int) (r : Bool) (w : World) (hr0 : Kd.C (Kd.int .u8) w A0 l0.length l0) (hc0 : l0.length ≤ c0) (h : shardloglaw19_MsgGets.f k l0 = some r) :
  Calls Try.prog 5 #[.slice A0 l0.length c0] w fun e w' => e = .returned (.bool r) ∧ Below w.heap.size w w' := by
 have hu26 := Try.underlying26
 have HR0 := aS hr0
 have HC0 := aS hc0
 clear hr0 hc0
 have HB := aS (Below.refl w.heap.size w)
 have H : ((shardloglaw19_awake.f k).bind fun t546 => (if t546 = true then (shardloglaw19_MsgGets.j0 k l0 (decide ((l0.length : Int) > 3000))) else (shardloglaw19_MsgGets.j0 k l0 true))) = some r := h
 clear h
 have HC2 := aS H
 clear H
 go_enter Try.func5, Try.ntmps5
 go_upto_region 1 with (fail)
 go_cut [11] (fun v11 wc => ∃ (kq : Nat) (x11_1 : Bool), v11 = .bool x11_1 ∧ Aside0 (shardloglaw19_MsgGets.j0 kq l0 x11_1 = some r) ∧ Aside0 (kq ≤ k) ∧ Aside0 (Below w.heap.size w wc))
 case first =>
  have H := HC2.out; clear HC2
  replace H := obm H
  obtain ⟨t546, A30, H⟩ := H
  replace H : (if t546 = true then (shardloglaw19_MsgGets.j0 k l0 (decide ((l0.length : Int) > 3000))) else (shardloglaw19_MsgGets.j0 k l0 true)) = some r := H
  have A3 := aS A30
  clear A30
  by_cases c4 : t546 = true
  ·
   subst c4
   have H1 : (shardloglaw19_MsgGets.j0 k l0 (decide ((l0.length : Int) > 3000))) = some r := by rw [if_pos rfl] at H; exact H
   clear H; have H := H1; clear H1
   have H' := aS H
   clear H
   go_wp2_with (first | ((with_reducible refine gate_callee (f := 7) rfl ?_); refine goesL_ (some 5) rfl rfl Try.func7 (by kernel_rfl) rfl #[] rfl agn ?_; (with_reducible refine (shardloglaw19_awake.calls k  true _ A3.out).mono ?_); rintro e w5 ⟨rfl, hb⟩; refine ⟨_, rfl, ?_⟩; have n0_ := bstep hb; clear HB; have HB := n0_; clear n0_; (try clear hb); (try clear hb2); (try clear hk); (try clear hi)))
   go_meet
   case rel => exact ⟨_, (decide ((l0.length : Int) > 3000)), (by first | rfl | (simp; done) | (simp [*]; done) | (simp; exact (by decide : ∀ a_ b_ : Bool, (a_ == b_) = (!a_ != b_)) _ _)), H', ⟨by first | omega | exact Nat.le_refl _⟩, ⟨bel⟩⟩
  ·
   replace c4 := Bool.eq_false_iff.mpr c4
   subst c4
   have H1 : (shardloglaw19_MsgGets.j0 k l0 true) = some r := by rw [if_neg (show ¬ (false = true) by decide)] at H; exact H
   clear H; have H := H1; clear H1
   have H' := aS H
   clear H
   go_wp2_with (first | ((with_reducible refine gate_callee (f := 7) rfl ?_); refine goesL_ (some 5) rfl rfl Try.func7 (by kernel_rfl) rfl #[] rfl agn ?_; (with_reducible refine (shardloglaw19_awake.calls k  false _ A3.out).mono ?_); rintro e w6 ⟨rfl, hb⟩; refine ⟨_, rfl, ?_⟩; have n0_ := bstep hb; clear HB; have HB := n0_; clear n0_; (try clear hb); (try clear hb2); (try clear hk); (try clear hi)))
   go_meet
   case rel => exact ⟨_, (true), (by first | rfl | (simp; done) | (simp [*]; done) | (simp; exact (by decide : ∀ a_ b_ : Bool, (a_ == b_) = (!a_ != b_)) _ _)), H', ⟨by first | omega | exact Nat.le_refl _⟩, ⟨bel⟩⟩
 case rest =>
  clear HC2; (try clear p2); (try clear c4); (try clear c5)
  obtain ⟨kq, x11_1, rfl, HA, HJ1, HB⟩ := hcut
  cases kq with
  | zero => exact absurd HA.out (by simp [shardloglaw19_MsgGets.j0])
  | succ kj1 =>
   have H := HA.out; clear HA
   simp only [shardloglaw19_MsgGets.j0] at H
   by_cases c7 : x11_1 = true
   ·
    subst c7
    have H1 : ((shardloglaw19_awake.f kj1).bind fun t547 => (some t547)) = some r := by rw [if_pos rfl] at H; exact H
    clear H; have H := H1; clear H1
    replace H := obm H
    obtain ⟨t547, A80, H⟩ := H
    replace H : (some t547) = some r := H
    have A8 := aS A80
    clear A80
    obtain rfl := Option.some.inj H
    go_wp2_with (first | ((with_reducible refine gate_callee (f := 7) rfl ?_); refine goesL_ (some 12) rfl rfl Try.func7 (by kernel_rfl) rfl #[] rfl agn ?_; (with_reducible refine (shardloglaw19_awake.calls kj1  t547 _ A8.out).mono ?_); rintro e w9 ⟨rfl, hb⟩; refine ⟨_, rfl, ?_⟩; have n0_ := bstep hb; clear HB; have HB := n0_; clear n0_; (try clear hb); (try clear hb2); (try clear hk); (try clear hi)))
    go_ret
    exact ⟨rf3, bel⟩
   ·
    replace c7 := Bool.eq_false_iff.mpr c7
    subst c7
    have H1 : ((msg_Get.f kj1 l0).bind fun bt548 => (if bt548.2.2.2.2.2.2.2.2.2.2.2 = 0 then ((shardlogref19_Right.f kj1 bt548.1 bt548.2.1 bt548.2.2.1 bt548.2.2.2.1 bt548.2.2.2.2.1 bt548.2.2.2.2.2.1 bt548.2.2.2.2.2.2.1 bt548.2.2.2.2.2.2.2.1 bt548.2.2.2.2.2.2.2.2.1 bt548.2.2.2.2.2.2.2.2.2.1 bt548.2.2.2.2.2.2.2.2.2.2.1).bind fun t563 => (if t563 = true then ((shardlogref19_Put.f kj1 bt548.1 bt548.2.1 bt548.2.2.1 bt548.2.2.2.1 bt548.2.2.2.2.1 bt548.2.2.2.2.2.1 bt548.2.2.2.2.2.2.1 bt548.2.2.2.2.2.2.2.1 bt548.2.2.2.2.2.2.2.2.1 bt548.2.2.2.2.2.2.2.2.2.1 bt548.2.2.2.2.2.2.2.2.2.2.1).bind fun t564 => ((shardlogref01_Same.f t564 l0).bind fun t567 => (some t567))) else (none))) else (if bt548.2.2.2.2.2.2.2.2.2.2.2 = 2 then ((shardlogref19_Same.f kj1 bt548.1 bt548.2.1 bt548.2.2.1 bt548.2.2.2.1 bt548.2.2.2.2.1 bt548.2.2.2.2.2.1 bt548.2.2.2.2.2.2.1 bt548.2.2.2.2.2.2.2.1 bt548.2.2.2.2.2.2.2.2.1 bt548.2.2.2.2.2.2.2.2.2.1 bt548.2.2.2.2.2.2.2.2.2.2.1 0 0 0 0 0 0 0 0 false (⟨#[]⟩ : ByteArray) ([] : List (S23))).bind fun t568 => (some t568)) else (none)))) = some r := by rw [if_neg (show ¬ (false = true) by decide)] at H; exact H
    clear H; have H := H1; clear H1
    replace H := obm H
    obtain ⟨⟨t548, t549, t550, t551, t552, t553, t554, t555, t556, t557, t558, t561⟩, A100, H⟩ := H
    replace H : (if t561 = 0 then ((shardlogref19_Right.f kj1 t548 t549 t550 t551 t552 t553 t554 t555 t556 t557 t558).bind fun t563 => (if t563 = true then ((shardlogref19_Put.f kj1 t548 t549 t550 t551 t552 t553 t554 t555 t556 t557 t558).bind fun t564 => ((shardlogref01_Same.f t564 l0).bind fun t567 => (some t567))) else (none))) else (if t561 = 2 then ((shardlogref19_Same.f kj1 t548 t549 t550 t551 t552 t553 t554 t555 t556 t557 t558 0 0 0 0 0 0 0 0 false (⟨#[]⟩ : ByteArray) ([] : List (S23))).bind fun t568 => (some t568)) else (none))) = some r := H
    have A10 := aS A100
    clear A100
    by_cases c11 : t561 = 0
    ·
     rw [if_pos c11] at H
     obtain ⟨c11b0, c11b1⟩ := eqT c11
     clear c11
     replace H := obm H
     obtain ⟨t563, A120, H⟩ := H
     replace H : (if t563 = true then ((shardlogref19_Put.f kj1 t548 t549 t550 t551 t552 t553 t554 t555 t556 t557 t558).bind fun t564 => ((shardlogref01_Same.f t564 l0).bind fun t567 => (some t567))) else (none)) = some r := H
     have A12 := aS A120
     clear A120
     by_cases c13 : t563 = true
     ·
      subst c13
      have H1 : ((shardlogref19_Put.f kj1 t548 t549 t550 t551 t552 t553 t554 t555 t556 t557 t558).bind fun t564 => ((shardlogref01_Same.f t564 l0).bind fun t567 => (some t567))) = some r := by rw [if_pos rfl] at H; exact H
      clear H; have H := H1; clear H1
      replace H := obm H
      obtain ⟨t564, A140, H⟩ := H
      replace H : ((shardlogref01_Same.f t564 l0).bind fun t567 => (some t567)) = some r := H
      have A14 := aS A140
      clear A140
      replace H := obm H
      obtain ⟨t567, A150, H⟩ := H
      replace H : (some t567) = some r := H
      have A15 := aS A150
      clear A150
      obtain rfl := Option.some.inj H
      go_wp2_with (first | ((with_reducible refine gate_callee (f := 16) rfl ?_); refine goesL_ (some 15) rfl rfl Try.func16 (by kernel_rfl) rfl #[.slice A0 l0.length c0] rfl agn ?_; (with_reducible refine (msg_Get.calls kj1 _ _ l0 t548 t549 t550 t551 t552 t553 t554 t555 t556 t557 t558 t561 _ ?side1 ?side2 A10.out).mono ?_); (case side1 => exact cel (Kd.C_below HR0.out HB.out)); (case side2 => exact HC0.out); rintro e w16 ⟨v559, rfl, ho0, hb⟩; refine ⟨_, rfl, ?_⟩; have n0_ := aS (Kd.R_lower ho0 (below_size bel)); have n1_ := bstep hb; clear HB; have HO560 := n0_; have HB := n1_; clear n0_ n1_; (try clear hb); (try clear hb2); (try clear hk); (try clear hi); (try clear ho0)) | ((with_reducible refine gate_dst (N := 3) rfl ?_); (try (refine gate_guard (by rfl) ?_; dsimp only)); refine box_event ?hg (N := 3) ?hd (cs := #[.int .i64 0, .int .i64 0, .int .i64 0, .int .i64 0, .int .i64 0, .int .i64 0, .int .i64 0, .int .i64 0, .bool false, .string (⟨#[]⟩ : ByteArray), .slice none 0 0]) (t := 26) ?hr ?_; (case hd => rfl); (case hg => rfl); (case hr => first | (go_simp; done) | (go_simp; rfl)); intro gb562 hg w17 hbox hb; have n0_ := aS (Kd.R_below (rel HO560.out) hb); have n1_ := bstep hb; have n2_ := aS (hbox); have n3_ := bsize hg; have n4_ := bsize hg; clear HO560; clear HB; have HO560 := n0_; have HB := n1_; have BK562 := n2_; have GW562 := n3_; have GE562 := n4_; clear n0_ n1_ n2_ n3_ n4_; clear hb hbox hg; have hcz18 := cK11 BK562; obtain ⟨Ao19, co19, eo19⟩ := Kd.R_slice HO560.out; subst eo19) | ((with_reducible refine gate_callee (f := 11) rfl ?_); refine goesL_ (some 28) rfl rfl Try.func11 (by kernel_rfl) rfl #[.agg #[.int .i64 t548, .int .i64 t549, .int .i64 t550, .int .i64 t551, .int .i64 t552, .int .i64 t553, .int .i64 t554, .int .i64 t555, .bool t556, .string t557, .slice Ao19 t558.length co19]] rfl agn ?_; (with_reducible refine (shardlogref19_Right.calls kj1 t548 t549 t550 t551 t552 t553 t554 t555 t556 t557 _ _ t558 true _ ?side1 ?side2 A12.out).mono ?_); (case side1 => refine (Kd.R_reads' (e := 23) (base := w.heap.size) (ok := fun k_ => True) (n := t558.length) (c := co19) ?_).2.2; exact (by (with_reducible repeat (first | apply Kd.R_alloc | apply Kd.R_drewN | apply Kd.R_drew)); exact (Kd.R_mono (Kd.R_far (p := ⟨gb562, 10, none⟩) (Kd.R_far (p := ⟨gb562, 9, none⟩) (Kd.R_far (p := ⟨gb562, 8, none⟩) (Kd.R_far (p := ⟨gb562, 7, none⟩) (Kd.R_far (p := ⟨gb562, 6, none⟩) (Kd.R_far (p := ⟨gb562, 5, none⟩) (Kd.R_far (p := ⟨gb562, 4, none⟩) (Kd.R_far (p := ⟨gb562, 3, none⟩) (Kd.R_far (p := ⟨gb562, 2, none⟩) (Kd.R_far (p := ⟨gb562, 1, none⟩) (Kd.R_far (p := ⟨gb562, 0, none⟩) (Kd.R_types HO560.out BK562.out (by decide)) (fun _ hk => hk.2) (.int .i64 t548)) (fun _ hk => hk.2) (.int .i64 t549)) (fun _ hk => hk.2) (.int .i64 t550)) (fun _ hk => hk.2) (.int .i64 t551)) (fun _ hk => hk.2) (.int .i64 t552)) (fun _ hk => hk.2) (.int .i64 t553)) (fun _ hk => hk.2) (.int .i64 t554)) (fun _ hk => hk.2) (.int .i64 t555)) (fun _ hk => hk.2) (.bool t556)) (fun _ hk => hk.2) (.string t557)) (fun _ hk => hk.2) (.slice Ao19 t558.length co19)) (fun _ h_ => h_.1)))); (case side2 => exact (Kd.R_reads' HO560.out).2.1); rintro e w20 ⟨rfl, hb⟩; refine ⟨_, rfl, ?_⟩; have n0_ := aS (Kd.R_below (by (with_reducible repeat (first | apply Kd.R_alloc | apply Kd.R_drewN | apply Kd.R_drew)); exact (Kd.R_mono (Kd.R_far (p := ⟨gb562, 10, none⟩) (Kd.R_far (p := ⟨gb562, 9, none⟩) (Kd.R_far (p := ⟨gb562, 8, none⟩) (Kd.R_far (p := ⟨gb562, 7, none⟩) (Kd.R_far (p := ⟨gb562, 6, none⟩) (Kd.R_far (p := ⟨gb562, 5, none⟩) (Kd.R_far (p := ⟨gb562, 4, none⟩) (Kd.R_far (p := ⟨gb562, 3, none⟩) (Kd.R_far (p := ⟨gb562, 2, none⟩) (Kd.R_far (p := ⟨gb562, 1, none⟩) (Kd.R_far (p := ⟨gb562, 0, none⟩) (Kd.R_types HO560.out BK562.out (by decide)) (fun _ hk => hk.2) (.int .i64 t548)) (fun _ hk => hk.2) (.int .i64 t549)) (fun _ hk => hk.2) (.int .i64 t550)) (fun _ hk => hk.2) (.int .i64 t551)) (fun _ hk => hk.2) (.int .i64 t552)) (fun _ hk => hk.2) (.int .i64 t553)) (fun _ hk => hk.2) (.int .i64 t554)) (fun _ hk => hk.2) (.int .i64 t555)) (fun _ hk => hk.2) (.bool t556)) (fun _ hk => hk.2) (.string t557)) (fun _ hk => hk.2) (.slice Ao19 t558.length co19)) (fun _ h_ => h_.1))) hb); have n1_ := aS (blk_below (g := gb562) (o := .cells #[.int .i64 t548, .int .i64 t549, .int .i64 t550, .int .i64 t551, .int .i64 t552, .int .i64 t553, .int .i64 t554, .int .i64 t555, .bool t556, .string t557, .slice Ao19 t558.length co19] 26 (0, 0)) (by (with_reducible repeat (first | refine blk_drewN ?_ _ | refine blk_drew ?_ | refine blk_alloc ?_ _)); refine blk_put (cs := #[.int .i64 t548, .int .i64 t549, .int .i64 t550, .int .i64 t551, .int .i64 t552, .int .i64 t553, .int .i64 t554, .int .i64 t555, .bool t556, .string t557, .slice none 0 0]) ?_ 10 _ rfl; (with_reducible repeat (first | refine blk_drewN ?_ _ | refine blk_drew ?_ | refine blk_alloc ?_ _)); refine blk_put (cs := #[.int .i64 t548, .int .i64 t549, .int .i64 t550, .int .i64 t551, .int .i64 t552, .int .i64 t553, .int .i64 t554, .int .i64 t555, .bool t556, .string (⟨#[]⟩ : ByteArray), .slice none 0 0]) ?_ 9 _ rfl; (with_reducible repeat (first | refine blk_drewN ?_ _ | refine blk_drew ?_ | refine blk_alloc ?_ _)); refine blk_put (cs := #[.int .i64 t548, .int .i64 t549, .int .i64 t550, .int .i64 t551, .int .i64 t552, .int .i64 t553, .int .i64 t554, .int .i64 t555, .bool false, .string (⟨#[]⟩ : ByteArray), .slice none 0 0]) ?_ 8 _ rfl; (with_reducible repeat (first | refine blk_drewN ?_ _ | refine blk_drew ?_ | refine blk_alloc ?_ _)); refine blk_put (cs := #[.int .i64 t548, .int .i64 t549, .int .i64 t550, .int .i64 t551, .int .i64 t552, .int .i64 t553, .int .i64 t554, .int .i64 0, .bool false, .string (⟨#[]⟩ : ByteArray), .slice none 0 0]) ?_ 7 _ rfl; (with_reducible repeat (first | refine blk_drewN ?_ _ | refine blk_drew ?_ | refine blk_alloc ?_ _)); refine blk_put (cs := #[.int .i64 t548, .int .i64 t549, .int .i64 t550, .int .i64 t551, .int .i64 t552, .int .i64 t553, .int .i64 0, .int .i64 0, .bool false, .string (⟨#[]⟩ : ByteArray), .slice none 0 0]) ?_ 6 _ rfl; (with_reducible repeat (first | refine blk_drewN ?_ _ | refine blk_drew ?_ | refine blk_alloc ?_ _)); refine blk_put (cs := #[.int .i64 t548, .int .i64 t549, .int .i64 t550, .int .i64 t551, .int .i64 t552, .int .i64 0, .int .i64 0, .int .i64 0, .bool false, .string (⟨#[]⟩ : ByteArray), .slice none 0 0]) ?_ 5 _ rfl; (with_reducible repeat (first | refine blk_drewN ?_ _ | refine blk_drew ?_ | refine blk_alloc ?_ _)); refine blk_put (cs := #[.int .i64 t548, .int .i64 t549, .int .i64 t550, .int .i64 t551, .int .i64 0, .int .i64 0, .int .i64 0, .int .i64 0, .bool false, .string (⟨#[]⟩ : ByteArray), .slice none 0 0]) ?_ 4 _ rfl; (with_reducible repeat (first | refine blk_drewN ?_ _ | refine blk_drew ?_ | refine blk_alloc ?_ _)); refine blk_put (cs := #[.int .i64 t548, .int .i64 t549, .int .i64 t550, .int .i64 0, .int .i64 0, .int .i64 0, .int .i64 0, .int .i64 0, .bool false, .string (⟨#[]⟩ : ByteArray), .slice none 0 0]) ?_ 3 _ rfl; (with_reducible repeat (first | refine blk_drewN ?_ _ | refine blk_drew ?_ | refine blk_alloc ?_ _)); refine blk_put (cs := #[.int .i64 t548, .int .i64 t549, .int .i64 0, .int .i64 0, .int .i64 0, .int .i64 0, .int .i64 0, .int .i64 0, .bool false, .string (⟨#[]⟩ : ByteArray), .slice none 0 0]) ?_ 2 _ rfl; (with_reducible repeat (first | refine blk_drewN ?_ _ | refine blk_drew ?_ | refine blk_alloc ?_ _)); refine blk_put (cs := #[.int .i64 t548, .int .i64 0, .int .i64 0, .int .i64 0, .int .i64 0, .int .i64 0, .int .i64 0, .int .i64 0, .bool false, .string (⟨#[]⟩ : ByteArray), .slice none 0 0]) ?_ 1 _ rfl; (with_reducible repeat (first | refine blk_drewN ?_ _ | refine blk_drew ?_ | refine blk_alloc ?_ _)); refine blk_put (cs := #[.int .i64 0, .int .i64 0, .int .i64 0, .int .i64 0, .int .i64 0, .int .i64 0, .int .i64 0, .int .i64 0, .bool false, .string (⟨#[]⟩ : ByteArray), .slice none 0 0]) ?_ 0 _ rfl; (with_reducible repeat (first | refine blk_drewN ?_ _ | refine blk_drew ?_ | refine blk_alloc ?_ _)); exact BK562.out) hb); have n2_ := bstep hb; clear HO560; clear BK562; clear HB; have HO560 := n0_; have BK562 := n1_; have HB := n2_; clear n0_ n1_ n2_; (try clear hb); (try clear hb2); (try clear hk); (try clear hi); have hcz21 := cK11 BK562) | (go_at_call 15; (with_reducible refine (shardlogref19_Put.calls kj1 t548 t549 t550 t551 t552 t553 t554 t555 t556 t557 _ _ t558 t564 _ ?side1 ?side2 A14.out).mono ?_); (case side1 => exact cel ((Kd.R_reads' HO560.out).2.2)); (case side2 => exact (Kd.R_reads' HO560.out).2.1); rintro e w22 ⟨v565, rfl, ho0, hb⟩; have n0_ := aS (Kd.R_below (rel HO560.out) hb); have n1_ := aS (Kd.R_lower ho0 (below_size bel)); have n2_ := aS (blk_below (g := gb562) (o := .cells #[.int .i64 t548, .int .i64 t549, .int .i64 t550, .int .i64 t551, .int .i64 t552, .int .i64 t553, .int .i64 t554, .int .i64 t555, .bool t556, .string t557, .slice Ao19 t558.length co19] 26 (0, 0)) (bkl BK562.out) hb); have n3_ := bstep hb; clear HO560; clear BK562; clear HB; have HO560 := n0_; have HO566 := n1_; have BK562 := n2_; have HB := n3_; clear n0_ n1_ n2_ n3_; (try clear hb); (try clear hb2); (try clear hk); (try clear hi); (try clear ho0); obtain ⟨Ao23, co23, eo23⟩ := Kd.R_slice HO566.out; subst eo23) | (go_at_call 14; (with_reducible refine (shardlogref01_Same.calls _ _ t564 _ _ l0 t567 _ ?side1 ?side2 ?side3 ?side4 A15.out).mono ?_); (case side1 => exact cel ((Kd.R_reads' HO566.out).2.2)); (case side2 => exact (Kd.R_reads' HO566.out).2.1); (case side3 => exact cel (Kd.C_below HR0.out HB.out)); (case side4 => exact HC0.out); rintro e w' ⟨rfl, ⟨nd, rfl⟩⟩))
      go_ret
      exact ⟨rf3, bel⟩
     ·
      replace c13 := Bool.eq_false_iff.mpr c13
      subst c13
      have H1 : (none) = some r := by rw [if_neg (show ¬ (false = true) by decide)] at H; exact H
      clear H; have H := H1; clear H1
      exact absurd H (by simp)
    ·
     rw [if_neg c11] at H
     obtain ⟨c11b0, c11b1⟩ := eqF c11
     by_cases c24 : t561 = 2
     ·
      rw [if_pos c24] at H
      obtain ⟨c24b0, c24b1⟩ := eqT c24
      clear c24
      replace H := obm H
      obtain ⟨t568, A250, H⟩ := H
      replace H : (some t568) = some r := H
      have A25 := aS A250
      clear A250
      obtain rfl := Option.some.inj H
      go_wp2_with (first | ((with_reducible refine gate_callee (f := 16) rfl ?_); refine goesL_ (some 15) rfl rfl Try.func16 (by kernel_rfl) rfl #[.slice A0 l0.length c0] rfl agn ?_; (with_reducible refine (msg_Get.calls kj1 _ _ l0 t548 t549 t550 t551 t552 t553 t554 t555 t556 t557 t558 t561 _ ?side1 ?side2 A10.out).mono ?_); (case side1 => exact cel (Kd.C_below HR0.out HB.out)); (case side2 => exact HC0.out); rintro e w26 ⟨v559, rfl, ho0, hb⟩; refine ⟨_, rfl, ?_⟩; have n0_ := aS (Kd.R_lower ho0 (below_size bel)); have n1_ := bstep hb; clear HB; have HO560 := n0_; have HB := n1_; clear n0_ n1_; (try clear hb); (try clear hb2); (try clear hk); (try clear hi); (try clear ho0)) | ((with_reducible refine gate_dst (N := 3) rfl ?_); (try (refine gate_guard (by rfl) ?_; dsimp only)); refine box_event ?hg (N := 3) ?hd (cs := #[.int .i64 0, .int .i64 0, .int .i64 0, .int .i64 0, .int .i64 0, .int .i64 0, .int .i64 0, .int .i64 0, .bool false, .string (⟨#[]⟩ : ByteArray), .slice none 0 0]) (t := 26) ?hr ?_; (case hd => rfl); (case hg => rfl); (case hr => first | (go_simp; done) | (go_simp; rfl)); intro gb562 hg w27 hbox hb; have n0_ := aS (Kd.R_below (rel HO560.out) hb); have n1_ := bstep hb; have n2_ := aS (hbox); have n3_ := bsize hg; have n4_ := bsize hg; clear HO560; clear HB; have HO560 := n0_; have HB := n1_; have BK562 := n2_; have GW562 := n3_; have GE562 := n4_; clear n0_ n1_ n2_ n3_ n4_; clear hb hbox hg; have hcz28 := cK11 BK562; obtain ⟨Ao29, co29, eo29⟩ := Kd.R_slice HO560.out; subst eo29) | (go_at_call 13; (refine (shardlogref19_Same.calls kj1 t548 t549 t550 t551 t552 t553 t554 t555 t556 t557 _ _ t558 0 0 0 0 0 0 0 0 false (⟨#[]⟩ : ByteArray) _ _ ([] : List (S23)) t568 _ ?side1 ?side2 ?side3 ?side4 A25.out).mono ?_); (case side1 => refine (Kd.R_reads' (e := 23) (base := w.heap.size) (ok := fun k_ => True) (n := t558.length) (c := co29) ?_).2.2; exact (by (with_reducible repeat (first | apply Kd.R_alloc | apply Kd.R_drewN | apply Kd.R_drew)); exact (Kd.R_mono (Kd.R_far (p := ⟨gb562, 10, none⟩) (Kd.R_far (p := ⟨gb562, 9, none⟩) (Kd.R_far (p := ⟨gb562, 8, none⟩) (Kd.R_far (p := ⟨gb562, 7, none⟩) (Kd.R_far (p := ⟨gb562, 6, none⟩) (Kd.R_far (p := ⟨gb562, 5, none⟩) (Kd.R_far (p := ⟨gb562, 4, none⟩) (Kd.R_far (p := ⟨gb562, 3, none⟩) (Kd.R_far (p := ⟨gb562, 2, none⟩) (Kd.R_far (p := ⟨gb562, 1, none⟩) (Kd.R_far (p := ⟨gb562, 0, none⟩) (Kd.R_types HO560.out BK562.out (by decide)) (fun _ hk => hk.2) (.int .i64 t548)) (fun _ hk => hk.2) (.int .i64 t549)) (fun _ hk => hk.2) (.int .i64 t550)) (fun _ hk => hk.2) (.int .i64 t551)) (fun _ hk => hk.2) (.int .i64 t552)) (fun _ hk => hk.2) (.int .i64 t553)) (fun _ hk => hk.2) (.int .i64 t554)) (fun _ hk => hk.2) (.int .i64 t555)) (fun _ hk => hk.2) (.bool t556)) (fun _ hk => hk.2) (.string t557)) (fun _ hk => hk.2) (.slice Ao29 t558.length co29)) (fun _ h_ => h_.1)))); (case side2 => exact (Kd.R_reads' HO560.out).2.1); (case side3 => exact Kd.C_nil _ _); (case side4 => exact Nat.le_refl _); rintro e w30 ⟨rfl, hb⟩; have n0_ := aS (Kd.R_below (by (with_reducible repeat (first | apply Kd.R_alloc | apply Kd.R_drewN | apply Kd.R_drew)); exact (Kd.R_mono (Kd.R_far (p := ⟨gb562, 10, none⟩) (Kd.R_far (p := ⟨gb562, 9, none⟩) (Kd.R_far (p := ⟨gb562, 8, none⟩) (Kd.R_far (p := ⟨gb562, 7, none⟩) (Kd.R_far (p := ⟨gb562, 6, none⟩) (Kd.R_far (p := ⟨gb562, 5, none⟩) (Kd.R_far (p := ⟨gb562, 4, none⟩) (Kd.R_far (p := ⟨gb562, 3, none⟩) (Kd.R_far (p := ⟨gb562, 2, none⟩) (Kd.R_far (p := ⟨gb562, 1, none⟩) (Kd.R_far (p := ⟨gb562, 0, none⟩) (Kd.R_types HO560.out BK562.out (by decide)) (fun _ hk => hk.2) (.int .i64 t548)) (fun _ hk => hk.2) (.int .i64 t549)) (fun _ hk => hk.2) (.int .i64 t550)) (fun _ hk => hk.2) (.int .i64 t551)) (fun _ hk => hk.2) (.int .i64 t552)) (fun _ hk => hk.2) (.int .i64 t553)) (fun _ hk => hk.2) (.int .i64 t554)) (fun _ hk => hk.2) (.int .i64 t555)) (fun _ hk => hk.2) (.bool t556)) (fun _ hk => hk.2) (.string t557)) (fun _ hk => hk.2) (.slice Ao29 t558.length co29)) (fun _ h_ => h_.1))) hb); have n1_ := aS (blk_below (g := gb562) (o := .cells #[.int .i64 t548, .int .i64 t549, .int .i64 t550, .int .i64 t551, .int .i64 t552, .int .i64 t553, .int .i64 t554, .int .i64 t555, .bool t556, .string t557, .slice Ao29 t558.length co29] 26 (0, 0)) (by (with_reducible repeat (first | refine blk_drewN ?_ _ | refine blk_drew ?_ | refine blk_alloc ?_ _)); refine blk_put (cs := #[.int .i64 t548, .int .i64 t549, .int .i64 t550, .int .i64 t551, .int .i64 t552, .int .i64 t553, .int .i64 t554, .int .i64 t555, .bool t556, .string t557, .slice none 0 0]) ?_ 10 _ rfl; (with_reducible repeat (first | refine blk_drewN ?_ _ | refine blk_drew ?_ | refine blk_alloc ?_ _)); refine blk_put (cs := #[.int .i64 t548, .int .i64 t549, .int .i64 t550, .int .i64 t551, .int .i64 t552, .int .i64 t553, .int .i64 t554, .int .i64 t555, .bool t556, .string (⟨#[]⟩ : ByteArray), .slice none 0 0]) ?_ 9 _ rfl; (with_reducible repeat (first | refine blk_drewN ?_ _ | refine blk_drew ?_ | refine blk_alloc ?_ _)); refine blk_put (cs := #[.int .i64 t548, .int .i64 t549, .int .i64 t550, .int .i64 t551, .int .i64 t552, .int .i64 t553, .int .i64 t554, .int .i64 t555, .bool false, .string (⟨#[]⟩ : ByteArray), .slice none 0 0]) ?_ 8 _ rfl; (with_reducible repeat (first | refine blk_drewN ?_ _ | refine blk_drew ?_ | refine blk_alloc ?_ _)); refine blk_put (cs := #[.int .i64 t548, .int .i64 t549, .int .i64 t550, .int .i64 t551, .int .i64 t552, .int .i64 t553, .int .i64 t554, .int .i64 0, .bool false, .string (⟨#[]⟩ : ByteArray), .slice none 0 0]) ?_ 7 _ rfl; (with_reducible repeat (first | refine blk_drewN ?_ _ | refine blk_drew ?_ | refine blk_alloc ?_ _)); refine blk_put (cs := #[.int .i64 t548, .int .i64 t549, .int .i64 t550, .int .i64 t551, .int .i64 t552, .int .i64 t553, .int .i64 0, .int .i64 0, .bool false, .string (⟨#[]⟩ : ByteArray), .slice none 0 0]) ?_ 6 _ rfl; (with_reducible repeat (first | refine blk_drewN ?_ _ | refine blk_drew ?_ | refine blk_alloc ?_ _)); refine blk_put (cs := #[.int .i64 t548, .int .i64 t549, .int .i64 t550, .int .i64 t551, .int .i64 t552, .int .i64 0, .int .i64 0, .int .i64 0, .bool false, .string (⟨#[]⟩ : ByteArray), .slice none 0 0]) ?_ 5 _ rfl; (with_reducible repeat (first | refine blk_drewN ?_ _ | refine blk_drew ?_ | refine blk_alloc ?_ _)); refine blk_put (cs := #[.int .i64 t548, .int .i64 t549, .int .i64 t550, .int .i64 t551, .int .i64 0, .int .i64 0, .int .i64 0, .int .i64 0, .bool false, .string (⟨#[]⟩ : ByteArray), .slice none 0 0]) ?_ 4 _ rfl; (with_reducible repeat (first | refine blk_drewN ?_ _ | refine blk_drew ?_ | refine blk_alloc ?_ _)); refine blk_put (cs := #[.int .i64 t548, .int .i64 t549, .int .i64 t550, .int .i64 0, .int .i64 0, .int .i64 0, .int .i64 0, .int .i64 0, .bool false, .string (⟨#[]⟩ : ByteArray), .slice none 0 0]) ?_ 3 _ rfl; (with_reducible repeat (first | refine blk_drewN ?_ _ | refine blk_drew ?_ | refine blk_alloc ?_ _)); refine blk_put (cs := #[.int .i64 t548, .int .i64 t549, .int .i64 0, .int .i64 0, .int .i64 0, .int .i64 0, .int .i64 0, .int .i64 0, .bool false, .string (⟨#[]⟩ : ByteArray), .slice none 0 0]) ?_ 2 _ rfl; (with_reducible repeat (first | refine blk_drewN ?_ _ | refine blk_drew ?_ | refine blk_alloc ?_ _)); refine blk_put (cs := #[.int .i64 t548, .int .i64 0, .int .i64 0, .int .i64 0, .int .i64 0, .int .i64 0, .int .i64 0, .int .i64 0, .bool false, .string (⟨#[]⟩ : ByteArray), .slice none 0 0]) ?_ 1 _ rfl; (with_reducible repeat (first | refine blk_drewN ?_ _ | refine blk_drew ?_ | refine blk_alloc ?_ _)); refine blk_put (cs := #[.int .i64 0, .int .i64 0, .int .i64 0, .int .i64 0, .int .i64 0, .int .i64 0, .int .i64 0, .int .i64 0, .bool false, .string (⟨#[]⟩ : ByteArray), .slice none 0 0]) ?_ 0 _ rfl; (with_reducible repeat (first | refine blk_drewN ?_ _ | refine blk_drew ?_ | refine blk_alloc ?_ _)); exact BK562.out) hb); have n2_ := bstep hb; clear HO560; clear BK562; clear HB; have HO560 := n0_; have BK562 := n1_; have HB := n2_; clear n0_ n1_ n2_; (try clear hb); (try clear hb2); (try clear hk); (try clear hi)))
      go_ret
      exact ⟨rf3, bel⟩
     ·
      rw [if_neg c24] at H
      exact absurd H (by simp)

/-- THE ONE PURE STATEMENT of shardloglaw19_MsgGets. -/
def shardloglaw19_MsgGets.Pure : Prop := ∀ (l0 : List Int), (l0.length ≤ maxLen ∧ l0.length * 1 ≤ 140737488351232 ∧ ∀ y0_ ∈ l0, (Lit.int .u8 y0_).wf = true) → ∃ k, shardloglaw19_MsgGets.f k l0 = some true
theorem shardloglaw19_MsgGets.walk (P : shardloglaw19_MsgGets.Pure) (A0 : Option Addr) (c0 : Nat) (l0 : List Int) (w : World) (wf0 : (l0.length ≤ maxLen ∧ l0.length * 1 ≤ 140737488351232 ∧ ∀ y0_ ∈ l0, (Lit.int .u8 y0_).wf = true)) (hr0 : Kd.C (Kd.int .u8) w A0 l0.length l0) (hc0 : l0.length ≤ c0) :
  Calls Try.prog 5 #[.slice A0 l0.length c0] w fun e w' => e = .returned (.bool true) ∧ Below w.heap.size w w' := by
 obtain ⟨k, h⟩ := P l0 wf0
 refine (shardloglaw19_MsgGets.calls k A0 c0 l0 true w hr0 hc0 h).mono ?_
 rintro e w' ⟨rfl, hd⟩
 exact ⟨rfl, hd⟩

end Go.Proofs.Yteoklmfkofgfmaa.X
