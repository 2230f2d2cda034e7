-- written by a program of this session's, over the kit's print
import Derived.Test.YtpneppnnhiijnaaXx0
import Derived.Test.YtpneppnnhiijnaaXx6
import Derived.Test.YtpneppnnhiijnaaXx7
import Derived.Test.YtpneppnnhiijnaaXx12
namespace Go.Proofs.Ytpneppnnhiijnaa.X
open Go.RowKit Go.Proofs.YtpneppnnhiijnaaW.PrintWords Go.Proofs.YtpneppnnhiijnaaW.PrintLast Go.Proofs.YtpneppnnhiijnaaW.PrintMore
attribute [local go_sem] max2_int min2_int max_two min_two max_three min_three max_four min_four gtr_str   -- for this text's walks alone
set_option linter.unusedVariables false
set_option linter.unusedSimpArgs false

/-! ### shardloglaw15_CmdLong: function 6 -/
mutual
def shardloglaw15_CmdLong.j0 : Nat → Bool → Int → Int → Int → ByteArray → ByteArray → ByteArray → Int → ByteArray → ByteArray → Bool → Option (Bool)
  | 0, _, _, _, _, _, _, _, _, _, _, _ => none
  | k + 1, x25, x300000, x300001, x300002, x300003, x300004, x300005, x300006, x300007, x300008, x300009 => if x25 = true then ((shardloglaw15_awake.f k).bind fun t302 => (some t302)) else ((cmd_Put.f k x300000 x300001 x300002 x300003 x300004 x300005 x300006 x300007 x300008 x300009).bind fun bt303 => (if x300007.size + 1 ≤ 9223372036854775807 then ((cmd_Put.f k x300000 x300001 x300002 x300003 x300004 x300005 x300006 (x300007 ++ (⟨#[120]⟩ : ByteArray)) x300008 x300009).bind fun bt306 => (if bt303.2 = 0 then (shardloglaw15_CmdLong.j1 k bt306.1 bt306.2 (wrap64 ((wrap64 ((wrap64 ((wrap64 (40 + (x300003.size : Int))) + (x300004.size : Int))) + (x300007.size : Int))) + (x300008.size : Int))) ((bt303.1.size : Int) != (wrap64 ((wrap64 ((wrap64 ((wrap64 (40 + (x300003.size : Int))) + (x300004.size : Int))) + (x300007.size : Int))) + (x300008.size : Int)))) x300000 x300001 x300002 x300003 x300004 x300005 x300006 (x300007 ++ (⟨#[120]⟩ : ByteArray)) x300008 x300009) else (shardloglaw15_CmdLong.j1 k bt306.1 bt306.2 (wrap64 ((wrap64 ((wrap64 ((wrap64 (40 + (x300003.size : Int))) + (x300004.size : Int))) + (x300007.size : Int))) + (x300008.size : Int))) true x300000 x300001 x300002 x300003 x300004 x300005 x300006 (x300007 ++ (⟨#[120]⟩ : ByteArray)) x300008 x300009))) else (none)))
def shardloglaw15_CmdLong.j1 : Nat → ByteArray → Int → Int → Bool → Int → Int → Int → ByteArray → ByteArray → ByteArray → Int → ByteArray → ByteArray → Bool → Option (Bool)
  | 0, _, _, _, _, _, _, _, _, _, _, _, _, _, _ => none
  | k + 1, x6, x7, x8, x65, x306000, x306001, x306002, x306003, x306004, x306005, x306006, x306007, x306008, x306009 => if x65 = true then (none) else (if (x306007.size : Int) > 256 then (some (x7 == 1)) else (if x8 < 512 then (if x7 = 0 then (if (x6.size : Int) = (wrap64 (x8 + 1)) then (some true) else (if x8 = 512 then (some (x7 == 7)) else (none))) else (if x8 = 512 then (some (x7 == 7)) else (none))) else (if x8 = 512 then (some (x7 == 7)) else (none))))
end
def shardloglaw15_CmdLong.f (k : Nat) (a0_0 : Int) (a0_1 : Int) (a0_2 : Int) (a0_3 : ByteArray) (a0_4 : ByteArray) (a0_5 : ByteArray) (a0_6 : Int) (a0_7 : ByteArray) (a0_8 : ByteArray) (a0_9 : Bool) : Option (Bool) := (shardloglaw15_awake.f k).bind fun t300 => (if t300 = true then ((shardlogref15_Right.f k a0_0 a0_1 a0_2 a0_3 a0_4 a0_5 a0_6 a0_7 a0_8 a0_9).bind fun t301 => (if t301 = true then (if a0_2 = 1 then (shardloglaw15_CmdLong.j0 k false a0_0 a0_1 a0_2 a0_3 a0_4 a0_5 a0_6 a0_7 a0_8 a0_9) else (shardloglaw15_CmdLong.j0 k (a0_2 != 3) a0_0 a0_1 a0_2 a0_3 a0_4 a0_5 a0_6 a0_7 a0_8 a0_9)) else (shardloglaw15_CmdLong.j0 k true a0_0 a0_1 a0_2 a0_3 a0_4 a0_5 a0_6 a0_7 a0_8 a0_9))) else (shardloglaw15_CmdLong.j0 k true a0_0 a0_1 a0_2 a0_3 a0_4 a0_5 a0_6 a0_7 a0_8 a0_9))
theorem shardloglaw15_CmdLong.mono_l : ∀ k, (∀ y0 y1 y2 y3 y4 y5 y6 y7 y8 y9 y10, LeO (shardloglaw15_CmdLong.j0 k y0 y1 y2 y3 y4 y5 y6 y7 y8 y9 y10) (shardloglaw15_CmdLong.j0 (k + 1) y0 y1 y2 y3 y4 y5 y6 y7 y8 y9 y10)) ∧ (∀ y0 y1 y2 y3 y4 y5 y6 y7 y8 y9 y10 y11 y12 y13, LeO (shardloglaw15_CmdLong.j1 k y0 y1 y2 y3 y4 y5 y6 y7 y8 y9 y10 y11 y12 y13) (shardloglaw15_CmdLong.j1 (k + 1) y0 y1 y2 y3 y4 y5 y6 y7 y8 y9 y10 y11 y12 y13))
  | 0 => ⟨fun _ _ _ _ _ _ _ _ _ _ _ r h => by simp [shardloglaw15_CmdLong.j0] at h, fun _ _ _ _ _ _ _ _ _ _ _ _ _ _ r h => by simp [shardloglaw15_CmdLong.j1] at h⟩
  | k + 1 => by
    obtain ⟨ih0, ih1⟩ := shardloglaw15_CmdLong.mono_l k
    refine ⟨?_, ?_⟩
    · intro y0 y1 y2 y3 y4 y5 y6 y7 y8 y9 y10
      unfold shardloglaw15_CmdLong.j0
      repeat' first
      | (with_reducible exact ih0 _ _ _ _ _ _ _ _ _ _ _)
      | (with_reducible exact ih1 _ _ _ _ _ _ _ _ _ _ _ _ _ _)
      | (with_reducible exact cmd_Put.mono _ _ _ _ _ _ _ _ _ _ _)
      | (with_reducible exact shardloglaw15_awake.mono _)
      | (with_reducible exact shardlogref15_Right.mono _ _ _ _ _ _ _ _ _ _ _)
      | (with_reducible exact LeO.refl _)
      | (with_reducible exact LeO.none _)
      | (with_reducible refine LeO.ite ?_ ?_)
      | (with_reducible refine LeO.bind ?_ (fun _ => ?_))
      | exact ih0 _ _ _ _ _ _ _ _ _ _ _
      | exact ih1 _ _ _ _ _ _ _ _ _ _ _ _ _ _
      | exact cmd_Put.mono _ _ _ _ _ _ _ _ _ _ _
      | exact shardloglaw15_awake.mono _
      | exact shardlogref15_Right.mono _ _ _ _ _ _ _ _ _ _ _
      | exact LeO.none _
      | refine LeO.ite ?_ ?_
      | refine LeO.bind ?_ (fun _ => ?_)
    · intro y0 y1 y2 y3 y4 y5 y6 y7 y8 y9 y10 y11 y12 y13
      unfold shardloglaw15_CmdLong.j1
      repeat' first
      | (with_reducible exact ih0 _ _ _ _ _ _ _ _ _ _ _)
      | (with_reducible exact ih1 _ _ _ _ _ _ _ _ _ _ _ _ _ _)
      | (with_reducible exact cmd_Put.mono _ _ _ _ _ _ _ _ _ _ _)
      | (with_reducible exact shardloglaw15_awake.mono _)
      | (with_reducible exact shardlogref15_Right.mono _ _ _ _ _ _ _ _ _ _ _)
      | (with_reducible exact LeO.refl _)
      | (with_reducible exact LeO.none _)
      | (with_reducible refine LeO.ite ?_ ?_)
      | (with_reducible refine LeO.bind ?_ (fun _ => ?_))
      | exact ih0 _ _ _ _ _ _ _ _ _ _ _
      | exact ih1 _ _ _ _ _ _ _ _ _ _ _ _ _ _
      | exact cmd_Put.mono _ _ _ _ _ _ _ _ _ _ _
      | exact shardloglaw15_awake.mono _
      | exact shardlogref15_Right.mono _ _ _ _ _ _ _ _ _ _ _
      | exact LeO.none _
      | refine LeO.ite ?_ ?_
      | refine LeO.bind ?_ (fun _ => ?_)
theorem shardloglaw15_CmdLong.mono : ∀ a0 a1 a2 a3 a4 a5 a6 a7 a8 a9 k, LeO (shardloglaw15_CmdLong.f k a0 a1 a2 a3 a4 a5 a6 a7 a8 a9) (shardloglaw15_CmdLong.f (k + 1) a0 a1 a2 a3 a4 a5 a6 a7 a8 a9) := by
  intro a0 a1 a2 a3 a4 a5 a6 a7 a8 a9 k
  obtain ⟨ih0, ih1⟩ := shardloglaw15_CmdLong.mono_l k
  unfold shardloglaw15_CmdLong.f
  repeat' first
      | (with_reducible exact ih0 _ _ _ _ _ _ _ _ _ _ _)
      | (with_reducible exact ih1 _ _ _ _ _ _ _ _ _ _ _ _ _ _)
      | (with_reducible exact cmd_Put.mono _ _ _ _ _ _ _ _ _ _ _)
      | (with_reducible exact shardloglaw15_awake.mono _)
      | (with_reducible exact shardlogref15_Right.mono _ _ _ _ _ _ _ _ _ _ _)
      | (with_reducible exact LeO.refl _)
      | (with_reducible exact LeO.none _)
      | (with_reducible refine LeO.ite ?_ ?_)
      | (with_reducible refine LeO.bind ?_ (fun _ => ?_))
      | exact ih0 _ _ _ _ _ _ _ _ _ _ _
      | exact ih1 _ _ _ _ _ _ _ _ _ _ _ _ _ _
      | exact cmd_Put.mono _ _ _ _ _ _ _ _ _ _ _
      | exact shardloglaw15_awake.mono _
      | exact shardlogref15_Right.mono _ _ _ _ _ _ _ _ _ _ _
      | exact LeO.none _
      | refine LeO.ite ?_ ?_
      | refine LeO.bind ?_ (fun _ => ?_)
set_option maxHeartbeats 8000000 in
set_option maxRecDepth 100000 in
theorem shardloglaw15_CmdLong.calls (k : Nat) (a0_0 : Int) (a0_1 : Int) (a0_2 : Int) (a0_3 : ByteArray) (a0_4 : ByteArray) (a0_5 : ByteArray) (a0_6 : Int) (a0_7 : ByteArray) (a0_8 : ByteArray) (a0_9 : Bool) (r : Bool) (w : World) (h : shardloglaw15_CmdLong.f k a0_0 a0_1 a0_2 a0_3 a0_4 a0_5 a0_6 a0_7 a0_8 a0_9 = some r) :
    Calls Try.prog 6 #[.agg #[.int .i64 a0_0, .int .i64 a0_1, .int .i64 a0_2, .string a0_3, .string a0_4, .string a0_5, .int .i64 a0_6, .string a0_7, .string a0_8, .bool a0_9]] w fun e w' => e = .returned (.bool r) ∧ Below w.heap.size w w' := by
  have hu23 := Try.underlying23
  have HB := Aside0.mk (Below.refl w.heap.size w)
  have H : ((shardloglaw15_awake.f k).bind fun t300 => (if t300 = true then ((shardlogref15_Right.f k a0_0 a0_1 a0_2 a0_3 a0_4 a0_5 a0_6 a0_7 a0_8 a0_9).bind fun t301 => (if t301 = true then (if a0_2 = 1 then (shardloglaw15_CmdLong.j0 k false a0_0 a0_1 a0_2 a0_3 a0_4 a0_5 a0_6 a0_7 a0_8 a0_9) else (shardloglaw15_CmdLong.j0 k (a0_2 != 3) a0_0 a0_1 a0_2 a0_3 a0_4 a0_5 a0_6 a0_7 a0_8 a0_9)) else (shardloglaw15_CmdLong.j0 k true a0_0 a0_1 a0_2 a0_3 a0_4 a0_5 a0_6 a0_7 a0_8 a0_9))) else (shardloglaw15_CmdLong.j0 k true a0_0 a0_1 a0_2 a0_3 a0_4 a0_5 a0_6 a0_7 a0_8 a0_9))) = some r := h
  clear h
  have HC2 := Aside0.mk H
  clear H
  go_enter Try.func6, Try.ntmps6
  go_upto_region 1 with (first | ((with_reducible refine gate_dst (N := 1) rfl ?_); (try (refine gate_guard (by rfl) ?_; dsimp only)); refine box_event ?hg (N := 1) ?hd (cs := #[.int .i64 a0_0, .int .i64 a0_1, .int .i64 a0_2, .string a0_3, .string a0_4, .string a0_5, .int .i64 a0_6, .string a0_7, .string a0_8, .bool a0_9]) (t := 23) ?hr ?_; (case hd => rfl); (case hg => rfl); (case hr => first | (go_simp; done) | (go_simp; rfl)); intro gb299 hg w3 hbox hb; have n0_ := Aside0.mk (below_step (by repeat (first | (with_reducible first | exact HB.out | apply below_alloc | apply pw_below_drewN | apply below_drew1) | exact HB.out)) hb); have n1_ := Aside0.mk (hbox); have n2_ := Aside0.mk ((by rw [hg]; exact (below_size (by repeat (first | (with_reducible first | exact HB.out | apply below_alloc | apply pw_below_drewN | apply below_drew1) | exact HB.out))) : w.heap.size ≤ gb299)); have n3_ := Aside0.mk ((by rw [hg]; exact (below_size (by repeat (first | (with_reducible first | exact HB.out | apply below_alloc | apply pw_below_drewN | apply below_drew1) | exact HB.out))) : w.heap.size ≤ gb299)); clear HB; have HB := n0_; have BK299 := n1_; have GW299 := n2_; have GE299 := n3_; clear n0_ n1_ n2_ n3_; clear hb hbox hg))
  (try simp only [Act.put, List.setIfInBounds_toArray, List.set_cons_zero, List.set_cons_succ])
  go_cut [25] (fun v25 wc => ∃ (kq : Nat) (x25_1 : Bool), v25 = .bool x25_1 ∧ Aside0 (shardloglaw15_CmdLong.j0 kq x25_1 a0_0 a0_1 a0_2 a0_3 a0_4 a0_5 a0_6 a0_7 a0_8 a0_9 = some r) ∧ Aside0 (kq ≤ k) ∧ Aside0 (wc.heap[gb299]? = some (.cells #[.int .i64 a0_0, .int .i64 a0_1, .int .i64 a0_2, .string a0_3, .string a0_4, .string a0_5, .int .i64 a0_6, .string a0_7, .string a0_8, .bool a0_9] 23 (0, 0))) ∧ Aside0 (Below w.heap.size w wc))
  case first =>
    have H := HC2.out
    clear HC2
    replace H := Option.bind_eq_some_iff.mp H
    obtain ⟨t300, A40, H⟩ := H
    replace H : (if t300 = true then ((shardlogref15_Right.f k a0_0 a0_1 a0_2 a0_3 a0_4 a0_5 a0_6 a0_7 a0_8 a0_9).bind fun t301 => (if t301 = true then (if a0_2 = 1 then (shardloglaw15_CmdLong.j0 k false a0_0 a0_1 a0_2 a0_3 a0_4 a0_5 a0_6 a0_7 a0_8 a0_9) else (shardloglaw15_CmdLong.j0 k (a0_2 != 3) a0_0 a0_1 a0_2 a0_3 a0_4 a0_5 a0_6 a0_7 a0_8 a0_9)) else (shardloglaw15_CmdLong.j0 k true a0_0 a0_1 a0_2 a0_3 a0_4 a0_5 a0_6 a0_7 a0_8 a0_9))) else (shardloglaw15_CmdLong.j0 k true a0_0 a0_1 a0_2 a0_3 a0_4 a0_5 a0_6 a0_7 a0_8 a0_9)) = some r := H
    have A4 := Aside0.mk A40
    clear A40
    by_cases c5 : t300 = true
    · subst c5
      have H1 : ((shardlogref15_Right.f k a0_0 a0_1 a0_2 a0_3 a0_4 a0_5 a0_6 a0_7 a0_8 a0_9).bind fun t301 => (if t301 = true then (if a0_2 = 1 then (shardloglaw15_CmdLong.j0 k false a0_0 a0_1 a0_2 a0_3 a0_4 a0_5 a0_6 a0_7 a0_8 a0_9) else (shardloglaw15_CmdLong.j0 k (a0_2 != 3) a0_0 a0_1 a0_2 a0_3 a0_4 a0_5 a0_6 a0_7 a0_8 a0_9)) else (shardloglaw15_CmdLong.j0 k true a0_0 a0_1 a0_2 a0_3 a0_4 a0_5 a0_6 a0_7 a0_8 a0_9))) = some r := by rw [if_pos rfl] at H; exact H
      clear H
      have H := H1
      clear H1
      replace H := Option.bind_eq_some_iff.mp H
      obtain ⟨t301, A60, H⟩ := H
      replace H : (if t301 = true then (if a0_2 = 1 then (shardloglaw15_CmdLong.j0 k false a0_0 a0_1 a0_2 a0_3 a0_4 a0_5 a0_6 a0_7 a0_8 a0_9) else (shardloglaw15_CmdLong.j0 k (a0_2 != 3) a0_0 a0_1 a0_2 a0_3 a0_4 a0_5 a0_6 a0_7 a0_8 a0_9)) else (shardloglaw15_CmdLong.j0 k true a0_0 a0_1 a0_2 a0_3 a0_4 a0_5 a0_6 a0_7 a0_8 a0_9)) = some r := H
      have A6 := Aside0.mk A60
      clear A60
      by_cases c7 : t301 = true
      · subst c7
        have H1 : (if a0_2 = 1 then (shardloglaw15_CmdLong.j0 k false a0_0 a0_1 a0_2 a0_3 a0_4 a0_5 a0_6 a0_7 a0_8 a0_9) else (shardloglaw15_CmdLong.j0 k (a0_2 != 3) a0_0 a0_1 a0_2 a0_3 a0_4 a0_5 a0_6 a0_7 a0_8 a0_9)) = some r := by rw [if_pos rfl] at H; exact H
        clear H
        have H := H1
        clear H1
        by_cases c8 : a0_2 = 1
        · rw [if_pos c8] at H
          have c8b0 : (a0_2 == 1) = true := beq_iff_eq.mpr c8
          have c8b1 : (a0_2 != 1) = false := bne_eq_false_iff_eq.mpr c8
          clear c8
          (first | rw [c8b0] | (simp only [i64_w, i32_w]; rw [c8b0]) | skip)
          have H' := Aside0.mk H
          clear H
          go_wp2_with (first | ((with_reducible refine gate_callee (f := 7) rfl ?_); refine goesL_ (some 9) rfl rfl Try.func7 (by kernel_rfl) rfl #[] rfl (by (try simp only [List.map_toArray, List.map_cons, List.map_nil]); first | done | rfl | (simp only [List.length_drop, List.length_take]; rfl)) ?_; (with_reducible refine (shardloglaw15_awake.calls k  true _ A4.out).mono ?_); rintro e w9 ⟨rfl, hb⟩; refine ⟨_, rfl, ?_⟩; have n0_ := Aside0.mk (blk_below (g := gb299) (o := .cells #[.int .i64 a0_0, .int .i64 a0_1, .int .i64 a0_2, .string a0_3, .string a0_4, .string a0_5, .int .i64 a0_6, .string a0_7, .string a0_8, .bool a0_9] 23 (0, 0)) (by (with_reducible repeat (first | refine blk_drewN ?_ _ | refine blk_drew ?_ | refine blk_alloc ?_ _)); exact BK299.out) hb); have n1_ := Aside0.mk (below_step (by repeat (first | (with_reducible first | exact HB.out | apply below_alloc | apply pw_below_drewN | apply below_drew1 | refine below_set ?_ GE299.out) | exact HB.out)) hb); clear BK299; clear HB; have BK299 := n0_; have HB := n1_; clear n0_ n1_; (try clear hb); (try clear hb2); (try clear hk); (try clear hi); have hcz10_0 : w9.cell? ⟨gb299, 0, none⟩ = some (.int .i64 a0_0) := (blk_cell BK299.out 0).trans rfl; have hcz10_1 : w9.cell? ⟨gb299, 1, none⟩ = some (.int .i64 a0_1) := (blk_cell BK299.out 1).trans rfl; have hcz10_2 : w9.cell? ⟨gb299, 2, none⟩ = some (.int .i64 a0_2) := (blk_cell BK299.out 2).trans rfl; have hcz10_3 : w9.cell? ⟨gb299, 3, none⟩ = some (.string a0_3) := (blk_cell BK299.out 3).trans rfl; have hcz10_4 : w9.cell? ⟨gb299, 4, none⟩ = some (.string a0_4) := (blk_cell BK299.out 4).trans rfl; have hcz10_5 : w9.cell? ⟨gb299, 5, none⟩ = some (.string a0_5) := (blk_cell BK299.out 5).trans rfl; have hcz10_6 : w9.cell? ⟨gb299, 6, none⟩ = some (.int .i64 a0_6) := (blk_cell BK299.out 6).trans rfl; have hcz10_7 : w9.cell? ⟨gb299, 7, none⟩ = some (.string a0_7) := (blk_cell BK299.out 7).trans rfl; have hcz10_8 : w9.cell? ⟨gb299, 8, none⟩ = some (.string a0_8) := (blk_cell BK299.out 8).trans rfl; have hcz10_9 : w9.cell? ⟨gb299, 9, none⟩ = some (.bool a0_9) := (blk_cell BK299.out 9).trans rfl; have hfz10_0 := blk_frozen BK299.out 0; have hfz10_1 := blk_frozen BK299.out 1; have hfz10_2 := blk_frozen BK299.out 2; have hfz10_3 := blk_frozen BK299.out 3; have hfz10_4 := blk_frozen BK299.out 4; have hfz10_5 := blk_frozen BK299.out 5; have hfz10_6 := blk_frozen BK299.out 6; have hfz10_7 := blk_frozen BK299.out 7; have hfz10_8 := blk_frozen BK299.out 8; have hfz10_9 := blk_frozen BK299.out 9) | (go_at_call 11; (with_reducible refine (shardlogref15_Right.calls k a0_0 a0_1 a0_2 a0_3 a0_4 a0_5 a0_6 a0_7 a0_8 a0_9 true _ A6.out).mono ?_); rintro e w11 ⟨rfl, hb⟩; have n0_ := Aside0.mk (blk_below (g := gb299) (o := .cells #[.int .i64 a0_0, .int .i64 a0_1, .int .i64 a0_2, .string a0_3, .string a0_4, .string a0_5, .int .i64 a0_6, .string a0_7, .string a0_8, .bool a0_9] 23 (0, 0)) (by (with_reducible repeat (first | refine blk_drewN ?_ _ | refine blk_drew ?_ | refine blk_alloc ?_ _)); exact BK299.out) hb); have n1_ := Aside0.mk (below_step (by repeat (first | (with_reducible first | exact HB.out | apply below_alloc | apply pw_below_drewN | apply below_drew1 | refine below_set ?_ GE299.out) | exact HB.out)) hb); clear BK299; clear HB; have BK299 := n0_; have HB := n1_; clear n0_ n1_; (try clear hb); (try clear hb2); (try clear hk); (try clear hi); have hcz12_0 : w11.cell? ⟨gb299, 0, none⟩ = some (.int .i64 a0_0) := (blk_cell BK299.out 0).trans rfl; have hcz12_1 : w11.cell? ⟨gb299, 1, none⟩ = some (.int .i64 a0_1) := (blk_cell BK299.out 1).trans rfl; have hcz12_2 : w11.cell? ⟨gb299, 2, none⟩ = some (.int .i64 a0_2) := (blk_cell BK299.out 2).trans rfl; have hcz12_3 : w11.cell? ⟨gb299, 3, none⟩ = some (.string a0_3) := (blk_cell BK299.out 3).trans rfl; have hcz12_4 : w11.cell? ⟨gb299, 4, none⟩ = some (.string a0_4) := (blk_cell BK299.out 4).trans rfl; have hcz12_5 : w11.cell? ⟨gb299, 5, none⟩ = some (.string a0_5) := (blk_cell BK299.out 5).trans rfl; have hcz12_6 : w11.cell? ⟨gb299, 6, none⟩ = some (.int .i64 a0_6) := (blk_cell BK299.out 6).trans rfl; have hcz12_7 : w11.cell? ⟨gb299, 7, none⟩ = some (.string a0_7) := (blk_cell BK299.out 7).trans rfl; have hcz12_8 : w11.cell? ⟨gb299, 8, none⟩ = some (.string a0_8) := (blk_cell BK299.out 8).trans rfl; have hcz12_9 : w11.cell? ⟨gb299, 9, none⟩ = some (.bool a0_9) := (blk_cell BK299.out 9).trans rfl; have hfz12_0 := blk_frozen BK299.out 0; have hfz12_1 := blk_frozen BK299.out 1; have hfz12_2 := blk_frozen BK299.out 2; have hfz12_3 := blk_frozen BK299.out 3; have hfz12_4 := blk_frozen BK299.out 4; have hfz12_5 := blk_frozen BK299.out 5; have hfz12_6 := blk_frozen BK299.out 6; have hfz12_7 := blk_frozen BK299.out 7; have hfz12_8 := blk_frozen BK299.out 8; have hfz12_9 := blk_frozen BK299.out 9))
          go_meet
          case rel => exact ⟨_, (false), (by first | rfl | (simp; done) | (simp [*]; done) | (simp; exact (by decide : ∀ a_ b_ : Bool, (a_ == b_) = (!a_ != b_)) _ _)), H', ⟨by first | omega | exact Nat.le_refl _⟩, ⟨by (with_reducible repeat (first | refine blk_drewN ?_ _ | refine blk_drew ?_ | refine blk_alloc ?_ _)); exact BK299.out⟩, ⟨by repeat (first | (with_reducible first | exact HB.out | apply below_alloc | apply pw_below_drewN | apply below_drew1 | refine below_set ?_ GE299.out) | exact HB.out)⟩⟩
        · rw [if_neg c8] at H
          have c8b0 : (a0_2 == 1) = false := beq_eq_false_iff_ne.mpr c8
          have c8b1 : (a0_2 != 1) = true := bne_iff_ne.mpr c8
          (first | rw [c8b0] | (simp only [i64_w, i32_w]; rw [c8b0]) | skip)
          have H' := Aside0.mk H
          clear H
          go_wp2_with (first | ((with_reducible refine gate_callee (f := 7) rfl ?_); refine goesL_ (some 9) rfl rfl Try.func7 (by kernel_rfl) rfl #[] rfl (by (try simp only [List.map_toArray, List.map_cons, List.map_nil]); first | done | rfl | (simp only [List.length_drop, List.length_take]; rfl)) ?_; (with_reducible refine (shardloglaw15_awake.calls k  true _ A4.out).mono ?_); rintro e w13 ⟨rfl, hb⟩; refine ⟨_, rfl, ?_⟩; have n0_ := Aside0.mk (blk_below (g := gb299) (o := .cells #[.int .i64 a0_0, .int .i64 a0_1, .int .i64 a0_2, .string a0_3, .string a0_4, .string a0_5, .int .i64 a0_6, .string a0_7, .string a0_8, .bool a0_9] 23 (0, 0)) (by (with_reducible repeat (first | refine blk_drewN ?_ _ | refine blk_drew ?_ | refine blk_alloc ?_ _)); exact BK299.out) hb); have n1_ := Aside0.mk (below_step (by repeat (first | (with_reducible first | exact HB.out | apply below_alloc | apply pw_below_drewN | apply below_drew1 | refine below_set ?_ GE299.out) | exact HB.out)) hb); clear BK299; clear HB; have BK299 := n0_; have HB := n1_; clear n0_ n1_; (try clear hb); (try clear hb2); (try clear hk); (try clear hi); have hcz14_0 : w13.cell? ⟨gb299, 0, none⟩ = some (.int .i64 a0_0) := (blk_cell BK299.out 0).trans rfl; have hcz14_1 : w13.cell? ⟨gb299, 1, none⟩ = some (.int .i64 a0_1) := (blk_cell BK299.out 1).trans rfl; have hcz14_2 : w13.cell? ⟨gb299, 2, none⟩ = some (.int .i64 a0_2) := (blk_cell BK299.out 2).trans rfl; have hcz14_3 : w13.cell? ⟨gb299, 3, none⟩ = some (.string a0_3) := (blk_cell BK299.out 3).trans rfl; have hcz14_4 : w13.cell? ⟨gb299, 4, none⟩ = some (.string a0_4) := (blk_cell BK299.out 4).trans rfl; have hcz14_5 : w13.cell? ⟨gb299, 5, none⟩ = some (.string a0_5) := (blk_cell BK299.out 5).trans rfl; have hcz14_6 : w13.cell? ⟨gb299, 6, none⟩ = some (.int .i64 a0_6) := (blk_cell BK299.out 6).trans rfl; have hcz14_7 : w13.cell? ⟨gb299, 7, none⟩ = some (.string a0_7) := (blk_cell BK299.out 7).trans rfl; have hcz14_8 : w13.cell? ⟨gb299, 8, none⟩ = some (.string a0_8) := (blk_cell BK299.out 8).trans rfl; have hcz14_9 : w13.cell? ⟨gb299, 9, none⟩ = some (.bool a0_9) := (blk_cell BK299.out 9).trans rfl; have hfz14_0 := blk_frozen BK299.out 0; have hfz14_1 := blk_frozen BK299.out 1; have hfz14_2 := blk_frozen BK299.out 2; have hfz14_3 := blk_frozen BK299.out 3; have hfz14_4 := blk_frozen BK299.out 4; have hfz14_5 := blk_frozen BK299.out 5; have hfz14_6 := blk_frozen BK299.out 6; have hfz14_7 := blk_frozen BK299.out 7; have hfz14_8 := blk_frozen BK299.out 8; have hfz14_9 := blk_frozen BK299.out 9) | (go_at_call 11; (with_reducible refine (shardlogref15_Right.calls k a0_0 a0_1 a0_2 a0_3 a0_4 a0_5 a0_6 a0_7 a0_8 a0_9 true _ A6.out).mono ?_); rintro e w15 ⟨rfl, hb⟩; have n0_ := Aside0.mk (blk_below (g := gb299) (o := .cells #[.int .i64 a0_0, .int .i64 a0_1, .int .i64 a0_2, .string a0_3, .string a0_4, .string a0_5, .int .i64 a0_6, .string a0_7, .string a0_8, .bool a0_9] 23 (0, 0)) (by (with_reducible repeat (first | refine blk_drewN ?_ _ | refine blk_drew ?_ | refine blk_alloc ?_ _)); exact BK299.out) hb); have n1_ := Aside0.mk (below_step (by repeat (first | (with_reducible first | exact HB.out | apply below_alloc | apply pw_below_drewN | apply below_drew1 | refine below_set ?_ GE299.out) | exact HB.out)) hb); clear BK299; clear HB; have BK299 := n0_; have HB := n1_; clear n0_ n1_; (try clear hb); (try clear hb2); (try clear hk); (try clear hi); have hcz16_0 : w15.cell? ⟨gb299, 0, none⟩ = some (.int .i64 a0_0) := (blk_cell BK299.out 0).trans rfl; have hcz16_1 : w15.cell? ⟨gb299, 1, none⟩ = some (.int .i64 a0_1) := (blk_cell BK299.out 1).trans rfl; have hcz16_2 : w15.cell? ⟨gb299, 2, none⟩ = some (.int .i64 a0_2) := (blk_cell BK299.out 2).trans rfl; have hcz16_3 : w15.cell? ⟨gb299, 3, none⟩ = some (.string a0_3) := (blk_cell BK299.out 3).trans rfl; have hcz16_4 : w15.cell? ⟨gb299, 4, none⟩ = some (.string a0_4) := (blk_cell BK299.out 4).trans rfl; have hcz16_5 : w15.cell? ⟨gb299, 5, none⟩ = some (.string a0_5) := (blk_cell BK299.out 5).trans rfl; have hcz16_6 : w15.cell? ⟨gb299, 6, none⟩ = some (.int .i64 a0_6) := (blk_cell BK299.out 6).trans rfl; have hcz16_7 : w15.cell? ⟨gb299, 7, none⟩ = some (.string a0_7) := (blk_cell BK299.out 7).trans rfl; have hcz16_8 : w15.cell? ⟨gb299, 8, none⟩ = some (.string a0_8) := (blk_cell BK299.out 8).trans rfl; have hcz16_9 : w15.cell? ⟨gb299, 9, none⟩ = some (.bool a0_9) := (blk_cell BK299.out 9).trans rfl; have hfz16_0 := blk_frozen BK299.out 0; have hfz16_1 := blk_frozen BK299.out 1; have hfz16_2 := blk_frozen BK299.out 2; have hfz16_3 := blk_frozen BK299.out 3; have hfz16_4 := blk_frozen BK299.out 4; have hfz16_5 := blk_frozen BK299.out 5; have hfz16_6 := blk_frozen BK299.out 6; have hfz16_7 := blk_frozen BK299.out 7; have hfz16_8 := blk_frozen BK299.out 8; have hfz16_9 := blk_frozen BK299.out 9))
          go_meet
          case rel => exact ⟨_, ((a0_2 != 3)), (by first | rfl | (simp; done) | (simp [*]; done) | (simp; exact (by decide : ∀ a_ b_ : Bool, (a_ == b_) = (!a_ != b_)) _ _)), H', ⟨by first | omega | exact Nat.le_refl _⟩, ⟨by (with_reducible repeat (first | refine blk_drewN ?_ _ | refine blk_drew ?_ | refine blk_alloc ?_ _)); exact BK299.out⟩, ⟨by repeat (first | (with_reducible first | exact HB.out | apply below_alloc | apply pw_below_drewN | apply below_drew1 | refine below_set ?_ GE299.out) | exact HB.out)⟩⟩
      · replace c7 := Bool.eq_false_iff.mpr c7
        subst c7
        have H1 : (shardloglaw15_CmdLong.j0 k true a0_0 a0_1 a0_2 a0_3 a0_4 a0_5 a0_6 a0_7 a0_8 a0_9) = some r := by rw [if_neg (show ¬ (false = true) by decide)] at H; exact H
        clear H
        have H := H1
        clear H1
        have H' := Aside0.mk H
        clear H
        go_wp2_with (first | ((with_reducible refine gate_callee (f := 7) rfl ?_); refine goesL_ (some 9) rfl rfl Try.func7 (by kernel_rfl) rfl #[] rfl (by (try simp only [List.map_toArray, List.map_cons, List.map_nil]); first | done | rfl | (simp only [List.length_drop, List.length_take]; rfl)) ?_; (with_reducible refine (shardloglaw15_awake.calls k  true _ A4.out).mono ?_); rintro e w17 ⟨rfl, hb⟩; refine ⟨_, rfl, ?_⟩; have n0_ := Aside0.mk (blk_below (g := gb299) (o := .cells #[.int .i64 a0_0, .int .i64 a0_1, .int .i64 a0_2, .string a0_3, .string a0_4, .string a0_5, .int .i64 a0_6, .string a0_7, .string a0_8, .bool a0_9] 23 (0, 0)) (by (with_reducible repeat (first | refine blk_drewN ?_ _ | refine blk_drew ?_ | refine blk_alloc ?_ _)); exact BK299.out) hb); have n1_ := Aside0.mk (below_step (by repeat (first | (with_reducible first | exact HB.out | apply below_alloc | apply pw_below_drewN | apply below_drew1 | refine below_set ?_ GE299.out) | exact HB.out)) hb); clear BK299; clear HB; have BK299 := n0_; have HB := n1_; clear n0_ n1_; (try clear hb); (try clear hb2); (try clear hk); (try clear hi); have hcz18_0 : w17.cell? ⟨gb299, 0, none⟩ = some (.int .i64 a0_0) := (blk_cell BK299.out 0).trans rfl; have hcz18_1 : w17.cell? ⟨gb299, 1, none⟩ = some (.int .i64 a0_1) := (blk_cell BK299.out 1).trans rfl; have hcz18_2 : w17.cell? ⟨gb299, 2, none⟩ = some (.int .i64 a0_2) := (blk_cell BK299.out 2).trans rfl; have hcz18_3 : w17.cell? ⟨gb299, 3, none⟩ = some (.string a0_3) := (blk_cell BK299.out 3).trans rfl; have hcz18_4 : w17.cell? ⟨gb299, 4, none⟩ = some (.string a0_4) := (blk_cell BK299.out 4).trans rfl; have hcz18_5 : w17.cell? ⟨gb299, 5, none⟩ = some (.string a0_5) := (blk_cell BK299.out 5).trans rfl; have hcz18_6 : w17.cell? ⟨gb299, 6, none⟩ = some (.int .i64 a0_6) := (blk_cell BK299.out 6).trans rfl; have hcz18_7 : w17.cell? ⟨gb299, 7, none⟩ = some (.string a0_7) := (blk_cell BK299.out 7).trans rfl; have hcz18_8 : w17.cell? ⟨gb299, 8, none⟩ = some (.string a0_8) := (blk_cell BK299.out 8).trans rfl; have hcz18_9 : w17.cell? ⟨gb299, 9, none⟩ = some (.bool a0_9) := (blk_cell BK299.out 9).trans rfl; have hfz18_0 := blk_frozen BK299.out 0; have hfz18_1 := blk_frozen BK299.out 1; have hfz18_2 := blk_frozen BK299.out 2; have hfz18_3 := blk_frozen BK299.out 3; have hfz18_4 := blk_frozen BK299.out 4; have hfz18_5 := blk_frozen BK299.out 5; have hfz18_6 := blk_frozen BK299.out 6; have hfz18_7 := blk_frozen BK299.out 7; have hfz18_8 := blk_frozen BK299.out 8; have hfz18_9 := blk_frozen BK299.out 9) | (go_at_call 11; (with_reducible refine (shardlogref15_Right.calls k a0_0 a0_1 a0_2 a0_3 a0_4 a0_5 a0_6 a0_7 a0_8 a0_9 false _ A6.out).mono ?_); rintro e w19 ⟨rfl, hb⟩; have n0_ := Aside0.mk (blk_below (g := gb299) (o := .cells #[.int .i64 a0_0, .int .i64 a0_1, .int .i64 a0_2, .string a0_3, .string a0_4, .string a0_5, .int .i64 a0_6, .string a0_7, .string a0_8, .bool a0_9] 23 (0, 0)) (by (with_reducible repeat (first | refine blk_drewN ?_ _ | refine blk_drew ?_ | refine blk_alloc ?_ _)); exact BK299.out) hb); have n1_ := Aside0.mk (below_step (by repeat (first | (with_reducible first | exact HB.out | apply below_alloc | apply pw_below_drewN | apply below_drew1 | refine below_set ?_ GE299.out) | exact HB.out)) hb); clear BK299; clear HB; have BK299 := n0_; have HB := n1_; clear n0_ n1_; (try clear hb); (try clear hb2); (try clear hk); (try clear hi)))
        go_meet
        case rel => exact ⟨_, (true), (by first | rfl | (simp; done) | (simp [*]; done) | (simp; exact (by decide : ∀ a_ b_ : Bool, (a_ == b_) = (!a_ != b_)) _ _)), H', ⟨by first | omega | exact Nat.le_refl _⟩, ⟨by (with_reducible repeat (first | refine blk_drewN ?_ _ | refine blk_drew ?_ | refine blk_alloc ?_ _)); exact BK299.out⟩, ⟨by repeat (first | (with_reducible first | exact HB.out | apply below_alloc | apply pw_below_drewN | apply below_drew1 | refine below_set ?_ GE299.out) | exact HB.out)⟩⟩
    · replace c5 := Bool.eq_false_iff.mpr c5
      subst c5
      have H1 : (shardloglaw15_CmdLong.j0 k true a0_0 a0_1 a0_2 a0_3 a0_4 a0_5 a0_6 a0_7 a0_8 a0_9) = some r := by rw [if_neg (show ¬ (false = true) by decide)] at H; exact H
      clear H
      have H := H1
      clear H1
      have H' := Aside0.mk H
      clear H
      go_wp2_with (first | ((with_reducible refine gate_callee (f := 7) rfl ?_); refine goesL_ (some 9) rfl rfl Try.func7 (by kernel_rfl) rfl #[] rfl (by (try simp only [List.map_toArray, List.map_cons, List.map_nil]); first | done | rfl | (simp only [List.length_drop, List.length_take]; rfl)) ?_; (with_reducible refine (shardloglaw15_awake.calls k  false _ A4.out).mono ?_); rintro e w20 ⟨rfl, hb⟩; refine ⟨_, rfl, ?_⟩; have n0_ := Aside0.mk (blk_below (g := gb299) (o := .cells #[.int .i64 a0_0, .int .i64 a0_1, .int .i64 a0_2, .string a0_3, .string a0_4, .string a0_5, .int .i64 a0_6, .string a0_7, .string a0_8, .bool a0_9] 23 (0, 0)) (by (with_reducible repeat (first | refine blk_drewN ?_ _ | refine blk_drew ?_ | refine blk_alloc ?_ _)); exact BK299.out) hb); have n1_ := Aside0.mk (below_step (by repeat (first | (with_reducible first | exact HB.out | apply below_alloc | apply pw_below_drewN | apply below_drew1 | refine below_set ?_ GE299.out) | exact HB.out)) hb); clear BK299; clear HB; have BK299 := n0_; have HB := n1_; clear n0_ n1_; (try clear hb); (try clear hb2); (try clear hk); (try clear hi)))
      go_meet
      case rel => exact ⟨_, (true), (by first | rfl | (simp; done) | (simp [*]; done) | (simp; exact (by decide : ∀ a_ b_ : Bool, (a_ == b_) = (!a_ != b_)) _ _)), H', ⟨by first | omega | exact Nat.le_refl _⟩, ⟨by (with_reducible repeat (first | refine blk_drewN ?_ _ | refine blk_drew ?_ | refine blk_alloc ?_ _)); exact BK299.out⟩, ⟨by repeat (first | (with_reducible first | exact HB.out | apply below_alloc | apply pw_below_drewN | apply below_drew1 | refine below_set ?_ GE299.out) | exact HB.out)⟩⟩
  case rest =>
    clear HC2
    try clear p2
    try clear c5
    try clear c6
    try clear c7
    try clear c8
    try clear c8b0
    try clear c8b1
    try clear hcz10_0
    try clear hcz10_1
    try clear hcz10_2
    try clear hcz10_3
    try clear hcz10_4
    try clear hcz10_5
    try clear hcz10_6
    try clear hcz10_7
    try clear hcz10_8
    try clear hcz10_9
    try clear hcz12_0
    try clear hcz12_1
    try clear hcz12_2
    try clear hcz12_3
    try clear hcz12_4
    try clear hcz12_5
    try clear hcz12_6
    try clear hcz12_7
    try clear hcz12_8
    try clear hcz12_9
    try clear hcz14_0
    try clear hcz14_1
    try clear hcz14_2
    try clear hcz14_3
    try clear hcz14_4
    try clear hcz14_5
    try clear hcz14_6
    try clear hcz14_7
    try clear hcz14_8
    try clear hcz14_9
    try clear hcz16_0
    try clear hcz16_1
    try clear hcz16_2
    try clear hcz16_3
    try clear hcz16_4
    try clear hcz16_5
    try clear hcz16_6
    try clear hcz16_7
    try clear hcz16_8
    try clear hcz16_9
    try clear hcz18_0
    try clear hcz18_1
    try clear hcz18_2
    try clear hcz18_3
    try clear hcz18_4
    try clear hcz18_5
    try clear hcz18_6
    try clear hcz18_7
    try clear hcz18_8
    try clear hcz18_9
    try clear hfz10_0
    try clear hfz10_1
    try clear hfz10_2
    try clear hfz10_3
    try clear hfz10_4
    try clear hfz10_5
    try clear hfz10_6
    try clear hfz10_7
    try clear hfz10_8
    try clear hfz10_9
    try clear hfz12_0
    try clear hfz12_1
    try clear hfz12_2
    try clear hfz12_3
    try clear hfz12_4
    try clear hfz12_5
    try clear hfz12_6
    try clear hfz12_7
    try clear hfz12_8
    try clear hfz12_9
    try clear hfz14_0
    try clear hfz14_1
    try clear hfz14_2
    try clear hfz14_3
    try clear hfz14_4
    try clear hfz14_5
    try clear hfz14_6
    try clear hfz14_7
    try clear hfz14_8
    try clear hfz14_9
    try clear hfz16_0
    try clear hfz16_1
    try clear hfz16_2
    try clear hfz16_3
    try clear hfz16_4
    try clear hfz16_5
    try clear hfz16_6
    try clear hfz16_7
    try clear hfz16_8
    try clear hfz16_9
    try clear hfz18_0
    try clear hfz18_1
    try clear hfz18_2
    try clear hfz18_3
    try clear hfz18_4
    try clear hfz18_5
    try clear hfz18_6
    try clear hfz18_7
    try clear hfz18_8
    try clear hfz18_9
    obtain ⟨kq, x25_1, rfl, HA, HJ1, BK299, HB⟩ := hcut
    cases kq with
    | zero => exact absurd HA.out (by simp [shardloglaw15_CmdLong.j0])
    | succ kj1 =>
      have H := HA.out
      clear HA
      simp only [shardloglaw15_CmdLong.j0] at H
      by_cases c21 : x25_1 = true
      · subst c21
        have H1 : ((shardloglaw15_awake.f kj1).bind fun t302 => (some t302)) = some r := by rw [if_pos rfl] at H; exact H
        clear H
        have H := H1
        clear H1
        replace H := Option.bind_eq_some_iff.mp H
        obtain ⟨t302, A220, H⟩ := H
        replace H : (some t302) = some r := H
        have A22 := Aside0.mk A220
        clear A220
        obtain rfl := Option.some.inj H
        go_wp2_with (first | ((with_reducible refine gate_callee (f := 7) rfl ?_); refine goesL_ (some 26) rfl rfl Try.func7 (by kernel_rfl) rfl #[] rfl (by (try simp only [List.map_toArray, List.map_cons, List.map_nil]); first | done | rfl | (simp only [List.length_drop, List.length_take]; rfl)) ?_; (with_reducible refine (shardloglaw15_awake.calls kj1  t302 _ A22.out).mono ?_); rintro e w23 ⟨rfl, hb⟩; refine ⟨_, rfl, ?_⟩; have n0_ := Aside0.mk (blk_below (g := gb299) (o := .cells #[.int .i64 a0_0, .int .i64 a0_1, .int .i64 a0_2, .string a0_3, .string a0_4, .string a0_5, .int .i64 a0_6, .string a0_7, .string a0_8, .bool a0_9] 23 (0, 0)) (by (with_reducible repeat (first | refine blk_drewN ?_ _ | refine blk_drew ?_ | refine blk_alloc ?_ _)); exact BK299.out) hb); have n1_ := Aside0.mk (below_step (by repeat (first | (with_reducible first | exact HB.out | apply below_alloc | apply pw_below_drewN | apply below_drew1 | refine below_set ?_ GE299.out) | exact HB.out)) hb); clear BK299; clear HB; have BK299 := n0_; have HB := n1_; clear n0_ n1_; (try clear hb); (try clear hb2); (try clear hk); (try clear hi)))
        go_ret
        exact ⟨by first | rfl | (simp [errW_none, errW_some] <;> rfl) | (simp [*, errW_none, errW_some] <;> rfl), by repeat (first | (with_reducible first | exact HB.out | apply below_alloc | apply pw_below_drewN | apply below_drew1 | refine below_set ?_ GE299.out) | exact HB.out)⟩
      · replace c21 := Bool.eq_false_iff.mpr c21
        subst c21
        have H1 : ((cmd_Put.f kj1 a0_0 a0_1 a0_2 a0_3 a0_4 a0_5 a0_6 a0_7 a0_8 a0_9).bind fun bt303 => (if a0_7.size + 1 ≤ 9223372036854775807 then ((cmd_Put.f kj1 a0_0 a0_1 a0_2 a0_3 a0_4 a0_5 a0_6 (a0_7 ++ (⟨#[120]⟩ : ByteArray)) a0_8 a0_9).bind fun bt306 => (if bt303.2 = 0 then (shardloglaw15_CmdLong.j1 kj1 bt306.1 bt306.2 (wrap64 ((wrap64 ((wrap64 ((wrap64 (40 + (a0_3.size : Int))) + (a0_4.size : Int))) + (a0_7.size : Int))) + (a0_8.size : Int))) ((bt303.1.size : Int) != (wrap64 ((wrap64 ((wrap64 ((wrap64 (40 + (a0_3.size : Int))) + (a0_4.size : Int))) + (a0_7.size : Int))) + (a0_8.size : Int)))) a0_0 a0_1 a0_2 a0_3 a0_4 a0_5 a0_6 (a0_7 ++ (⟨#[120]⟩ : ByteArray)) a0_8 a0_9) else (shardloglaw15_CmdLong.j1 kj1 bt306.1 bt306.2 (wrap64 ((wrap64 ((wrap64 ((wrap64 (40 + (a0_3.size : Int))) + (a0_4.size : Int))) + (a0_7.size : Int))) + (a0_8.size : Int))) true a0_0 a0_1 a0_2 a0_3 a0_4 a0_5 a0_6 (a0_7 ++ (⟨#[120]⟩ : ByteArray)) a0_8 a0_9))) else (none))) = some r := by rw [if_neg (show ¬ (false = true) by decide)] at H; exact H
        clear H
        have H := H1
        clear H1
        replace H := Option.bind_eq_some_iff.mp H
        obtain ⟨⟨t303, t304⟩, A240, H⟩ := H
        replace H : (if a0_7.size + 1 ≤ 9223372036854775807 then ((cmd_Put.f kj1 a0_0 a0_1 a0_2 a0_3 a0_4 a0_5 a0_6 (a0_7 ++ (⟨#[120]⟩ : ByteArray)) a0_8 a0_9).bind fun bt306 => (if t304 = 0 then (shardloglaw15_CmdLong.j1 kj1 bt306.1 bt306.2 (wrap64 ((wrap64 ((wrap64 ((wrap64 (40 + (a0_3.size : Int))) + (a0_4.size : Int))) + (a0_7.size : Int))) + (a0_8.size : Int))) ((t303.size : Int) != (wrap64 ((wrap64 ((wrap64 ((wrap64 (40 + (a0_3.size : Int))) + (a0_4.size : Int))) + (a0_7.size : Int))) + (a0_8.size : Int)))) a0_0 a0_1 a0_2 a0_3 a0_4 a0_5 a0_6 (a0_7 ++ (⟨#[120]⟩ : ByteArray)) a0_8 a0_9) else (shardloglaw15_CmdLong.j1 kj1 bt306.1 bt306.2 (wrap64 ((wrap64 ((wrap64 ((wrap64 (40 + (a0_3.size : Int))) + (a0_4.size : Int))) + (a0_7.size : Int))) + (a0_8.size : Int))) true a0_0 a0_1 a0_2 a0_3 a0_4 a0_5 a0_6 (a0_7 ++ (⟨#[120]⟩ : ByteArray)) a0_8 a0_9))) else (none)) = some r := H
        have A24 := Aside0.mk A240
        clear A240
        by_cases c25 : a0_7.size + 1 ≤ 9223372036854775807
        · rw [if_pos c25] at H
          have c25b0 := eq_true c25
          have c25b1 : decide (a0_7.size + 1 ≤ 9223372036854775807) = true := decide_eq_true c25
          try have c25b2 : (9223372036854775807 < a0_7.size + 1) = False := eq_false (Nat.not_lt.2 c25)
          replace H := Option.bind_eq_some_iff.mp H
          obtain ⟨⟨t306, t307⟩, A260, H⟩ := H
          replace H : (if t304 = 0 then (shardloglaw15_CmdLong.j1 kj1 t306 t307 (wrap64 ((wrap64 ((wrap64 ((wrap64 (40 + (a0_3.size : Int))) + (a0_4.size : Int))) + (a0_7.size : Int))) + (a0_8.size : Int))) ((t303.size : Int) != (wrap64 ((wrap64 ((wrap64 ((wrap64 (40 + (a0_3.size : Int))) + (a0_4.size : Int))) + (a0_7.size : Int))) + (a0_8.size : Int)))) a0_0 a0_1 a0_2 a0_3 a0_4 a0_5 a0_6 (a0_7 ++ (⟨#[120]⟩ : ByteArray)) a0_8 a0_9) else (shardloglaw15_CmdLong.j1 kj1 t306 t307 (wrap64 ((wrap64 ((wrap64 ((wrap64 (40 + (a0_3.size : Int))) + (a0_4.size : Int))) + (a0_7.size : Int))) + (a0_8.size : Int))) true a0_0 a0_1 a0_2 a0_3 a0_4 a0_5 a0_6 (a0_7 ++ (⟨#[120]⟩ : ByteArray)) a0_8 a0_9)) = some r := H
          have A26 := Aside0.mk A260
          clear A260
          have HC27 := Aside0.mk H
          clear H
          have hcz28_0 : wc.cell? ⟨gb299, 0, none⟩ = some (.int .i64 a0_0) := (blk_cell BK299.out 0).trans rfl
          have hcz28_1 : wc.cell? ⟨gb299, 1, none⟩ = some (.int .i64 a0_1) := (blk_cell BK299.out 1).trans rfl
          have hcz28_2 : wc.cell? ⟨gb299, 2, none⟩ = some (.int .i64 a0_2) := (blk_cell BK299.out 2).trans rfl
          have hcz28_3 : wc.cell? ⟨gb299, 3, none⟩ = some (.string a0_3) := (blk_cell BK299.out 3).trans rfl
          have hcz28_4 : wc.cell? ⟨gb299, 4, none⟩ = some (.string a0_4) := (blk_cell BK299.out 4).trans rfl
          have hcz28_5 : wc.cell? ⟨gb299, 5, none⟩ = some (.string a0_5) := (blk_cell BK299.out 5).trans rfl
          have hcz28_6 : wc.cell? ⟨gb299, 6, none⟩ = some (.int .i64 a0_6) := (blk_cell BK299.out 6).trans rfl
          have hcz28_7 : wc.cell? ⟨gb299, 7, none⟩ = some (.string a0_7) := (blk_cell BK299.out 7).trans rfl
          have hcz28_8 : wc.cell? ⟨gb299, 8, none⟩ = some (.string a0_8) := (blk_cell BK299.out 8).trans rfl
          have hcz28_9 : wc.cell? ⟨gb299, 9, none⟩ = some (.bool a0_9) := (blk_cell BK299.out 9).trans rfl
          have hfz28_0 := blk_frozen BK299.out 0
          have hfz28_1 := blk_frozen BK299.out 1
          have hfz28_2 := blk_frozen BK299.out 2
          have hfz28_3 := blk_frozen BK299.out 3
          have hfz28_4 := blk_frozen BK299.out 4
          have hfz28_5 := blk_frozen BK299.out 5
          have hfz28_6 := blk_frozen BK299.out 6
          have hfz28_7 := blk_frozen BK299.out 7
          have hfz28_8 := blk_frozen BK299.out 8
          have hfz28_9 := blk_frozen BK299.out 9
          go_upto_region 8 with (first | ((with_reducible refine gate_callee (f := 9) rfl ?_); refine goesL_ (some 29) rfl rfl Try.func9 (by kernel_rfl) rfl #[.agg #[.int .i64 a0_0, .int .i64 a0_1, .int .i64 a0_2, .string a0_3, .string a0_4, .string a0_5, .int .i64 a0_6, .string a0_7, .string a0_8, .bool a0_9]] rfl (by (try simp only [List.map_toArray, List.map_cons, List.map_nil]); first | done | rfl | (simp only [List.length_drop, List.length_take]; rfl)) ?_; (with_reducible refine (cmd_Put.calls kj1 a0_0 a0_1 a0_2 a0_3 a0_4 a0_5 a0_6 a0_7 a0_8 a0_9 t303 t304 _ A24.out).mono ?_); rintro e w29 ⟨rfl, hb⟩; refine ⟨_, rfl, ?_⟩; have n0_ := Aside0.mk (blk_below (g := gb299) (o := .cells #[.int .i64 a0_0, .int .i64 a0_1, .int .i64 a0_2, .string a0_3, .string a0_4, .string a0_5, .int .i64 a0_6, .string a0_7, .string a0_8, .bool a0_9] 23 (0, 0)) (by (with_reducible repeat (first | refine blk_drewN ?_ _ | refine blk_drew ?_ | refine blk_alloc ?_ _)); exact BK299.out) hb); have n1_ := Aside0.mk (below_step (by repeat (first | (with_reducible first | exact HB.out | apply below_alloc | apply pw_below_drewN | apply below_drew1 | refine below_set ?_ GE299.out) | exact HB.out)) hb); clear BK299; clear HB; have BK299 := n0_; have HB := n1_; clear n0_ n1_; (try clear hb); (try clear hb2); (try clear hk); (try clear hi); have hcz30_0 : w29.cell? ⟨gb299, 0, none⟩ = some (.int .i64 a0_0) := (blk_cell BK299.out 0).trans rfl; have hcz30_1 : w29.cell? ⟨gb299, 1, none⟩ = some (.int .i64 a0_1) := (blk_cell BK299.out 1).trans rfl; have hcz30_2 : w29.cell? ⟨gb299, 2, none⟩ = some (.int .i64 a0_2) := (blk_cell BK299.out 2).trans rfl; have hcz30_3 : w29.cell? ⟨gb299, 3, none⟩ = some (.string a0_3) := (blk_cell BK299.out 3).trans rfl; have hcz30_4 : w29.cell? ⟨gb299, 4, none⟩ = some (.string a0_4) := (blk_cell BK299.out 4).trans rfl; have hcz30_5 : w29.cell? ⟨gb299, 5, none⟩ = some (.string a0_5) := (blk_cell BK299.out 5).trans rfl; have hcz30_6 : w29.cell? ⟨gb299, 6, none⟩ = some (.int .i64 a0_6) := (blk_cell BK299.out 6).trans rfl; have hcz30_7 : w29.cell? ⟨gb299, 7, none⟩ = some (.string a0_7) := (blk_cell BK299.out 7).trans rfl; have hcz30_8 : w29.cell? ⟨gb299, 8, none⟩ = some (.string a0_8) := (blk_cell BK299.out 8).trans rfl; have hcz30_9 : w29.cell? ⟨gb299, 9, none⟩ = some (.bool a0_9) := (blk_cell BK299.out 9).trans rfl; have hfz30_0 := blk_frozen BK299.out 0; have hfz30_1 := blk_frozen BK299.out 1; have hfz30_2 := blk_frozen BK299.out 2; have hfz30_3 := blk_frozen BK299.out 3; have hfz30_4 := blk_frozen BK299.out 4; have hfz30_5 := blk_frozen BK299.out 5; have hfz30_6 := blk_frozen BK299.out 6; have hfz30_7 := blk_frozen BK299.out 7; have hfz30_8 := blk_frozen BK299.out 8; have hfz30_9 := blk_frozen BK299.out 9) | ((with_reducible refine gate_dst (N := 5) rfl ?_); (try (refine gate_guard (by rfl) ?_; dsimp only)); refine box_event ?hg (N := 5) ?hd (cs := #[.int .i64 0, .int .i64 0, .int .i64 0, .string (⟨#[]⟩ : ByteArray), .string (⟨#[]⟩ : ByteArray), .string (⟨#[]⟩ : ByteArray), .int .i64 0, .string (⟨#[]⟩ : ByteArray), .string (⟨#[]⟩ : ByteArray), .bool false]) (t := 23) ?hr ?_; (case hd => rfl); (case hg => rfl); (case hr => first | (go_simp; done) | (go_simp; rfl)); intro gb305 hg w31 hbox hb; have n0_ := Aside0.mk (blk_below (g := gb299) (o := .cells #[.int .i64 a0_0, .int .i64 a0_1, .int .i64 a0_2, .string a0_3, .string a0_4, .string a0_5, .int .i64 a0_6, .string a0_7, .string a0_8, .bool a0_9] 23 (0, 0)) (by (with_reducible repeat (first | refine blk_drewN ?_ _ | refine blk_drew ?_ | refine blk_alloc ?_ _)); exact BK299.out) hb); have n1_ := Aside0.mk (below_step (by repeat (first | (with_reducible first | exact HB.out | apply below_alloc | apply pw_below_drewN | apply below_drew1 | refine below_set ?_ GE299.out) | exact HB.out)) hb); have n2_ := Aside0.mk (hbox); have n3_ := Aside0.mk ((by rw [hg]; exact (below_size (by repeat (first | (with_reducible first | exact HB.out | apply below_alloc | apply pw_below_drewN | apply below_drew1 | refine below_set ?_ GE299.out) | exact HB.out))) : w.heap.size ≤ gb305)); have n4_ := Aside0.mk ((by rw [hg]; exact (below_size (by repeat (first | (with_reducible first | exact HB.out | apply below_alloc | apply pw_below_drewN | apply below_drew1 | refine below_set ?_ GE299.out) | exact HB.out))) : w.heap.size ≤ gb305)); have n5_ := Aside0.mk ((by rw [hg]; exact Nat.ne_of_lt (blk_lt (g := gb299) (o := .cells #[.int .i64 a0_0, .int .i64 a0_1, .int .i64 a0_2, .string a0_3, .string a0_4, .string a0_5, .int .i64 a0_6, .string a0_7, .string a0_8, .bool a0_9] 23 (0, 0)) (by (with_reducible repeat (first | refine blk_drewN ?_ _ | refine blk_drew ?_ | refine blk_alloc ?_ _)); exact BK299.out)) : gb299 ≠ gb305)); have n6_ := Aside0.mk ((by rw [hg]; exact Nat.ne_of_gt (blk_lt (g := gb299) (o := .cells #[.int .i64 a0_0, .int .i64 a0_1, .int .i64 a0_2, .string a0_3, .string a0_4, .string a0_5, .int .i64 a0_6, .string a0_7, .string a0_8, .bool a0_9] 23 (0, 0)) (by (with_reducible repeat (first | refine blk_drewN ?_ _ | refine blk_drew ?_ | refine blk_alloc ?_ _)); exact BK299.out)) : gb305 ≠ gb299)); clear BK299; clear HB; have BK299 := n0_; have HB := n1_; have BK305 := n2_; have GW305 := n3_; have GE305 := n4_; have NB299_305 := n5_; have NB305_299 := n6_; clear n0_ n1_ n2_ n3_ n4_ n5_ n6_; clear hb hbox hg; have hnb32 := NB305_299.out; have hnc32 := NB299_305.out; have hcz33_0 : w31.cell? ⟨gb305, 0, none⟩ = some (.int .i64 0) := (blk_cell BK305.out 0).trans rfl; have hcz33_1 : w31.cell? ⟨gb305, 1, none⟩ = some (.int .i64 0) := (blk_cell BK305.out 1).trans rfl; have hcz33_2 : w31.cell? ⟨gb305, 2, none⟩ = some (.int .i64 0) := (blk_cell BK305.out 2).trans rfl; have hcz33_3 : w31.cell? ⟨gb305, 3, none⟩ = some (.string (⟨#[]⟩ : ByteArray)) := (blk_cell BK305.out 3).trans rfl; have hcz33_4 : w31.cell? ⟨gb305, 4, none⟩ = some (.string (⟨#[]⟩ : ByteArray)) := (blk_cell BK305.out 4).trans rfl; have hcz33_5 : w31.cell? ⟨gb305, 5, none⟩ = some (.string (⟨#[]⟩ : ByteArray)) := (blk_cell BK305.out 5).trans rfl; have hcz33_6 : w31.cell? ⟨gb305, 6, none⟩ = some (.int .i64 0) := (blk_cell BK305.out 6).trans rfl; have hcz33_7 : w31.cell? ⟨gb305, 7, none⟩ = some (.string (⟨#[]⟩ : ByteArray)) := (blk_cell BK305.out 7).trans rfl; have hcz33_8 : w31.cell? ⟨gb305, 8, none⟩ = some (.string (⟨#[]⟩ : ByteArray)) := (blk_cell BK305.out 8).trans rfl; have hcz33_9 : w31.cell? ⟨gb305, 9, none⟩ = some (.bool false) := (blk_cell BK305.out 9).trans rfl; have hfz33_0 := blk_frozen BK305.out 0; have hfz33_1 := blk_frozen BK305.out 1; have hfz33_2 := blk_frozen BK305.out 2; have hfz33_3 := blk_frozen BK305.out 3; have hfz33_4 := blk_frozen BK305.out 4; have hfz33_5 := blk_frozen BK305.out 5; have hfz33_6 := blk_frozen BK305.out 6; have hfz33_7 := blk_frozen BK305.out 7; have hfz33_8 := blk_frozen BK305.out 8; have hfz33_9 := blk_frozen BK305.out 9; have hcz34_0 : w31.cell? ⟨gb299, 0, none⟩ = some (.int .i64 a0_0) := (blk_cell BK299.out 0).trans rfl; have hcz34_1 : w31.cell? ⟨gb299, 1, none⟩ = some (.int .i64 a0_1) := (blk_cell BK299.out 1).trans rfl; have hcz34_2 : w31.cell? ⟨gb299, 2, none⟩ = some (.int .i64 a0_2) := (blk_cell BK299.out 2).trans rfl; have hcz34_3 : w31.cell? ⟨gb299, 3, none⟩ = some (.string a0_3) := (blk_cell BK299.out 3).trans rfl; have hcz34_4 : w31.cell? ⟨gb299, 4, none⟩ = some (.string a0_4) := (blk_cell BK299.out 4).trans rfl; have hcz34_5 : w31.cell? ⟨gb299, 5, none⟩ = some (.string a0_5) := (blk_cell BK299.out 5).trans rfl; have hcz34_6 : w31.cell? ⟨gb299, 6, none⟩ = some (.int .i64 a0_6) := (blk_cell BK299.out 6).trans rfl; have hcz34_7 : w31.cell? ⟨gb299, 7, none⟩ = some (.string a0_7) := (blk_cell BK299.out 7).trans rfl; have hcz34_8 : w31.cell? ⟨gb299, 8, none⟩ = some (.string a0_8) := (blk_cell BK299.out 8).trans rfl; have hcz34_9 : w31.cell? ⟨gb299, 9, none⟩ = some (.bool a0_9) := (blk_cell BK299.out 9).trans rfl; have hfz34_0 := blk_frozen BK299.out 0; have hfz34_1 := blk_frozen BK299.out 1; have hfz34_2 := blk_frozen BK299.out 2; have hfz34_3 := blk_frozen BK299.out 3; have hfz34_4 := blk_frozen BK299.out 4; have hfz34_5 := blk_frozen BK299.out 5; have hfz34_6 := blk_frozen BK299.out 6; have hfz34_7 := blk_frozen BK299.out 7; have hfz34_8 := blk_frozen BK299.out 8; have hfz34_9 := blk_frozen BK299.out 9) | ((with_reducible refine gate_store (t := 23) (p := 5) rfl ?_); refine wpList_store_row rfl 23 _ _ rfl gb305 #[.int .i64 a0_0, .int .i64 a0_1, .int .i64 a0_2, .string a0_3, .string a0_4, .string a0_5, .int .i64 a0_6, .string a0_7, .string a0_8, .bool a0_9] rfl rfl 23 _ BK305.out (by kernel_rfl) rfl (by kernel_rfl) ?_; have n0_ := Aside0.mk (setRow_heap w31 gb305 _ #[.int .i64 a0_0, .int .i64 a0_1, .int .i64 a0_2, .string a0_3, .string a0_4, .string a0_5, .int .i64 a0_6, .string a0_7, .string a0_8, .bool a0_9] _ _ BK305.out); have n1_ := Aside0.mk ((setRow_other w31 gb305 gb299 #[.int .i64 a0_0, .int .i64 a0_1, .int .i64 a0_2, .string a0_3, .string a0_4, .string a0_5, .int .i64 a0_6, .string a0_7, .string a0_8, .bool a0_9] NB299_305.out).trans BK299.out); have n2_ := Aside0.mk (below_setRow HB.out GE305.out #[.int .i64 a0_0, .int .i64 a0_1, .int .i64 a0_2, .string a0_3, .string a0_4, .string a0_5, .int .i64 a0_6, .string a0_7, .string a0_8, .bool a0_9]); generalize World.setRow w31 gb305 #[.int .i64 a0_0, .int .i64 a0_1, .int .i64 a0_2, .string a0_3, .string a0_4, .string a0_5, .int .i64 a0_6, .string a0_7, .string a0_8, .bool a0_9] = w31b at n0_ n1_ n2_ ⊢; clear HB BK305 BK299; have BK305 := n0_; have BK299 := n1_; have HB := n2_; clear n0_ n1_ n2_; have hr305_0 : w31b.cell? ⟨gb305, 0, none⟩ = some (.int .i64 a0_0) := (blk_cell BK305.out 0).trans rfl; have hr305_1 : w31b.cell? ⟨gb305, 1, none⟩ = some (.int .i64 a0_1) := (blk_cell BK305.out 1).trans rfl; have hr305_2 : w31b.cell? ⟨gb305, 2, none⟩ = some (.int .i64 a0_2) := (blk_cell BK305.out 2).trans rfl; have hr305_3 : w31b.cell? ⟨gb305, 3, none⟩ = some (.string a0_3) := (blk_cell BK305.out 3).trans rfl; have hr305_4 : w31b.cell? ⟨gb305, 4, none⟩ = some (.string a0_4) := (blk_cell BK305.out 4).trans rfl; have hr305_5 : w31b.cell? ⟨gb305, 5, none⟩ = some (.string a0_5) := (blk_cell BK305.out 5).trans rfl; have hr305_6 : w31b.cell? ⟨gb305, 6, none⟩ = some (.int .i64 a0_6) := (blk_cell BK305.out 6).trans rfl; have hr305_7 : w31b.cell? ⟨gb305, 7, none⟩ = some (.string a0_7) := (blk_cell BK305.out 7).trans rfl; have hr305_8 : w31b.cell? ⟨gb305, 8, none⟩ = some (.string a0_8) := (blk_cell BK305.out 8).trans rfl; have hr305_9 : w31b.cell? ⟨gb305, 9, none⟩ = some (.bool a0_9) := (blk_cell BK305.out 9).trans rfl; have hr299_0 : w31b.cell? ⟨gb299, 0, none⟩ = some (.int .i64 a0_0) := (blk_cell BK299.out 0).trans rfl; have hr299_1 : w31b.cell? ⟨gb299, 1, none⟩ = some (.int .i64 a0_1) := (blk_cell BK299.out 1).trans rfl; have hr299_2 : w31b.cell? ⟨gb299, 2, none⟩ = some (.int .i64 a0_2) := (blk_cell BK299.out 2).trans rfl; have hr299_3 : w31b.cell? ⟨gb299, 3, none⟩ = some (.string a0_3) := (blk_cell BK299.out 3).trans rfl; have hr299_4 : w31b.cell? ⟨gb299, 4, none⟩ = some (.string a0_4) := (blk_cell BK299.out 4).trans rfl; have hr299_5 : w31b.cell? ⟨gb299, 5, none⟩ = some (.string a0_5) := (blk_cell BK299.out 5).trans rfl; have hr299_6 : w31b.cell? ⟨gb299, 6, none⟩ = some (.int .i64 a0_6) := (blk_cell BK299.out 6).trans rfl; have hr299_7 : w31b.cell? ⟨gb299, 7, none⟩ = some (.string a0_7) := (blk_cell BK299.out 7).trans rfl; have hr299_8 : w31b.cell? ⟨gb299, 8, none⟩ = some (.string a0_8) := (blk_cell BK299.out 8).trans rfl; have hr299_9 : w31b.cell? ⟨gb299, 9, none⟩ = some (.bool a0_9) := (blk_cell BK299.out 9).trans rfl; have hrf305 := blk_frozen BK305.out 7) | ((with_reducible refine gate_callee (f := 9) rfl ?_); refine goesL_ (some 39) rfl rfl Try.func9 (by kernel_rfl) rfl #[.agg #[.int .i64 a0_0, .int .i64 a0_1, .int .i64 a0_2, .string a0_3, .string a0_4, .string a0_5, .int .i64 a0_6, .string (a0_7 ++ (⟨#[120]⟩ : ByteArray)), .string a0_8, .bool a0_9]] rfl (by (try simp only [List.map_toArray, List.map_cons, List.map_nil]); first | done | rfl | (simp only [List.length_drop, List.length_take]; rfl)) ?_; (with_reducible refine (cmd_Put.calls kj1 a0_0 a0_1 a0_2 a0_3 a0_4 a0_5 a0_6 (a0_7 ++ (⟨#[120]⟩ : ByteArray)) a0_8 a0_9 t306 t307 _ A26.out).mono ?_); rintro e w35 ⟨rfl, hb⟩; refine ⟨_, rfl, ?_⟩; have n0_ := Aside0.mk (blk_below (g := gb299) (o := .cells #[.int .i64 a0_0, .int .i64 a0_1, .int .i64 a0_2, .string a0_3, .string a0_4, .string a0_5, .int .i64 a0_6, .string a0_7, .string a0_8, .bool a0_9] 23 (0, 0)) (by (with_reducible repeat (first | refine blk_drewN ?_ _ | refine blk_drew ?_ | refine blk_alloc ?_ _)); refine blk_far ?_ NB299_305.out _; exact BK299.out) hb); have n1_ := Aside0.mk (blk_below (g := gb305) (o := .cells #[.int .i64 a0_0, .int .i64 a0_1, .int .i64 a0_2, .string a0_3, .string a0_4, .string a0_5, .int .i64 a0_6, .string (a0_7 ++ (⟨#[120]⟩ : ByteArray)), .string a0_8, .bool a0_9] 23 (0, 0)) (by (with_reducible repeat (first | refine blk_drewN ?_ _ | refine blk_drew ?_ | refine blk_alloc ?_ _)); refine blk_put (cs := #[.int .i64 a0_0, .int .i64 a0_1, .int .i64 a0_2, .string a0_3, .string a0_4, .string a0_5, .int .i64 a0_6, .string a0_7, .string a0_8, .bool a0_9]) ?_ 7 _ rfl; exact BK305.out) hb); have n2_ := Aside0.mk (below_step (by repeat (first | (with_reducible first | exact HB.out | apply below_alloc | apply pw_below_drewN | apply below_drew1 | refine below_set ?_ GE299.out | refine below_set ?_ GE305.out) | exact HB.out)) hb); clear BK299; clear BK305; clear HB; have BK299 := n0_; have BK305 := n1_; have HB := n2_; clear n0_ n1_ n2_; (try clear hb); (try clear hb2); (try clear hk); (try clear hi); have hcz36_0 : w35.cell? ⟨gb299, 0, none⟩ = some (.int .i64 a0_0) := (blk_cell BK299.out 0).trans rfl; have hcz36_1 : w35.cell? ⟨gb299, 1, none⟩ = some (.int .i64 a0_1) := (blk_cell BK299.out 1).trans rfl; have hcz36_2 : w35.cell? ⟨gb299, 2, none⟩ = some (.int .i64 a0_2) := (blk_cell BK299.out 2).trans rfl; have hcz36_3 : w35.cell? ⟨gb299, 3, none⟩ = some (.string a0_3) := (blk_cell BK299.out 3).trans rfl; have hcz36_4 : w35.cell? ⟨gb299, 4, none⟩ = some (.string a0_4) := (blk_cell BK299.out 4).trans rfl; have hcz36_5 : w35.cell? ⟨gb299, 5, none⟩ = some (.string a0_5) := (blk_cell BK299.out 5).trans rfl; have hcz36_6 : w35.cell? ⟨gb299, 6, none⟩ = some (.int .i64 a0_6) := (blk_cell BK299.out 6).trans rfl; have hcz36_7 : w35.cell? ⟨gb299, 7, none⟩ = some (.string a0_7) := (blk_cell BK299.out 7).trans rfl; have hcz36_8 : w35.cell? ⟨gb299, 8, none⟩ = some (.string a0_8) := (blk_cell BK299.out 8).trans rfl; have hcz36_9 : w35.cell? ⟨gb299, 9, none⟩ = some (.bool a0_9) := (blk_cell BK299.out 9).trans rfl; have hfz36_0 := blk_frozen BK299.out 0; have hfz36_1 := blk_frozen BK299.out 1; have hfz36_2 := blk_frozen BK299.out 2; have hfz36_3 := blk_frozen BK299.out 3; have hfz36_4 := blk_frozen BK299.out 4; have hfz36_5 := blk_frozen BK299.out 5; have hfz36_6 := blk_frozen BK299.out 6; have hfz36_7 := blk_frozen BK299.out 7; have hfz36_8 := blk_frozen BK299.out 8; have hfz36_9 := blk_frozen BK299.out 9))
          (try simp only [Act.put, List.setIfInBounds_toArray, List.set_cons_zero, List.set_cons_succ])
          go_cut [65] (fun v65 wc => ∃ (kq : Nat) (x65_26 : Bool), v65 = .bool x65_26 ∧ Aside0 (shardloglaw15_CmdLong.j1 kq t306 t307 (wrap64 ((wrap64 ((wrap64 ((wrap64 (40 + (a0_3.size : Int))) + (a0_4.size : Int))) + (a0_7.size : Int))) + (a0_8.size : Int))) x65_26 a0_0 a0_1 a0_2 a0_3 a0_4 a0_5 a0_6 (a0_7 ++ (⟨#[120]⟩ : ByteArray)) a0_8 a0_9 = some r) ∧ Aside0 (kq ≤ kj1) ∧ Aside0 (wc.heap[gb299]? = some (.cells #[.int .i64 a0_0, .int .i64 a0_1, .int .i64 a0_2, .string a0_3, .string a0_4, .string a0_5, .int .i64 a0_6, .string a0_7, .string a0_8, .bool a0_9] 23 (0, 0))) ∧ Aside0 (wc.heap[gb305]? = some (.cells #[.int .i64 a0_0, .int .i64 a0_1, .int .i64 a0_2, .string a0_3, .string a0_4, .string a0_5, .int .i64 a0_6, .string (a0_7 ++ (⟨#[120]⟩ : ByteArray)), .string a0_8, .bool a0_9] 23 (0, 0))) ∧ Aside0 (Below w.heap.size w wc))
          case first =>
            have H := HC27.out
            clear HC27
            by_cases c37 : t304 = 0
            · rw [if_pos c37] at H
              have c37b0 : (t304 == 0) = true := beq_iff_eq.mpr c37
              have c37b1 : (t304 != 0) = false := bne_eq_false_iff_eq.mpr c37
              clear c37
              (first | rw [c37b0] | (simp only [i64_w, i32_w]; rw [c37b0]) | skip)
              have H' := Aside0.mk H
              clear H
              go_wp2
              go_meet
              case rel => exact ⟨_, (((t303.size : Int) != (wrap64 ((wrap64 ((wrap64 ((wrap64 (40 + (a0_3.size : Int))) + (a0_4.size : Int))) + (a0_7.size : Int))) + (a0_8.size : Int))))), (by first | rfl | (simp; done) | (simp [*]; done) | (simp; exact (by decide : ∀ a_ b_ : Bool, (a_ == b_) = (!a_ != b_)) _ _)), H', ⟨by have := HJ1.out; first | omega | exact Nat.le_refl _⟩, ⟨by (with_reducible repeat (first | refine blk_drewN ?_ _ | refine blk_drew ?_ | refine blk_alloc ?_ _)); exact BK299.out⟩, ⟨by (with_reducible repeat (first | refine blk_drewN ?_ _ | refine blk_drew ?_ | refine blk_alloc ?_ _)); exact BK305.out⟩, ⟨by repeat (first | (with_reducible first | exact HB.out | apply below_alloc | apply pw_below_drewN | apply below_drew1 | refine below_set ?_ GE299.out | refine below_set ?_ GE305.out) | exact HB.out)⟩⟩
            · rw [if_neg c37] at H
              have c37b0 : (t304 == 0) = false := beq_eq_false_iff_ne.mpr c37
              have c37b1 : (t304 != 0) = true := bne_iff_ne.mpr c37
              (first | rw [c37b0] | (simp only [i64_w, i32_w]; rw [c37b0]) | skip)
              have H' := Aside0.mk H
              clear H
              go_wp2
              go_meet
              case rel => exact ⟨_, (true), (by first | rfl | (simp; done) | (simp [*]; done) | (simp; exact (by decide : ∀ a_ b_ : Bool, (a_ == b_) = (!a_ != b_)) _ _)), H', ⟨by have := HJ1.out; first | omega | exact Nat.le_refl _⟩, ⟨by (with_reducible repeat (first | refine blk_drewN ?_ _ | refine blk_drew ?_ | refine blk_alloc ?_ _)); exact BK299.out⟩, ⟨by (with_reducible repeat (first | refine blk_drewN ?_ _ | refine blk_drew ?_ | refine blk_alloc ?_ _)); exact BK305.out⟩, ⟨by repeat (first | (with_reducible first | exact HB.out | apply below_alloc | apply pw_below_drewN | apply below_drew1 | refine below_set ?_ GE299.out | refine below_set ?_ GE305.out) | exact HB.out)⟩⟩
          case rest =>
            clear HC27
            try clear c2
            try clear p2
            try clear c3
            try clear c5
            try clear c6
            try clear p6
            try clear c7
            try clear c8
            try clear c8b0
            try clear c8b1
            try clear c9
            try clear c21
            try clear c25
            try clear c25b0
            try clear c25b1
            try clear c25b2
            try clear c32
            try clear c37
            try clear c37b0
            try clear c37b1
            try clear hcz10_0
            try clear hcz10_1
            try clear hcz10_2
            try clear hcz10_3
            try clear hcz10_4
            try clear hcz10_5
            try clear hcz10_6
            try clear hcz10_7
            try clear hcz10_8
            try clear hcz10_9
            try clear hcz12_0
            try clear hcz12_1
            try clear hcz12_2
            try clear hcz12_3
            try clear hcz12_4
            try clear hcz12_5
            try clear hcz12_6
            try clear hcz12_7
            try clear hcz12_8
            try clear hcz12_9
            try clear hcz14_0
            try clear hcz14_1
            try clear hcz14_2
            try clear hcz14_3
            try clear hcz14_4
            try clear hcz14_5
            try clear hcz14_6
            try clear hcz14_7
            try clear hcz14_8
            try clear hcz14_9
            try clear hcz16_0
            try clear hcz16_1
            try clear hcz16_2
            try clear hcz16_3
            try clear hcz16_4
            try clear hcz16_5
            try clear hcz16_6
            try clear hcz16_7
            try clear hcz16_8
            try clear hcz16_9
            try clear hcz18_0
            try clear hcz18_1
            try clear hcz18_2
            try clear hcz18_3
            try clear hcz18_4
            try clear hcz18_5
            try clear hcz18_6
            try clear hcz18_7
            try clear hcz18_8
            try clear hcz18_9
            try clear hcz28_0
            try clear hcz28_1
            try clear hcz28_2
            try clear hcz28_3
            try clear hcz28_4
            try clear hcz28_5
            try clear hcz28_6
            try clear hcz28_7
            try clear hcz28_8
            try clear hcz28_9
            try clear hcz30_0
            try clear hcz30_1
            try clear hcz30_2
            try clear hcz30_3
            try clear hcz30_4
            try clear hcz30_5
            try clear hcz30_6
            try clear hcz30_7
            try clear hcz30_8
            try clear hcz30_9
            try clear hcz33_0
            try clear hcz33_1
            try clear hcz33_2
            try clear hcz33_3
            try clear hcz33_4
            try clear hcz33_5
            try clear hcz33_6
            try clear hcz33_7
            try clear hcz33_8
            try clear hcz33_9
            try clear hcz34_0
            try clear hcz34_1
            try clear hcz34_2
            try clear hcz34_3
            try clear hcz34_4
            try clear hcz34_5
            try clear hcz34_6
            try clear hcz34_7
            try clear hcz34_8
            try clear hcz34_9
            try clear hcz36_0
            try clear hcz36_1
            try clear hcz36_2
            try clear hcz36_3
            try clear hcz36_4
            try clear hcz36_5
            try clear hcz36_6
            try clear hcz36_7
            try clear hcz36_8
            try clear hcz36_9
            try clear hfz10_0
            try clear hfz10_1
            try clear hfz10_2
            try clear hfz10_3
            try clear hfz10_4
            try clear hfz10_5
            try clear hfz10_6
            try clear hfz10_7
            try clear hfz10_8
            try clear hfz10_9
            try clear hfz12_0
            try clear hfz12_1
            try clear hfz12_2
            try clear hfz12_3
            try clear hfz12_4
            try clear hfz12_5
            try clear hfz12_6
            try clear hfz12_7
            try clear hfz12_8
            try clear hfz12_9
            try clear hfz14_0
            try clear hfz14_1
            try clear hfz14_2
            try clear hfz14_3
            try clear hfz14_4
            try clear hfz14_5
            try clear hfz14_6
            try clear hfz14_7
            try clear hfz14_8
            try clear hfz14_9
            try clear hfz16_0
            try clear hfz16_1
            try clear hfz16_2
            try clear hfz16_3
            try clear hfz16_4
            try clear hfz16_5
            try clear hfz16_6
            try clear hfz16_7
            try clear hfz16_8
            try clear hfz16_9
            try clear hfz18_0
            try clear hfz18_1
            try clear hfz18_2
            try clear hfz18_3
            try clear hfz18_4
            try clear hfz18_5
            try clear hfz18_6
            try clear hfz18_7
            try clear hfz18_8
            try clear hfz18_9
            try clear hfz28_0
            try clear hfz28_1
            try clear hfz28_2
            try clear hfz28_3
            try clear hfz28_4
            try clear hfz28_5
            try clear hfz28_6
            try clear hfz28_7
            try clear hfz28_8
            try clear hfz28_9
            try clear hfz30_0
            try clear hfz30_1
            try clear hfz30_2
            try clear hfz30_3
            try clear hfz30_4
            try clear hfz30_5
            try clear hfz30_6
            try clear hfz30_7
            try clear hfz30_8
            try clear hfz30_9
            try clear hfz33_0
            try clear hfz33_1
            try clear hfz33_2
            try clear hfz33_3
            try clear hfz33_4
            try clear hfz33_5
            try clear hfz33_6
            try clear hfz33_7
            try clear hfz33_8
            try clear hfz33_9
            try clear hfz34_0
            try clear hfz34_1
            try clear hfz34_2
            try clear hfz34_3
            try clear hfz34_4
            try clear hfz34_5
            try clear hfz34_6
            try clear hfz34_7
            try clear hfz34_8
            try clear hfz34_9
            try clear hfz36_0
            try clear hfz36_1
            try clear hfz36_2
            try clear hfz36_3
            try clear hfz36_4
            try clear hfz36_5
            try clear hfz36_6
            try clear hfz36_7
            try clear hfz36_8
            try clear hfz36_9
            try clear p2
            obtain ⟨kq, x65_26, rfl, HA, HJ26, BK299, BK305, HB⟩ := hcut
            cases kq with
            | zero => exact absurd HA.out (by simp [shardloglaw15_CmdLong.j1])
            | succ kj26 =>
              have H := HA.out
              clear HA
              simp only [shardloglaw15_CmdLong.j1] at H
              by_cases c38 : x65_26 = true
              · subst c38
                have H1 : (none) = some r := by rw [if_pos rfl] at H; exact H
                clear H
                have H := H1
                clear H1
                exact absurd H (by simp)
              · replace c38 := Bool.eq_false_iff.mpr c38
                subst c38
                have H1 : (if ((a0_7 ++ (⟨#[120]⟩ : ByteArray)).size : Int) > 256 then (some (t307 == 1)) else (if (wrap64 ((wrap64 ((wrap64 ((wrap64 (40 + (a0_3.size : Int))) + (a0_4.size : Int))) + (a0_7.size : Int))) + (a0_8.size : Int))) < 512 then (if t307 = 0 then (if (t306.size : Int) = (wrap64 ((wrap64 ((wrap64 ((wrap64 ((wrap64 (40 + (a0_3.size : Int))) + (a0_4.size : Int))) + (a0_7.size : Int))) + (a0_8.size : Int))) + 1)) then (some true) else (if (wrap64 ((wrap64 ((wrap64 ((wrap64 (40 + (a0_3.size : Int))) + (a0_4.size : Int))) + (a0_7.size : Int))) + (a0_8.size : Int))) = 512 then (some (t307 == 7)) else (none))) else (if (wrap64 ((wrap64 ((wrap64 ((wrap64 (40 + (a0_3.size : Int))) + (a0_4.size : Int))) + (a0_7.size : Int))) + (a0_8.size : Int))) = 512 then (some (t307 == 7)) else (none))) else (if (wrap64 ((wrap64 ((wrap64 ((wrap64 (40 + (a0_3.size : Int))) + (a0_4.size : Int))) + (a0_7.size : Int))) + (a0_8.size : Int))) = 512 then (some (t307 == 7)) else (none)))) = some r := by rw [if_neg (show ¬ (false = true) by decide)] at H; exact H
                clear H
                have H := H1
                clear H1
                by_cases c39 : ((a0_7 ++ (⟨#[120]⟩ : ByteArray)).size : Int) > 256
                · rw [if_pos c39] at H
                  have c39b0 : decide (256 < ((a0_7 ++ (⟨#[120]⟩ : ByteArray)).size : Int)) = true := decide_eq_true c39
                  have c39b1 : decide (256 < (a0_7 ++ (⟨#[120]⟩ : ByteArray)).size) = true := decide_eq_true (by omega)
                  have c39b2 : decide (256 < ((a0_7.size : Int) + 1)) = true := decide_eq_true (by have h_ := c39; rw [show (a0_7 ++ (⟨#[120]⟩ : ByteArray)).size = a0_7.size + 1 from ByteArray.size_append] at h_; omega)
                  clear c39
                  obtain rfl := Option.some.inj H
                  have hnb40 := NB305_299.out
                  have hnc40 := NB299_305.out
                  have hcz41_0 : wc.cell? ⟨gb305, 0, none⟩ = some (.int .i64 a0_0) := (blk_cell BK305.out 0).trans rfl
                  have hcz41_1 : wc.cell? ⟨gb305, 1, none⟩ = some (.int .i64 a0_1) := (blk_cell BK305.out 1).trans rfl
                  have hcz41_2 : wc.cell? ⟨gb305, 2, none⟩ = some (.int .i64 a0_2) := (blk_cell BK305.out 2).trans rfl
                  have hcz41_3 : wc.cell? ⟨gb305, 3, none⟩ = some (.string a0_3) := (blk_cell BK305.out 3).trans rfl
                  have hcz41_4 : wc.cell? ⟨gb305, 4, none⟩ = some (.string a0_4) := (blk_cell BK305.out 4).trans rfl
                  have hcz41_5 : wc.cell? ⟨gb305, 5, none⟩ = some (.string a0_5) := (blk_cell BK305.out 5).trans rfl
                  have hcz41_6 : wc.cell? ⟨gb305, 6, none⟩ = some (.int .i64 a0_6) := (blk_cell BK305.out 6).trans rfl
                  have hcz41_7 : wc.cell? ⟨gb305, 7, none⟩ = some (.string (a0_7 ++ (⟨#[120]⟩ : ByteArray))) := (blk_cell BK305.out 7).trans rfl
                  have hcz41_8 : wc.cell? ⟨gb305, 8, none⟩ = some (.string a0_8) := (blk_cell BK305.out 8).trans rfl
                  have hcz41_9 : wc.cell? ⟨gb305, 9, none⟩ = some (.bool a0_9) := (blk_cell BK305.out 9).trans rfl
                  have hfz41_0 := blk_frozen BK305.out 0
                  have hfz41_1 := blk_frozen BK305.out 1
                  have hfz41_2 := blk_frozen BK305.out 2
                  have hfz41_3 := blk_frozen BK305.out 3
                  have hfz41_4 := blk_frozen BK305.out 4
                  have hfz41_5 := blk_frozen BK305.out 5
                  have hfz41_6 := blk_frozen BK305.out 6
                  have hfz41_7 := blk_frozen BK305.out 7
                  have hfz41_8 := blk_frozen BK305.out 8
                  have hfz41_9 := blk_frozen BK305.out 9
                  go_wp2
                  go_ret
                  exact ⟨by first | rfl | (simp [errW_none, errW_some] <;> rfl) | (simp [*, errW_none, errW_some] <;> rfl), by repeat (first | (with_reducible first | exact HB.out | apply below_alloc | apply pw_below_drewN | apply below_drew1 | refine below_set ?_ GE299.out | refine below_set ?_ GE305.out) | exact HB.out)⟩
                · rw [if_neg c39] at H
                  have c39b0 : decide (256 < ((a0_7 ++ (⟨#[120]⟩ : ByteArray)).size : Int)) = false := decide_eq_false c39
                  have c39b1 : decide (256 < (a0_7 ++ (⟨#[120]⟩ : ByteArray)).size) = false := decide_eq_false (by omega)
                  have c39b2 : decide (256 < ((a0_7.size : Int) + 1)) = false := decide_eq_false (by have h_ := c39; rw [show (a0_7 ++ (⟨#[120]⟩ : ByteArray)).size = a0_7.size + 1 from ByteArray.size_append] at h_; omega)
                  clear c39
                  by_cases c42 : (wrap64 ((wrap64 ((wrap64 ((wrap64 (40 + (a0_3.size : Int))) + (a0_4.size : Int))) + (a0_7.size : Int))) + (a0_8.size : Int))) < 512
                  · rw [if_pos c42] at H
                    have c42b0 : decide ((wrap64 ((wrap64 ((wrap64 ((wrap64 (40 + (a0_3.size : Int))) + (a0_4.size : Int))) + (a0_7.size : Int))) + (a0_8.size : Int))) < 512) = true := decide_eq_true c42
                    clear c42
                    by_cases c43 : t307 = 0
                    · rw [if_pos c43] at H
                      have c43b0 : (t307 == 0) = true := beq_iff_eq.mpr c43
                      have c43b1 : (t307 != 0) = false := bne_eq_false_iff_eq.mpr c43
                      clear c43
                      by_cases c44 : (t306.size : Int) = (wrap64 ((wrap64 ((wrap64 ((wrap64 ((wrap64 (40 + (a0_3.size : Int))) + (a0_4.size : Int))) + (a0_7.size : Int))) + (a0_8.size : Int))) + 1))
                      · rw [if_pos c44] at H
                        have c44b0 : ((t306.size : Int) == (wrap64 ((wrap64 ((wrap64 ((wrap64 ((wrap64 (40 + (a0_3.size : Int))) + (a0_4.size : Int))) + (a0_7.size : Int))) + (a0_8.size : Int))) + 1))) = true := beq_iff_eq.mpr c44
                        have c44b1 : ((t306.size : Int) != (wrap64 ((wrap64 ((wrap64 ((wrap64 ((wrap64 (40 + (a0_3.size : Int))) + (a0_4.size : Int))) + (a0_7.size : Int))) + (a0_8.size : Int))) + 1))) = false := bne_eq_false_iff_eq.mpr c44
                        clear c44
                        obtain rfl := Option.some.inj H
                        have hnb45 := NB305_299.out
                        have hnc45 := NB299_305.out
                        have hcz46_0 : wc.cell? ⟨gb305, 0, none⟩ = some (.int .i64 a0_0) := (blk_cell BK305.out 0).trans rfl
                        have hcz46_1 : wc.cell? ⟨gb305, 1, none⟩ = some (.int .i64 a0_1) := (blk_cell BK305.out 1).trans rfl
                        have hcz46_2 : wc.cell? ⟨gb305, 2, none⟩ = some (.int .i64 a0_2) := (blk_cell BK305.out 2).trans rfl
                        have hcz46_3 : wc.cell? ⟨gb305, 3, none⟩ = some (.string a0_3) := (blk_cell BK305.out 3).trans rfl
                        have hcz46_4 : wc.cell? ⟨gb305, 4, none⟩ = some (.string a0_4) := (blk_cell BK305.out 4).trans rfl
                        have hcz46_5 : wc.cell? ⟨gb305, 5, none⟩ = some (.string a0_5) := (blk_cell BK305.out 5).trans rfl
                        have hcz46_6 : wc.cell? ⟨gb305, 6, none⟩ = some (.int .i64 a0_6) := (blk_cell BK305.out 6).trans rfl
                        have hcz46_7 : wc.cell? ⟨gb305, 7, none⟩ = some (.string (a0_7 ++ (⟨#[120]⟩ : ByteArray))) := (blk_cell BK305.out 7).trans rfl
                        have hcz46_8 : wc.cell? ⟨gb305, 8, none⟩ = some (.string a0_8) := (blk_cell BK305.out 8).trans rfl
                        have hcz46_9 : wc.cell? ⟨gb305, 9, none⟩ = some (.bool a0_9) := (blk_cell BK305.out 9).trans rfl
                        have hfz46_0 := blk_frozen BK305.out 0
                        have hfz46_1 := blk_frozen BK305.out 1
                        have hfz46_2 := blk_frozen BK305.out 2
                        have hfz46_3 := blk_frozen BK305.out 3
                        have hfz46_4 := blk_frozen BK305.out 4
                        have hfz46_5 := blk_frozen BK305.out 5
                        have hfz46_6 := blk_frozen BK305.out 6
                        have hfz46_7 := blk_frozen BK305.out 7
                        have hfz46_8 := blk_frozen BK305.out 8
                        have hfz46_9 := blk_frozen BK305.out 9
                        go_wp2
                        go_ret
                        exact ⟨by first | rfl | (simp [errW_none, errW_some] <;> rfl) | (simp [*, errW_none, errW_some] <;> rfl), by repeat (first | (with_reducible first | exact HB.out | apply below_alloc | apply pw_below_drewN | apply below_drew1 | refine below_set ?_ GE299.out | refine below_set ?_ GE305.out) | exact HB.out)⟩
                      · rw [if_neg c44] at H
                        have c44b0 : ((t306.size : Int) == (wrap64 ((wrap64 ((wrap64 ((wrap64 ((wrap64 (40 + (a0_3.size : Int))) + (a0_4.size : Int))) + (a0_7.size : Int))) + (a0_8.size : Int))) + 1))) = false := beq_eq_false_iff_ne.mpr c44
                        have c44b1 : ((t306.size : Int) != (wrap64 ((wrap64 ((wrap64 ((wrap64 ((wrap64 (40 + (a0_3.size : Int))) + (a0_4.size : Int))) + (a0_7.size : Int))) + (a0_8.size : Int))) + 1))) = true := bne_iff_ne.mpr c44
                        by_cases c47 : (wrap64 ((wrap64 ((wrap64 ((wrap64 (40 + (a0_3.size : Int))) + (a0_4.size : Int))) + (a0_7.size : Int))) + (a0_8.size : Int))) = 512
                        · rw [if_pos c47] at H
                          have c47b0 : ((wrap64 ((wrap64 ((wrap64 ((wrap64 (40 + (a0_3.size : Int))) + (a0_4.size : Int))) + (a0_7.size : Int))) + (a0_8.size : Int))) == 512) = true := beq_iff_eq.mpr c47
                          have c47b1 : ((wrap64 ((wrap64 ((wrap64 ((wrap64 (40 + (a0_3.size : Int))) + (a0_4.size : Int))) + (a0_7.size : Int))) + (a0_8.size : Int))) != 512) = false := bne_eq_false_iff_eq.mpr c47
                          clear c47
                          obtain rfl := Option.some.inj H
                          have hnb48 := NB305_299.out
                          have hnc48 := NB299_305.out
                          have hcz49_0 : wc.cell? ⟨gb305, 0, none⟩ = some (.int .i64 a0_0) := (blk_cell BK305.out 0).trans rfl
                          have hcz49_1 : wc.cell? ⟨gb305, 1, none⟩ = some (.int .i64 a0_1) := (blk_cell BK305.out 1).trans rfl
                          have hcz49_2 : wc.cell? ⟨gb305, 2, none⟩ = some (.int .i64 a0_2) := (blk_cell BK305.out 2).trans rfl
                          have hcz49_3 : wc.cell? ⟨gb305, 3, none⟩ = some (.string a0_3) := (blk_cell BK305.out 3).trans rfl
                          have hcz49_4 : wc.cell? ⟨gb305, 4, none⟩ = some (.string a0_4) := (blk_cell BK305.out 4).trans rfl
                          have hcz49_5 : wc.cell? ⟨gb305, 5, none⟩ = some (.string a0_5) := (blk_cell BK305.out 5).trans rfl
                          have hcz49_6 : wc.cell? ⟨gb305, 6, none⟩ = some (.int .i64 a0_6) := (blk_cell BK305.out 6).trans rfl
                          have hcz49_7 : wc.cell? ⟨gb305, 7, none⟩ = some (.string (a0_7 ++ (⟨#[120]⟩ : ByteArray))) := (blk_cell BK305.out 7).trans rfl
                          have hcz49_8 : wc.cell? ⟨gb305, 8, none⟩ = some (.string a0_8) := (blk_cell BK305.out 8).trans rfl
                          have hcz49_9 : wc.cell? ⟨gb305, 9, none⟩ = some (.bool a0_9) := (blk_cell BK305.out 9).trans rfl
                          have hfz49_0 := blk_frozen BK305.out 0
                          have hfz49_1 := blk_frozen BK305.out 1
                          have hfz49_2 := blk_frozen BK305.out 2
                          have hfz49_3 := blk_frozen BK305.out 3
                          have hfz49_4 := blk_frozen BK305.out 4
                          have hfz49_5 := blk_frozen BK305.out 5
                          have hfz49_6 := blk_frozen BK305.out 6
                          have hfz49_7 := blk_frozen BK305.out 7
                          have hfz49_8 := blk_frozen BK305.out 8
                          have hfz49_9 := blk_frozen BK305.out 9
                          go_wp2
                          go_ret
                          exact ⟨by first | rfl | (simp [errW_none, errW_some] <;> rfl) | (simp [*, errW_none, errW_some] <;> rfl), by repeat (first | (with_reducible first | exact HB.out | apply below_alloc | apply pw_below_drewN | apply below_drew1 | refine below_set ?_ GE299.out | refine below_set ?_ GE305.out) | exact HB.out)⟩
                        · rw [if_neg c47] at H
                          exact absurd H (by simp)
                    · rw [if_neg c43] at H
                      have c43b0 : (t307 == 0) = false := beq_eq_false_iff_ne.mpr c43
                      have c43b1 : (t307 != 0) = true := bne_iff_ne.mpr c43
                      by_cases c50 : (wrap64 ((wrap64 ((wrap64 ((wrap64 (40 + (a0_3.size : Int))) + (a0_4.size : Int))) + (a0_7.size : Int))) + (a0_8.size : Int))) = 512
                      · rw [if_pos c50] at H
                        have c50b0 : ((wrap64 ((wrap64 ((wrap64 ((wrap64 (40 + (a0_3.size : Int))) + (a0_4.size : Int))) + (a0_7.size : Int))) + (a0_8.size : Int))) == 512) = true := beq_iff_eq.mpr c50
                        have c50b1 : ((wrap64 ((wrap64 ((wrap64 ((wrap64 (40 + (a0_3.size : Int))) + (a0_4.size : Int))) + (a0_7.size : Int))) + (a0_8.size : Int))) != 512) = false := bne_eq_false_iff_eq.mpr c50
                        clear c50
                        obtain rfl := Option.some.inj H
                        have hnb51 := NB305_299.out
                        have hnc51 := NB299_305.out
                        have hcz52_0 : wc.cell? ⟨gb305, 0, none⟩ = some (.int .i64 a0_0) := (blk_cell BK305.out 0).trans rfl
                        have hcz52_1 : wc.cell? ⟨gb305, 1, none⟩ = some (.int .i64 a0_1) := (blk_cell BK305.out 1).trans rfl
                        have hcz52_2 : wc.cell? ⟨gb305, 2, none⟩ = some (.int .i64 a0_2) := (blk_cell BK305.out 2).trans rfl
                        have hcz52_3 : wc.cell? ⟨gb305, 3, none⟩ = some (.string a0_3) := (blk_cell BK305.out 3).trans rfl
                        have hcz52_4 : wc.cell? ⟨gb305, 4, none⟩ = some (.string a0_4) := (blk_cell BK305.out 4).trans rfl
                        have hcz52_5 : wc.cell? ⟨gb305, 5, none⟩ = some (.string a0_5) := (blk_cell BK305.out 5).trans rfl
                        have hcz52_6 : wc.cell? ⟨gb305, 6, none⟩ = some (.int .i64 a0_6) := (blk_cell BK305.out 6).trans rfl
                        have hcz52_7 : wc.cell? ⟨gb305, 7, none⟩ = some (.string (a0_7 ++ (⟨#[120]⟩ : ByteArray))) := (blk_cell BK305.out 7).trans rfl
                        have hcz52_8 : wc.cell? ⟨gb305, 8, none⟩ = some (.string a0_8) := (blk_cell BK305.out 8).trans rfl
                        have hcz52_9 : wc.cell? ⟨gb305, 9, none⟩ = some (.bool a0_9) := (blk_cell BK305.out 9).trans rfl
                        have hfz52_0 := blk_frozen BK305.out 0
                        have hfz52_1 := blk_frozen BK305.out 1
                        have hfz52_2 := blk_frozen BK305.out 2
                        have hfz52_3 := blk_frozen BK305.out 3
                        have hfz52_4 := blk_frozen BK305.out 4
                        have hfz52_5 := blk_frozen BK305.out 5
                        have hfz52_6 := blk_frozen BK305.out 6
                        have hfz52_7 := blk_frozen BK305.out 7
                        have hfz52_8 := blk_frozen BK305.out 8
                        have hfz52_9 := blk_frozen BK305.out 9
                        go_wp2
                        go_ret
                        exact ⟨by first | rfl | (simp [errW_none, errW_some] <;> rfl) | (simp [*, errW_none, errW_some] <;> rfl), by repeat (first | (with_reducible first | exact HB.out | apply below_alloc | apply pw_below_drewN | apply below_drew1 | refine below_set ?_ GE299.out | refine below_set ?_ GE305.out) | exact HB.out)⟩
                      · rw [if_neg c50] at H
                        exact absurd H (by simp)
                  · rw [if_neg c42] at H
                    have c42b0 : decide ((wrap64 ((wrap64 ((wrap64 ((wrap64 (40 + (a0_3.size : Int))) + (a0_4.size : Int))) + (a0_7.size : Int))) + (a0_8.size : Int))) < 512) = false := decide_eq_false c42
                    clear c42
                    by_cases c53 : (wrap64 ((wrap64 ((wrap64 ((wrap64 (40 + (a0_3.size : Int))) + (a0_4.size : Int))) + (a0_7.size : Int))) + (a0_8.size : Int))) = 512
                    · rw [if_pos c53] at H
                      have c53b0 : ((wrap64 ((wrap64 ((wrap64 ((wrap64 (40 + (a0_3.size : Int))) + (a0_4.size : Int))) + (a0_7.size : Int))) + (a0_8.size : Int))) == 512) = true := beq_iff_eq.mpr c53
                      have c53b1 : ((wrap64 ((wrap64 ((wrap64 ((wrap64 (40 + (a0_3.size : Int))) + (a0_4.size : Int))) + (a0_7.size : Int))) + (a0_8.size : Int))) != 512) = false := bne_eq_false_iff_eq.mpr c53
                      clear c53
                      obtain rfl := Option.some.inj H
                      have hnb54 := NB305_299.out
                      have hnc54 := NB299_305.out
                      have hcz55_0 : wc.cell? ⟨gb305, 0, none⟩ = some (.int .i64 a0_0) := (blk_cell BK305.out 0).trans rfl
                      have hcz55_1 : wc.cell? ⟨gb305, 1, none⟩ = some (.int .i64 a0_1) := (blk_cell BK305.out 1).trans rfl
                      have hcz55_2 : wc.cell? ⟨gb305, 2, none⟩ = some (.int .i64 a0_2) := (blk_cell BK305.out 2).trans rfl
                      have hcz55_3 : wc.cell? ⟨gb305, 3, none⟩ = some (.string a0_3) := (blk_cell BK305.out 3).trans rfl
                      have hcz55_4 : wc.cell? ⟨gb305, 4, none⟩ = some (.string a0_4) := (blk_cell BK305.out 4).trans rfl
                      have hcz55_5 : wc.cell? ⟨gb305, 5, none⟩ = some (.string a0_5) := (blk_cell BK305.out 5).trans rfl
                      have hcz55_6 : wc.cell? ⟨gb305, 6, none⟩ = some (.int .i64 a0_6) := (blk_cell BK305.out 6).trans rfl
                      have hcz55_7 : wc.cell? ⟨gb305, 7, none⟩ = some (.string (a0_7 ++ (⟨#[120]⟩ : ByteArray))) := (blk_cell BK305.out 7).trans rfl
                      have hcz55_8 : wc.cell? ⟨gb305, 8, none⟩ = some (.string a0_8) := (blk_cell BK305.out 8).trans rfl
                      have hcz55_9 : wc.cell? ⟨gb305, 9, none⟩ = some (.bool a0_9) := (blk_cell BK305.out 9).trans rfl
                      have hfz55_0 := blk_frozen BK305.out 0
                      have hfz55_1 := blk_frozen BK305.out 1
                      have hfz55_2 := blk_frozen BK305.out 2
                      have hfz55_3 := blk_frozen BK305.out 3
                      have hfz55_4 := blk_frozen BK305.out 4
                      have hfz55_5 := blk_frozen BK305.out 5
                      have hfz55_6 := blk_frozen BK305.out 6
                      have hfz55_7 := blk_frozen BK305.out 7
                      have hfz55_8 := blk_frozen BK305.out 8
                      have hfz55_9 := blk_frozen BK305.out 9
                      go_wp2
                      go_ret
                      exact ⟨by first | rfl | (simp [errW_none, errW_some] <;> rfl) | (simp [*, errW_none, errW_some] <;> rfl), by repeat (first | (with_reducible first | exact HB.out | apply below_alloc | apply pw_below_drewN | apply below_drew1 | refine below_set ?_ GE299.out | refine below_set ?_ GE305.out) | exact HB.out)⟩
                    · rw [if_neg c53] at H
                      exact absurd H (by simp)
        · rw [if_neg c25] at H
          exact absurd H (by simp)

/-- THE ONE PURE STATEMENT of shardloglaw15_CmdLong. -/
def shardloglaw15_CmdLong.Pure : Prop := ∀ (a0_0 : Int) (a0_1 : Int) (a0_2 : Int) (a0_3 : ByteArray) (a0_4 : ByteArray) (a0_5 : ByteArray) (a0_6 : Int) (a0_7 : ByteArray) (a0_8 : ByteArray) (a0_9 : Bool), (Lit.int .i64 a0_0).wf = true → (Lit.int .i64 a0_1).wf = true → (Lit.int .i64 a0_2).wf = true → a0_3.size ≤ 140737488351232 → a0_4.size ≤ 140737488351232 → a0_5.size ≤ 140737488351232 → (Lit.int .i64 a0_6).wf = true → a0_7.size ≤ 140737488351232 → a0_8.size ≤ 140737488351232 → ∃ k, shardloglaw15_CmdLong.f k a0_0 a0_1 a0_2 a0_3 a0_4 a0_5 a0_6 a0_7 a0_8 a0_9 = some true
theorem shardloglaw15_CmdLong.walk (P : shardloglaw15_CmdLong.Pure) (a0_0 : Int) (a0_1 : Int) (a0_2 : Int) (a0_3 : ByteArray) (a0_4 : ByteArray) (a0_5 : ByteArray) (a0_6 : Int) (a0_7 : ByteArray) (a0_8 : ByteArray) (a0_9 : Bool) (w : World) (wf0_0 : (Lit.int .i64 a0_0).wf = true) (wf0_1 : (Lit.int .i64 a0_1).wf = true) (wf0_2 : (Lit.int .i64 a0_2).wf = true) (wf0_3 : a0_3.size ≤ 140737488351232) (wf0_4 : a0_4.size ≤ 140737488351232) (wf0_5 : a0_5.size ≤ 140737488351232) (wf0_6 : (Lit.int .i64 a0_6).wf = true) (wf0_7 : a0_7.size ≤ 140737488351232) (wf0_8 : a0_8.size ≤ 140737488351232) :
    Calls Try.prog 6 #[.agg #[.int .i64 a0_0, .int .i64 a0_1, .int .i64 a0_2, .string a0_3, .string a0_4, .string a0_5, .int .i64 a0_6, .string a0_7, .string a0_8, .bool a0_9]] w fun e w' => e = .returned (.bool true) ∧ Below w.heap.size w w' := by
  obtain ⟨k, h⟩ := P a0_0 a0_1 a0_2 a0_3 a0_4 a0_5 a0_6 a0_7 a0_8 a0_9 wf0_0 wf0_1 wf0_2 wf0_3 wf0_4 wf0_5 wf0_6 wf0_7 wf0_8
  refine (shardloglaw15_CmdLong.calls k a0_0 a0_1 a0_2 a0_3 a0_4 a0_5 a0_6 a0_7 a0_8 a0_9 true w  h).mono ?_
  rintro e w' ⟨rfl, hd⟩
  exact ⟨rfl, hd⟩

end Go.Proofs.Ytpneppnnhiijnaa.X
