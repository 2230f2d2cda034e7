-- written by a program of this session's, over the kit's print
import Derived.Test.YtpnbknhjnakehaaXx0
import Derived.Test.YtpnbknhjnakehaaXx1
import Derived.Test.YtpnbknhjnakehaaXx5
import Derived.Test.YtpnbknhjnakehaaXx7
import Derived.Test.YtpnbknhjnakehaaXx11
import Derived.Test.YtpnbknhjnakehaaXx12
import Derived.Test.YtpnbknhjnakehaaXx13
namespace Go.Proofs.Ytpnbknhjnakehaa.X
open Go.RowKit Go.Proofs.YtpnbknhjnakehaaW.PrintWords Go.Proofs.YtpnbknhjnakehaaW.PrintLast Go.Proofs.YtpnbknhjnakehaaW.PrintMore
attribute [local go_sem] max2_int min2_int max_two min_two max_three min_three max_four min_four gtr_str   -- for this text's walks alone
set_option linter.unusedVariables false
set_option linter.unusedSimpArgs false

attribute [local go_sem high] eqA23
/-! ### shardloglaw08_CellBytes: function 5 -/
mutual
def shardloglaw08_CellBytes.j0 : Nat → List Int → Bool → ByteArray → ByteArray → Int → ByteArray → Bool → Option (Bool)
  | 0, _, _, _, _, _, _, _ => none
  | k + 1, x1, x25, x328000, x328001, x328002, x328003, x328004 => if x25 = true then ((shardloglaw08_awake.f k).bind fun t330 => (some t330)) else ((shardlogref08_Right.f x328000 x328001 x328002 x328003 x328004).bind fun t331 => (if t331 = true then ((cell_Put.f x328000 x328001 x328002 x328003 x328004).bind fun t332 => ((some (([] : List Int) : List Int)).bind fun y335 => (if y335.length + t332.length < 140737488355328 then ((some (y335 ++ t332 : List Int)).bind fun y338 => (if y338.length + x1.length < 140737488355328 then ((cell_Cut.f k (y338 ++ x1)).bind fun bt344 => ((shardlogref08_Put.f k x328000 x328001 x328002 x328003 x328004).bind fun t354 => ((shardlogref01_Same.f t332 t354).bind fun t357 => (if t357 = true then (if bt344.2.2.2.2.2.2 = true then (if (!(bt344.1.toList == x328000.toList) || (!(bt344.2.1.toList == x328001.toList) || (!(bt344.2.2.1 == x328002) || (!(bt344.2.2.2.1.toList == x328003.toList) || (!(bt344.2.2.2.2.1 == x328004)))))) = true then (none) else ((shardlogref01_Same.f bt344.2.2.2.2.2.1 x1).bind fun t358 => (if t358 = true then (shardloglaw08_CellBytes.j1 k x1) else (none)))) else (none)) else (none))))) else (none))) else (none)))) else (shardloglaw08_CellBytes.j1 k x1)))
def shardloglaw08_CellBytes.j1 : Nat → List Int → Option (Bool)
  | 0, _ => none
  | k + 1, x1 => (cell_Cut.f k x1).bind fun bt359 => ((shardlogref08_Cut.f k x1 0).bind fun bt369 => (if bt369.2.2.2.2.2 = 0 then (if bt359.2.2.2.2.2.2 = true then (none) else (if (bt359.1.toList == ([] : List UInt8) && (bt359.2.1.toList == ([] : List UInt8) && (bt359.2.2.1 == 0 && (bt359.2.2.2.1.toList == ([] : List UInt8) && (!bt359.2.2.2.2.1))))) = true then (some ((bt359.2.2.2.2.2.1.length : Int) == 0)) else (none))) else (if bt359.2.2.2.2.2.2 = true then (if (bt359.1.toList == bt369.1.toList && (bt359.2.1.toList == bt369.2.1.toList && (bt359.2.2.1 == bt369.2.2.1 && (bt359.2.2.2.1.toList == bt369.2.2.2.1.toList && (bt359.2.2.2.2.1 == bt369.2.2.2.2.1))))) = true then (if 0 ≤ bt369.2.2.2.2.2 then (if bt369.2.2.2.2.2 ≤ (x1.length : Int) then ((shardlogref01_Same.f bt359.2.2.2.2.2.1 (x1.drop (bt369.2.2.2.2.2 : Int).toNat)).bind fun t380 => (some t380)) else (none)) else (none)) else (none)) else (none))))
end
def shardloglaw08_CellBytes.f (k : Nat) (a0_0 : ByteArray) (a0_1 : ByteArray) (a0_2 : Int) (a0_3 : ByteArray) (a0_4 : Bool) (l1 : List Int) : Option (Bool) := (shardloglaw08_awake.f k).bind fun t328 => (if t328 = true then (if (l1.length : Int) > 2000 then (shardloglaw08_CellBytes.j0 k l1 true a0_0 a0_1 a0_2 a0_3 a0_4) else ((shardloglaw08_small.f a0_0 a0_1 a0_2 a0_3 a0_4).bind fun t329 => (shardloglaw08_CellBytes.j0 k l1 (!t329) a0_0 a0_1 a0_2 a0_3 a0_4))) else (shardloglaw08_CellBytes.j0 k l1 true a0_0 a0_1 a0_2 a0_3 a0_4))
theorem shardloglaw08_CellBytes.mono_l : ∀ k, (∀ y0 y1 y2 y3 y4 y5 y6, LeO (shardloglaw08_CellBytes.j0 k y0 y1 y2 y3 y4 y5 y6) (shardloglaw08_CellBytes.j0 (k + 1) y0 y1 y2 y3 y4 y5 y6)) ∧ (∀ y0, LeO (shardloglaw08_CellBytes.j1 k y0) (shardloglaw08_CellBytes.j1 (k + 1) y0))
  | 0 => ⟨fun _ _ _ _ _ _ _ r h => by simp [shardloglaw08_CellBytes.j0] at h, fun _ r h => by simp [shardloglaw08_CellBytes.j1] at h⟩
  | k + 1 => by
    obtain ⟨ih0, ih1⟩ := shardloglaw08_CellBytes.mono_l k
    refine ⟨?_, ?_⟩
    · intro y0 y1 y2 y3 y4 y5 y6
      unfold shardloglaw08_CellBytes.j0
      repeat' first
      | (with_reducible exact ih0 _ _ _ _ _ _ _)
      | (with_reducible exact ih1 _)
      | (with_reducible exact cell_Cut.mono _ _)
      | (with_reducible exact shardloglaw08_awake.mono _)
      | (with_reducible exact shardlogref08_Cut.mono _ _ _)
      | (with_reducible exact shardlogref08_Put.mono _ _ _ _ _ _)
      | (with_reducible exact LeO.refl _)
      | (with_reducible exact LeO.none _)
      | (with_reducible refine LeO.ite ?_ ?_)
      | (with_reducible refine LeO.bind ?_ (fun _ => ?_))
      | exact ih0 _ _ _ _ _ _ _
      | exact ih1 _
      | exact cell_Cut.mono _ _
      | exact shardloglaw08_awake.mono _
      | exact shardlogref08_Cut.mono _ _ _
      | exact shardlogref08_Put.mono _ _ _ _ _ _
      | exact LeO.none _
      | refine LeO.ite ?_ ?_
      | refine LeO.bind ?_ (fun _ => ?_)
    · intro y0
      unfold shardloglaw08_CellBytes.j1
      repeat' first
      | (with_reducible exact ih0 _ _ _ _ _ _ _)
      | (with_reducible exact ih1 _)
      | (with_reducible exact cell_Cut.mono _ _)
      | (with_reducible exact shardloglaw08_awake.mono _)
      | (with_reducible exact shardlogref08_Cut.mono _ _ _)
      | (with_reducible exact shardlogref08_Put.mono _ _ _ _ _ _)
      | (with_reducible exact LeO.refl _)
      | (with_reducible exact LeO.none _)
      | (with_reducible refine LeO.ite ?_ ?_)
      | (with_reducible refine LeO.bind ?_ (fun _ => ?_))
      | exact ih0 _ _ _ _ _ _ _
      | exact ih1 _
      | exact cell_Cut.mono _ _
      | exact shardloglaw08_awake.mono _
      | exact shardlogref08_Cut.mono _ _ _
      | exact shardlogref08_Put.mono _ _ _ _ _ _
      | exact LeO.none _
      | refine LeO.ite ?_ ?_
      | refine LeO.bind ?_ (fun _ => ?_)
theorem shardloglaw08_CellBytes.mono : ∀ a0 a1 a2 a3 a4 a5 k, LeO (shardloglaw08_CellBytes.f k a0 a1 a2 a3 a4 a5) (shardloglaw08_CellBytes.f (k + 1) a0 a1 a2 a3 a4 a5) := by
  intro a0 a1 a2 a3 a4 a5 k
  obtain ⟨ih0, ih1⟩ := shardloglaw08_CellBytes.mono_l k
  unfold shardloglaw08_CellBytes.f
  repeat' first
      | (with_reducible exact ih0 _ _ _ _ _ _ _)
      | (with_reducible exact ih1 _)
      | (with_reducible exact cell_Cut.mono _ _)
      | (with_reducible exact shardloglaw08_awake.mono _)
      | (with_reducible exact shardlogref08_Cut.mono _ _ _)
      | (with_reducible exact shardlogref08_Put.mono _ _ _ _ _ _)
      | (with_reducible exact LeO.refl _)
      | (with_reducible exact LeO.none _)
      | (with_reducible refine LeO.ite ?_ ?_)
      | (with_reducible refine LeO.bind ?_ (fun _ => ?_))
      | exact ih0 _ _ _ _ _ _ _
      | exact ih1 _
      | exact cell_Cut.mono _ _
      | exact shardloglaw08_awake.mono _
      | exact shardlogref08_Cut.mono _ _ _
      | exact shardlogref08_Put.mono _ _ _ _ _ _
      | exact LeO.none _
      | refine LeO.ite ?_ ?_
      | refine LeO.bind ?_ (fun _ => ?_)
set_option maxHeartbeats 8000000 in
set_option maxRecDepth 100000 in
theorem shardloglaw08_CellBytes.calls (k : Nat) (a0_0 : ByteArray) (a0_1 : ByteArray) (a0_2 : Int) (a0_3 : ByteArray) (a0_4 : Bool) (A1 : Option Addr) (c1 : Nat) (l1 : List Int) (r : Bool) (w : World) (hr1 : Kd.C (Kd.int .u8) w A1 l1.length l1) (hc1 : l1.length ≤ c1) (h : shardloglaw08_CellBytes.f k a0_0 a0_1 a0_2 a0_3 a0_4 l1 = some r) :
    Calls Try.prog 5 #[.agg #[.string a0_0, .string a0_1, .int .i64 a0_2, .string a0_3, .bool a0_4], .slice A1 l1.length c1] w fun e w' => e = .returned (.bool r) ∧ Below w.heap.size w w' := by
  have hu23 := Try.underlying23
  have HR1 := Aside0.mk hr1
  have HC1 := Aside0.mk hc1
  clear hr1 hc1
  have HB := Aside0.mk (Below.refl w.heap.size w)
  have H : ((shardloglaw08_awake.f k).bind fun t328 => (if t328 = true then (if (l1.length : Int) > 2000 then (shardloglaw08_CellBytes.j0 k l1 true a0_0 a0_1 a0_2 a0_3 a0_4) else ((shardloglaw08_small.f a0_0 a0_1 a0_2 a0_3 a0_4).bind fun t329 => (shardloglaw08_CellBytes.j0 k l1 (!t329) a0_0 a0_1 a0_2 a0_3 a0_4))) else (shardloglaw08_CellBytes.j0 k l1 true a0_0 a0_1 a0_2 a0_3 a0_4))) = some r := h
  clear h
  have HC3 := Aside0.mk H
  clear H
  go_enter Try.func5, Try.ntmps5
  go_upto_region 1 with (first | ((with_reducible refine gate_dst (N := 2) rfl ?_); (try (refine gate_guard (by rfl) ?_; dsimp only)); refine box_event ?hg (N := 2) ?hd (cs := #[.string a0_0, .string a0_1, .int .i64 a0_2, .string a0_3, .bool a0_4]) (t := 23) ?hr ?_; (case hd => rfl); (case hg => rfl); (case hr => first | (go_simp; done) | (go_simp; rfl)); intro gb327 hg w4 hbox hb; have n0_ := Aside0.mk (below_step (by repeat (first | (with_reducible first | exact HB.out | apply below_alloc | apply pw_below_drewN | apply below_drew1) | exact HB.out)) hb); have n1_ := Aside0.mk (hbox); have n2_ := Aside0.mk ((by rw [hg]; exact (below_size (by repeat (first | (with_reducible first | exact HB.out | apply below_alloc | apply pw_below_drewN | apply below_drew1) | exact HB.out))) : w.heap.size ≤ gb327)); have n3_ := Aside0.mk ((by rw [hg]; exact (below_size (by repeat (first | (with_reducible first | exact HB.out | apply below_alloc | apply pw_below_drewN | apply below_drew1) | exact HB.out))) : w.heap.size ≤ gb327)); clear HB; have HB := n0_; have BK327 := n1_; have GW327 := n2_; have GE327 := n3_; clear n0_ n1_ n2_ n3_; clear hb hbox hg))
  (try simp only [Act.put, List.setIfInBounds_toArray, List.set_cons_zero, List.set_cons_succ])
  go_cut [25] (fun v25 wc => ∃ (kq : Nat) (x25_2 : Bool), v25 = .bool x25_2 ∧ Aside0 (shardloglaw08_CellBytes.j0 kq l1 x25_2 a0_0 a0_1 a0_2 a0_3 a0_4 = some r) ∧ Aside0 (kq ≤ k) ∧ Aside0 (wc.heap[gb327]? = some (.cells #[.string a0_0, .string a0_1, .int .i64 a0_2, .string a0_3, .bool a0_4] 23 (0, 0))) ∧ Aside0 (Below w.heap.size w wc))
  case first =>
    have H := HC3.out
    clear HC3
    replace H := Option.bind_eq_some_iff.mp H
    obtain ⟨t328, A50, H⟩ := H
    replace H : (if t328 = true then (if (l1.length : Int) > 2000 then (shardloglaw08_CellBytes.j0 k l1 true a0_0 a0_1 a0_2 a0_3 a0_4) else ((shardloglaw08_small.f a0_0 a0_1 a0_2 a0_3 a0_4).bind fun t329 => (shardloglaw08_CellBytes.j0 k l1 (!t329) a0_0 a0_1 a0_2 a0_3 a0_4))) else (shardloglaw08_CellBytes.j0 k l1 true a0_0 a0_1 a0_2 a0_3 a0_4)) = some r := H
    have A5 := Aside0.mk A50
    clear A50
    by_cases c6 : t328 = true
    · subst c6
      have H1 : (if (l1.length : Int) > 2000 then (shardloglaw08_CellBytes.j0 k l1 true a0_0 a0_1 a0_2 a0_3 a0_4) else ((shardloglaw08_small.f a0_0 a0_1 a0_2 a0_3 a0_4).bind fun t329 => (shardloglaw08_CellBytes.j0 k l1 (!t329) a0_0 a0_1 a0_2 a0_3 a0_4))) = some r := by rw [if_pos rfl] at H; exact H
      clear H
      have H := H1
      clear H1
      by_cases c7 : (l1.length : Int) > 2000
      · rw [if_pos c7] at H
        have c7b0 : decide (2000 < (l1.length : Int)) = true := decide_eq_true c7
        have c7b1 : decide (2000 < l1.length) = true := decide_eq_true (by omega)
        clear c7
        (first | rw [c7b0] | (simp only [i64_w, i32_w]; rw [c7b0]) | skip)
        have H' := Aside0.mk H
        clear H
        go_wp2_with (first | ((with_reducible refine gate_callee (f := 8) rfl ?_); refine goesL_ (some 14) rfl rfl Try.func8 (by kernel_rfl) rfl #[] rfl (by (try simp only [List.map_toArray, List.map_cons, List.map_nil]); first | done | rfl | (simp only [List.length_drop, List.length_take]; rfl)) ?_; (with_reducible refine (shardloglaw08_awake.calls k  true _ A5.out).mono ?_); rintro e w8 ⟨rfl, hb⟩; refine ⟨_, rfl, ?_⟩; have n0_ := Aside0.mk (blk_below (g := gb327) (o := .cells #[.string a0_0, .string a0_1, .int .i64 a0_2, .string a0_3, .bool a0_4] 23 (0, 0)) (by (with_reducible repeat (first | refine blk_drewN ?_ _ | refine blk_drew ?_ | refine blk_alloc ?_ _)); exact BK327.out) hb); have n1_ := Aside0.mk (below_step (by repeat (first | (with_reducible first | exact HB.out | apply below_alloc | apply pw_below_drewN | apply below_drew1 | refine below_set ?_ GE327.out) | exact HB.out)) hb); clear BK327; clear HB; have BK327 := n0_; have HB := n1_; clear n0_ n1_; (try clear hb); (try clear hb2); (try clear hk); (try clear hi)))
        go_meet
        case rel => exact ⟨_, (true), (by first | rfl | (simp; done) | (simp [*]; done) | (simp; exact (by decide : ∀ a_ b_ : Bool, (a_ == b_) = (!a_ != b_)) _ _)), H', ⟨by first | omega | exact Nat.le_refl _⟩, ⟨by (with_reducible repeat (first | refine blk_drewN ?_ _ | refine blk_drew ?_ | refine blk_alloc ?_ _)); exact BK327.out⟩, ⟨by repeat (first | (with_reducible first | exact HB.out | apply below_alloc | apply pw_below_drewN | apply below_drew1 | refine below_set ?_ GE327.out) | exact HB.out)⟩⟩
      · rw [if_neg c7] at H
        have c7b0 : decide (2000 < (l1.length : Int)) = false := decide_eq_false c7
        have c7b1 : decide (2000 < l1.length) = false := decide_eq_false (by omega)
        clear c7
        (first | rw [c7b0] | (simp only [i64_w, i32_w]; rw [c7b0]) | skip)
        replace H := Option.bind_eq_some_iff.mp H
        obtain ⟨t329, A90, H⟩ := H
        replace H : (shardloglaw08_CellBytes.j0 k l1 (!t329) a0_0 a0_1 a0_2 a0_3 a0_4) = some r := H
        have A9 := Aside0.mk A90
        clear A90
        have H' := Aside0.mk H
        clear H
        go_wp2_with (first | ((with_reducible refine gate_callee (f := 8) rfl ?_); refine goesL_ (some 14) rfl rfl Try.func8 (by kernel_rfl) rfl #[] rfl (by (try simp only [List.map_toArray, List.map_cons, List.map_nil]); first | done | rfl | (simp only [List.length_drop, List.length_take]; rfl)) ?_; (with_reducible refine (shardloglaw08_awake.calls k  true _ A5.out).mono ?_); rintro e w10 ⟨rfl, hb⟩; refine ⟨_, rfl, ?_⟩; have n0_ := Aside0.mk (blk_below (g := gb327) (o := .cells #[.string a0_0, .string a0_1, .int .i64 a0_2, .string a0_3, .bool a0_4] 23 (0, 0)) (by (with_reducible repeat (first | refine blk_drewN ?_ _ | refine blk_drew ?_ | refine blk_alloc ?_ _)); exact BK327.out) hb); have n1_ := Aside0.mk (below_step (by repeat (first | (with_reducible first | exact HB.out | apply below_alloc | apply pw_below_drewN | apply below_drew1 | refine below_set ?_ GE327.out) | exact HB.out)) hb); clear BK327; clear HB; have BK327 := n0_; have HB := n1_; clear n0_ n1_; (try clear hb); (try clear hb2); (try clear hk); (try clear hi); have hcz11_0 : w10.cell? ⟨gb327, 0, none⟩ = some (.string a0_0) := (blk_cell BK327.out 0).trans rfl; have hcz11_1 : w10.cell? ⟨gb327, 1, none⟩ = some (.string a0_1) := (blk_cell BK327.out 1).trans rfl; have hcz11_2 : w10.cell? ⟨gb327, 2, none⟩ = some (.int .i64 a0_2) := (blk_cell BK327.out 2).trans rfl; have hcz11_3 : w10.cell? ⟨gb327, 3, none⟩ = some (.string a0_3) := (blk_cell BK327.out 3).trans rfl; have hcz11_4 : w10.cell? ⟨gb327, 4, none⟩ = some (.bool a0_4) := (blk_cell BK327.out 4).trans rfl; have hfz11_0 := blk_frozen BK327.out 0; have hfz11_1 := blk_frozen BK327.out 1; have hfz11_2 := blk_frozen BK327.out 2; have hfz11_3 := blk_frozen BK327.out 3; have hfz11_4 := blk_frozen BK327.out 4) | (go_at_call 9; (with_reducible refine (shardloglaw08_small.calls a0_0 a0_1 a0_2 a0_3 a0_4 t329 _ A9.out).mono ?_); rintro e w12 ⟨rfl, hb⟩; have n0_ := Aside0.mk (blk_below (g := gb327) (o := .cells #[.string a0_0, .string a0_1, .int .i64 a0_2, .string a0_3, .bool a0_4] 23 (0, 0)) (by (with_reducible repeat (first | refine blk_drewN ?_ _ | refine blk_drew ?_ | refine blk_alloc ?_ _)); exact BK327.out) hb); have n1_ := Aside0.mk (below_step (by repeat (first | (with_reducible first | exact HB.out | apply below_alloc | apply pw_below_drewN | apply below_drew1 | refine below_set ?_ GE327.out) | exact HB.out)) hb); clear BK327; clear HB; have BK327 := n0_; have HB := n1_; clear n0_ n1_; (try clear hb); (try clear hb2); (try clear hk); (try clear hi)))
        go_meet
        case rel => exact ⟨_, (!t329), (by first | rfl | (simp; done) | (simp [*]; done) | (simp; exact (by decide : ∀ a_ b_ : Bool, (a_ == b_) = (!a_ != b_)) _ _)), H', ⟨by first | omega | exact Nat.le_refl _⟩, ⟨by (with_reducible repeat (first | refine blk_drewN ?_ _ | refine blk_drew ?_ | refine blk_alloc ?_ _)); exact BK327.out⟩, ⟨by repeat (first | (with_reducible first | exact HB.out | apply below_alloc | apply pw_below_drewN | apply below_drew1 | refine below_set ?_ GE327.out) | exact HB.out)⟩⟩
    · replace c6 := Bool.eq_false_iff.mpr c6
      subst c6
      have H1 : (shardloglaw08_CellBytes.j0 k l1 true a0_0 a0_1 a0_2 a0_3 a0_4) = some r := by rw [if_neg (show ¬ (false = true) by decide)] at H; exact H
      clear H
      have H := H1
      clear H1
      have H' := Aside0.mk H
      clear H
      go_wp2_with (first | ((with_reducible refine gate_callee (f := 8) rfl ?_); refine goesL_ (some 14) rfl rfl Try.func8 (by kernel_rfl) rfl #[] rfl (by (try simp only [List.map_toArray, List.map_cons, List.map_nil]); first | done | rfl | (simp only [List.length_drop, List.length_take]; rfl)) ?_; (with_reducible refine (shardloglaw08_awake.calls k  false _ A5.out).mono ?_); rintro e w13 ⟨rfl, hb⟩; refine ⟨_, rfl, ?_⟩; have n0_ := Aside0.mk (blk_below (g := gb327) (o := .cells #[.string a0_0, .string a0_1, .int .i64 a0_2, .string a0_3, .bool a0_4] 23 (0, 0)) (by (with_reducible repeat (first | refine blk_drewN ?_ _ | refine blk_drew ?_ | refine blk_alloc ?_ _)); exact BK327.out) hb); have n1_ := Aside0.mk (below_step (by repeat (first | (with_reducible first | exact HB.out | apply below_alloc | apply pw_below_drewN | apply below_drew1 | refine below_set ?_ GE327.out) | exact HB.out)) hb); clear BK327; clear HB; have BK327 := n0_; have HB := n1_; clear n0_ n1_; (try clear hb); (try clear hb2); (try clear hk); (try clear hi)))
      go_meet
      case rel => exact ⟨_, (true), (by first | rfl | (simp; done) | (simp [*]; done) | (simp; exact (by decide : ∀ a_ b_ : Bool, (a_ == b_) = (!a_ != b_)) _ _)), H', ⟨by first | omega | exact Nat.le_refl _⟩, ⟨by (with_reducible repeat (first | refine blk_drewN ?_ _ | refine blk_drew ?_ | refine blk_alloc ?_ _)); exact BK327.out⟩, ⟨by repeat (first | (with_reducible first | exact HB.out | apply below_alloc | apply pw_below_drewN | apply below_drew1 | refine below_set ?_ GE327.out) | exact HB.out)⟩⟩
  case rest =>
    clear HC3
    try clear c1
    try clear p2
    try clear c5
    try clear c6
    try clear c7
    try clear c7b0
    try clear c7b1
    try clear c8
    try clear hcz11_0
    try clear hcz11_1
    try clear hcz11_2
    try clear hcz11_3
    try clear hcz11_4
    try clear hfz11_0
    try clear hfz11_1
    try clear hfz11_2
    try clear hfz11_3
    try clear hfz11_4
    obtain ⟨kq, x25_2, rfl, HA, HJ2, BK327, HB⟩ := hcut
    cases kq with
    | zero => exact absurd HA.out (by simp [shardloglaw08_CellBytes.j0])
    | succ kj2 =>
      have H := HA.out
      clear HA
      simp only [shardloglaw08_CellBytes.j0] at H
      by_cases c14 : x25_2 = true
      · subst c14
        have H1 : ((shardloglaw08_awake.f kj2).bind fun t330 => (some t330)) = some r := by rw [if_pos rfl] at H; exact H
        clear H
        have H := H1
        clear H1
        replace H := Option.bind_eq_some_iff.mp H
        obtain ⟨t330, A150, H⟩ := H
        replace H : (some t330) = some r := H
        have A15 := Aside0.mk A150
        clear A150
        obtain rfl := Option.some.inj H
        go_wp2_with (first | ((with_reducible refine gate_callee (f := 8) rfl ?_); refine goesL_ (some 26) rfl rfl Try.func8 (by kernel_rfl) rfl #[] rfl (by (try simp only [List.map_toArray, List.map_cons, List.map_nil]); first | done | rfl | (simp only [List.length_drop, List.length_take]; rfl)) ?_; (with_reducible refine (shardloglaw08_awake.calls kj2  t330 _ A15.out).mono ?_); rintro e w16 ⟨rfl, hb⟩; refine ⟨_, rfl, ?_⟩; have n0_ := Aside0.mk (blk_below (g := gb327) (o := .cells #[.string a0_0, .string a0_1, .int .i64 a0_2, .string a0_3, .bool a0_4] 23 (0, 0)) (by (with_reducible repeat (first | refine blk_drewN ?_ _ | refine blk_drew ?_ | refine blk_alloc ?_ _)); exact BK327.out) hb); have n1_ := Aside0.mk (below_step (by repeat (first | (with_reducible first | exact HB.out | apply below_alloc | apply pw_below_drewN | apply below_drew1 | refine below_set ?_ GE327.out) | exact HB.out)) hb); clear BK327; clear HB; have BK327 := n0_; have HB := n1_; clear n0_ n1_; (try clear hb); (try clear hb2); (try clear hk); (try clear hi)))
        go_ret
        exact ⟨by first | rfl | (simp [errW_none, errW_some] <;> rfl) | (simp [*, errW_none, errW_some] <;> rfl), by repeat (first | (with_reducible first | exact HB.out | apply below_alloc | apply pw_below_drewN | apply below_drew1 | refine below_set ?_ GE327.out) | exact HB.out)⟩
      · replace c14 := Bool.eq_false_iff.mpr c14
        subst c14
        have H1 : ((shardlogref08_Right.f a0_0 a0_1 a0_2 a0_3 a0_4).bind fun t331 => (if t331 = true then ((cell_Put.f a0_0 a0_1 a0_2 a0_3 a0_4).bind fun t332 => ((some (([] : List Int) : List Int)).bind fun y335 => (if y335.length + t332.length < 140737488355328 then ((some (y335 ++ t332 : List Int)).bind fun y338 => (if y338.length + l1.length < 140737488355328 then ((cell_Cut.f kj2 (y338 ++ l1)).bind fun bt344 => ((shardlogref08_Put.f kj2 a0_0 a0_1 a0_2 a0_3 a0_4).bind fun t354 => ((shardlogref01_Same.f t332 t354).bind fun t357 => (if t357 = true then (if bt344.2.2.2.2.2.2 = true then (if (!(bt344.1.toList == a0_0.toList) || (!(bt344.2.1.toList == a0_1.toList) || (!(bt344.2.2.1 == a0_2) || (!(bt344.2.2.2.1.toList == a0_3.toList) || (!(bt344.2.2.2.2.1 == a0_4)))))) = true then (none) else ((shardlogref01_Same.f bt344.2.2.2.2.2.1 l1).bind fun t358 => (if t358 = true then (shardloglaw08_CellBytes.j1 kj2 l1) else (none)))) else (none)) else (none))))) else (none))) else (none)))) else (shardloglaw08_CellBytes.j1 kj2 l1))) = some r := by rw [if_neg (show ¬ (false = true) by decide)] at H; exact H
        clear H
        have H := H1
        clear H1
        replace H := Option.bind_eq_some_iff.mp H
        obtain ⟨t331, A170, H⟩ := H
        replace H : (if t331 = true then ((cell_Put.f a0_0 a0_1 a0_2 a0_3 a0_4).bind fun t332 => ((some (([] : List Int) : List Int)).bind fun y335 => (if y335.length + t332.length < 140737488355328 then ((some (y335 ++ t332 : List Int)).bind fun y338 => (if y338.length + l1.length < 140737488355328 then ((cell_Cut.f kj2 (y338 ++ l1)).bind fun bt344 => ((shardlogref08_Put.f kj2 a0_0 a0_1 a0_2 a0_3 a0_4).bind fun t354 => ((shardlogref01_Same.f t332 t354).bind fun t357 => (if t357 = true then (if bt344.2.2.2.2.2.2 = true then (if (!(bt344.1.toList == a0_0.toList) || (!(bt344.2.1.toList == a0_1.toList) || (!(bt344.2.2.1 == a0_2) || (!(bt344.2.2.2.1.toList == a0_3.toList) || (!(bt344.2.2.2.2.1 == a0_4)))))) = true then (none) else ((shardlogref01_Same.f bt344.2.2.2.2.2.1 l1).bind fun t358 => (if t358 = true then (shardloglaw08_CellBytes.j1 kj2 l1) else (none)))) else (none)) else (none))))) else (none))) else (none)))) else (shardloglaw08_CellBytes.j1 kj2 l1)) = some r := H
        have A17 := Aside0.mk A170
        clear A170
        have HC18 := Aside0.mk H
        clear H
        have hcz19_0 : wc.cell? ⟨gb327, 0, none⟩ = some (.string a0_0) := (blk_cell BK327.out 0).trans rfl
        have hcz19_1 : wc.cell? ⟨gb327, 1, none⟩ = some (.string a0_1) := (blk_cell BK327.out 1).trans rfl
        have hcz19_2 : wc.cell? ⟨gb327, 2, none⟩ = some (.int .i64 a0_2) := (blk_cell BK327.out 2).trans rfl
        have hcz19_3 : wc.cell? ⟨gb327, 3, none⟩ = some (.string a0_3) := (blk_cell BK327.out 3).trans rfl
        have hcz19_4 : wc.cell? ⟨gb327, 4, none⟩ = some (.bool a0_4) := (blk_cell BK327.out 4).trans rfl
        have hfz19_0 := blk_frozen BK327.out 0
        have hfz19_1 := blk_frozen BK327.out 1
        have hfz19_2 := blk_frozen BK327.out 2
        have hfz19_3 := blk_frozen BK327.out 3
        have hfz19_4 := blk_frozen BK327.out 4
        go_upto_if 28 with (first | ((with_reducible refine gate_callee (f := 11) rfl ?_); refine goesL_ (some 28) rfl rfl Try.func11 (by kernel_rfl) rfl #[.agg #[.string a0_0, .string a0_1, .int .i64 a0_2, .string a0_3, .bool a0_4]] rfl (by (try simp only [List.map_toArray, List.map_cons, List.map_nil]); first | done | rfl | (simp only [List.length_drop, List.length_take]; rfl)) ?_; (with_reducible refine (shardlogref08_Right.calls a0_0 a0_1 a0_2 a0_3 a0_4 t331 _ A17.out).mono ?_); rintro e w20 ⟨rfl, hb⟩; refine ⟨_, rfl, ?_⟩; have n0_ := Aside0.mk (blk_below (g := gb327) (o := .cells #[.string a0_0, .string a0_1, .int .i64 a0_2, .string a0_3, .bool a0_4] 23 (0, 0)) (by (with_reducible repeat (first | refine blk_drewN ?_ _ | refine blk_drew ?_ | refine blk_alloc ?_ _)); exact BK327.out) hb); have n1_ := Aside0.mk (below_step (by repeat (first | (with_reducible first | exact HB.out | apply below_alloc | apply pw_below_drewN | apply below_drew1 | refine below_set ?_ GE327.out) | exact HB.out)) hb); clear BK327; clear HB; have BK327 := n0_; have HB := n1_; clear n0_ n1_; (try clear hb); (try clear hb2); (try clear hk); (try clear hi)))
        (try simp only [Act.put, List.setIfInBounds_toArray, List.set_cons_zero, List.set_cons_succ])
        go_cut [] (fun wc => ∃ (kq : Nat), Aside0 (shardloglaw08_CellBytes.j1 kq l1 = some r) ∧ Aside0 (kq ≤ kj2) ∧ Aside0 (wc.heap[gb327]? = some (.cells #[.string a0_0, .string a0_1, .int .i64 a0_2, .string a0_3, .bool a0_4] 23 (0, 0))) ∧ Aside0 (Below w.heap.size w wc))
        case first =>
          have H := HC18.out
          clear HC18
          by_cases c21 : t331 = true
          · subst c21
            have H1 : ((cell_Put.f a0_0 a0_1 a0_2 a0_3 a0_4).bind fun t332 => ((some (([] : List Int) : List Int)).bind fun y335 => (if y335.length + t332.length < 140737488355328 then ((some (y335 ++ t332 : List Int)).bind fun y338 => (if y338.length + l1.length < 140737488355328 then ((cell_Cut.f kj2 (y338 ++ l1)).bind fun bt344 => ((shardlogref08_Put.f kj2 a0_0 a0_1 a0_2 a0_3 a0_4).bind fun t354 => ((shardlogref01_Same.f t332 t354).bind fun t357 => (if t357 = true then (if bt344.2.2.2.2.2.2 = true then (if (!(bt344.1.toList == a0_0.toList) || (!(bt344.2.1.toList == a0_1.toList) || (!(bt344.2.2.1 == a0_2) || (!(bt344.2.2.2.1.toList == a0_3.toList) || (!(bt344.2.2.2.2.1 == a0_4)))))) = true then (none) else ((shardlogref01_Same.f bt344.2.2.2.2.2.1 l1).bind fun t358 => (if t358 = true then (shardloglaw08_CellBytes.j1 kj2 l1) else (none)))) else (none)) else (none))))) else (none))) else (none)))) = some r := by rw [if_pos rfl] at H; exact H
            clear H
            have H := H1
            clear H1
            replace H := Option.bind_eq_some_iff.mp H
            obtain ⟨t332, A220, H⟩ := H
            replace H : ((some (([] : List Int) : List Int)).bind fun y335 => (if y335.length + t332.length < 140737488355328 then ((some (y335 ++ t332 : List Int)).bind fun y338 => (if y338.length + l1.length < 140737488355328 then ((cell_Cut.f kj2 (y338 ++ l1)).bind fun bt344 => ((shardlogref08_Put.f kj2 a0_0 a0_1 a0_2 a0_3 a0_4).bind fun t354 => ((shardlogref01_Same.f t332 t354).bind fun t357 => (if t357 = true then (if bt344.2.2.2.2.2.2 = true then (if (!(bt344.1.toList == a0_0.toList) || (!(bt344.2.1.toList == a0_1.toList) || (!(bt344.2.2.1 == a0_2) || (!(bt344.2.2.2.1.toList == a0_3.toList) || (!(bt344.2.2.2.2.1 == a0_4)))))) = true then (none) else ((shardlogref01_Same.f bt344.2.2.2.2.2.1 l1).bind fun t358 => (if t358 = true then (shardloglaw08_CellBytes.j1 kj2 l1) else (none)))) else (none)) else (none))))) else (none))) else (none))) = some r := H
            have A22 := Aside0.mk A220
            clear A220
            obtain ⟨y335, hy335⟩ : ∃ y_ : List Int, y_ = (([] : List Int)) := ⟨_, rfl⟩
            replace H : (if y335.length + t332.length < 140737488355328 then ((some (y335 ++ t332 : List Int)).bind fun y338 => (if y338.length + l1.length < 140737488355328 then ((cell_Cut.f kj2 (y338 ++ l1)).bind fun bt344 => ((shardlogref08_Put.f kj2 a0_0 a0_1 a0_2 a0_3 a0_4).bind fun t354 => ((shardlogref01_Same.f t332 t354).bind fun t357 => (if t357 = true then (if bt344.2.2.2.2.2.2 = true then (if (!(bt344.1.toList == a0_0.toList) || (!(bt344.2.1.toList == a0_1.toList) || (!(bt344.2.2.1 == a0_2) || (!(bt344.2.2.2.1.toList == a0_3.toList) || (!(bt344.2.2.2.2.1 == a0_4)))))) = true then (none) else ((shardlogref01_Same.f bt344.2.2.2.2.2.1 l1).bind fun t358 => (if t358 = true then (shardloglaw08_CellBytes.j1 kj2 l1) else (none)))) else (none)) else (none))))) else (none))) else (none)) = some r := by first | (rw [hy335]; with_reducible exact H) | (have H2_ := (Option.bind_some _ _).symm.trans H; rw [hy335]; with_reducible exact H2_) | (have H2_ := (Option.bind_some _ _).symm.trans H; with_reducible exact H2_) | with_reducible exact H | (rw [hy335]; exact H) | exact H
            have Ny335 := Aside0.mk hy335
            clear hy335
            by_cases c23 : y335.length + t332.length < 140737488355328
            · rw [if_pos c23] at H
              have LMc23 := Aside0.mk c23
              clear c23
              obtain ⟨y338, hy338⟩ : ∃ y_ : List Int, y_ = (y335 ++ t332) := ⟨_, rfl⟩
              replace H : (if y338.length + l1.length < 140737488355328 then ((cell_Cut.f kj2 (y338 ++ l1)).bind fun bt344 => ((shardlogref08_Put.f kj2 a0_0 a0_1 a0_2 a0_3 a0_4).bind fun t354 => ((shardlogref01_Same.f t332 t354).bind fun t357 => (if t357 = true then (if bt344.2.2.2.2.2.2 = true then (if (!(bt344.1.toList == a0_0.toList) || (!(bt344.2.1.toList == a0_1.toList) || (!(bt344.2.2.1 == a0_2) || (!(bt344.2.2.2.1.toList == a0_3.toList) || (!(bt344.2.2.2.2.1 == a0_4)))))) = true then (none) else ((shardlogref01_Same.f bt344.2.2.2.2.2.1 l1).bind fun t358 => (if t358 = true then (shardloglaw08_CellBytes.j1 kj2 l1) else (none)))) else (none)) else (none))))) else (none)) = some r := by first | (rw [hy338]; with_reducible exact H) | (have H2_ := (Option.bind_some _ _).symm.trans H; rw [hy338]; with_reducible exact H2_) | (have H2_ := (Option.bind_some _ _).symm.trans H; with_reducible exact H2_) | with_reducible exact H | (rw [hy338]; exact H) | exact H
              have Ny338 := Aside0.mk hy338
              clear hy338
              by_cases c24 : y338.length + l1.length < 140737488355328
              · rw [if_pos c24] at H
                have LMc24 := Aside0.mk c24
                clear c24
                obtain ⟨y341, hy341⟩ : ∃ y_ : List Int, y_ = (y338 ++ l1) := ⟨_, rfl⟩
                replace H : ((cell_Cut.f kj2 y341).bind fun bt344 => ((shardlogref08_Put.f kj2 a0_0 a0_1 a0_2 a0_3 a0_4).bind fun t354 => ((shardlogref01_Same.f t332 t354).bind fun t357 => (if t357 = true then (if bt344.2.2.2.2.2.2 = true then (if (!(bt344.1.toList == a0_0.toList) || (!(bt344.2.1.toList == a0_1.toList) || (!(bt344.2.2.1 == a0_2) || (!(bt344.2.2.2.1.toList == a0_3.toList) || (!(bt344.2.2.2.2.1 == a0_4)))))) = true then (none) else ((shardlogref01_Same.f bt344.2.2.2.2.2.1 l1).bind fun t358 => (if t358 = true then (shardloglaw08_CellBytes.j1 kj2 l1) else (none)))) else (none)) else (none))))) = some r := by first | (rw [hy341]; with_reducible exact H) | (have H2_ := (Option.bind_some _ _).symm.trans H; rw [hy341]; with_reducible exact H2_) | (have H2_ := (Option.bind_some _ _).symm.trans H; with_reducible exact H2_) | with_reducible exact H | (rw [hy341]; exact H) | exact H
                have Ny341 := Aside0.mk hy341
                clear hy341
                replace H := Option.bind_eq_some_iff.mp H
                obtain ⟨⟨t344, t345, t346, t347, t348, t349, t352⟩, A250, H⟩ := H
                replace H : ((shardlogref08_Put.f kj2 a0_0 a0_1 a0_2 a0_3 a0_4).bind fun t354 => ((shardlogref01_Same.f t332 t354).bind fun t357 => (if t357 = true then (if t352 = true then (if (!(t344.toList == a0_0.toList) || (!(t345.toList == a0_1.toList) || (!(t346 == a0_2) || (!(t347.toList == a0_3.toList) || (!(t348 == a0_4)))))) = true then (none) else ((shardlogref01_Same.f t349 l1).bind fun t358 => (if t358 = true then (shardloglaw08_CellBytes.j1 kj2 l1) else (none)))) else (none)) else (none)))) = some r := H
                have A25 := Aside0.mk A250
                clear A250
                replace H := Option.bind_eq_some_iff.mp H
                obtain ⟨t354, A260, H⟩ := H
                replace H : ((shardlogref01_Same.f t332 t354).bind fun t357 => (if t357 = true then (if t352 = true then (if (!(t344.toList == a0_0.toList) || (!(t345.toList == a0_1.toList) || (!(t346 == a0_2) || (!(t347.toList == a0_3.toList) || (!(t348 == a0_4)))))) = true then (none) else ((shardlogref01_Same.f t349 l1).bind fun t358 => (if t358 = true then (shardloglaw08_CellBytes.j1 kj2 l1) else (none)))) else (none)) else (none))) = some r := H
                have A26 := Aside0.mk A260
                clear A260
                replace H := Option.bind_eq_some_iff.mp H
                obtain ⟨t357, A270, H⟩ := H
                replace H : (if t357 = true then (if t352 = true then (if (!(t344.toList == a0_0.toList) || (!(t345.toList == a0_1.toList) || (!(t346 == a0_2) || (!(t347.toList == a0_3.toList) || (!(t348 == a0_4)))))) = true then (none) else ((shardlogref01_Same.f t349 l1).bind fun t358 => (if t358 = true then (shardloglaw08_CellBytes.j1 kj2 l1) else (none)))) else (none)) else (none)) = some r := H
                have A27 := Aside0.mk A270
                clear A270
                by_cases c28 : t357 = true
                · subst c28
                  have H1 : (if t352 = true then (if (!(t344.toList == a0_0.toList) || (!(t345.toList == a0_1.toList) || (!(t346 == a0_2) || (!(t347.toList == a0_3.toList) || (!(t348 == a0_4)))))) = true then (none) else ((shardlogref01_Same.f t349 l1).bind fun t358 => (if t358 = true then (shardloglaw08_CellBytes.j1 kj2 l1) else (none)))) else (none)) = some r := by rw [if_pos rfl] at H; exact H
                  clear H
                  have H := H1
                  clear H1
                  by_cases c29 : t352 = true
                  · subst c29
                    have H1 : (if (!(t344.toList == a0_0.toList) || (!(t345.toList == a0_1.toList) || (!(t346 == a0_2) || (!(t347.toList == a0_3.toList) || (!(t348 == a0_4)))))) = true then (none) else ((shardlogref01_Same.f t349 l1).bind fun t358 => (if t358 = true then (shardloglaw08_CellBytes.j1 kj2 l1) else (none)))) = some r := by rw [if_pos rfl] at H; exact H
                    clear H
                    have H := H1
                    clear H1
                    by_cases c30 : (!(t344.toList == a0_0.toList) || (!(t345.toList == a0_1.toList) || (!(t346 == a0_2) || (!(t347.toList == a0_3.toList) || (!(t348 == a0_4)))))) = true
                    · rw [if_pos c30] at H
                      exact absurd H (by simp)
                    · rw [if_neg c30] at H
                      have c30b0 : (!(t344.toList == a0_0.toList) || (!(t345.toList == a0_1.toList) || (!(t346 == a0_2) || (!(t347.toList == a0_3.toList) || (!(t348 == a0_4)))))) = false := by simpa using c30
                      clear c30
                      (first | rw [c30b0] | (simp only [i64_w, i32_w]; rw [c30b0]) | skip)
                      replace H := Option.bind_eq_some_iff.mp H
                      obtain ⟨t358, A310, H⟩ := H
                      replace H : (if t358 = true then (shardloglaw08_CellBytes.j1 kj2 l1) else (none)) = some r := H
                      have A31 := Aside0.mk A310
                      clear A310
                      by_cases c32 : t358 = true
                      · subst c32
                        have H1 : (shardloglaw08_CellBytes.j1 kj2 l1) = some r := by rw [if_pos rfl] at H; exact H
                        clear H
                        have H := H1
                        clear H1
                        have H' := Aside0.mk H
                        clear H
                        have hcz33_0 : w20.cell? ⟨gb327, 0, none⟩ = some (.string a0_0) := (blk_cell BK327.out 0).trans rfl
                        have hcz33_1 : w20.cell? ⟨gb327, 1, none⟩ = some (.string a0_1) := (blk_cell BK327.out 1).trans rfl
                        have hcz33_2 : w20.cell? ⟨gb327, 2, none⟩ = some (.int .i64 a0_2) := (blk_cell BK327.out 2).trans rfl
                        have hcz33_3 : w20.cell? ⟨gb327, 3, none⟩ = some (.string a0_3) := (blk_cell BK327.out 3).trans rfl
                        have hcz33_4 : w20.cell? ⟨gb327, 4, none⟩ = some (.bool a0_4) := (blk_cell BK327.out 4).trans rfl
                        have hfz33_0 := blk_frozen BK327.out 0
                        have hfz33_1 := blk_frozen BK327.out 1
                        have hfz33_2 := blk_frozen BK327.out 2
                        have hfz33_3 := blk_frozen BK327.out 3
                        have hfz33_4 := blk_frozen BK327.out 4
                        go_wp2_with (first | ((with_reducible refine gate_callee (f := 14) rfl ?_); refine goesL_ (some 30) rfl rfl Try.func14 (by kernel_rfl) rfl #[.agg #[.string a0_0, .string a0_1, .int .i64 a0_2, .string a0_3, .bool a0_4]] rfl (by (try simp only [List.map_toArray, List.map_cons, List.map_nil]); first | done | rfl | (simp only [List.length_drop, List.length_take]; rfl)) ?_; (with_reducible refine (cell_Put.calls a0_0 a0_1 a0_2 a0_3 a0_4 t332 _ A22.out).mono ?_); rintro e w34 ⟨v333, rfl, ho0, hb⟩; refine ⟨_, rfl, ?_⟩; have n0_ := Aside0.mk (Kd.R_lower ho0 (below_size (by repeat (first | (with_reducible first | exact HB.out | apply below_alloc | apply pw_below_drewN | apply below_drew1 | refine below_set ?_ GE327.out) | exact HB.out)))); have n1_ := Aside0.mk (blk_below (g := gb327) (o := .cells #[.string a0_0, .string a0_1, .int .i64 a0_2, .string a0_3, .bool a0_4] 23 (0, 0)) (by (with_reducible repeat (first | refine blk_drewN ?_ _ | refine blk_drew ?_ | refine blk_alloc ?_ _)); exact BK327.out) hb); have n2_ := Aside0.mk (below_step (by repeat (first | (with_reducible first | exact HB.out | apply below_alloc | apply pw_below_drewN | apply below_drew1 | refine below_set ?_ GE327.out) | exact HB.out)) hb); clear BK327; clear HB; have HO334 := n0_; have BK327 := n1_; have HB := n2_; clear n0_ n1_ n2_; (try clear hb); (try clear hb2); (try clear hk); (try clear hi); (try clear ho0)) | ((with_reducible refine gate_dst (N := 32) rfl ?_); (try (refine gate_guard (by rfl) ?_; dsimp only)); refine Kd.R_lit (Kd.int .u8) _ 5 ?hg (N := 32) ?hd (xs := ([] : List Int)) (inner := []) (ok := fun _ => True) (okp := fun _ => True) ?hr ?hp (fun _ hk => hk) trivial (Below.refl _ _) (Nat.le_refl _) (by simp) ?_; (case hd => rfl); (case hg => rfl); (case hr => first | (go_simp; done) | (go_simp; rfl)); (case hp => exact (Reps.none _ _)); intro v336 w35 ho36 hb hg_ hnew_; clear hg_ hnew_; (first | rw [← Ny335.out] at ho36 | (simp only [Int.reduceToNat] at ho36; rw [← Ny335.out] at ho36)); have n0_ := Aside0.mk (Kd.R_elder' (by (with_reducible repeat (first | apply Kd.R_alloc | apply Kd.R_drewN | apply Kd.R_drew)); exact HO334.out) (by first | exact Kd.R_base ho36 | exact Kd.S_base ho36 | exact Kd.R_base ho36 | exact Kd.V_base ho36) hb); have n1_ := Aside0.mk (Kd.R_lower (Kd.R_new' ho36 (Kd.R_lt (by (with_reducible repeat (first | apply Kd.R_alloc | apply Kd.R_drewN | apply Kd.R_drew)); exact HO334.out))) (below_size (by repeat (first | (with_reducible first | exact HB.out | apply below_alloc | apply pw_below_drewN | apply below_drew1 | refine below_set ?_ GE327.out) | exact HB.out)))); have n2_ := Aside0.mk (blk_below (g := gb327) (o := .cells #[.string a0_0, .string a0_1, .int .i64 a0_2, .string a0_3, .bool a0_4] 23 (0, 0)) (by (with_reducible repeat (first | refine blk_drewN ?_ _ | refine blk_drew ?_ | refine blk_alloc ?_ _)); exact BK327.out) hb); have n3_ := Aside0.mk (below_step (by repeat (first | (with_reducible first | exact HB.out | apply below_alloc | apply pw_below_drewN | apply below_drew1 | refine below_set ?_ GE327.out) | exact HB.out)) hb); clear HO334; clear BK327; clear HB; have HO334 := n0_; have HO337 := n1_; have BK327 := n2_; have HB := n3_; clear n0_ n1_ n2_ n3_; clear hb ho36; obtain ⟨Ao38, co38, eo38⟩ := Kd.R_slice HO334.out; subst eo38) | ((with_reducible refine gate_builtin (b := .append) (xs := #[.tmp 32, .tmp 33]) rfl ?_); (try (refine gate_guard (by rfl) ?_; dsimp only)); at_builtin; refine Kd.R_append_rows (Kd.int .u8) (w0 := w) w.heap.size rfl (.tmp 32) (.tmp 33) 29 5 (.int .u8 0) 1 rfl Try.underlying29 info5 rfl (by decide) (by omega) v336 y335 t332 _ _ _ (fun k_ => some k_ ≠ (.slice Ao38 t332.length co38 : Value).ownBlock) (fun _ => False) rfl rfl ?aO ?aR (fun _ _ h => h) (fun _ h => h.elim) ?aF ?aB ?aS ?aL ?_; (case aR => repeat (first | exact (Kd.R_reads' HO334.out).2.2 | (with_reducible refine Kd.C_alloc ?_ _) | (with_reducible refine Kd.C_drewN ?_ _) | (with_reducible refine Kd.C_drew ?_))); (case aB => exact (by repeat (first | (with_reducible first | exact HB.out | apply below_alloc | apply pw_below_drewN | apply below_drew1 | refine below_set ?_ GE327.out) | exact HB.out))); (case aF => exact (fun k_ hk => Kd.fresh' (Kd.R_lt (by (with_reducible repeat (first | apply Kd.R_alloc | apply Kd.R_drewN | apply Kd.R_drew)); exact HO334.out)) k_ hk)); (case aO => exact (by (with_reducible repeat (first | apply Kd.R_alloc | apply Kd.R_drewN | apply Kd.R_drew)); exact Kd.R_mono HO337.out (fun _ hk => hk.2))); (case aS => exact (below_size (by repeat (first | (with_reducible first | exact HB.out | apply below_alloc | apply pw_below_drewN | apply below_drew1 | refine below_set ?_ GE327.out) | exact HB.out)))); (case aL => have := LMc23.out; omega); intro v339 w37 ho hb hg hat; rw [← Ny338.out] at ho; have n0_ := Aside0.mk (blk_grown (g := gb327) (o := .cells #[.string a0_0, .string a0_1, .int .i64 a0_2, .string a0_3, .bool a0_4] 23 (0, 0)) (by (with_reducible repeat (first | refine blk_drewN ?_ _ | refine blk_drew ?_ | refine blk_alloc ?_ _)); exact BK327.out) hg (Kd.R_ne HO337.out BK327.out (by decide))); have n1_ := Aside0.mk (Kd.R_after (ok := (fun _ => True)) (by (with_reducible repeat (first | apply Kd.R_alloc | apply Kd.R_drewN | apply Kd.R_drew)); exact HO334.out) hg hat); have n2_ := Aside0.mk (hb); have n3_ := Aside0.mk (ho); clear BK327; clear HO334; clear HB; clear HO337; have BK327 := n0_; have HO334 := n1_; have HB := n2_; have HO340 := n3_; clear n0_ n1_ n2_ n3_; clear ho hb hg hat) | ((with_reducible refine gate_builtin (b := .append) (xs := #[.tmp 34, .tmp 35]) rfl ?_); (try (refine gate_guard (by rfl) ?_; dsimp only)); at_builtin; refine Kd.R_append_rows (Kd.int .u8) (w0 := w) w.heap.size rfl (.tmp 34) (.tmp 35) 29 5 (.int .u8 0) 1 rfl Try.underlying29 info5 rfl (by decide) (by omega) v339 y338 l1 _ _ _ (fun k_ => some k_ ≠ (.slice Ao38 t332.length co38 : Value).ownBlock) (fun _ => False) rfl rfl ?aO ?aR (fun _ _ h => h) (fun _ h => h.elim) ?aF ?aB ?aS ?aL ?_; (case aR => repeat (first | exact (Kd.C_below HR1.out HB.out) | (with_reducible refine Kd.C_alloc ?_ _) | (with_reducible refine Kd.C_drewN ?_ _) | (with_reducible refine Kd.C_drew ?_))); (case aB => exact (by repeat (first | (with_reducible first | exact HB.out | apply below_alloc | apply pw_below_drewN | apply below_drew1 | refine below_set ?_ GE327.out) | exact HB.out))); (case aF => exact (fun k_ hk => Kd.fresh' (Kd.R_lt (by (with_reducible repeat (first | apply Kd.R_alloc | apply Kd.R_drewN | apply Kd.R_drew)); exact HO334.out)) k_ hk)); (case aO => exact (by (with_reducible repeat (first | apply Kd.R_alloc | apply Kd.R_drewN | apply Kd.R_drew)); exact HO340.out)); (case aS => exact (below_size (by repeat (first | (with_reducible first | exact HB.out | apply below_alloc | apply pw_below_drewN | apply below_drew1 | refine below_set ?_ GE327.out) | exact HB.out)))); (case aL => have := LMc24.out; omega); intro v342 w39 ho hb hg hat; rw [← Ny341.out] at ho; have n0_ := Aside0.mk (blk_grown (g := gb327) (o := .cells #[.string a0_0, .string a0_1, .int .i64 a0_2, .string a0_3, .bool a0_4] 23 (0, 0)) (by (with_reducible repeat (first | refine blk_drewN ?_ _ | refine blk_drew ?_ | refine blk_alloc ?_ _)); exact BK327.out) hg (Kd.R_ne HO340.out BK327.out (by decide))); have n1_ := Aside0.mk (Kd.R_after (ok := (fun _ => True)) (by (with_reducible repeat (first | apply Kd.R_alloc | apply Kd.R_drewN | apply Kd.R_drew)); exact HO334.out) hg hat); have n2_ := Aside0.mk (hb); have n3_ := Aside0.mk (ho); clear BK327; clear HO334; clear HB; clear HO340; have BK327 := n0_; have HO334 := n1_; have HB := n2_; have HO343 := n3_; clear n0_ n1_ n2_ n3_; clear ho hb hg hat; obtain ⟨Ao40, co40, eo40⟩ := Kd.R_slice HO343.out; subst eo40) | ((with_reducible refine gate_callee (f := 15) rfl ?_); refine goesL_ (some 37) rfl rfl Try.func15 (by kernel_rfl) rfl #[.slice Ao40 y341.length co40] rfl (by (try simp only [List.map_toArray, List.map_cons, List.map_nil]); first | done | rfl | (simp only [List.length_drop, List.length_take]; rfl)) ?_; (with_reducible refine (cell_Cut.calls kj2 _ _ y341 t344 t345 t346 t347 t348 t349 true _ ?side1 ?side2 A25.out).mono ?_); (case side1 => repeat (first | exact (Kd.R_reads' HO343.out).2.2 | (with_reducible refine Kd.C_alloc ?_ _) | (with_reducible refine Kd.C_drewN ?_ _) | (with_reducible refine Kd.C_drew ?_))); (case side2 => exact (Kd.R_reads' HO343.out).2.1); rintro e w41 ⟨v350, rfl, ho0, hb⟩; refine ⟨_, rfl, ?_⟩; have n0_ := Aside0.mk (Kd.R_elder' (by (with_reducible repeat (first | apply Kd.R_alloc | apply Kd.R_drewN | apply Kd.R_drew)); exact HO334.out) (by first | exact Kd.Q_base ho0 | exact Kd.S_base ho0 | exact Kd.R_base ho0 | exact Kd.V_base ho0) hb); have n1_ := Aside0.mk (Kd.R_elder' (by (with_reducible repeat (first | apply Kd.R_alloc | apply Kd.R_drewN | apply Kd.R_drew)); exact HO343.out) (by first | exact Kd.Q_base ho0 | exact Kd.S_base ho0 | exact Kd.R_base ho0 | exact Kd.V_base ho0) hb); have n2_ := Aside0.mk (Kd.Q_lower (Kd.Q_new' (Kd.Q_new' ho0 (Kd.R_lt (by (with_reducible repeat (first | apply Kd.R_alloc | apply Kd.R_drewN | apply Kd.R_drew)); exact HO334.out))) (Kd.R_lt (by (with_reducible repeat (first | apply Kd.R_alloc | apply Kd.R_drewN | apply Kd.R_drew)); exact HO343.out))) (below_size (by repeat (first | (with_reducible first | exact HB.out | apply below_alloc | apply pw_below_drewN | apply below_drew1 | refine below_set ?_ GE327.out) | exact HB.out)))); have n3_ := Aside0.mk (blk_below (g := gb327) (o := .cells #[.string a0_0, .string a0_1, .int .i64 a0_2, .string a0_3, .bool a0_4] 23 (0, 0)) (by (with_reducible repeat (first | refine blk_drewN ?_ _ | refine blk_drew ?_ | refine blk_alloc ?_ _)); exact BK327.out) hb); have n4_ := Aside0.mk (below_step (by repeat (first | (with_reducible first | exact HB.out | apply below_alloc | apply pw_below_drewN | apply below_drew1 | refine below_set ?_ GE327.out) | exact HB.out)) hb); clear HO334; clear HO343; clear BK327; clear HB; have HO334 := n0_; have HO343 := n1_; have HO351 := n2_; have BK327 := n3_; have HB := n4_; clear n0_ n1_ n2_ n3_ n4_; (try clear hb); (try clear hb2); (try clear hk); (try clear hi); (try clear ho0)) | ((with_reducible refine gate_dst (N := 6) rfl ?_); (try (refine gate_guard (by rfl) ?_; dsimp only)); refine box_event ?hg (N := 6) ?hd (cs := #[.string (⟨#[]⟩ : ByteArray), .string (⟨#[]⟩ : ByteArray), .int .i64 0, .string (⟨#[]⟩ : ByteArray), .bool false]) (t := 23) ?hr ?_; (case hd => rfl); (case hg => rfl); (case hr => first | (go_simp; done) | (go_simp; rfl)); intro gb353 hg w42 hbox hb; have n0_ := Aside0.mk (Kd.R_below (by (with_reducible repeat (first | apply Kd.R_alloc | apply Kd.R_drewN | apply Kd.R_drew)); exact HO334.out) hb); have n1_ := Aside0.mk (Kd.R_below (by (with_reducible repeat (first | apply Kd.R_alloc | apply Kd.R_drewN | apply Kd.R_drew)); exact HO343.out) hb); have n2_ := Aside0.mk (Kd.Q_below (by (with_reducible repeat (first | apply Kd.Q_alloc | apply Kd.Q_drewN | apply Kd.Q_drew)); exact HO351.out) hb); have n3_ := Aside0.mk (blk_below (g := gb327) (o := .cells #[.string a0_0, .string a0_1, .int .i64 a0_2, .string a0_3, .bool a0_4] 23 (0, 0)) (by (with_reducible repeat (first | refine blk_drewN ?_ _ | refine blk_drew ?_ | refine blk_alloc ?_ _)); exact BK327.out) hb); have n4_ := Aside0.mk (below_step (by repeat (first | (with_reducible first | exact HB.out | apply below_alloc | apply pw_below_drewN | apply below_drew1 | refine below_set ?_ GE327.out) | exact HB.out)) hb); have n5_ := Aside0.mk (hbox); have n6_ := Aside0.mk ((by rw [hg]; exact (below_size (by repeat (first | (with_reducible first | exact HB.out | apply below_alloc | apply pw_below_drewN | apply below_drew1 | refine below_set ?_ GE327.out) | exact HB.out))) : w.heap.size ≤ gb353)); have n7_ := Aside0.mk ((by rw [hg]; exact (below_size (by repeat (first | (with_reducible first | exact HB.out | apply below_alloc | apply pw_below_drewN | apply below_drew1 | refine below_set ?_ GE327.out) | exact HB.out))) : w.heap.size ≤ gb353)); have n8_ := Aside0.mk ((by rw [hg]; exact Nat.ne_of_lt (blk_lt (g := gb327) (o := .cells #[.string a0_0, .string a0_1, .int .i64 a0_2, .string a0_3, .bool a0_4] 23 (0, 0)) (by (with_reducible repeat (first | refine blk_drewN ?_ _ | refine blk_drew ?_ | refine blk_alloc ?_ _)); exact BK327.out)) : gb327 ≠ gb353)); have n9_ := Aside0.mk ((by rw [hg]; exact Nat.ne_of_gt (blk_lt (g := gb327) (o := .cells #[.string a0_0, .string a0_1, .int .i64 a0_2, .string a0_3, .bool a0_4] 23 (0, 0)) (by (with_reducible repeat (first | refine blk_drewN ?_ _ | refine blk_drew ?_ | refine blk_alloc ?_ _)); exact BK327.out)) : gb353 ≠ gb327)); clear HO334; clear HO343; clear HO351; clear BK327; clear HB; have HO334 := n0_; have HO343 := n1_; have HO351 := n2_; have BK327 := n3_; have HB := n4_; have BK353 := n5_; have GW353 := n6_; have GE353 := n7_; have NB327_353 := n8_; have NB353_327 := n9_; clear n0_ n1_ n2_ n3_ n4_ n5_ n6_ n7_ n8_ n9_; clear hb hbox hg; have hnb43 := NB353_327.out; have hnc43 := NB327_353.out; have hcz44_0 : w42.cell? ⟨gb353, 0, none⟩ = some (.string (⟨#[]⟩ : ByteArray)) := (blk_cell BK353.out 0).trans rfl; have hcz44_1 : w42.cell? ⟨gb353, 1, none⟩ = some (.string (⟨#[]⟩ : ByteArray)) := (blk_cell BK353.out 1).trans rfl; have hcz44_2 : w42.cell? ⟨gb353, 2, none⟩ = some (.int .i64 0) := (blk_cell BK353.out 2).trans rfl; have hcz44_3 : w42.cell? ⟨gb353, 3, none⟩ = some (.string (⟨#[]⟩ : ByteArray)) := (blk_cell BK353.out 3).trans rfl; have hcz44_4 : w42.cell? ⟨gb353, 4, none⟩ = some (.bool false) := (blk_cell BK353.out 4).trans rfl; have hfz44_0 := blk_frozen BK353.out 0; have hfz44_1 := blk_frozen BK353.out 1; have hfz44_2 := blk_frozen BK353.out 2; have hfz44_3 := blk_frozen BK353.out 3; have hfz44_4 := blk_frozen BK353.out 4; have hcz45_0 : w42.cell? ⟨gb327, 0, none⟩ = some (.string a0_0) := (blk_cell BK327.out 0).trans rfl; have hcz45_1 : w42.cell? ⟨gb327, 1, none⟩ = some (.string a0_1) := (blk_cell BK327.out 1).trans rfl; have hcz45_2 : w42.cell? ⟨gb327, 2, none⟩ = some (.int .i64 a0_2) := (blk_cell BK327.out 2).trans rfl; have hcz45_3 : w42.cell? ⟨gb327, 3, none⟩ = some (.string a0_3) := (blk_cell BK327.out 3).trans rfl; have hcz45_4 : w42.cell? ⟨gb327, 4, none⟩ = some (.bool a0_4) := (blk_cell BK327.out 4).trans rfl; have hfz45_0 := blk_frozen BK327.out 0; have hfz45_1 := blk_frozen BK327.out 1; have hfz45_2 := blk_frozen BK327.out 2; have hfz45_3 := blk_frozen BK327.out 3; have hfz45_4 := blk_frozen BK327.out 4) | ((with_reducible refine gate_callee (f := 17) rfl ?_); refine goesL_ (some 43) rfl rfl Try.func17 (by kernel_rfl) rfl #[.agg #[.string a0_0, .string a0_1, .int .i64 a0_2, .string a0_3, .bool a0_4]] rfl (by (try simp only [List.map_toArray, List.map_cons, List.map_nil]); first | done | rfl | (simp only [List.length_drop, List.length_take]; rfl)) ?_; (with_reducible refine (shardlogref08_Put.calls kj2 a0_0 a0_1 a0_2 a0_3 a0_4 t354 _ A26.out).mono ?_); rintro e w46 ⟨v355, rfl, ho0, hb⟩; refine ⟨_, rfl, ?_⟩; have n0_ := Aside0.mk (Kd.R_elder' (by (with_reducible repeat (first | apply Kd.R_alloc | apply Kd.R_drewN | apply Kd.R_drew)); exact (Kd.R_mono (Kd.R_far (p := ⟨gb353, 4, none⟩) (Kd.R_far (p := ⟨gb353, 3, none⟩) (Kd.R_far (p := ⟨gb353, 2, none⟩) (Kd.R_far (p := ⟨gb353, 1, none⟩) (Kd.R_far (p := ⟨gb353, 0, none⟩) (Kd.R_types HO334.out BK353.out (by decide)) (fun _ hk => hk.2) (.string t344)) (fun _ hk => hk.2) (.string t345)) (fun _ hk => hk.2) (.int .i64 t346)) (fun _ hk => hk.2) (.string t347)) (fun _ hk => hk.2) (.bool t348)) (fun _ h_ => h_.1))) (by first | exact Kd.R_base ho0 | exact Kd.S_base ho0 | exact Kd.R_base ho0 | exact Kd.V_base ho0) hb); have n1_ := Aside0.mk (Kd.R_elder' (by (with_reducible repeat (first | apply Kd.R_alloc | apply Kd.R_drewN | apply Kd.R_drew)); exact (Kd.R_mono (Kd.R_far (p := ⟨gb353, 4, none⟩) (Kd.R_far (p := ⟨gb353, 3, none⟩) (Kd.R_far (p := ⟨gb353, 2, none⟩) (Kd.R_far (p := ⟨gb353, 1, none⟩) (Kd.R_far (p := ⟨gb353, 0, none⟩) (Kd.R_types HO343.out BK353.out (by decide)) (fun _ hk => hk.2) (.string t344)) (fun _ hk => hk.2) (.string t345)) (fun _ hk => hk.2) (.int .i64 t346)) (fun _ hk => hk.2) (.string t347)) (fun _ hk => hk.2) (.bool t348)) (fun _ h_ => h_.1))) (by first | exact Kd.R_base ho0 | exact Kd.S_base ho0 | exact Kd.R_base ho0 | exact Kd.V_base ho0) hb); have n2_ := Aside0.mk (Kd.Q_elder' (by (with_reducible repeat (first | apply Kd.Q_alloc | apply Kd.Q_drewN | apply Kd.Q_drew)); exact (Kd.Q_mono (Kd.Q_far (p := ⟨gb353, 4, none⟩) (Kd.Q_far (p := ⟨gb353, 3, none⟩) (Kd.Q_far (p := ⟨gb353, 2, none⟩) (Kd.Q_far (p := ⟨gb353, 1, none⟩) (Kd.Q_far (p := ⟨gb353, 0, none⟩) (Kd.Q_types HO351.out BK353.out (by decide)) (fun _ hk => hk.2) (.string t344)) (fun _ hk => hk.2) (.string t345)) (fun _ hk => hk.2) (.int .i64 t346)) (fun _ hk => hk.2) (.string t347)) (fun _ hk => hk.2) (.bool t348)) (fun _ h_ => h_.1))) (by first | exact Kd.R_base ho0 | exact Kd.S_base ho0 | exact Kd.R_base ho0 | exact Kd.V_base ho0) hb); have n3_ := Aside0.mk (Kd.R_lower (Kd.R_new' (Kd.R_new' (Kd.R_new' ho0 (Kd.R_lt (by (with_reducible repeat (first | apply Kd.R_alloc | apply Kd.R_drewN | apply Kd.R_drew)); exact (Kd.R_mono (Kd.R_far (p := ⟨gb353, 4, none⟩) (Kd.R_far (p := ⟨gb353, 3, none⟩) (Kd.R_far (p := ⟨gb353, 2, none⟩) (Kd.R_far (p := ⟨gb353, 1, none⟩) (Kd.R_far (p := ⟨gb353, 0, none⟩) (Kd.R_types HO334.out BK353.out (by decide)) (fun _ hk => hk.2) (.string t344)) (fun _ hk => hk.2) (.string t345)) (fun _ hk => hk.2) (.int .i64 t346)) (fun _ hk => hk.2) (.string t347)) (fun _ hk => hk.2) (.bool t348)) (fun _ h_ => h_.1))))) (Kd.R_lt (by (with_reducible repeat (first | apply Kd.R_alloc | apply Kd.R_drewN | apply Kd.R_drew)); exact (Kd.R_mono (Kd.R_far (p := ⟨gb353, 4, none⟩) (Kd.R_far (p := ⟨gb353, 3, none⟩) (Kd.R_far (p := ⟨gb353, 2, none⟩) (Kd.R_far (p := ⟨gb353, 1, none⟩) (Kd.R_far (p := ⟨gb353, 0, none⟩) (Kd.R_types HO343.out BK353.out (by decide)) (fun _ hk => hk.2) (.string t344)) (fun _ hk => hk.2) (.string t345)) (fun _ hk => hk.2) (.int .i64 t346)) (fun _ hk => hk.2) (.string t347)) (fun _ hk => hk.2) (.bool t348)) (fun _ h_ => h_.1))))) (Kd.Q_lt (by (with_reducible repeat (first | apply Kd.Q_alloc | apply Kd.Q_drewN | apply Kd.Q_drew)); exact (Kd.Q_mono (Kd.Q_far (p := ⟨gb353, 4, none⟩) (Kd.Q_far (p := ⟨gb353, 3, none⟩) (Kd.Q_far (p := ⟨gb353, 2, none⟩) (Kd.Q_far (p := ⟨gb353, 1, none⟩) (Kd.Q_far (p := ⟨gb353, 0, none⟩) (Kd.Q_types HO351.out BK353.out (by decide)) (fun _ hk => hk.2) (.string t344)) (fun _ hk => hk.2) (.string t345)) (fun _ hk => hk.2) (.int .i64 t346)) (fun _ hk => hk.2) (.string t347)) (fun _ hk => hk.2) (.bool t348)) (fun _ h_ => h_.1))))) (below_size (by repeat (first | (with_reducible first | exact HB.out | apply below_alloc | apply pw_below_drewN | apply below_drew1 | refine below_set ?_ GE327.out | refine below_set ?_ GE353.out) | exact HB.out)))); have n4_ := Aside0.mk (blk_below (g := gb327) (o := .cells #[.string a0_0, .string a0_1, .int .i64 a0_2, .string a0_3, .bool a0_4] 23 (0, 0)) (by (with_reducible repeat (first | refine blk_drewN ?_ _ | refine blk_drew ?_ | refine blk_alloc ?_ _)); refine blk_far ?_ NB327_353.out _; (with_reducible repeat (first | refine blk_drewN ?_ _ | refine blk_drew ?_ | refine blk_alloc ?_ _)); refine blk_far ?_ NB327_353.out _; (with_reducible repeat (first | refine blk_drewN ?_ _ | refine blk_drew ?_ | refine blk_alloc ?_ _)); refine blk_far ?_ NB327_353.out _; (with_reducible repeat (first | refine blk_drewN ?_ _ | refine blk_drew ?_ | refine blk_alloc ?_ _)); refine blk_far ?_ NB327_353.out _; (with_reducible repeat (first | refine blk_drewN ?_ _ | refine blk_drew ?_ | refine blk_alloc ?_ _)); refine blk_far ?_ NB327_353.out _; (with_reducible repeat (first | refine blk_drewN ?_ _ | refine blk_drew ?_ | refine blk_alloc ?_ _)); exact BK327.out) hb); have n5_ := Aside0.mk (blk_below (g := gb353) (o := .cells #[.string t344, .string t345, .int .i64 t346, .string t347, .bool t348] 23 (0, 0)) (by (with_reducible repeat (first | refine blk_drewN ?_ _ | refine blk_drew ?_ | refine blk_alloc ?_ _)); refine blk_put (cs := #[.string t344, .string t345, .int .i64 t346, .string t347, .bool false]) ?_ 4 _ rfl; (with_reducible repeat (first | refine blk_drewN ?_ _ | refine blk_drew ?_ | refine blk_alloc ?_ _)); refine blk_put (cs := #[.string t344, .string t345, .int .i64 t346, .string (⟨#[]⟩ : ByteArray), .bool false]) ?_ 3 _ rfl; (with_reducible repeat (first | refine blk_drewN ?_ _ | refine blk_drew ?_ | refine blk_alloc ?_ _)); refine blk_put (cs := #[.string t344, .string t345, .int .i64 0, .string (⟨#[]⟩ : ByteArray), .bool false]) ?_ 2 _ rfl; (with_reducible repeat (first | refine blk_drewN ?_ _ | refine blk_drew ?_ | refine blk_alloc ?_ _)); refine blk_put (cs := #[.string t344, .string (⟨#[]⟩ : ByteArray), .int .i64 0, .string (⟨#[]⟩ : ByteArray), .bool false]) ?_ 1 _ rfl; (with_reducible repeat (first | refine blk_drewN ?_ _ | refine blk_drew ?_ | refine blk_alloc ?_ _)); refine blk_put (cs := #[.string (⟨#[]⟩ : ByteArray), .string (⟨#[]⟩ : ByteArray), .int .i64 0, .string (⟨#[]⟩ : ByteArray), .bool false]) ?_ 0 _ rfl; (with_reducible repeat (first | refine blk_drewN ?_ _ | refine blk_drew ?_ | refine blk_alloc ?_ _)); exact BK353.out) hb); have n6_ := Aside0.mk (below_step (by repeat (first | (with_reducible first | exact HB.out | apply below_alloc | apply pw_below_drewN | apply below_drew1 | refine below_set ?_ GE327.out | refine below_set ?_ GE353.out) | exact HB.out)) hb); clear HO334; clear HO343; clear HO351; clear BK327; clear BK353; clear HB; have HO334 := n0_; have HO343 := n1_; have HO351 := n2_; have HO356 := n3_; have BK327 := n4_; have BK353 := n5_; have HB := n6_; clear n0_ n1_ n2_ n3_ n4_ n5_ n6_; (try clear hb); (try clear hb2); (try clear hk); (try clear hi); (try clear ho0); obtain ⟨Ao47, co47, eo47⟩ := Kd.R_slice HO356.out; subst eo47) | ((with_reducible refine gate_callee (f := 16) rfl ?_); refine goesL_ (some 44) rfl rfl Try.func16 (by kernel_rfl) rfl #[.slice Ao38 t332.length co38, .slice Ao47 t354.length co47] rfl (by (try simp only [List.map_toArray, List.map_cons, List.map_nil]); first | done | rfl | (simp only [List.length_drop, List.length_take]; rfl)) ?_; (with_reducible refine (shardlogref01_Same.calls _ _ t332 _ _ t354 true _ ?side1 ?side2 ?side3 ?side4 A27.out).mono ?_); (case side1 => repeat (first | exact (Kd.R_reads' HO334.out).2.2 | (with_reducible refine Kd.C_alloc ?_ _) | (with_reducible refine Kd.C_drewN ?_ _) | (with_reducible refine Kd.C_drew ?_))); (case side2 => exact (Kd.R_reads' HO334.out).2.1); (case side3 => repeat (first | exact (Kd.R_reads' HO356.out).2.2 | (with_reducible refine Kd.C_alloc ?_ _) | (with_reducible refine Kd.C_drewN ?_ _) | (with_reducible refine Kd.C_drew ?_))); (case side4 => exact (Kd.R_reads' HO356.out).2.1); rintro e w' ⟨rfl, ⟨nd, rfl⟩⟩; refine ⟨_, rfl, ?_⟩; have hcz48_0 : w46.cell? ⟨gb353, 0, none⟩ = some (.string t344) := (blk_cell BK353.out 0).trans rfl; have hcz48_1 : w46.cell? ⟨gb353, 1, none⟩ = some (.string t345) := (blk_cell BK353.out 1).trans rfl; have hcz48_2 : w46.cell? ⟨gb353, 2, none⟩ = some (.int .i64 t346) := (blk_cell BK353.out 2).trans rfl; have hcz48_3 : w46.cell? ⟨gb353, 3, none⟩ = some (.string t347) := (blk_cell BK353.out 3).trans rfl; have hcz48_4 : w46.cell? ⟨gb353, 4, none⟩ = some (.bool t348) := (blk_cell BK353.out 4).trans rfl; have hfz48_0 := blk_frozen BK353.out 0; have hfz48_1 := blk_frozen BK353.out 1; have hfz48_2 := blk_frozen BK353.out 2; have hfz48_3 := blk_frozen BK353.out 3; have hfz48_4 := blk_frozen BK353.out 4; have hcz49_0 : w46.cell? ⟨gb327, 0, none⟩ = some (.string a0_0) := (blk_cell BK327.out 0).trans rfl; have hcz49_1 : w46.cell? ⟨gb327, 1, none⟩ = some (.string a0_1) := (blk_cell BK327.out 1).trans rfl; have hcz49_2 : w46.cell? ⟨gb327, 2, none⟩ = some (.int .i64 a0_2) := (blk_cell BK327.out 2).trans rfl; have hcz49_3 : w46.cell? ⟨gb327, 3, none⟩ = some (.string a0_3) := (blk_cell BK327.out 3).trans rfl; have hcz49_4 : w46.cell? ⟨gb327, 4, none⟩ = some (.bool a0_4) := (blk_cell BK327.out 4).trans rfl; have hfz49_0 := blk_frozen BK327.out 0; have hfz49_1 := blk_frozen BK327.out 1; have hfz49_2 := blk_frozen BK327.out 2; have hfz49_3 := blk_frozen BK327.out 3; have hfz49_4 := blk_frozen BK327.out 4; obtain ⟨Ao50, co50, eo50, _⟩ := Kd.Q_slice HO351.out; subst eo50) | (go_at_call 16; (with_reducible refine (shardlogref01_Same.calls _ _ t349 _ _ l1 true _ ?side1 ?side2 ?side3 ?side4 A31.out).mono ?_); (case side1 => repeat (first | exact (Kd.Q_reads' HO351.out).2.2 | (with_reducible refine Kd.C_alloc ?_ _) | (with_reducible refine Kd.C_drewN ?_ _) | (with_reducible refine Kd.C_drew ?_))); (case side2 => exact (Kd.Q_reads' HO351.out).2.1); (case side3 => repeat (first | exact (Kd.C_below HR1.out (by repeat (first | (with_reducible first | exact HB.out | apply below_alloc | apply pw_below_drewN | apply below_drew1 | refine below_set ?_ GE327.out | refine below_set ?_ GE353.out) | exact HB.out))) | (with_reducible refine Kd.C_alloc ?_ _) | (with_reducible refine Kd.C_drewN ?_ _) | (with_reducible refine Kd.C_drew ?_))); (case side4 => exact HC1.out); rintro e w' ⟨rfl, ⟨nd, rfl⟩⟩))
                        go_meet
                        case rel => exact ⟨_, H', ⟨by have := HJ2.out; first | omega | exact Nat.le_refl _⟩, ⟨by (with_reducible repeat (first | refine blk_drewN ?_ _ | refine blk_drew ?_ | refine blk_alloc ?_ _)); exact BK327.out⟩, ⟨by repeat (first | (with_reducible first | exact HB.out | apply below_alloc | apply pw_below_drewN | apply below_drew1 | refine below_set ?_ GE327.out | refine below_set ?_ GE353.out) | exact HB.out)⟩⟩
                      · replace c32 := Bool.eq_false_iff.mpr c32
                        subst c32
                        have H1 : (none) = some r := by rw [if_neg (show ¬ (false = true) by decide)] at H; exact H
                        clear H
                        have H := H1
                        clear H1
                        exact absurd H (by simp)
                  · replace c29 := Bool.eq_false_iff.mpr c29
                    subst c29
                    have H1 : (none) = some r := by rw [if_neg (show ¬ (false = true) by decide)] at H; exact H
                    clear H
                    have H := H1
                    clear H1
                    exact absurd H (by simp)
                · replace c28 := Bool.eq_false_iff.mpr c28
                  subst c28
                  have H1 : (none) = some r := by rw [if_neg (show ¬ (false = true) by decide)] at H; exact H
                  clear H
                  have H := H1
                  clear H1
                  exact absurd H (by simp)
              · rw [if_neg c24] at H
                exact absurd H (by simp)
            · rw [if_neg c23] at H
              exact absurd H (by simp)
          · replace c21 := Bool.eq_false_iff.mpr c21
            subst c21
            have H1 : (shardloglaw08_CellBytes.j1 kj2 l1) = some r := by rw [if_neg (show ¬ (false = true) by decide)] at H; exact H
            clear H
            have H := H1
            clear H1
            have H' := Aside0.mk H
            clear H
            go_wp2
            go_meet
            case rel => exact ⟨_, H', ⟨by have := HJ2.out; first | omega | exact Nat.le_refl _⟩, ⟨by (with_reducible repeat (first | refine blk_drewN ?_ _ | refine blk_drew ?_ | refine blk_alloc ?_ _)); exact BK327.out⟩, ⟨by repeat (first | (with_reducible first | exact HB.out | apply below_alloc | apply pw_below_drewN | apply below_drew1 | refine below_set ?_ GE327.out) | exact HB.out)⟩⟩
        case rest =>
          clear HC18
          try clear c1
          try clear c2
          try clear p2
          try clear c3
          try clear c4
          try clear c5
          try clear c6
          try clear c7
          try clear c7b0
          try clear c7b1
          try clear c8
          try clear c11
          try clear c14
          try clear c15
          try clear c16
          try clear c17
          try clear c21
          try clear c23
          try clear c24
          try clear c28
          try clear c29
          try clear c30
          try clear c30b0
          try clear c32
          try clear c43
          try clear hcz11_0
          try clear hcz11_1
          try clear hcz11_2
          try clear hcz11_3
          try clear hcz11_4
          try clear hcz19_0
          try clear hcz19_1
          try clear hcz19_2
          try clear hcz19_3
          try clear hcz19_4
          try clear hcz33_0
          try clear hcz33_1
          try clear hcz33_2
          try clear hcz33_3
          try clear hcz33_4
          try clear hcz44_0
          try clear hcz44_1
          try clear hcz44_2
          try clear hcz44_3
          try clear hcz44_4
          try clear hcz45_0
          try clear hcz45_1
          try clear hcz45_2
          try clear hcz45_3
          try clear hcz45_4
          try clear hcz48_0
          try clear hcz48_1
          try clear hcz48_2
          try clear hcz48_3
          try clear hcz48_4
          try clear hcz49_0
          try clear hcz49_1
          try clear hcz49_2
          try clear hcz49_3
          try clear hcz49_4
          try clear hfz11_0
          try clear hfz11_1
          try clear hfz11_2
          try clear hfz11_3
          try clear hfz11_4
          try clear hfz19_0
          try clear hfz19_1
          try clear hfz19_2
          try clear hfz19_3
          try clear hfz19_4
          try clear hfz33_0
          try clear hfz33_1
          try clear hfz33_2
          try clear hfz33_3
          try clear hfz33_4
          try clear hfz44_0
          try clear hfz44_1
          try clear hfz44_2
          try clear hfz44_3
          try clear hfz44_4
          try clear hfz45_0
          try clear hfz45_1
          try clear hfz45_2
          try clear hfz45_3
          try clear hfz45_4
          try clear hfz48_0
          try clear hfz48_1
          try clear hfz48_2
          try clear hfz48_3
          try clear hfz48_4
          try clear hfz49_0
          try clear hfz49_1
          try clear hfz49_2
          try clear hfz49_3
          try clear hfz49_4
          try clear p2
          obtain ⟨kq, HA, HJ17, BK327, HB⟩ := hcut
          cases kq with
          | zero => exact absurd HA.out (by simp [shardloglaw08_CellBytes.j1])
          | succ kj17 =>
            have H := HA.out
            clear HA
            simp only [shardloglaw08_CellBytes.j1] at H
            replace H := Option.bind_eq_some_iff.mp H
            obtain ⟨⟨t359, t360, t361, t362, t363, t364, t367⟩, A510, H⟩ := H
            replace H : ((shardlogref08_Cut.f kj17 l1 0).bind fun bt369 => (if bt369.2.2.2.2.2 = 0 then (if t367 = true then (none) else (if (t359.toList == ([] : List UInt8) && (t360.toList == ([] : List UInt8) && (t361 == 0 && (t362.toList == ([] : List UInt8) && (!t363))))) = true then (some ((t364.length : Int) == 0)) else (none))) else (if t367 = true then (if (t359.toList == bt369.1.toList && (t360.toList == bt369.2.1.toList && (t361 == bt369.2.2.1 && (t362.toList == bt369.2.2.2.1.toList && (t363 == bt369.2.2.2.2.1))))) = true then (if 0 ≤ bt369.2.2.2.2.2 then (if bt369.2.2.2.2.2 ≤ (l1.length : Int) then ((shardlogref01_Same.f t364 (l1.drop (bt369.2.2.2.2.2 : Int).toNat)).bind fun t380 => (some t380)) else (none)) else (none)) else (none)) else (none)))) = some r := H
            have A51 := Aside0.mk A510
            clear A510
            replace H := Option.bind_eq_some_iff.mp H
            obtain ⟨⟨t369, t370, t371, t372, t373, t374⟩, A520, H⟩ := H
            replace H : (if t374 = 0 then (if t367 = true then (none) else (if (t359.toList == ([] : List UInt8) && (t360.toList == ([] : List UInt8) && (t361 == 0 && (t362.toList == ([] : List UInt8) && (!t363))))) = true then (some ((t364.length : Int) == 0)) else (none))) else (if t367 = true then (if (t359.toList == t369.toList && (t360.toList == t370.toList && (t361 == t371 && (t362.toList == t372.toList && (t363 == t373))))) = true then (if 0 ≤ t374 then (if t374 ≤ (l1.length : Int) then ((shardlogref01_Same.f t364 (l1.drop (t374 : Int).toNat)).bind fun t380 => (some t380)) else (none)) else (none)) else (none)) else (none))) = some r := H
            have A52 := Aside0.mk A520
            clear A520
            by_cases c53 : t374 = 0
            · rw [if_pos c53] at H
              have c53b0 : (t374 == 0) = true := beq_iff_eq.mpr c53
              have c53b1 : (t374 != 0) = false := bne_eq_false_iff_eq.mpr c53
              clear c53
              by_cases c54 : t367 = true
              · subst c54
                have H1 : (none) = some r := by rw [if_pos rfl] at H; exact H
                clear H
                have H := H1
                clear H1
                exact absurd H (by simp)
              · replace c54 := Bool.eq_false_iff.mpr c54
                subst c54
                have H1 : (if (t359.toList == ([] : List UInt8) && (t360.toList == ([] : List UInt8) && (t361 == 0 && (t362.toList == ([] : List UInt8) && (!t363))))) = true then (some ((t364.length : Int) == 0)) else (none)) = some r := by rw [if_neg (show ¬ (false = true) by decide)] at H; exact H
                clear H
                have H := H1
                clear H1
                by_cases c55 : (t359.toList == ([] : List UInt8) && (t360.toList == ([] : List UInt8) && (t361 == 0 && (t362.toList == ([] : List UInt8) && (!t363))))) = true
                · rw [if_pos c55] at H
                  have c55b0 : (t359.toList == ([] : List UInt8) && (t360.toList == ([] : List UInt8) && (t361 == 0 && (t362.toList == ([] : List UInt8) && (!t363))))) = true := c55
                  (try (have c55b1 : decide (t359.toList = ([] : List UInt8) && (t360.toList == ([] : List UInt8) && (t361 == 0 && (t362.toList == ([] : List UInt8) && (!t363))))) = true := by simpa using c55))
                  (try (have c55b2 : (t359.toList == ([] : List UInt8) && (t360.toList == ([] : List UInt8) && (t361 == 0 && (t362.toList == ([] : List UInt8) && (!t363))))) = true := by simpa using c55))
                  have c55b3 : (t359.toList == ([] : List UInt8) && (t360.toList == ([] : List UInt8) && (t361 == 0 && (t362.toList == ([] : List UInt8) && (!t363))))) = true := by simpa using c55
                  (try (have c55b4 : decide (t359.toList = ([] : List UInt8) ∧ t360.toList = ([] : List UInt8) ∧ t361 = 0 ∧ t362.toList = ([] : List UInt8) ∧ t363 = false) = true := by simpa using c55))
                  clear c55
                  obtain rfl := Option.some.inj H
                  go_wp2_with (first | ((with_reducible refine gate_callee (f := 15) rfl ?_); refine goesL_ (some 63) rfl rfl Try.func15 (by kernel_rfl) rfl #[.slice A1 l1.length c1] rfl (by (try simp only [List.map_toArray, List.map_cons, List.map_nil]); first | done | rfl | (simp only [List.length_drop, List.length_take]; rfl)) ?_; (with_reducible refine (cell_Cut.calls kj17 _ _ l1 t359 t360 t361 t362 t363 t364 false _ ?side1 ?side2 A51.out).mono ?_); (case side1 => repeat (first | exact (Kd.C_below HR1.out HB.out) | (with_reducible refine Kd.C_alloc ?_ _) | (with_reducible refine Kd.C_drewN ?_ _) | (with_reducible refine Kd.C_drew ?_))); (case side2 => exact HC1.out); rintro e w56 ⟨v365, rfl, ho0, hb⟩; refine ⟨_, rfl, ?_⟩; have n0_ := Aside0.mk (Kd.Q_lower ho0 (below_size (by repeat (first | (with_reducible first | exact HB.out | apply below_alloc | apply pw_below_drewN | apply below_drew1 | refine below_set ?_ GE327.out) | exact HB.out)))); have n1_ := Aside0.mk (blk_below (g := gb327) (o := .cells #[.string a0_0, .string a0_1, .int .i64 a0_2, .string a0_3, .bool a0_4] 23 (0, 0)) (by (with_reducible repeat (first | refine blk_drewN ?_ _ | refine blk_drew ?_ | refine blk_alloc ?_ _)); exact BK327.out) hb); have n2_ := Aside0.mk (below_step (by repeat (first | (with_reducible first | exact HB.out | apply below_alloc | apply pw_below_drewN | apply below_drew1 | refine below_set ?_ GE327.out) | exact HB.out)) hb); clear BK327; clear HB; have HO366 := n0_; have BK327 := n1_; have HB := n2_; clear n0_ n1_ n2_; (try clear hb); (try clear hb2); (try clear hk); (try clear hi); (try clear ho0)) | ((with_reducible refine gate_dst (N := 9) rfl ?_); (try (refine gate_guard (by rfl) ?_; dsimp only)); refine box_event ?hg (N := 9) ?hd (cs := #[.string (⟨#[]⟩ : ByteArray), .string (⟨#[]⟩ : ByteArray), .int .i64 0, .string (⟨#[]⟩ : ByteArray), .bool false]) (t := 23) ?hr ?_; (case hd => rfl); (case hg => rfl); (case hr => first | (go_simp; done) | (go_simp; rfl)); intro gb368 hg w57 hbox hb; have n0_ := Aside0.mk (Kd.Q_below (by (with_reducible repeat (first | apply Kd.Q_alloc | apply Kd.Q_drewN | apply Kd.Q_drew)); exact HO366.out) hb); have n1_ := Aside0.mk (blk_below (g := gb327) (o := .cells #[.string a0_0, .string a0_1, .int .i64 a0_2, .string a0_3, .bool a0_4] 23 (0, 0)) (by (with_reducible repeat (first | refine blk_drewN ?_ _ | refine blk_drew ?_ | refine blk_alloc ?_ _)); exact BK327.out) hb); have n2_ := Aside0.mk (below_step (by repeat (first | (with_reducible first | exact HB.out | apply below_alloc | apply pw_below_drewN | apply below_drew1 | refine below_set ?_ GE327.out) | exact HB.out)) hb); have n3_ := Aside0.mk (hbox); have n4_ := Aside0.mk ((by rw [hg]; exact (below_size (by repeat (first | (with_reducible first | exact HB.out | apply below_alloc | apply pw_below_drewN | apply below_drew1 | refine below_set ?_ GE327.out) | exact HB.out))) : w.heap.size ≤ gb368)); have n5_ := Aside0.mk ((by rw [hg]; exact (below_size (by repeat (first | (with_reducible first | exact HB.out | apply below_alloc | apply pw_below_drewN | apply below_drew1 | refine below_set ?_ GE327.out) | exact HB.out))) : w.heap.size ≤ gb368)); have n6_ := Aside0.mk ((by rw [hg]; exact Nat.ne_of_lt (blk_lt (g := gb327) (o := .cells #[.string a0_0, .string a0_1, .int .i64 a0_2, .string a0_3, .bool a0_4] 23 (0, 0)) (by (with_reducible repeat (first | refine blk_drewN ?_ _ | refine blk_drew ?_ | refine blk_alloc ?_ _)); exact BK327.out)) : gb327 ≠ gb368)); have n7_ := Aside0.mk ((by rw [hg]; exact Nat.ne_of_gt (blk_lt (g := gb327) (o := .cells #[.string a0_0, .string a0_1, .int .i64 a0_2, .string a0_3, .bool a0_4] 23 (0, 0)) (by (with_reducible repeat (first | refine blk_drewN ?_ _ | refine blk_drew ?_ | refine blk_alloc ?_ _)); exact BK327.out)) : gb368 ≠ gb327)); clear HO366; clear BK327; clear HB; have HO366 := n0_; have BK327 := n1_; have HB := n2_; have BK368 := n3_; have GW368 := n4_; have GE368 := n5_; have NB327_368 := n6_; have NB368_327 := n7_; clear n0_ n1_ n2_ n3_ n4_ n5_ n6_ n7_; clear hb hbox hg; have hnb58 := NB368_327.out; have hnc58 := NB327_368.out; have hcz59_0 : w57.cell? ⟨gb368, 0, none⟩ = some (.string (⟨#[]⟩ : ByteArray)) := (blk_cell BK368.out 0).trans rfl; have hcz59_1 : w57.cell? ⟨gb368, 1, none⟩ = some (.string (⟨#[]⟩ : ByteArray)) := (blk_cell BK368.out 1).trans rfl; have hcz59_2 : w57.cell? ⟨gb368, 2, none⟩ = some (.int .i64 0) := (blk_cell BK368.out 2).trans rfl; have hcz59_3 : w57.cell? ⟨gb368, 3, none⟩ = some (.string (⟨#[]⟩ : ByteArray)) := (blk_cell BK368.out 3).trans rfl; have hcz59_4 : w57.cell? ⟨gb368, 4, none⟩ = some (.bool false) := (blk_cell BK368.out 4).trans rfl; have hfz59_0 := blk_frozen BK368.out 0; have hfz59_1 := blk_frozen BK368.out 1; have hfz59_2 := blk_frozen BK368.out 2; have hfz59_3 := blk_frozen BK368.out 3; have hfz59_4 := blk_frozen BK368.out 4) | ((with_reducible refine gate_callee (f := 18) rfl ?_); refine goesL_ (some 69) rfl rfl Try.func18 (by kernel_rfl) rfl #[.slice A1 l1.length c1, .int .i64 0] rfl (by (try simp only [List.map_toArray, List.map_cons, List.map_nil]); first | done | rfl | (simp only [List.length_drop, List.length_take]; rfl)) ?_; (with_reducible refine (shardlogref08_Cut.calls kj17 _ _ l1 0 t369 t370 t371 t372 t373 t374 _ ?side1 ?side2 A52.out).mono ?_); (case side1 => exact Kd.C_below HR1.out (by repeat (first | (with_reducible first | exact HB.out | apply below_alloc | apply pw_below_drewN | apply below_drew1 | refine below_set ?_ GE327.out | refine below_set ?_ GE368.out) | exact HB.out))); (case side2 => exact HC1.out); rintro e w60 ⟨rfl, hb⟩; refine ⟨_, rfl, ?_⟩; have n0_ := Aside0.mk (Kd.Q_below (by (with_reducible repeat (first | apply Kd.Q_alloc | apply Kd.Q_drewN | apply Kd.Q_drew)); exact (Kd.Q_mono (Kd.Q_far (p := ⟨gb368, 4, none⟩) (Kd.Q_far (p := ⟨gb368, 3, none⟩) (Kd.Q_far (p := ⟨gb368, 2, none⟩) (Kd.Q_far (p := ⟨gb368, 1, none⟩) (Kd.Q_far (p := ⟨gb368, 0, none⟩) (Kd.Q_types HO366.out BK368.out (by decide)) (fun _ hk => hk.2) (.string t359)) (fun _ hk => hk.2) (.string t360)) (fun _ hk => hk.2) (.int .i64 t361)) (fun _ hk => hk.2) (.string t362)) (fun _ hk => hk.2) (.bool t363)) (fun _ h_ => h_.1))) hb); have n1_ := Aside0.mk (blk_below (g := gb327) (o := .cells #[.string a0_0, .string a0_1, .int .i64 a0_2, .string a0_3, .bool a0_4] 23 (0, 0)) (by (with_reducible repeat (first | refine blk_drewN ?_ _ | refine blk_drew ?_ | refine blk_alloc ?_ _)); refine blk_far ?_ NB327_368.out _; (with_reducible repeat (first | refine blk_drewN ?_ _ | refine blk_drew ?_ | refine blk_alloc ?_ _)); refine blk_far ?_ NB327_368.out _; (with_reducible repeat (first | refine blk_drewN ?_ _ | refine blk_drew ?_ | refine blk_alloc ?_ _)); refine blk_far ?_ NB327_368.out _; (with_reducible repeat (first | refine blk_drewN ?_ _ | refine blk_drew ?_ | refine blk_alloc ?_ _)); refine blk_far ?_ NB327_368.out _; (with_reducible repeat (first | refine blk_drewN ?_ _ | refine blk_drew ?_ | refine blk_alloc ?_ _)); refine blk_far ?_ NB327_368.out _; (with_reducible repeat (first | refine blk_drewN ?_ _ | refine blk_drew ?_ | refine blk_alloc ?_ _)); exact BK327.out) hb); have n2_ := Aside0.mk (blk_below (g := gb368) (o := .cells #[.string t359, .string t360, .int .i64 t361, .string t362, .bool t363] 23 (0, 0)) (by (with_reducible repeat (first | refine blk_drewN ?_ _ | refine blk_drew ?_ | refine blk_alloc ?_ _)); refine blk_put (cs := #[.string t359, .string t360, .int .i64 t361, .string t362, .bool false]) ?_ 4 _ rfl; (with_reducible repeat (first | refine blk_drewN ?_ _ | refine blk_drew ?_ | refine blk_alloc ?_ _)); refine blk_put (cs := #[.string t359, .string t360, .int .i64 t361, .string (⟨#[]⟩ : ByteArray), .bool false]) ?_ 3 _ rfl; (with_reducible repeat (first | refine blk_drewN ?_ _ | refine blk_drew ?_ | refine blk_alloc ?_ _)); refine blk_put (cs := #[.string t359, .string t360, .int .i64 0, .string (⟨#[]⟩ : ByteArray), .bool false]) ?_ 2 _ rfl; (with_reducible repeat (first | refine blk_drewN ?_ _ | refine blk_drew ?_ | refine blk_alloc ?_ _)); refine blk_put (cs := #[.string t359, .string (⟨#[]⟩ : ByteArray), .int .i64 0, .string (⟨#[]⟩ : ByteArray), .bool false]) ?_ 1 _ rfl; (with_reducible repeat (first | refine blk_drewN ?_ _ | refine blk_drew ?_ | refine blk_alloc ?_ _)); refine blk_put (cs := #[.string (⟨#[]⟩ : ByteArray), .string (⟨#[]⟩ : ByteArray), .int .i64 0, .string (⟨#[]⟩ : ByteArray), .bool false]) ?_ 0 _ rfl; (with_reducible repeat (first | refine blk_drewN ?_ _ | refine blk_drew ?_ | refine blk_alloc ?_ _)); exact BK368.out) hb); have n3_ := Aside0.mk (below_step (by repeat (first | (with_reducible first | exact HB.out | apply below_alloc | apply pw_below_drewN | apply below_drew1 | refine below_set ?_ GE327.out | refine below_set ?_ GE368.out) | exact HB.out)) hb); clear HO366; clear BK327; clear BK368; clear HB; have HO366 := n0_; have BK327 := n1_; have BK368 := n2_; have HB := n3_; clear n0_ n1_ n2_ n3_; (try clear hb); (try clear hb2); (try clear hk); (try clear hi)) | ((with_reducible refine gate_dst (N := 12) rfl ?_); (try (refine gate_guard (by rfl) ?_; dsimp only)); refine box_event ?hg (N := 12) ?hd (cs := #[.string (⟨#[]⟩ : ByteArray), .string (⟨#[]⟩ : ByteArray), .int .i64 0, .string (⟨#[]⟩ : ByteArray), .bool false]) (t := 23) ?hr ?_; (case hd => rfl); (case hg => rfl); (case hr => first | (go_simp; done) | (go_simp; rfl)); intro gb375 hg w61 hbox hb; have n0_ := Aside0.mk (Kd.Q_below (by (with_reducible repeat (first | apply Kd.Q_alloc | apply Kd.Q_drewN | apply Kd.Q_drew)); exact HO366.out) hb); have n1_ := Aside0.mk (blk_below (g := gb327) (o := .cells #[.string a0_0, .string a0_1, .int .i64 a0_2, .string a0_3, .bool a0_4] 23 (0, 0)) (by (with_reducible repeat (first | refine blk_drewN ?_ _ | refine blk_drew ?_ | refine blk_alloc ?_ _)); exact BK327.out) hb); have n2_ := Aside0.mk (blk_below (g := gb368) (o := .cells #[.string t359, .string t360, .int .i64 t361, .string t362, .bool t363] 23 (0, 0)) (by (with_reducible repeat (first | refine blk_drewN ?_ _ | refine blk_drew ?_ | refine blk_alloc ?_ _)); exact BK368.out) hb); have n3_ := Aside0.mk (below_step (by repeat (first | (with_reducible first | exact HB.out | apply below_alloc | apply pw_below_drewN | apply below_drew1 | refine below_set ?_ GE327.out | refine below_set ?_ GE368.out) | exact HB.out)) hb); have n4_ := Aside0.mk (hbox); have n5_ := Aside0.mk ((by rw [hg]; exact (below_size (by repeat (first | (with_reducible first | exact HB.out | apply below_alloc | apply pw_below_drewN | apply below_drew1 | refine below_set ?_ GE327.out | refine below_set ?_ GE368.out) | exact HB.out))) : w.heap.size ≤ gb375)); have n6_ := Aside0.mk ((by rw [hg]; exact (below_size (by repeat (first | (with_reducible first | exact HB.out | apply below_alloc | apply pw_below_drewN | apply below_drew1 | refine below_set ?_ GE327.out | refine below_set ?_ GE368.out) | exact HB.out))) : w.heap.size ≤ gb375)); have n7_ := Aside0.mk ((by rw [hg]; exact Nat.ne_of_lt (blk_lt (g := gb327) (o := .cells #[.string a0_0, .string a0_1, .int .i64 a0_2, .string a0_3, .bool a0_4] 23 (0, 0)) (by (with_reducible repeat (first | refine blk_drewN ?_ _ | refine blk_drew ?_ | refine blk_alloc ?_ _)); exact BK327.out)) : gb327 ≠ gb375)); have n8_ := Aside0.mk ((by rw [hg]; exact Nat.ne_of_gt (blk_lt (g := gb327) (o := .cells #[.string a0_0, .string a0_1, .int .i64 a0_2, .string a0_3, .bool a0_4] 23 (0, 0)) (by (with_reducible repeat (first | refine blk_drewN ?_ _ | refine blk_drew ?_ | refine blk_alloc ?_ _)); exact BK327.out)) : gb375 ≠ gb327)); have n9_ := Aside0.mk ((by rw [hg]; exact Nat.ne_of_lt (blk_lt (g := gb368) (o := .cells #[.string t359, .string t360, .int .i64 t361, .string t362, .bool t363] 23 (0, 0)) (by (with_reducible repeat (first | refine blk_drewN ?_ _ | refine blk_drew ?_ | refine blk_alloc ?_ _)); exact BK368.out)) : gb368 ≠ gb375)); have n10_ := Aside0.mk ((by rw [hg]; exact Nat.ne_of_gt (blk_lt (g := gb368) (o := .cells #[.string t359, .string t360, .int .i64 t361, .string t362, .bool t363] 23 (0, 0)) (by (with_reducible repeat (first | refine blk_drewN ?_ _ | refine blk_drew ?_ | refine blk_alloc ?_ _)); exact BK368.out)) : gb375 ≠ gb368)); clear HO366; clear BK327; clear BK368; clear HB; have HO366 := n0_; have BK327 := n1_; have BK368 := n2_; have HB := n3_; have BK375 := n4_; have GW375 := n5_; have GE375 := n6_; have NB327_375 := n7_; have NB375_327 := n8_; have NB368_375 := n9_; have NB375_368 := n10_; clear n0_ n1_ n2_ n3_ n4_ n5_ n6_ n7_ n8_ n9_ n10_; clear hb hbox hg; have hnb62 := NB375_327.out; have hnc62 := NB327_375.out; have hnb63 := NB375_368.out; have hnc63 := NB368_375.out; have hcz64_0 : w61.cell? ⟨gb375, 0, none⟩ = some (.string (⟨#[]⟩ : ByteArray)) := (blk_cell BK375.out 0).trans rfl; have hcz64_1 : w61.cell? ⟨gb375, 1, none⟩ = some (.string (⟨#[]⟩ : ByteArray)) := (blk_cell BK375.out 1).trans rfl; have hcz64_2 : w61.cell? ⟨gb375, 2, none⟩ = some (.int .i64 0) := (blk_cell BK375.out 2).trans rfl; have hcz64_3 : w61.cell? ⟨gb375, 3, none⟩ = some (.string (⟨#[]⟩ : ByteArray)) := (blk_cell BK375.out 3).trans rfl; have hcz64_4 : w61.cell? ⟨gb375, 4, none⟩ = some (.bool false) := (blk_cell BK375.out 4).trans rfl; have hfz64_0 := blk_frozen BK375.out 0; have hfz64_1 := blk_frozen BK375.out 1; have hfz64_2 := blk_frozen BK375.out 2; have hfz64_3 := blk_frozen BK375.out 3; have hfz64_4 := blk_frozen BK375.out 4; have hcz65_0 : w61.cell? ⟨gb368, 0, none⟩ = some (.string t359) := (blk_cell BK368.out 0).trans rfl; have hcz65_1 : w61.cell? ⟨gb368, 1, none⟩ = some (.string t360) := (blk_cell BK368.out 1).trans rfl; have hcz65_2 : w61.cell? ⟨gb368, 2, none⟩ = some (.int .i64 t361) := (blk_cell BK368.out 2).trans rfl; have hcz65_3 : w61.cell? ⟨gb368, 3, none⟩ = some (.string t362) := (blk_cell BK368.out 3).trans rfl; have hcz65_4 : w61.cell? ⟨gb368, 4, none⟩ = some (.bool t363) := (blk_cell BK368.out 4).trans rfl; have hfz65_0 := blk_frozen BK368.out 0; have hfz65_1 := blk_frozen BK368.out 1; have hfz65_2 := blk_frozen BK368.out 2; have hfz65_3 := blk_frozen BK368.out 3; have hfz65_4 := blk_frozen BK368.out 4; obtain ⟨Ao66, co66, eo66, _⟩ := Kd.Q_slice HO366.out; subst eo66))
                  all_goals (try (rename_i hz_; first | exact absurd (of_decide_eq_true c55b4) hz_))
                  go_ret
                  exact ⟨by first | rfl | (simp [errW_none, errW_some] <;> rfl) | (simp [*, errW_none, errW_some] <;> rfl), by repeat (first | (with_reducible first | exact HB.out | apply below_alloc | apply pw_below_drewN | apply below_drew1 | refine below_set ?_ GE327.out | refine below_set ?_ GE368.out | refine below_set ?_ GE375.out) | exact HB.out)⟩
                · rw [if_neg c55] at H
                  exact absurd H (by simp)
            · rw [if_neg c53] at H
              have c53b0 : (t374 == 0) = false := beq_eq_false_iff_ne.mpr c53
              have c53b1 : (t374 != 0) = true := bne_iff_ne.mpr c53
              by_cases c67 : t367 = true
              · subst c67
                have H1 : (if (t359.toList == t369.toList && (t360.toList == t370.toList && (t361 == t371 && (t362.toList == t372.toList && (t363 == t373))))) = true then (if 0 ≤ t374 then (if t374 ≤ (l1.length : Int) then ((shardlogref01_Same.f t364 (l1.drop (t374 : Int).toNat)).bind fun t380 => (some t380)) else (none)) else (none)) else (none)) = some r := by rw [if_pos rfl] at H; exact H
                clear H
                have H := H1
                clear H1
                by_cases c68 : (t359.toList == t369.toList && (t360.toList == t370.toList && (t361 == t371 && (t362.toList == t372.toList && (t363 == t373))))) = true
                · rw [if_pos c68] at H
                  have c68b0 : (t359.toList == t369.toList && (t360.toList == t370.toList && (t361 == t371 && (t362.toList == t372.toList && (t363 == t373))))) = true := c68
                  (try (have c68b1 : decide (t359.toList = t369.toList && (t360.toList == t370.toList && (t361 == t371 && (t362.toList == t372.toList && (t363 == t373))))) = true := by simpa using c68))
                  (try (have c68b2 : (t359.toList == t369.toList && (t360.toList == t370.toList && (t361 == t371 && (t362.toList == t372.toList && (t363 == t373))))) = true := by simpa using c68))
                  (try (have c68b3 : decide (t359.toList = t369.toList ∧ t360.toList = t370.toList ∧ t361 = t371 ∧ t362.toList = t372.toList ∧ t363 = t373) = true := by simpa using c68))
                  clear c68
                  by_cases c69 : 0 ≤ t374
                  · rw [if_pos c69] at H
                    have c69b0 := eq_true c69
                    have c69b1 : decide (0 ≤ t374) = true := decide_eq_true c69
                    clear c69
                    by_cases c70 : t374 ≤ (l1.length : Int)
                    · rw [if_pos c70] at H
                      have c70b0 := eq_true c70
                      have c70b1 : decide (t374 ≤ (l1.length : Int)) = true := decide_eq_true c70
                      clear c70
                      obtain ⟨y376, hy376⟩ : ∃ y_ : List Int, y_ = (l1.drop (t374 : Int).toNat) := ⟨_, rfl⟩
                      replace H : ((shardlogref01_Same.f t364 y376).bind fun t380 => (some t380)) = some r := by first | (rw [hy376]; with_reducible exact H) | (have H2_ := (Option.bind_some _ _).symm.trans H; rw [hy376]; with_reducible exact H2_) | (have H2_ := (Option.bind_some _ _).symm.trans H; with_reducible exact H2_) | with_reducible exact H | (rw [hy376]; exact H) | exact H
                      have Ny376 := Aside0.mk hy376
                      clear hy376
                      replace H := Option.bind_eq_some_iff.mp H
                      obtain ⟨t380, A710, H⟩ := H
                      replace H : (some t380) = some r := H
                      have A71 := Aside0.mk A710
                      clear A710
                      obtain rfl := Option.some.inj H
                      go_wp2_with (first | ((with_reducible refine gate_callee (f := 15) rfl ?_); refine goesL_ (some 63) rfl rfl Try.func15 (by kernel_rfl) rfl #[.slice A1 l1.length c1] rfl (by (try simp only [List.map_toArray, List.map_cons, List.map_nil]); first | done | rfl | (simp only [List.length_drop, List.length_take]; rfl)) ?_; (with_reducible refine (cell_Cut.calls kj17 _ _ l1 t359 t360 t361 t362 t363 t364 true _ ?side1 ?side2 A51.out).mono ?_); (case side1 => repeat (first | exact (Kd.C_below HR1.out HB.out) | (with_reducible refine Kd.C_alloc ?_ _) | (with_reducible refine Kd.C_drewN ?_ _) | (with_reducible refine Kd.C_drew ?_))); (case side2 => exact HC1.out); rintro e w72 ⟨v365, rfl, ho0, hb⟩; refine ⟨_, rfl, ?_⟩; have n0_ := Aside0.mk (Kd.Q_lower ho0 (below_size (by repeat (first | (with_reducible first | exact HB.out | apply below_alloc | apply pw_below_drewN | apply below_drew1 | refine below_set ?_ GE327.out) | exact HB.out)))); have n1_ := Aside0.mk (blk_below (g := gb327) (o := .cells #[.string a0_0, .string a0_1, .int .i64 a0_2, .string a0_3, .bool a0_4] 23 (0, 0)) (by (with_reducible repeat (first | refine blk_drewN ?_ _ | refine blk_drew ?_ | refine blk_alloc ?_ _)); exact BK327.out) hb); have n2_ := Aside0.mk (below_step (by repeat (first | (with_reducible first | exact HB.out | apply below_alloc | apply pw_below_drewN | apply below_drew1 | refine below_set ?_ GE327.out) | exact HB.out)) hb); clear BK327; clear HB; have HO366 := n0_; have BK327 := n1_; have HB := n2_; clear n0_ n1_ n2_; (try clear hb); (try clear hb2); (try clear hk); (try clear hi); (try clear ho0)) | ((with_reducible refine gate_dst (N := 9) rfl ?_); (try (refine gate_guard (by rfl) ?_; dsimp only)); refine box_event ?hg (N := 9) ?hd (cs := #[.string (⟨#[]⟩ : ByteArray), .string (⟨#[]⟩ : ByteArray), .int .i64 0, .string (⟨#[]⟩ : ByteArray), .bool false]) (t := 23) ?hr ?_; (case hd => rfl); (case hg => rfl); (case hr => first | (go_simp; done) | (go_simp; rfl)); intro gb368 hg w73 hbox hb; have n0_ := Aside0.mk (Kd.Q_below (by (with_reducible repeat (first | apply Kd.Q_alloc | apply Kd.Q_drewN | apply Kd.Q_drew)); exact HO366.out) hb); have n1_ := Aside0.mk (blk_below (g := gb327) (o := .cells #[.string a0_0, .string a0_1, .int .i64 a0_2, .string a0_3, .bool a0_4] 23 (0, 0)) (by (with_reducible repeat (first | refine blk_drewN ?_ _ | refine blk_drew ?_ | refine blk_alloc ?_ _)); exact BK327.out) hb); have n2_ := Aside0.mk (below_step (by repeat (first | (with_reducible first | exact HB.out | apply below_alloc | apply pw_below_drewN | apply below_drew1 | refine below_set ?_ GE327.out) | exact HB.out)) hb); have n3_ := Aside0.mk (hbox); have n4_ := Aside0.mk ((by rw [hg]; exact (below_size (by repeat (first | (with_reducible first | exact HB.out | apply below_alloc | apply pw_below_drewN | apply below_drew1 | refine below_set ?_ GE327.out) | exact HB.out))) : w.heap.size ≤ gb368)); have n5_ := Aside0.mk ((by rw [hg]; exact (below_size (by repeat (first | (with_reducible first | exact HB.out | apply below_alloc | apply pw_below_drewN | apply below_drew1 | refine below_set ?_ GE327.out) | exact HB.out))) : w.heap.size ≤ gb368)); have n6_ := Aside0.mk ((by rw [hg]; exact Nat.ne_of_lt (blk_lt (g := gb327) (o := .cells #[.string a0_0, .string a0_1, .int .i64 a0_2, .string a0_3, .bool a0_4] 23 (0, 0)) (by (with_reducible repeat (first | refine blk_drewN ?_ _ | refine blk_drew ?_ | refine blk_alloc ?_ _)); exact BK327.out)) : gb327 ≠ gb368)); have n7_ := Aside0.mk ((by rw [hg]; exact Nat.ne_of_gt (blk_lt (g := gb327) (o := .cells #[.string a0_0, .string a0_1, .int .i64 a0_2, .string a0_3, .bool a0_4] 23 (0, 0)) (by (with_reducible repeat (first | refine blk_drewN ?_ _ | refine blk_drew ?_ | refine blk_alloc ?_ _)); exact BK327.out)) : gb368 ≠ gb327)); clear HO366; clear BK327; clear HB; have HO366 := n0_; have BK327 := n1_; have HB := n2_; have BK368 := n3_; have GW368 := n4_; have GE368 := n5_; have NB327_368 := n6_; have NB368_327 := n7_; clear n0_ n1_ n2_ n3_ n4_ n5_ n6_ n7_; clear hb hbox hg; have hnb74 := NB368_327.out; have hnc74 := NB327_368.out; have hcz75_0 : w73.cell? ⟨gb368, 0, none⟩ = some (.string (⟨#[]⟩ : ByteArray)) := (blk_cell BK368.out 0).trans rfl; have hcz75_1 : w73.cell? ⟨gb368, 1, none⟩ = some (.string (⟨#[]⟩ : ByteArray)) := (blk_cell BK368.out 1).trans rfl; have hcz75_2 : w73.cell? ⟨gb368, 2, none⟩ = some (.int .i64 0) := (blk_cell BK368.out 2).trans rfl; have hcz75_3 : w73.cell? ⟨gb368, 3, none⟩ = some (.string (⟨#[]⟩ : ByteArray)) := (blk_cell BK368.out 3).trans rfl; have hcz75_4 : w73.cell? ⟨gb368, 4, none⟩ = some (.bool false) := (blk_cell BK368.out 4).trans rfl; have hfz75_0 := blk_frozen BK368.out 0; have hfz75_1 := blk_frozen BK368.out 1; have hfz75_2 := blk_frozen BK368.out 2; have hfz75_3 := blk_frozen BK368.out 3; have hfz75_4 := blk_frozen BK368.out 4) | ((with_reducible refine gate_callee (f := 18) rfl ?_); refine goesL_ (some 69) rfl rfl Try.func18 (by kernel_rfl) rfl #[.slice A1 l1.length c1, .int .i64 0] rfl (by (try simp only [List.map_toArray, List.map_cons, List.map_nil]); first | done | rfl | (simp only [List.length_drop, List.length_take]; rfl)) ?_; (with_reducible refine (shardlogref08_Cut.calls kj17 _ _ l1 0 t369 t370 t371 t372 t373 t374 _ ?side1 ?side2 A52.out).mono ?_); (case side1 => exact Kd.C_below HR1.out (by repeat (first | (with_reducible first | exact HB.out | apply below_alloc | apply pw_below_drewN | apply below_drew1 | refine below_set ?_ GE327.out | refine below_set ?_ GE368.out) | exact HB.out))); (case side2 => exact HC1.out); rintro e w76 ⟨rfl, hb⟩; refine ⟨_, rfl, ?_⟩; have n0_ := Aside0.mk (Kd.Q_below (by (with_reducible repeat (first | apply Kd.Q_alloc | apply Kd.Q_drewN | apply Kd.Q_drew)); exact (Kd.Q_mono (Kd.Q_far (p := ⟨gb368, 4, none⟩) (Kd.Q_far (p := ⟨gb368, 3, none⟩) (Kd.Q_far (p := ⟨gb368, 2, none⟩) (Kd.Q_far (p := ⟨gb368, 1, none⟩) (Kd.Q_far (p := ⟨gb368, 0, none⟩) (Kd.Q_types HO366.out BK368.out (by decide)) (fun _ hk => hk.2) (.string t359)) (fun _ hk => hk.2) (.string t360)) (fun _ hk => hk.2) (.int .i64 t361)) (fun _ hk => hk.2) (.string t362)) (fun _ hk => hk.2) (.bool t363)) (fun _ h_ => h_.1))) hb); have n1_ := Aside0.mk (blk_below (g := gb327) (o := .cells #[.string a0_0, .string a0_1, .int .i64 a0_2, .string a0_3, .bool a0_4] 23 (0, 0)) (by (with_reducible repeat (first | refine blk_drewN ?_ _ | refine blk_drew ?_ | refine blk_alloc ?_ _)); refine blk_far ?_ NB327_368.out _; (with_reducible repeat (first | refine blk_drewN ?_ _ | refine blk_drew ?_ | refine blk_alloc ?_ _)); refine blk_far ?_ NB327_368.out _; (with_reducible repeat (first | refine blk_drewN ?_ _ | refine blk_drew ?_ | refine blk_alloc ?_ _)); refine blk_far ?_ NB327_368.out _; (with_reducible repeat (first | refine blk_drewN ?_ _ | refine blk_drew ?_ | refine blk_alloc ?_ _)); refine blk_far ?_ NB327_368.out _; (with_reducible repeat (first | refine blk_drewN ?_ _ | refine blk_drew ?_ | refine blk_alloc ?_ _)); refine blk_far ?_ NB327_368.out _; (with_reducible repeat (first | refine blk_drewN ?_ _ | refine blk_drew ?_ | refine blk_alloc ?_ _)); exact BK327.out) hb); have n2_ := Aside0.mk (blk_below (g := gb368) (o := .cells #[.string t359, .string t360, .int .i64 t361, .string t362, .bool t363] 23 (0, 0)) (by (with_reducible repeat (first | refine blk_drewN ?_ _ | refine blk_drew ?_ | refine blk_alloc ?_ _)); refine blk_put (cs := #[.string t359, .string t360, .int .i64 t361, .string t362, .bool false]) ?_ 4 _ rfl; (with_reducible repeat (first | refine blk_drewN ?_ _ | refine blk_drew ?_ | refine blk_alloc ?_ _)); refine blk_put (cs := #[.string t359, .string t360, .int .i64 t361, .string (⟨#[]⟩ : ByteArray), .bool false]) ?_ 3 _ rfl; (with_reducible repeat (first | refine blk_drewN ?_ _ | refine blk_drew ?_ | refine blk_alloc ?_ _)); refine blk_put (cs := #[.string t359, .string t360, .int .i64 0, .string (⟨#[]⟩ : ByteArray), .bool false]) ?_ 2 _ rfl; (with_reducible repeat (first | refine blk_drewN ?_ _ | refine blk_drew ?_ | refine blk_alloc ?_ _)); refine blk_put (cs := #[.string t359, .string (⟨#[]⟩ : ByteArray), .int .i64 0, .string (⟨#[]⟩ : ByteArray), .bool false]) ?_ 1 _ rfl; (with_reducible repeat (first | refine blk_drewN ?_ _ | refine blk_drew ?_ | refine blk_alloc ?_ _)); refine blk_put (cs := #[.string (⟨#[]⟩ : ByteArray), .string (⟨#[]⟩ : ByteArray), .int .i64 0, .string (⟨#[]⟩ : ByteArray), .bool false]) ?_ 0 _ rfl; (with_reducible repeat (first | refine blk_drewN ?_ _ | refine blk_drew ?_ | refine blk_alloc ?_ _)); exact BK368.out) hb); have n3_ := Aside0.mk (below_step (by repeat (first | (with_reducible first | exact HB.out | apply below_alloc | apply pw_below_drewN | apply below_drew1 | refine below_set ?_ GE327.out | refine below_set ?_ GE368.out) | exact HB.out)) hb); clear HO366; clear BK327; clear BK368; clear HB; have HO366 := n0_; have BK327 := n1_; have BK368 := n2_; have HB := n3_; clear n0_ n1_ n2_ n3_; (try clear hb); (try clear hb2); (try clear hk); (try clear hi)) | ((with_reducible refine gate_dst (N := 12) rfl ?_); (try (refine gate_guard (by rfl) ?_; dsimp only)); refine box_event ?hg (N := 12) ?hd (cs := #[.string (⟨#[]⟩ : ByteArray), .string (⟨#[]⟩ : ByteArray), .int .i64 0, .string (⟨#[]⟩ : ByteArray), .bool false]) (t := 23) ?hr ?_; (case hd => rfl); (case hg => rfl); (case hr => first | (go_simp; done) | (go_simp; rfl)); intro gb375 hg w77 hbox hb; have n0_ := Aside0.mk (Kd.Q_below (by (with_reducible repeat (first | apply Kd.Q_alloc | apply Kd.Q_drewN | apply Kd.Q_drew)); exact HO366.out) hb); have n1_ := Aside0.mk (blk_below (g := gb327) (o := .cells #[.string a0_0, .string a0_1, .int .i64 a0_2, .string a0_3, .bool a0_4] 23 (0, 0)) (by (with_reducible repeat (first | refine blk_drewN ?_ _ | refine blk_drew ?_ | refine blk_alloc ?_ _)); exact BK327.out) hb); have n2_ := Aside0.mk (blk_below (g := gb368) (o := .cells #[.string t359, .string t360, .int .i64 t361, .string t362, .bool t363] 23 (0, 0)) (by (with_reducible repeat (first | refine blk_drewN ?_ _ | refine blk_drew ?_ | refine blk_alloc ?_ _)); exact BK368.out) hb); have n3_ := Aside0.mk (below_step (by repeat (first | (with_reducible first | exact HB.out | apply below_alloc | apply pw_below_drewN | apply below_drew1 | refine below_set ?_ GE327.out | refine below_set ?_ GE368.out) | exact HB.out)) hb); have n4_ := Aside0.mk (hbox); have n5_ := Aside0.mk ((by rw [hg]; exact (below_size (by repeat (first | (with_reducible first | exact HB.out | apply below_alloc | apply pw_below_drewN | apply below_drew1 | refine below_set ?_ GE327.out | refine below_set ?_ GE368.out) | exact HB.out))) : w.heap.size ≤ gb375)); have n6_ := Aside0.mk ((by rw [hg]; exact (below_size (by repeat (first | (with_reducible first | exact HB.out | apply below_alloc | apply pw_below_drewN | apply below_drew1 | refine below_set ?_ GE327.out | refine below_set ?_ GE368.out) | exact HB.out))) : w.heap.size ≤ gb375)); have n7_ := Aside0.mk ((by rw [hg]; exact Nat.ne_of_lt (blk_lt (g := gb327) (o := .cells #[.string a0_0, .string a0_1, .int .i64 a0_2, .string a0_3, .bool a0_4] 23 (0, 0)) (by (with_reducible repeat (first | refine blk_drewN ?_ _ | refine blk_drew ?_ | refine blk_alloc ?_ _)); exact BK327.out)) : gb327 ≠ gb375)); have n8_ := Aside0.mk ((by rw [hg]; exact Nat.ne_of_gt (blk_lt (g := gb327) (o := .cells #[.string a0_0, .string a0_1, .int .i64 a0_2, .string a0_3, .bool a0_4] 23 (0, 0)) (by (with_reducible repeat (first | refine blk_drewN ?_ _ | refine blk_drew ?_ | refine blk_alloc ?_ _)); exact BK327.out)) : gb375 ≠ gb327)); have n9_ := Aside0.mk ((by rw [hg]; exact Nat.ne_of_lt (blk_lt (g := gb368) (o := .cells #[.string t359, .string t360, .int .i64 t361, .string t362, .bool t363] 23 (0, 0)) (by (with_reducible repeat (first | refine blk_drewN ?_ _ | refine blk_drew ?_ | refine blk_alloc ?_ _)); exact BK368.out)) : gb368 ≠ gb375)); have n10_ := Aside0.mk ((by rw [hg]; exact Nat.ne_of_gt (blk_lt (g := gb368) (o := .cells #[.string t359, .string t360, .int .i64 t361, .string t362, .bool t363] 23 (0, 0)) (by (with_reducible repeat (first | refine blk_drewN ?_ _ | refine blk_drew ?_ | refine blk_alloc ?_ _)); exact BK368.out)) : gb375 ≠ gb368)); clear HO366; clear BK327; clear BK368; clear HB; have HO366 := n0_; have BK327 := n1_; have BK368 := n2_; have HB := n3_; have BK375 := n4_; have GW375 := n5_; have GE375 := n6_; have NB327_375 := n7_; have NB375_327 := n8_; have NB368_375 := n9_; have NB375_368 := n10_; clear n0_ n1_ n2_ n3_ n4_ n5_ n6_ n7_ n8_ n9_ n10_; clear hb hbox hg; have hnb78 := NB375_327.out; have hnc78 := NB327_375.out; have hnb79 := NB375_368.out; have hnc79 := NB368_375.out; have hcz80_0 : w77.cell? ⟨gb375, 0, none⟩ = some (.string (⟨#[]⟩ : ByteArray)) := (blk_cell BK375.out 0).trans rfl; have hcz80_1 : w77.cell? ⟨gb375, 1, none⟩ = some (.string (⟨#[]⟩ : ByteArray)) := (blk_cell BK375.out 1).trans rfl; have hcz80_2 : w77.cell? ⟨gb375, 2, none⟩ = some (.int .i64 0) := (blk_cell BK375.out 2).trans rfl; have hcz80_3 : w77.cell? ⟨gb375, 3, none⟩ = some (.string (⟨#[]⟩ : ByteArray)) := (blk_cell BK375.out 3).trans rfl; have hcz80_4 : w77.cell? ⟨gb375, 4, none⟩ = some (.bool false) := (blk_cell BK375.out 4).trans rfl; have hfz80_0 := blk_frozen BK375.out 0; have hfz80_1 := blk_frozen BK375.out 1; have hfz80_2 := blk_frozen BK375.out 2; have hfz80_3 := blk_frozen BK375.out 3; have hfz80_4 := blk_frozen BK375.out 4) | ((with_reducible refine gate_store (t := 23) (p := 12) rfl ?_); refine store_event (t := 23) (p := 12) (v := ?vo_w81) (w1 := (((((w77.setCell ⟨gb375, 0, none⟩ (.string t369)).setCell ⟨gb375, 1, none⟩ (.string t370)).setCell ⟨gb375, 2, none⟩ (.int .i64 t371)).setCell ⟨gb375, 3, none⟩ (.string t372)).setCell ⟨gb375, 4, none⟩ (.bool t373))) ?hg ?ho ?hn ?hr ?_; (case ho => rfl); (case hg => rfl); (case hn => rfl); (case hr => first | (go_simp; done) | (go_simp; rfl)); intro w81 hw; have n0_ : Aside0 (Kd.Q (Kd.int .u8) 5 w81 w.heap.size (fun _ => True) v365 t364) := ⟨(by rw [hw]; exact (by (with_reducible repeat (first | apply Kd.Q_alloc | apply Kd.Q_drewN | apply Kd.Q_drew)); exact Kd.Q_mono (Kd.Q_far (p := ⟨gb375, 4, none⟩) (Kd.Q_far (p := ⟨gb375, 3, none⟩) (Kd.Q_far (p := ⟨gb375, 2, none⟩) (Kd.Q_far (p := ⟨gb375, 1, none⟩) (Kd.Q_far (p := ⟨gb375, 0, none⟩) (Kd.Q_types HO366.out BK375.out (by decide)) (fun _ hk => hk.2) (.string t369)) (fun _ hk => hk.2) (.string t370)) (fun _ hk => hk.2) (.int .i64 t371)) (fun _ hk => hk.2) (.string t372)) (fun _ hk => hk.2) (.bool t373)) (fun _ hk => trivial)))⟩; have n1_ : Aside0 (w81.heap[gb327]? = some (.cells #[.string a0_0, .string a0_1, .int .i64 a0_2, .string a0_3, .bool a0_4] 23 (0, 0))) := ⟨(by rw [hw]; exact (by (with_reducible repeat (first | refine blk_drewN ?_ _ | refine blk_drew ?_ | refine blk_alloc ?_ _)); refine blk_far ?_ NB327_375.out _; (with_reducible repeat (first | refine blk_drewN ?_ _ | refine blk_drew ?_ | refine blk_alloc ?_ _)); refine blk_far ?_ NB327_375.out _; (with_reducible repeat (first | refine blk_drewN ?_ _ | refine blk_drew ?_ | refine blk_alloc ?_ _)); refine blk_far ?_ NB327_375.out _; (with_reducible repeat (first | refine blk_drewN ?_ _ | refine blk_drew ?_ | refine blk_alloc ?_ _)); refine blk_far ?_ NB327_375.out _; (with_reducible repeat (first | refine blk_drewN ?_ _ | refine blk_drew ?_ | refine blk_alloc ?_ _)); refine blk_far ?_ NB327_375.out _; (with_reducible repeat (first | refine blk_drewN ?_ _ | refine blk_drew ?_ | refine blk_alloc ?_ _)); exact BK327.out))⟩; have n2_ : Aside0 (w81.heap[gb368]? = some (.cells #[.string t359, .string t360, .int .i64 t361, .string t362, .bool t363] 23 (0, 0))) := ⟨(by rw [hw]; exact (by (with_reducible repeat (first | refine blk_drewN ?_ _ | refine blk_drew ?_ | refine blk_alloc ?_ _)); refine blk_far ?_ NB368_375.out _; (with_reducible repeat (first | refine blk_drewN ?_ _ | refine blk_drew ?_ | refine blk_alloc ?_ _)); refine blk_far ?_ NB368_375.out _; (with_reducible repeat (first | refine blk_drewN ?_ _ | refine blk_drew ?_ | refine blk_alloc ?_ _)); refine blk_far ?_ NB368_375.out _; (with_reducible repeat (first | refine blk_drewN ?_ _ | refine blk_drew ?_ | refine blk_alloc ?_ _)); refine blk_far ?_ NB368_375.out _; (with_reducible repeat (first | refine blk_drewN ?_ _ | refine blk_drew ?_ | refine blk_alloc ?_ _)); refine blk_far ?_ NB368_375.out _; (with_reducible repeat (first | refine blk_drewN ?_ _ | refine blk_drew ?_ | refine blk_alloc ?_ _)); exact BK368.out))⟩; have n3_ : Aside0 (w81.heap[gb375]? = some (.cells #[.string t369, .string t370, .int .i64 t371, .string t372, .bool t373] 23 (0, 0))) := ⟨(by rw [hw]; exact (by (with_reducible repeat (first | refine blk_drewN ?_ _ | refine blk_drew ?_ | refine blk_alloc ?_ _)); refine blk_put (cs := #[.string t369, .string t370, .int .i64 t371, .string t372, .bool false]) ?_ 4 _ rfl; (with_reducible repeat (first | refine blk_drewN ?_ _ | refine blk_drew ?_ | refine blk_alloc ?_ _)); refine blk_put (cs := #[.string t369, .string t370, .int .i64 t371, .string (⟨#[]⟩ : ByteArray), .bool false]) ?_ 3 _ rfl; (with_reducible repeat (first | refine blk_drewN ?_ _ | refine blk_drew ?_ | refine blk_alloc ?_ _)); refine blk_put (cs := #[.string t369, .string t370, .int .i64 0, .string (⟨#[]⟩ : ByteArray), .bool false]) ?_ 2 _ rfl; (with_reducible repeat (first | refine blk_drewN ?_ _ | refine blk_drew ?_ | refine blk_alloc ?_ _)); refine blk_put (cs := #[.string t369, .string (⟨#[]⟩ : ByteArray), .int .i64 0, .string (⟨#[]⟩ : ByteArray), .bool false]) ?_ 1 _ rfl; (with_reducible repeat (first | refine blk_drewN ?_ _ | refine blk_drew ?_ | refine blk_alloc ?_ _)); refine blk_put (cs := #[.string (⟨#[]⟩ : ByteArray), .string (⟨#[]⟩ : ByteArray), .int .i64 0, .string (⟨#[]⟩ : ByteArray), .bool false]) ?_ 0 _ rfl; (with_reducible repeat (first | refine blk_drewN ?_ _ | refine blk_drew ?_ | refine blk_alloc ?_ _)); exact BK375.out))⟩; have n4_ : Aside0 (Below w.heap.size w w81) := ⟨(by rw [hw]; exact (by repeat (first | (with_reducible first | exact HB.out | apply below_alloc | apply pw_below_drewN | apply below_drew1 | refine below_set ?_ GE327.out | refine below_set ?_ GE368.out | refine below_set ?_ GE375.out) | exact HB.out)))⟩; clear hw; clear HO366; clear BK327; clear BK368; clear BK375; clear HB; have HO366 := n0_; have BK327 := n1_; have BK368 := n2_; have BK375 := n3_; have HB := n4_; clear n0_ n1_ n2_ n3_ n4_; have hcz82_0 : w81.cell? ⟨gb368, 0, none⟩ = some (.string t359) := (blk_cell BK368.out 0).trans rfl; have hcz82_1 : w81.cell? ⟨gb368, 1, none⟩ = some (.string t360) := (blk_cell BK368.out 1).trans rfl; have hcz82_2 : w81.cell? ⟨gb368, 2, none⟩ = some (.int .i64 t361) := (blk_cell BK368.out 2).trans rfl; have hcz82_3 : w81.cell? ⟨gb368, 3, none⟩ = some (.string t362) := (blk_cell BK368.out 3).trans rfl; have hcz82_4 : w81.cell? ⟨gb368, 4, none⟩ = some (.bool t363) := (blk_cell BK368.out 4).trans rfl; have hfz82_0 := blk_frozen BK368.out 0; have hfz82_1 := blk_frozen BK368.out 1; have hfz82_2 := blk_frozen BK368.out 2; have hfz82_3 := blk_frozen BK368.out 3; have hfz82_4 := blk_frozen BK368.out 4; have hcz83_0 : w81.cell? ⟨gb375, 0, none⟩ = some (.string t369) := (blk_cell BK375.out 0).trans rfl; have hcz83_1 : w81.cell? ⟨gb375, 1, none⟩ = some (.string t370) := (blk_cell BK375.out 1).trans rfl; have hcz83_2 : w81.cell? ⟨gb375, 2, none⟩ = some (.int .i64 t371) := (blk_cell BK375.out 2).trans rfl; have hcz83_3 : w81.cell? ⟨gb375, 3, none⟩ = some (.string t372) := (blk_cell BK375.out 3).trans rfl; have hcz83_4 : w81.cell? ⟨gb375, 4, none⟩ = some (.bool t373) := (blk_cell BK375.out 4).trans rfl; have hfz83_0 := blk_frozen BK375.out 0; have hfz83_1 := blk_frozen BK375.out 1; have hfz83_2 := blk_frozen BK375.out 2; have hfz83_3 := blk_frozen BK375.out 3; have hfz83_4 := blk_frozen BK375.out 4; have q84 : (t374 : Int) ≤ ((l1.length : Int) : Int) := of_decide_eq_true (by first | (with_reducible assumption) | assumption); obtain ⟨i084, hi084, _, hsz84, _⟩ := info_parts info5; have hroom84 : l1.length ≤ c1 := HC1.out; have hC84 : Kd.C (Kd.int .u8) _ A1 l1.length l1 := HR1.out; have q084 : (0 : Int) ≤ (t374 : Int) := of_decide_eq_true (by first | (with_reducible assumption) | assumption); have hcut84 := cut_from (P := Try.prog) 29 5 .i64 Try.underlying29 hi084 1 hsz84 A1 l1.length c1 t374 q084 q84; have hr84 := Kd.C_drop (m := (t374 : Int).toNat) (c := c1) hC84 (by omega) hroom84; obtain ⟨A84, hA84⟩ : ∃ A1_, A1_ = (if c1 = (t374 : Int).toNat then A1 else (A1 : Option Addr).map (·.add ((t374 : Int).toNat * 1))) := ⟨_, rfl⟩; obtain ⟨c84, hc84⟩ : ∃ c1_, c1_ = c1 - (t374 : Int).toNat := ⟨_, rfl⟩; have hy84 : y376.length = l1.length - (t374 : Int).toNat := (by rw [Ny376.out, List.length_drop] <;> omega); rw [show (l1).drop (t374 : Int).toNat = y376 from Ny376.out.symm] at hr84; replace hr84 : Kd.C (Kd.int .u8) _ A84 y376.length y376 := (by rw [hA84]; exact hr84); rw [← hy84, ← hA84, ← hc84] at hcut84; have HR379 := Aside0.mk hr84; have HC379 := Aside0.mk (show y376.length ≤ c84 from by rw [hy84, hc84]; exact Nat.sub_le_sub_right hroom84 _); clear hr84 hC84 hroom84 hi084 hsz84 hc84; have KY84 := Aside0.mk hy84; have KA84 := Aside0.mk hA84; clear hy84 hA84; replace q84 := eq_true q84; obtain ⟨Ao85, co85, eo85, _⟩ := Kd.Q_slice HO366.out; subst eo85) | (go_at_call 16; (with_reducible refine (shardlogref01_Same.calls _ _ t364 _ _ y376 t380 _ ?side1 ?side2 ?side3 ?side4 A71.out).mono ?_); (case side1 => repeat (first | exact (Kd.Q_reads' HO366.out).2.2 | (with_reducible refine Kd.C_alloc ?_ _) | (with_reducible refine Kd.C_drewN ?_ _) | (with_reducible refine Kd.C_drew ?_))); (case side2 => exact (Kd.Q_reads' HO366.out).2.1); (case side3 => repeat (first | exact (Kd.C_below HR379.out HB.out) | (with_reducible refine Kd.C_alloc ?_ _) | (with_reducible refine Kd.C_drewN ?_ _) | (with_reducible refine Kd.C_drew ?_))); (case side4 => exact HC379.out); rintro e w' ⟨rfl, ⟨nd, rfl⟩⟩))
                      all_goals (try (rename_i hz_; first | exact absurd (of_decide_eq_true c68b3) hz_))
                      go_ret
                      exact ⟨by first | rfl | (simp [errW_none, errW_some] <;> rfl) | (simp [*, errW_none, errW_some] <;> rfl), by repeat (first | (with_reducible first | exact HB.out | apply below_alloc | apply pw_below_drewN | apply below_drew1 | refine below_set ?_ GE327.out | refine below_set ?_ GE368.out | refine below_set ?_ GE375.out) | exact HB.out)⟩
                    · rw [if_neg c70] at H
                      exact absurd H (by simp)
                  · rw [if_neg c69] at H
                    exact absurd H (by simp)
                · rw [if_neg c68] at H
                  exact absurd H (by simp)
              · replace c67 := Bool.eq_false_iff.mpr c67
                subst c67
                have H1 : (none) = some r := by rw [if_neg (show ¬ (false = true) by decide)] at H; exact H
                clear H
                have H := H1
                clear H1
                exact absurd H (by simp)

/-- THE ONE PURE STATEMENT of shardloglaw08_CellBytes. -/
def shardloglaw08_CellBytes.Pure : Prop := ∀ (a0_0 : ByteArray) (a0_1 : ByteArray) (a0_2 : Int) (a0_3 : ByteArray) (a0_4 : Bool) (l1 : List Int), a0_0.size ≤ 140737488351232 → a0_1.size ≤ 140737488351232 → (Lit.int .i64 a0_2).wf = true → a0_3.size ≤ 140737488351232 → (l1.length ≤ maxLen ∧ l1.length * 1 ≤ 140737488351232 ∧ ∀ y0_ ∈ l1, (Lit.int .u8 y0_).wf = true) → ∃ k, shardloglaw08_CellBytes.f k a0_0 a0_1 a0_2 a0_3 a0_4 l1 = some true
theorem shardloglaw08_CellBytes.walk (P : shardloglaw08_CellBytes.Pure) (a0_0 : ByteArray) (a0_1 : ByteArray) (a0_2 : Int) (a0_3 : ByteArray) (a0_4 : Bool) (A1 : Option Addr) (c1 : Nat) (l1 : List Int) (w : World) (wf0_0 : a0_0.size ≤ 140737488351232) (wf0_1 : a0_1.size ≤ 140737488351232) (wf0_2 : (Lit.int .i64 a0_2).wf = true) (wf0_3 : a0_3.size ≤ 140737488351232) (wf1 : (l1.length ≤ maxLen ∧ l1.length * 1 ≤ 140737488351232 ∧ ∀ y0_ ∈ l1, (Lit.int .u8 y0_).wf = true)) (hr1 : Kd.C (Kd.int .u8) w A1 l1.length l1) (hc1 : l1.length ≤ c1) :
    Calls Try.prog 5 #[.agg #[.string a0_0, .string a0_1, .int .i64 a0_2, .string a0_3, .bool a0_4], .slice A1 l1.length c1] w fun e w' => e = .returned (.bool true) ∧ Below w.heap.size w w' := by
  obtain ⟨k, h⟩ := P a0_0 a0_1 a0_2 a0_3 a0_4 l1 wf0_0 wf0_1 wf0_2 wf0_3 wf1
  refine (shardloglaw08_CellBytes.calls k a0_0 a0_1 a0_2 a0_3 a0_4 A1 c1 l1 true w hr1 hc1 h).mono ?_
  rintro e w' ⟨rfl, hd⟩
  exact ⟨rfl, hd⟩

end Go.Proofs.Ytpnbknhjnakehaa.X
