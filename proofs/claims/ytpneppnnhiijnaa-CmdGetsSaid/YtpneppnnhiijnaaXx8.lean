-- written by a program of this session's, over the kit's print
import Derived.Test.YtpneppnnhiijnaaXx0
import Derived.Test.YtpneppnnhiijnaaXx7
namespace Go.Proofs.Ytpneppnnhiijnaa.X
open Go.RowKit Go.Proofs.YtpneppnnhiijnaaW.PrintWords Go.Proofs.YtpneppnnhiijnaaW.PrintLast Go.Proofs.YtpneppnnhiijnaaW.PrintMore
attribute [local go_sem] max2_int min2_int max_two min_two max_three min_three max_four min_four gtr_str   -- for this text's walks alone
set_option linter.unusedVariables false
set_option linter.unusedSimpArgs false

/-! ### shardlogref15_Sound: function 12 -/
def shardlogref15_Sound.j0 : Nat → Bool → Int → Int → Int → ByteArray → ByteArray → ByteArray → Int → ByteArray → ByteArray → Bool → Option (Bool)
  | 0, _, _, _, _, _, _, _, _, _, _, _ => none
  | k + 1, x30, x205000, x205001, x205002, x205003, x205004, x205005, x205006, x205007, x205008, x205009 => if x30 = true then (some false) else (if x205002 = 5 then (if x205004.toList = ([] : List UInt8) then (if x205007.toList = ([] : List UInt8) then (if x205008.toList = ([] : List UInt8) then (if x205009 = true then (some false) else (if (x205003.size : Int) ≤ 64 then (if (x205005.size : Int) ≤ 64 then (if x205006 ≥ 0 then (some (decide (x205006 ≤ 4294967295))) else (some false)) else (some false)) else (some false))) else (some false)) else (some false)) else (some false)) else (if x205005.toList = ([] : List UInt8) then (if x205002 = 3 then (if x205009 = true then (if x205002 = 2 then (if x205007.toList = ([] : List UInt8) then (if (x205008.size : Int) > 256 then (some false) else ((shardlogref08_Right.f x205003 x205004 x205006 x205007 false).bind fun t205 => (some t205))) else (some false)) else (if x205002 = 4 then (if x205007.toList = ([] : List UInt8) then (if (x205008.size : Int) > 256 then (some false) else ((shardlogref08_Right.f x205003 x205004 x205006 x205007 false).bind fun t206 => (some t206))) else (some false)) else (if (x205008.size : Int) > 256 then (some false) else ((shardlogref08_Right.f x205003 x205004 x205006 x205007 false).bind fun t207 => (some t207))))) else (if x205008.toList = ([] : List UInt8) then (if x205002 = 2 then (if x205007.toList = ([] : List UInt8) then (if (x205008.size : Int) > 256 then (some false) else ((shardlogref08_Right.f x205003 x205004 x205006 x205007 false).bind fun t208 => (some t208))) else (some false)) else (if x205002 = 4 then (if x205007.toList = ([] : List UInt8) then (if (x205008.size : Int) > 256 then (some false) else ((shardlogref08_Right.f x205003 x205004 x205006 x205007 false).bind fun t209 => (some t209))) else (some false)) else (if (x205008.size : Int) > 256 then (some false) else ((shardlogref08_Right.f x205003 x205004 x205006 x205007 false).bind fun t210 => (some t210))))) else (some false))) else (if x205009 = true then (some false) else (if x205008.toList = ([] : List UInt8) then (if x205002 = 2 then (if x205007.toList = ([] : List UInt8) then (if (x205008.size : Int) > 256 then (some false) else ((shardlogref08_Right.f x205003 x205004 x205006 x205007 false).bind fun t211 => (some t211))) else (some false)) else (if x205002 = 4 then (if x205007.toList = ([] : List UInt8) then (if (x205008.size : Int) > 256 then (some false) else ((shardlogref08_Right.f x205003 x205004 x205006 x205007 false).bind fun t212 => (some t212))) else (some false)) else (if (x205008.size : Int) > 256 then (some false) else ((shardlogref08_Right.f x205003 x205004 x205006 x205007 false).bind fun t213 => (some t213))))) else (some false)))) else (some false)))
def shardlogref15_Sound.f (k : Nat) (a0_0 : Int) (a0_1 : Int) (a0_2 : Int) (a0_3 : ByteArray) (a0_4 : ByteArray) (a0_5 : ByteArray) (a0_6 : Int) (a0_7 : ByteArray) (a0_8 : ByteArray) (a0_9 : Bool) : Option (Bool) := if a0_0 < 1 then (shardlogref15_Sound.j0 k true a0_0 a0_1 a0_2 a0_3 a0_4 a0_5 a0_6 a0_7 a0_8 a0_9) else (if a0_0 > 16 then (shardlogref15_Sound.j0 k true a0_0 a0_1 a0_2 a0_3 a0_4 a0_5 a0_6 a0_7 a0_8 a0_9) else (if a0_1 < 1 then (shardlogref15_Sound.j0 k true a0_0 a0_1 a0_2 a0_3 a0_4 a0_5 a0_6 a0_7 a0_8 a0_9) else (if a0_1 > 2147483647 then (shardlogref15_Sound.j0 k true a0_0 a0_1 a0_2 a0_3 a0_4 a0_5 a0_6 a0_7 a0_8 a0_9) else (if a0_2 < 1 then (shardlogref15_Sound.j0 k true a0_0 a0_1 a0_2 a0_3 a0_4 a0_5 a0_6 a0_7 a0_8 a0_9) else (shardlogref15_Sound.j0 k (decide (a0_2 > 5)) a0_0 a0_1 a0_2 a0_3 a0_4 a0_5 a0_6 a0_7 a0_8 a0_9)))))
theorem shardlogref15_Sound.mono_l : ∀ k, (∀ y0 y1 y2 y3 y4 y5 y6 y7 y8 y9 y10, LeO (shardlogref15_Sound.j0 k y0 y1 y2 y3 y4 y5 y6 y7 y8 y9 y10) (shardlogref15_Sound.j0 (k + 1) y0 y1 y2 y3 y4 y5 y6 y7 y8 y9 y10))
  | 0 => fun _ _ _ _ _ _ _ _ _ _ _ r h => by simp [shardlogref15_Sound.j0] at h
  | k + 1 => by
    have ih0 := shardlogref15_Sound.mono_l k
    · intro y0 y1 y2 y3 y4 y5 y6 y7 y8 y9 y10
      unfold shardlogref15_Sound.j0
      repeat' first
      | (with_reducible exact ih0 _ _ _ _ _ _ _ _ _ _ _)
      | (with_reducible exact LeO.refl _)
      | (with_reducible exact LeO.none _)
      | (with_reducible refine LeO.ite ?_ ?_)
      | (with_reducible refine LeO.bind ?_ (fun _ => ?_))
      | exact ih0 _ _ _ _ _ _ _ _ _ _ _
      | exact LeO.none _
      | refine LeO.ite ?_ ?_
      | refine LeO.bind ?_ (fun _ => ?_)
theorem shardlogref15_Sound.mono : ∀ a0 a1 a2 a3 a4 a5 a6 a7 a8 a9 k, LeO (shardlogref15_Sound.f k a0 a1 a2 a3 a4 a5 a6 a7 a8 a9) (shardlogref15_Sound.f (k + 1) a0 a1 a2 a3 a4 a5 a6 a7 a8 a9) := by
  intro a0 a1 a2 a3 a4 a5 a6 a7 a8 a9 k
  have ih0 := shardlogref15_Sound.mono_l k
  unfold shardlogref15_Sound.f
  repeat' first
      | (with_reducible exact ih0 _ _ _ _ _ _ _ _ _ _ _)
      | (with_reducible exact LeO.refl _)
      | (with_reducible exact LeO.none _)
      | (with_reducible refine LeO.ite ?_ ?_)
      | (with_reducible refine LeO.bind ?_ (fun _ => ?_))
      | exact ih0 _ _ _ _ _ _ _ _ _ _ _
      | exact LeO.none _
      | refine LeO.ite ?_ ?_
      | refine LeO.bind ?_ (fun _ => ?_)
set_option maxHeartbeats 8000000 in
set_option maxRecDepth 100000 in
theorem shardlogref15_Sound.calls (k : Nat) (a0_0 : Int) (a0_1 : Int) (a0_2 : Int) (a0_3 : ByteArray) (a0_4 : ByteArray) (a0_5 : ByteArray) (a0_6 : Int) (a0_7 : ByteArray) (a0_8 : ByteArray) (a0_9 : Bool) (r : Bool) (w : World) (h : shardlogref15_Sound.f k a0_0 a0_1 a0_2 a0_3 a0_4 a0_5 a0_6 a0_7 a0_8 a0_9 = some r) :
    Calls Try.prog 12 #[.agg #[.int .i64 a0_0, .int .i64 a0_1, .int .i64 a0_2, .string a0_3, .string a0_4, .string a0_5, .int .i64 a0_6, .string a0_7, .string a0_8, .bool a0_9]] w fun e w' => e = .returned (.bool r) ∧ Below w.heap.size w w' := by
  have hu23 := Try.underlying23
  have hu38 := Try.underlying38
  have HB := Aside0.mk (Below.refl w.heap.size w)
  have H : (if a0_0 < 1 then (shardlogref15_Sound.j0 k true a0_0 a0_1 a0_2 a0_3 a0_4 a0_5 a0_6 a0_7 a0_8 a0_9) else (if a0_0 > 16 then (shardlogref15_Sound.j0 k true a0_0 a0_1 a0_2 a0_3 a0_4 a0_5 a0_6 a0_7 a0_8 a0_9) else (if a0_1 < 1 then (shardlogref15_Sound.j0 k true a0_0 a0_1 a0_2 a0_3 a0_4 a0_5 a0_6 a0_7 a0_8 a0_9) else (if a0_1 > 2147483647 then (shardlogref15_Sound.j0 k true a0_0 a0_1 a0_2 a0_3 a0_4 a0_5 a0_6 a0_7 a0_8 a0_9) else (if a0_2 < 1 then (shardlogref15_Sound.j0 k true a0_0 a0_1 a0_2 a0_3 a0_4 a0_5 a0_6 a0_7 a0_8 a0_9) else (shardlogref15_Sound.j0 k (decide (a0_2 > 5)) a0_0 a0_1 a0_2 a0_3 a0_4 a0_5 a0_6 a0_7 a0_8 a0_9)))))) = some r := h
  clear h
  have HC2 := Aside0.mk H
  clear H
  go_enter Try.func12, Try.ntmps12
  go_upto_region 1 with (first | ((with_reducible refine gate_dst (N := 1) rfl ?_); (try (refine gate_guard (by rfl) ?_; dsimp only)); refine box_event ?hg (N := 1) ?hd (cs := #[.int .i64 a0_0, .int .i64 a0_1, .int .i64 a0_2, .string a0_3, .string a0_4, .string a0_5, .int .i64 a0_6, .string a0_7, .string a0_8, .bool a0_9]) (t := 23) ?hr ?_; (case hd => rfl); (case hg => rfl); (case hr => first | (go_simp; done) | (go_simp; rfl)); intro gb204 hg w3 hbox hb; have n0_ := Aside0.mk (below_step (by repeat (first | (with_reducible first | exact HB.out | apply below_alloc | apply pw_below_drewN | apply below_drew1) | exact HB.out)) hb); have n1_ := Aside0.mk (hbox); have n2_ := Aside0.mk ((by rw [hg]; exact (below_size (by repeat (first | (with_reducible first | exact HB.out | apply below_alloc | apply pw_below_drewN | apply below_drew1) | exact HB.out))) : w.heap.size ≤ gb204)); have n3_ := Aside0.mk ((by rw [hg]; exact (below_size (by repeat (first | (with_reducible first | exact HB.out | apply below_alloc | apply pw_below_drewN | apply below_drew1) | exact HB.out))) : w.heap.size ≤ gb204)); clear HB; have HB := n0_; have BK204 := n1_; have GW204 := n2_; have GE204 := n3_; clear n0_ n1_ n2_ n3_; clear hb hbox hg))
  (try simp only [Act.put, List.setIfInBounds_toArray, List.set_cons_zero, List.set_cons_succ])
  go_cut [30] (fun v30 wc => ∃ (kq : Nat) (x30_1 : Bool), v30 = .bool x30_1 ∧ Aside0 (shardlogref15_Sound.j0 kq x30_1 a0_0 a0_1 a0_2 a0_3 a0_4 a0_5 a0_6 a0_7 a0_8 a0_9 = some r) ∧ Aside0 (kq ≤ k) ∧ Aside0 (wc.heap[gb204]? = some (.cells #[.int .i64 a0_0, .int .i64 a0_1, .int .i64 a0_2, .string a0_3, .string a0_4, .string a0_5, .int .i64 a0_6, .string a0_7, .string a0_8, .bool a0_9] 23 (0, 0))) ∧ Aside0 (Below w.heap.size w wc))
  case first =>
    have H := HC2.out
    clear HC2
    by_cases c4 : a0_0 < 1
    · rw [if_pos c4] at H
      have c4b0 : decide (a0_0 < 1) = true := decide_eq_true c4
      clear c4
      (first | rw [c4b0] | (simp only [i64_w, i32_w]; rw [c4b0]) | skip)
      have H' := Aside0.mk H
      clear H
      have hcz5_0 : w3.cell? ⟨gb204, 0, none⟩ = some (.int .i64 a0_0) := (blk_cell BK204.out 0).trans rfl
      have hcz5_1 : w3.cell? ⟨gb204, 1, none⟩ = some (.int .i64 a0_1) := (blk_cell BK204.out 1).trans rfl
      have hcz5_2 : w3.cell? ⟨gb204, 2, none⟩ = some (.int .i64 a0_2) := (blk_cell BK204.out 2).trans rfl
      have hcz5_3 : w3.cell? ⟨gb204, 3, none⟩ = some (.string a0_3) := (blk_cell BK204.out 3).trans rfl
      have hcz5_4 : w3.cell? ⟨gb204, 4, none⟩ = some (.string a0_4) := (blk_cell BK204.out 4).trans rfl
      have hcz5_5 : w3.cell? ⟨gb204, 5, none⟩ = some (.string a0_5) := (blk_cell BK204.out 5).trans rfl
      have hcz5_6 : w3.cell? ⟨gb204, 6, none⟩ = some (.int .i64 a0_6) := (blk_cell BK204.out 6).trans rfl
      have hcz5_7 : w3.cell? ⟨gb204, 7, none⟩ = some (.string a0_7) := (blk_cell BK204.out 7).trans rfl
      have hcz5_8 : w3.cell? ⟨gb204, 8, none⟩ = some (.string a0_8) := (blk_cell BK204.out 8).trans rfl
      have hcz5_9 : w3.cell? ⟨gb204, 9, none⟩ = some (.bool a0_9) := (blk_cell BK204.out 9).trans rfl
      have hfz5_0 := blk_frozen BK204.out 0
      have hfz5_1 := blk_frozen BK204.out 1
      have hfz5_2 := blk_frozen BK204.out 2
      have hfz5_3 := blk_frozen BK204.out 3
      have hfz5_4 := blk_frozen BK204.out 4
      have hfz5_5 := blk_frozen BK204.out 5
      have hfz5_6 := blk_frozen BK204.out 6
      have hfz5_7 := blk_frozen BK204.out 7
      have hfz5_8 := blk_frozen BK204.out 8
      have hfz5_9 := blk_frozen BK204.out 9
      go_wp2
      go_meet
      case rel => exact ⟨_, (true), (by first | rfl | (simp; done) | (simp [*]; done) | (simp; exact (by decide : ∀ a_ b_ : Bool, (a_ == b_) = (!a_ != b_)) _ _)), H', ⟨by first | omega | exact Nat.le_refl _⟩, ⟨by (with_reducible repeat (first | refine blk_drewN ?_ _ | refine blk_drew ?_ | refine blk_alloc ?_ _)); exact BK204.out⟩, ⟨by repeat (first | (with_reducible first | exact HB.out | apply below_alloc | apply pw_below_drewN | apply below_drew1 | refine below_set ?_ GE204.out) | exact HB.out)⟩⟩
    · rw [if_neg c4] at H
      have c4b0 : decide (a0_0 < 1) = false := decide_eq_false c4
      clear c4
      (first | rw [c4b0] | (simp only [i64_w, i32_w]; rw [c4b0]) | skip)
      by_cases c6 : a0_0 > 16
      · rw [if_pos c6] at H
        have c6b0 : decide (16 < a0_0) = true := decide_eq_true c6
        clear c6
        have H' := Aside0.mk H
        clear H
        have hcz7_0 : w3.cell? ⟨gb204, 0, none⟩ = some (.int .i64 a0_0) := (blk_cell BK204.out 0).trans rfl
        have hcz7_1 : w3.cell? ⟨gb204, 1, none⟩ = some (.int .i64 a0_1) := (blk_cell BK204.out 1).trans rfl
        have hcz7_2 : w3.cell? ⟨gb204, 2, none⟩ = some (.int .i64 a0_2) := (blk_cell BK204.out 2).trans rfl
        have hcz7_3 : w3.cell? ⟨gb204, 3, none⟩ = some (.string a0_3) := (blk_cell BK204.out 3).trans rfl
        have hcz7_4 : w3.cell? ⟨gb204, 4, none⟩ = some (.string a0_4) := (blk_cell BK204.out 4).trans rfl
        have hcz7_5 : w3.cell? ⟨gb204, 5, none⟩ = some (.string a0_5) := (blk_cell BK204.out 5).trans rfl
        have hcz7_6 : w3.cell? ⟨gb204, 6, none⟩ = some (.int .i64 a0_6) := (blk_cell BK204.out 6).trans rfl
        have hcz7_7 : w3.cell? ⟨gb204, 7, none⟩ = some (.string a0_7) := (blk_cell BK204.out 7).trans rfl
        have hcz7_8 : w3.cell? ⟨gb204, 8, none⟩ = some (.string a0_8) := (blk_cell BK204.out 8).trans rfl
        have hcz7_9 : w3.cell? ⟨gb204, 9, none⟩ = some (.bool a0_9) := (blk_cell BK204.out 9).trans rfl
        have hfz7_0 := blk_frozen BK204.out 0
        have hfz7_1 := blk_frozen BK204.out 1
        have hfz7_2 := blk_frozen BK204.out 2
        have hfz7_3 := blk_frozen BK204.out 3
        have hfz7_4 := blk_frozen BK204.out 4
        have hfz7_5 := blk_frozen BK204.out 5
        have hfz7_6 := blk_frozen BK204.out 6
        have hfz7_7 := blk_frozen BK204.out 7
        have hfz7_8 := blk_frozen BK204.out 8
        have hfz7_9 := blk_frozen BK204.out 9
        go_wp2
        go_meet
        case rel => exact ⟨_, (true), (by first | rfl | (simp; done) | (simp [*]; done) | (simp; exact (by decide : ∀ a_ b_ : Bool, (a_ == b_) = (!a_ != b_)) _ _)), H', ⟨by first | omega | exact Nat.le_refl _⟩, ⟨by (with_reducible repeat (first | refine blk_drewN ?_ _ | refine blk_drew ?_ | refine blk_alloc ?_ _)); exact BK204.out⟩, ⟨by repeat (first | (with_reducible first | exact HB.out | apply below_alloc | apply pw_below_drewN | apply below_drew1 | refine below_set ?_ GE204.out) | exact HB.out)⟩⟩
      · rw [if_neg c6] at H
        have c6b0 : decide (16 < a0_0) = false := decide_eq_false c6
        clear c6
        by_cases c8 : a0_1 < 1
        · rw [if_pos c8] at H
          have c8b0 : decide (a0_1 < 1) = true := decide_eq_true c8
          clear c8
          have H' := Aside0.mk H
          clear H
          have hcz9_0 : w3.cell? ⟨gb204, 0, none⟩ = some (.int .i64 a0_0) := (blk_cell BK204.out 0).trans rfl
          have hcz9_1 : w3.cell? ⟨gb204, 1, none⟩ = some (.int .i64 a0_1) := (blk_cell BK204.out 1).trans rfl
          have hcz9_2 : w3.cell? ⟨gb204, 2, none⟩ = some (.int .i64 a0_2) := (blk_cell BK204.out 2).trans rfl
          have hcz9_3 : w3.cell? ⟨gb204, 3, none⟩ = some (.string a0_3) := (blk_cell BK204.out 3).trans rfl
          have hcz9_4 : w3.cell? ⟨gb204, 4, none⟩ = some (.string a0_4) := (blk_cell BK204.out 4).trans rfl
          have hcz9_5 : w3.cell? ⟨gb204, 5, none⟩ = some (.string a0_5) := (blk_cell BK204.out 5).trans rfl
          have hcz9_6 : w3.cell? ⟨gb204, 6, none⟩ = some (.int .i64 a0_6) := (blk_cell BK204.out 6).trans rfl
          have hcz9_7 : w3.cell? ⟨gb204, 7, none⟩ = some (.string a0_7) := (blk_cell BK204.out 7).trans rfl
          have hcz9_8 : w3.cell? ⟨gb204, 8, none⟩ = some (.string a0_8) := (blk_cell BK204.out 8).trans rfl
          have hcz9_9 : w3.cell? ⟨gb204, 9, none⟩ = some (.bool a0_9) := (blk_cell BK204.out 9).trans rfl
          have hfz9_0 := blk_frozen BK204.out 0
          have hfz9_1 := blk_frozen BK204.out 1
          have hfz9_2 := blk_frozen BK204.out 2
          have hfz9_3 := blk_frozen BK204.out 3
          have hfz9_4 := blk_frozen BK204.out 4
          have hfz9_5 := blk_frozen BK204.out 5
          have hfz9_6 := blk_frozen BK204.out 6
          have hfz9_7 := blk_frozen BK204.out 7
          have hfz9_8 := blk_frozen BK204.out 8
          have hfz9_9 := blk_frozen BK204.out 9
          go_wp2
          go_meet
          case rel => exact ⟨_, (true), (by first | rfl | (simp; done) | (simp [*]; done) | (simp; exact (by decide : ∀ a_ b_ : Bool, (a_ == b_) = (!a_ != b_)) _ _)), H', ⟨by first | omega | exact Nat.le_refl _⟩, ⟨by (with_reducible repeat (first | refine blk_drewN ?_ _ | refine blk_drew ?_ | refine blk_alloc ?_ _)); exact BK204.out⟩, ⟨by repeat (first | (with_reducible first | exact HB.out | apply below_alloc | apply pw_below_drewN | apply below_drew1 | refine below_set ?_ GE204.out) | exact HB.out)⟩⟩
        · rw [if_neg c8] at H
          have c8b0 : decide (a0_1 < 1) = false := decide_eq_false c8
          clear c8
          by_cases c10 : a0_1 > 2147483647
          · rw [if_pos c10] at H
            have c10b0 : decide (2147483647 < a0_1) = true := decide_eq_true c10
            clear c10
            have H' := Aside0.mk H
            clear H
            have hcz11_0 : w3.cell? ⟨gb204, 0, none⟩ = some (.int .i64 a0_0) := (blk_cell BK204.out 0).trans rfl
            have hcz11_1 : w3.cell? ⟨gb204, 1, none⟩ = some (.int .i64 a0_1) := (blk_cell BK204.out 1).trans rfl
            have hcz11_2 : w3.cell? ⟨gb204, 2, none⟩ = some (.int .i64 a0_2) := (blk_cell BK204.out 2).trans rfl
            have hcz11_3 : w3.cell? ⟨gb204, 3, none⟩ = some (.string a0_3) := (blk_cell BK204.out 3).trans rfl
            have hcz11_4 : w3.cell? ⟨gb204, 4, none⟩ = some (.string a0_4) := (blk_cell BK204.out 4).trans rfl
            have hcz11_5 : w3.cell? ⟨gb204, 5, none⟩ = some (.string a0_5) := (blk_cell BK204.out 5).trans rfl
            have hcz11_6 : w3.cell? ⟨gb204, 6, none⟩ = some (.int .i64 a0_6) := (blk_cell BK204.out 6).trans rfl
            have hcz11_7 : w3.cell? ⟨gb204, 7, none⟩ = some (.string a0_7) := (blk_cell BK204.out 7).trans rfl
            have hcz11_8 : w3.cell? ⟨gb204, 8, none⟩ = some (.string a0_8) := (blk_cell BK204.out 8).trans rfl
            have hcz11_9 : w3.cell? ⟨gb204, 9, none⟩ = some (.bool a0_9) := (blk_cell BK204.out 9).trans rfl
            have hfz11_0 := blk_frozen BK204.out 0
            have hfz11_1 := blk_frozen BK204.out 1
            have hfz11_2 := blk_frozen BK204.out 2
            have hfz11_3 := blk_frozen BK204.out 3
            have hfz11_4 := blk_frozen BK204.out 4
            have hfz11_5 := blk_frozen BK204.out 5
            have hfz11_6 := blk_frozen BK204.out 6
            have hfz11_7 := blk_frozen BK204.out 7
            have hfz11_8 := blk_frozen BK204.out 8
            have hfz11_9 := blk_frozen BK204.out 9
            go_wp2
            go_meet
            case rel => exact ⟨_, (true), (by first | rfl | (simp; done) | (simp [*]; done) | (simp; exact (by decide : ∀ a_ b_ : Bool, (a_ == b_) = (!a_ != b_)) _ _)), H', ⟨by first | omega | exact Nat.le_refl _⟩, ⟨by (with_reducible repeat (first | refine blk_drewN ?_ _ | refine blk_drew ?_ | refine blk_alloc ?_ _)); exact BK204.out⟩, ⟨by repeat (first | (with_reducible first | exact HB.out | apply below_alloc | apply pw_below_drewN | apply below_drew1 | refine below_set ?_ GE204.out) | exact HB.out)⟩⟩
          · rw [if_neg c10] at H
            have c10b0 : decide (2147483647 < a0_1) = false := decide_eq_false c10
            clear c10
            by_cases c12 : a0_2 < 1
            · rw [if_pos c12] at H
              have c12b0 : decide (a0_2 < 1) = true := decide_eq_true c12
              clear c12
              have H' := Aside0.mk H
              clear H
              have hcz13_0 : w3.cell? ⟨gb204, 0, none⟩ = some (.int .i64 a0_0) := (blk_cell BK204.out 0).trans rfl
              have hcz13_1 : w3.cell? ⟨gb204, 1, none⟩ = some (.int .i64 a0_1) := (blk_cell BK204.out 1).trans rfl
              have hcz13_2 : w3.cell? ⟨gb204, 2, none⟩ = some (.int .i64 a0_2) := (blk_cell BK204.out 2).trans rfl
              have hcz13_3 : w3.cell? ⟨gb204, 3, none⟩ = some (.string a0_3) := (blk_cell BK204.out 3).trans rfl
              have hcz13_4 : w3.cell? ⟨gb204, 4, none⟩ = some (.string a0_4) := (blk_cell BK204.out 4).trans rfl
              have hcz13_5 : w3.cell? ⟨gb204, 5, none⟩ = some (.string a0_5) := (blk_cell BK204.out 5).trans rfl
              have hcz13_6 : w3.cell? ⟨gb204, 6, none⟩ = some (.int .i64 a0_6) := (blk_cell BK204.out 6).trans rfl
              have hcz13_7 : w3.cell? ⟨gb204, 7, none⟩ = some (.string a0_7) := (blk_cell BK204.out 7).trans rfl
              have hcz13_8 : w3.cell? ⟨gb204, 8, none⟩ = some (.string a0_8) := (blk_cell BK204.out 8).trans rfl
              have hcz13_9 : w3.cell? ⟨gb204, 9, none⟩ = some (.bool a0_9) := (blk_cell BK204.out 9).trans rfl
              have hfz13_0 := blk_frozen BK204.out 0
              have hfz13_1 := blk_frozen BK204.out 1
              have hfz13_2 := blk_frozen BK204.out 2
              have hfz13_3 := blk_frozen BK204.out 3
              have hfz13_4 := blk_frozen BK204.out 4
              have hfz13_5 := blk_frozen BK204.out 5
              have hfz13_6 := blk_frozen BK204.out 6
              have hfz13_7 := blk_frozen BK204.out 7
              have hfz13_8 := blk_frozen BK204.out 8
              have hfz13_9 := blk_frozen BK204.out 9
              go_wp2
              go_meet
              case rel => exact ⟨_, (true), (by first | rfl | (simp; done) | (simp [*]; done) | (simp; exact (by decide : ∀ a_ b_ : Bool, (a_ == b_) = (!a_ != b_)) _ _)), H', ⟨by first | omega | exact Nat.le_refl _⟩, ⟨by (with_reducible repeat (first | refine blk_drewN ?_ _ | refine blk_drew ?_ | refine blk_alloc ?_ _)); exact BK204.out⟩, ⟨by repeat (first | (with_reducible first | exact HB.out | apply below_alloc | apply pw_below_drewN | apply below_drew1 | refine below_set ?_ GE204.out) | exact HB.out)⟩⟩
            · rw [if_neg c12] at H
              have c12b0 : decide (a0_2 < 1) = false := decide_eq_false c12
              clear c12
              have H' := Aside0.mk H
              clear H
              have hcz14_0 : w3.cell? ⟨gb204, 0, none⟩ = some (.int .i64 a0_0) := (blk_cell BK204.out 0).trans rfl
              have hcz14_1 : w3.cell? ⟨gb204, 1, none⟩ = some (.int .i64 a0_1) := (blk_cell BK204.out 1).trans rfl
              have hcz14_2 : w3.cell? ⟨gb204, 2, none⟩ = some (.int .i64 a0_2) := (blk_cell BK204.out 2).trans rfl
              have hcz14_3 : w3.cell? ⟨gb204, 3, none⟩ = some (.string a0_3) := (blk_cell BK204.out 3).trans rfl
              have hcz14_4 : w3.cell? ⟨gb204, 4, none⟩ = some (.string a0_4) := (blk_cell BK204.out 4).trans rfl
              have hcz14_5 : w3.cell? ⟨gb204, 5, none⟩ = some (.string a0_5) := (blk_cell BK204.out 5).trans rfl
              have hcz14_6 : w3.cell? ⟨gb204, 6, none⟩ = some (.int .i64 a0_6) := (blk_cell BK204.out 6).trans rfl
              have hcz14_7 : w3.cell? ⟨gb204, 7, none⟩ = some (.string a0_7) := (blk_cell BK204.out 7).trans rfl
              have hcz14_8 : w3.cell? ⟨gb204, 8, none⟩ = some (.string a0_8) := (blk_cell BK204.out 8).trans rfl
              have hcz14_9 : w3.cell? ⟨gb204, 9, none⟩ = some (.bool a0_9) := (blk_cell BK204.out 9).trans rfl
              have hfz14_0 := blk_frozen BK204.out 0
              have hfz14_1 := blk_frozen BK204.out 1
              have hfz14_2 := blk_frozen BK204.out 2
              have hfz14_3 := blk_frozen BK204.out 3
              have hfz14_4 := blk_frozen BK204.out 4
              have hfz14_5 := blk_frozen BK204.out 5
              have hfz14_6 := blk_frozen BK204.out 6
              have hfz14_7 := blk_frozen BK204.out 7
              have hfz14_8 := blk_frozen BK204.out 8
              have hfz14_9 := blk_frozen BK204.out 9
              go_wp2
              go_meet
              case rel => exact ⟨_, (decide (a0_2 > 5)), (by first | rfl | (simp; done) | (simp [*]; done) | (simp; exact (by decide : ∀ a_ b_ : Bool, (a_ == b_) = (!a_ != b_)) _ _)), H', ⟨by first | omega | exact Nat.le_refl _⟩, ⟨by (with_reducible repeat (first | refine blk_drewN ?_ _ | refine blk_drew ?_ | refine blk_alloc ?_ _)); exact BK204.out⟩, ⟨by repeat (first | (with_reducible first | exact HB.out | apply below_alloc | apply pw_below_drewN | apply below_drew1 | refine below_set ?_ GE204.out) | exact HB.out)⟩⟩
  case rest =>
    clear HC2
    try clear c1
    try clear p2
    try clear c4
    try clear c4b0
    try clear c6
    try clear c6b0
    try clear c8
    try clear c8b0
    try clear c10
    try clear c10b0
    try clear c12
    try clear c12b0
    try clear hcz11_0
    try clear hcz11_1
    try clear hcz11_2
    try clear hcz11_3
    try clear hcz11_4
    try clear hcz11_5
    try clear hcz11_6
    try clear hcz11_7
    try clear hcz11_8
    try clear hcz11_9
    try clear hcz13_0
    try clear hcz13_1
    try clear hcz13_2
    try clear hcz13_3
    try clear hcz13_4
    try clear hcz13_5
    try clear hcz13_6
    try clear hcz13_7
    try clear hcz13_8
    try clear hcz13_9
    try clear hcz14_0
    try clear hcz14_1
    try clear hcz14_2
    try clear hcz14_3
    try clear hcz14_4
    try clear hcz14_5
    try clear hcz14_6
    try clear hcz14_7
    try clear hcz14_8
    try clear hcz14_9
    try clear hcz5_0
    try clear hcz5_1
    try clear hcz5_2
    try clear hcz5_3
    try clear hcz5_4
    try clear hcz5_5
    try clear hcz5_6
    try clear hcz5_7
    try clear hcz5_8
    try clear hcz5_9
    try clear hcz7_0
    try clear hcz7_1
    try clear hcz7_2
    try clear hcz7_3
    try clear hcz7_4
    try clear hcz7_5
    try clear hcz7_6
    try clear hcz7_7
    try clear hcz7_8
    try clear hcz7_9
    try clear hcz9_0
    try clear hcz9_1
    try clear hcz9_2
    try clear hcz9_3
    try clear hcz9_4
    try clear hcz9_5
    try clear hcz9_6
    try clear hcz9_7
    try clear hcz9_8
    try clear hcz9_9
    try clear hfz11_0
    try clear hfz11_1
    try clear hfz11_2
    try clear hfz11_3
    try clear hfz11_4
    try clear hfz11_5
    try clear hfz11_6
    try clear hfz11_7
    try clear hfz11_8
    try clear hfz11_9
    try clear hfz13_0
    try clear hfz13_1
    try clear hfz13_2
    try clear hfz13_3
    try clear hfz13_4
    try clear hfz13_5
    try clear hfz13_6
    try clear hfz13_7
    try clear hfz13_8
    try clear hfz13_9
    try clear hfz14_0
    try clear hfz14_1
    try clear hfz14_2
    try clear hfz14_3
    try clear hfz14_4
    try clear hfz14_5
    try clear hfz14_6
    try clear hfz14_7
    try clear hfz14_8
    try clear hfz14_9
    try clear hfz5_0
    try clear hfz5_1
    try clear hfz5_2
    try clear hfz5_3
    try clear hfz5_4
    try clear hfz5_5
    try clear hfz5_6
    try clear hfz5_7
    try clear hfz5_8
    try clear hfz5_9
    try clear hfz7_0
    try clear hfz7_1
    try clear hfz7_2
    try clear hfz7_3
    try clear hfz7_4
    try clear hfz7_5
    try clear hfz7_6
    try clear hfz7_7
    try clear hfz7_8
    try clear hfz7_9
    try clear hfz9_0
    try clear hfz9_1
    try clear hfz9_2
    try clear hfz9_3
    try clear hfz9_4
    try clear hfz9_5
    try clear hfz9_6
    try clear hfz9_7
    try clear hfz9_8
    try clear hfz9_9
    obtain ⟨kq, x30_1, rfl, HA, HJ1, BK204, HB⟩ := hcut
    cases kq with
    | zero => exact absurd HA.out (by simp [shardlogref15_Sound.j0])
    | succ kj1 =>
      have H := HA.out
      clear HA
      simp only [shardlogref15_Sound.j0] at H
      by_cases c15 : x30_1 = true
      · subst c15
        have H1 : (some false) = some r := by rw [if_pos rfl] at H; exact H
        clear H
        have H := H1
        clear H1
        obtain rfl := Option.some.inj H
        go_wp2
        go_ret
        exact ⟨by first | rfl | (simp [errW_none, errW_some] <;> rfl) | (simp [*, errW_none, errW_some] <;> rfl), by repeat (first | (with_reducible first | exact HB.out | apply below_alloc | apply pw_below_drewN | apply below_drew1 | refine below_set ?_ GE204.out) | exact HB.out)⟩
      · replace c15 := Bool.eq_false_iff.mpr c15
        subst c15
        have H1 : (if a0_2 = 5 then (if a0_4.toList = ([] : List UInt8) then (if a0_7.toList = ([] : List UInt8) then (if a0_8.toList = ([] : List UInt8) then (if a0_9 = true then (some false) else (if (a0_3.size : Int) ≤ 64 then (if (a0_5.size : Int) ≤ 64 then (if a0_6 ≥ 0 then (some (decide (a0_6 ≤ 4294967295))) else (some false)) else (some false)) else (some false))) else (some false)) else (some false)) else (some false)) else (if a0_5.toList = ([] : List UInt8) then (if a0_2 = 3 then (if a0_9 = true then (if a0_2 = 2 then (if a0_7.toList = ([] : List UInt8) then (if (a0_8.size : Int) > 256 then (some false) else ((shardlogref08_Right.f a0_3 a0_4 a0_6 a0_7 false).bind fun t205 => (some t205))) else (some false)) else (if a0_2 = 4 then (if a0_7.toList = ([] : List UInt8) then (if (a0_8.size : Int) > 256 then (some false) else ((shardlogref08_Right.f a0_3 a0_4 a0_6 a0_7 false).bind fun t206 => (some t206))) else (some false)) else (if (a0_8.size : Int) > 256 then (some false) else ((shardlogref08_Right.f a0_3 a0_4 a0_6 a0_7 false).bind fun t207 => (some t207))))) else (if a0_8.toList = ([] : List UInt8) then (if a0_2 = 2 then (if a0_7.toList = ([] : List UInt8) then (if (a0_8.size : Int) > 256 then (some false) else ((shardlogref08_Right.f a0_3 a0_4 a0_6 a0_7 false).bind fun t208 => (some t208))) else (some false)) else (if a0_2 = 4 then (if a0_7.toList = ([] : List UInt8) then (if (a0_8.size : Int) > 256 then (some false) else ((shardlogref08_Right.f a0_3 a0_4 a0_6 a0_7 false).bind fun t209 => (some t209))) else (some false)) else (if (a0_8.size : Int) > 256 then (some false) else ((shardlogref08_Right.f a0_3 a0_4 a0_6 a0_7 false).bind fun t210 => (some t210))))) else (some false))) else (if a0_9 = true then (some false) else (if a0_8.toList = ([] : List UInt8) then (if a0_2 = 2 then (if a0_7.toList = ([] : List UInt8) then (if (a0_8.size : Int) > 256 then (some false) else ((shardlogref08_Right.f a0_3 a0_4 a0_6 a0_7 false).bind fun t211 => (some t211))) else (some false)) else (if a0_2 = 4 then (if a0_7.toList = ([] : List UInt8) then (if (a0_8.size : Int) > 256 then (some false) else ((shardlogref08_Right.f a0_3 a0_4 a0_6 a0_7 false).bind fun t212 => (some t212))) else (some false)) else (if (a0_8.size : Int) > 256 then (some false) else ((shardlogref08_Right.f a0_3 a0_4 a0_6 a0_7 false).bind fun t213 => (some t213))))) else (some false)))) else (some false))) = some r := by rw [if_neg (show ¬ (false = true) by decide)] at H; exact H
        clear H
        have H := H1
        clear H1
        by_cases c16 : a0_2 = 5
        · rw [if_pos c16] at H
          have c16b0 : (a0_2 == 5) = true := beq_iff_eq.mpr c16
          have c16b1 : (a0_2 != 5) = false := bne_eq_false_iff_eq.mpr c16
          clear c16
          by_cases c17 : a0_4.toList = ([] : List UInt8)
          · rw [if_pos c17] at H
            have c17b0 : (a0_4.toList == ([] : List UInt8)) = true := beq_iff_eq.mpr c17
            have c17b1 : (a0_4.toList != ([] : List UInt8)) = false := bne_eq_false_iff_eq.mpr c17
            clear c17
            by_cases c18 : a0_7.toList = ([] : List UInt8)
            · rw [if_pos c18] at H
              have c18b0 : (a0_7.toList == ([] : List UInt8)) = true := beq_iff_eq.mpr c18
              have c18b1 : (a0_7.toList != ([] : List UInt8)) = false := bne_eq_false_iff_eq.mpr c18
              clear c18
              by_cases c19 : a0_8.toList = ([] : List UInt8)
              · rw [if_pos c19] at H
                have c19b0 : (a0_8.toList == ([] : List UInt8)) = true := beq_iff_eq.mpr c19
                have c19b1 : (a0_8.toList != ([] : List UInt8)) = false := bne_eq_false_iff_eq.mpr c19
                clear c19
                by_cases c20 : a0_9 = true
                · subst c20
                  have H1 : (some false) = some r := by rw [if_pos rfl] at H; exact H
                  clear H
                  have H := H1
                  clear H1
                  obtain rfl := Option.some.inj H
                  have hcz21_0 : wc.cell? ⟨gb204, 0, none⟩ = some (.int .i64 a0_0) := (blk_cell BK204.out 0).trans rfl
                  have hcz21_1 : wc.cell? ⟨gb204, 1, none⟩ = some (.int .i64 a0_1) := (blk_cell BK204.out 1).trans rfl
                  have hcz21_2 : wc.cell? ⟨gb204, 2, none⟩ = some (.int .i64 a0_2) := (blk_cell BK204.out 2).trans rfl
                  have hcz21_3 : wc.cell? ⟨gb204, 3, none⟩ = some (.string a0_3) := (blk_cell BK204.out 3).trans rfl
                  have hcz21_4 : wc.cell? ⟨gb204, 4, none⟩ = some (.string a0_4) := (blk_cell BK204.out 4).trans rfl
                  have hcz21_5 : wc.cell? ⟨gb204, 5, none⟩ = some (.string a0_5) := (blk_cell BK204.out 5).trans rfl
                  have hcz21_6 : wc.cell? ⟨gb204, 6, none⟩ = some (.int .i64 a0_6) := (blk_cell BK204.out 6).trans rfl
                  have hcz21_7 : wc.cell? ⟨gb204, 7, none⟩ = some (.string a0_7) := (blk_cell BK204.out 7).trans rfl
                  have hcz21_8 : wc.cell? ⟨gb204, 8, none⟩ = some (.string a0_8) := (blk_cell BK204.out 8).trans rfl
                  have hcz21_9 : wc.cell? ⟨gb204, 9, none⟩ = some (.bool true) := (blk_cell BK204.out 9).trans rfl
                  have hfz21_0 := blk_frozen BK204.out 0
                  have hfz21_1 := blk_frozen BK204.out 1
                  have hfz21_2 := blk_frozen BK204.out 2
                  have hfz21_3 := blk_frozen BK204.out 3
                  have hfz21_4 := blk_frozen BK204.out 4
                  have hfz21_5 := blk_frozen BK204.out 5
                  have hfz21_6 := blk_frozen BK204.out 6
                  have hfz21_7 := blk_frozen BK204.out 7
                  have hfz21_8 := blk_frozen BK204.out 8
                  have hfz21_9 := blk_frozen BK204.out 9
                  go_wp2
                  go_ret
                  exact ⟨by first | rfl | (simp [errW_none, errW_some] <;> rfl) | (simp [*, errW_none, errW_some] <;> rfl), by repeat (first | (with_reducible first | exact HB.out | apply below_alloc | apply pw_below_drewN | apply below_drew1 | refine below_set ?_ GE204.out) | exact HB.out)⟩
                · replace c20 := Bool.eq_false_iff.mpr c20
                  subst c20
                  have H1 : (if (a0_3.size : Int) ≤ 64 then (if (a0_5.size : Int) ≤ 64 then (if a0_6 ≥ 0 then (some (decide (a0_6 ≤ 4294967295))) else (some false)) else (some false)) else (some false)) = some r := by rw [if_neg (show ¬ (false = true) by decide)] at H; exact H
                  clear H
                  have H := H1
                  clear H1
                  by_cases c22 : (a0_3.size : Int) ≤ 64
                  · rw [if_pos c22] at H
                    have c22b0 : decide ((a0_3.size : Int) ≤ 64) = true := decide_eq_true c22
                    have c22b1 : decide (a0_3.size ≤ 64) = true := decide_eq_true (by omega)
                    clear c22
                    by_cases c23 : (a0_5.size : Int) ≤ 64
                    · rw [if_pos c23] at H
                      have c23b0 : decide ((a0_5.size : Int) ≤ 64) = true := decide_eq_true c23
                      have c23b1 : decide (a0_5.size ≤ 64) = true := decide_eq_true (by omega)
                      clear c23
                      by_cases c24 : a0_6 ≥ 0
                      · rw [if_pos c24] at H
                        have c24b0 : decide (0 ≤ a0_6) = true := decide_eq_true c24
                        clear c24
                        obtain rfl := Option.some.inj H
                        have hcz25_0 : wc.cell? ⟨gb204, 0, none⟩ = some (.int .i64 a0_0) := (blk_cell BK204.out 0).trans rfl
                        have hcz25_1 : wc.cell? ⟨gb204, 1, none⟩ = some (.int .i64 a0_1) := (blk_cell BK204.out 1).trans rfl
                        have hcz25_2 : wc.cell? ⟨gb204, 2, none⟩ = some (.int .i64 a0_2) := (blk_cell BK204.out 2).trans rfl
                        have hcz25_3 : wc.cell? ⟨gb204, 3, none⟩ = some (.string a0_3) := (blk_cell BK204.out 3).trans rfl
                        have hcz25_4 : wc.cell? ⟨gb204, 4, none⟩ = some (.string a0_4) := (blk_cell BK204.out 4).trans rfl
                        have hcz25_5 : wc.cell? ⟨gb204, 5, none⟩ = some (.string a0_5) := (blk_cell BK204.out 5).trans rfl
                        have hcz25_6 : wc.cell? ⟨gb204, 6, none⟩ = some (.int .i64 a0_6) := (blk_cell BK204.out 6).trans rfl
                        have hcz25_7 : wc.cell? ⟨gb204, 7, none⟩ = some (.string a0_7) := (blk_cell BK204.out 7).trans rfl
                        have hcz25_8 : wc.cell? ⟨gb204, 8, none⟩ = some (.string a0_8) := (blk_cell BK204.out 8).trans rfl
                        have hcz25_9 : wc.cell? ⟨gb204, 9, none⟩ = some (.bool false) := (blk_cell BK204.out 9).trans rfl
                        have hfz25_0 := blk_frozen BK204.out 0
                        have hfz25_1 := blk_frozen BK204.out 1
                        have hfz25_2 := blk_frozen BK204.out 2
                        have hfz25_3 := blk_frozen BK204.out 3
                        have hfz25_4 := blk_frozen BK204.out 4
                        have hfz25_5 := blk_frozen BK204.out 5
                        have hfz25_6 := blk_frozen BK204.out 6
                        have hfz25_7 := blk_frozen BK204.out 7
                        have hfz25_8 := blk_frozen BK204.out 8
                        have hfz25_9 := blk_frozen BK204.out 9
                        go_wp2
                        go_ret
                        exact ⟨by first | rfl | (simp [errW_none, errW_some] <;> rfl) | (simp [*, errW_none, errW_some] <;> rfl), by repeat (first | (with_reducible first | exact HB.out | apply below_alloc | apply pw_below_drewN | apply below_drew1 | refine below_set ?_ GE204.out) | exact HB.out)⟩
                      · rw [if_neg c24] at H
                        have c24b0 : decide (0 ≤ a0_6) = false := decide_eq_false c24
                        clear c24
                        obtain rfl := Option.some.inj H
                        have hcz26_0 : wc.cell? ⟨gb204, 0, none⟩ = some (.int .i64 a0_0) := (blk_cell BK204.out 0).trans rfl
                        have hcz26_1 : wc.cell? ⟨gb204, 1, none⟩ = some (.int .i64 a0_1) := (blk_cell BK204.out 1).trans rfl
                        have hcz26_2 : wc.cell? ⟨gb204, 2, none⟩ = some (.int .i64 a0_2) := (blk_cell BK204.out 2).trans rfl
                        have hcz26_3 : wc.cell? ⟨gb204, 3, none⟩ = some (.string a0_3) := (blk_cell BK204.out 3).trans rfl
                        have hcz26_4 : wc.cell? ⟨gb204, 4, none⟩ = some (.string a0_4) := (blk_cell BK204.out 4).trans rfl
                        have hcz26_5 : wc.cell? ⟨gb204, 5, none⟩ = some (.string a0_5) := (blk_cell BK204.out 5).trans rfl
                        have hcz26_6 : wc.cell? ⟨gb204, 6, none⟩ = some (.int .i64 a0_6) := (blk_cell BK204.out 6).trans rfl
                        have hcz26_7 : wc.cell? ⟨gb204, 7, none⟩ = some (.string a0_7) := (blk_cell BK204.out 7).trans rfl
                        have hcz26_8 : wc.cell? ⟨gb204, 8, none⟩ = some (.string a0_8) := (blk_cell BK204.out 8).trans rfl
                        have hcz26_9 : wc.cell? ⟨gb204, 9, none⟩ = some (.bool false) := (blk_cell BK204.out 9).trans rfl
                        have hfz26_0 := blk_frozen BK204.out 0
                        have hfz26_1 := blk_frozen BK204.out 1
                        have hfz26_2 := blk_frozen BK204.out 2
                        have hfz26_3 := blk_frozen BK204.out 3
                        have hfz26_4 := blk_frozen BK204.out 4
                        have hfz26_5 := blk_frozen BK204.out 5
                        have hfz26_6 := blk_frozen BK204.out 6
                        have hfz26_7 := blk_frozen BK204.out 7
                        have hfz26_8 := blk_frozen BK204.out 8
                        have hfz26_9 := blk_frozen BK204.out 9
                        go_wp2
                        go_ret
                        exact ⟨by first | rfl | (simp [errW_none, errW_some] <;> rfl) | (simp [*, errW_none, errW_some] <;> rfl), by repeat (first | (with_reducible first | exact HB.out | apply below_alloc | apply pw_below_drewN | apply below_drew1 | refine below_set ?_ GE204.out) | exact HB.out)⟩
                    · rw [if_neg c23] at H
                      have c23b0 : decide ((a0_5.size : Int) ≤ 64) = false := decide_eq_false c23
                      have c23b1 : decide (a0_5.size ≤ 64) = false := decide_eq_false (by omega)
                      clear c23
                      obtain rfl := Option.some.inj H
                      have hcz27_0 : wc.cell? ⟨gb204, 0, none⟩ = some (.int .i64 a0_0) := (blk_cell BK204.out 0).trans rfl
                      have hcz27_1 : wc.cell? ⟨gb204, 1, none⟩ = some (.int .i64 a0_1) := (blk_cell BK204.out 1).trans rfl
                      have hcz27_2 : wc.cell? ⟨gb204, 2, none⟩ = some (.int .i64 a0_2) := (blk_cell BK204.out 2).trans rfl
                      have hcz27_3 : wc.cell? ⟨gb204, 3, none⟩ = some (.string a0_3) := (blk_cell BK204.out 3).trans rfl
                      have hcz27_4 : wc.cell? ⟨gb204, 4, none⟩ = some (.string a0_4) := (blk_cell BK204.out 4).trans rfl
                      have hcz27_5 : wc.cell? ⟨gb204, 5, none⟩ = some (.string a0_5) := (blk_cell BK204.out 5).trans rfl
                      have hcz27_6 : wc.cell? ⟨gb204, 6, none⟩ = some (.int .i64 a0_6) := (blk_cell BK204.out 6).trans rfl
                      have hcz27_7 : wc.cell? ⟨gb204, 7, none⟩ = some (.string a0_7) := (blk_cell BK204.out 7).trans rfl
                      have hcz27_8 : wc.cell? ⟨gb204, 8, none⟩ = some (.string a0_8) := (blk_cell BK204.out 8).trans rfl
                      have hcz27_9 : wc.cell? ⟨gb204, 9, none⟩ = some (.bool false) := (blk_cell BK204.out 9).trans rfl
                      have hfz27_0 := blk_frozen BK204.out 0
                      have hfz27_1 := blk_frozen BK204.out 1
                      have hfz27_2 := blk_frozen BK204.out 2
                      have hfz27_3 := blk_frozen BK204.out 3
                      have hfz27_4 := blk_frozen BK204.out 4
                      have hfz27_5 := blk_frozen BK204.out 5
                      have hfz27_6 := blk_frozen BK204.out 6
                      have hfz27_7 := blk_frozen BK204.out 7
                      have hfz27_8 := blk_frozen BK204.out 8
                      have hfz27_9 := blk_frozen BK204.out 9
                      go_wp2
                      go_ret
                      exact ⟨by first | rfl | (simp [errW_none, errW_some] <;> rfl) | (simp [*, errW_none, errW_some] <;> rfl), by repeat (first | (with_reducible first | exact HB.out | apply below_alloc | apply pw_below_drewN | apply below_drew1 | refine below_set ?_ GE204.out) | exact HB.out)⟩
                  · rw [if_neg c22] at H
                    have c22b0 : decide ((a0_3.size : Int) ≤ 64) = false := decide_eq_false c22
                    have c22b1 : decide (a0_3.size ≤ 64) = false := decide_eq_false (by omega)
                    clear c22
                    obtain rfl := Option.some.inj H
                    have hcz28_0 : wc.cell? ⟨gb204, 0, none⟩ = some (.int .i64 a0_0) := (blk_cell BK204.out 0).trans rfl
                    have hcz28_1 : wc.cell? ⟨gb204, 1, none⟩ = some (.int .i64 a0_1) := (blk_cell BK204.out 1).trans rfl
                    have hcz28_2 : wc.cell? ⟨gb204, 2, none⟩ = some (.int .i64 a0_2) := (blk_cell BK204.out 2).trans rfl
                    have hcz28_3 : wc.cell? ⟨gb204, 3, none⟩ = some (.string a0_3) := (blk_cell BK204.out 3).trans rfl
                    have hcz28_4 : wc.cell? ⟨gb204, 4, none⟩ = some (.string a0_4) := (blk_cell BK204.out 4).trans rfl
                    have hcz28_5 : wc.cell? ⟨gb204, 5, none⟩ = some (.string a0_5) := (blk_cell BK204.out 5).trans rfl
                    have hcz28_6 : wc.cell? ⟨gb204, 6, none⟩ = some (.int .i64 a0_6) := (blk_cell BK204.out 6).trans rfl
                    have hcz28_7 : wc.cell? ⟨gb204, 7, none⟩ = some (.string a0_7) := (blk_cell BK204.out 7).trans rfl
                    have hcz28_8 : wc.cell? ⟨gb204, 8, none⟩ = some (.string a0_8) := (blk_cell BK204.out 8).trans rfl
                    have hcz28_9 : wc.cell? ⟨gb204, 9, none⟩ = some (.bool false) := (blk_cell BK204.out 9).trans rfl
                    have hfz28_0 := blk_frozen BK204.out 0
                    have hfz28_1 := blk_frozen BK204.out 1
                    have hfz28_2 := blk_frozen BK204.out 2
                    have hfz28_3 := blk_frozen BK204.out 3
                    have hfz28_4 := blk_frozen BK204.out 4
                    have hfz28_5 := blk_frozen BK204.out 5
                    have hfz28_6 := blk_frozen BK204.out 6
                    have hfz28_7 := blk_frozen BK204.out 7
                    have hfz28_8 := blk_frozen BK204.out 8
                    have hfz28_9 := blk_frozen BK204.out 9
                    go_wp2
                    go_ret
                    exact ⟨by first | rfl | (simp [errW_none, errW_some] <;> rfl) | (simp [*, errW_none, errW_some] <;> rfl), by repeat (first | (with_reducible first | exact HB.out | apply below_alloc | apply pw_below_drewN | apply below_drew1 | refine below_set ?_ GE204.out) | exact HB.out)⟩
              · rw [if_neg c19] at H
                have c19b0 : (a0_8.toList == ([] : List UInt8)) = false := beq_eq_false_iff_ne.mpr c19
                have c19b1 : (a0_8.toList != ([] : List UInt8)) = true := bne_iff_ne.mpr c19
                obtain rfl := Option.some.inj H
                have hcz29_0 : wc.cell? ⟨gb204, 0, none⟩ = some (.int .i64 a0_0) := (blk_cell BK204.out 0).trans rfl
                have hcz29_1 : wc.cell? ⟨gb204, 1, none⟩ = some (.int .i64 a0_1) := (blk_cell BK204.out 1).trans rfl
                have hcz29_2 : wc.cell? ⟨gb204, 2, none⟩ = some (.int .i64 a0_2) := (blk_cell BK204.out 2).trans rfl
                have hcz29_3 : wc.cell? ⟨gb204, 3, none⟩ = some (.string a0_3) := (blk_cell BK204.out 3).trans rfl
                have hcz29_4 : wc.cell? ⟨gb204, 4, none⟩ = some (.string a0_4) := (blk_cell BK204.out 4).trans rfl
                have hcz29_5 : wc.cell? ⟨gb204, 5, none⟩ = some (.string a0_5) := (blk_cell BK204.out 5).trans rfl
                have hcz29_6 : wc.cell? ⟨gb204, 6, none⟩ = some (.int .i64 a0_6) := (blk_cell BK204.out 6).trans rfl
                have hcz29_7 : wc.cell? ⟨gb204, 7, none⟩ = some (.string a0_7) := (blk_cell BK204.out 7).trans rfl
                have hcz29_8 : wc.cell? ⟨gb204, 8, none⟩ = some (.string a0_8) := (blk_cell BK204.out 8).trans rfl
                have hcz29_9 : wc.cell? ⟨gb204, 9, none⟩ = some (.bool a0_9) := (blk_cell BK204.out 9).trans rfl
                have hfz29_0 := blk_frozen BK204.out 0
                have hfz29_1 := blk_frozen BK204.out 1
                have hfz29_2 := blk_frozen BK204.out 2
                have hfz29_3 := blk_frozen BK204.out 3
                have hfz29_4 := blk_frozen BK204.out 4
                have hfz29_5 := blk_frozen BK204.out 5
                have hfz29_6 := blk_frozen BK204.out 6
                have hfz29_7 := blk_frozen BK204.out 7
                have hfz29_8 := blk_frozen BK204.out 8
                have hfz29_9 := blk_frozen BK204.out 9
                go_wp2
                go_ret
                exact ⟨by first | rfl | (simp [errW_none, errW_some] <;> rfl) | (simp [*, errW_none, errW_some] <;> rfl), by repeat (first | (with_reducible first | exact HB.out | apply below_alloc | apply pw_below_drewN | apply below_drew1 | refine below_set ?_ GE204.out) | exact HB.out)⟩
            · rw [if_neg c18] at H
              have c18b0 : (a0_7.toList == ([] : List UInt8)) = false := beq_eq_false_iff_ne.mpr c18
              have c18b1 : (a0_7.toList != ([] : List UInt8)) = true := bne_iff_ne.mpr c18
              obtain rfl := Option.some.inj H
              have hcz30_0 : wc.cell? ⟨gb204, 0, none⟩ = some (.int .i64 a0_0) := (blk_cell BK204.out 0).trans rfl
              have hcz30_1 : wc.cell? ⟨gb204, 1, none⟩ = some (.int .i64 a0_1) := (blk_cell BK204.out 1).trans rfl
              have hcz30_2 : wc.cell? ⟨gb204, 2, none⟩ = some (.int .i64 a0_2) := (blk_cell BK204.out 2).trans rfl
              have hcz30_3 : wc.cell? ⟨gb204, 3, none⟩ = some (.string a0_3) := (blk_cell BK204.out 3).trans rfl
              have hcz30_4 : wc.cell? ⟨gb204, 4, none⟩ = some (.string a0_4) := (blk_cell BK204.out 4).trans rfl
              have hcz30_5 : wc.cell? ⟨gb204, 5, none⟩ = some (.string a0_5) := (blk_cell BK204.out 5).trans rfl
              have hcz30_6 : wc.cell? ⟨gb204, 6, none⟩ = some (.int .i64 a0_6) := (blk_cell BK204.out 6).trans rfl
              have hcz30_7 : wc.cell? ⟨gb204, 7, none⟩ = some (.string a0_7) := (blk_cell BK204.out 7).trans rfl
              have hcz30_8 : wc.cell? ⟨gb204, 8, none⟩ = some (.string a0_8) := (blk_cell BK204.out 8).trans rfl
              have hcz30_9 : wc.cell? ⟨gb204, 9, none⟩ = some (.bool a0_9) := (blk_cell BK204.out 9).trans rfl
              have hfz30_0 := blk_frozen BK204.out 0
              have hfz30_1 := blk_frozen BK204.out 1
              have hfz30_2 := blk_frozen BK204.out 2
              have hfz30_3 := blk_frozen BK204.out 3
              have hfz30_4 := blk_frozen BK204.out 4
              have hfz30_5 := blk_frozen BK204.out 5
              have hfz30_6 := blk_frozen BK204.out 6
              have hfz30_7 := blk_frozen BK204.out 7
              have hfz30_8 := blk_frozen BK204.out 8
              have hfz30_9 := blk_frozen BK204.out 9
              go_wp2
              go_ret
              exact ⟨by first | rfl | (simp [errW_none, errW_some] <;> rfl) | (simp [*, errW_none, errW_some] <;> rfl), by repeat (first | (with_reducible first | exact HB.out | apply below_alloc | apply pw_below_drewN | apply below_drew1 | refine below_set ?_ GE204.out) | exact HB.out)⟩
          · rw [if_neg c17] at H
            have c17b0 : (a0_4.toList == ([] : List UInt8)) = false := beq_eq_false_iff_ne.mpr c17
            have c17b1 : (a0_4.toList != ([] : List UInt8)) = true := bne_iff_ne.mpr c17
            obtain rfl := Option.some.inj H
            have hcz31_0 : wc.cell? ⟨gb204, 0, none⟩ = some (.int .i64 a0_0) := (blk_cell BK204.out 0).trans rfl
            have hcz31_1 : wc.cell? ⟨gb204, 1, none⟩ = some (.int .i64 a0_1) := (blk_cell BK204.out 1).trans rfl
            have hcz31_2 : wc.cell? ⟨gb204, 2, none⟩ = some (.int .i64 a0_2) := (blk_cell BK204.out 2).trans rfl
            have hcz31_3 : wc.cell? ⟨gb204, 3, none⟩ = some (.string a0_3) := (blk_cell BK204.out 3).trans rfl
            have hcz31_4 : wc.cell? ⟨gb204, 4, none⟩ = some (.string a0_4) := (blk_cell BK204.out 4).trans rfl
            have hcz31_5 : wc.cell? ⟨gb204, 5, none⟩ = some (.string a0_5) := (blk_cell BK204.out 5).trans rfl
            have hcz31_6 : wc.cell? ⟨gb204, 6, none⟩ = some (.int .i64 a0_6) := (blk_cell BK204.out 6).trans rfl
            have hcz31_7 : wc.cell? ⟨gb204, 7, none⟩ = some (.string a0_7) := (blk_cell BK204.out 7).trans rfl
            have hcz31_8 : wc.cell? ⟨gb204, 8, none⟩ = some (.string a0_8) := (blk_cell BK204.out 8).trans rfl
            have hcz31_9 : wc.cell? ⟨gb204, 9, none⟩ = some (.bool a0_9) := (blk_cell BK204.out 9).trans rfl
            have hfz31_0 := blk_frozen BK204.out 0
            have hfz31_1 := blk_frozen BK204.out 1
            have hfz31_2 := blk_frozen BK204.out 2
            have hfz31_3 := blk_frozen BK204.out 3
            have hfz31_4 := blk_frozen BK204.out 4
            have hfz31_5 := blk_frozen BK204.out 5
            have hfz31_6 := blk_frozen BK204.out 6
            have hfz31_7 := blk_frozen BK204.out 7
            have hfz31_8 := blk_frozen BK204.out 8
            have hfz31_9 := blk_frozen BK204.out 9
            go_wp2
            go_ret
            exact ⟨by first | rfl | (simp [errW_none, errW_some] <;> rfl) | (simp [*, errW_none, errW_some] <;> rfl), by repeat (first | (with_reducible first | exact HB.out | apply below_alloc | apply pw_below_drewN | apply below_drew1 | refine below_set ?_ GE204.out) | exact HB.out)⟩
        · rw [if_neg c16] at H
          have c16b0 : (a0_2 == 5) = false := beq_eq_false_iff_ne.mpr c16
          have c16b1 : (a0_2 != 5) = true := bne_iff_ne.mpr c16
          by_cases c32 : a0_5.toList = ([] : List UInt8)
          · rw [if_pos c32] at H
            have c32b0 : (a0_5.toList == ([] : List UInt8)) = true := beq_iff_eq.mpr c32
            have c32b1 : (a0_5.toList != ([] : List UInt8)) = false := bne_eq_false_iff_eq.mpr c32
            clear c32
            by_cases c33 : a0_2 = 3
            · rw [if_pos c33] at H
              have c33b0 : (a0_2 == 3) = true := beq_iff_eq.mpr c33
              have c33b1 : (a0_2 != 3) = false := bne_eq_false_iff_eq.mpr c33
              clear c33
              by_cases c34 : a0_9 = true
              · subst c34
                have H1 : (if a0_2 = 2 then (if a0_7.toList = ([] : List UInt8) then (if (a0_8.size : Int) > 256 then (some false) else ((shardlogref08_Right.f a0_3 a0_4 a0_6 a0_7 false).bind fun t205 => (some t205))) else (some false)) else (if a0_2 = 4 then (if a0_7.toList = ([] : List UInt8) then (if (a0_8.size : Int) > 256 then (some false) else ((shardlogref08_Right.f a0_3 a0_4 a0_6 a0_7 false).bind fun t206 => (some t206))) else (some false)) else (if (a0_8.size : Int) > 256 then (some false) else ((shardlogref08_Right.f a0_3 a0_4 a0_6 a0_7 false).bind fun t207 => (some t207))))) = some r := by rw [if_pos rfl] at H; exact H
                clear H
                have H := H1
                clear H1
                by_cases c35 : a0_2 = 2
                · rw [if_pos c35] at H
                  have c35b0 : (a0_2 == 2) = true := beq_iff_eq.mpr c35
                  have c35b1 : (a0_2 != 2) = false := bne_eq_false_iff_eq.mpr c35
                  clear c35
                  by_cases c36 : a0_7.toList = ([] : List UInt8)
                  · rw [if_pos c36] at H
                    have c36b0 : (a0_7.toList == ([] : List UInt8)) = true := beq_iff_eq.mpr c36
                    have c36b1 : (a0_7.toList != ([] : List UInt8)) = false := bne_eq_false_iff_eq.mpr c36
                    clear c36
                    by_cases c37 : (a0_8.size : Int) > 256
                    · rw [if_pos c37] at H
                      have c37b0 : decide (256 < (a0_8.size : Int)) = true := decide_eq_true c37
                      have c37b1 : decide (256 < a0_8.size) = true := decide_eq_true (by omega)
                      clear c37
                      obtain rfl := Option.some.inj H
                      have hcz38_0 : wc.cell? ⟨gb204, 0, none⟩ = some (.int .i64 a0_0) := (blk_cell BK204.out 0).trans rfl
                      have hcz38_1 : wc.cell? ⟨gb204, 1, none⟩ = some (.int .i64 a0_1) := (blk_cell BK204.out 1).trans rfl
                      have hcz38_2 : wc.cell? ⟨gb204, 2, none⟩ = some (.int .i64 a0_2) := (blk_cell BK204.out 2).trans rfl
                      have hcz38_3 : wc.cell? ⟨gb204, 3, none⟩ = some (.string a0_3) := (blk_cell BK204.out 3).trans rfl
                      have hcz38_4 : wc.cell? ⟨gb204, 4, none⟩ = some (.string a0_4) := (blk_cell BK204.out 4).trans rfl
                      have hcz38_5 : wc.cell? ⟨gb204, 5, none⟩ = some (.string a0_5) := (blk_cell BK204.out 5).trans rfl
                      have hcz38_6 : wc.cell? ⟨gb204, 6, none⟩ = some (.int .i64 a0_6) := (blk_cell BK204.out 6).trans rfl
                      have hcz38_7 : wc.cell? ⟨gb204, 7, none⟩ = some (.string a0_7) := (blk_cell BK204.out 7).trans rfl
                      have hcz38_8 : wc.cell? ⟨gb204, 8, none⟩ = some (.string a0_8) := (blk_cell BK204.out 8).trans rfl
                      have hcz38_9 : wc.cell? ⟨gb204, 9, none⟩ = some (.bool true) := (blk_cell BK204.out 9).trans rfl
                      have hfz38_0 := blk_frozen BK204.out 0
                      have hfz38_1 := blk_frozen BK204.out 1
                      have hfz38_2 := blk_frozen BK204.out 2
                      have hfz38_3 := blk_frozen BK204.out 3
                      have hfz38_4 := blk_frozen BK204.out 4
                      have hfz38_5 := blk_frozen BK204.out 5
                      have hfz38_6 := blk_frozen BK204.out 6
                      have hfz38_7 := blk_frozen BK204.out 7
                      have hfz38_8 := blk_frozen BK204.out 8
                      have hfz38_9 := blk_frozen BK204.out 9
                      go_wp2
                      go_ret
                      exact ⟨by first | rfl | (simp [errW_none, errW_some] <;> rfl) | (simp [*, errW_none, errW_some] <;> rfl), by repeat (first | (with_reducible first | exact HB.out | apply below_alloc | apply pw_below_drewN | apply below_drew1 | refine below_set ?_ GE204.out) | exact HB.out)⟩
                    · rw [if_neg c37] at H
                      have c37b0 : decide (256 < (a0_8.size : Int)) = false := decide_eq_false c37
                      have c37b1 : decide (256 < a0_8.size) = false := decide_eq_false (by omega)
                      clear c37
                      replace H := Option.bind_eq_some_iff.mp H
                      obtain ⟨t205, A390, H⟩ := H
                      replace H : (some t205) = some r := H
                      have A39 := Aside0.mk A390
                      clear A390
                      obtain rfl := Option.some.inj H
                      have hcz40_0 : wc.cell? ⟨gb204, 0, none⟩ = some (.int .i64 a0_0) := (blk_cell BK204.out 0).trans rfl
                      have hcz40_1 : wc.cell? ⟨gb204, 1, none⟩ = some (.int .i64 a0_1) := (blk_cell BK204.out 1).trans rfl
                      have hcz40_2 : wc.cell? ⟨gb204, 2, none⟩ = some (.int .i64 a0_2) := (blk_cell BK204.out 2).trans rfl
                      have hcz40_3 : wc.cell? ⟨gb204, 3, none⟩ = some (.string a0_3) := (blk_cell BK204.out 3).trans rfl
                      have hcz40_4 : wc.cell? ⟨gb204, 4, none⟩ = some (.string a0_4) := (blk_cell BK204.out 4).trans rfl
                      have hcz40_5 : wc.cell? ⟨gb204, 5, none⟩ = some (.string a0_5) := (blk_cell BK204.out 5).trans rfl
                      have hcz40_6 : wc.cell? ⟨gb204, 6, none⟩ = some (.int .i64 a0_6) := (blk_cell BK204.out 6).trans rfl
                      have hcz40_7 : wc.cell? ⟨gb204, 7, none⟩ = some (.string a0_7) := (blk_cell BK204.out 7).trans rfl
                      have hcz40_8 : wc.cell? ⟨gb204, 8, none⟩ = some (.string a0_8) := (blk_cell BK204.out 8).trans rfl
                      have hcz40_9 : wc.cell? ⟨gb204, 9, none⟩ = some (.bool true) := (blk_cell BK204.out 9).trans rfl
                      have hfz40_0 := blk_frozen BK204.out 0
                      have hfz40_1 := blk_frozen BK204.out 1
                      have hfz40_2 := blk_frozen BK204.out 2
                      have hfz40_3 := blk_frozen BK204.out 3
                      have hfz40_4 := blk_frozen BK204.out 4
                      have hfz40_5 := blk_frozen BK204.out 5
                      have hfz40_6 := blk_frozen BK204.out 6
                      have hfz40_7 := blk_frozen BK204.out 7
                      have hfz40_8 := blk_frozen BK204.out 8
                      have hfz40_9 := blk_frozen BK204.out 9
                      go_wp2_with (first | ((with_reducible refine gate_callee (f := 19) rfl ?_); refine goesL_ (some 131) rfl rfl Try.func19 (by kernel_rfl) rfl #[.agg #[.string a0_3, .string a0_4, .int .i64 a0_6, .string a0_7, .bool false]] rfl (by (try simp only [List.map_toArray, List.map_cons, List.map_nil]); first | done | rfl | (simp only [List.length_drop, List.length_take]; rfl)) ?_; (with_reducible refine (shardlogref08_Right.calls a0_3 a0_4 a0_6 a0_7 false t205 _ A39.out).mono ?_); rintro e w41 ⟨rfl, hb⟩; refine ⟨_, rfl, ?_⟩; have n0_ := Aside0.mk (blk_below (g := gb204) (o := .cells #[.int .i64 a0_0, .int .i64 a0_1, .int .i64 a0_2, .string a0_3, .string a0_4, .string a0_5, .int .i64 a0_6, .string a0_7, .string a0_8, .bool true] 23 (0, 0)) (by (with_reducible repeat (first | refine blk_drewN ?_ _ | refine blk_drew ?_ | refine blk_alloc ?_ _)); exact BK204.out) hb); have n1_ := Aside0.mk (below_step (by repeat (first | (with_reducible first | exact HB.out | apply below_alloc | apply pw_below_drewN | apply below_drew1 | refine below_set ?_ GE204.out) | exact HB.out)) hb); clear BK204; clear HB; have BK204 := n0_; have HB := n1_; clear n0_ n1_; (try clear hb); (try clear hb2); (try clear hk); (try clear hi)))
                      go_ret
                      exact ⟨by first | rfl | (simp [errW_none, errW_some] <;> rfl) | (simp [*, errW_none, errW_some] <;> rfl), by repeat (first | (with_reducible first | exact HB.out | apply below_alloc | apply pw_below_drewN | apply below_drew1 | refine below_set ?_ GE204.out) | exact HB.out)⟩
                  · rw [if_neg c36] at H
                    have c36b0 : (a0_7.toList == ([] : List UInt8)) = false := beq_eq_false_iff_ne.mpr c36
                    have c36b1 : (a0_7.toList != ([] : List UInt8)) = true := bne_iff_ne.mpr c36
                    obtain rfl := Option.some.inj H
                    have hcz42_0 : wc.cell? ⟨gb204, 0, none⟩ = some (.int .i64 a0_0) := (blk_cell BK204.out 0).trans rfl
                    have hcz42_1 : wc.cell? ⟨gb204, 1, none⟩ = some (.int .i64 a0_1) := (blk_cell BK204.out 1).trans rfl
                    have hcz42_2 : wc.cell? ⟨gb204, 2, none⟩ = some (.int .i64 a0_2) := (blk_cell BK204.out 2).trans rfl
                    have hcz42_3 : wc.cell? ⟨gb204, 3, none⟩ = some (.string a0_3) := (blk_cell BK204.out 3).trans rfl
                    have hcz42_4 : wc.cell? ⟨gb204, 4, none⟩ = some (.string a0_4) := (blk_cell BK204.out 4).trans rfl
                    have hcz42_5 : wc.cell? ⟨gb204, 5, none⟩ = some (.string a0_5) := (blk_cell BK204.out 5).trans rfl
                    have hcz42_6 : wc.cell? ⟨gb204, 6, none⟩ = some (.int .i64 a0_6) := (blk_cell BK204.out 6).trans rfl
                    have hcz42_7 : wc.cell? ⟨gb204, 7, none⟩ = some (.string a0_7) := (blk_cell BK204.out 7).trans rfl
                    have hcz42_8 : wc.cell? ⟨gb204, 8, none⟩ = some (.string a0_8) := (blk_cell BK204.out 8).trans rfl
                    have hcz42_9 : wc.cell? ⟨gb204, 9, none⟩ = some (.bool true) := (blk_cell BK204.out 9).trans rfl
                    have hfz42_0 := blk_frozen BK204.out 0
                    have hfz42_1 := blk_frozen BK204.out 1
                    have hfz42_2 := blk_frozen BK204.out 2
                    have hfz42_3 := blk_frozen BK204.out 3
                    have hfz42_4 := blk_frozen BK204.out 4
                    have hfz42_5 := blk_frozen BK204.out 5
                    have hfz42_6 := blk_frozen BK204.out 6
                    have hfz42_7 := blk_frozen BK204.out 7
                    have hfz42_8 := blk_frozen BK204.out 8
                    have hfz42_9 := blk_frozen BK204.out 9
                    go_wp2
                    go_ret
                    exact ⟨by first | rfl | (simp [errW_none, errW_some] <;> rfl) | (simp [*, errW_none, errW_some] <;> rfl), by repeat (first | (with_reducible first | exact HB.out | apply below_alloc | apply pw_below_drewN | apply below_drew1 | refine below_set ?_ GE204.out) | exact HB.out)⟩
                · rw [if_neg c35] at H
                  have c35b0 : (a0_2 == 2) = false := beq_eq_false_iff_ne.mpr c35
                  have c35b1 : (a0_2 != 2) = true := bne_iff_ne.mpr c35
                  by_cases c43 : a0_2 = 4
                  · rw [if_pos c43] at H
                    have c43b0 : (a0_2 == 4) = true := beq_iff_eq.mpr c43
                    have c43b1 : (a0_2 != 4) = false := bne_eq_false_iff_eq.mpr c43
                    clear c43
                    by_cases c44 : a0_7.toList = ([] : List UInt8)
                    · rw [if_pos c44] at H
                      have c44b0 : (a0_7.toList == ([] : List UInt8)) = true := beq_iff_eq.mpr c44
                      have c44b1 : (a0_7.toList != ([] : List UInt8)) = false := bne_eq_false_iff_eq.mpr c44
                      clear c44
                      by_cases c45 : (a0_8.size : Int) > 256
                      · rw [if_pos c45] at H
                        have c45b0 : decide (256 < (a0_8.size : Int)) = true := decide_eq_true c45
                        have c45b1 : decide (256 < a0_8.size) = true := decide_eq_true (by omega)
                        clear c45
                        obtain rfl := Option.some.inj H
                        have hcz46_0 : wc.cell? ⟨gb204, 0, none⟩ = some (.int .i64 a0_0) := (blk_cell BK204.out 0).trans rfl
                        have hcz46_1 : wc.cell? ⟨gb204, 1, none⟩ = some (.int .i64 a0_1) := (blk_cell BK204.out 1).trans rfl
                        have hcz46_2 : wc.cell? ⟨gb204, 2, none⟩ = some (.int .i64 a0_2) := (blk_cell BK204.out 2).trans rfl
                        have hcz46_3 : wc.cell? ⟨gb204, 3, none⟩ = some (.string a0_3) := (blk_cell BK204.out 3).trans rfl
                        have hcz46_4 : wc.cell? ⟨gb204, 4, none⟩ = some (.string a0_4) := (blk_cell BK204.out 4).trans rfl
                        have hcz46_5 : wc.cell? ⟨gb204, 5, none⟩ = some (.string a0_5) := (blk_cell BK204.out 5).trans rfl
                        have hcz46_6 : wc.cell? ⟨gb204, 6, none⟩ = some (.int .i64 a0_6) := (blk_cell BK204.out 6).trans rfl
                        have hcz46_7 : wc.cell? ⟨gb204, 7, none⟩ = some (.string a0_7) := (blk_cell BK204.out 7).trans rfl
                        have hcz46_8 : wc.cell? ⟨gb204, 8, none⟩ = some (.string a0_8) := (blk_cell BK204.out 8).trans rfl
                        have hcz46_9 : wc.cell? ⟨gb204, 9, none⟩ = some (.bool true) := (blk_cell BK204.out 9).trans rfl
                        have hfz46_0 := blk_frozen BK204.out 0
                        have hfz46_1 := blk_frozen BK204.out 1
                        have hfz46_2 := blk_frozen BK204.out 2
                        have hfz46_3 := blk_frozen BK204.out 3
                        have hfz46_4 := blk_frozen BK204.out 4
                        have hfz46_5 := blk_frozen BK204.out 5
                        have hfz46_6 := blk_frozen BK204.out 6
                        have hfz46_7 := blk_frozen BK204.out 7
                        have hfz46_8 := blk_frozen BK204.out 8
                        have hfz46_9 := blk_frozen BK204.out 9
                        go_wp2
                        go_ret
                        exact ⟨by first | rfl | (simp [errW_none, errW_some] <;> rfl) | (simp [*, errW_none, errW_some] <;> rfl), by repeat (first | (with_reducible first | exact HB.out | apply below_alloc | apply pw_below_drewN | apply below_drew1 | refine below_set ?_ GE204.out) | exact HB.out)⟩
                      · rw [if_neg c45] at H
                        have c45b0 : decide (256 < (a0_8.size : Int)) = false := decide_eq_false c45
                        have c45b1 : decide (256 < a0_8.size) = false := decide_eq_false (by omega)
                        clear c45
                        replace H := Option.bind_eq_some_iff.mp H
                        obtain ⟨t206, A470, H⟩ := H
                        replace H : (some t206) = some r := H
                        have A47 := Aside0.mk A470
                        clear A470
                        obtain rfl := Option.some.inj H
                        have hcz48_0 : wc.cell? ⟨gb204, 0, none⟩ = some (.int .i64 a0_0) := (blk_cell BK204.out 0).trans rfl
                        have hcz48_1 : wc.cell? ⟨gb204, 1, none⟩ = some (.int .i64 a0_1) := (blk_cell BK204.out 1).trans rfl
                        have hcz48_2 : wc.cell? ⟨gb204, 2, none⟩ = some (.int .i64 a0_2) := (blk_cell BK204.out 2).trans rfl
                        have hcz48_3 : wc.cell? ⟨gb204, 3, none⟩ = some (.string a0_3) := (blk_cell BK204.out 3).trans rfl
                        have hcz48_4 : wc.cell? ⟨gb204, 4, none⟩ = some (.string a0_4) := (blk_cell BK204.out 4).trans rfl
                        have hcz48_5 : wc.cell? ⟨gb204, 5, none⟩ = some (.string a0_5) := (blk_cell BK204.out 5).trans rfl
                        have hcz48_6 : wc.cell? ⟨gb204, 6, none⟩ = some (.int .i64 a0_6) := (blk_cell BK204.out 6).trans rfl
                        have hcz48_7 : wc.cell? ⟨gb204, 7, none⟩ = some (.string a0_7) := (blk_cell BK204.out 7).trans rfl
                        have hcz48_8 : wc.cell? ⟨gb204, 8, none⟩ = some (.string a0_8) := (blk_cell BK204.out 8).trans rfl
                        have hcz48_9 : wc.cell? ⟨gb204, 9, none⟩ = some (.bool true) := (blk_cell BK204.out 9).trans rfl
                        have hfz48_0 := blk_frozen BK204.out 0
                        have hfz48_1 := blk_frozen BK204.out 1
                        have hfz48_2 := blk_frozen BK204.out 2
                        have hfz48_3 := blk_frozen BK204.out 3
                        have hfz48_4 := blk_frozen BK204.out 4
                        have hfz48_5 := blk_frozen BK204.out 5
                        have hfz48_6 := blk_frozen BK204.out 6
                        have hfz48_7 := blk_frozen BK204.out 7
                        have hfz48_8 := blk_frozen BK204.out 8
                        have hfz48_9 := blk_frozen BK204.out 9
                        go_wp2_with (first | ((with_reducible refine gate_callee (f := 19) rfl ?_); refine goesL_ (some 131) rfl rfl Try.func19 (by kernel_rfl) rfl #[.agg #[.string a0_3, .string a0_4, .int .i64 a0_6, .string a0_7, .bool false]] rfl (by (try simp only [List.map_toArray, List.map_cons, List.map_nil]); first | done | rfl | (simp only [List.length_drop, List.length_take]; rfl)) ?_; (with_reducible refine (shardlogref08_Right.calls a0_3 a0_4 a0_6 a0_7 false t206 _ A47.out).mono ?_); rintro e w49 ⟨rfl, hb⟩; refine ⟨_, rfl, ?_⟩; have n0_ := Aside0.mk (blk_below (g := gb204) (o := .cells #[.int .i64 a0_0, .int .i64 a0_1, .int .i64 a0_2, .string a0_3, .string a0_4, .string a0_5, .int .i64 a0_6, .string a0_7, .string a0_8, .bool true] 23 (0, 0)) (by (with_reducible repeat (first | refine blk_drewN ?_ _ | refine blk_drew ?_ | refine blk_alloc ?_ _)); exact BK204.out) hb); have n1_ := Aside0.mk (below_step (by repeat (first | (with_reducible first | exact HB.out | apply below_alloc | apply pw_below_drewN | apply below_drew1 | refine below_set ?_ GE204.out) | exact HB.out)) hb); clear BK204; clear HB; have BK204 := n0_; have HB := n1_; clear n0_ n1_; (try clear hb); (try clear hb2); (try clear hk); (try clear hi)))
                        go_ret
                        exact ⟨by first | rfl | (simp [errW_none, errW_some] <;> rfl) | (simp [*, errW_none, errW_some] <;> rfl), by repeat (first | (with_reducible first | exact HB.out | apply below_alloc | apply pw_below_drewN | apply below_drew1 | refine below_set ?_ GE204.out) | exact HB.out)⟩
                    · rw [if_neg c44] at H
                      have c44b0 : (a0_7.toList == ([] : List UInt8)) = false := beq_eq_false_iff_ne.mpr c44
                      have c44b1 : (a0_7.toList != ([] : List UInt8)) = true := bne_iff_ne.mpr c44
                      obtain rfl := Option.some.inj H
                      have hcz50_0 : wc.cell? ⟨gb204, 0, none⟩ = some (.int .i64 a0_0) := (blk_cell BK204.out 0).trans rfl
                      have hcz50_1 : wc.cell? ⟨gb204, 1, none⟩ = some (.int .i64 a0_1) := (blk_cell BK204.out 1).trans rfl
                      have hcz50_2 : wc.cell? ⟨gb204, 2, none⟩ = some (.int .i64 a0_2) := (blk_cell BK204.out 2).trans rfl
                      have hcz50_3 : wc.cell? ⟨gb204, 3, none⟩ = some (.string a0_3) := (blk_cell BK204.out 3).trans rfl
                      have hcz50_4 : wc.cell? ⟨gb204, 4, none⟩ = some (.string a0_4) := (blk_cell BK204.out 4).trans rfl
                      have hcz50_5 : wc.cell? ⟨gb204, 5, none⟩ = some (.string a0_5) := (blk_cell BK204.out 5).trans rfl
                      have hcz50_6 : wc.cell? ⟨gb204, 6, none⟩ = some (.int .i64 a0_6) := (blk_cell BK204.out 6).trans rfl
                      have hcz50_7 : wc.cell? ⟨gb204, 7, none⟩ = some (.string a0_7) := (blk_cell BK204.out 7).trans rfl
                      have hcz50_8 : wc.cell? ⟨gb204, 8, none⟩ = some (.string a0_8) := (blk_cell BK204.out 8).trans rfl
                      have hcz50_9 : wc.cell? ⟨gb204, 9, none⟩ = some (.bool true) := (blk_cell BK204.out 9).trans rfl
                      have hfz50_0 := blk_frozen BK204.out 0
                      have hfz50_1 := blk_frozen BK204.out 1
                      have hfz50_2 := blk_frozen BK204.out 2
                      have hfz50_3 := blk_frozen BK204.out 3
                      have hfz50_4 := blk_frozen BK204.out 4
                      have hfz50_5 := blk_frozen BK204.out 5
                      have hfz50_6 := blk_frozen BK204.out 6
                      have hfz50_7 := blk_frozen BK204.out 7
                      have hfz50_8 := blk_frozen BK204.out 8
                      have hfz50_9 := blk_frozen BK204.out 9
                      go_wp2
                      go_ret
                      exact ⟨by first | rfl | (simp [errW_none, errW_some] <;> rfl) | (simp [*, errW_none, errW_some] <;> rfl), by repeat (first | (with_reducible first | exact HB.out | apply below_alloc | apply pw_below_drewN | apply below_drew1 | refine below_set ?_ GE204.out) | exact HB.out)⟩
                  · rw [if_neg c43] at H
                    have c43b0 : (a0_2 == 4) = false := beq_eq_false_iff_ne.mpr c43
                    have c43b1 : (a0_2 != 4) = true := bne_iff_ne.mpr c43
                    by_cases c51 : (a0_8.size : Int) > 256
                    · rw [if_pos c51] at H
                      have c51b0 : decide (256 < (a0_8.size : Int)) = true := decide_eq_true c51
                      have c51b1 : decide (256 < a0_8.size) = true := decide_eq_true (by omega)
                      clear c51
                      obtain rfl := Option.some.inj H
                      have hcz52_0 : wc.cell? ⟨gb204, 0, none⟩ = some (.int .i64 a0_0) := (blk_cell BK204.out 0).trans rfl
                      have hcz52_1 : wc.cell? ⟨gb204, 1, none⟩ = some (.int .i64 a0_1) := (blk_cell BK204.out 1).trans rfl
                      have hcz52_2 : wc.cell? ⟨gb204, 2, none⟩ = some (.int .i64 a0_2) := (blk_cell BK204.out 2).trans rfl
                      have hcz52_3 : wc.cell? ⟨gb204, 3, none⟩ = some (.string a0_3) := (blk_cell BK204.out 3).trans rfl
                      have hcz52_4 : wc.cell? ⟨gb204, 4, none⟩ = some (.string a0_4) := (blk_cell BK204.out 4).trans rfl
                      have hcz52_5 : wc.cell? ⟨gb204, 5, none⟩ = some (.string a0_5) := (blk_cell BK204.out 5).trans rfl
                      have hcz52_6 : wc.cell? ⟨gb204, 6, none⟩ = some (.int .i64 a0_6) := (blk_cell BK204.out 6).trans rfl
                      have hcz52_7 : wc.cell? ⟨gb204, 7, none⟩ = some (.string a0_7) := (blk_cell BK204.out 7).trans rfl
                      have hcz52_8 : wc.cell? ⟨gb204, 8, none⟩ = some (.string a0_8) := (blk_cell BK204.out 8).trans rfl
                      have hcz52_9 : wc.cell? ⟨gb204, 9, none⟩ = some (.bool true) := (blk_cell BK204.out 9).trans rfl
                      have hfz52_0 := blk_frozen BK204.out 0
                      have hfz52_1 := blk_frozen BK204.out 1
                      have hfz52_2 := blk_frozen BK204.out 2
                      have hfz52_3 := blk_frozen BK204.out 3
                      have hfz52_4 := blk_frozen BK204.out 4
                      have hfz52_5 := blk_frozen BK204.out 5
                      have hfz52_6 := blk_frozen BK204.out 6
                      have hfz52_7 := blk_frozen BK204.out 7
                      have hfz52_8 := blk_frozen BK204.out 8
                      have hfz52_9 := blk_frozen BK204.out 9
                      go_wp2
                      go_ret
                      exact ⟨by first | rfl | (simp [errW_none, errW_some] <;> rfl) | (simp [*, errW_none, errW_some] <;> rfl), by repeat (first | (with_reducible first | exact HB.out | apply below_alloc | apply pw_below_drewN | apply below_drew1 | refine below_set ?_ GE204.out) | exact HB.out)⟩
                    · rw [if_neg c51] at H
                      have c51b0 : decide (256 < (a0_8.size : Int)) = false := decide_eq_false c51
                      have c51b1 : decide (256 < a0_8.size) = false := decide_eq_false (by omega)
                      clear c51
                      replace H := Option.bind_eq_some_iff.mp H
                      obtain ⟨t207, A530, H⟩ := H
                      replace H : (some t207) = some r := H
                      have A53 := Aside0.mk A530
                      clear A530
                      obtain rfl := Option.some.inj H
                      have hcz54_0 : wc.cell? ⟨gb204, 0, none⟩ = some (.int .i64 a0_0) := (blk_cell BK204.out 0).trans rfl
                      have hcz54_1 : wc.cell? ⟨gb204, 1, none⟩ = some (.int .i64 a0_1) := (blk_cell BK204.out 1).trans rfl
                      have hcz54_2 : wc.cell? ⟨gb204, 2, none⟩ = some (.int .i64 a0_2) := (blk_cell BK204.out 2).trans rfl
                      have hcz54_3 : wc.cell? ⟨gb204, 3, none⟩ = some (.string a0_3) := (blk_cell BK204.out 3).trans rfl
                      have hcz54_4 : wc.cell? ⟨gb204, 4, none⟩ = some (.string a0_4) := (blk_cell BK204.out 4).trans rfl
                      have hcz54_5 : wc.cell? ⟨gb204, 5, none⟩ = some (.string a0_5) := (blk_cell BK204.out 5).trans rfl
                      have hcz54_6 : wc.cell? ⟨gb204, 6, none⟩ = some (.int .i64 a0_6) := (blk_cell BK204.out 6).trans rfl
                      have hcz54_7 : wc.cell? ⟨gb204, 7, none⟩ = some (.string a0_7) := (blk_cell BK204.out 7).trans rfl
                      have hcz54_8 : wc.cell? ⟨gb204, 8, none⟩ = some (.string a0_8) := (blk_cell BK204.out 8).trans rfl
                      have hcz54_9 : wc.cell? ⟨gb204, 9, none⟩ = some (.bool true) := (blk_cell BK204.out 9).trans rfl
                      have hfz54_0 := blk_frozen BK204.out 0
                      have hfz54_1 := blk_frozen BK204.out 1
                      have hfz54_2 := blk_frozen BK204.out 2
                      have hfz54_3 := blk_frozen BK204.out 3
                      have hfz54_4 := blk_frozen BK204.out 4
                      have hfz54_5 := blk_frozen BK204.out 5
                      have hfz54_6 := blk_frozen BK204.out 6
                      have hfz54_7 := blk_frozen BK204.out 7
                      have hfz54_8 := blk_frozen BK204.out 8
                      have hfz54_9 := blk_frozen BK204.out 9
                      go_wp2_with (first | ((with_reducible refine gate_callee (f := 19) rfl ?_); refine goesL_ (some 131) rfl rfl Try.func19 (by kernel_rfl) rfl #[.agg #[.string a0_3, .string a0_4, .int .i64 a0_6, .string a0_7, .bool false]] rfl (by (try simp only [List.map_toArray, List.map_cons, List.map_nil]); first | done | rfl | (simp only [List.length_drop, List.length_take]; rfl)) ?_; (with_reducible refine (shardlogref08_Right.calls a0_3 a0_4 a0_6 a0_7 false t207 _ A53.out).mono ?_); rintro e w55 ⟨rfl, hb⟩; refine ⟨_, rfl, ?_⟩; have n0_ := Aside0.mk (blk_below (g := gb204) (o := .cells #[.int .i64 a0_0, .int .i64 a0_1, .int .i64 a0_2, .string a0_3, .string a0_4, .string a0_5, .int .i64 a0_6, .string a0_7, .string a0_8, .bool true] 23 (0, 0)) (by (with_reducible repeat (first | refine blk_drewN ?_ _ | refine blk_drew ?_ | refine blk_alloc ?_ _)); exact BK204.out) hb); have n1_ := Aside0.mk (below_step (by repeat (first | (with_reducible first | exact HB.out | apply below_alloc | apply pw_below_drewN | apply below_drew1 | refine below_set ?_ GE204.out) | exact HB.out)) hb); clear BK204; clear HB; have BK204 := n0_; have HB := n1_; clear n0_ n1_; (try clear hb); (try clear hb2); (try clear hk); (try clear hi)))
                      go_ret
                      exact ⟨by first | rfl | (simp [errW_none, errW_some] <;> rfl) | (simp [*, errW_none, errW_some] <;> rfl), by repeat (first | (with_reducible first | exact HB.out | apply below_alloc | apply pw_below_drewN | apply below_drew1 | refine below_set ?_ GE204.out) | exact HB.out)⟩
              · replace c34 := Bool.eq_false_iff.mpr c34
                subst c34
                have H1 : (if a0_8.toList = ([] : List UInt8) then (if a0_2 = 2 then (if a0_7.toList = ([] : List UInt8) then (if (a0_8.size : Int) > 256 then (some false) else ((shardlogref08_Right.f a0_3 a0_4 a0_6 a0_7 false).bind fun t208 => (some t208))) else (some false)) else (if a0_2 = 4 then (if a0_7.toList = ([] : List UInt8) then (if (a0_8.size : Int) > 256 then (some false) else ((shardlogref08_Right.f a0_3 a0_4 a0_6 a0_7 false).bind fun t209 => (some t209))) else (some false)) else (if (a0_8.size : Int) > 256 then (some false) else ((shardlogref08_Right.f a0_3 a0_4 a0_6 a0_7 false).bind fun t210 => (some t210))))) else (some false)) = some r := by rw [if_neg (show ¬ (false = true) by decide)] at H; exact H
                clear H
                have H := H1
                clear H1
                by_cases c56 : a0_8.toList = ([] : List UInt8)
                · rw [if_pos c56] at H
                  have c56b0 : (a0_8.toList == ([] : List UInt8)) = true := beq_iff_eq.mpr c56
                  have c56b1 : (a0_8.toList != ([] : List UInt8)) = false := bne_eq_false_iff_eq.mpr c56
                  clear c56
                  by_cases c57 : a0_2 = 2
                  · rw [if_pos c57] at H
                    have c57b0 : (a0_2 == 2) = true := beq_iff_eq.mpr c57
                    have c57b1 : (a0_2 != 2) = false := bne_eq_false_iff_eq.mpr c57
                    clear c57
                    by_cases c58 : a0_7.toList = ([] : List UInt8)
                    · rw [if_pos c58] at H
                      have c58b0 : (a0_7.toList == ([] : List UInt8)) = true := beq_iff_eq.mpr c58
                      have c58b1 : (a0_7.toList != ([] : List UInt8)) = false := bne_eq_false_iff_eq.mpr c58
                      clear c58
                      by_cases c59 : (a0_8.size : Int) > 256
                      · rw [if_pos c59] at H
                        have c59b0 : decide (256 < (a0_8.size : Int)) = true := decide_eq_true c59
                        have c59b1 : decide (256 < a0_8.size) = true := decide_eq_true (by omega)
                        clear c59
                        obtain rfl := Option.some.inj H
                        have hcz60_0 : wc.cell? ⟨gb204, 0, none⟩ = some (.int .i64 a0_0) := (blk_cell BK204.out 0).trans rfl
                        have hcz60_1 : wc.cell? ⟨gb204, 1, none⟩ = some (.int .i64 a0_1) := (blk_cell BK204.out 1).trans rfl
                        have hcz60_2 : wc.cell? ⟨gb204, 2, none⟩ = some (.int .i64 a0_2) := (blk_cell BK204.out 2).trans rfl
                        have hcz60_3 : wc.cell? ⟨gb204, 3, none⟩ = some (.string a0_3) := (blk_cell BK204.out 3).trans rfl
                        have hcz60_4 : wc.cell? ⟨gb204, 4, none⟩ = some (.string a0_4) := (blk_cell BK204.out 4).trans rfl
                        have hcz60_5 : wc.cell? ⟨gb204, 5, none⟩ = some (.string a0_5) := (blk_cell BK204.out 5).trans rfl
                        have hcz60_6 : wc.cell? ⟨gb204, 6, none⟩ = some (.int .i64 a0_6) := (blk_cell BK204.out 6).trans rfl
                        have hcz60_7 : wc.cell? ⟨gb204, 7, none⟩ = some (.string a0_7) := (blk_cell BK204.out 7).trans rfl
                        have hcz60_8 : wc.cell? ⟨gb204, 8, none⟩ = some (.string a0_8) := (blk_cell BK204.out 8).trans rfl
                        have hcz60_9 : wc.cell? ⟨gb204, 9, none⟩ = some (.bool false) := (blk_cell BK204.out 9).trans rfl
                        have hfz60_0 := blk_frozen BK204.out 0
                        have hfz60_1 := blk_frozen BK204.out 1
                        have hfz60_2 := blk_frozen BK204.out 2
                        have hfz60_3 := blk_frozen BK204.out 3
                        have hfz60_4 := blk_frozen BK204.out 4
                        have hfz60_5 := blk_frozen BK204.out 5
                        have hfz60_6 := blk_frozen BK204.out 6
                        have hfz60_7 := blk_frozen BK204.out 7
                        have hfz60_8 := blk_frozen BK204.out 8
                        have hfz60_9 := blk_frozen BK204.out 9
                        go_wp2
                        go_ret
                        exact ⟨by first | rfl | (simp [errW_none, errW_some] <;> rfl) | (simp [*, errW_none, errW_some] <;> rfl), by repeat (first | (with_reducible first | exact HB.out | apply below_alloc | apply pw_below_drewN | apply below_drew1 | refine below_set ?_ GE204.out) | exact HB.out)⟩
                      · rw [if_neg c59] at H
                        have c59b0 : decide (256 < (a0_8.size : Int)) = false := decide_eq_false c59
                        have c59b1 : decide (256 < a0_8.size) = false := decide_eq_false (by omega)
                        clear c59
                        replace H := Option.bind_eq_some_iff.mp H
                        obtain ⟨t208, A610, H⟩ := H
                        replace H : (some t208) = some r := H
                        have A61 := Aside0.mk A610
                        clear A610
                        obtain rfl := Option.some.inj H
                        have hcz62_0 : wc.cell? ⟨gb204, 0, none⟩ = some (.int .i64 a0_0) := (blk_cell BK204.out 0).trans rfl
                        have hcz62_1 : wc.cell? ⟨gb204, 1, none⟩ = some (.int .i64 a0_1) := (blk_cell BK204.out 1).trans rfl
                        have hcz62_2 : wc.cell? ⟨gb204, 2, none⟩ = some (.int .i64 a0_2) := (blk_cell BK204.out 2).trans rfl
                        have hcz62_3 : wc.cell? ⟨gb204, 3, none⟩ = some (.string a0_3) := (blk_cell BK204.out 3).trans rfl
                        have hcz62_4 : wc.cell? ⟨gb204, 4, none⟩ = some (.string a0_4) := (blk_cell BK204.out 4).trans rfl
                        have hcz62_5 : wc.cell? ⟨gb204, 5, none⟩ = some (.string a0_5) := (blk_cell BK204.out 5).trans rfl
                        have hcz62_6 : wc.cell? ⟨gb204, 6, none⟩ = some (.int .i64 a0_6) := (blk_cell BK204.out 6).trans rfl
                        have hcz62_7 : wc.cell? ⟨gb204, 7, none⟩ = some (.string a0_7) := (blk_cell BK204.out 7).trans rfl
                        have hcz62_8 : wc.cell? ⟨gb204, 8, none⟩ = some (.string a0_8) := (blk_cell BK204.out 8).trans rfl
                        have hcz62_9 : wc.cell? ⟨gb204, 9, none⟩ = some (.bool false) := (blk_cell BK204.out 9).trans rfl
                        have hfz62_0 := blk_frozen BK204.out 0
                        have hfz62_1 := blk_frozen BK204.out 1
                        have hfz62_2 := blk_frozen BK204.out 2
                        have hfz62_3 := blk_frozen BK204.out 3
                        have hfz62_4 := blk_frozen BK204.out 4
                        have hfz62_5 := blk_frozen BK204.out 5
                        have hfz62_6 := blk_frozen BK204.out 6
                        have hfz62_7 := blk_frozen BK204.out 7
                        have hfz62_8 := blk_frozen BK204.out 8
                        have hfz62_9 := blk_frozen BK204.out 9
                        go_wp2_with (first | ((with_reducible refine gate_callee (f := 19) rfl ?_); refine goesL_ (some 131) rfl rfl Try.func19 (by kernel_rfl) rfl #[.agg #[.string a0_3, .string a0_4, .int .i64 a0_6, .string a0_7, .bool false]] rfl (by (try simp only [List.map_toArray, List.map_cons, List.map_nil]); first | done | rfl | (simp only [List.length_drop, List.length_take]; rfl)) ?_; (with_reducible refine (shardlogref08_Right.calls a0_3 a0_4 a0_6 a0_7 false t208 _ A61.out).mono ?_); rintro e w63 ⟨rfl, hb⟩; refine ⟨_, rfl, ?_⟩; have n0_ := Aside0.mk (blk_below (g := gb204) (o := .cells #[.int .i64 a0_0, .int .i64 a0_1, .int .i64 a0_2, .string a0_3, .string a0_4, .string a0_5, .int .i64 a0_6, .string a0_7, .string a0_8, .bool false] 23 (0, 0)) (by (with_reducible repeat (first | refine blk_drewN ?_ _ | refine blk_drew ?_ | refine blk_alloc ?_ _)); exact BK204.out) hb); have n1_ := Aside0.mk (below_step (by repeat (first | (with_reducible first | exact HB.out | apply below_alloc | apply pw_below_drewN | apply below_drew1 | refine below_set ?_ GE204.out) | exact HB.out)) hb); clear BK204; clear HB; have BK204 := n0_; have HB := n1_; clear n0_ n1_; (try clear hb); (try clear hb2); (try clear hk); (try clear hi)))
                        go_ret
                        exact ⟨by first | rfl | (simp [errW_none, errW_some] <;> rfl) | (simp [*, errW_none, errW_some] <;> rfl), by repeat (first | (with_reducible first | exact HB.out | apply below_alloc | apply pw_below_drewN | apply below_drew1 | refine below_set ?_ GE204.out) | exact HB.out)⟩
                    · rw [if_neg c58] at H
                      have c58b0 : (a0_7.toList == ([] : List UInt8)) = false := beq_eq_false_iff_ne.mpr c58
                      have c58b1 : (a0_7.toList != ([] : List UInt8)) = true := bne_iff_ne.mpr c58
                      obtain rfl := Option.some.inj H
                      have hcz64_0 : wc.cell? ⟨gb204, 0, none⟩ = some (.int .i64 a0_0) := (blk_cell BK204.out 0).trans rfl
                      have hcz64_1 : wc.cell? ⟨gb204, 1, none⟩ = some (.int .i64 a0_1) := (blk_cell BK204.out 1).trans rfl
                      have hcz64_2 : wc.cell? ⟨gb204, 2, none⟩ = some (.int .i64 a0_2) := (blk_cell BK204.out 2).trans rfl
                      have hcz64_3 : wc.cell? ⟨gb204, 3, none⟩ = some (.string a0_3) := (blk_cell BK204.out 3).trans rfl
                      have hcz64_4 : wc.cell? ⟨gb204, 4, none⟩ = some (.string a0_4) := (blk_cell BK204.out 4).trans rfl
                      have hcz64_5 : wc.cell? ⟨gb204, 5, none⟩ = some (.string a0_5) := (blk_cell BK204.out 5).trans rfl
                      have hcz64_6 : wc.cell? ⟨gb204, 6, none⟩ = some (.int .i64 a0_6) := (blk_cell BK204.out 6).trans rfl
                      have hcz64_7 : wc.cell? ⟨gb204, 7, none⟩ = some (.string a0_7) := (blk_cell BK204.out 7).trans rfl
                      have hcz64_8 : wc.cell? ⟨gb204, 8, none⟩ = some (.string a0_8) := (blk_cell BK204.out 8).trans rfl
                      have hcz64_9 : wc.cell? ⟨gb204, 9, none⟩ = some (.bool false) := (blk_cell BK204.out 9).trans rfl
                      have hfz64_0 := blk_frozen BK204.out 0
                      have hfz64_1 := blk_frozen BK204.out 1
                      have hfz64_2 := blk_frozen BK204.out 2
                      have hfz64_3 := blk_frozen BK204.out 3
                      have hfz64_4 := blk_frozen BK204.out 4
                      have hfz64_5 := blk_frozen BK204.out 5
                      have hfz64_6 := blk_frozen BK204.out 6
                      have hfz64_7 := blk_frozen BK204.out 7
                      have hfz64_8 := blk_frozen BK204.out 8
                      have hfz64_9 := blk_frozen BK204.out 9
                      go_wp2
                      go_ret
                      exact ⟨by first | rfl | (simp [errW_none, errW_some] <;> rfl) | (simp [*, errW_none, errW_some] <;> rfl), by repeat (first | (with_reducible first | exact HB.out | apply below_alloc | apply pw_below_drewN | apply below_drew1 | refine below_set ?_ GE204.out) | exact HB.out)⟩
                  · rw [if_neg c57] at H
                    have c57b0 : (a0_2 == 2) = false := beq_eq_false_iff_ne.mpr c57
                    have c57b1 : (a0_2 != 2) = true := bne_iff_ne.mpr c57
                    by_cases c65 : a0_2 = 4
                    · rw [if_pos c65] at H
                      have c65b0 : (a0_2 == 4) = true := beq_iff_eq.mpr c65
                      have c65b1 : (a0_2 != 4) = false := bne_eq_false_iff_eq.mpr c65
                      clear c65
                      by_cases c66 : a0_7.toList = ([] : List UInt8)
                      · rw [if_pos c66] at H
                        have c66b0 : (a0_7.toList == ([] : List UInt8)) = true := beq_iff_eq.mpr c66
                        have c66b1 : (a0_7.toList != ([] : List UInt8)) = false := bne_eq_false_iff_eq.mpr c66
                        clear c66
                        by_cases c67 : (a0_8.size : Int) > 256
                        · rw [if_pos c67] at H
                          have c67b0 : decide (256 < (a0_8.size : Int)) = true := decide_eq_true c67
                          have c67b1 : decide (256 < a0_8.size) = true := decide_eq_true (by omega)
                          clear c67
                          obtain rfl := Option.some.inj H
                          have hcz68_0 : wc.cell? ⟨gb204, 0, none⟩ = some (.int .i64 a0_0) := (blk_cell BK204.out 0).trans rfl
                          have hcz68_1 : wc.cell? ⟨gb204, 1, none⟩ = some (.int .i64 a0_1) := (blk_cell BK204.out 1).trans rfl
                          have hcz68_2 : wc.cell? ⟨gb204, 2, none⟩ = some (.int .i64 a0_2) := (blk_cell BK204.out 2).trans rfl
                          have hcz68_3 : wc.cell? ⟨gb204, 3, none⟩ = some (.string a0_3) := (blk_cell BK204.out 3).trans rfl
                          have hcz68_4 : wc.cell? ⟨gb204, 4, none⟩ = some (.string a0_4) := (blk_cell BK204.out 4).trans rfl
                          have hcz68_5 : wc.cell? ⟨gb204, 5, none⟩ = some (.string a0_5) := (blk_cell BK204.out 5).trans rfl
                          have hcz68_6 : wc.cell? ⟨gb204, 6, none⟩ = some (.int .i64 a0_6) := (blk_cell BK204.out 6).trans rfl
                          have hcz68_7 : wc.cell? ⟨gb204, 7, none⟩ = some (.string a0_7) := (blk_cell BK204.out 7).trans rfl
                          have hcz68_8 : wc.cell? ⟨gb204, 8, none⟩ = some (.string a0_8) := (blk_cell BK204.out 8).trans rfl
                          have hcz68_9 : wc.cell? ⟨gb204, 9, none⟩ = some (.bool false) := (blk_cell BK204.out 9).trans rfl
                          have hfz68_0 := blk_frozen BK204.out 0
                          have hfz68_1 := blk_frozen BK204.out 1
                          have hfz68_2 := blk_frozen BK204.out 2
                          have hfz68_3 := blk_frozen BK204.out 3
                          have hfz68_4 := blk_frozen BK204.out 4
                          have hfz68_5 := blk_frozen BK204.out 5
                          have hfz68_6 := blk_frozen BK204.out 6
                          have hfz68_7 := blk_frozen BK204.out 7
                          have hfz68_8 := blk_frozen BK204.out 8
                          have hfz68_9 := blk_frozen BK204.out 9
                          go_wp2
                          go_ret
                          exact ⟨by first | rfl | (simp [errW_none, errW_some] <;> rfl) | (simp [*, errW_none, errW_some] <;> rfl), by repeat (first | (with_reducible first | exact HB.out | apply below_alloc | apply pw_below_drewN | apply below_drew1 | refine below_set ?_ GE204.out) | exact HB.out)⟩
                        · rw [if_neg c67] at H
                          have c67b0 : decide (256 < (a0_8.size : Int)) = false := decide_eq_false c67
                          have c67b1 : decide (256 < a0_8.size) = false := decide_eq_false (by omega)
                          clear c67
                          replace H := Option.bind_eq_some_iff.mp H
                          obtain ⟨t209, A690, H⟩ := H
                          replace H : (some t209) = some r := H
                          have A69 := Aside0.mk A690
                          clear A690
                          obtain rfl := Option.some.inj H
                          have hcz70_0 : wc.cell? ⟨gb204, 0, none⟩ = some (.int .i64 a0_0) := (blk_cell BK204.out 0).trans rfl
                          have hcz70_1 : wc.cell? ⟨gb204, 1, none⟩ = some (.int .i64 a0_1) := (blk_cell BK204.out 1).trans rfl
                          have hcz70_2 : wc.cell? ⟨gb204, 2, none⟩ = some (.int .i64 a0_2) := (blk_cell BK204.out 2).trans rfl
                          have hcz70_3 : wc.cell? ⟨gb204, 3, none⟩ = some (.string a0_3) := (blk_cell BK204.out 3).trans rfl
                          have hcz70_4 : wc.cell? ⟨gb204, 4, none⟩ = some (.string a0_4) := (blk_cell BK204.out 4).trans rfl
                          have hcz70_5 : wc.cell? ⟨gb204, 5, none⟩ = some (.string a0_5) := (blk_cell BK204.out 5).trans rfl
                          have hcz70_6 : wc.cell? ⟨gb204, 6, none⟩ = some (.int .i64 a0_6) := (blk_cell BK204.out 6).trans rfl
                          have hcz70_7 : wc.cell? ⟨gb204, 7, none⟩ = some (.string a0_7) := (blk_cell BK204.out 7).trans rfl
                          have hcz70_8 : wc.cell? ⟨gb204, 8, none⟩ = some (.string a0_8) := (blk_cell BK204.out 8).trans rfl
                          have hcz70_9 : wc.cell? ⟨gb204, 9, none⟩ = some (.bool false) := (blk_cell BK204.out 9).trans rfl
                          have hfz70_0 := blk_frozen BK204.out 0
                          have hfz70_1 := blk_frozen BK204.out 1
                          have hfz70_2 := blk_frozen BK204.out 2
                          have hfz70_3 := blk_frozen BK204.out 3
                          have hfz70_4 := blk_frozen BK204.out 4
                          have hfz70_5 := blk_frozen BK204.out 5
                          have hfz70_6 := blk_frozen BK204.out 6
                          have hfz70_7 := blk_frozen BK204.out 7
                          have hfz70_8 := blk_frozen BK204.out 8
                          have hfz70_9 := blk_frozen BK204.out 9
                          go_wp2_with (first | ((with_reducible refine gate_callee (f := 19) rfl ?_); refine goesL_ (some 131) rfl rfl Try.func19 (by kernel_rfl) rfl #[.agg #[.string a0_3, .string a0_4, .int .i64 a0_6, .string a0_7, .bool false]] rfl (by (try simp only [List.map_toArray, List.map_cons, List.map_nil]); first | done | rfl | (simp only [List.length_drop, List.length_take]; rfl)) ?_; (with_reducible refine (shardlogref08_Right.calls a0_3 a0_4 a0_6 a0_7 false t209 _ A69.out).mono ?_); rintro e w71 ⟨rfl, hb⟩; refine ⟨_, rfl, ?_⟩; have n0_ := Aside0.mk (blk_below (g := gb204) (o := .cells #[.int .i64 a0_0, .int .i64 a0_1, .int .i64 a0_2, .string a0_3, .string a0_4, .string a0_5, .int .i64 a0_6, .string a0_7, .string a0_8, .bool false] 23 (0, 0)) (by (with_reducible repeat (first | refine blk_drewN ?_ _ | refine blk_drew ?_ | refine blk_alloc ?_ _)); exact BK204.out) hb); have n1_ := Aside0.mk (below_step (by repeat (first | (with_reducible first | exact HB.out | apply below_alloc | apply pw_below_drewN | apply below_drew1 | refine below_set ?_ GE204.out) | exact HB.out)) hb); clear BK204; clear HB; have BK204 := n0_; have HB := n1_; clear n0_ n1_; (try clear hb); (try clear hb2); (try clear hk); (try clear hi)))
                          go_ret
                          exact ⟨by first | rfl | (simp [errW_none, errW_some] <;> rfl) | (simp [*, errW_none, errW_some] <;> rfl), by repeat (first | (with_reducible first | exact HB.out | apply below_alloc | apply pw_below_drewN | apply below_drew1 | refine below_set ?_ GE204.out) | exact HB.out)⟩
                      · rw [if_neg c66] at H
                        have c66b0 : (a0_7.toList == ([] : List UInt8)) = false := beq_eq_false_iff_ne.mpr c66
                        have c66b1 : (a0_7.toList != ([] : List UInt8)) = true := bne_iff_ne.mpr c66
                        obtain rfl := Option.some.inj H
                        have hcz72_0 : wc.cell? ⟨gb204, 0, none⟩ = some (.int .i64 a0_0) := (blk_cell BK204.out 0).trans rfl
                        have hcz72_1 : wc.cell? ⟨gb204, 1, none⟩ = some (.int .i64 a0_1) := (blk_cell BK204.out 1).trans rfl
                        have hcz72_2 : wc.cell? ⟨gb204, 2, none⟩ = some (.int .i64 a0_2) := (blk_cell BK204.out 2).trans rfl
                        have hcz72_3 : wc.cell? ⟨gb204, 3, none⟩ = some (.string a0_3) := (blk_cell BK204.out 3).trans rfl
                        have hcz72_4 : wc.cell? ⟨gb204, 4, none⟩ = some (.string a0_4) := (blk_cell BK204.out 4).trans rfl
                        have hcz72_5 : wc.cell? ⟨gb204, 5, none⟩ = some (.string a0_5) := (blk_cell BK204.out 5).trans rfl
                        have hcz72_6 : wc.cell? ⟨gb204, 6, none⟩ = some (.int .i64 a0_6) := (blk_cell BK204.out 6).trans rfl
                        have hcz72_7 : wc.cell? ⟨gb204, 7, none⟩ = some (.string a0_7) := (blk_cell BK204.out 7).trans rfl
                        have hcz72_8 : wc.cell? ⟨gb204, 8, none⟩ = some (.string a0_8) := (blk_cell BK204.out 8).trans rfl
                        have hcz72_9 : wc.cell? ⟨gb204, 9, none⟩ = some (.bool false) := (blk_cell BK204.out 9).trans rfl
                        have hfz72_0 := blk_frozen BK204.out 0
                        have hfz72_1 := blk_frozen BK204.out 1
                        have hfz72_2 := blk_frozen BK204.out 2
                        have hfz72_3 := blk_frozen BK204.out 3
                        have hfz72_4 := blk_frozen BK204.out 4
                        have hfz72_5 := blk_frozen BK204.out 5
                        have hfz72_6 := blk_frozen BK204.out 6
                        have hfz72_7 := blk_frozen BK204.out 7
                        have hfz72_8 := blk_frozen BK204.out 8
                        have hfz72_9 := blk_frozen BK204.out 9
                        go_wp2
                        go_ret
                        exact ⟨by first | rfl | (simp [errW_none, errW_some] <;> rfl) | (simp [*, errW_none, errW_some] <;> rfl), by repeat (first | (with_reducible first | exact HB.out | apply below_alloc | apply pw_below_drewN | apply below_drew1 | refine below_set ?_ GE204.out) | exact HB.out)⟩
                    · rw [if_neg c65] at H
                      have c65b0 : (a0_2 == 4) = false := beq_eq_false_iff_ne.mpr c65
                      have c65b1 : (a0_2 != 4) = true := bne_iff_ne.mpr c65
                      by_cases c73 : (a0_8.size : Int) > 256
                      · rw [if_pos c73] at H
                        have c73b0 : decide (256 < (a0_8.size : Int)) = true := decide_eq_true c73
                        have c73b1 : decide (256 < a0_8.size) = true := decide_eq_true (by omega)
                        clear c73
                        obtain rfl := Option.some.inj H
                        have hcz74_0 : wc.cell? ⟨gb204, 0, none⟩ = some (.int .i64 a0_0) := (blk_cell BK204.out 0).trans rfl
                        have hcz74_1 : wc.cell? ⟨gb204, 1, none⟩ = some (.int .i64 a0_1) := (blk_cell BK204.out 1).trans rfl
                        have hcz74_2 : wc.cell? ⟨gb204, 2, none⟩ = some (.int .i64 a0_2) := (blk_cell BK204.out 2).trans rfl
                        have hcz74_3 : wc.cell? ⟨gb204, 3, none⟩ = some (.string a0_3) := (blk_cell BK204.out 3).trans rfl
                        have hcz74_4 : wc.cell? ⟨gb204, 4, none⟩ = some (.string a0_4) := (blk_cell BK204.out 4).trans rfl
                        have hcz74_5 : wc.cell? ⟨gb204, 5, none⟩ = some (.string a0_5) := (blk_cell BK204.out 5).trans rfl
                        have hcz74_6 : wc.cell? ⟨gb204, 6, none⟩ = some (.int .i64 a0_6) := (blk_cell BK204.out 6).trans rfl
                        have hcz74_7 : wc.cell? ⟨gb204, 7, none⟩ = some (.string a0_7) := (blk_cell BK204.out 7).trans rfl
                        have hcz74_8 : wc.cell? ⟨gb204, 8, none⟩ = some (.string a0_8) := (blk_cell BK204.out 8).trans rfl
                        have hcz74_9 : wc.cell? ⟨gb204, 9, none⟩ = some (.bool false) := (blk_cell BK204.out 9).trans rfl
                        have hfz74_0 := blk_frozen BK204.out 0
                        have hfz74_1 := blk_frozen BK204.out 1
                        have hfz74_2 := blk_frozen BK204.out 2
                        have hfz74_3 := blk_frozen BK204.out 3
                        have hfz74_4 := blk_frozen BK204.out 4
                        have hfz74_5 := blk_frozen BK204.out 5
                        have hfz74_6 := blk_frozen BK204.out 6
                        have hfz74_7 := blk_frozen BK204.out 7
                        have hfz74_8 := blk_frozen BK204.out 8
                        have hfz74_9 := blk_frozen BK204.out 9
                        go_wp2
                        go_ret
                        exact ⟨by first | rfl | (simp [errW_none, errW_some] <;> rfl) | (simp [*, errW_none, errW_some] <;> rfl), by repeat (first | (with_reducible first | exact HB.out | apply below_alloc | apply pw_below_drewN | apply below_drew1 | refine below_set ?_ GE204.out) | exact HB.out)⟩
                      · rw [if_neg c73] at H
                        have c73b0 : decide (256 < (a0_8.size : Int)) = false := decide_eq_false c73
                        have c73b1 : decide (256 < a0_8.size) = false := decide_eq_false (by omega)
                        clear c73
                        replace H := Option.bind_eq_some_iff.mp H
                        obtain ⟨t210, A750, H⟩ := H
                        replace H : (some t210) = some r := H
                        have A75 := Aside0.mk A750
                        clear A750
                        obtain rfl := Option.some.inj H
                        have hcz76_0 : wc.cell? ⟨gb204, 0, none⟩ = some (.int .i64 a0_0) := (blk_cell BK204.out 0).trans rfl
                        have hcz76_1 : wc.cell? ⟨gb204, 1, none⟩ = some (.int .i64 a0_1) := (blk_cell BK204.out 1).trans rfl
                        have hcz76_2 : wc.cell? ⟨gb204, 2, none⟩ = some (.int .i64 a0_2) := (blk_cell BK204.out 2).trans rfl
                        have hcz76_3 : wc.cell? ⟨gb204, 3, none⟩ = some (.string a0_3) := (blk_cell BK204.out 3).trans rfl
                        have hcz76_4 : wc.cell? ⟨gb204, 4, none⟩ = some (.string a0_4) := (blk_cell BK204.out 4).trans rfl
                        have hcz76_5 : wc.cell? ⟨gb204, 5, none⟩ = some (.string a0_5) := (blk_cell BK204.out 5).trans rfl
                        have hcz76_6 : wc.cell? ⟨gb204, 6, none⟩ = some (.int .i64 a0_6) := (blk_cell BK204.out 6).trans rfl
                        have hcz76_7 : wc.cell? ⟨gb204, 7, none⟩ = some (.string a0_7) := (blk_cell BK204.out 7).trans rfl
                        have hcz76_8 : wc.cell? ⟨gb204, 8, none⟩ = some (.string a0_8) := (blk_cell BK204.out 8).trans rfl
                        have hcz76_9 : wc.cell? ⟨gb204, 9, none⟩ = some (.bool false) := (blk_cell BK204.out 9).trans rfl
                        have hfz76_0 := blk_frozen BK204.out 0
                        have hfz76_1 := blk_frozen BK204.out 1
                        have hfz76_2 := blk_frozen BK204.out 2
                        have hfz76_3 := blk_frozen BK204.out 3
                        have hfz76_4 := blk_frozen BK204.out 4
                        have hfz76_5 := blk_frozen BK204.out 5
                        have hfz76_6 := blk_frozen BK204.out 6
                        have hfz76_7 := blk_frozen BK204.out 7
                        have hfz76_8 := blk_frozen BK204.out 8
                        have hfz76_9 := blk_frozen BK204.out 9
                        go_wp2_with (first | ((with_reducible refine gate_callee (f := 19) rfl ?_); refine goesL_ (some 131) rfl rfl Try.func19 (by kernel_rfl) rfl #[.agg #[.string a0_3, .string a0_4, .int .i64 a0_6, .string a0_7, .bool false]] rfl (by (try simp only [List.map_toArray, List.map_cons, List.map_nil]); first | done | rfl | (simp only [List.length_drop, List.length_take]; rfl)) ?_; (with_reducible refine (shardlogref08_Right.calls a0_3 a0_4 a0_6 a0_7 false t210 _ A75.out).mono ?_); rintro e w77 ⟨rfl, hb⟩; refine ⟨_, rfl, ?_⟩; have n0_ := Aside0.mk (blk_below (g := gb204) (o := .cells #[.int .i64 a0_0, .int .i64 a0_1, .int .i64 a0_2, .string a0_3, .string a0_4, .string a0_5, .int .i64 a0_6, .string a0_7, .string a0_8, .bool false] 23 (0, 0)) (by (with_reducible repeat (first | refine blk_drewN ?_ _ | refine blk_drew ?_ | refine blk_alloc ?_ _)); exact BK204.out) hb); have n1_ := Aside0.mk (below_step (by repeat (first | (with_reducible first | exact HB.out | apply below_alloc | apply pw_below_drewN | apply below_drew1 | refine below_set ?_ GE204.out) | exact HB.out)) hb); clear BK204; clear HB; have BK204 := n0_; have HB := n1_; clear n0_ n1_; (try clear hb); (try clear hb2); (try clear hk); (try clear hi)))
                        go_ret
                        exact ⟨by first | rfl | (simp [errW_none, errW_some] <;> rfl) | (simp [*, errW_none, errW_some] <;> rfl), by repeat (first | (with_reducible first | exact HB.out | apply below_alloc | apply pw_below_drewN | apply below_drew1 | refine below_set ?_ GE204.out) | exact HB.out)⟩
                · rw [if_neg c56] at H
                  have c56b0 : (a0_8.toList == ([] : List UInt8)) = false := beq_eq_false_iff_ne.mpr c56
                  have c56b1 : (a0_8.toList != ([] : List UInt8)) = true := bne_iff_ne.mpr c56
                  obtain rfl := Option.some.inj H
                  have hcz78_0 : wc.cell? ⟨gb204, 0, none⟩ = some (.int .i64 a0_0) := (blk_cell BK204.out 0).trans rfl
                  have hcz78_1 : wc.cell? ⟨gb204, 1, none⟩ = some (.int .i64 a0_1) := (blk_cell BK204.out 1).trans rfl
                  have hcz78_2 : wc.cell? ⟨gb204, 2, none⟩ = some (.int .i64 a0_2) := (blk_cell BK204.out 2).trans rfl
                  have hcz78_3 : wc.cell? ⟨gb204, 3, none⟩ = some (.string a0_3) := (blk_cell BK204.out 3).trans rfl
                  have hcz78_4 : wc.cell? ⟨gb204, 4, none⟩ = some (.string a0_4) := (blk_cell BK204.out 4).trans rfl
                  have hcz78_5 : wc.cell? ⟨gb204, 5, none⟩ = some (.string a0_5) := (blk_cell BK204.out 5).trans rfl
                  have hcz78_6 : wc.cell? ⟨gb204, 6, none⟩ = some (.int .i64 a0_6) := (blk_cell BK204.out 6).trans rfl
                  have hcz78_7 : wc.cell? ⟨gb204, 7, none⟩ = some (.string a0_7) := (blk_cell BK204.out 7).trans rfl
                  have hcz78_8 : wc.cell? ⟨gb204, 8, none⟩ = some (.string a0_8) := (blk_cell BK204.out 8).trans rfl
                  have hcz78_9 : wc.cell? ⟨gb204, 9, none⟩ = some (.bool false) := (blk_cell BK204.out 9).trans rfl
                  have hfz78_0 := blk_frozen BK204.out 0
                  have hfz78_1 := blk_frozen BK204.out 1
                  have hfz78_2 := blk_frozen BK204.out 2
                  have hfz78_3 := blk_frozen BK204.out 3
                  have hfz78_4 := blk_frozen BK204.out 4
                  have hfz78_5 := blk_frozen BK204.out 5
                  have hfz78_6 := blk_frozen BK204.out 6
                  have hfz78_7 := blk_frozen BK204.out 7
                  have hfz78_8 := blk_frozen BK204.out 8
                  have hfz78_9 := blk_frozen BK204.out 9
                  go_wp2
                  go_ret
                  exact ⟨by first | rfl | (simp [errW_none, errW_some] <;> rfl) | (simp [*, errW_none, errW_some] <;> rfl), by repeat (first | (with_reducible first | exact HB.out | apply below_alloc | apply pw_below_drewN | apply below_drew1 | refine below_set ?_ GE204.out) | exact HB.out)⟩
            · rw [if_neg c33] at H
              have c33b0 : (a0_2 == 3) = false := beq_eq_false_iff_ne.mpr c33
              have c33b1 : (a0_2 != 3) = true := bne_iff_ne.mpr c33
              by_cases c79 : a0_9 = true
              · subst c79
                have H1 : (some false) = some r := by rw [if_pos rfl] at H; exact H
                clear H
                have H := H1
                clear H1
                obtain rfl := Option.some.inj H
                have hcz80_0 : wc.cell? ⟨gb204, 0, none⟩ = some (.int .i64 a0_0) := (blk_cell BK204.out 0).trans rfl
                have hcz80_1 : wc.cell? ⟨gb204, 1, none⟩ = some (.int .i64 a0_1) := (blk_cell BK204.out 1).trans rfl
                have hcz80_2 : wc.cell? ⟨gb204, 2, none⟩ = some (.int .i64 a0_2) := (blk_cell BK204.out 2).trans rfl
                have hcz80_3 : wc.cell? ⟨gb204, 3, none⟩ = some (.string a0_3) := (blk_cell BK204.out 3).trans rfl
                have hcz80_4 : wc.cell? ⟨gb204, 4, none⟩ = some (.string a0_4) := (blk_cell BK204.out 4).trans rfl
                have hcz80_5 : wc.cell? ⟨gb204, 5, none⟩ = some (.string a0_5) := (blk_cell BK204.out 5).trans rfl
                have hcz80_6 : wc.cell? ⟨gb204, 6, none⟩ = some (.int .i64 a0_6) := (blk_cell BK204.out 6).trans rfl
                have hcz80_7 : wc.cell? ⟨gb204, 7, none⟩ = some (.string a0_7) := (blk_cell BK204.out 7).trans rfl
                have hcz80_8 : wc.cell? ⟨gb204, 8, none⟩ = some (.string a0_8) := (blk_cell BK204.out 8).trans rfl
                have hcz80_9 : wc.cell? ⟨gb204, 9, none⟩ = some (.bool true) := (blk_cell BK204.out 9).trans rfl
                have hfz80_0 := blk_frozen BK204.out 0
                have hfz80_1 := blk_frozen BK204.out 1
                have hfz80_2 := blk_frozen BK204.out 2
                have hfz80_3 := blk_frozen BK204.out 3
                have hfz80_4 := blk_frozen BK204.out 4
                have hfz80_5 := blk_frozen BK204.out 5
                have hfz80_6 := blk_frozen BK204.out 6
                have hfz80_7 := blk_frozen BK204.out 7
                have hfz80_8 := blk_frozen BK204.out 8
                have hfz80_9 := blk_frozen BK204.out 9
                go_wp2
                go_ret
                exact ⟨by first | rfl | (simp [errW_none, errW_some] <;> rfl) | (simp [*, errW_none, errW_some] <;> rfl), by repeat (first | (with_reducible first | exact HB.out | apply below_alloc | apply pw_below_drewN | apply below_drew1 | refine below_set ?_ GE204.out) | exact HB.out)⟩
              · replace c79 := Bool.eq_false_iff.mpr c79
                subst c79
                have H1 : (if a0_8.toList = ([] : List UInt8) then (if a0_2 = 2 then (if a0_7.toList = ([] : List UInt8) then (if (a0_8.size : Int) > 256 then (some false) else ((shardlogref08_Right.f a0_3 a0_4 a0_6 a0_7 false).bind fun t211 => (some t211))) else (some false)) else (if a0_2 = 4 then (if a0_7.toList = ([] : List UInt8) then (if (a0_8.size : Int) > 256 then (some false) else ((shardlogref08_Right.f a0_3 a0_4 a0_6 a0_7 false).bind fun t212 => (some t212))) else (some false)) else (if (a0_8.size : Int) > 256 then (some false) else ((shardlogref08_Right.f a0_3 a0_4 a0_6 a0_7 false).bind fun t213 => (some t213))))) else (some false)) = some r := by rw [if_neg (show ¬ (false = true) by decide)] at H; exact H
                clear H
                have H := H1
                clear H1
                by_cases c81 : a0_8.toList = ([] : List UInt8)
                · rw [if_pos c81] at H
                  have c81b0 : (a0_8.toList == ([] : List UInt8)) = true := beq_iff_eq.mpr c81
                  have c81b1 : (a0_8.toList != ([] : List UInt8)) = false := bne_eq_false_iff_eq.mpr c81
                  clear c81
                  by_cases c82 : a0_2 = 2
                  · rw [if_pos c82] at H
                    have c82b0 : (a0_2 == 2) = true := beq_iff_eq.mpr c82
                    have c82b1 : (a0_2 != 2) = false := bne_eq_false_iff_eq.mpr c82
                    clear c82
                    by_cases c83 : a0_7.toList = ([] : List UInt8)
                    · rw [if_pos c83] at H
                      have c83b0 : (a0_7.toList == ([] : List UInt8)) = true := beq_iff_eq.mpr c83
                      have c83b1 : (a0_7.toList != ([] : List UInt8)) = false := bne_eq_false_iff_eq.mpr c83
                      clear c83
                      by_cases c84 : (a0_8.size : Int) > 256
                      · rw [if_pos c84] at H
                        have c84b0 : decide (256 < (a0_8.size : Int)) = true := decide_eq_true c84
                        have c84b1 : decide (256 < a0_8.size) = true := decide_eq_true (by omega)
                        clear c84
                        obtain rfl := Option.some.inj H
                        have hcz85_0 : wc.cell? ⟨gb204, 0, none⟩ = some (.int .i64 a0_0) := (blk_cell BK204.out 0).trans rfl
                        have hcz85_1 : wc.cell? ⟨gb204, 1, none⟩ = some (.int .i64 a0_1) := (blk_cell BK204.out 1).trans rfl
                        have hcz85_2 : wc.cell? ⟨gb204, 2, none⟩ = some (.int .i64 a0_2) := (blk_cell BK204.out 2).trans rfl
                        have hcz85_3 : wc.cell? ⟨gb204, 3, none⟩ = some (.string a0_3) := (blk_cell BK204.out 3).trans rfl
                        have hcz85_4 : wc.cell? ⟨gb204, 4, none⟩ = some (.string a0_4) := (blk_cell BK204.out 4).trans rfl
                        have hcz85_5 : wc.cell? ⟨gb204, 5, none⟩ = some (.string a0_5) := (blk_cell BK204.out 5).trans rfl
                        have hcz85_6 : wc.cell? ⟨gb204, 6, none⟩ = some (.int .i64 a0_6) := (blk_cell BK204.out 6).trans rfl
                        have hcz85_7 : wc.cell? ⟨gb204, 7, none⟩ = some (.string a0_7) := (blk_cell BK204.out 7).trans rfl
                        have hcz85_8 : wc.cell? ⟨gb204, 8, none⟩ = some (.string a0_8) := (blk_cell BK204.out 8).trans rfl
                        have hcz85_9 : wc.cell? ⟨gb204, 9, none⟩ = some (.bool false) := (blk_cell BK204.out 9).trans rfl
                        have hfz85_0 := blk_frozen BK204.out 0
                        have hfz85_1 := blk_frozen BK204.out 1
                        have hfz85_2 := blk_frozen BK204.out 2
                        have hfz85_3 := blk_frozen BK204.out 3
                        have hfz85_4 := blk_frozen BK204.out 4
                        have hfz85_5 := blk_frozen BK204.out 5
                        have hfz85_6 := blk_frozen BK204.out 6
                        have hfz85_7 := blk_frozen BK204.out 7
                        have hfz85_8 := blk_frozen BK204.out 8
                        have hfz85_9 := blk_frozen BK204.out 9
                        go_wp2
                        go_ret
                        exact ⟨by first | rfl | (simp [errW_none, errW_some] <;> rfl) | (simp [*, errW_none, errW_some] <;> rfl), by repeat (first | (with_reducible first | exact HB.out | apply below_alloc | apply pw_below_drewN | apply below_drew1 | refine below_set ?_ GE204.out) | exact HB.out)⟩
                      · rw [if_neg c84] at H
                        have c84b0 : decide (256 < (a0_8.size : Int)) = false := decide_eq_false c84
                        have c84b1 : decide (256 < a0_8.size) = false := decide_eq_false (by omega)
                        clear c84
                        replace H := Option.bind_eq_some_iff.mp H
                        obtain ⟨t211, A860, H⟩ := H
                        replace H : (some t211) = some r := H
                        have A86 := Aside0.mk A860
                        clear A860
                        obtain rfl := Option.some.inj H
                        have hcz87_0 : wc.cell? ⟨gb204, 0, none⟩ = some (.int .i64 a0_0) := (blk_cell BK204.out 0).trans rfl
                        have hcz87_1 : wc.cell? ⟨gb204, 1, none⟩ = some (.int .i64 a0_1) := (blk_cell BK204.out 1).trans rfl
                        have hcz87_2 : wc.cell? ⟨gb204, 2, none⟩ = some (.int .i64 a0_2) := (blk_cell BK204.out 2).trans rfl
                        have hcz87_3 : wc.cell? ⟨gb204, 3, none⟩ = some (.string a0_3) := (blk_cell BK204.out 3).trans rfl
                        have hcz87_4 : wc.cell? ⟨gb204, 4, none⟩ = some (.string a0_4) := (blk_cell BK204.out 4).trans rfl
                        have hcz87_5 : wc.cell? ⟨gb204, 5, none⟩ = some (.string a0_5) := (blk_cell BK204.out 5).trans rfl
                        have hcz87_6 : wc.cell? ⟨gb204, 6, none⟩ = some (.int .i64 a0_6) := (blk_cell BK204.out 6).trans rfl
                        have hcz87_7 : wc.cell? ⟨gb204, 7, none⟩ = some (.string a0_7) := (blk_cell BK204.out 7).trans rfl
                        have hcz87_8 : wc.cell? ⟨gb204, 8, none⟩ = some (.string a0_8) := (blk_cell BK204.out 8).trans rfl
                        have hcz87_9 : wc.cell? ⟨gb204, 9, none⟩ = some (.bool false) := (blk_cell BK204.out 9).trans rfl
                        have hfz87_0 := blk_frozen BK204.out 0
                        have hfz87_1 := blk_frozen BK204.out 1
                        have hfz87_2 := blk_frozen BK204.out 2
                        have hfz87_3 := blk_frozen BK204.out 3
                        have hfz87_4 := blk_frozen BK204.out 4
                        have hfz87_5 := blk_frozen BK204.out 5
                        have hfz87_6 := blk_frozen BK204.out 6
                        have hfz87_7 := blk_frozen BK204.out 7
                        have hfz87_8 := blk_frozen BK204.out 8
                        have hfz87_9 := blk_frozen BK204.out 9
                        go_wp2_with (first | ((with_reducible refine gate_callee (f := 19) rfl ?_); refine goesL_ (some 131) rfl rfl Try.func19 (by kernel_rfl) rfl #[.agg #[.string a0_3, .string a0_4, .int .i64 a0_6, .string a0_7, .bool false]] rfl (by (try simp only [List.map_toArray, List.map_cons, List.map_nil]); first | done | rfl | (simp only [List.length_drop, List.length_take]; rfl)) ?_; (with_reducible refine (shardlogref08_Right.calls a0_3 a0_4 a0_6 a0_7 false t211 _ A86.out).mono ?_); rintro e w88 ⟨rfl, hb⟩; refine ⟨_, rfl, ?_⟩; have n0_ := Aside0.mk (blk_below (g := gb204) (o := .cells #[.int .i64 a0_0, .int .i64 a0_1, .int .i64 a0_2, .string a0_3, .string a0_4, .string a0_5, .int .i64 a0_6, .string a0_7, .string a0_8, .bool false] 23 (0, 0)) (by (with_reducible repeat (first | refine blk_drewN ?_ _ | refine blk_drew ?_ | refine blk_alloc ?_ _)); exact BK204.out) hb); have n1_ := Aside0.mk (below_step (by repeat (first | (with_reducible first | exact HB.out | apply below_alloc | apply pw_below_drewN | apply below_drew1 | refine below_set ?_ GE204.out) | exact HB.out)) hb); clear BK204; clear HB; have BK204 := n0_; have HB := n1_; clear n0_ n1_; (try clear hb); (try clear hb2); (try clear hk); (try clear hi)))
                        go_ret
                        exact ⟨by first | rfl | (simp [errW_none, errW_some] <;> rfl) | (simp [*, errW_none, errW_some] <;> rfl), by repeat (first | (with_reducible first | exact HB.out | apply below_alloc | apply pw_below_drewN | apply below_drew1 | refine below_set ?_ GE204.out) | exact HB.out)⟩
                    · rw [if_neg c83] at H
                      have c83b0 : (a0_7.toList == ([] : List UInt8)) = false := beq_eq_false_iff_ne.mpr c83
                      have c83b1 : (a0_7.toList != ([] : List UInt8)) = true := bne_iff_ne.mpr c83
                      obtain rfl := Option.some.inj H
                      have hcz89_0 : wc.cell? ⟨gb204, 0, none⟩ = some (.int .i64 a0_0) := (blk_cell BK204.out 0).trans rfl
                      have hcz89_1 : wc.cell? ⟨gb204, 1, none⟩ = some (.int .i64 a0_1) := (blk_cell BK204.out 1).trans rfl
                      have hcz89_2 : wc.cell? ⟨gb204, 2, none⟩ = some (.int .i64 a0_2) := (blk_cell BK204.out 2).trans rfl
                      have hcz89_3 : wc.cell? ⟨gb204, 3, none⟩ = some (.string a0_3) := (blk_cell BK204.out 3).trans rfl
                      have hcz89_4 : wc.cell? ⟨gb204, 4, none⟩ = some (.string a0_4) := (blk_cell BK204.out 4).trans rfl
                      have hcz89_5 : wc.cell? ⟨gb204, 5, none⟩ = some (.string a0_5) := (blk_cell BK204.out 5).trans rfl
                      have hcz89_6 : wc.cell? ⟨gb204, 6, none⟩ = some (.int .i64 a0_6) := (blk_cell BK204.out 6).trans rfl
                      have hcz89_7 : wc.cell? ⟨gb204, 7, none⟩ = some (.string a0_7) := (blk_cell BK204.out 7).trans rfl
                      have hcz89_8 : wc.cell? ⟨gb204, 8, none⟩ = some (.string a0_8) := (blk_cell BK204.out 8).trans rfl
                      have hcz89_9 : wc.cell? ⟨gb204, 9, none⟩ = some (.bool false) := (blk_cell BK204.out 9).trans rfl
                      have hfz89_0 := blk_frozen BK204.out 0
                      have hfz89_1 := blk_frozen BK204.out 1
                      have hfz89_2 := blk_frozen BK204.out 2
                      have hfz89_3 := blk_frozen BK204.out 3
                      have hfz89_4 := blk_frozen BK204.out 4
                      have hfz89_5 := blk_frozen BK204.out 5
                      have hfz89_6 := blk_frozen BK204.out 6
                      have hfz89_7 := blk_frozen BK204.out 7
                      have hfz89_8 := blk_frozen BK204.out 8
                      have hfz89_9 := blk_frozen BK204.out 9
                      go_wp2
                      go_ret
                      exact ⟨by first | rfl | (simp [errW_none, errW_some] <;> rfl) | (simp [*, errW_none, errW_some] <;> rfl), by repeat (first | (with_reducible first | exact HB.out | apply below_alloc | apply pw_below_drewN | apply below_drew1 | refine below_set ?_ GE204.out) | exact HB.out)⟩
                  · rw [if_neg c82] at H
                    have c82b0 : (a0_2 == 2) = false := beq_eq_false_iff_ne.mpr c82
                    have c82b1 : (a0_2 != 2) = true := bne_iff_ne.mpr c82
                    by_cases c90 : a0_2 = 4
                    · rw [if_pos c90] at H
                      have c90b0 : (a0_2 == 4) = true := beq_iff_eq.mpr c90
                      have c90b1 : (a0_2 != 4) = false := bne_eq_false_iff_eq.mpr c90
                      clear c90
                      by_cases c91 : a0_7.toList = ([] : List UInt8)
                      · rw [if_pos c91] at H
                        have c91b0 : (a0_7.toList == ([] : List UInt8)) = true := beq_iff_eq.mpr c91
                        have c91b1 : (a0_7.toList != ([] : List UInt8)) = false := bne_eq_false_iff_eq.mpr c91
                        clear c91
                        by_cases c92 : (a0_8.size : Int) > 256
                        · rw [if_pos c92] at H
                          have c92b0 : decide (256 < (a0_8.size : Int)) = true := decide_eq_true c92
                          have c92b1 : decide (256 < a0_8.size) = true := decide_eq_true (by omega)
                          clear c92
                          obtain rfl := Option.some.inj H
                          have hcz93_0 : wc.cell? ⟨gb204, 0, none⟩ = some (.int .i64 a0_0) := (blk_cell BK204.out 0).trans rfl
                          have hcz93_1 : wc.cell? ⟨gb204, 1, none⟩ = some (.int .i64 a0_1) := (blk_cell BK204.out 1).trans rfl
                          have hcz93_2 : wc.cell? ⟨gb204, 2, none⟩ = some (.int .i64 a0_2) := (blk_cell BK204.out 2).trans rfl
                          have hcz93_3 : wc.cell? ⟨gb204, 3, none⟩ = some (.string a0_3) := (blk_cell BK204.out 3).trans rfl
                          have hcz93_4 : wc.cell? ⟨gb204, 4, none⟩ = some (.string a0_4) := (blk_cell BK204.out 4).trans rfl
                          have hcz93_5 : wc.cell? ⟨gb204, 5, none⟩ = some (.string a0_5) := (blk_cell BK204.out 5).trans rfl
                          have hcz93_6 : wc.cell? ⟨gb204, 6, none⟩ = some (.int .i64 a0_6) := (blk_cell BK204.out 6).trans rfl
                          have hcz93_7 : wc.cell? ⟨gb204, 7, none⟩ = some (.string a0_7) := (blk_cell BK204.out 7).trans rfl
                          have hcz93_8 : wc.cell? ⟨gb204, 8, none⟩ = some (.string a0_8) := (blk_cell BK204.out 8).trans rfl
                          have hcz93_9 : wc.cell? ⟨gb204, 9, none⟩ = some (.bool false) := (blk_cell BK204.out 9).trans rfl
                          have hfz93_0 := blk_frozen BK204.out 0
                          have hfz93_1 := blk_frozen BK204.out 1
                          have hfz93_2 := blk_frozen BK204.out 2
                          have hfz93_3 := blk_frozen BK204.out 3
                          have hfz93_4 := blk_frozen BK204.out 4
                          have hfz93_5 := blk_frozen BK204.out 5
                          have hfz93_6 := blk_frozen BK204.out 6
                          have hfz93_7 := blk_frozen BK204.out 7
                          have hfz93_8 := blk_frozen BK204.out 8
                          have hfz93_9 := blk_frozen BK204.out 9
                          go_wp2
                          go_ret
                          exact ⟨by first | rfl | (simp [errW_none, errW_some] <;> rfl) | (simp [*, errW_none, errW_some] <;> rfl), by repeat (first | (with_reducible first | exact HB.out | apply below_alloc | apply pw_below_drewN | apply below_drew1 | refine below_set ?_ GE204.out) | exact HB.out)⟩
                        · rw [if_neg c92] at H
                          have c92b0 : decide (256 < (a0_8.size : Int)) = false := decide_eq_false c92
                          have c92b1 : decide (256 < a0_8.size) = false := decide_eq_false (by omega)
                          clear c92
                          replace H := Option.bind_eq_some_iff.mp H
                          obtain ⟨t212, A940, H⟩ := H
                          replace H : (some t212) = some r := H
                          have A94 := Aside0.mk A940
                          clear A940
                          obtain rfl := Option.some.inj H
                          have hcz95_0 : wc.cell? ⟨gb204, 0, none⟩ = some (.int .i64 a0_0) := (blk_cell BK204.out 0).trans rfl
                          have hcz95_1 : wc.cell? ⟨gb204, 1, none⟩ = some (.int .i64 a0_1) := (blk_cell BK204.out 1).trans rfl
                          have hcz95_2 : wc.cell? ⟨gb204, 2, none⟩ = some (.int .i64 a0_2) := (blk_cell BK204.out 2).trans rfl
                          have hcz95_3 : wc.cell? ⟨gb204, 3, none⟩ = some (.string a0_3) := (blk_cell BK204.out 3).trans rfl
                          have hcz95_4 : wc.cell? ⟨gb204, 4, none⟩ = some (.string a0_4) := (blk_cell BK204.out 4).trans rfl
                          have hcz95_5 : wc.cell? ⟨gb204, 5, none⟩ = some (.string a0_5) := (blk_cell BK204.out 5).trans rfl
                          have hcz95_6 : wc.cell? ⟨gb204, 6, none⟩ = some (.int .i64 a0_6) := (blk_cell BK204.out 6).trans rfl
                          have hcz95_7 : wc.cell? ⟨gb204, 7, none⟩ = some (.string a0_7) := (blk_cell BK204.out 7).trans rfl
                          have hcz95_8 : wc.cell? ⟨gb204, 8, none⟩ = some (.string a0_8) := (blk_cell BK204.out 8).trans rfl
                          have hcz95_9 : wc.cell? ⟨gb204, 9, none⟩ = some (.bool false) := (blk_cell BK204.out 9).trans rfl
                          have hfz95_0 := blk_frozen BK204.out 0
                          have hfz95_1 := blk_frozen BK204.out 1
                          have hfz95_2 := blk_frozen BK204.out 2
                          have hfz95_3 := blk_frozen BK204.out 3
                          have hfz95_4 := blk_frozen BK204.out 4
                          have hfz95_5 := blk_frozen BK204.out 5
                          have hfz95_6 := blk_frozen BK204.out 6
                          have hfz95_7 := blk_frozen BK204.out 7
                          have hfz95_8 := blk_frozen BK204.out 8
                          have hfz95_9 := blk_frozen BK204.out 9
                          go_wp2_with (first | ((with_reducible refine gate_callee (f := 19) rfl ?_); refine goesL_ (some 131) rfl rfl Try.func19 (by kernel_rfl) rfl #[.agg #[.string a0_3, .string a0_4, .int .i64 a0_6, .string a0_7, .bool false]] rfl (by (try simp only [List.map_toArray, List.map_cons, List.map_nil]); first | done | rfl | (simp only [List.length_drop, List.length_take]; rfl)) ?_; (with_reducible refine (shardlogref08_Right.calls a0_3 a0_4 a0_6 a0_7 false t212 _ A94.out).mono ?_); rintro e w96 ⟨rfl, hb⟩; refine ⟨_, rfl, ?_⟩; have n0_ := Aside0.mk (blk_below (g := gb204) (o := .cells #[.int .i64 a0_0, .int .i64 a0_1, .int .i64 a0_2, .string a0_3, .string a0_4, .string a0_5, .int .i64 a0_6, .string a0_7, .string a0_8, .bool false] 23 (0, 0)) (by (with_reducible repeat (first | refine blk_drewN ?_ _ | refine blk_drew ?_ | refine blk_alloc ?_ _)); exact BK204.out) hb); have n1_ := Aside0.mk (below_step (by repeat (first | (with_reducible first | exact HB.out | apply below_alloc | apply pw_below_drewN | apply below_drew1 | refine below_set ?_ GE204.out) | exact HB.out)) hb); clear BK204; clear HB; have BK204 := n0_; have HB := n1_; clear n0_ n1_; (try clear hb); (try clear hb2); (try clear hk); (try clear hi)))
                          go_ret
                          exact ⟨by first | rfl | (simp [errW_none, errW_some] <;> rfl) | (simp [*, errW_none, errW_some] <;> rfl), by repeat (first | (with_reducible first | exact HB.out | apply below_alloc | apply pw_below_drewN | apply below_drew1 | refine below_set ?_ GE204.out) | exact HB.out)⟩
                      · rw [if_neg c91] at H
                        have c91b0 : (a0_7.toList == ([] : List UInt8)) = false := beq_eq_false_iff_ne.mpr c91
                        have c91b1 : (a0_7.toList != ([] : List UInt8)) = true := bne_iff_ne.mpr c91
                        obtain rfl := Option.some.inj H
                        have hcz97_0 : wc.cell? ⟨gb204, 0, none⟩ = some (.int .i64 a0_0) := (blk_cell BK204.out 0).trans rfl
                        have hcz97_1 : wc.cell? ⟨gb204, 1, none⟩ = some (.int .i64 a0_1) := (blk_cell BK204.out 1).trans rfl
                        have hcz97_2 : wc.cell? ⟨gb204, 2, none⟩ = some (.int .i64 a0_2) := (blk_cell BK204.out 2).trans rfl
                        have hcz97_3 : wc.cell? ⟨gb204, 3, none⟩ = some (.string a0_3) := (blk_cell BK204.out 3).trans rfl
                        have hcz97_4 : wc.cell? ⟨gb204, 4, none⟩ = some (.string a0_4) := (blk_cell BK204.out 4).trans rfl
                        have hcz97_5 : wc.cell? ⟨gb204, 5, none⟩ = some (.string a0_5) := (blk_cell BK204.out 5).trans rfl
                        have hcz97_6 : wc.cell? ⟨gb204, 6, none⟩ = some (.int .i64 a0_6) := (blk_cell BK204.out 6).trans rfl
                        have hcz97_7 : wc.cell? ⟨gb204, 7, none⟩ = some (.string a0_7) := (blk_cell BK204.out 7).trans rfl
                        have hcz97_8 : wc.cell? ⟨gb204, 8, none⟩ = some (.string a0_8) := (blk_cell BK204.out 8).trans rfl
                        have hcz97_9 : wc.cell? ⟨gb204, 9, none⟩ = some (.bool false) := (blk_cell BK204.out 9).trans rfl
                        have hfz97_0 := blk_frozen BK204.out 0
                        have hfz97_1 := blk_frozen BK204.out 1
                        have hfz97_2 := blk_frozen BK204.out 2
                        have hfz97_3 := blk_frozen BK204.out 3
                        have hfz97_4 := blk_frozen BK204.out 4
                        have hfz97_5 := blk_frozen BK204.out 5
                        have hfz97_6 := blk_frozen BK204.out 6
                        have hfz97_7 := blk_frozen BK204.out 7
                        have hfz97_8 := blk_frozen BK204.out 8
                        have hfz97_9 := blk_frozen BK204.out 9
                        go_wp2
                        go_ret
                        exact ⟨by first | rfl | (simp [errW_none, errW_some] <;> rfl) | (simp [*, errW_none, errW_some] <;> rfl), by repeat (first | (with_reducible first | exact HB.out | apply below_alloc | apply pw_below_drewN | apply below_drew1 | refine below_set ?_ GE204.out) | exact HB.out)⟩
                    · rw [if_neg c90] at H
                      have c90b0 : (a0_2 == 4) = false := beq_eq_false_iff_ne.mpr c90
                      have c90b1 : (a0_2 != 4) = true := bne_iff_ne.mpr c90
                      by_cases c98 : (a0_8.size : Int) > 256
                      · rw [if_pos c98] at H
                        have c98b0 : decide (256 < (a0_8.size : Int)) = true := decide_eq_true c98
                        have c98b1 : decide (256 < a0_8.size) = true := decide_eq_true (by omega)
                        clear c98
                        obtain rfl := Option.some.inj H
                        have hcz99_0 : wc.cell? ⟨gb204, 0, none⟩ = some (.int .i64 a0_0) := (blk_cell BK204.out 0).trans rfl
                        have hcz99_1 : wc.cell? ⟨gb204, 1, none⟩ = some (.int .i64 a0_1) := (blk_cell BK204.out 1).trans rfl
                        have hcz99_2 : wc.cell? ⟨gb204, 2, none⟩ = some (.int .i64 a0_2) := (blk_cell BK204.out 2).trans rfl
                        have hcz99_3 : wc.cell? ⟨gb204, 3, none⟩ = some (.string a0_3) := (blk_cell BK204.out 3).trans rfl
                        have hcz99_4 : wc.cell? ⟨gb204, 4, none⟩ = some (.string a0_4) := (blk_cell BK204.out 4).trans rfl
                        have hcz99_5 : wc.cell? ⟨gb204, 5, none⟩ = some (.string a0_5) := (blk_cell BK204.out 5).trans rfl
                        have hcz99_6 : wc.cell? ⟨gb204, 6, none⟩ = some (.int .i64 a0_6) := (blk_cell BK204.out 6).trans rfl
                        have hcz99_7 : wc.cell? ⟨gb204, 7, none⟩ = some (.string a0_7) := (blk_cell BK204.out 7).trans rfl
                        have hcz99_8 : wc.cell? ⟨gb204, 8, none⟩ = some (.string a0_8) := (blk_cell BK204.out 8).trans rfl
                        have hcz99_9 : wc.cell? ⟨gb204, 9, none⟩ = some (.bool false) := (blk_cell BK204.out 9).trans rfl
                        have hfz99_0 := blk_frozen BK204.out 0
                        have hfz99_1 := blk_frozen BK204.out 1
                        have hfz99_2 := blk_frozen BK204.out 2
                        have hfz99_3 := blk_frozen BK204.out 3
                        have hfz99_4 := blk_frozen BK204.out 4
                        have hfz99_5 := blk_frozen BK204.out 5
                        have hfz99_6 := blk_frozen BK204.out 6
                        have hfz99_7 := blk_frozen BK204.out 7
                        have hfz99_8 := blk_frozen BK204.out 8
                        have hfz99_9 := blk_frozen BK204.out 9
                        go_wp2
                        go_ret
                        exact ⟨by first | rfl | (simp [errW_none, errW_some] <;> rfl) | (simp [*, errW_none, errW_some] <;> rfl), by repeat (first | (with_reducible first | exact HB.out | apply below_alloc | apply pw_below_drewN | apply below_drew1 | refine below_set ?_ GE204.out) | exact HB.out)⟩
                      · rw [if_neg c98] at H
                        have c98b0 : decide (256 < (a0_8.size : Int)) = false := decide_eq_false c98
                        have c98b1 : decide (256 < a0_8.size) = false := decide_eq_false (by omega)
                        clear c98
                        replace H := Option.bind_eq_some_iff.mp H
                        obtain ⟨t213, A1000, H⟩ := H
                        replace H : (some t213) = some r := H
                        have A100 := Aside0.mk A1000
                        clear A1000
                        obtain rfl := Option.some.inj H
                        have hcz101_0 : wc.cell? ⟨gb204, 0, none⟩ = some (.int .i64 a0_0) := (blk_cell BK204.out 0).trans rfl
                        have hcz101_1 : wc.cell? ⟨gb204, 1, none⟩ = some (.int .i64 a0_1) := (blk_cell BK204.out 1).trans rfl
                        have hcz101_2 : wc.cell? ⟨gb204, 2, none⟩ = some (.int .i64 a0_2) := (blk_cell BK204.out 2).trans rfl
                        have hcz101_3 : wc.cell? ⟨gb204, 3, none⟩ = some (.string a0_3) := (blk_cell BK204.out 3).trans rfl
                        have hcz101_4 : wc.cell? ⟨gb204, 4, none⟩ = some (.string a0_4) := (blk_cell BK204.out 4).trans rfl
                        have hcz101_5 : wc.cell? ⟨gb204, 5, none⟩ = some (.string a0_5) := (blk_cell BK204.out 5).trans rfl
                        have hcz101_6 : wc.cell? ⟨gb204, 6, none⟩ = some (.int .i64 a0_6) := (blk_cell BK204.out 6).trans rfl
                        have hcz101_7 : wc.cell? ⟨gb204, 7, none⟩ = some (.string a0_7) := (blk_cell BK204.out 7).trans rfl
                        have hcz101_8 : wc.cell? ⟨gb204, 8, none⟩ = some (.string a0_8) := (blk_cell BK204.out 8).trans rfl
                        have hcz101_9 : wc.cell? ⟨gb204, 9, none⟩ = some (.bool false) := (blk_cell BK204.out 9).trans rfl
                        have hfz101_0 := blk_frozen BK204.out 0
                        have hfz101_1 := blk_frozen BK204.out 1
                        have hfz101_2 := blk_frozen BK204.out 2
                        have hfz101_3 := blk_frozen BK204.out 3
                        have hfz101_4 := blk_frozen BK204.out 4
                        have hfz101_5 := blk_frozen BK204.out 5
                        have hfz101_6 := blk_frozen BK204.out 6
                        have hfz101_7 := blk_frozen BK204.out 7
                        have hfz101_8 := blk_frozen BK204.out 8
                        have hfz101_9 := blk_frozen BK204.out 9
                        go_wp2_with (first | ((with_reducible refine gate_callee (f := 19) rfl ?_); refine goesL_ (some 131) rfl rfl Try.func19 (by kernel_rfl) rfl #[.agg #[.string a0_3, .string a0_4, .int .i64 a0_6, .string a0_7, .bool false]] rfl (by (try simp only [List.map_toArray, List.map_cons, List.map_nil]); first | done | rfl | (simp only [List.length_drop, List.length_take]; rfl)) ?_; (with_reducible refine (shardlogref08_Right.calls a0_3 a0_4 a0_6 a0_7 false t213 _ A100.out).mono ?_); rintro e w102 ⟨rfl, hb⟩; refine ⟨_, rfl, ?_⟩; have n0_ := Aside0.mk (blk_below (g := gb204) (o := .cells #[.int .i64 a0_0, .int .i64 a0_1, .int .i64 a0_2, .string a0_3, .string a0_4, .string a0_5, .int .i64 a0_6, .string a0_7, .string a0_8, .bool false] 23 (0, 0)) (by (with_reducible repeat (first | refine blk_drewN ?_ _ | refine blk_drew ?_ | refine blk_alloc ?_ _)); exact BK204.out) hb); have n1_ := Aside0.mk (below_step (by repeat (first | (with_reducible first | exact HB.out | apply below_alloc | apply pw_below_drewN | apply below_drew1 | refine below_set ?_ GE204.out) | exact HB.out)) hb); clear BK204; clear HB; have BK204 := n0_; have HB := n1_; clear n0_ n1_; (try clear hb); (try clear hb2); (try clear hk); (try clear hi)))
                        go_ret
                        exact ⟨by first | rfl | (simp [errW_none, errW_some] <;> rfl) | (simp [*, errW_none, errW_some] <;> rfl), by repeat (first | (with_reducible first | exact HB.out | apply below_alloc | apply pw_below_drewN | apply below_drew1 | refine below_set ?_ GE204.out) | exact HB.out)⟩
                · rw [if_neg c81] at H
                  have c81b0 : (a0_8.toList == ([] : List UInt8)) = false := beq_eq_false_iff_ne.mpr c81
                  have c81b1 : (a0_8.toList != ([] : List UInt8)) = true := bne_iff_ne.mpr c81
                  obtain rfl := Option.some.inj H
                  have hcz103_0 : wc.cell? ⟨gb204, 0, none⟩ = some (.int .i64 a0_0) := (blk_cell BK204.out 0).trans rfl
                  have hcz103_1 : wc.cell? ⟨gb204, 1, none⟩ = some (.int .i64 a0_1) := (blk_cell BK204.out 1).trans rfl
                  have hcz103_2 : wc.cell? ⟨gb204, 2, none⟩ = some (.int .i64 a0_2) := (blk_cell BK204.out 2).trans rfl
                  have hcz103_3 : wc.cell? ⟨gb204, 3, none⟩ = some (.string a0_3) := (blk_cell BK204.out 3).trans rfl
                  have hcz103_4 : wc.cell? ⟨gb204, 4, none⟩ = some (.string a0_4) := (blk_cell BK204.out 4).trans rfl
                  have hcz103_5 : wc.cell? ⟨gb204, 5, none⟩ = some (.string a0_5) := (blk_cell BK204.out 5).trans rfl
                  have hcz103_6 : wc.cell? ⟨gb204, 6, none⟩ = some (.int .i64 a0_6) := (blk_cell BK204.out 6).trans rfl
                  have hcz103_7 : wc.cell? ⟨gb204, 7, none⟩ = some (.string a0_7) := (blk_cell BK204.out 7).trans rfl
                  have hcz103_8 : wc.cell? ⟨gb204, 8, none⟩ = some (.string a0_8) := (blk_cell BK204.out 8).trans rfl
                  have hcz103_9 : wc.cell? ⟨gb204, 9, none⟩ = some (.bool false) := (blk_cell BK204.out 9).trans rfl
                  have hfz103_0 := blk_frozen BK204.out 0
                  have hfz103_1 := blk_frozen BK204.out 1
                  have hfz103_2 := blk_frozen BK204.out 2
                  have hfz103_3 := blk_frozen BK204.out 3
                  have hfz103_4 := blk_frozen BK204.out 4
                  have hfz103_5 := blk_frozen BK204.out 5
                  have hfz103_6 := blk_frozen BK204.out 6
                  have hfz103_7 := blk_frozen BK204.out 7
                  have hfz103_8 := blk_frozen BK204.out 8
                  have hfz103_9 := blk_frozen BK204.out 9
                  go_wp2
                  go_ret
                  exact ⟨by first | rfl | (simp [errW_none, errW_some] <;> rfl) | (simp [*, errW_none, errW_some] <;> rfl), by repeat (first | (with_reducible first | exact HB.out | apply below_alloc | apply pw_below_drewN | apply below_drew1 | refine below_set ?_ GE204.out) | exact HB.out)⟩
          · rw [if_neg c32] at H
            have c32b0 : (a0_5.toList == ([] : List UInt8)) = false := beq_eq_false_iff_ne.mpr c32
            have c32b1 : (a0_5.toList != ([] : List UInt8)) = true := bne_iff_ne.mpr c32
            obtain rfl := Option.some.inj H
            have hcz104_0 : wc.cell? ⟨gb204, 0, none⟩ = some (.int .i64 a0_0) := (blk_cell BK204.out 0).trans rfl
            have hcz104_1 : wc.cell? ⟨gb204, 1, none⟩ = some (.int .i64 a0_1) := (blk_cell BK204.out 1).trans rfl
            have hcz104_2 : wc.cell? ⟨gb204, 2, none⟩ = some (.int .i64 a0_2) := (blk_cell BK204.out 2).trans rfl
            have hcz104_3 : wc.cell? ⟨gb204, 3, none⟩ = some (.string a0_3) := (blk_cell BK204.out 3).trans rfl
            have hcz104_4 : wc.cell? ⟨gb204, 4, none⟩ = some (.string a0_4) := (blk_cell BK204.out 4).trans rfl
            have hcz104_5 : wc.cell? ⟨gb204, 5, none⟩ = some (.string a0_5) := (blk_cell BK204.out 5).trans rfl
            have hcz104_6 : wc.cell? ⟨gb204, 6, none⟩ = some (.int .i64 a0_6) := (blk_cell BK204.out 6).trans rfl
            have hcz104_7 : wc.cell? ⟨gb204, 7, none⟩ = some (.string a0_7) := (blk_cell BK204.out 7).trans rfl
            have hcz104_8 : wc.cell? ⟨gb204, 8, none⟩ = some (.string a0_8) := (blk_cell BK204.out 8).trans rfl
            have hcz104_9 : wc.cell? ⟨gb204, 9, none⟩ = some (.bool a0_9) := (blk_cell BK204.out 9).trans rfl
            have hfz104_0 := blk_frozen BK204.out 0
            have hfz104_1 := blk_frozen BK204.out 1
            have hfz104_2 := blk_frozen BK204.out 2
            have hfz104_3 := blk_frozen BK204.out 3
            have hfz104_4 := blk_frozen BK204.out 4
            have hfz104_5 := blk_frozen BK204.out 5
            have hfz104_6 := blk_frozen BK204.out 6
            have hfz104_7 := blk_frozen BK204.out 7
            have hfz104_8 := blk_frozen BK204.out 8
            have hfz104_9 := blk_frozen BK204.out 9
            go_wp2
            go_ret
            exact ⟨by first | rfl | (simp [errW_none, errW_some] <;> rfl) | (simp [*, errW_none, errW_some] <;> rfl), by repeat (first | (with_reducible first | exact HB.out | apply below_alloc | apply pw_below_drewN | apply below_drew1 | refine below_set ?_ GE204.out) | exact HB.out)⟩

end Go.Proofs.Ytpneppnnhiijnaa.X
