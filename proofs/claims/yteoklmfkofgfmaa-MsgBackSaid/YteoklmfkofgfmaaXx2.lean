-- written by a program of this session's, over the kit's print
import Derived.Test.YteoklmfkofgfmaaXx0
import Derived.Test.YteoklmfkofgfmaaXx1
namespace Go.Proofs.Yteoklmfkofgfmaa.X
open Go.RowKit Go.Proofs.YteoklmfkofgfmaaW.PrintWords Go.Proofs.YteoklmfkofgfmaaW.PrintLast Go.Proofs.YteoklmfkofgfmaaW.PrintMore
attribute [local go_sem] max2_int min2_int max_two min_two max_three min_three max_four min_four gtr_str   -- for this text's walks alone
set_option linter.unusedVariables false
set_option linter.unusedSimpArgs false

attribute [local go_sem high] eqA23
/-! ### msg_Right_1: function 22 -/
def msg_Right_1.f (a0 : Int) (a1 : Int) : Option (Bool) := if a0 ≥ 0 then (some (decide (a0 < a1))) else (some false)
set_option maxHeartbeats 8000000 in
set_option maxRecDepth 100000 in
theorem msg_Right_1.calls (a0 : Int) (a1 : Int) (r : Bool) (w : World) (h : msg_Right_1.f a0 a1 = some r) :
  Calls Try.prog 22 #[.int .i64 a0, .int .i64 a1] w fun e w' => e = .returned (.bool r) ∧ Drawn0 w w' := by
 have H : (if a0 ≥ 0 then (some (decide (a0 < a1))) else (some false)) = some r := h
 clear h
 by_cases c3 : a0 ≥ 0
 ·
  rw [if_pos c3] at H
  have c3b0 : decide (0 ≤ a0) = true := decide_eq_true c3
  clear c3
  obtain rfl := Option.some.inj H
  go_enter Try.func22, Try.ntmps22
  go_wp2
  go_ret
  exact ⟨by first | rfl | (simp; done) | (simp [*]; done) | (simp; exact (by decide : ∀ a_ b_ : Bool, (a_ == b_) = (!a_ != b_)) _ _), by repeat (first | exact Drawn0.refl _ | apply Drawn0.step)⟩
 ·
  rw [if_neg c3] at H
  have c3b0 : decide (0 ≤ a0) = false := decide_eq_false c3
  clear c3
  obtain rfl := Option.some.inj H
  go_enter Try.func22, Try.ntmps22
  go_wp2
  go_ret
  exact ⟨by first | rfl | (simp; done) | (simp [*]; done) | (simp; exact (by decide : ∀ a_ b_ : Bool, (a_ == b_) = (!a_ != b_)) _ _), by repeat (first | exact Drawn0.refl _ | apply Drawn0.step)⟩

/-! ### msg_bare: function 23 -/
def msg_bare.f (a0_0 : Int) (a0_1 : Int) (a0_2 : Int) (a0_3 : Int) (a0_4 : Int) (a0_5 : Int) (a0_6 : Int) (a0_7 : Int) (a0_8 : Bool) (a0_9 : ByteArray) (l0_10 : List (S23)) : Option (Bool) := if a0_0 = 4 then (if a0_0 = 3 then (if a0_0 = 2 then (some true) else (some ((l0_10.length : Int) == 0))) else (if (a0_5 == 0 && (a0_6 == 0 && (a0_7 == 0 && (!a0_8 && (a0_9.toList == ([] : List UInt8)))))) = true then (if a0_0 = 2 then (some true) else (some ((l0_10.length : Int) == 0))) else (some false))) else (if a0_4 = 0 then (if a0_0 = 3 then (if a0_0 = 2 then (some true) else (some ((l0_10.length : Int) == 0))) else (if (a0_5 == 0 && (a0_6 == 0 && (a0_7 == 0 && (!a0_8 && (a0_9.toList == ([] : List UInt8)))))) = true then (if a0_0 = 2 then (some true) else (some ((l0_10.length : Int) == 0))) else (some false))) else (some false))
set_option maxHeartbeats 8000000 in
set_option maxRecDepth 100000 in
theorem msg_bare.calls (a0_0 : Int) (a0_1 : Int) (a0_2 : Int) (a0_3 : Int) (a0_4 : Int) (a0_5 : Int) (a0_6 : Int) (a0_7 : Int) (a0_8 : Bool) (a0_9 : ByteArray) (A0_10 : Option Addr) (c0_10 : Nat) (l0_10 : List (S23)) (r : Bool) (w : World) (hr0_10 : Kd.C k23 w A0_10 l0_10.length l0_10) (hc0_10 : l0_10.length ≤ c0_10) (h : msg_bare.f a0_0 a0_1 a0_2 a0_3 a0_4 a0_5 a0_6 a0_7 a0_8 a0_9 l0_10 = some r) :
  Calls Try.prog 23 #[.agg #[.int .i64 a0_0, .int .i64 a0_1, .int .i64 a0_2, .int .i64 a0_3, .int .i64 a0_4, .int .i64 a0_5, .int .i64 a0_6, .int .i64 a0_7, .bool a0_8, .string a0_9, .slice A0_10 l0_10.length c0_10]] w fun e w' => e = .returned (.bool r) ∧ Below w.heap.size w w' := by
 have hu26 := Try.underlying26; have hu23 := Try.underlying23
 have HR0_10 := aS hr0_10
 have HC0_10 := aS hc0_10
 clear hr0_10 hc0_10
 have HB := aS (Below.refl w.heap.size w)
 have H : (if a0_0 = 4 then (if a0_0 = 3 then (if a0_0 = 2 then (some true) else (some ((l0_10.length : Int) == 0))) else (if (a0_5 == 0 && (a0_6 == 0 && (a0_7 == 0 && (!a0_8 && (a0_9.toList == ([] : List UInt8)))))) = true then (if a0_0 = 2 then (some true) else (some ((l0_10.length : Int) == 0))) else (some false))) else (if a0_4 = 0 then (if a0_0 = 3 then (if a0_0 = 2 then (some true) else (some ((l0_10.length : Int) == 0))) else (if (a0_5 == 0 && (a0_6 == 0 && (a0_7 == 0 && (!a0_8 && (a0_9.toList == ([] : List UInt8)))))) = true then (if a0_0 = 2 then (some true) else (some ((l0_10.length : Int) == 0))) else (some false))) else (some false))) = some r := h
 clear h
 by_cases c2 : a0_0 = 4
 ·
  rw [if_pos c2] at H
  obtain ⟨c2b0, c2b1⟩ := eqT c2
  clear c2
  by_cases c3 : a0_0 = 3
  ·
   rw [if_pos c3] at H
   obtain ⟨c3b0, c3b1⟩ := eqT c3
   clear c3
   by_cases c4 : a0_0 = 2
   ·
    rw [if_pos c4] at H
    obtain ⟨c4b0, c4b1⟩ := eqT c4
    clear c4
    obtain rfl := Option.some.inj H
    go_enter Try.func23, Try.ntmps23
    go_wp2_with (first | ((with_reducible refine gate_dst (N := 1) rfl ?_); (try (refine gate_guard (by rfl) ?_; dsimp only)); refine box_event ?hg (N := 1) ?hd (cs := #[.int .i64 a0_0, .int .i64 a0_1, .int .i64 a0_2, .int .i64 a0_3, .int .i64 a0_4, .int .i64 a0_5, .int .i64 a0_6, .int .i64 a0_7, .bool a0_8, .string a0_9, .slice A0_10 l0_10.length c0_10]) (t := 26) ?hr ?_; (case hd => rfl); (case hg => rfl); (case hr => first | (go_simp; done) | (go_simp; rfl)); intro gb101 hg w5 hbox hb; have n0_ := bstep hb; have n1_ := aS (hbox); have n2_ := bsize hg; have n3_ := bsize hg; clear HB; have HB := n0_; have BK101 := n1_; have GW101 := n2_; have GE101 := n3_; clear n0_ n1_ n2_ n3_; clear hb hbox hg; have hcz6 := cK11 BK101))
    go_ret
    exact ⟨rf3, bel⟩
   ·
    rw [if_neg c4] at H
    obtain ⟨c4b0, c4b1⟩ := eqF c4
    obtain rfl := Option.some.inj H
    go_enter Try.func23, Try.ntmps23
    go_wp2_with (first | ((with_reducible refine gate_dst (N := 1) rfl ?_); (try (refine gate_guard (by rfl) ?_; dsimp only)); refine box_event ?hg (N := 1) ?hd (cs := #[.int .i64 a0_0, .int .i64 a0_1, .int .i64 a0_2, .int .i64 a0_3, .int .i64 a0_4, .int .i64 a0_5, .int .i64 a0_6, .int .i64 a0_7, .bool a0_8, .string a0_9, .slice A0_10 l0_10.length c0_10]) (t := 26) ?hr ?_; (case hd => rfl); (case hg => rfl); (case hr => first | (go_simp; done) | (go_simp; rfl)); intro gb101 hg w7 hbox hb; have n0_ := bstep hb; have n1_ := aS (hbox); have n2_ := bsize hg; have n3_ := bsize hg; clear HB; have HB := n0_; have BK101 := n1_; have GW101 := n2_; have GE101 := n3_; clear n0_ n1_ n2_ n3_; clear hb hbox hg; have hcz8 := cK11 BK101))
    go_ret
    exact ⟨rf3, bel⟩
  ·
   rw [if_neg c3] at H
   obtain ⟨c3b0, c3b1⟩ := eqF c3
   by_cases c9 : (a0_5 == 0 && (a0_6 == 0 && (a0_7 == 0 && (!a0_8 && (a0_9.toList == ([] : List UInt8)))))) = true
   ·
    rw [if_pos c9] at H
    have c9b0 : (a0_5 == 0 && (a0_6 == 0 && (a0_7 == 0 && (!a0_8 && (a0_9.toList == ([] : List UInt8)))))) = true := c9
    (try (have c9b1 : decide (a0_5 = 0 && (a0_6 == 0 && (a0_7 == 0 && (!a0_8 && (a0_9.toList == ([] : List UInt8)))))) = true := by simpa using c9))
    (try (have c9b2 : (a0_5 == 0 && (a0_6 == 0 && (a0_7 == 0 && (!a0_8 && (a0_9.toList == ([] : List UInt8)))))) = true := by simpa using c9))
    have c9b3 : (a0_5 == 0 && (a0_6 == 0 && (a0_7 == 0 && (!a0_8 && a0_9.toList.isEmpty)))) = true := by simpa using c9
    (try (have c9b4 : decide (a0_5 = 0 ∧ a0_6 = 0 ∧ a0_7 = 0 ∧ a0_8 = false ∧ a0_9.toList = ([] : List UInt8)) = true := by simpa using c9))
    clear c9
    by_cases c10 : a0_0 = 2
    ·
     rw [if_pos c10] at H
     obtain ⟨c10b0, c10b1⟩ := eqT c10
     clear c10
     obtain rfl := Option.some.inj H
     go_enter Try.func23, Try.ntmps23
     go_wp2_with (first | ((with_reducible refine gate_dst (N := 1) rfl ?_); (try (refine gate_guard (by rfl) ?_; dsimp only)); refine box_event ?hg (N := 1) ?hd (cs := #[.int .i64 a0_0, .int .i64 a0_1, .int .i64 a0_2, .int .i64 a0_3, .int .i64 a0_4, .int .i64 a0_5, .int .i64 a0_6, .int .i64 a0_7, .bool a0_8, .string a0_9, .slice A0_10 l0_10.length c0_10]) (t := 26) ?hr ?_; (case hd => rfl); (case hg => rfl); (case hr => first | (go_simp; done) | (go_simp; rfl)); intro gb101 hg w11 hbox hb; have n0_ := bstep hb; have n1_ := aS (hbox); have n2_ := bsize hg; have n3_ := bsize hg; clear HB; have HB := n0_; have BK101 := n1_; have GW101 := n2_; have GE101 := n3_; clear n0_ n1_ n2_ n3_; clear hb hbox hg; have hcz12 := cK11 BK101))
     all_goals (try (rename_i hz_; first | exact absurd (odt c9b4) hz_))
     go_ret
     exact ⟨rf3, bel⟩
    ·
     rw [if_neg c10] at H
     obtain ⟨c10b0, c10b1⟩ := eqF c10
     obtain rfl := Option.some.inj H
     go_enter Try.func23, Try.ntmps23
     go_wp2_with (first | ((with_reducible refine gate_dst (N := 1) rfl ?_); (try (refine gate_guard (by rfl) ?_; dsimp only)); refine box_event ?hg (N := 1) ?hd (cs := #[.int .i64 a0_0, .int .i64 a0_1, .int .i64 a0_2, .int .i64 a0_3, .int .i64 a0_4, .int .i64 a0_5, .int .i64 a0_6, .int .i64 a0_7, .bool a0_8, .string a0_9, .slice A0_10 l0_10.length c0_10]) (t := 26) ?hr ?_; (case hd => rfl); (case hg => rfl); (case hr => first | (go_simp; done) | (go_simp; rfl)); intro gb101 hg w13 hbox hb; have n0_ := bstep hb; have n1_ := aS (hbox); have n2_ := bsize hg; have n3_ := bsize hg; clear HB; have HB := n0_; have BK101 := n1_; have GW101 := n2_; have GE101 := n3_; clear n0_ n1_ n2_ n3_; clear hb hbox hg; have hcz14 := cK11 BK101))
     all_goals (try (rename_i hz_; first | exact absurd (odt c9b4) hz_))
     go_ret
     exact ⟨rf3, bel⟩
   ·
    rw [if_neg c9] at H
    have c9b0 : (a0_5 == 0 && (a0_6 == 0 && (a0_7 == 0 && (!a0_8 && (a0_9.toList == ([] : List UInt8)))))) = false := by simpa using c9
    (try (have c9b1 : decide (a0_5 = 0 && (a0_6 == 0 && (a0_7 == 0 && (!a0_8 && (a0_9.toList == ([] : List UInt8)))))) = false := by simpa using c9))
    (try (have c9b2 : (a0_5 == 0 && (a0_6 == 0 && (a0_7 == 0 && (!a0_8 && (a0_9.toList == ([] : List UInt8)))))) = false := by simpa using c9))
    (try (have c9b3 : ¬ (a0_5 = 0 && (a0_6 == 0 && (a0_7 == 0 && (!a0_8 && (a0_9.toList == ([] : List UInt8)))))) := by simpa using c9))
    have c9b4 : (a0_5 == 0 && (a0_6 == 0 && (a0_7 == 0 && (!a0_8 && a0_9.toList.isEmpty)))) = false := by simpa using c9
    (try (have c9b5 : decide (a0_5 = 0 ∧ a0_6 = 0 ∧ a0_7 = 0 ∧ a0_8 = false ∧ a0_9.toList = ([] : List UInt8)) = false := by simpa using c9))
    clear c9
    obtain rfl := Option.some.inj H
    go_enter Try.func23, Try.ntmps23
    go_wp2_with (first | ((with_reducible refine gate_dst (N := 1) rfl ?_); (try (refine gate_guard (by rfl) ?_; dsimp only)); refine box_event ?hg (N := 1) ?hd (cs := #[.int .i64 a0_0, .int .i64 a0_1, .int .i64 a0_2, .int .i64 a0_3, .int .i64 a0_4, .int .i64 a0_5, .int .i64 a0_6, .int .i64 a0_7, .bool a0_8, .string a0_9, .slice A0_10 l0_10.length c0_10]) (t := 26) ?hr ?_; (case hd => rfl); (case hg => rfl); (case hr => first | (go_simp; done) | (go_simp; rfl)); intro gb101 hg w15 hbox hb; have n0_ := bstep hb; have n1_ := aS (hbox); have n2_ := bsize hg; have n3_ := bsize hg; clear HB; have HB := n0_; have BK101 := n1_; have GW101 := n2_; have GE101 := n3_; clear n0_ n1_ n2_ n3_; clear hb hbox hg; have hcz16 := cK11 BK101))
    all_goals (try (rename_i hz_; first | exact absurd hz_ (of_decide_eq_false c9b5)))
    go_ret
    exact ⟨rf3, bel⟩
 ·
  rw [if_neg c2] at H
  obtain ⟨c2b0, c2b1⟩ := eqF c2
  by_cases c17 : a0_4 = 0
  ·
   rw [if_pos c17] at H
   obtain ⟨c17b0, c17b1⟩ := eqT c17
   clear c17
   by_cases c18 : a0_0 = 3
   ·
    rw [if_pos c18] at H
    obtain ⟨c18b0, c18b1⟩ := eqT c18
    clear c18
    by_cases c19 : a0_0 = 2
    ·
     rw [if_pos c19] at H
     obtain ⟨c19b0, c19b1⟩ := eqT c19
     clear c19
     obtain rfl := Option.some.inj H
     go_enter Try.func23, Try.ntmps23
     go_wp2_with (first | ((with_reducible refine gate_dst (N := 1) rfl ?_); (try (refine gate_guard (by rfl) ?_; dsimp only)); refine box_event ?hg (N := 1) ?hd (cs := #[.int .i64 a0_0, .int .i64 a0_1, .int .i64 a0_2, .int .i64 a0_3, .int .i64 a0_4, .int .i64 a0_5, .int .i64 a0_6, .int .i64 a0_7, .bool a0_8, .string a0_9, .slice A0_10 l0_10.length c0_10]) (t := 26) ?hr ?_; (case hd => rfl); (case hg => rfl); (case hr => first | (go_simp; done) | (go_simp; rfl)); intro gb101 hg w20 hbox hb; have n0_ := bstep hb; have n1_ := aS (hbox); have n2_ := bsize hg; have n3_ := bsize hg; clear HB; have HB := n0_; have BK101 := n1_; have GW101 := n2_; have GE101 := n3_; clear n0_ n1_ n2_ n3_; clear hb hbox hg; have hcz21 := cK11 BK101))
     go_ret
     exact ⟨rf3, bel⟩
    ·
     rw [if_neg c19] at H
     obtain ⟨c19b0, c19b1⟩ := eqF c19
     obtain rfl := Option.some.inj H
     go_enter Try.func23, Try.ntmps23
     go_wp2_with (first | ((with_reducible refine gate_dst (N := 1) rfl ?_); (try (refine gate_guard (by rfl) ?_; dsimp only)); refine box_event ?hg (N := 1) ?hd (cs := #[.int .i64 a0_0, .int .i64 a0_1, .int .i64 a0_2, .int .i64 a0_3, .int .i64 a0_4, .int .i64 a0_5, .int .i64 a0_6, .int .i64 a0_7, .bool a0_8, .string a0_9, .slice A0_10 l0_10.length c0_10]) (t := 26) ?hr ?_; (case hd => rfl); (case hg => rfl); (case hr => first | (go_simp; done) | (go_simp; rfl)); intro gb101 hg w22 hbox hb; have n0_ := bstep hb; have n1_ := aS (hbox); have n2_ := bsize hg; have n3_ := bsize hg; clear HB; have HB := n0_; have BK101 := n1_; have GW101 := n2_; have GE101 := n3_; clear n0_ n1_ n2_ n3_; clear hb hbox hg; have hcz23 := cK11 BK101))
     go_ret
     exact ⟨rf3, bel⟩
   ·
    rw [if_neg c18] at H
    obtain ⟨c18b0, c18b1⟩ := eqF c18
    by_cases c24 : (a0_5 == 0 && (a0_6 == 0 && (a0_7 == 0 && (!a0_8 && (a0_9.toList == ([] : List UInt8)))))) = true
    ·
     rw [if_pos c24] at H
     have c24b0 : (a0_5 == 0 && (a0_6 == 0 && (a0_7 == 0 && (!a0_8 && (a0_9.toList == ([] : List UInt8)))))) = true := c24
     (try (have c24b1 : decide (a0_5 = 0 && (a0_6 == 0 && (a0_7 == 0 && (!a0_8 && (a0_9.toList == ([] : List UInt8)))))) = true := by simpa using c24))
     (try (have c24b2 : (a0_5 == 0 && (a0_6 == 0 && (a0_7 == 0 && (!a0_8 && (a0_9.toList == ([] : List UInt8)))))) = true := by simpa using c24))
     have c24b3 : (a0_5 == 0 && (a0_6 == 0 && (a0_7 == 0 && (!a0_8 && a0_9.toList.isEmpty)))) = true := by simpa using c24
     (try (have c24b4 : decide (a0_5 = 0 ∧ a0_6 = 0 ∧ a0_7 = 0 ∧ a0_8 = false ∧ a0_9.toList = ([] : List UInt8)) = true := by simpa using c24))
     clear c24
     by_cases c25 : a0_0 = 2
     ·
      rw [if_pos c25] at H
      obtain ⟨c25b0, c25b1⟩ := eqT c25
      clear c25
      obtain rfl := Option.some.inj H
      go_enter Try.func23, Try.ntmps23
      go_wp2_with (first | ((with_reducible refine gate_dst (N := 1) rfl ?_); (try (refine gate_guard (by rfl) ?_; dsimp only)); refine box_event ?hg (N := 1) ?hd (cs := #[.int .i64 a0_0, .int .i64 a0_1, .int .i64 a0_2, .int .i64 a0_3, .int .i64 a0_4, .int .i64 a0_5, .int .i64 a0_6, .int .i64 a0_7, .bool a0_8, .string a0_9, .slice A0_10 l0_10.length c0_10]) (t := 26) ?hr ?_; (case hd => rfl); (case hg => rfl); (case hr => first | (go_simp; done) | (go_simp; rfl)); intro gb101 hg w26 hbox hb; have n0_ := bstep hb; have n1_ := aS (hbox); have n2_ := bsize hg; have n3_ := bsize hg; clear HB; have HB := n0_; have BK101 := n1_; have GW101 := n2_; have GE101 := n3_; clear n0_ n1_ n2_ n3_; clear hb hbox hg; have hcz27 := cK11 BK101))
      all_goals (try (rename_i hz_; first | exact absurd (odt c24b4) hz_))
      go_ret
      exact ⟨rf3, bel⟩
     ·
      rw [if_neg c25] at H
      obtain ⟨c25b0, c25b1⟩ := eqF c25
      obtain rfl := Option.some.inj H
      go_enter Try.func23, Try.ntmps23
      go_wp2_with (first | ((with_reducible refine gate_dst (N := 1) rfl ?_); (try (refine gate_guard (by rfl) ?_; dsimp only)); refine box_event ?hg (N := 1) ?hd (cs := #[.int .i64 a0_0, .int .i64 a0_1, .int .i64 a0_2, .int .i64 a0_3, .int .i64 a0_4, .int .i64 a0_5, .int .i64 a0_6, .int .i64 a0_7, .bool a0_8, .string a0_9, .slice A0_10 l0_10.length c0_10]) (t := 26) ?hr ?_; (case hd => rfl); (case hg => rfl); (case hr => first | (go_simp; done) | (go_simp; rfl)); intro gb101 hg w28 hbox hb; have n0_ := bstep hb; have n1_ := aS (hbox); have n2_ := bsize hg; have n3_ := bsize hg; clear HB; have HB := n0_; have BK101 := n1_; have GW101 := n2_; have GE101 := n3_; clear n0_ n1_ n2_ n3_; clear hb hbox hg; have hcz29 := cK11 BK101))
      all_goals (try (rename_i hz_; first | exact absurd (odt c24b4) hz_))
      go_ret
      exact ⟨rf3, bel⟩
    ·
     rw [if_neg c24] at H
     have c24b0 : (a0_5 == 0 && (a0_6 == 0 && (a0_7 == 0 && (!a0_8 && (a0_9.toList == ([] : List UInt8)))))) = false := by simpa using c24
     (try (have c24b1 : decide (a0_5 = 0 && (a0_6 == 0 && (a0_7 == 0 && (!a0_8 && (a0_9.toList == ([] : List UInt8)))))) = false := by simpa using c24))
     (try (have c24b2 : (a0_5 == 0 && (a0_6 == 0 && (a0_7 == 0 && (!a0_8 && (a0_9.toList == ([] : List UInt8)))))) = false := by simpa using c24))
     (try (have c24b3 : ¬ (a0_5 = 0 && (a0_6 == 0 && (a0_7 == 0 && (!a0_8 && (a0_9.toList == ([] : List UInt8)))))) := by simpa using c24))
     have c24b4 : (a0_5 == 0 && (a0_6 == 0 && (a0_7 == 0 && (!a0_8 && a0_9.toList.isEmpty)))) = false := by simpa using c24
     (try (have c24b5 : decide (a0_5 = 0 ∧ a0_6 = 0 ∧ a0_7 = 0 ∧ a0_8 = false ∧ a0_9.toList = ([] : List UInt8)) = false := by simpa using c24))
     clear c24
     obtain rfl := Option.some.inj H
     go_enter Try.func23, Try.ntmps23
     go_wp2_with (first | ((with_reducible refine gate_dst (N := 1) rfl ?_); (try (refine gate_guard (by rfl) ?_; dsimp only)); refine box_event ?hg (N := 1) ?hd (cs := #[.int .i64 a0_0, .int .i64 a0_1, .int .i64 a0_2, .int .i64 a0_3, .int .i64 a0_4, .int .i64 a0_5, .int .i64 a0_6, .int .i64 a0_7, .bool a0_8, .string a0_9, .slice A0_10 l0_10.length c0_10]) (t := 26) ?hr ?_; (case hd => rfl); (case hg => rfl); (case hr => first | (go_simp; done) | (go_simp; rfl)); intro gb101 hg w30 hbox hb; have n0_ := bstep hb; have n1_ := aS (hbox); have n2_ := bsize hg; have n3_ := bsize hg; clear HB; have HB := n0_; have BK101 := n1_; have GW101 := n2_; have GE101 := n3_; clear n0_ n1_ n2_ n3_; clear hb hbox hg; have hcz31 := cK11 BK101))
     all_goals (try (rename_i hz_; first | exact absurd hz_ (of_decide_eq_false c24b5)))
     go_ret
     exact ⟨rf3, bel⟩
  ·
   rw [if_neg c17] at H
   obtain ⟨c17b0, c17b1⟩ := eqF c17
   obtain rfl := Option.some.inj H
   go_enter Try.func23, Try.ntmps23
   go_wp2_with (first | ((with_reducible refine gate_dst (N := 1) rfl ?_); (try (refine gate_guard (by rfl) ?_; dsimp only)); refine box_event ?hg (N := 1) ?hd (cs := #[.int .i64 a0_0, .int .i64 a0_1, .int .i64 a0_2, .int .i64 a0_3, .int .i64 a0_4, .int .i64 a0_5, .int .i64 a0_6, .int .i64 a0_7, .bool a0_8, .string a0_9, .slice A0_10 l0_10.length c0_10]) (t := 26) ?hr ?_; (case hd => rfl); (case hg => rfl); (case hr => first | (go_simp; done) | (go_simp; rfl)); intro gb101 hg w32 hbox hb; have n0_ := bstep hb; have n1_ := aS (hbox); have n2_ := bsize hg; have n3_ := bsize hg; clear HB; have HB := n0_; have BK101 := n1_; have GW101 := n2_; have GE101 := n3_; clear n0_ n1_ n2_ n3_; clear hb hbox hg; have hcz33 := cK11 BK101))
   go_ret
   exact ⟨rf3, bel⟩

/-! ### slot_ballot: function 45 -/
def slot_ballot.f (a0 : Int) : Option (Bool) := if a0 ≥ 1 then (some (decide (a0 ≤ 2147483647))) else (some false)
set_option maxHeartbeats 8000000 in
set_option maxRecDepth 100000 in
theorem slot_ballot.calls (a0 : Int) (r : Bool) (w : World) (h : slot_ballot.f a0 = some r) :
  Calls Try.prog 45 #[.int .i64 a0] w fun e w' => e = .returned (.bool r) ∧ Drawn0 w w' := by
 have H : (if a0 ≥ 1 then (some (decide (a0 ≤ 2147483647))) else (some false)) = some r := h
 clear h
 by_cases c2 : a0 ≥ 1
 ·
  rw [if_pos c2] at H
  have c2b0 : decide (1 ≤ a0) = true := decide_eq_true c2
  clear c2
  obtain rfl := Option.some.inj H
  go_enter Try.func45, Try.ntmps45
  go_wp2
  go_ret
  exact ⟨by first | rfl | (simp; done) | (simp [*]; done) | (simp; exact (by decide : ∀ a_ b_ : Bool, (a_ == b_) = (!a_ != b_)) _ _), by repeat (first | exact Drawn0.refl _ | apply Drawn0.step)⟩
 ·
  rw [if_neg c2] at H
  have c2b0 : decide (1 ≤ a0) = false := decide_eq_false c2
  clear c2
  obtain rfl := Option.some.inj H
  go_enter Try.func45, Try.ntmps45
  go_wp2
  go_ret
  exact ⟨by first | rfl | (simp; done) | (simp [*]; done) | (simp; exact (by decide : ∀ a_ b_ : Bool, (a_ == b_) = (!a_ != b_)) _ _), by repeat (first | exact Drawn0.refl _ | apply Drawn0.step)⟩

/-! ### slot_Right: function 24 -/
def slot_Right.f (a0_0 : Int) (a0_1 : Int) (a0_2 : Int) (a0_3 : Bool) (a0_4 : ByteArray) : Option (Bool) := if a0_0 ≥ 0 then (if a0_0 < 64 then ((slot_ballot.f a0_1).bind fun t103 => (if t103 = true then ((slot_ballot.f a0_2).bind fun t104 => (if t104 = true then (if a0_2 ≤ a0_1 then (some (decide ((a0_4.size : Int) ≤ 520))) else (some false)) else (some false))) else (some false))) else (some false)) else (some false)
set_option maxHeartbeats 8000000 in
set_option maxRecDepth 100000 in
theorem slot_Right.calls (a0_0 : Int) (a0_1 : Int) (a0_2 : Int) (a0_3 : Bool) (a0_4 : ByteArray) (r : Bool) (w : World) (h : slot_Right.f a0_0 a0_1 a0_2 a0_3 a0_4 = some r) :
  Calls Try.prog 24 #[.agg #[.int .i64 a0_0, .int .i64 a0_1, .int .i64 a0_2, .bool a0_3, .string a0_4]] w fun e w' => e = .returned (.bool r) ∧ Below w.heap.size w w' := by
 have hu23 := Try.underlying23
 have HB := aS (Below.refl w.heap.size w)
 have H : (if a0_0 ≥ 0 then (if a0_0 < 64 then ((slot_ballot.f a0_1).bind fun t103 => (if t103 = true then ((slot_ballot.f a0_2).bind fun t104 => (if t104 = true then (if a0_2 ≤ a0_1 then (some (decide ((a0_4.size : Int) ≤ 520))) else (some false)) else (some false))) else (some false))) else (some false)) else (some false)) = some r := h
 clear h
 by_cases c2 : a0_0 ≥ 0
 ·
  rw [if_pos c2] at H
  have c2b0 : decide (0 ≤ a0_0) = true := decide_eq_true c2
  clear c2
  by_cases c3 : a0_0 < 64
  ·
   rw [if_pos c3] at H
   have c3b0 : decide (a0_0 < 64) = true := decide_eq_true c3
   clear c3
   replace H := obm H
   obtain ⟨t103, A40, H⟩ := H
   replace H : (if t103 = true then ((slot_ballot.f a0_2).bind fun t104 => (if t104 = true then (if a0_2 ≤ a0_1 then (some (decide ((a0_4.size : Int) ≤ 520))) else (some false)) else (some false))) else (some false)) = some r := H
   have A4 := aS A40
   clear A40
   by_cases c5 : t103 = true
   ·
    subst c5
    have H1 : ((slot_ballot.f a0_2).bind fun t104 => (if t104 = true then (if a0_2 ≤ a0_1 then (some (decide ((a0_4.size : Int) ≤ 520))) else (some false)) else (some false))) = some r := by rw [if_pos rfl] at H; exact H
    clear H; have H := H1; clear H1
    replace H := obm H
    obtain ⟨t104, A60, H⟩ := H
    replace H : (if t104 = true then (if a0_2 ≤ a0_1 then (some (decide ((a0_4.size : Int) ≤ 520))) else (some false)) else (some false)) = some r := H
    have A6 := aS A60
    clear A60
    by_cases c7 : t104 = true
    ·
     subst c7
     have H1 : (if a0_2 ≤ a0_1 then (some (decide ((a0_4.size : Int) ≤ 520))) else (some false)) = some r := by rw [if_pos rfl] at H; exact H
     clear H; have H := H1; clear H1
     by_cases c8 : a0_2 ≤ a0_1
     ·
      rw [if_pos c8] at H
      have c8b0 : decide (a0_2 ≤ a0_1) = true := decide_eq_true c8
      clear c8
      obtain rfl := Option.some.inj H
      go_enter Try.func24, Try.ntmps24
      go_wp2_with (first | ((with_reducible refine gate_dst (N := 1) rfl ?_); (try (refine gate_guard (by rfl) ?_; dsimp only)); refine box_event ?hg (N := 1) ?hd (cs := #[.int .i64 a0_0, .int .i64 a0_1, .int .i64 a0_2, .bool a0_3, .string a0_4]) (t := 23) ?hr ?_; (case hd => rfl); (case hg => rfl); (case hr => first | (go_simp; done) | (go_simp; rfl)); intro gb102 hg w9 hbox hb; have n0_ := bstep hb; have n1_ := aS (hbox); have n2_ := bsize hg; have n3_ := bsize hg; clear HB; have HB := n0_; have BK102 := n1_; have GW102 := n2_; have GE102 := n3_; clear n0_ n1_ n2_ n3_; clear hb hbox hg; have hcz10 := cK5 BK102) | (go_at_call 45; (with_reducible refine (slot_ballot.calls a0_1 true _ A4.out).mono ?_); rintro e w' ⟨rfl, ⟨nd, rfl⟩⟩) | (go_at_call 45; (with_reducible refine (slot_ballot.calls a0_2 true _ A6.out).mono ?_); rintro e w' ⟨rfl, ⟨nd, rfl⟩⟩))
      go_ret
      exact ⟨rf3, bel⟩
     ·
      rw [if_neg c8] at H
      have c8b0 : decide (a0_2 ≤ a0_1) = false := decide_eq_false c8
      clear c8
      obtain rfl := Option.some.inj H
      go_enter Try.func24, Try.ntmps24
      go_wp2_with (first | ((with_reducible refine gate_dst (N := 1) rfl ?_); (try (refine gate_guard (by rfl) ?_; dsimp only)); refine box_event ?hg (N := 1) ?hd (cs := #[.int .i64 a0_0, .int .i64 a0_1, .int .i64 a0_2, .bool a0_3, .string a0_4]) (t := 23) ?hr ?_; (case hd => rfl); (case hg => rfl); (case hr => first | (go_simp; done) | (go_simp; rfl)); intro gb102 hg w11 hbox hb; have n0_ := bstep hb; have n1_ := aS (hbox); have n2_ := bsize hg; have n3_ := bsize hg; clear HB; have HB := n0_; have BK102 := n1_; have GW102 := n2_; have GE102 := n3_; clear n0_ n1_ n2_ n3_; clear hb hbox hg; have hcz12 := cK5 BK102) | (go_at_call 45; (with_reducible refine (slot_ballot.calls a0_1 true _ A4.out).mono ?_); rintro e w' ⟨rfl, ⟨nd, rfl⟩⟩) | (go_at_call 45; (with_reducible refine (slot_ballot.calls a0_2 true _ A6.out).mono ?_); rintro e w' ⟨rfl, ⟨nd, rfl⟩⟩))
      go_ret
      exact ⟨rf3, bel⟩
    ·
     replace c7 := Bool.eq_false_iff.mpr c7
     subst c7
     have H1 : (some false) = some r := by rw [if_neg (show ¬ (false = true) by decide)] at H; exact H
     clear H; have H := H1; clear H1
     obtain rfl := Option.some.inj H
     go_enter Try.func24, Try.ntmps24
     go_wp2_with (first | ((with_reducible refine gate_dst (N := 1) rfl ?_); (try (refine gate_guard (by rfl) ?_; dsimp only)); refine box_event ?hg (N := 1) ?hd (cs := #[.int .i64 a0_0, .int .i64 a0_1, .int .i64 a0_2, .bool a0_3, .string a0_4]) (t := 23) ?hr ?_; (case hd => rfl); (case hg => rfl); (case hr => first | (go_simp; done) | (go_simp; rfl)); intro gb102 hg w13 hbox hb; have n0_ := bstep hb; have n1_ := aS (hbox); have n2_ := bsize hg; have n3_ := bsize hg; clear HB; have HB := n0_; have BK102 := n1_; have GW102 := n2_; have GE102 := n3_; clear n0_ n1_ n2_ n3_; clear hb hbox hg; have hcz14 := cK5 BK102) | (go_at_call 45; (with_reducible refine (slot_ballot.calls a0_1 true _ A4.out).mono ?_); rintro e w' ⟨rfl, ⟨nd, rfl⟩⟩) | (go_at_call 45; (with_reducible refine (slot_ballot.calls a0_2 false _ A6.out).mono ?_); rintro e w' ⟨rfl, ⟨nd, rfl⟩⟩))
     go_ret
     exact ⟨rf3, bel⟩
   ·
    replace c5 := Bool.eq_false_iff.mpr c5
    subst c5
    have H1 : (some false) = some r := by rw [if_neg (show ¬ (false = true) by decide)] at H; exact H
    clear H; have H := H1; clear H1
    obtain rfl := Option.some.inj H
    go_enter Try.func24, Try.ntmps24
    go_wp2_with (first | ((with_reducible refine gate_dst (N := 1) rfl ?_); (try (refine gate_guard (by rfl) ?_; dsimp only)); refine box_event ?hg (N := 1) ?hd (cs := #[.int .i64 a0_0, .int .i64 a0_1, .int .i64 a0_2, .bool a0_3, .string a0_4]) (t := 23) ?hr ?_; (case hd => rfl); (case hg => rfl); (case hr => first | (go_simp; done) | (go_simp; rfl)); intro gb102 hg w15 hbox hb; have n0_ := bstep hb; have n1_ := aS (hbox); have n2_ := bsize hg; have n3_ := bsize hg; clear HB; have HB := n0_; have BK102 := n1_; have GW102 := n2_; have GE102 := n3_; clear n0_ n1_ n2_ n3_; clear hb hbox hg; have hcz16 := cK5 BK102) | (go_at_call 45; (with_reducible refine (slot_ballot.calls a0_1 false _ A4.out).mono ?_); rintro e w' ⟨rfl, ⟨nd, rfl⟩⟩))
    go_ret
    exact ⟨rf3, bel⟩
  ·
   rw [if_neg c3] at H
   have c3b0 : decide (a0_0 < 64) = false := decide_eq_false c3
   clear c3
   obtain rfl := Option.some.inj H
   go_enter Try.func24, Try.ntmps24
   go_wp2_with (first | ((with_reducible refine gate_dst (N := 1) rfl ?_); (try (refine gate_guard (by rfl) ?_; dsimp only)); refine box_event ?hg (N := 1) ?hd (cs := #[.int .i64 a0_0, .int .i64 a0_1, .int .i64 a0_2, .bool a0_3, .string a0_4]) (t := 23) ?hr ?_; (case hd => rfl); (case hg => rfl); (case hr => first | (go_simp; done) | (go_simp; rfl)); intro gb102 hg w17 hbox hb; have n0_ := bstep hb; have n1_ := aS (hbox); have n2_ := bsize hg; have n3_ := bsize hg; clear HB; have HB := n0_; have BK102 := n1_; have GW102 := n2_; have GE102 := n3_; clear n0_ n1_ n2_ n3_; clear hb hbox hg; have hcz18 := cK5 BK102))
   go_ret
   exact ⟨rf3, bel⟩
 ·
  rw [if_neg c2] at H
  have c2b0 : decide (0 ≤ a0_0) = false := decide_eq_false c2
  clear c2
  obtain rfl := Option.some.inj H
  go_enter Try.func24, Try.ntmps24
  go_wp2_with (first | ((with_reducible refine gate_dst (N := 1) rfl ?_); (try (refine gate_guard (by rfl) ?_; dsimp only)); refine box_event ?hg (N := 1) ?hd (cs := #[.int .i64 a0_0, .int .i64 a0_1, .int .i64 a0_2, .bool a0_3, .string a0_4]) (t := 23) ?hr ?_; (case hd => rfl); (case hg => rfl); (case hr => first | (go_simp; done) | (go_simp; rfl)); intro gb102 hg w19 hbox hb; have n0_ := bstep hb; have n1_ := aS (hbox); have n2_ := bsize hg; have n3_ := bsize hg; clear HB; have HB := n0_; have BK102 := n1_; have GW102 := n2_; have GE102 := n3_; clear n0_ n1_ n2_ n3_; clear hb hbox hg; have hcz20 := cK5 BK102))
  go_ret
  exact ⟨rf3, bel⟩

/-! ### msg_rising: function 25 -/
mutual
def msg_rising.l0 : Nat → List (S23) → Int → List (S23) → Int → Int → Option (Bool)
 | 0, _, _, _, _, _ => none
 | k + 1, x0, x1, x7, x8, x9 => if x9 < x8 then (if 0 ≤ x9 then (if x9 < (x7.length : Int) then ((slot_Right.f ((rd_T23 x7 x9).f0) ((rd_T23 x7 x9).f1) ((rd_T23 x7 x9).f2) ((rd_T23 x7 x9).f3) ((rd_T23 x7 x9).f4)).bind fun t107 => (if t107 = true then (if ((rd_T23 x7 x9).f1) ≥ x1 then (msg_rising.j1 k x0 x1 x7 x8 x9 true) else (if x9 > 0 then (if 0 ≤ (wrap64 (x9 - 1)) then (if (wrap64 (x9 - 1)) < (x0.length : Int) then (msg_rising.j1 k x0 x1 x7 x8 x9 (decide (((rd_T23 x0 (wrap64 (x9 - 1))).f0) ≥ ((rd_T23 x7 x9).f0)))) else (none)) else (none)) else (msg_rising.j1 k x0 x1 x7 x8 x9 false))) else (msg_rising.j1 k x0 x1 x7 x8 x9 true))) else (none)) else (none)) else (some true)
def msg_rising.j1 : Nat → List (S23) → Int → List (S23) → Int → Int → Bool → Option (Bool)
 | 0, _, _, _, _, _, _ => none
 | k + 1, x0, x1, x7, x8, x9, x37 => if x37 = true then (some false) else (msg_rising.l0 k x0 x1 x7 x8 (wrap64 (x9 + 1)))
end
def msg_rising.f (k : Nat) (l0 : List (S23)) (a1 : Int) : Option (Bool) := msg_rising.l0 k l0 a1 l0 (l0.length : Int) 0
theorem msg_rising.mono_l : ∀ k, (∀ y0 y1 y2 y3 y4, LeO (msg_rising.l0 k y0 y1 y2 y3 y4) (msg_rising.l0 (k + 1) y0 y1 y2 y3 y4)) ∧ (∀ y0 y1 y2 y3 y4 y5, LeO (msg_rising.j1 k y0 y1 y2 y3 y4 y5) (msg_rising.j1 (k + 1) y0 y1 y2 y3 y4 y5))
 | 0 => ⟨fun _ _ _ _ _ r h => by simp [msg_rising.l0] at h, fun _ _ _ _ _ _ r h => by simp [msg_rising.j1] at h⟩
 | k + 1 => by
  obtain ⟨ih0, ih1⟩ := msg_rising.mono_l k
  refine ⟨?_, ?_⟩
  ·
   intro y0 y1 y2 y3 y4
   unfold msg_rising.l0
   repeat' first
   | (with_reducible exact ih0 _ _ _ _ _)
   | (with_reducible exact ih1 _ _ _ _ _ _)
   | (with_reducible exact LeO.refl _)
   | (with_reducible exact LeO.none _)
   | (with_reducible refine LeO.ite ?_ ?_)
   | (with_reducible refine LeO.bind ?_ (fun _ => ?_))
   | exact LeO.none _
   | refine LeO.ite ?_ ?_
   | refine LeO.bind ?_ (fun _ => ?_)
  ·
   intro y0 y1 y2 y3 y4 y5
   unfold msg_rising.j1
   repeat' first
   | (with_reducible exact ih0 _ _ _ _ _)
   | (with_reducible exact ih1 _ _ _ _ _ _)
   | (with_reducible exact LeO.refl _)
   | (with_reducible exact LeO.none _)
   | (with_reducible refine LeO.ite ?_ ?_)
   | (with_reducible refine LeO.bind ?_ (fun _ => ?_))
   | exact LeO.none _
   | refine LeO.ite ?_ ?_
   | refine LeO.bind ?_ (fun _ => ?_)
theorem msg_rising.mono : ∀ a0 a1 k, LeO (msg_rising.f k a0 a1) (msg_rising.f (k + 1) a0 a1) := by
 intro a0 a1 k
 obtain ⟨ih0, ih1⟩ := msg_rising.mono_l k
 unfold msg_rising.f
 repeat' first
   | (with_reducible exact ih0 _ _ _ _ _)
   | (with_reducible exact ih1 _ _ _ _ _ _)
   | (with_reducible exact LeO.refl _)
   | (with_reducible exact LeO.none _)
   | (with_reducible refine LeO.ite ?_ ?_)
   | (with_reducible refine LeO.bind ?_ (fun _ => ?_))
   | exact LeO.none _
   | refine LeO.ite ?_ ?_
   | refine LeO.bind ?_ (fun _ => ?_)
def msg_rising.T4 : Bool × List (List Nat × List Nat) := (true, [([], []), ([0], [0]), ([1], [1]), ([2, 1], [2]), ([3], [3]), ([4, 3], [3, 4]), ([3], [3]), ([5, 6, 3], [3, 5, 6]), ([3, 7], [3, 7]), ([8, 3], [8]), ([9], [9]), ([10, 9], [9, 10]), ([11, 9, 9], [9, 11]), ([12], [12]), ([12], [12]), ([14, 12], [12, 14]), ([13, 15, 12], [12, 13, 15]), ([16, 12], [12, 16]), ([17, 12], [12, 17]), ([12], [12]), ([19, 12], [12, 19]), ([18, 20, 12], [12, 18, 20]), ([12, 21, 9], [9, 12, 21]), ([9, 22], [9, 22])])
def msg_rising.B4 : List Nat := [0, 1, 3, 7, 15, 31, 15, 127, 255, 511, 1023, 2047, 4095, 8191, 8191, 24575, 65535, 131071, 262143, 8191, 532479, 2097151, 4194303, 8388607]
theorem msg_rising.tab4 : rtab .any (opsOf Try.f25 4) = msg_rising.T4 := by kernel_rfl
theorem msg_rising.bits4 : waitsOk msg_rising.T4.2 msg_rising.B4 = true := by kernel_rfl
set_option maxHeartbeats 8000000 in
set_option maxRecDepth 100000 in
theorem msg_rising.calls (k : Nat) (A0 : Option Addr) (c0 : Nat) (l0 : List (S23)) (a1 : Int) (r : Bool) (w : World) (hr0 : Kd.C k23 w A0 l0.length l0) (hc0 : l0.length ≤ c0) (h : msg_rising.f k l0 a1 = some r) :
  Calls Try.prog 25 #[.slice A0 l0.length c0, .int .i64 a1] w fun e w' => e = .returned (.bool r) ∧ Below w.heap.size w w' := by
 have hu23 := Try.underlying23
 have HR0 := aS hr0
 have HC0 := aS hc0
 clear hr0 hc0
 have HB := aS (Below.refl w.heap.size w)
 have H : (msg_rising.l0 k l0 a1 l0 (l0.length : Int) 0) = some r := h
 clear h
 have H' := aS H
 clear H
 go_enter Try.func25, Try.ntmps25
 go_wp2
 go_loopg [9] k (fun kq v9 w' => ∃ (x9_1 : Int), v9 = .int .i64 x9_1 ∧ Aside0 (msg_rising.l0 kq l0 a1 l0 (l0.length : Int) x9_1 = some r) ∧ Aside0 (kq ≤ k) ∧ Aside0 (Below w.heap.size w w'))
 case atStart => exact ⟨(0), (by first | rfl | (simp; done) | (simp [*]; done) | (simp; exact (by decide : ∀ a_ b_ : Bool, (a_ == b_) = (!a_ != b_)) _ _)), H', ⟨Nat.le_refl _⟩, ⟨bel⟩⟩
 case round =>
  clear H'; (try clear c2); (try clear p2)
  obtain ⟨x9_1, rfl, HA, HK1, HB⟩ := hrel
  cases gk with
  | zero => exact absurd HA.out (by simp [msg_rising.l0])
  | succ k1 =>
   have H := HA.out; clear HA
   simp only [msg_rising.l0] at H
   by_cases c3 : x9_1 < (l0.length : Int)
   ·
    rw [if_pos c3] at H
    have c3b0 : decide (x9_1 < (l0.length : Int)) = true := decide_eq_true c3
    clear c3
    by_cases c4 : 0 ≤ x9_1
    ·
     rw [if_pos c4] at H
     have c4b0 : decide (0 ≤ x9_1) = true := decide_eq_true c4
     clear c4
     by_cases c5 : x9_1 < (l0.length : Int)
     ·
      rw [if_pos c5] at H
      have c5b0 : decide (x9_1 < (l0.length : Int)) = true := decide_eq_true c5
      clear c5
      have HC6 := aS H
      clear H
      have p105 : 0 ≤ (x9_1 : Int) := odt (by first | (with_reducible assumption) | assumption)
      have q105 : x9_1 < (l0.length : Int) := odt (by first | (with_reducible assumption) | assumption)
      obtain ⟨ad105, e105, hx105_0, hx105_1, hx105_2, hx105_3, hx105_4⟩ := at_T23 HR0.out x9_1 p105 q105
      cases e105
      replace hx105_0 := (HB.out.cell (wbl w _ hx105_0)).trans hx105_0
      replace hx105_1 := (HB.out.cell (wbl w _ hx105_1)).trans hx105_1
      replace hx105_2 := (HB.out.cell (wbl w _ hx105_2)).trans hx105_2
      replace hx105_3 := (HB.out.cell (wbl w _ hx105_3)).trans hx105_3
      replace hx105_4 := (HB.out.cell (wbl w _ hx105_4)).trans hx105_4
      replace p105 := eq_true p105
      replace q105 := eq_true q105
      go_upto_region 4 with (first | ((with_reducible refine gate_dst (N := 6) rfl ?_); refine box_event ?hg (N := 6) ?hd (cs := #[.int .i64 0, .int .i64 0, .int .i64 0, .bool false, .string (⟨#[]⟩ : ByteArray)]) (t := 23) ?hr ?_; (case hd => rfl); (case hg => rfl); (case hr => first | (go_simp; done) | (go_simp; rfl)); intro gb106 hg w7 hbox hb; have n0_ := bstep hb; have n1_ := aS (hbox); have n2_ := bsize hg; have n3_ := bsize hg; clear HB; have HB := n0_; have BK106 := n1_; have GW106 := n2_; have GE106 := n3_; clear n0_ n1_ n2_ n3_; clear hb hbox hg; have hcz8 := cK5 BK106))
      (try simp only [Act.put, lsa, lsz, lss])
      go_cut [37] (fun v37 wc => ∃ (kq : Nat) (x37_5 : Bool), v37 = .bool x37_5 ∧ Aside0 (msg_rising.j1 kq l0 a1 l0 (l0.length : Int) x9_1 x37_5 = some r) ∧ Aside0 (kq ≤ k1) ∧ Aside0 (wc.heap[gb106]? = some (.cells #[.int .i64 ((rd_T23 l0 x9_1).f0), .int .i64 ((rd_T23 l0 x9_1).f1), .int .i64 ((rd_T23 l0 x9_1).f2), .bool ((rd_T23 l0 x9_1).f3), .string ((rd_T23 l0 x9_1).f4)] 23 (0, 0))) ∧ Aside0 (Below w.heap.size w wc))
      case first =>
       have H := HC6.out; clear HC6
       replace H := obm H
       obtain ⟨t107, A90, H⟩ := H
       replace H : (if t107 = true then (if ((rd_T23 l0 x9_1).f1) ≥ a1 then (msg_rising.j1 k1 l0 a1 l0 (l0.length : Int) x9_1 true) else (if x9_1 > 0 then (if 0 ≤ (wrap64 (x9_1 - 1)) then (if (wrap64 (x9_1 - 1)) < (l0.length : Int) then (msg_rising.j1 k1 l0 a1 l0 (l0.length : Int) x9_1 (decide (((rd_T23 l0 (wrap64 (x9_1 - 1))).f0) ≥ ((rd_T23 l0 x9_1).f0)))) else (none)) else (none)) else (msg_rising.j1 k1 l0 a1 l0 (l0.length : Int) x9_1 false))) else (msg_rising.j1 k1 l0 a1 l0 (l0.length : Int) x9_1 true)) = some r := H
       have A9 := aS A90
       clear A90
       by_cases c10 : t107 = true
       ·
        subst c10
        have H1 : (if ((rd_T23 l0 x9_1).f1) ≥ a1 then (msg_rising.j1 k1 l0 a1 l0 (l0.length : Int) x9_1 true) else (if x9_1 > 0 then (if 0 ≤ (wrap64 (x9_1 - 1)) then (if (wrap64 (x9_1 - 1)) < (l0.length : Int) then (msg_rising.j1 k1 l0 a1 l0 (l0.length : Int) x9_1 (decide (((rd_T23 l0 (wrap64 (x9_1 - 1))).f0) ≥ ((rd_T23 l0 x9_1).f0)))) else (none)) else (none)) else (msg_rising.j1 k1 l0 a1 l0 (l0.length : Int) x9_1 false))) = some r := by rw [if_pos rfl] at H; exact H
        clear H; have H := H1; clear H1
        by_cases c11 : ((rd_T23 l0 x9_1).f1) ≥ a1
        ·
         rw [if_pos c11] at H
         have c11b0 : decide (a1 ≤ ((rd_T23 l0 x9_1).f1)) = true := decide_eq_true c11
         clear c11
         (first | rw [c11b0] | (simp only [i64_w, i32_w]; rw [c11b0]) | skip)
         have H' := aS H
         clear H
         try go_wp2
         have n0_ : Aside0 ((((((w7.setCell ⟨gb106, 0, none⟩ (.int .i64 ((rd_T23 l0 x9_1).f0))).setCell ⟨gb106, 1, none⟩ (.int .i64 ((rd_T23 l0 x9_1).f1))).setCell ⟨gb106, 2, none⟩ (.int .i64 ((rd_T23 l0 x9_1).f2))).setCell ⟨gb106, 3, none⟩ (.bool ((rd_T23 l0 x9_1).f3))).setCell ⟨gb106, 4, none⟩ (.string ((rd_T23 l0 x9_1).f4))).heap[gb106]? = some (.cells #[.int .i64 ((rd_T23 l0 x9_1).f0), .int .i64 ((rd_T23 l0 x9_1).f1), .int .i64 ((rd_T23 l0 x9_1).f2), .bool ((rd_T23 l0 x9_1).f3), .string ((rd_T23 l0 x9_1).f4)] 23 (0, 0))) := ⟨by (with_reducible repeat (first | refine blk_drewN ?_ _ | refine blk_drew ?_ | refine blk_alloc ?_ _)); refine blk_put (cs := #[.int .i64 ((rd_T23 l0 x9_1).f0), .int .i64 ((rd_T23 l0 x9_1).f1), .int .i64 ((rd_T23 l0 x9_1).f2), .bool ((rd_T23 l0 x9_1).f3), .string (⟨#[]⟩ : ByteArray)]) ?_ 4 _ rfl; (with_reducible repeat (first | refine blk_drewN ?_ _ | refine blk_drew ?_ | refine blk_alloc ?_ _)); refine blk_put (cs := #[.int .i64 ((rd_T23 l0 x9_1).f0), .int .i64 ((rd_T23 l0 x9_1).f1), .int .i64 ((rd_T23 l0 x9_1).f2), .bool false, .string (⟨#[]⟩ : ByteArray)]) ?_ 3 _ rfl; (with_reducible repeat (first | refine blk_drewN ?_ _ | refine blk_drew ?_ | refine blk_alloc ?_ _)); refine blk_put (cs := #[.int .i64 ((rd_T23 l0 x9_1).f0), .int .i64 ((rd_T23 l0 x9_1).f1), .int .i64 0, .bool false, .string (⟨#[]⟩ : ByteArray)]) ?_ 2 _ rfl; (with_reducible repeat (first | refine blk_drewN ?_ _ | refine blk_drew ?_ | refine blk_alloc ?_ _)); refine blk_put (cs := #[.int .i64 ((rd_T23 l0 x9_1).f0), .int .i64 0, .int .i64 0, .bool false, .string (⟨#[]⟩ : ByteArray)]) ?_ 1 _ rfl; (with_reducible repeat (first | refine blk_drewN ?_ _ | refine blk_drew ?_ | refine blk_alloc ?_ _)); refine blk_put (cs := #[.int .i64 0, .int .i64 0, .int .i64 0, .bool false, .string (⟨#[]⟩ : ByteArray)]) ?_ 0 _ rfl; (with_reducible repeat (first | refine blk_drewN ?_ _ | refine blk_drew ?_ | refine blk_alloc ?_ _)); exact BK106.out⟩
         have n1_ : Aside0 (Below w.heap.size w (((((w7.setCell ⟨gb106, 0, none⟩ (.int .i64 ((rd_T23 l0 x9_1).f0))).setCell ⟨gb106, 1, none⟩ (.int .i64 ((rd_T23 l0 x9_1).f1))).setCell ⟨gb106, 2, none⟩ (.int .i64 ((rd_T23 l0 x9_1).f2))).setCell ⟨gb106, 3, none⟩ (.bool ((rd_T23 l0 x9_1).f3))).setCell ⟨gb106, 4, none⟩ (.string ((rd_T23 l0 x9_1).f4)))) := ⟨bel⟩
         (try clear BK106); (try clear HB)
         generalize (((((w7.setCell ⟨gb106, 0, none⟩ (.int .i64 ((rd_T23 l0 x9_1).f0))).setCell ⟨gb106, 1, none⟩ (.int .i64 ((rd_T23 l0 x9_1).f1))).setCell ⟨gb106, 2, none⟩ (.int .i64 ((rd_T23 l0 x9_1).f2))).setCell ⟨gb106, 3, none⟩ (.bool ((rd_T23 l0 x9_1).f3))).setCell ⟨gb106, 4, none⟩ (.string ((rd_T23 l0 x9_1).f4))) = w12 at n0_ n1_ ⊢
         have BK106 := n0_
         have HB := n1_
         clear n0_ n1_
         have n0_ := aS (blk_drew BK106.out)
         have n1_ := aS (bdo HB.out)
         clear BK106; clear HB
         have BK106 := n0_
         have HB := n1_
         clear n0_ n1_
         refine start_ (n := 24) (S := fun w' => w'.cell? ⟨gb106, 0, none⟩ = some (.int .i64 ((rd_T23 l0 x9_1).f0)) ∧ w'.cell? ⟨gb106, 1, none⟩ = some (.int .i64 ((rd_T23 l0 x9_1).f1)) ∧ w'.cell? ⟨gb106, 2, none⟩ = some (.int .i64 ((rd_T23 l0 x9_1).f2)) ∧ w'.cell? ⟨gb106, 3, none⟩ = some (.bool ((rd_T23 l0 x9_1).f3)) ∧ w'.cell? ⟨gb106, 4, none⟩ = some (.string ((rd_T23 l0 x9_1).f4))) (ds := []) #[false, false, false, false, false, false, false, false, false, false, false, false, false, false, false, false, false, false, false, false, false, false, false, false] (by kernel_rfl) rfl rfl ⟨(blk_cell BK106.out 0).trans rfl, (blk_cell BK106.out 1).trans rfl, (blk_cell BK106.out 2).trans rfl, (blk_cell BK106.out 3).trans rfl, (blk_cell BK106.out 4).trans rfl⟩ (fun hHeld => ?_); refine with_tabW msg_rising.tab4 msg_rising.bits4 (fun HT_ HW_ => ?_)
         generalize w12.drew = w13 at BK106 HB hHeld ⊢
         refine take_ (i := 0) (N := some 14) (v := ?_) (a' := ?_) #[true, false, false, false, false, false, false, false, false, false, false, false, false, false, false, false, false, false, false, false, false, false, false, false] rfl rfl (take_ofW HT_.out HW_.out (by kernel_rfl)) (fun _ _ _ h => h) (Or.inl ⟨by rfl, ?_⟩) hHeld ?_ ?_
         rotate_left
         ·
          rintro w' ⟨s0, s1, s2, s3, s4⟩
          go_simp
          with_reducible rfl
         rotate_left
         ·
          simp only [Act.put, lsa, lsz, lss, i64_w, i32_w]
          rfl
         refine one_ (i := 1) (N := some 15) #[true, true, false, false, false, false, false, false, false, false, false, false, false, false, false, false, false, false, false, false, false, false, false, false] rfl rfl (one_of HT_.out (by kernel_rfl)) (by decide) (fun K hK => ?_)
         refine goes_ Try.func24 (by kernel_rfl) rfl #[.agg #[.int .i64 ((rd_T23 l0 x9_1).f0), .int .i64 ((rd_T23 l0 x9_1).f1), .int .i64 ((rd_T23 l0 x9_1).f2), .bool ((rd_T23 l0 x9_1).f3), .string ((rd_T23 l0 x9_1).f4)]] (by rfl) rfl rfl agn ?_
         with_reducible refine (slot_Right.calls ((rd_T23 l0 x9_1).f0) ((rd_T23 l0 x9_1).f1) ((rd_T23 l0 x9_1).f2) ((rd_T23 l0 x9_1).f3) ((rd_T23 l0 x9_1).f4) true _ A9.out).mono ?_
         rintro e w14 ⟨rfl, hb⟩
         refine ⟨_, rfl, ?_⟩
         have n0_ := aS (blk_below (g := gb106) (o := .cells #[.int .i64 ((rd_T23 l0 x9_1).f0), .int .i64 ((rd_T23 l0 x9_1).f1), .int .i64 ((rd_T23 l0 x9_1).f2), .bool ((rd_T23 l0 x9_1).f3), .string ((rd_T23 l0 x9_1).f4)] 23 (0, 0)) (bkl BK106.out) hb)
         have n1_ := bstep hb
         clear BK106; clear HB
         have BK106 := n0_
         have HB := n1_
         clear n0_ n1_; (try clear hb); (try clear hb2); (try clear hk); (try clear hi)
         refine hK.out _ _ ⟨(blk_cell BK106.out 0).trans rfl, (blk_cell BK106.out 1).trans rfl, (blk_cell BK106.out 2).trans rfl, (blk_cell BK106.out 3).trans rfl, (blk_cell BK106.out 4).trans rfl⟩ (fun hHeld => ?_)
         clear hK K
         refine norm_ (a' := ?_) ?_ ?_
         rotate_left
         ·
          show Act.put _ (some 15) _ = _
          simp only [Act.put, lsa, lsz, lss, i64_w, i32_w]
          rfl
         refine along_ [(2, 16), (3, 17), (4, 18), (6, 20), (5, 19), (7, 21), (8, 22), (9, 23), (10, 24), (11, 25), (12, 26), (13, 27), (14, 28), (15, 29), (16, 30), (17, 31), (18, 32), (19, 33), (20, 34), (21, 35), (22, 36), (23, 37)] ?_
         iterate 22 (first | (apply skip1 HT_; (case hi => rfl); (case hN => rfl); (case hw => rfl); (case hc => kernel_rfl); (case hQ => exact fun _ _ _ h => h); (case ha => simp only [Act.put, lsa, lsz, lss, i64_w, i32_w]; rfl)) | (apply pure1 HT_; (case hi => rfl); (case hN => rfl); (case hw => rfl); (case hc => kernel_rfl); (case hQ => exact fun _ _ _ h => h); (case hy => intro w'; go_simp; with_reducible rfl); (case ha => simp only [Act.put, lsa, lsz, lss, i64_w, i32_w]; rfl)) | (apply take1 HT_ HW_ hHeld; (case hi => rfl); (case hN => rfl); (case hw => rfl); (case hc => kernel_rfl); (case hQ => exact fun _ _ _ h => h); (case hy => intro w' hs_; go_simp; with_reducible rfl); (case ha => simp only [Act.put, lsa, lsz, lss, i64_w, i32_w]; rfl)))
         refine lay_ #[true, true, true, true, true, true, true, true, true, true, true, true, true, true, true, true, true, true, true, true, true, true, true, true] (by kernel_rfl) ?_
         refine done_ (done_of HT_.out (by kernel_rfl)) ?_
         try go_wp2
         go_meet
         case rel => exact ⟨_, (true), (by first | rfl | (simp; done) | (simp [*]; done) | (simp; exact (by decide : ∀ a_ b_ : Bool, (a_ == b_) = (!a_ != b_)) _ _)), H', ⟨by have := HK1.out; first | omega | exact Nat.le_refl _⟩, ⟨by (with_reducible repeat (first | refine blk_drewN ?_ _ | refine blk_drew ?_ | refine blk_alloc ?_ _)); exact BK106.out⟩, ⟨bel⟩⟩
        ·
         rw [if_neg c11] at H
         have c11b0 : decide (a1 ≤ ((rd_T23 l0 x9_1).f1)) = false := decide_eq_false c11
         clear c11
         (first | rw [c11b0] | (simp only [i64_w, i32_w]; rw [c11b0]) | skip)
         by_cases c15 : x9_1 > 0
         ·
          rw [if_pos c15] at H
          have c15b0 : decide (0 < x9_1) = true := decide_eq_true c15
          clear c15
          obtain ⟨ji16, hji16⟩ : ∃ j_ : Int, (wrap64 (x9_1 - 1)) = j_ := ⟨_, rfl⟩
          replace H : (if 0 ≤ (ji16) then (if (ji16) < (l0.length : Int) then (msg_rising.j1 k1 l0 a1 l0 (l0.length : Int) x9_1 (decide (((rd_T23 l0 (ji16)).f0) ≥ ((rd_T23 l0 x9_1).f0)))) else (none)) else (none)) = some r := by first | (rw [hji16] at H; exact H) | (simp only [hji16] at H ⊢; exact H)
          (try rw [hji16] at A9)
          have hji16w : (IntKind.i64.wrap (x9_1 - 1)) = ji16 := (i64_w _).trans hji16
          by_cases c17 : 0 ≤ (ji16)
          ·
           rw [if_pos c17] at H
           have c17b0 : decide (0 ≤ (ji16)) = true := decide_eq_true c17
           clear c17
           by_cases c18 : (ji16) < (l0.length : Int)
           ·
            rw [if_pos c18] at H
            have c18b0 : decide ((ji16) < (l0.length : Int)) = true := decide_eq_true c18
            clear c18
            have H' := aS H
            clear H
            try go_wp2
            have n0_ : Aside0 ((((((w7.setCell ⟨gb106, 0, none⟩ (.int .i64 ((rd_T23 l0 x9_1).f0))).setCell ⟨gb106, 1, none⟩ (.int .i64 ((rd_T23 l0 x9_1).f1))).setCell ⟨gb106, 2, none⟩ (.int .i64 ((rd_T23 l0 x9_1).f2))).setCell ⟨gb106, 3, none⟩ (.bool ((rd_T23 l0 x9_1).f3))).setCell ⟨gb106, 4, none⟩ (.string ((rd_T23 l0 x9_1).f4))).heap[gb106]? = some (.cells #[.int .i64 ((rd_T23 l0 x9_1).f0), .int .i64 ((rd_T23 l0 x9_1).f1), .int .i64 ((rd_T23 l0 x9_1).f2), .bool ((rd_T23 l0 x9_1).f3), .string ((rd_T23 l0 x9_1).f4)] 23 (0, 0))) := ⟨by (with_reducible repeat (first | refine blk_drewN ?_ _ | refine blk_drew ?_ | refine blk_alloc ?_ _)); refine blk_put (cs := #[.int .i64 ((rd_T23 l0 x9_1).f0), .int .i64 ((rd_T23 l0 x9_1).f1), .int .i64 ((rd_T23 l0 x9_1).f2), .bool ((rd_T23 l0 x9_1).f3), .string (⟨#[]⟩ : ByteArray)]) ?_ 4 _ rfl; (with_reducible repeat (first | refine blk_drewN ?_ _ | refine blk_drew ?_ | refine blk_alloc ?_ _)); refine blk_put (cs := #[.int .i64 ((rd_T23 l0 x9_1).f0), .int .i64 ((rd_T23 l0 x9_1).f1), .int .i64 ((rd_T23 l0 x9_1).f2), .bool false, .string (⟨#[]⟩ : ByteArray)]) ?_ 3 _ rfl; (with_reducible repeat (first | refine blk_drewN ?_ _ | refine blk_drew ?_ | refine blk_alloc ?_ _)); refine blk_put (cs := #[.int .i64 ((rd_T23 l0 x9_1).f0), .int .i64 ((rd_T23 l0 x9_1).f1), .int .i64 0, .bool false, .string (⟨#[]⟩ : ByteArray)]) ?_ 2 _ rfl; (with_reducible repeat (first | refine blk_drewN ?_ _ | refine blk_drew ?_ | refine blk_alloc ?_ _)); refine blk_put (cs := #[.int .i64 ((rd_T23 l0 x9_1).f0), .int .i64 0, .int .i64 0, .bool false, .string (⟨#[]⟩ : ByteArray)]) ?_ 1 _ rfl; (with_reducible repeat (first | refine blk_drewN ?_ _ | refine blk_drew ?_ | refine blk_alloc ?_ _)); refine blk_put (cs := #[.int .i64 0, .int .i64 0, .int .i64 0, .bool false, .string (⟨#[]⟩ : ByteArray)]) ?_ 0 _ rfl; (with_reducible repeat (first | refine blk_drewN ?_ _ | refine blk_drew ?_ | refine blk_alloc ?_ _)); exact BK106.out⟩
            have n1_ : Aside0 (Below w.heap.size w (((((w7.setCell ⟨gb106, 0, none⟩ (.int .i64 ((rd_T23 l0 x9_1).f0))).setCell ⟨gb106, 1, none⟩ (.int .i64 ((rd_T23 l0 x9_1).f1))).setCell ⟨gb106, 2, none⟩ (.int .i64 ((rd_T23 l0 x9_1).f2))).setCell ⟨gb106, 3, none⟩ (.bool ((rd_T23 l0 x9_1).f3))).setCell ⟨gb106, 4, none⟩ (.string ((rd_T23 l0 x9_1).f4)))) := ⟨bel⟩
            (try clear BK106); (try clear HB)
            generalize (((((w7.setCell ⟨gb106, 0, none⟩ (.int .i64 ((rd_T23 l0 x9_1).f0))).setCell ⟨gb106, 1, none⟩ (.int .i64 ((rd_T23 l0 x9_1).f1))).setCell ⟨gb106, 2, none⟩ (.int .i64 ((rd_T23 l0 x9_1).f2))).setCell ⟨gb106, 3, none⟩ (.bool ((rd_T23 l0 x9_1).f3))).setCell ⟨gb106, 4, none⟩ (.string ((rd_T23 l0 x9_1).f4))) = w19 at n0_ n1_ ⊢
            have BK106 := n0_
            have HB := n1_
            clear n0_ n1_
            have n0_ := aS (blk_drew BK106.out)
            have n1_ := aS (bdo HB.out)
            clear BK106; clear HB
            have BK106 := n0_
            have HB := n1_
            clear n0_ n1_
            have p108 : 0 ≤ ((ji16) : Int) := odt (by first | (with_reducible assumption) | assumption)
            have q108 : (ji16) < (l0.length : Int) := odt (by first | (with_reducible assumption) | assumption)
            obtain ⟨ad108, e108, hx108_0, hx108_1, hx108_2, hx108_3, hx108_4⟩ := at_T23 HR0.out (ji16) p108 q108
            have hw108_4 := hx108_4
            have hw108_3 := hx108_3
            have hw108_2 := hx108_2
            have hw108_1 := hx108_1
            have hw108_0 := hx108_0
            obtain rfl : ad105 = ad108 := (by injection e108)
            replace hx108_0 := (HB.out.cell (wbl w _ hx108_0)).trans hx108_0
            replace hx108_1 := (HB.out.cell (wbl w _ hx108_1)).trans hx108_1
            replace hx108_2 := (HB.out.cell (wbl w _ hx108_2)).trans hx108_2
            replace hx108_3 := (HB.out.cell (wbl w _ hx108_3)).trans hx108_3
            replace hx108_4 := (HB.out.cell (wbl w _ hx108_4)).trans hx108_4
            replace p108 := eq_true p108
            replace q108 := eq_true q108
            refine start_ (n := 24) (S := fun w' => w'.cell? ⟨gb106, 0, none⟩ = some (.int .i64 ((rd_T23 l0 x9_1).f0)) ∧ w'.cell? ⟨gb106, 1, none⟩ = some (.int .i64 ((rd_T23 l0 x9_1).f1)) ∧ w'.cell? ⟨gb106, 2, none⟩ = some (.int .i64 ((rd_T23 l0 x9_1).f2)) ∧ w'.cell? ⟨gb106, 3, none⟩ = some (.bool ((rd_T23 l0 x9_1).f3)) ∧ w'.cell? ⟨gb106, 4, none⟩ = some (.string ((rd_T23 l0 x9_1).f4)) ∧ w'.cell? (ad105.add (((ji16)).toNat * 5)) = some (.int .i64 ((rd_T23 l0 (ji16)).f0)) ∧ w'.cell? ⟨(ad105.add (((ji16)).toNat * 5)).block, (ad105.add (((ji16)).toNat * 5)).off + 1, none⟩ = some (.int .i64 ((rd_T23 l0 (ji16)).f1)) ∧ w'.cell? ⟨(ad105.add (((ji16)).toNat * 5)).block, (ad105.add (((ji16)).toNat * 5)).off + 2, none⟩ = some (.int .i64 ((rd_T23 l0 (ji16)).f2)) ∧ w'.cell? ⟨(ad105.add (((ji16)).toNat * 5)).block, (ad105.add (((ji16)).toNat * 5)).off + 3, none⟩ = some (.bool ((rd_T23 l0 (ji16)).f3)) ∧ w'.cell? ⟨(ad105.add (((ji16)).toNat * 5)).block, (ad105.add (((ji16)).toNat * 5)).off + 4, none⟩ = some (.string ((rd_T23 l0 (ji16)).f4))) (ds := []) #[false, false, false, false, false, false, false, false, false, false, false, false, false, false, false, false, false, false, false, false, false, false, false, false] (by kernel_rfl) rfl rfl ⟨(blk_cell BK106.out 0).trans rfl, (blk_cell BK106.out 1).trans rfl, (blk_cell BK106.out 2).trans rfl, (blk_cell BK106.out 3).trans rfl, (blk_cell BK106.out 4).trans rfl, ((HB.out.cell (wbl w _ hw108_0)).trans hw108_0), ((HB.out.cell (wbl w _ hw108_1)).trans hw108_1), ((HB.out.cell (wbl w _ hw108_2)).trans hw108_2), ((HB.out.cell (wbl w _ hw108_3)).trans hw108_3), ((HB.out.cell (wbl w _ hw108_4)).trans hw108_4)⟩ (fun hHeld => ?_); refine with_tabW msg_rising.tab4 msg_rising.bits4 (fun HT_ HW_ => ?_)
            generalize w19.drew = w20 at BK106 HB hx108_0 hx108_1 hx108_2 hx108_3 hx108_4 hHeld ⊢
            refine take_ (i := 0) (N := some 14) (v := ?_) (a' := ?_) #[true, false, false, false, false, false, false, false, false, false, false, false, false, false, false, false, false, false, false, false, false, false, false, false] rfl rfl (take_ofW HT_.out HW_.out (by kernel_rfl)) (fun _ _ _ h => h) (Or.inl ⟨by rfl, ?_⟩) hHeld ?_ ?_
            rotate_left
            ·
             rintro w' ⟨s0, s1, s2, s3, s4, s5, s6, s7, s8, s9⟩
             go_simp
             with_reducible rfl
            rotate_left
            ·
             simp only [Act.put, lsa, lsz, lss, i64_w, i32_w]
             rfl
            refine one_ (i := 1) (N := some 15) #[true, true, false, false, false, false, false, false, false, false, false, false, false, false, false, false, false, false, false, false, false, false, false, false] rfl rfl (one_of HT_.out (by kernel_rfl)) (by decide) (fun K hK => ?_)
            refine goes_ Try.func24 (by kernel_rfl) rfl #[.agg #[.int .i64 ((rd_T23 l0 x9_1).f0), .int .i64 ((rd_T23 l0 x9_1).f1), .int .i64 ((rd_T23 l0 x9_1).f2), .bool ((rd_T23 l0 x9_1).f3), .string ((rd_T23 l0 x9_1).f4)]] (by rfl) rfl rfl agn ?_
            with_reducible refine (slot_Right.calls ((rd_T23 l0 x9_1).f0) ((rd_T23 l0 x9_1).f1) ((rd_T23 l0 x9_1).f2) ((rd_T23 l0 x9_1).f3) ((rd_T23 l0 x9_1).f4) true _ A9.out).mono ?_
            rintro e w21 ⟨rfl, hb⟩
            refine ⟨_, rfl, ?_⟩
            have n0_ := aS (blk_below (g := gb106) (o := .cells #[.int .i64 ((rd_T23 l0 x9_1).f0), .int .i64 ((rd_T23 l0 x9_1).f1), .int .i64 ((rd_T23 l0 x9_1).f2), .bool ((rd_T23 l0 x9_1).f3), .string ((rd_T23 l0 x9_1).f4)] 23 (0, 0)) (bkl BK106.out) hb)
            have n1_ := bstep hb
            clear BK106; clear HB
            have BK106 := n0_
            have HB := n1_
            clear n0_ n1_; (try clear hb); (try clear hb2); (try clear hk); (try clear hi)
            refine hK.out _ _ ⟨(blk_cell BK106.out 0).trans rfl, (blk_cell BK106.out 1).trans rfl, (blk_cell BK106.out 2).trans rfl, (blk_cell BK106.out 3).trans rfl, (blk_cell BK106.out 4).trans rfl, ((HB.out.cell (wbl w _ hw108_0)).trans hw108_0), ((HB.out.cell (wbl w _ hw108_1)).trans hw108_1), ((HB.out.cell (wbl w _ hw108_2)).trans hw108_2), ((HB.out.cell (wbl w _ hw108_3)).trans hw108_3), ((HB.out.cell (wbl w _ hw108_4)).trans hw108_4)⟩ (fun hHeld => ?_)
            clear hK K
            refine norm_ (a' := ?_) ?_ ?_
            rotate_left
            ·
             show Act.put _ (some 15) _ = _
             simp only [Act.put, lsa, lsz, lss, i64_w, i32_w]
             rfl
            refine along_ [(2, 16), (3, 17), (4, 18), (6, 20), (5, 19), (7, 21), (8, 22), (9, 23), (10, 24), (11, 25), (12, 26), (13, 27), (14, 28), (15, 29), (16, 30), (17, 31), (19, 33), (18, 32), (20, 34), (21, 35), (22, 36), (23, 37)] ?_
            iterate 22 (first | (apply pure1 HT_; (case hi => rfl); (case hN => rfl); (case hw => rfl); (case hc => kernel_rfl); (case hQ => exact fun _ _ _ h => h); (case hy => intro w'; go_simp; with_reducible rfl); (case ha => simp only [Act.put, lsa, lsz, lss, i64_w, i32_w]; rfl)) | (apply take1 HT_ HW_ hHeld; (case hi => rfl); (case hN => rfl); (case hw => rfl); (case hc => kernel_rfl); (case hQ => exact fun _ _ _ h => h); (case hy => intro w' hs_; go_simp; with_reducible rfl); (case ha => simp only [Act.put, lsa, lsz, lss, i64_w, i32_w]; rfl)))
            refine lay_ #[true, true, true, true, true, true, true, true, true, true, true, true, true, true, true, true, true, true, true, true, true, true, true, true] (by kernel_rfl) ?_
            refine done_ (done_of HT_.out (by kernel_rfl)) ?_
            try go_wp2
            go_meet
            case rel => exact ⟨_, (decide (((rd_T23 l0 (ji16)).f0) ≥ ((rd_T23 l0 x9_1).f0))), (by first | rfl | (simp; done) | (simp only [← hji16] <;> (first | rfl | simp)) | (simp [*]; done)), H', ⟨by have := HK1.out; first | omega | exact Nat.le_refl _⟩, ⟨by (with_reducible repeat (first | refine blk_drewN ?_ _ | refine blk_drew ?_ | refine blk_alloc ?_ _)); exact BK106.out⟩, ⟨bel⟩⟩
           ·
            rw [if_neg c18] at H
            exact absurd H (by simp)
          ·
           rw [if_neg c17] at H
           exact absurd H (by simp)
         ·
          rw [if_neg c15] at H
          have c15b0 : decide (0 < x9_1) = false := decide_eq_false c15
          clear c15
          have H' := aS H
          clear H
          try go_wp2
          have n0_ : Aside0 ((((((w7.setCell ⟨gb106, 0, none⟩ (.int .i64 ((rd_T23 l0 x9_1).f0))).setCell ⟨gb106, 1, none⟩ (.int .i64 ((rd_T23 l0 x9_1).f1))).setCell ⟨gb106, 2, none⟩ (.int .i64 ((rd_T23 l0 x9_1).f2))).setCell ⟨gb106, 3, none⟩ (.bool ((rd_T23 l0 x9_1).f3))).setCell ⟨gb106, 4, none⟩ (.string ((rd_T23 l0 x9_1).f4))).heap[gb106]? = some (.cells #[.int .i64 ((rd_T23 l0 x9_1).f0), .int .i64 ((rd_T23 l0 x9_1).f1), .int .i64 ((rd_T23 l0 x9_1).f2), .bool ((rd_T23 l0 x9_1).f3), .string ((rd_T23 l0 x9_1).f4)] 23 (0, 0))) := ⟨by (with_reducible repeat (first | refine blk_drewN ?_ _ | refine blk_drew ?_ | refine blk_alloc ?_ _)); refine blk_put (cs := #[.int .i64 ((rd_T23 l0 x9_1).f0), .int .i64 ((rd_T23 l0 x9_1).f1), .int .i64 ((rd_T23 l0 x9_1).f2), .bool ((rd_T23 l0 x9_1).f3), .string (⟨#[]⟩ : ByteArray)]) ?_ 4 _ rfl; (with_reducible repeat (first | refine blk_drewN ?_ _ | refine blk_drew ?_ | refine blk_alloc ?_ _)); refine blk_put (cs := #[.int .i64 ((rd_T23 l0 x9_1).f0), .int .i64 ((rd_T23 l0 x9_1).f1), .int .i64 ((rd_T23 l0 x9_1).f2), .bool false, .string (⟨#[]⟩ : ByteArray)]) ?_ 3 _ rfl; (with_reducible repeat (first | refine blk_drewN ?_ _ | refine blk_drew ?_ | refine blk_alloc ?_ _)); refine blk_put (cs := #[.int .i64 ((rd_T23 l0 x9_1).f0), .int .i64 ((rd_T23 l0 x9_1).f1), .int .i64 0, .bool false, .string (⟨#[]⟩ : ByteArray)]) ?_ 2 _ rfl; (with_reducible repeat (first | refine blk_drewN ?_ _ | refine blk_drew ?_ | refine blk_alloc ?_ _)); refine blk_put (cs := #[.int .i64 ((rd_T23 l0 x9_1).f0), .int .i64 0, .int .i64 0, .bool false, .string (⟨#[]⟩ : ByteArray)]) ?_ 1 _ rfl; (with_reducible repeat (first | refine blk_drewN ?_ _ | refine blk_drew ?_ | refine blk_alloc ?_ _)); refine blk_put (cs := #[.int .i64 0, .int .i64 0, .int .i64 0, .bool false, .string (⟨#[]⟩ : ByteArray)]) ?_ 0 _ rfl; (with_reducible repeat (first | refine blk_drewN ?_ _ | refine blk_drew ?_ | refine blk_alloc ?_ _)); exact BK106.out⟩
          have n1_ : Aside0 (Below w.heap.size w (((((w7.setCell ⟨gb106, 0, none⟩ (.int .i64 ((rd_T23 l0 x9_1).f0))).setCell ⟨gb106, 1, none⟩ (.int .i64 ((rd_T23 l0 x9_1).f1))).setCell ⟨gb106, 2, none⟩ (.int .i64 ((rd_T23 l0 x9_1).f2))).setCell ⟨gb106, 3, none⟩ (.bool ((rd_T23 l0 x9_1).f3))).setCell ⟨gb106, 4, none⟩ (.string ((rd_T23 l0 x9_1).f4)))) := ⟨bel⟩
          (try clear BK106); (try clear HB)
          generalize (((((w7.setCell ⟨gb106, 0, none⟩ (.int .i64 ((rd_T23 l0 x9_1).f0))).setCell ⟨gb106, 1, none⟩ (.int .i64 ((rd_T23 l0 x9_1).f1))).setCell ⟨gb106, 2, none⟩ (.int .i64 ((rd_T23 l0 x9_1).f2))).setCell ⟨gb106, 3, none⟩ (.bool ((rd_T23 l0 x9_1).f3))).setCell ⟨gb106, 4, none⟩ (.string ((rd_T23 l0 x9_1).f4))) = w22 at n0_ n1_ ⊢
          have BK106 := n0_
          have HB := n1_
          clear n0_ n1_
          have n0_ := aS (blk_drew BK106.out)
          have n1_ := aS (bdo HB.out)
          clear BK106; clear HB
          have BK106 := n0_
          have HB := n1_
          clear n0_ n1_
          refine start_ (n := 24) (S := fun w' => w'.cell? ⟨gb106, 0, none⟩ = some (.int .i64 ((rd_T23 l0 x9_1).f0)) ∧ w'.cell? ⟨gb106, 1, none⟩ = some (.int .i64 ((rd_T23 l0 x9_1).f1)) ∧ w'.cell? ⟨gb106, 2, none⟩ = some (.int .i64 ((rd_T23 l0 x9_1).f2)) ∧ w'.cell? ⟨gb106, 3, none⟩ = some (.bool ((rd_T23 l0 x9_1).f3)) ∧ w'.cell? ⟨gb106, 4, none⟩ = some (.string ((rd_T23 l0 x9_1).f4))) (ds := []) #[false, false, false, false, false, false, false, false, false, false, false, false, false, false, false, false, false, false, false, false, false, false, false, false] (by kernel_rfl) rfl rfl ⟨(blk_cell BK106.out 0).trans rfl, (blk_cell BK106.out 1).trans rfl, (blk_cell BK106.out 2).trans rfl, (blk_cell BK106.out 3).trans rfl, (blk_cell BK106.out 4).trans rfl⟩ (fun hHeld => ?_); refine with_tabW msg_rising.tab4 msg_rising.bits4 (fun HT_ HW_ => ?_)
          generalize w22.drew = w23 at BK106 HB hHeld ⊢
          refine take_ (i := 0) (N := some 14) (v := ?_) (a' := ?_) #[true, false, false, false, false, false, false, false, false, false, false, false, false, false, false, false, false, false, false, false, false, false, false, false] rfl rfl (take_ofW HT_.out HW_.out (by kernel_rfl)) (fun _ _ _ h => h) (Or.inl ⟨by rfl, ?_⟩) hHeld ?_ ?_
          rotate_left
          ·
           rintro w' ⟨s0, s1, s2, s3, s4⟩
           go_simp
           with_reducible rfl
          rotate_left
          ·
           simp only [Act.put, lsa, lsz, lss, i64_w, i32_w]
           rfl
          refine one_ (i := 1) (N := some 15) #[true, true, false, false, false, false, false, false, false, false, false, false, false, false, false, false, false, false, false, false, false, false, false, false] rfl rfl (one_of HT_.out (by kernel_rfl)) (by decide) (fun K hK => ?_)
          refine goes_ Try.func24 (by kernel_rfl) rfl #[.agg #[.int .i64 ((rd_T23 l0 x9_1).f0), .int .i64 ((rd_T23 l0 x9_1).f1), .int .i64 ((rd_T23 l0 x9_1).f2), .bool ((rd_T23 l0 x9_1).f3), .string ((rd_T23 l0 x9_1).f4)]] (by rfl) rfl rfl agn ?_
          with_reducible refine (slot_Right.calls ((rd_T23 l0 x9_1).f0) ((rd_T23 l0 x9_1).f1) ((rd_T23 l0 x9_1).f2) ((rd_T23 l0 x9_1).f3) ((rd_T23 l0 x9_1).f4) true _ A9.out).mono ?_
          rintro e w24 ⟨rfl, hb⟩
          refine ⟨_, rfl, ?_⟩
          have n0_ := aS (blk_below (g := gb106) (o := .cells #[.int .i64 ((rd_T23 l0 x9_1).f0), .int .i64 ((rd_T23 l0 x9_1).f1), .int .i64 ((rd_T23 l0 x9_1).f2), .bool ((rd_T23 l0 x9_1).f3), .string ((rd_T23 l0 x9_1).f4)] 23 (0, 0)) (bkl BK106.out) hb)
          have n1_ := bstep hb
          clear BK106; clear HB
          have BK106 := n0_
          have HB := n1_
          clear n0_ n1_; (try clear hb); (try clear hb2); (try clear hk); (try clear hi)
          refine hK.out _ _ ⟨(blk_cell BK106.out 0).trans rfl, (blk_cell BK106.out 1).trans rfl, (blk_cell BK106.out 2).trans rfl, (blk_cell BK106.out 3).trans rfl, (blk_cell BK106.out 4).trans rfl⟩ (fun hHeld => ?_)
          clear hK K
          refine norm_ (a' := ?_) ?_ ?_
          rotate_left
          ·
           show Act.put _ (some 15) _ = _
           simp only [Act.put, lsa, lsz, lss, i64_w, i32_w]
           rfl
          refine along_ [(2, 16), (3, 17), (4, 18), (6, 20), (5, 19), (7, 21), (8, 22), (9, 23), (10, 24), (11, 25), (12, 26), (13, 27), (14, 28), (15, 29), (16, 30), (17, 31), (18, 32), (19, 33), (20, 34), (21, 35), (22, 36), (23, 37)] ?_
          iterate 22 (first | (apply skip1 HT_; (case hi => rfl); (case hN => rfl); (case hw => rfl); (case hc => kernel_rfl); (case hQ => exact fun _ _ _ h => h); (case ha => simp only [Act.put, lsa, lsz, lss, i64_w, i32_w]; rfl)) | (apply pure1 HT_; (case hi => rfl); (case hN => rfl); (case hw => rfl); (case hc => kernel_rfl); (case hQ => exact fun _ _ _ h => h); (case hy => intro w'; go_simp; with_reducible rfl); (case ha => simp only [Act.put, lsa, lsz, lss, i64_w, i32_w]; rfl)) | (apply take1 HT_ HW_ hHeld; (case hi => rfl); (case hN => rfl); (case hw => rfl); (case hc => kernel_rfl); (case hQ => exact fun _ _ _ h => h); (case hy => intro w' hs_; go_simp; with_reducible rfl); (case ha => simp only [Act.put, lsa, lsz, lss, i64_w, i32_w]; rfl)))
          refine lay_ #[true, true, true, true, true, true, true, true, true, true, true, true, true, true, true, true, true, true, true, true, true, true, true, true] (by kernel_rfl) ?_
          refine done_ (done_of HT_.out (by kernel_rfl)) ?_
          try go_wp2
          go_meet
          case rel => exact ⟨_, (false), (by first | rfl | (simp; done) | (simp [*]; done) | (simp; exact (by decide : ∀ a_ b_ : Bool, (a_ == b_) = (!a_ != b_)) _ _)), H', ⟨by have := HK1.out; first | omega | exact Nat.le_refl _⟩, ⟨by (with_reducible repeat (first | refine blk_drewN ?_ _ | refine blk_drew ?_ | refine blk_alloc ?_ _)); exact BK106.out⟩, ⟨bel⟩⟩
       ·
        replace c10 := Bool.eq_false_iff.mpr c10
        subst c10
        have H1 : (msg_rising.j1 k1 l0 a1 l0 (l0.length : Int) x9_1 true) = some r := by rw [if_neg (show ¬ (false = true) by decide)] at H; exact H
        clear H; have H := H1; clear H1
        have H' := aS H
        clear H
        try go_wp2
        have n0_ : Aside0 ((((((w7.setCell ⟨gb106, 0, none⟩ (.int .i64 ((rd_T23 l0 x9_1).f0))).setCell ⟨gb106, 1, none⟩ (.int .i64 ((rd_T23 l0 x9_1).f1))).setCell ⟨gb106, 2, none⟩ (.int .i64 ((rd_T23 l0 x9_1).f2))).setCell ⟨gb106, 3, none⟩ (.bool ((rd_T23 l0 x9_1).f3))).setCell ⟨gb106, 4, none⟩ (.string ((rd_T23 l0 x9_1).f4))).heap[gb106]? = some (.cells #[.int .i64 ((rd_T23 l0 x9_1).f0), .int .i64 ((rd_T23 l0 x9_1).f1), .int .i64 ((rd_T23 l0 x9_1).f2), .bool ((rd_T23 l0 x9_1).f3), .string ((rd_T23 l0 x9_1).f4)] 23 (0, 0))) := ⟨by (with_reducible repeat (first | refine blk_drewN ?_ _ | refine blk_drew ?_ | refine blk_alloc ?_ _)); refine blk_put (cs := #[.int .i64 ((rd_T23 l0 x9_1).f0), .int .i64 ((rd_T23 l0 x9_1).f1), .int .i64 ((rd_T23 l0 x9_1).f2), .bool ((rd_T23 l0 x9_1).f3), .string (⟨#[]⟩ : ByteArray)]) ?_ 4 _ rfl; (with_reducible repeat (first | refine blk_drewN ?_ _ | refine blk_drew ?_ | refine blk_alloc ?_ _)); refine blk_put (cs := #[.int .i64 ((rd_T23 l0 x9_1).f0), .int .i64 ((rd_T23 l0 x9_1).f1), .int .i64 ((rd_T23 l0 x9_1).f2), .bool false, .string (⟨#[]⟩ : ByteArray)]) ?_ 3 _ rfl; (with_reducible repeat (first | refine blk_drewN ?_ _ | refine blk_drew ?_ | refine blk_alloc ?_ _)); refine blk_put (cs := #[.int .i64 ((rd_T23 l0 x9_1).f0), .int .i64 ((rd_T23 l0 x9_1).f1), .int .i64 0, .bool false, .string (⟨#[]⟩ : ByteArray)]) ?_ 2 _ rfl; (with_reducible repeat (first | refine blk_drewN ?_ _ | refine blk_drew ?_ | refine blk_alloc ?_ _)); refine blk_put (cs := #[.int .i64 ((rd_T23 l0 x9_1).f0), .int .i64 0, .int .i64 0, .bool false, .string (⟨#[]⟩ : ByteArray)]) ?_ 1 _ rfl; (with_reducible repeat (first | refine blk_drewN ?_ _ | refine blk_drew ?_ | refine blk_alloc ?_ _)); refine blk_put (cs := #[.int .i64 0, .int .i64 0, .int .i64 0, .bool false, .string (⟨#[]⟩ : ByteArray)]) ?_ 0 _ rfl; (with_reducible repeat (first | refine blk_drewN ?_ _ | refine blk_drew ?_ | refine blk_alloc ?_ _)); exact BK106.out⟩
        have n1_ : Aside0 (Below w.heap.size w (((((w7.setCell ⟨gb106, 0, none⟩ (.int .i64 ((rd_T23 l0 x9_1).f0))).setCell ⟨gb106, 1, none⟩ (.int .i64 ((rd_T23 l0 x9_1).f1))).setCell ⟨gb106, 2, none⟩ (.int .i64 ((rd_T23 l0 x9_1).f2))).setCell ⟨gb106, 3, none⟩ (.bool ((rd_T23 l0 x9_1).f3))).setCell ⟨gb106, 4, none⟩ (.string ((rd_T23 l0 x9_1).f4)))) := ⟨bel⟩
        (try clear BK106); (try clear HB)
        generalize (((((w7.setCell ⟨gb106, 0, none⟩ (.int .i64 ((rd_T23 l0 x9_1).f0))).setCell ⟨gb106, 1, none⟩ (.int .i64 ((rd_T23 l0 x9_1).f1))).setCell ⟨gb106, 2, none⟩ (.int .i64 ((rd_T23 l0 x9_1).f2))).setCell ⟨gb106, 3, none⟩ (.bool ((rd_T23 l0 x9_1).f3))).setCell ⟨gb106, 4, none⟩ (.string ((rd_T23 l0 x9_1).f4))) = w25 at n0_ n1_ ⊢
        have BK106 := n0_
        have HB := n1_
        clear n0_ n1_
        have n0_ := aS (blk_drew BK106.out)
        have n1_ := aS (bdo HB.out)
        clear BK106; clear HB
        have BK106 := n0_
        have HB := n1_
        clear n0_ n1_
        refine start_ (n := 24) (S := fun w' => w'.cell? ⟨gb106, 0, none⟩ = some (.int .i64 ((rd_T23 l0 x9_1).f0)) ∧ w'.cell? ⟨gb106, 1, none⟩ = some (.int .i64 ((rd_T23 l0 x9_1).f1)) ∧ w'.cell? ⟨gb106, 2, none⟩ = some (.int .i64 ((rd_T23 l0 x9_1).f2)) ∧ w'.cell? ⟨gb106, 3, none⟩ = some (.bool ((rd_T23 l0 x9_1).f3)) ∧ w'.cell? ⟨gb106, 4, none⟩ = some (.string ((rd_T23 l0 x9_1).f4))) (ds := []) #[false, false, false, false, false, false, false, false, false, false, false, false, false, false, false, false, false, false, false, false, false, false, false, false] (by kernel_rfl) rfl rfl ⟨(blk_cell BK106.out 0).trans rfl, (blk_cell BK106.out 1).trans rfl, (blk_cell BK106.out 2).trans rfl, (blk_cell BK106.out 3).trans rfl, (blk_cell BK106.out 4).trans rfl⟩ (fun hHeld => ?_); refine with_tabW msg_rising.tab4 msg_rising.bits4 (fun HT_ HW_ => ?_)
        generalize w25.drew = w26 at BK106 HB hHeld ⊢
        refine take_ (i := 0) (N := some 14) (v := ?_) (a' := ?_) #[true, false, false, false, false, false, false, false, false, false, false, false, false, false, false, false, false, false, false, false, false, false, false, false] rfl rfl (take_ofW HT_.out HW_.out (by kernel_rfl)) (fun _ _ _ h => h) (Or.inl ⟨by rfl, ?_⟩) hHeld ?_ ?_
        rotate_left
        ·
         rintro w' ⟨s0, s1, s2, s3, s4⟩
         go_simp
         with_reducible rfl
        rotate_left
        ·
         simp only [Act.put, lsa, lsz, lss, i64_w, i32_w]
         rfl
        refine one_ (i := 1) (N := some 15) #[true, true, false, false, false, false, false, false, false, false, false, false, false, false, false, false, false, false, false, false, false, false, false, false] rfl rfl (one_of HT_.out (by kernel_rfl)) (by decide) (fun K hK => ?_)
        refine goes_ Try.func24 (by kernel_rfl) rfl #[.agg #[.int .i64 ((rd_T23 l0 x9_1).f0), .int .i64 ((rd_T23 l0 x9_1).f1), .int .i64 ((rd_T23 l0 x9_1).f2), .bool ((rd_T23 l0 x9_1).f3), .string ((rd_T23 l0 x9_1).f4)]] (by rfl) rfl rfl agn ?_
        with_reducible refine (slot_Right.calls ((rd_T23 l0 x9_1).f0) ((rd_T23 l0 x9_1).f1) ((rd_T23 l0 x9_1).f2) ((rd_T23 l0 x9_1).f3) ((rd_T23 l0 x9_1).f4) false _ A9.out).mono ?_
        rintro e w27 ⟨rfl, hb⟩
        refine ⟨_, rfl, ?_⟩
        have n0_ := aS (blk_below (g := gb106) (o := .cells #[.int .i64 ((rd_T23 l0 x9_1).f0), .int .i64 ((rd_T23 l0 x9_1).f1), .int .i64 ((rd_T23 l0 x9_1).f2), .bool ((rd_T23 l0 x9_1).f3), .string ((rd_T23 l0 x9_1).f4)] 23 (0, 0)) (bkl BK106.out) hb)
        have n1_ := bstep hb
        clear BK106; clear HB
        have BK106 := n0_
        have HB := n1_
        clear n0_ n1_; (try clear hb); (try clear hb2); (try clear hk); (try clear hi)
        refine hK.out _ _ ⟨(blk_cell BK106.out 0).trans rfl, (blk_cell BK106.out 1).trans rfl, (blk_cell BK106.out 2).trans rfl, (blk_cell BK106.out 3).trans rfl, (blk_cell BK106.out 4).trans rfl⟩ (fun hHeld => ?_)
        clear hK K
        refine norm_ (a' := ?_) ?_ ?_
        rotate_left
        ·
         show Act.put _ (some 15) _ = _
         simp only [Act.put, lsa, lsz, lss, i64_w, i32_w]
         rfl
        refine along_ [(2, 16), (3, 17), (4, 18), (5, 19), (6, 20), (7, 21), (8, 22), (9, 23), (10, 24), (11, 25), (12, 26), (13, 27), (14, 28), (15, 29), (16, 30), (17, 31), (18, 32), (19, 33), (20, 34), (21, 35), (22, 36), (23, 37)] ?_
        iterate 22 (first | (apply skip1 HT_; (case hi => rfl); (case hN => rfl); (case hw => rfl); (case hc => kernel_rfl); (case hQ => exact fun _ _ _ h => h); (case ha => simp only [Act.put, lsa, lsz, lss, i64_w, i32_w]; rfl)) | (apply pure1 HT_; (case hi => rfl); (case hN => rfl); (case hw => rfl); (case hc => kernel_rfl); (case hQ => exact fun _ _ _ h => h); (case hy => intro w'; go_simp; with_reducible rfl); (case ha => simp only [Act.put, lsa, lsz, lss, i64_w, i32_w]; rfl)))
        refine lay_ #[true, true, true, true, true, true, true, true, true, true, true, true, true, true, true, true, true, true, true, true, true, true, true, true] (by kernel_rfl) ?_
        refine done_ (done_of HT_.out (by kernel_rfl)) ?_
        try go_wp2
        go_meet
        case rel => exact ⟨_, (true), (by first | rfl | (simp; done) | (simp [*]; done) | (simp; exact (by decide : ∀ a_ b_ : Bool, (a_ == b_) = (!a_ != b_)) _ _)), H', ⟨by have := HK1.out; first | omega | exact Nat.le_refl _⟩, ⟨by (with_reducible repeat (first | refine blk_drewN ?_ _ | refine blk_drew ?_ | refine blk_alloc ?_ _)); exact BK106.out⟩, ⟨bel⟩⟩
      case rest =>
       clear HC6; (try clear c1); (try clear p1); (try clear q1); (try clear hx1); (try clear c2); (try clear p2); (try clear c10); (try clear p10); (try clear q10); (try clear hx10); (try clear c15); (try clear c15b0); (try clear c17); (try clear c18); (try clear c24); (try clear hx108_0); (try clear hx108_1); (try clear hx108_2); (try clear hx108_3); (try clear hx108_4); (try clear p108); (try clear q108)
       obtain ⟨kq, x37_5, rfl, HA, HJ5, BK106, HB⟩ := hcut
       cases kq with
       | zero => exact absurd HA.out (by simp [msg_rising.j1])
       | succ kj5 =>
        have H := HA.out; clear HA
        simp only [msg_rising.j1] at H
        by_cases c28 : x37_5 = true
        ·
         subst c28
         have H1 : (some false) = some r := by rw [if_pos rfl] at H; exact H
         clear H; have H := H1; clear H1
         obtain rfl := Option.some.inj H
         go_wp2
         go_ret
         exact ⟨rf3, bel⟩
        ·
         replace c28 := Bool.eq_false_iff.mpr c28
         subst c28
         have H1 : (msg_rising.l0 kj5 l0 a1 l0 (l0.length : Int) (wrap64 (x9_1 + 1))) = some r := by rw [if_neg (show ¬ (false = true) by decide)] at H; exact H
         clear H; have H := H1; clear H1
         have H' := aS H
         clear H
         go_wp2
         go_roundg kj5
         case measure => have := HK1.out; have := HJ5.out; omega
         case rel => exact ⟨(wrap64 (x9_1 + 1)), (by first | rfl | (simp; done) | (simp [*]; done) | (simp; exact (by decide : ∀ a_ b_ : Bool, (a_ == b_) = (!a_ != b_)) _ _)), H', ⟨by have := HK1.out; have := HJ5.out; omega⟩, ⟨bel⟩⟩
     ·
      rw [if_neg c5] at H
      exact absurd H (by simp)
    ·
     rw [if_neg c4] at H
     exact absurd H (by simp)
   ·
    rw [if_neg c3] at H
    have c3b0 : decide (x9_1 < (l0.length : Int)) = false := decide_eq_false c3
    clear c3
    obtain rfl := Option.some.inj H
    go_wp2
    go_ret
    exact ⟨rf3, bel⟩

end Go.Proofs.Yteoklmfkofgfmaa.X
