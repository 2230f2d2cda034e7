-- written by a program of this session's, over the kit's print
import Derived.Test.YteoklmfkofgfmaaXx0
import Derived.Test.YteoklmfkofgfmaaXx1
import Derived.Test.YteoklmfkofgfmaaXx4
import Derived.Test.YteoklmfkofgfmaaXx6
namespace Go.Proofs.Yteoklmfkofgfmaa.X
open Go.RowKit Go.Proofs.YteoklmfkofgfmaaW.PrintWords Go.Proofs.YteoklmfkofgfmaaW.PrintLast Go.Proofs.YteoklmfkofgfmaaW.PrintMore
attribute [local go_sem] max2_int min2_int max_two min_two max_three min_three max_four min_four gtr_str   -- for this text's walks alone
set_option linter.unusedVariables false
set_option linter.unusedSimpArgs false

attribute [local go_sem high] eqA23
/-! ### shardlogref19_Small: function 8 -/
mutual
def shardlogref19_Small.l0 : Nat → Int → Int → Int → Int → Int → Int → Int → Int → Int → Bool → ByteArray → List (S23) → Option (Bool)
 | 0, _, _, _, _, _, _, _, _, _, _, _, _ => none
 | k + 1, x3, x410000, x410001, x410002, x410003, x410004, x410005, x410006, x410007, x410008, x410009, x410010 => if x3 < (x410010.length : Int) then (shardlogref19_Small.j1 k x3 (decide (x3 < 100)) x410000 x410001 x410002 x410003 x410004 x410005 x410006 x410007 x410008 x410009 x410010) else (shardlogref19_Small.j1 k x3 false x410000 x410001 x410002 x410003 x410004 x410005 x410006 x410007 x410008 x410009 x410010)
def shardlogref19_Small.j1 : Nat → Int → Bool → Int → Int → Int → Int → Int → Int → Int → Int → Bool → ByteArray → List (S23) → Option (Bool)
 | 0, _, _, _, _, _, _, _, _, _, _, _, _, _ => none
 | k + 1, x3, x12, x410000, x410001, x410002, x410003, x410004, x410005, x410006, x410007, x410008, x410009, x410010 => if x12 = true then (if 0 ≤ x3 then (if x3 < (x410010.length : Int) then (if (((rd_T23 x410010 x3).f4).size : Int) > 600 then (some false) else (shardlogref19_Small.l0 k (wrap64 (x3 + 1)) x410000 x410001 x410002 x410003 x410004 x410005 x410006 x410007 x410008 x410009 x410010)) else (none)) else (none)) else (if (x410010.length : Int) ≤ 70 then (some (decide ((x410009.size : Int) ≤ 1000))) else (some false))
end
def shardlogref19_Small.f (k : Nat) (a0_0 : Int) (a0_1 : Int) (a0_2 : Int) (a0_3 : Int) (a0_4 : Int) (a0_5 : Int) (a0_6 : Int) (a0_7 : Int) (a0_8 : Bool) (a0_9 : ByteArray) (l0_10 : List (S23)) : Option (Bool) := shardlogref19_Small.l0 k 0 a0_0 a0_1 a0_2 a0_3 a0_4 a0_5 a0_6 a0_7 a0_8 a0_9 l0_10
theorem shardlogref19_Small.mono_l : ∀ k, (∀ y0 y1 y2 y3 y4 y5 y6 y7 y8 y9 y10 y11, LeO (shardlogref19_Small.l0 k y0 y1 y2 y3 y4 y5 y6 y7 y8 y9 y10 y11) (shardlogref19_Small.l0 (k + 1) y0 y1 y2 y3 y4 y5 y6 y7 y8 y9 y10 y11)) ∧ (∀ y0 y1 y2 y3 y4 y5 y6 y7 y8 y9 y10 y11 y12, LeO (shardlogref19_Small.j1 k y0 y1 y2 y3 y4 y5 y6 y7 y8 y9 y10 y11 y12) (shardlogref19_Small.j1 (k + 1) y0 y1 y2 y3 y4 y5 y6 y7 y8 y9 y10 y11 y12))
 | 0 => ⟨fun _ _ _ _ _ _ _ _ _ _ _ _ r h => by simp [shardlogref19_Small.l0] at h, fun _ _ _ _ _ _ _ _ _ _ _ _ _ r h => by simp [shardlogref19_Small.j1] at h⟩
 | k + 1 => by
  obtain ⟨ih0, ih1⟩ := shardlogref19_Small.mono_l k
  refine ⟨?_, ?_⟩
  ·
   intro y0 y1 y2 y3 y4 y5 y6 y7 y8 y9 y10 y11
   unfold shardlogref19_Small.l0
   repeat' first
   | (with_reducible exact ih0 _ _ _ _ _ _ _ _ _ _ _ _)
   | (with_reducible exact ih1 _ _ _ _ _ _ _ _ _ _ _ _ _)
   | (with_reducible exact LeO.refl _)
   | (with_reducible exact LeO.none _)
   | (with_reducible refine LeO.ite ?_ ?_)
   | (with_reducible refine LeO.bind ?_ (fun _ => ?_))
   | exact LeO.none _
   | refine LeO.ite ?_ ?_
   | refine LeO.bind ?_ (fun _ => ?_)
  ·
   intro y0 y1 y2 y3 y4 y5 y6 y7 y8 y9 y10 y11 y12
   unfold shardlogref19_Small.j1
   repeat' first
   | (with_reducible exact ih0 _ _ _ _ _ _ _ _ _ _ _ _)
   | (with_reducible exact ih1 _ _ _ _ _ _ _ _ _ _ _ _ _)
   | (with_reducible exact LeO.refl _)
   | (with_reducible exact LeO.none _)
   | (with_reducible refine LeO.ite ?_ ?_)
   | (with_reducible refine LeO.bind ?_ (fun _ => ?_))
   | exact LeO.none _
   | refine LeO.ite ?_ ?_
   | refine LeO.bind ?_ (fun _ => ?_)
theorem shardlogref19_Small.mono : ∀ a0 a1 a2 a3 a4 a5 a6 a7 a8 a9 a10 k, LeO (shardlogref19_Small.f k a0 a1 a2 a3 a4 a5 a6 a7 a8 a9 a10) (shardlogref19_Small.f (k + 1) a0 a1 a2 a3 a4 a5 a6 a7 a8 a9 a10) := by
 intro a0 a1 a2 a3 a4 a5 a6 a7 a8 a9 a10 k
 obtain ⟨ih0, ih1⟩ := shardlogref19_Small.mono_l k
 unfold shardlogref19_Small.f
 repeat' first
   | (with_reducible exact ih0 _ _ _ _ _ _ _ _ _ _ _ _)
   | (with_reducible exact ih1 _ _ _ _ _ _ _ _ _ _ _ _ _)
   | (with_reducible exact LeO.refl _)
   | (with_reducible exact LeO.none _)
   | (with_reducible refine LeO.ite ?_ ?_)
   | (with_reducible refine LeO.bind ?_ (fun _ => ?_))
   | exact LeO.none _
   | refine LeO.ite ?_ ?_
   | refine LeO.bind ?_ (fun _ => ?_)
set_option maxHeartbeats 8000000 in
set_option maxRecDepth 100000 in
theorem shardlogref19_Small.calls (k : Nat) (a0_0 : Int) (a0_1 : Int) (a0_2 : Int) (a0_3 : Int) (a0_4 : Int) (a0_5 : Int) (a0_6 : Int) (a0_7 : Int) (a0_8 : Bool) (a0_9 : ByteArray) (A0_10 : Option Addr) (c0_10 : Nat) (l0_10 : List (S23)) (r : Bool) (w : World) (hr0_10 : Kd.C k23 w A0_10 l0_10.length l0_10) (hc0_10 : l0_10.length ≤ c0_10) (h : shardlogref19_Small.f k a0_0 a0_1 a0_2 a0_3 a0_4 a0_5 a0_6 a0_7 a0_8 a0_9 l0_10 = some r) :
  Calls Try.prog 8 #[.agg #[.int .i64 a0_0, .int .i64 a0_1, .int .i64 a0_2, .int .i64 a0_3, .int .i64 a0_4, .int .i64 a0_5, .int .i64 a0_6, .int .i64 a0_7, .bool a0_8, .string a0_9, .slice A0_10 l0_10.length c0_10]] w fun e w' => e = .returned (.bool r) ∧ Below w.heap.size w w' := by
 have hu26 := Try.underlying26
 have HR0_10 := aS hr0_10
 have HC0_10 := aS hc0_10
 clear hr0_10 hc0_10
 have HB := aS (Below.refl w.heap.size w)
 have H : (shardlogref19_Small.l0 k 0 a0_0 a0_1 a0_2 a0_3 a0_4 a0_5 a0_6 a0_7 a0_8 a0_9 l0_10) = some r := h
 clear h
 have H' := aS H
 clear H
 go_enter Try.func8, Try.ntmps8
 go_wp2_with (first | ((with_reducible refine gate_dst (N := 1) rfl ?_); (try (refine gate_guard (by rfl) ?_; dsimp only)); refine box_event ?hg (N := 1) ?hd (cs := #[.int .i64 a0_0, .int .i64 a0_1, .int .i64 a0_2, .int .i64 a0_3, .int .i64 a0_4, .int .i64 a0_5, .int .i64 a0_6, .int .i64 a0_7, .bool a0_8, .string a0_9, .slice A0_10 l0_10.length c0_10]) (t := 26) ?hr ?_; (case hd => rfl); (case hg => rfl); (case hr => first | (go_simp; done) | (go_simp; rfl)); intro gb409 hg w2 hbox hb; have n0_ := bstep hb; have n1_ := aS (hbox); have n2_ := bsize hg; have n3_ := bsize hg; clear HB; have HB := n0_; have BK409 := n1_; have GW409 := n2_; have GE409 := n3_; clear n0_ n1_ n2_ n3_; clear hb hbox hg))
 go_loopg [3] k (fun kq v3 w' => ∃ (x3_1 : Int), v3 = .int .i64 x3_1 ∧ Aside0 (shardlogref19_Small.l0 kq x3_1 a0_0 a0_1 a0_2 a0_3 a0_4 a0_5 a0_6 a0_7 a0_8 a0_9 l0_10 = some r) ∧ Aside0 (kq ≤ k) ∧ Aside0 (w'.heap[gb409]? = some (.cells #[.int .i64 a0_0, .int .i64 a0_1, .int .i64 a0_2, .int .i64 a0_3, .int .i64 a0_4, .int .i64 a0_5, .int .i64 a0_6, .int .i64 a0_7, .bool a0_8, .string a0_9, (.slice A0_10 l0_10.length c0_10)] 26 (0, 0))) ∧ Aside0 (Below w.heap.size w w'))
 case atStart => exact ⟨(0), (by first | rfl | (simp; done) | (simp [*]; done) | (simp; exact (by decide : ∀ a_ b_ : Bool, (a_ == b_) = (!a_ != b_)) _ _)), H', ⟨Nat.le_refl _⟩, ⟨by (with_reducible repeat (first | refine blk_drewN ?_ _ | refine blk_drew ?_ | refine blk_alloc ?_ _)); exact BK409.out⟩, ⟨bel⟩⟩
 case round =>
  clear H'; (try clear p2)
  obtain ⟨x3_1, rfl, HA, HK1, BK409, HB⟩ := hrel
  cases gk with
  | zero => exact absurd HA.out (by simp [shardlogref19_Small.l0])
  | succ k1 =>
   have H := HA.out; clear HA
   simp only [shardlogref19_Small.l0] at H
   have HC3 := aS H
   clear H
   go_upto_region 2 with (fail)
   go_cut [12] (fun v12 wc => ∃ (kq : Nat) (x12_2 : Bool), v12 = .bool x12_2 ∧ Aside0 (shardlogref19_Small.j1 kq x3_1 x12_2 a0_0 a0_1 a0_2 a0_3 a0_4 a0_5 a0_6 a0_7 a0_8 a0_9 l0_10 = some r) ∧ Aside0 (kq ≤ k1) ∧ Aside0 (wc.heap[gb409]? = some (.cells #[.int .i64 a0_0, .int .i64 a0_1, .int .i64 a0_2, .int .i64 a0_3, .int .i64 a0_4, .int .i64 a0_5, .int .i64 a0_6, .int .i64 a0_7, .bool a0_8, .string a0_9, (.slice A0_10 l0_10.length c0_10)] 26 (0, 0))) ∧ Aside0 (Below w.heap.size w wc))
   case first =>
    have H := HC3.out; clear HC3
    by_cases c4 : x3_1 < (l0_10.length : Int)
    ·
     rw [if_pos c4] at H
     have c4b0 : decide (x3_1 < (l0_10.length : Int)) = true := decide_eq_true c4
     clear c4
     (first | rw [c4b0] | (simp only [i64_w, i32_w]; rw [c4b0]) | skip)
     have H' := aS H
     clear H
     have hcz5 := cK11 BK409
     go_wp2
     go_meet
     case rel => exact ⟨_, (decide (x3_1 < 100)), (by first | rfl | (simp; done) | (simp [*]; done) | (simp; exact (by decide : ∀ a_ b_ : Bool, (a_ == b_) = (!a_ != b_)) _ _)), H', ⟨by have := HK1.out; first | omega | exact Nat.le_refl _⟩, ⟨by (with_reducible repeat (first | refine blk_drewN ?_ _ | refine blk_drew ?_ | refine blk_alloc ?_ _)); exact BK409.out⟩, ⟨bel⟩⟩
    ·
     rw [if_neg c4] at H
     have c4b0 : decide (x3_1 < (l0_10.length : Int)) = false := decide_eq_false c4
     clear c4
     (first | rw [c4b0] | (simp only [i64_w, i32_w]; rw [c4b0]) | skip)
     have H' := aS H
     clear H
     have hcz6 := cK11 BK409
     go_wp2
     go_meet
     case rel => exact ⟨_, (false), (by first | rfl | (simp; done) | (simp [*]; done) | (simp; exact (by decide : ∀ a_ b_ : Bool, (a_ == b_) = (!a_ != b_)) _ _)), H', ⟨by have := HK1.out; first | omega | exact Nat.le_refl _⟩, ⟨by (with_reducible repeat (first | refine blk_drewN ?_ _ | refine blk_drew ?_ | refine blk_alloc ?_ _)); exact BK409.out⟩, ⟨bel⟩⟩
   case rest =>
    clear HC3; (try clear p2); (try clear c4); (try clear c4b0); (try clear hcz5); (try clear hcz6)
    obtain ⟨kq, x12_2, rfl, HA, HJ2, BK409, HB⟩ := hcut
    cases kq with
    | zero => exact absurd HA.out (by simp [shardlogref19_Small.j1])
    | succ kj2 =>
     have H := HA.out; clear HA
     simp only [shardlogref19_Small.j1] at H
     by_cases c7 : x12_2 = true
     ·
      subst c7
      have H1 : (if 0 ≤ x3_1 then (if x3_1 < (l0_10.length : Int) then (if (((rd_T23 l0_10 x3_1).f4).size : Int) > 600 then (some false) else (shardlogref19_Small.l0 kj2 (wrap64 (x3_1 + 1)) a0_0 a0_1 a0_2 a0_3 a0_4 a0_5 a0_6 a0_7 a0_8 a0_9 l0_10)) else (none)) else (none)) = some r := by rw [if_pos rfl] at H; exact H
      clear H; have H := H1; clear H1
      by_cases c8 : 0 ≤ x3_1
      ·
       rw [if_pos c8] at H
       have c8b0 : decide (0 ≤ x3_1) = true := decide_eq_true c8
       clear c8
       by_cases c9 : x3_1 < (l0_10.length : Int)
       ·
        rw [if_pos c9] at H
        have c9b0 : decide (x3_1 < (l0_10.length : Int)) = true := decide_eq_true c9
        clear c9
        by_cases c10 : (((rd_T23 l0_10 x3_1).f4).size : Int) > 600
        ·
         rw [if_pos c10] at H
         have c10b0 : decide (600 < (((rd_T23 l0_10 x3_1).f4).size : Int)) = true := decide_eq_true c10
         have c10b1 : decide (600 < ((rd_T23 l0_10 x3_1).f4).size) = true := decide_eq_true (by omega)
         clear c10
         obtain rfl := Option.some.inj H
         have hcz11 := cK11 BK409
         have p410 : 0 ≤ (x3_1 : Int) := odt (by first | (with_reducible assumption) | assumption)
         have q410 : x3_1 < (l0_10.length : Int) := odt (by first | (with_reducible assumption) | assumption)
         obtain ⟨ad410, e410, hx410_0, hx410_1, hx410_2, hx410_3, hx410_4⟩ := at_T23 HR0_10.out x3_1 p410 q410
         cases e410
         replace hx410_0 := (HB.out.cell (wbl w _ hx410_0)).trans hx410_0
         replace hx410_1 := (HB.out.cell (wbl w _ hx410_1)).trans hx410_1
         replace hx410_2 := (HB.out.cell (wbl w _ hx410_2)).trans hx410_2
         replace hx410_3 := (HB.out.cell (wbl w _ hx410_3)).trans hx410_3
         replace hx410_4 := (HB.out.cell (wbl w _ hx410_4)).trans hx410_4
         replace p410 := eq_true p410
         replace q410 := eq_true q410
         go_wp2
         go_ret
         exact ⟨rf3, bel⟩
        ·
         rw [if_neg c10] at H
         have c10b0 : decide (600 < (((rd_T23 l0_10 x3_1).f4).size : Int)) = false := decide_eq_false c10
         have c10b1 : decide (600 < ((rd_T23 l0_10 x3_1).f4).size) = false := decide_eq_false (by omega)
         clear c10
         have H' := aS H
         clear H
         have hcz12 := cK11 BK409
         have p410 : 0 ≤ (x3_1 : Int) := odt (by first | (with_reducible assumption) | assumption)
         have q410 : x3_1 < (l0_10.length : Int) := odt (by first | (with_reducible assumption) | assumption)
         obtain ⟨ad410, e410, hx410_0, hx410_1, hx410_2, hx410_3, hx410_4⟩ := at_T23 HR0_10.out x3_1 p410 q410
         cases e410
         replace hx410_0 := (HB.out.cell (wbl w _ hx410_0)).trans hx410_0
         replace hx410_1 := (HB.out.cell (wbl w _ hx410_1)).trans hx410_1
         replace hx410_2 := (HB.out.cell (wbl w _ hx410_2)).trans hx410_2
         replace hx410_3 := (HB.out.cell (wbl w _ hx410_3)).trans hx410_3
         replace hx410_4 := (HB.out.cell (wbl w _ hx410_4)).trans hx410_4
         replace p410 := eq_true p410
         replace q410 := eq_true q410
         go_wp2
         go_roundg kj2
         case measure => have := HK1.out; have := HJ2.out; omega
         case rel => exact ⟨(wrap64 (x3_1 + 1)), (by first | rfl | (simp; done) | (simp [*]; done) | (simp; exact (by decide : ∀ a_ b_ : Bool, (a_ == b_) = (!a_ != b_)) _ _)), H', ⟨by have := HK1.out; have := HJ2.out; omega⟩, ⟨by (with_reducible repeat (first | refine blk_drewN ?_ _ | refine blk_drew ?_ | refine blk_alloc ?_ _)); exact BK409.out⟩, ⟨bel⟩⟩
       ·
        rw [if_neg c9] at H
        exact absurd H (by simp)
      ·
       rw [if_neg c8] at H
       exact absurd H (by simp)
     ·
      replace c7 := Bool.eq_false_iff.mpr c7
      subst c7
      have H1 : (if (l0_10.length : Int) ≤ 70 then (some (decide ((a0_9.size : Int) ≤ 1000))) else (some false)) = some r := by rw [if_neg (show ¬ (false = true) by decide)] at H; exact H
      clear H; have H := H1; clear H1
      by_cases c13 : (l0_10.length : Int) ≤ 70
      ·
       rw [if_pos c13] at H
       have c13b0 : decide ((l0_10.length : Int) ≤ 70) = true := decide_eq_true c13
       have c13b1 : decide (l0_10.length ≤ 70) = true := decide_eq_true (by omega)
       clear c13
       obtain rfl := Option.some.inj H
       have hcz14 := cK11 BK409
       go_wp2
       go_ret
       exact ⟨rf3, bel⟩
      ·
       rw [if_neg c13] at H
       have c13b0 : decide ((l0_10.length : Int) ≤ 70) = false := decide_eq_false c13
       have c13b1 : decide (l0_10.length ≤ 70) = false := decide_eq_false (by omega)
       clear c13
       obtain rfl := Option.some.inj H
       have hcz15 := cK11 BK409
       go_wp2
       go_ret
       exact ⟨rf3, bel⟩

/-! ### shardlogref17_Same: function 28 -/
def shardlogref17_Same.l0 : Nat → List (S23) → List (S23) → Int → Option (Bool)
 | 0, _, _, _ => none
 | k + 1, x0, x1, x5 => if x5 < (x0.length : Int) then (if 0 ≤ x5 then (if x5 < (x1.length : Int) then (if (!(((rd_T23 x0 x5).f0) == ((rd_T23 x1 x5).f0)) || (!(((rd_T23 x0 x5).f1) == ((rd_T23 x1 x5).f1)) || (!(((rd_T23 x0 x5).f2) == ((rd_T23 x1 x5).f2)) || (!(((rd_T23 x0 x5).f3) == ((rd_T23 x1 x5).f3)) || (!((((rd_T23 x0 x5).f4).toList) == (((rd_T23 x1 x5).f4).toList))))))) = true then (some false) else (shardlogref17_Same.l0 k x0 x1 (wrap64 (x5 + 1)))) else (none)) else (none)) else (some true)
def shardlogref17_Same.f (k : Nat) (l0 : List (S23)) (l1 : List (S23)) : Option (Bool) := if (l0.length : Int) = (l1.length : Int) then (shardlogref17_Same.l0 k l0 l1 0) else (some false)
theorem shardlogref17_Same.mono_l : ∀ k, (∀ y0 y1 y2, LeO (shardlogref17_Same.l0 k y0 y1 y2) (shardlogref17_Same.l0 (k + 1) y0 y1 y2))
 | 0 => fun _ _ _ r h => by simp [shardlogref17_Same.l0] at h
 | k + 1 => by
  have ih0 := shardlogref17_Same.mono_l k
  ·
   intro y0 y1 y2
   unfold shardlogref17_Same.l0
   repeat' first
   | (with_reducible exact ih0 _ _ _)
   | (with_reducible exact LeO.refl _)
   | (with_reducible exact LeO.none _)
   | (with_reducible refine LeO.ite ?_ ?_)
   | (with_reducible refine LeO.bind ?_ (fun _ => ?_))
   | exact LeO.none _
   | refine LeO.ite ?_ ?_
   | refine LeO.bind ?_ (fun _ => ?_)
theorem shardlogref17_Same.mono : ∀ a0 a1 k, LeO (shardlogref17_Same.f k a0 a1) (shardlogref17_Same.f (k + 1) a0 a1) := by
 intro a0 a1 k
 have ih0 := shardlogref17_Same.mono_l k
 unfold shardlogref17_Same.f
 repeat' first
   | (with_reducible exact ih0 _ _ _)
   | (with_reducible exact LeO.refl _)
   | (with_reducible exact LeO.none _)
   | (with_reducible refine LeO.ite ?_ ?_)
   | (with_reducible refine LeO.bind ?_ (fun _ => ?_))
   | exact LeO.none _
   | refine LeO.ite ?_ ?_
   | refine LeO.bind ?_ (fun _ => ?_)
set_option maxHeartbeats 8000000 in
set_option maxRecDepth 100000 in
theorem shardlogref17_Same.calls (k : Nat) (A0 : Option Addr) (c0 : Nat) (l0 : List (S23)) (A1 : Option Addr) (c1 : Nat) (l1 : List (S23)) (r : Bool) (w : World) (hr0 : Kd.C k23 w A0 l0.length l0) (hc0 : l0.length ≤ c0) (hr1 : Kd.C k23 w A1 l1.length l1) (hc1 : l1.length ≤ c1) (h : shardlogref17_Same.f k l0 l1 = some r) :
  Calls Try.prog 28 #[.slice A0 l0.length c0, .slice A1 l1.length c1] w fun e w' => e = .returned (.bool r) ∧ Drawn0 w w' := by
 have hu23 := Try.underlying23
 have HR0 := aS hr0
 have HC0 := aS hc0
 clear hr0 hc0
 have HR1 := aS hr1
 have HC1 := aS hc1
 clear hr1 hc1
 have H : (if (l0.length : Int) = (l1.length : Int) then (shardlogref17_Same.l0 k l0 l1 0) else (some false)) = some r := h
 clear h
 by_cases c3 : (l0.length : Int) = (l1.length : Int)
 ·
  rw [if_pos c3] at H
  obtain ⟨c3b0, c3b1⟩ := eqT c3
  have c3b2 : (l0.length == l1.length) = true := by first | simpa using c3 | (simp at c3 ⊢; omega)
  clear c3
  have H' := aS H
  clear H
  go_enter Try.func28, Try.ntmps28
  go_wp2
  repeat (go_quiet (fail); try go_wp2)
  go_loopg [5] k (fun kq v5 w' => ∃ (x5_1 : Int), v5 = .int .i64 x5_1 ∧ Aside0 (shardlogref17_Same.l0 kq l0 l1 x5_1 = some r) ∧ Aside0 (kq ≤ k) ∧ Drawn0 w w')
  case atStart => exact ⟨(0), (by first | rfl | (simp; done) | (simp [*]; done) | (simp; exact (by decide : ∀ a_ b_ : Bool, (a_ == b_) = (!a_ != b_)) _ _)), H', ⟨Nat.le_refl _⟩, by repeat (first | exact Drawn0.refl _ | apply Drawn0.step)⟩
  case round =>
   clear H'; (try clear c1); (try clear c2); (try clear p2); (try clear c3); (try clear c3b0); (try clear c3b1); (try clear c3b2)
   obtain ⟨x5_1, rfl, HA, HK1, ⟨m1, rfl⟩⟩ := hrel
   cases gk with
   | zero => exact absurd HA.out (by simp [shardlogref17_Same.l0])
   | succ k1 =>
    have H := HA.out; clear HA
    simp only [shardlogref17_Same.l0] at H
    by_cases c4 : x5_1 < (l0.length : Int)
    ·
     rw [if_pos c4] at H
     have c4b0 : decide (x5_1 < (l0.length : Int)) = true := decide_eq_true c4
     clear c4
     by_cases c5 : 0 ≤ x5_1
     ·
      rw [if_pos c5] at H
      have c5b0 : decide (0 ≤ x5_1) = true := decide_eq_true c5
      clear c5
      by_cases c6 : x5_1 < (l1.length : Int)
      ·
       rw [if_pos c6] at H
       have c6b0 : decide (x5_1 < (l1.length : Int)) = true := decide_eq_true c6
       clear c6
       by_cases c7 : (!(((rd_T23 l0 x5_1).f0) == ((rd_T23 l1 x5_1).f0)) || (!(((rd_T23 l0 x5_1).f1) == ((rd_T23 l1 x5_1).f1)) || (!(((rd_T23 l0 x5_1).f2) == ((rd_T23 l1 x5_1).f2)) || (!(((rd_T23 l0 x5_1).f3) == ((rd_T23 l1 x5_1).f3)) || (!((((rd_T23 l0 x5_1).f4).toList) == (((rd_T23 l1 x5_1).f4).toList))))))) = true
       ·
        rw [if_pos c7] at H
        have c7b0 : (!(((rd_T23 l0 x5_1).f0) == ((rd_T23 l1 x5_1).f0)) || (!(((rd_T23 l0 x5_1).f1) == ((rd_T23 l1 x5_1).f1)) || (!(((rd_T23 l0 x5_1).f2) == ((rd_T23 l1 x5_1).f2)) || (!(((rd_T23 l0 x5_1).f3) == ((rd_T23 l1 x5_1).f3)) || (!((((rd_T23 l0 x5_1).f4).toList) == (((rd_T23 l1 x5_1).f4).toList))))))) = true := c7
        clear c7
        obtain rfl := Option.some.inj H
        have p411 : 0 ≤ (x5_1 : Int) := odt (by first | (with_reducible assumption) | assumption)
        have q411 : x5_1 < (l0.length : Int) := odt (by first | (with_reducible assumption) | assumption)
        obtain ⟨ad411, e411, hx411_0, hx411_1, hx411_2, hx411_3, hx411_4⟩ := at_T23 HR0.out x5_1 p411 q411
        cases e411
        replace p411 := eq_true p411
        replace q411 := eq_true q411
        have p412 : 0 ≤ (x5_1 : Int) := odt (by first | (with_reducible assumption) | assumption)
        have q412 : x5_1 < (l1.length : Int) := odt (by first | (with_reducible assumption) | assumption)
        obtain ⟨ad412, e412, hx412_0, hx412_1, hx412_2, hx412_3, hx412_4⟩ := at_T23 HR1.out x5_1 p412 q412
        cases e412
        replace p412 := eq_true p412
        replace q412 := eq_true q412
        go_wp2
        repeat (go_quiet (fail); try go_wp2)
        go_ret
        exact ⟨by first | rfl | (simp; done) | (simp [*]; done) | (simp; exact (by decide : ∀ a_ b_ : Bool, (a_ == b_) = (!a_ != b_)) _ _), by repeat (first | exact Drawn0.refl _ | apply Drawn0.step)⟩
       ·
        rw [if_neg c7] at H
        have c7b0 : (!(((rd_T23 l0 x5_1).f0) == ((rd_T23 l1 x5_1).f0)) || (!(((rd_T23 l0 x5_1).f1) == ((rd_T23 l1 x5_1).f1)) || (!(((rd_T23 l0 x5_1).f2) == ((rd_T23 l1 x5_1).f2)) || (!(((rd_T23 l0 x5_1).f3) == ((rd_T23 l1 x5_1).f3)) || (!((((rd_T23 l0 x5_1).f4).toList) == (((rd_T23 l1 x5_1).f4).toList))))))) = false := by simpa using c7
        clear c7
        have H' := aS H
        clear H
        have p411 : 0 ≤ (x5_1 : Int) := odt (by first | (with_reducible assumption) | assumption)
        have q411 : x5_1 < (l0.length : Int) := odt (by first | (with_reducible assumption) | assumption)
        obtain ⟨ad411, e411, hx411_0, hx411_1, hx411_2, hx411_3, hx411_4⟩ := at_T23 HR0.out x5_1 p411 q411
        cases e411
        replace p411 := eq_true p411
        replace q411 := eq_true q411
        have p412 : 0 ≤ (x5_1 : Int) := odt (by first | (with_reducible assumption) | assumption)
        have q412 : x5_1 < (l1.length : Int) := odt (by first | (with_reducible assumption) | assumption)
        obtain ⟨ad412, e412, hx412_0, hx412_1, hx412_2, hx412_3, hx412_4⟩ := at_T23 HR1.out x5_1 p412 q412
        cases e412
        replace p412 := eq_true p412
        replace q412 := eq_true q412
        go_wp2
        repeat (go_quiet (fail); try go_wp2)
        go_roundg k1
        case measure => have := HK1.out; omega
        case rel => exact ⟨(wrap64 (x5_1 + 1)), (by first | rfl | (simp; done) | (simp [*]; done) | (simp; exact (by decide : ∀ a_ b_ : Bool, (a_ == b_) = (!a_ != b_)) _ _)), H', ⟨by have := HK1.out; omega⟩, by repeat (first | exact Drawn0.refl _ | apply Drawn0.step)⟩
      ·
       rw [if_neg c6] at H
       exact absurd H (by simp)
     ·
      rw [if_neg c5] at H
      exact absurd H (by simp)
    ·
     rw [if_neg c4] at H
     have c4b0 : decide (x5_1 < (l0.length : Int)) = false := decide_eq_false c4
     clear c4
     obtain rfl := Option.some.inj H
     go_wp2
     repeat (go_quiet (fail); try go_wp2)
     go_ret
     exact ⟨by first | rfl | (simp; done) | (simp [*]; done) | (simp; exact (by decide : ∀ a_ b_ : Bool, (a_ == b_) = (!a_ != b_)) _ _), by repeat (first | exact Drawn0.refl _ | apply Drawn0.step)⟩
 ·
  rw [if_neg c3] at H
  obtain ⟨c3b0, c3b1⟩ := eqF c3
  have c3b2 : (l0.length == l1.length) = false := by first | simpa using c3 | (simp at c3 ⊢; omega)
  obtain rfl := Option.some.inj H
  go_enter Try.func28, Try.ntmps28
  go_wp2
  repeat (go_quiet (fail); try go_wp2)
  go_ret
  exact ⟨by first | rfl | (simp; done) | (simp [*]; done) | (simp; exact (by decide : ∀ a_ b_ : Bool, (a_ == b_) = (!a_ != b_)) _ _), by repeat (first | exact Drawn0.refl _ | apply Drawn0.step)⟩

/-! ### shardlogref19_Same: function 13 -/
def shardlogref19_Same.f (k : Nat) (a0_0 : Int) (a0_1 : Int) (a0_2 : Int) (a0_3 : Int) (a0_4 : Int) (a0_5 : Int) (a0_6 : Int) (a0_7 : Int) (a0_8 : Bool) (a0_9 : ByteArray) (l0_10 : List (S23)) (a1_0 : Int) (a1_1 : Int) (a1_2 : Int) (a1_3 : Int) (a1_4 : Int) (a1_5 : Int) (a1_6 : Int) (a1_7 : Int) (a1_8 : Bool) (a1_9 : ByteArray) (l1_10 : List (S23)) : Option (Bool) := if a0_0 = a1_0 then (if a0_1 = a1_1 then (if a0_2 = a1_2 then (if a0_3 = a1_3 then (if a0_4 = a1_4 then (if (a0_5 == a1_5 && (a0_6 == a1_6 && (a0_7 == a1_7 && (a0_8 == a1_8 && (a0_9.toList == a1_9.toList))))) = true then ((shardlogref17_Same.f k l0_10 l1_10).bind fun t415 => (some t415)) else (some false)) else (some false)) else (some false)) else (some false)) else (some false)) else (some false)
theorem shardlogref19_Same.mono : ∀ a0 a1 a2 a3 a4 a5 a6 a7 a8 a9 a10 a11 a12 a13 a14 a15 a16 a17 a18 a19 a20 a21 k, LeO (shardlogref19_Same.f k a0 a1 a2 a3 a4 a5 a6 a7 a8 a9 a10 a11 a12 a13 a14 a15 a16 a17 a18 a19 a20 a21) (shardlogref19_Same.f (k + 1) a0 a1 a2 a3 a4 a5 a6 a7 a8 a9 a10 a11 a12 a13 a14 a15 a16 a17 a18 a19 a20 a21) := by
 intro a0 a1 a2 a3 a4 a5 a6 a7 a8 a9 a10 a11 a12 a13 a14 a15 a16 a17 a18 a19 a20 a21 k
 unfold shardlogref19_Same.f
 repeat' first
   | (with_reducible exact shardlogref17_Same.mono _ _ _)
   | (with_reducible exact LeO.refl _)
   | (with_reducible exact LeO.none _)
   | (with_reducible refine LeO.ite ?_ ?_)
   | (with_reducible refine LeO.bind ?_ (fun _ => ?_))
   | exact LeO.none _
   | refine LeO.ite ?_ ?_
   | refine LeO.bind ?_ (fun _ => ?_)
set_option maxHeartbeats 8000000 in
set_option maxRecDepth 100000 in
theorem shardlogref19_Same.calls (k : Nat) (a0_0 : Int) (a0_1 : Int) (a0_2 : Int) (a0_3 : Int) (a0_4 : Int) (a0_5 : Int) (a0_6 : Int) (a0_7 : Int) (a0_8 : Bool) (a0_9 : ByteArray) (A0_10 : Option Addr) (c0_10 : Nat) (l0_10 : List (S23)) (a1_0 : Int) (a1_1 : Int) (a1_2 : Int) (a1_3 : Int) (a1_4 : Int) (a1_5 : Int) (a1_6 : Int) (a1_7 : Int) (a1_8 : Bool) (a1_9 : ByteArray) (A1_10 : Option Addr) (c1_10 : Nat) (l1_10 : List (S23)) (r : Bool) (w : World) (hr0_10 : Kd.C k23 w A0_10 l0_10.length l0_10) (hc0_10 : l0_10.length ≤ c0_10) (hr1_10 : Kd.C k23 w A1_10 l1_10.length l1_10) (hc1_10 : l1_10.length ≤ c1_10) (h : shardlogref19_Same.f k a0_0 a0_1 a0_2 a0_3 a0_4 a0_5 a0_6 a0_7 a0_8 a0_9 l0_10 a1_0 a1_1 a1_2 a1_3 a1_4 a1_5 a1_6 a1_7 a1_8 a1_9 l1_10 = some r) :
  Calls Try.prog 13 #[.agg #[.int .i64 a0_0, .int .i64 a0_1, .int .i64 a0_2, .int .i64 a0_3, .int .i64 a0_4, .int .i64 a0_5, .int .i64 a0_6, .int .i64 a0_7, .bool a0_8, .string a0_9, .slice A0_10 l0_10.length c0_10], .agg #[.int .i64 a1_0, .int .i64 a1_1, .int .i64 a1_2, .int .i64 a1_3, .int .i64 a1_4, .int .i64 a1_5, .int .i64 a1_6, .int .i64 a1_7, .bool a1_8, .string a1_9, .slice A1_10 l1_10.length c1_10]] w fun e w' => e = .returned (.bool r) ∧ Below w.heap.size w w' := by
 have hu26 := Try.underlying26; have hu23 := Try.underlying23
 have HR0_10 := aS hr0_10
 have HC0_10 := aS hc0_10
 clear hr0_10 hc0_10
 have HR1_10 := aS hr1_10
 have HC1_10 := aS hc1_10
 clear hr1_10 hc1_10
 have HB := aS (Below.refl w.heap.size w)
 have H : (if a0_0 = a1_0 then (if a0_1 = a1_1 then (if a0_2 = a1_2 then (if a0_3 = a1_3 then (if a0_4 = a1_4 then (if (a0_5 == a1_5 && (a0_6 == a1_6 && (a0_7 == a1_7 && (a0_8 == a1_8 && (a0_9.toList == a1_9.toList))))) = true then ((shardlogref17_Same.f k l0_10 l1_10).bind fun t415 => (some t415)) else (some false)) else (some false)) else (some false)) else (some false)) else (some false)) else (some false)) = some r := h
 clear h
 by_cases c3 : a0_0 = a1_0
 ·
  rw [if_pos c3] at H
  obtain ⟨c3b0, c3b1⟩ := eqT c3
  clear c3
  by_cases c4 : a0_1 = a1_1
  ·
   rw [if_pos c4] at H
   obtain ⟨c4b0, c4b1⟩ := eqT c4
   clear c4
   by_cases c5 : a0_2 = a1_2
   ·
    rw [if_pos c5] at H
    obtain ⟨c5b0, c5b1⟩ := eqT c5
    clear c5
    by_cases c6 : a0_3 = a1_3
    ·
     rw [if_pos c6] at H
     obtain ⟨c6b0, c6b1⟩ := eqT c6
     clear c6
     by_cases c7 : a0_4 = a1_4
     ·
      rw [if_pos c7] at H
      obtain ⟨c7b0, c7b1⟩ := eqT c7
      clear c7
      by_cases c8 : (a0_5 == a1_5 && (a0_6 == a1_6 && (a0_7 == a1_7 && (a0_8 == a1_8 && (a0_9.toList == a1_9.toList))))) = true
      ·
       rw [if_pos c8] at H
       have c8b0 : (a0_5 == a1_5 && (a0_6 == a1_6 && (a0_7 == a1_7 && (a0_8 == a1_8 && (a0_9.toList == a1_9.toList))))) = true := c8
       (try (have c8b1 : decide (a0_5 = a1_5 && (a0_6 == a1_6 && (a0_7 == a1_7 && (a0_8 == a1_8 && (a0_9.toList == a1_9.toList))))) = true := by simpa using c8))
       (try (have c8b2 : (a0_5 == a1_5 && (a0_6 == a1_6 && (a0_7 == a1_7 && (a0_8 == a1_8 && (a0_9.toList == a1_9.toList))))) = true := by simpa using c8))
       (try (have c8b3 : decide (a0_5 = a1_5 ∧ a0_6 = a1_6 ∧ a0_7 = a1_7 ∧ a0_8 = a1_8 ∧ a0_9.toList = a1_9.toList) = true := by simpa using c8))
       clear c8
       replace H := obm H
       obtain ⟨t415, A90, H⟩ := H
       replace H : (some t415) = some r := H
       have A9 := aS A90
       clear A90
       obtain rfl := Option.some.inj H
       go_enter Try.func13, Try.ntmps13
       go_wp2_with (first | ((with_reducible refine gate_dst (N := 2) rfl ?_); refine box_event ?hg (N := 2) ?hd (cs := #[.int .i64 a0_0, .int .i64 a0_1, .int .i64 a0_2, .int .i64 a0_3, .int .i64 a0_4, .int .i64 a0_5, .int .i64 a0_6, .int .i64 a0_7, .bool a0_8, .string a0_9, .slice A0_10 l0_10.length c0_10]) (t := 26) ?hr ?_; (case hd => rfl); (case hg => rfl); (case hr => first | (go_simp; done) | (go_simp; rfl)); intro gb413 hg w10 hbox hb; have n0_ := bstep hb; have n1_ := aS (hbox); have n2_ := bsize hg; have n3_ := bsize hg; clear HB; have HB := n0_; have BK413 := n1_; have GW413 := n2_; have GE413 := n3_; clear n0_ n1_ n2_ n3_; clear hb hbox hg) | ((with_reducible refine gate_dst (N := 3) rfl ?_); refine box_event ?hg (N := 3) ?hd (cs := #[.int .i64 a1_0, .int .i64 a1_1, .int .i64 a1_2, .int .i64 a1_3, .int .i64 a1_4, .int .i64 a1_5, .int .i64 a1_6, .int .i64 a1_7, .bool a1_8, .string a1_9, .slice A1_10 l1_10.length c1_10]) (t := 26) ?hr ?_; (case hd => rfl); (case hg => rfl); (case hr => first | (go_simp; done) | (go_simp; rfl)); intro gb414 hg w11 hbox hb; have n0_ := aS (blk_below (g := gb413) (o := .cells #[.int .i64 a0_0, .int .i64 a0_1, .int .i64 a0_2, .int .i64 a0_3, .int .i64 a0_4, .int .i64 a0_5, .int .i64 a0_6, .int .i64 a0_7, .bool a0_8, .string a0_9, .slice A0_10 l0_10.length c0_10] 26 (0, 0)) (bkl BK413.out) hb); have n1_ := bstep hb; have n2_ := aS (hbox); have n3_ := bsize hg; have n4_ := bsize hg; have n5_ := aS ((by rw [hg]; exact Nat.ne_of_lt (blk_lt (g := gb413) (o := .cells #[.int .i64 a0_0, .int .i64 a0_1, .int .i64 a0_2, .int .i64 a0_3, .int .i64 a0_4, .int .i64 a0_5, .int .i64 a0_6, .int .i64 a0_7, .bool a0_8, .string a0_9, .slice A0_10 l0_10.length c0_10] 26 (0, 0)) (bkl BK413.out)) : gb413 ≠ gb414)); have n6_ := aS ((by rw [hg]; exact Nat.ne_of_gt (blk_lt (g := gb413) (o := .cells #[.int .i64 a0_0, .int .i64 a0_1, .int .i64 a0_2, .int .i64 a0_3, .int .i64 a0_4, .int .i64 a0_5, .int .i64 a0_6, .int .i64 a0_7, .bool a0_8, .string a0_9, .slice A0_10 l0_10.length c0_10] 26 (0, 0)) (bkl BK413.out)) : gb414 ≠ gb413)); clear BK413; clear HB; have BK413 := n0_; have HB := n1_; have BK414 := n2_; have GW414 := n3_; have GE414 := n4_; have NB413_414 := n5_; have NB414_413 := n6_; clear n0_ n1_ n2_ n3_ n4_ n5_ n6_; clear hb hbox hg; have hnb12 := NB413_414.out; have hnc12 := NB414_413.out; have hcz13 := cK11 BK413; have hcz14 := cK11 BK414) | (go_at_call 28; (with_reducible refine (shardlogref17_Same.calls k _ _ l0_10 _ _ l1_10 t415 _ ?side1 ?side2 ?side3 ?side4 A9.out).mono ?_); (case side1 => exact cel (Kd.C_below HR0_10.out HB.out)); (case side2 => exact HC0_10.out); (case side3 => exact cel (Kd.C_below HR1_10.out HB.out)); (case side4 => exact HC1_10.out); rintro e w' ⟨rfl, ⟨nd, rfl⟩⟩))
       all_goals (try (rename_i hz_; first | exact absurd (odt c8b3) hz_))
       go_ret
       exact ⟨rf3, bel⟩
      ·
       rw [if_neg c8] at H
       have c8b0 : (a0_5 == a1_5 && (a0_6 == a1_6 && (a0_7 == a1_7 && (a0_8 == a1_8 && (a0_9.toList == a1_9.toList))))) = false := by simpa using c8
       (try (have c8b1 : decide (a0_5 = a1_5 && (a0_6 == a1_6 && (a0_7 == a1_7 && (a0_8 == a1_8 && (a0_9.toList == a1_9.toList))))) = false := by simpa using c8))
       (try (have c8b2 : (a0_5 == a1_5 && (a0_6 == a1_6 && (a0_7 == a1_7 && (a0_8 == a1_8 && (a0_9.toList == a1_9.toList))))) = false := by simpa using c8))
       (try (have c8b3 : ¬ (a0_5 = a1_5 && (a0_6 == a1_6 && (a0_7 == a1_7 && (a0_8 == a1_8 && (a0_9.toList == a1_9.toList))))) := by simpa using c8))
       (try (have c8b4 : decide (a0_5 = a1_5 ∧ a0_6 = a1_6 ∧ a0_7 = a1_7 ∧ a0_8 = a1_8 ∧ a0_9.toList = a1_9.toList) = false := by simpa using c8))
       clear c8
       obtain rfl := Option.some.inj H
       go_enter Try.func13, Try.ntmps13
       go_wp2_with (first | ((with_reducible refine gate_dst (N := 2) rfl ?_); refine box_event ?hg (N := 2) ?hd (cs := #[.int .i64 a0_0, .int .i64 a0_1, .int .i64 a0_2, .int .i64 a0_3, .int .i64 a0_4, .int .i64 a0_5, .int .i64 a0_6, .int .i64 a0_7, .bool a0_8, .string a0_9, .slice A0_10 l0_10.length c0_10]) (t := 26) ?hr ?_; (case hd => rfl); (case hg => rfl); (case hr => first | (go_simp; done) | (go_simp; rfl)); intro gb413 hg w15 hbox hb; have n0_ := bstep hb; have n1_ := aS (hbox); have n2_ := bsize hg; have n3_ := bsize hg; clear HB; have HB := n0_; have BK413 := n1_; have GW413 := n2_; have GE413 := n3_; clear n0_ n1_ n2_ n3_; clear hb hbox hg) | ((with_reducible refine gate_dst (N := 3) rfl ?_); refine box_event ?hg (N := 3) ?hd (cs := #[.int .i64 a1_0, .int .i64 a1_1, .int .i64 a1_2, .int .i64 a1_3, .int .i64 a1_4, .int .i64 a1_5, .int .i64 a1_6, .int .i64 a1_7, .bool a1_8, .string a1_9, .slice A1_10 l1_10.length c1_10]) (t := 26) ?hr ?_; (case hd => rfl); (case hg => rfl); (case hr => first | (go_simp; done) | (go_simp; rfl)); intro gb414 hg w16 hbox hb; have n0_ := aS (blk_below (g := gb413) (o := .cells #[.int .i64 a0_0, .int .i64 a0_1, .int .i64 a0_2, .int .i64 a0_3, .int .i64 a0_4, .int .i64 a0_5, .int .i64 a0_6, .int .i64 a0_7, .bool a0_8, .string a0_9, .slice A0_10 l0_10.length c0_10] 26 (0, 0)) (bkl BK413.out) hb); have n1_ := bstep hb; have n2_ := aS (hbox); have n3_ := bsize hg; have n4_ := bsize hg; have n5_ := aS ((by rw [hg]; exact Nat.ne_of_lt (blk_lt (g := gb413) (o := .cells #[.int .i64 a0_0, .int .i64 a0_1, .int .i64 a0_2, .int .i64 a0_3, .int .i64 a0_4, .int .i64 a0_5, .int .i64 a0_6, .int .i64 a0_7, .bool a0_8, .string a0_9, .slice A0_10 l0_10.length c0_10] 26 (0, 0)) (bkl BK413.out)) : gb413 ≠ gb414)); have n6_ := aS ((by rw [hg]; exact Nat.ne_of_gt (blk_lt (g := gb413) (o := .cells #[.int .i64 a0_0, .int .i64 a0_1, .int .i64 a0_2, .int .i64 a0_3, .int .i64 a0_4, .int .i64 a0_5, .int .i64 a0_6, .int .i64 a0_7, .bool a0_8, .string a0_9, .slice A0_10 l0_10.length c0_10] 26 (0, 0)) (bkl BK413.out)) : gb414 ≠ gb413)); clear BK413; clear HB; have BK413 := n0_; have HB := n1_; have BK414 := n2_; have GW414 := n3_; have GE414 := n4_; have NB413_414 := n5_; have NB414_413 := n6_; clear n0_ n1_ n2_ n3_ n4_ n5_ n6_; clear hb hbox hg; have hnb17 := NB413_414.out; have hnc17 := NB414_413.out; have hcz18 := cK11 BK413; have hcz19 := cK11 BK414))
       all_goals (try (rename_i hz_; first | exact absurd hz_ (of_decide_eq_false c8b4)))
       go_ret
       exact ⟨rf3, bel⟩
     ·
      rw [if_neg c7] at H
      obtain ⟨c7b0, c7b1⟩ := eqF c7
      obtain rfl := Option.some.inj H
      go_enter Try.func13, Try.ntmps13
      go_wp2_with (first | ((with_reducible refine gate_dst (N := 2) rfl ?_); refine box_event ?hg (N := 2) ?hd (cs := #[.int .i64 a0_0, .int .i64 a0_1, .int .i64 a0_2, .int .i64 a0_3, .int .i64 a0_4, .int .i64 a0_5, .int .i64 a0_6, .int .i64 a0_7, .bool a0_8, .string a0_9, .slice A0_10 l0_10.length c0_10]) (t := 26) ?hr ?_; (case hd => rfl); (case hg => rfl); (case hr => first | (go_simp; done) | (go_simp; rfl)); intro gb413 hg w20 hbox hb; have n0_ := bstep hb; have n1_ := aS (hbox); have n2_ := bsize hg; have n3_ := bsize hg; clear HB; have HB := n0_; have BK413 := n1_; have GW413 := n2_; have GE413 := n3_; clear n0_ n1_ n2_ n3_; clear hb hbox hg) | ((with_reducible refine gate_dst (N := 3) rfl ?_); refine box_event ?hg (N := 3) ?hd (cs := #[.int .i64 a1_0, .int .i64 a1_1, .int .i64 a1_2, .int .i64 a1_3, .int .i64 a1_4, .int .i64 a1_5, .int .i64 a1_6, .int .i64 a1_7, .bool a1_8, .string a1_9, .slice A1_10 l1_10.length c1_10]) (t := 26) ?hr ?_; (case hd => rfl); (case hg => rfl); (case hr => first | (go_simp; done) | (go_simp; rfl)); intro gb414 hg w21 hbox hb; have n0_ := aS (blk_below (g := gb413) (o := .cells #[.int .i64 a0_0, .int .i64 a0_1, .int .i64 a0_2, .int .i64 a0_3, .int .i64 a0_4, .int .i64 a0_5, .int .i64 a0_6, .int .i64 a0_7, .bool a0_8, .string a0_9, .slice A0_10 l0_10.length c0_10] 26 (0, 0)) (bkl BK413.out) hb); have n1_ := bstep hb; have n2_ := aS (hbox); have n3_ := bsize hg; have n4_ := bsize hg; have n5_ := aS ((by rw [hg]; exact Nat.ne_of_lt (blk_lt (g := gb413) (o := .cells #[.int .i64 a0_0, .int .i64 a0_1, .int .i64 a0_2, .int .i64 a0_3, .int .i64 a0_4, .int .i64 a0_5, .int .i64 a0_6, .int .i64 a0_7, .bool a0_8, .string a0_9, .slice A0_10 l0_10.length c0_10] 26 (0, 0)) (bkl BK413.out)) : gb413 ≠ gb414)); have n6_ := aS ((by rw [hg]; exact Nat.ne_of_gt (blk_lt (g := gb413) (o := .cells #[.int .i64 a0_0, .int .i64 a0_1, .int .i64 a0_2, .int .i64 a0_3, .int .i64 a0_4, .int .i64 a0_5, .int .i64 a0_6, .int .i64 a0_7, .bool a0_8, .string a0_9, .slice A0_10 l0_10.length c0_10] 26 (0, 0)) (bkl BK413.out)) : gb414 ≠ gb413)); clear BK413; clear HB; have BK413 := n0_; have HB := n1_; have BK414 := n2_; have GW414 := n3_; have GE414 := n4_; have NB413_414 := n5_; have NB414_413 := n6_; clear n0_ n1_ n2_ n3_ n4_ n5_ n6_; clear hb hbox hg; have hnb22 := NB413_414.out; have hnc22 := NB414_413.out; have hcz23 := cK11 BK413; have hcz24 := cK11 BK414))
      go_ret
      exact ⟨rf3, bel⟩
    ·
     rw [if_neg c6] at H
     obtain ⟨c6b0, c6b1⟩ := eqF c6
     obtain rfl := Option.some.inj H
     go_enter Try.func13, Try.ntmps13
     go_wp2_with (first | ((with_reducible refine gate_dst (N := 2) rfl ?_); refine box_event ?hg (N := 2) ?hd (cs := #[.int .i64 a0_0, .int .i64 a0_1, .int .i64 a0_2, .int .i64 a0_3, .int .i64 a0_4, .int .i64 a0_5, .int .i64 a0_6, .int .i64 a0_7, .bool a0_8, .string a0_9, .slice A0_10 l0_10.length c0_10]) (t := 26) ?hr ?_; (case hd => rfl); (case hg => rfl); (case hr => first | (go_simp; done) | (go_simp; rfl)); intro gb413 hg w25 hbox hb; have n0_ := bstep hb; have n1_ := aS (hbox); have n2_ := bsize hg; have n3_ := bsize hg; clear HB; have HB := n0_; have BK413 := n1_; have GW413 := n2_; have GE413 := n3_; clear n0_ n1_ n2_ n3_; clear hb hbox hg) | ((with_reducible refine gate_dst (N := 3) rfl ?_); refine box_event ?hg (N := 3) ?hd (cs := #[.int .i64 a1_0, .int .i64 a1_1, .int .i64 a1_2, .int .i64 a1_3, .int .i64 a1_4, .int .i64 a1_5, .int .i64 a1_6, .int .i64 a1_7, .bool a1_8, .string a1_9, .slice A1_10 l1_10.length c1_10]) (t := 26) ?hr ?_; (case hd => rfl); (case hg => rfl); (case hr => first | (go_simp; done) | (go_simp; rfl)); intro gb414 hg w26 hbox hb; have n0_ := aS (blk_below (g := gb413) (o := .cells #[.int .i64 a0_0, .int .i64 a0_1, .int .i64 a0_2, .int .i64 a0_3, .int .i64 a0_4, .int .i64 a0_5, .int .i64 a0_6, .int .i64 a0_7, .bool a0_8, .string a0_9, .slice A0_10 l0_10.length c0_10] 26 (0, 0)) (bkl BK413.out) hb); have n1_ := bstep hb; have n2_ := aS (hbox); have n3_ := bsize hg; have n4_ := bsize hg; have n5_ := aS ((by rw [hg]; exact Nat.ne_of_lt (blk_lt (g := gb413) (o := .cells #[.int .i64 a0_0, .int .i64 a0_1, .int .i64 a0_2, .int .i64 a0_3, .int .i64 a0_4, .int .i64 a0_5, .int .i64 a0_6, .int .i64 a0_7, .bool a0_8, .string a0_9, .slice A0_10 l0_10.length c0_10] 26 (0, 0)) (bkl BK413.out)) : gb413 ≠ gb414)); have n6_ := aS ((by rw [hg]; exact Nat.ne_of_gt (blk_lt (g := gb413) (o := .cells #[.int .i64 a0_0, .int .i64 a0_1, .int .i64 a0_2, .int .i64 a0_3, .int .i64 a0_4, .int .i64 a0_5, .int .i64 a0_6, .int .i64 a0_7, .bool a0_8, .string a0_9, .slice A0_10 l0_10.length c0_10] 26 (0, 0)) (bkl BK413.out)) : gb414 ≠ gb413)); clear BK413; clear HB; have BK413 := n0_; have HB := n1_; have BK414 := n2_; have GW414 := n3_; have GE414 := n4_; have NB413_414 := n5_; have NB414_413 := n6_; clear n0_ n1_ n2_ n3_ n4_ n5_ n6_; clear hb hbox hg; have hnb27 := NB413_414.out; have hnc27 := NB414_413.out; have hcz28 := cK11 BK413; have hcz29 := cK11 BK414))
     go_ret
     exact ⟨rf3, bel⟩
   ·
    rw [if_neg c5] at H
    obtain ⟨c5b0, c5b1⟩ := eqF c5
    obtain rfl := Option.some.inj H
    go_enter Try.func13, Try.ntmps13
    go_wp2_with (first | ((with_reducible refine gate_dst (N := 2) rfl ?_); refine box_event ?hg (N := 2) ?hd (cs := #[.int .i64 a0_0, .int .i64 a0_1, .int .i64 a0_2, .int .i64 a0_3, .int .i64 a0_4, .int .i64 a0_5, .int .i64 a0_6, .int .i64 a0_7, .bool a0_8, .string a0_9, .slice A0_10 l0_10.length c0_10]) (t := 26) ?hr ?_; (case hd => rfl); (case hg => rfl); (case hr => first | (go_simp; done) | (go_simp; rfl)); intro gb413 hg w30 hbox hb; have n0_ := bstep hb; have n1_ := aS (hbox); have n2_ := bsize hg; have n3_ := bsize hg; clear HB; have HB := n0_; have BK413 := n1_; have GW413 := n2_; have GE413 := n3_; clear n0_ n1_ n2_ n3_; clear hb hbox hg) | ((with_reducible refine gate_dst (N := 3) rfl ?_); refine box_event ?hg (N := 3) ?hd (cs := #[.int .i64 a1_0, .int .i64 a1_1, .int .i64 a1_2, .int .i64 a1_3, .int .i64 a1_4, .int .i64 a1_5, .int .i64 a1_6, .int .i64 a1_7, .bool a1_8, .string a1_9, .slice A1_10 l1_10.length c1_10]) (t := 26) ?hr ?_; (case hd => rfl); (case hg => rfl); (case hr => first | (go_simp; done) | (go_simp; rfl)); intro gb414 hg w31 hbox hb; have n0_ := aS (blk_below (g := gb413) (o := .cells #[.int .i64 a0_0, .int .i64 a0_1, .int .i64 a0_2, .int .i64 a0_3, .int .i64 a0_4, .int .i64 a0_5, .int .i64 a0_6, .int .i64 a0_7, .bool a0_8, .string a0_9, .slice A0_10 l0_10.length c0_10] 26 (0, 0)) (bkl BK413.out) hb); have n1_ := bstep hb; have n2_ := aS (hbox); have n3_ := bsize hg; have n4_ := bsize hg; have n5_ := aS ((by rw [hg]; exact Nat.ne_of_lt (blk_lt (g := gb413) (o := .cells #[.int .i64 a0_0, .int .i64 a0_1, .int .i64 a0_2, .int .i64 a0_3, .int .i64 a0_4, .int .i64 a0_5, .int .i64 a0_6, .int .i64 a0_7, .bool a0_8, .string a0_9, .slice A0_10 l0_10.length c0_10] 26 (0, 0)) (bkl BK413.out)) : gb413 ≠ gb414)); have n6_ := aS ((by rw [hg]; exact Nat.ne_of_gt (blk_lt (g := gb413) (o := .cells #[.int .i64 a0_0, .int .i64 a0_1, .int .i64 a0_2, .int .i64 a0_3, .int .i64 a0_4, .int .i64 a0_5, .int .i64 a0_6, .int .i64 a0_7, .bool a0_8, .string a0_9, .slice A0_10 l0_10.length c0_10] 26 (0, 0)) (bkl BK413.out)) : gb414 ≠ gb413)); clear BK413; clear HB; have BK413 := n0_; have HB := n1_; have BK414 := n2_; have GW414 := n3_; have GE414 := n4_; have NB413_414 := n5_; have NB414_413 := n6_; clear n0_ n1_ n2_ n3_ n4_ n5_ n6_; clear hb hbox hg; have hnb32 := NB413_414.out; have hnc32 := NB414_413.out; have hcz33 := cK11 BK413; have hcz34 := cK11 BK414))
    go_ret
    exact ⟨rf3, bel⟩
  ·
   rw [if_neg c4] at H
   obtain ⟨c4b0, c4b1⟩ := eqF c4
   obtain rfl := Option.some.inj H
   go_enter Try.func13, Try.ntmps13
   go_wp2_with (first | ((with_reducible refine gate_dst (N := 2) rfl ?_); refine box_event ?hg (N := 2) ?hd (cs := #[.int .i64 a0_0, .int .i64 a0_1, .int .i64 a0_2, .int .i64 a0_3, .int .i64 a0_4, .int .i64 a0_5, .int .i64 a0_6, .int .i64 a0_7, .bool a0_8, .string a0_9, .slice A0_10 l0_10.length c0_10]) (t := 26) ?hr ?_; (case hd => rfl); (case hg => rfl); (case hr => first | (go_simp; done) | (go_simp; rfl)); intro gb413 hg w35 hbox hb; have n0_ := bstep hb; have n1_ := aS (hbox); have n2_ := bsize hg; have n3_ := bsize hg; clear HB; have HB := n0_; have BK413 := n1_; have GW413 := n2_; have GE413 := n3_; clear n0_ n1_ n2_ n3_; clear hb hbox hg) | ((with_reducible refine gate_dst (N := 3) rfl ?_); refine box_event ?hg (N := 3) ?hd (cs := #[.int .i64 a1_0, .int .i64 a1_1, .int .i64 a1_2, .int .i64 a1_3, .int .i64 a1_4, .int .i64 a1_5, .int .i64 a1_6, .int .i64 a1_7, .bool a1_8, .string a1_9, .slice A1_10 l1_10.length c1_10]) (t := 26) ?hr ?_; (case hd => rfl); (case hg => rfl); (case hr => first | (go_simp; done) | (go_simp; rfl)); intro gb414 hg w36 hbox hb; have n0_ := aS (blk_below (g := gb413) (o := .cells #[.int .i64 a0_0, .int .i64 a0_1, .int .i64 a0_2, .int .i64 a0_3, .int .i64 a0_4, .int .i64 a0_5, .int .i64 a0_6, .int .i64 a0_7, .bool a0_8, .string a0_9, .slice A0_10 l0_10.length c0_10] 26 (0, 0)) (bkl BK413.out) hb); have n1_ := bstep hb; have n2_ := aS (hbox); have n3_ := bsize hg; have n4_ := bsize hg; have n5_ := aS ((by rw [hg]; exact Nat.ne_of_lt (blk_lt (g := gb413) (o := .cells #[.int .i64 a0_0, .int .i64 a0_1, .int .i64 a0_2, .int .i64 a0_3, .int .i64 a0_4, .int .i64 a0_5, .int .i64 a0_6, .int .i64 a0_7, .bool a0_8, .string a0_9, .slice A0_10 l0_10.length c0_10] 26 (0, 0)) (bkl BK413.out)) : gb413 ≠ gb414)); have n6_ := aS ((by rw [hg]; exact Nat.ne_of_gt (blk_lt (g := gb413) (o := .cells #[.int .i64 a0_0, .int .i64 a0_1, .int .i64 a0_2, .int .i64 a0_3, .int .i64 a0_4, .int .i64 a0_5, .int .i64 a0_6, .int .i64 a0_7, .bool a0_8, .string a0_9, .slice A0_10 l0_10.length c0_10] 26 (0, 0)) (bkl BK413.out)) : gb414 ≠ gb413)); clear BK413; clear HB; have BK413 := n0_; have HB := n1_; have BK414 := n2_; have GW414 := n3_; have GE414 := n4_; have NB413_414 := n5_; have NB414_413 := n6_; clear n0_ n1_ n2_ n3_ n4_ n5_ n6_; clear hb hbox hg; have hnb37 := NB413_414.out; have hnc37 := NB414_413.out; have hcz38 := cK11 BK413; have hcz39 := cK11 BK414))
   go_ret
   exact ⟨rf3, bel⟩
 ·
  rw [if_neg c3] at H
  obtain ⟨c3b0, c3b1⟩ := eqF c3
  obtain rfl := Option.some.inj H
  go_enter Try.func13, Try.ntmps13
  go_wp2_with (first | ((with_reducible refine gate_dst (N := 2) rfl ?_); refine box_event ?hg (N := 2) ?hd (cs := #[.int .i64 a0_0, .int .i64 a0_1, .int .i64 a0_2, .int .i64 a0_3, .int .i64 a0_4, .int .i64 a0_5, .int .i64 a0_6, .int .i64 a0_7, .bool a0_8, .string a0_9, .slice A0_10 l0_10.length c0_10]) (t := 26) ?hr ?_; (case hd => rfl); (case hg => rfl); (case hr => first | (go_simp; done) | (go_simp; rfl)); intro gb413 hg w40 hbox hb; have n0_ := bstep hb; have n1_ := aS (hbox); have n2_ := bsize hg; have n3_ := bsize hg; clear HB; have HB := n0_; have BK413 := n1_; have GW413 := n2_; have GE413 := n3_; clear n0_ n1_ n2_ n3_; clear hb hbox hg) | ((with_reducible refine gate_dst (N := 3) rfl ?_); refine box_event ?hg (N := 3) ?hd (cs := #[.int .i64 a1_0, .int .i64 a1_1, .int .i64 a1_2, .int .i64 a1_3, .int .i64 a1_4, .int .i64 a1_5, .int .i64 a1_6, .int .i64 a1_7, .bool a1_8, .string a1_9, .slice A1_10 l1_10.length c1_10]) (t := 26) ?hr ?_; (case hd => rfl); (case hg => rfl); (case hr => first | (go_simp; done) | (go_simp; rfl)); intro gb414 hg w41 hbox hb; have n0_ := aS (blk_below (g := gb413) (o := .cells #[.int .i64 a0_0, .int .i64 a0_1, .int .i64 a0_2, .int .i64 a0_3, .int .i64 a0_4, .int .i64 a0_5, .int .i64 a0_6, .int .i64 a0_7, .bool a0_8, .string a0_9, .slice A0_10 l0_10.length c0_10] 26 (0, 0)) (bkl BK413.out) hb); have n1_ := bstep hb; have n2_ := aS (hbox); have n3_ := bsize hg; have n4_ := bsize hg; have n5_ := aS ((by rw [hg]; exact Nat.ne_of_lt (blk_lt (g := gb413) (o := .cells #[.int .i64 a0_0, .int .i64 a0_1, .int .i64 a0_2, .int .i64 a0_3, .int .i64 a0_4, .int .i64 a0_5, .int .i64 a0_6, .int .i64 a0_7, .bool a0_8, .string a0_9, .slice A0_10 l0_10.length c0_10] 26 (0, 0)) (bkl BK413.out)) : gb413 ≠ gb414)); have n6_ := aS ((by rw [hg]; exact Nat.ne_of_gt (blk_lt (g := gb413) (o := .cells #[.int .i64 a0_0, .int .i64 a0_1, .int .i64 a0_2, .int .i64 a0_3, .int .i64 a0_4, .int .i64 a0_5, .int .i64 a0_6, .int .i64 a0_7, .bool a0_8, .string a0_9, .slice A0_10 l0_10.length c0_10] 26 (0, 0)) (bkl BK413.out)) : gb414 ≠ gb413)); clear BK413; clear HB; have BK413 := n0_; have HB := n1_; have BK414 := n2_; have GW414 := n3_; have GE414 := n4_; have NB413_414 := n5_; have NB414_413 := n6_; clear n0_ n1_ n2_ n3_ n4_ n5_ n6_; clear hb hbox hg; have hnb42 := NB413_414.out; have hnc42 := NB414_413.out; have hcz43 := cK11 BK413; have hcz44 := cK11 BK414))
  go_ret
  exact ⟨rf3, bel⟩

/-! ### shardloglaw19_MsgBack: function 4 -/
def shardloglaw19_MsgBack.tail (k : Nat) (b : List Int) (a1 a2 : Int) : Option Bool :=
 if (b.length : Int) = 0 then none else if 0 ≤ Int.tmod (wrap64 a1) b.length ∧ Int.tmod (wrap64 a1) b.length < (b.length : Int) then (msg_Get.f k (b.take (Int.tmod (wrap64 a1) b.length).toNat)).bind fun g => (msg_Get.f k (b.set (Int.tmod (wrap64 a1) b.length).toNat (Go.bits .xor .u8 (rd b (Int.tmod (wrap64 a1) b.length)) a2))).bind fun h => some (decide (g.2.2.2.2.2.2.2.2.2.2.2 = 2) && ((h.2.2.2.2.2.2.2.2.2.2.2 == 0) == (a2 == 0))) else none
def shardloglaw19_MsgBack.f (k : Nat) (a0_0 : Int) (a0_1 : Int) (a0_2 : Int) (a0_3 : Int) (a0_4 : Int) (a0_5 : Int) (a0_6 : Int) (a0_7 : Int) (a0_8 : Bool) (a0_9 : ByteArray) (l0_10 : List S23) (a1 a2 : Int) : Option Bool :=
 (shardloglaw19_awake.f k).bind fun t => if t = true then (shardlogref19_Small.f k a0_0 a0_1 a0_2 a0_3 a0_4 a0_5 a0_6 a0_7 a0_8 a0_9 l0_10).bind fun u => if u = true then (msg_Put.f k a0_0 a0_1 a0_2 a0_3 a0_4 a0_5 a0_6 a0_7 a0_8 a0_9 l0_10).bind fun p => if p.2 = 0 then (msg_Get.f k p.1).bind fun g => if g.2.2.2.2.2.2.2.2.2.2.2 = 0 then (shardlogref19_Same.f k a0_0 a0_1 a0_2 a0_3 a0_4 a0_5 a0_6 a0_7 a0_8 a0_9 l0_10 g.1 g.2.1 g.2.2.1 g.2.2.2.1 g.2.2.2.2.1 g.2.2.2.2.2.1 g.2.2.2.2.2.2.1 g.2.2.2.2.2.2.2.1 g.2.2.2.2.2.2.2.2.1 g.2.2.2.2.2.2.2.2.2.1 g.2.2.2.2.2.2.2.2.2.2.1).bind fun q => if q = true then shardloglaw19_MsgBack.tail k p.1 a1 a2 else none else none else some true else some true else some false
theorem shardloglaw19_MsgBack.tail_mono (k b a1 a2) : LeO (shardloglaw19_MsgBack.tail k b a1 a2) (shardloglaw19_MsgBack.tail (k + 1) b a1 a2) :=
 LeO.ite (LeO.refl _) (LeO.ite (LeO.bind (msg_Get.mono _ _) fun _ => LeO.bind (msg_Get.mono _ _) fun _ => LeO.refl _) (LeO.refl _))
theorem shardloglaw19_MsgBack.mono : ∀ a0_0 a0_1 a0_2 a0_3 a0_4 a0_5 a0_6 a0_7 a0_8 a0_9 l0_10 a1 a2 k, LeO (shardloglaw19_MsgBack.f k a0_0 a0_1 a0_2 a0_3 a0_4 a0_5 a0_6 a0_7 a0_8 a0_9 l0_10 a1 a2) (shardloglaw19_MsgBack.f (k + 1) a0_0 a0_1 a0_2 a0_3 a0_4 a0_5 a0_6 a0_7 a0_8 a0_9 l0_10 a1 a2) := fun a0_0 a0_1 a0_2 a0_3 a0_4 a0_5 a0_6 a0_7 a0_8 a0_9 l0_10 a1 a2 k =>
 LeO.bind (shardloglaw19_awake.mono _) fun _ => LeO.ite (LeO.bind (shardlogref19_Small.mono _ _ _ _ _ _ _ _ _ _ _ _) fun _ => LeO.ite (LeO.bind (msg_Put.mono _ _ _ _ _ _ _ _ _ _ _ _) fun _ => LeO.ite (LeO.bind (msg_Get.mono _ _) fun _ => LeO.ite (LeO.bind (shardlogref19_Same.mono _ _ _ _ _ _ _ _ _ _ _ _ _ _ _ _ _ _ _ _ _ _ _) fun _ => LeO.ite (shardloglaw19_MsgBack.tail_mono _ _ _ _) (LeO.refl _)) (LeO.refl _)) (LeO.refl _)) (LeO.refl _)) (LeO.refl _)
set_option maxHeartbeats 8000000 in
set_option maxRecDepth 100000 in
theorem shardloglaw19_MsgBack.calls (k : Nat) (a0_0 : Int) (a0_1 : Int) (a0_2 : Int) (a0_3 : Int) (a0_4 : Int) (a0_5 : Int) (a0_6 : Int) (a0_7 : Int) (a0_8 : Bool) (a0_9 : ByteArray) (A0 : Option Addr) (c0 : Nat) (l0 : List S23) (a1 a2 : Int) (r : Bool) (w : World) (hr0 : Kd.C k23 w A0 l0.length l0) (hc0 : l0.length ≤ c0) (h : shardloglaw19_MsgBack.f k a0_0 a0_1 a0_2 a0_3 a0_4 a0_5 a0_6 a0_7 a0_8 a0_9 l0 a1 a2 = some r) :
  Calls Try.prog 4 #[.agg #[.int .i64 a0_0, .int .i64 a0_1, .int .i64 a0_2, .int .i64 a0_3, .int .i64 a0_4, .int .i64 a0_5, .int .i64 a0_6, .int .i64 a0_7, .bool a0_8, .string a0_9, .slice A0 l0.length c0], .int .u16 a1, .int .u8 a2] w fun e w' => e = .returned (.bool r) ∧ Below w.heap.size w w' := by
 have hu26 := Try.underlying26; have hu23 := Try.underlying23
 have HR0 := aS hr0
 have HC0 := aS hc0
 have HB := aS (Below.refl w.heap.size w)
 have H := aS h
 clear hr0 hc0 h
 go_enter Try.func4, Try.ntmps4
 go_upto_region 1 with ((with_reducible refine gate_dst (N := 3) rfl ?_); refine box_event ?hg (N := 3) ?hd (cs := #[.int .i64 a0_0, .int .i64 a0_1, .int .i64 a0_2, .int .i64 a0_3, .int .i64 a0_4, .int .i64 a0_5, .int .i64 a0_6, .int .i64 a0_7, .bool a0_8, .string a0_9, .slice A0 l0.length c0]) (t := 26) ?hr ?_; (case hd => rfl); (case hg => rfl); (case hr => (first | (go_simp; done) | (go_simp; rfl))); intro p3 hg w1 hb hbl; have BK := aS hb; have n_ := aS (below_step HB.out hbl); clear HB; have HB := n_; clear n_; clear hg hb hbl; have q3 := cK11 BK)
 have h := H.out
 unfold shardloglaw19_MsgBack.f at h
 clear H
 replace h := obm h
 obtain ⟨t, x1, h⟩ := h
 have X1 := aS x1
 clear x1
 cases t with
 | false =>
  rw [if_neg Bool.false_ne_true] at h
  obtain rfl := Option.some.inj h
  clear h
  go_wp2_with (go_at_call 7; (with_reducible refine (shardloglaw19_awake.calls k false _ X1.out).mono ?_); rintro e_ w1_ ⟨rfl, hb⟩; have n0_ := aS (blk_below BK.out hb); have n1_ := aS (below_step HB.out hb); clear BK HB; have BK := n0_; have HB := n1_; clear n0_ n1_; clear hb; have q3 := cK11 BK)
  go_ret
  exact ⟨rfl, HB.out⟩
 | true =>
 rw [if_pos rfl] at h
 replace h := obm h
 obtain ⟨u, x2, h⟩ := h
 have X2 := aS x2
 clear x2
 cases u with
 | false =>
  rw [if_neg Bool.false_ne_true] at h
  obtain rfl := Option.some.inj h
  clear h
  go_wp2_with (first | (go_at_call 7; (with_reducible refine (shardloglaw19_awake.calls k true _ X1.out).mono ?_); rintro e_ w1_ ⟨rfl, hb⟩; have n0_ := aS (blk_below BK.out hb); have n1_ := aS (below_step HB.out hb); clear BK HB; have BK := n0_; have HB := n1_; clear n0_ n1_; clear hb; have q3 := cK11 BK) | (go_at_call 8; (with_reducible refine (shardlogref19_Small.calls k a0_0 a0_1 a0_2 a0_3 a0_4 a0_5 a0_6 a0_7 a0_8 a0_9 A0 c0 l0 false _ (Kd.C_below HR0.out HB.out) HC0.out X2.out).mono ?_); rintro e_ w1_ ⟨rfl, hb⟩; have n0_ := aS (blk_below BK.out hb); have n1_ := aS (below_step HB.out hb); clear BK HB; have BK := n0_; have HB := n1_; clear n0_ n1_; clear hb; have q3 := cK11 BK))
  go_ret
  exact ⟨rfl, HB.out⟩
 | true =>
 rw [if_pos rfl] at h
 replace h := obm h
 obtain ⟨⟨b, e⟩, x3, h⟩ := h
 have X3 := aS x3
 clear x3
 have H := aS h
 clear h
 go_upto_region 4 with (first | (go_at_call 7; (with_reducible refine (shardloglaw19_awake.calls k true _ X1.out).mono ?_); rintro e_ w1_ ⟨rfl, hb⟩; have n0_ := aS (blk_below BK.out hb); have n1_ := aS (below_step HB.out hb); clear BK HB; have BK := n0_; have HB := n1_; clear n0_ n1_; clear hb; have q3 := cK11 BK) | (go_at_call 8; (with_reducible refine (shardlogref19_Small.calls k a0_0 a0_1 a0_2 a0_3 a0_4 a0_5 a0_6 a0_7 a0_8 a0_9 A0 c0 l0 true _ (Kd.C_below HR0.out HB.out) HC0.out X2.out).mono ?_); rintro e_ w1_ ⟨rfl, hb⟩; have n0_ := aS (blk_below BK.out hb); have n1_ := aS (below_step HB.out hb); clear BK HB; have BK := n0_; have HB := n1_; clear n0_ n1_; clear hb; have q3 := cK11 BK) | (go_at_call 9; (with_reducible refine (msg_Put.calls k a0_0 a0_1 a0_2 a0_3 a0_4 a0_5 a0_6 a0_7 a0_8 a0_9 A0 c0 l0 b e _ (Kd.C_below HR0.out HB.out) HC0.out X3.out).mono ?_); rintro e_ w1_ ⟨vp, rfl, ho, hb⟩; have HP := aS (Kd.R_lower ho (below_size HB.out)); have n0_ := aS (blk_below BK.out hb); have n1_ := aS (below_step HB.out hb); clear BK HB; have BK := n0_; have HB := n1_; clear n0_ n1_; clear ho hb))
 have h := H.out; clear H
 by_cases he : e = 0
 rotate_left
 ·
  rw [if_neg he] at h
  obtain rfl := Option.some.inj h
  obtain ⟨he1, he2⟩ := eqF he
  clear he h
  go_wp2_with (fail)
  go_ret
  exact ⟨rfl, HB.out⟩
 rw [if_pos he] at h
 obtain ⟨he1, he2⟩ := eqT he
 replace h := obm h
 obtain ⟨⟨g0, g1, g2, g3, g4, g5, g6, g7, g8, g9, gl, ge⟩, x4, h⟩ := h
 have X4 := aS x4
 clear x4
 have H := aS h
 clear h he
 obtain ⟨Ab, cb, rfl⟩ := Kd.R_slice HP.out
 go_upto_region 7 with (first | (go_at_call 16; (with_reducible refine (msg_Get.calls k Ab cb b g0 g1 g2 g3 g4 g5 g6 g7 g8 g9 gl ge _ (Kd.R_reads' HP.out).2.2 (Kd.R_reads' HP.out).2.1 X4.out).mono ?_); rintro e_ w2 ⟨vg, rfl, ho, hb⟩; obtain ⟨Ag, cg, rfl⟩ := Kd.R_slice ho; have HG := aS (Kd.C_below (Kd.R_reads' ho).2.2 (Below.refl _ _)); have HGc := aS (Kd.R_reads' ho).2.1; have n2_ := aS (Kd.R_below HP.out hb); clear HP; have HP := n2_; clear n2_; have n0_ := aS (blk_below BK.out hb); have n1_ := aS (below_step HB.out hb); clear BK HB; have BK := n0_; have HB := n1_; clear n0_ n1_; clear ho hb) | ((with_reducible refine gate_dst (N := 9) rfl ?_); refine box_event ?hg (N := 9) ?hd (cs := #[.int .i64 0, .int .i64 0, .int .i64 0, .int .i64 0, .int .i64 0, .int .i64 0, .int .i64 0, .int .i64 0, .bool false, .string ⟨#[]⟩, .slice none 0 0]) (t := 26) ?hr ?_; (case hd => rfl); (case hg => rfl); (case hr => (first | (go_simp; done) | (go_simp; rfl))); intro p9 hg w3 hb' hbl; have P9 := aS hg; have B9 := aS hb'; have L9 := aS hbl; clear hg hb' hbl) | ((with_reducible refine gate_store (t := 26) (p := 9) rfl ?_); refine wpList_store_row rfl 26 _ _ rfl p9 #[.int .i64 g0, .int .i64 g1, .int .i64 g2, .int .i64 g3, .int .i64 g4, .int .i64 g5, .int .i64 g6, .int .i64 g7, .bool g8, .string g9, .slice Ag gl.length cg] rfl rfl 26 _ B9.out (by kernel_rfl) rfl (by kernel_rfl) ?_; have S9 := aS (below_setRow L9.out (show w2.heap.size ≤ p9 by rw [P9.out]; exact Nat.le_refl _) #[.int .i64 g0, .int .i64 g1, .int .i64 g2, .int .i64 g3, .int .i64 g4, .int .i64 g5, .int .i64 g6, .int .i64 g7, .bool g8, .string g9, .slice Ag gl.length cg]); have N9 := aS (setRow_heap w3 p9 _ #[.int .i64 g0, .int .i64 g1, .int .i64 g2, .int .i64 g3, .int .i64 g4, .int .i64 g5, .int .i64 g6, .int .i64 g7, .bool g8, .string g9, .slice Ag gl.length cg] _ _ B9.out); clear B9; have B9 := N9; clear N9; have n0_ := aS (Kd.C_below HG.out S9.out); clear HG; have HG := n0_; clear n0_; have n0_ := aS (Kd.R_below HP.out S9.out); clear HP; have HP := n0_; clear n0_; have n0_ := aS (blk_below BK.out S9.out); clear BK; have BK := n0_; clear n0_; have n0_ := aS (below_step HB.out S9.out); clear HB; have HB := n0_; clear n0_; clear S9 L9; generalize World.setRow w3 p9 #[.int .i64 g0, .int .i64 g1, .int .i64 g2, .int .i64 g3, .int .i64 g4, .int .i64 g5, .int .i64 g6, .int .i64 g7, .bool g8, .string g9, .slice Ag gl.length cg] = w4 at B9 HG HP BK HB ⊢))
 have h := H.out; clear H
 by_cases he : ge = 0
 rotate_left
 ·
  rw [if_neg he] at h
  cases h
 rw [if_pos he] at h
 obtain ⟨hg1, hg2⟩ := eqT he
 replace h := obm h
 obtain ⟨q, x5, h⟩ := h
 cases q with
 | false =>
  rw [if_neg Bool.false_ne_true] at h
  cases h
 | true =>
 rw [if_pos rfl] at h
 have X5 := aS x5
 have H := aS h
 clear x5 h he
 have q3 := cK11 BK
 have q9 := cK11 B9
 go_upto_region 9 with (first | (go_at_call 13; (with_reducible refine (shardlogref19_Same.calls k a0_0 a0_1 a0_2 a0_3 a0_4 a0_5 a0_6 a0_7 a0_8 a0_9 A0 c0 l0 g0 g1 g2 g3 g4 g5 g6 g7 g8 g9 Ag cg gl true _ (Kd.C_below HR0.out HB.out) HC0.out HG.out HGc.out X5.out).mono ?_); rintro e_ w5 ⟨rfl, hb⟩; have n2_ := aS (Kd.R_below HP.out hb); clear HP; have HP := n2_; clear n2_; have n0_ := aS (blk_below BK.out hb); have n1_ := aS (below_step HB.out hb); clear BK HB; have BK := n0_; have HB := n1_; clear n0_ n1_; clear hb q3 q9))
 have h := H.out; clear H
 unfold shardloglaw19_MsgBack.tail at h
 by_cases hz : (b.length : Int) = 0
 ·
  rw [if_pos hz] at h
  cases h
 rw [if_neg hz] at h
 obtain ⟨hz1, hz2⟩ := eqF hz
 obtain ⟨j, hj⟩ : ∃ j_ : Int, Int.tmod (wrap64 a1) (b.length : Int) = j_ := ⟨_, rfl⟩
 rw [hj] at h
 by_cases hjj : 0 ≤ j ∧ j < (b.length : Int)
 rotate_left
 ·
  rw [if_neg hjj] at h
  cases h
 rw [if_pos hjj] at h
 have HJ := aS hjj
 replace h := obm h
 obtain ⟨⟨t0, t1, t2, t3, t4, t5, t6, t7, t8, t9, tl, te⟩, x6, h⟩ := h
 replace h := obm h
 obtain ⟨⟨s0, s1, s2, s3, s4, s5, s6, s7, s8, s9, sl, se⟩, x7, h⟩ := h
 have X6 := aS x6
 have X7 := aS x7
 have H := aS h
 clear x6 x7 h hjj
 go_upto_region 10 with (fail)
 obtain ⟨pb, cp, ebf, hpb, _, _⟩ := Kd.R_form HP.out (by omega)
 cases ebf
 obtain ⟨ii, hii, _, hsz, _⟩ := info_parts info5
 have hcut := cut_to (P := Try.prog) 29 5 .i64 Try.underlying29 hii (some ⟨pb, 0, none⟩) b.length cb j HJ.out.1 (by have := HJ.out; omega) (Kd.R_reads' HP.out).2.1
 have HPB := aS hpb
 clear hpb hz hj
 go_upto_region 11 with (first | (go_at_call 16; refine calls_of_args (args' := #[.slice (some ⟨pb, 0, none⟩) (b.take j.toNat).length cb]) (by rw [llt, Nat.min_eq_left (by have := HJ.out; omega)]) ?_; (with_reducible refine (msg_Get.calls k (some ⟨pb, 0, none⟩) cb (b.take j.toNat) t0 t1 t2 t3 t4 t5 t6 t7 t8 t9 tl te _ (Kd.C_take (Kd.R_reads' HP.out).2.2 (show j.toNat ≤ b.length by have := HJ.out; omega)) (show (b.take j.toNat).length ≤ cb by rw [llt]; have := (Kd.R_reads' HP.out).2.1; omega) X6.out).mono ?_); rintro e_ w6 ⟨vg, rfl, ho, hb⟩; obtain ⟨Ag, cg, rfl⟩ := Kd.R_slice ho; have n0_ := aS (Kd.R_below HP.out hb); clear HP; have HP := n0_; clear n0_; have n0_ := aS (below_step HB.out hb); clear HB; have HB := n0_; clear n0_; clear ho hb) | ((with_reducible refine gate_dst (N := 12) rfl ?_); refine box_event ?hg (N := 12) ?hd (cs := #[.int .i64 0, .int .i64 0, .int .i64 0, .int .i64 0, .int .i64 0, .int .i64 0, .int .i64 0, .int .i64 0, .bool false, .string ⟨#[]⟩, .slice none 0 0]) (t := 26) ?hr ?_; (case hd => rfl); (case hg => rfl); (case hr => (first | (go_simp; done) | (go_simp; rfl))); intro p12 hg w7 hb' hbl; have P9 := aS hg; have B9 := aS hb'; have L9 := aS hbl; clear hg hb' hbl) | ((with_reducible refine gate_store (t := 26) (p := 12) rfl ?_); refine wpList_store_row rfl 26 _ _ rfl p12 #[.int .i64 t0, .int .i64 t1, .int .i64 t2, .int .i64 t3, .int .i64 t4, .int .i64 t5, .int .i64 t6, .int .i64 t7, .bool t8, .string t9, .slice Ag tl.length cg] rfl rfl 26 _ B9.out (by kernel_rfl) rfl (by kernel_rfl) ?_; have S9 := aS (below_setRow L9.out (show w6.heap.size ≤ p12 by rw [P9.out]; exact Nat.le_refl _) #[.int .i64 t0, .int .i64 t1, .int .i64 t2, .int .i64 t3, .int .i64 t4, .int .i64 t5, .int .i64 t6, .int .i64 t7, .bool t8, .string t9, .slice Ag tl.length cg]); have N9 := aS (setRow_heap w7 p12 _ #[.int .i64 t0, .int .i64 t1, .int .i64 t2, .int .i64 t3, .int .i64 t4, .int .i64 t5, .int .i64 t6, .int .i64 t7, .bool t8, .string t9, .slice Ag tl.length cg] _ _ B9.out); clear B9; have B9 := N9; clear N9; have n0_ := aS (Kd.R_below HP.out S9.out); clear HP; have HP := n0_; clear n0_; have n0_ := aS (below_step HB.out S9.out); clear HB; have HB := n0_; clear n0_; clear S9 L9; generalize World.setRow w7 p12 #[.int .i64 t0, .int .i64 t1, .int .i64 t2, .int .i64 t3, .int .i64 t4, .int .i64 t5, .int .i64 t6, .int .i64 t7, .bool t8, .string t9, .slice Ag tl.length cg] = w8 at B9 HP HB ⊢))
 clear hcut; have hx := Kd.R_celln (enc := Value.int .u8) (d := (0 : Int)) HP.out j HJ.out.1 HJ.out.2
 have hx1 := hx.1
 have hx2 := hx.2
 clear hx
 have p1 := eq_true HJ.out.1
 have p2 := eq_true HJ.out.2
 rw [show rdOf 0 b j = rd b j from rfl] at hx1
 go_upto_region 12 with (fail)
 have HP2 := aS (Kd.R_putn (enc := Value.int .u8) HP.out j (Go.bits .xor .u8 (rd b j) a2))
 have HB2 := aS (below_set (j := j.toNat) (v := .int .u8 (Go.bits .xor .u8 (rd b j) a2)) HB.out HPB.out)
 clear hx1 hx2 p1 p2 HP HB
 have HL : Aside0 ((b.set j.toNat (Go.bits .xor .u8 (rd b j) a2)).length = b.length) := aS (by rw [List.length_set])
 generalize b.set j.toNat (Go.bits .xor .u8 (rd b j) a2) = b2 at HP2 X7 HL
 generalize w8.setCell ⟨pb, j.toNat, none⟩ (.int .u8 (Go.bits .xor .u8 (rd b j) a2)) = w9 at HP2 HB2 ⊢
 have C2 := aS (show Kd.C (Kd.int .u8) w9 (some ⟨pb, 0, none⟩) b2.length b2 ∧ b2.length ≤ cb from ⟨(Kd.R_reads' HP2.out).2.2, by rw [HL.out]; exact (Kd.R_reads' HP2.out).2.1⟩)
 go_upto_region 13 with (first | (go_at_call 16; refine calls_of_args (args' := #[.slice (some ⟨pb, 0, none⟩) b2.length cb]) (by rw [HL.out]) ?_; (with_reducible refine (msg_Get.calls k (some ⟨pb, 0, none⟩) cb b2 s0 s1 s2 s3 s4 s5 s6 s7 s8 s9 sl se _ C2.out.1 C2.out.2 X7.out).mono ?_); rintro e_ w10 ⟨vg, rfl, ho, hb⟩; obtain ⟨Ag, cg, rfl⟩ := Kd.R_slice ho; have n0_ := aS (below_step HB2.out hb); clear HB2; have HB2 := n0_; clear n0_; clear ho hb) | ((with_reducible refine gate_dst (N := 14) rfl ?_); refine box_event ?hg (N := 14) ?hd (cs := #[.int .i64 0, .int .i64 0, .int .i64 0, .int .i64 0, .int .i64 0, .int .i64 0, .int .i64 0, .int .i64 0, .bool false, .string ⟨#[]⟩, .slice none 0 0]) (t := 26) ?hr ?_; (case hd => rfl); (case hg => rfl); (case hr => (first | (go_simp; done) | (go_simp; rfl))); intro p14 hg w11 hb' hbl; have P9 := aS hg; have B9 := aS hb'; have L9 := aS hbl; clear hg hb' hbl) | ((with_reducible refine gate_store (t := 26) (p := 14) rfl ?_); refine wpList_store_row rfl 26 _ _ rfl p14 #[.int .i64 s0, .int .i64 s1, .int .i64 s2, .int .i64 s3, .int .i64 s4, .int .i64 s5, .int .i64 s6, .int .i64 s7, .bool s8, .string s9, .slice Ag sl.length cg] rfl rfl 26 _ B9.out (by kernel_rfl) rfl (by kernel_rfl) ?_; have S9 := aS (below_setRow L9.out (show w10.heap.size ≤ p14 by rw [P9.out]; exact Nat.le_refl _) #[.int .i64 s0, .int .i64 s1, .int .i64 s2, .int .i64 s3, .int .i64 s4, .int .i64 s5, .int .i64 s6, .int .i64 s7, .bool s8, .string s9, .slice Ag sl.length cg]); have N9 := aS (setRow_heap w11 p14 _ #[.int .i64 s0, .int .i64 s1, .int .i64 s2, .int .i64 s3, .int .i64 s4, .int .i64 s5, .int .i64 s6, .int .i64 s7, .bool s8, .string s9, .slice Ag sl.length cg] _ _ B9.out); clear B9; have B9 := N9; clear N9; have n0_ := aS (below_step HB2.out S9.out); clear HB2; have HB2 := n0_; clear n0_; clear S9 L9; generalize World.setRow w11 p14 #[.int .i64 s0, .int .i64 s1, .int .i64 s2, .int .i64 s3, .int .i64 s4, .int .i64 s5, .int .i64 s6, .int .i64 s7, .bool s8, .string s9, .slice Ag sl.length cg] = w12 at B9 HB2 ⊢))
 have h := H.out; clear H
 obtain rfl := Option.some.inj h
 by_cases hte : te = 2
 ·
  obtain ⟨ht1, ht2⟩ := eqT hte
  have ht3 : decide (te = 2) = true := decide_eq_true hte
  clear h hte
  go_wp2_with (fail)
  all_goals (go_ret; exact ⟨by simp [*], HB2.out⟩)
 ·
  obtain ⟨ht1, ht2⟩ := eqF hte
  have ht3 : decide (te = 2) = false := decide_eq_false hte
  clear h hte
  go_wp2_with (fail)
  go_ret
  exact ⟨by simp [*], HB2.out⟩


/-- THE ONE PURE STATEMENT of shardloglaw19_MsgBack. -/
def shardloglaw19_MsgBack.Pure : Prop := ∀ (a0_0 : Int) (a0_1 : Int) (a0_2 : Int) (a0_3 : Int) (a0_4 : Int) (a0_5 : Int) (a0_6 : Int) (a0_7 : Int) (a0_8 : Bool) (a0_9 : ByteArray) (l0_10 : List (S23)) (a1 : Int) (a2 : Int), (Lit.int .i64 a0_0).wf = true → (Lit.int .i64 a0_1).wf = true → (Lit.int .i64 a0_2).wf = true → (Lit.int .i64 a0_3).wf = true → (Lit.int .i64 a0_4).wf = true → (Lit.int .i64 a0_5).wf = true → (Lit.int .i64 a0_6).wf = true → (Lit.int .i64 a0_7).wf = true → a0_9.size ≤ 140737488351232 → (l0_10.length ≤ maxLen ∧ l0_10.length * 48 ≤ 140737488351232 ∧ ∀ y0_ ∈ l0_10, ((Lit.int .i64 y0_.f0).wf = true ∧ (Lit.int .i64 y0_.f1).wf = true ∧ (Lit.int .i64 y0_.f2).wf = true ∧ True ∧ y0_.f4.size ≤ 140737488351232)) → (Lit.int .u16 a1).wf = true → (Lit.int .u8 a2).wf = true → ∃ k, shardloglaw19_MsgBack.f k a0_0 a0_1 a0_2 a0_3 a0_4 a0_5 a0_6 a0_7 a0_8 a0_9 l0_10 a1 a2 = some true
theorem shardloglaw19_MsgBack.walk (P : shardloglaw19_MsgBack.Pure) (a0_0 : Int) (a0_1 : Int) (a0_2 : Int) (a0_3 : Int) (a0_4 : Int) (a0_5 : Int) (a0_6 : Int) (a0_7 : Int) (a0_8 : Bool) (a0_9 : ByteArray) (A0_10 : Option Addr) (c0_10 : Nat) (l0_10 : List (S23)) (a1 : Int) (a2 : Int) (w : World) (wf0_0 : (Lit.int .i64 a0_0).wf = true) (wf0_1 : (Lit.int .i64 a0_1).wf = true) (wf0_2 : (Lit.int .i64 a0_2).wf = true) (wf0_3 : (Lit.int .i64 a0_3).wf = true) (wf0_4 : (Lit.int .i64 a0_4).wf = true) (wf0_5 : (Lit.int .i64 a0_5).wf = true) (wf0_6 : (Lit.int .i64 a0_6).wf = true) (wf0_7 : (Lit.int .i64 a0_7).wf = true) (wf0_9 : a0_9.size ≤ 140737488351232) (wf0_10 : (l0_10.length ≤ maxLen ∧ l0_10.length * 48 ≤ 140737488351232 ∧ ∀ y0_ ∈ l0_10, ((Lit.int .i64 y0_.f0).wf = true ∧ (Lit.int .i64 y0_.f1).wf = true ∧ (Lit.int .i64 y0_.f2).wf = true ∧ True ∧ y0_.f4.size ≤ 140737488351232))) (hr0_10 : Kd.C k23 w A0_10 l0_10.length l0_10) (hc0_10 : l0_10.length ≤ c0_10) (wf1 : (Lit.int .u16 a1).wf = true) (wf2 : (Lit.int .u8 a2).wf = true) :
  Calls Try.prog 4 #[.agg #[.int .i64 a0_0, .int .i64 a0_1, .int .i64 a0_2, .int .i64 a0_3, .int .i64 a0_4, .int .i64 a0_5, .int .i64 a0_6, .int .i64 a0_7, .bool a0_8, .string a0_9, .slice A0_10 l0_10.length c0_10], .int .u16 a1, .int .u8 a2] w fun e w' => e = .returned (.bool true) ∧ Below w.heap.size w w' := by
 obtain ⟨k, h⟩ := P a0_0 a0_1 a0_2 a0_3 a0_4 a0_5 a0_6 a0_7 a0_8 a0_9 l0_10 a1 a2 wf0_0 wf0_1 wf0_2 wf0_3 wf0_4 wf0_5 wf0_6 wf0_7 wf0_9 wf0_10 wf1 wf2
 refine (shardloglaw19_MsgBack.calls k a0_0 a0_1 a0_2 a0_3 a0_4 a0_5 a0_6 a0_7 a0_8 a0_9 A0_10 c0_10 l0_10 a1 a2 true w hr0_10 hc0_10 h).mono ?_
 rintro e w' ⟨rfl, hd⟩
 exact ⟨rfl, hd⟩

end Go.Proofs.Yteoklmfkofgfmaa.X
