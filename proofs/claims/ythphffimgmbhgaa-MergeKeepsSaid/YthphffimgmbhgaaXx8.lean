-- written by a program of this session's, over the kit's print
import Derived.Test.YthphffimgmbhgaaXx0
import Derived.Test.YthphffimgmbhgaaXx1
import Derived.Test.YthphffimgmbhgaaXx4
import Derived.Test.YthphffimgmbhgaaXx5
import Derived.Test.YthphffimgmbhgaaXx6
import Derived.Test.YthphffimgmbhgaaXx7
namespace Go.Proofs.Ythphffimgmbhgaa.X
open Go.RowKit Go.Proofs.YthphffimgmbhgaaW.PrintWords Go.Proofs.YthphffimgmbhgaaW.PrintLast Go.Proofs.YthphffimgmbhgaaW.PrintMore
attribute [local go_sem] max2_int min2_int max_two min_two max_three min_three max_four min_four gtr_str   -- for this text's walks alone
set_option linter.unusedVariables false
set_option linter.unusedSimpArgs false

attribute [local go_sem high] eqA35
/-! ### shardlogref08_Sort: function 17 -/
def shardlogref08_Sort.l0 : Nat → List (S35) → List (S35) → Int → Option ((List (S35)))
 | 0, _, _, _ => none
 | k + 1, x0, x3, x4 => if x4 < (x0.length : Int) then (if 0 ≤ x4 then ((shardlogref08_Put1.f k x3 ((rd_T35 x0 x4).f0) ((rd_T35 x0 x4).f1) ((rd_T35 x0 x4).f2) ((rd_T35 x0 x4).f3) ((rd_T35 x0 x4).f4)).bind fun t229 => (shardlogref08_Sort.l0 k x0 t229 (wrap64 (x4 + 1)))) else (none)) else (some x3)
def shardlogref08_Sort.f (k : Nat) (l0 : List (S35)) : Option ((List (S35))) := shardlogref08_Sort.l0 k l0 ([] : List (S35)) 0
theorem shardlogref08_Sort.mono_l : ∀ k, (∀ y0 y1 y2, LeO (shardlogref08_Sort.l0 k y0 y1 y2) (shardlogref08_Sort.l0 (k + 1) y0 y1 y2))
 | 0 => fun _ _ _ r h => by simp [shardlogref08_Sort.l0] at h
 | k + 1 => by
  have ih0 := shardlogref08_Sort.mono_l k
  ·
   intro y0 y1 y2
   unfold shardlogref08_Sort.l0
   repeat' first
   | (with_reducible exact ih0 _ _ _)
   | (with_reducible exact shardlogref08_Put1.mono _ _ _ _ _ _ _)
   | (with_reducible exact LeO.refl _)
   | (with_reducible exact LeO.none _)
   | (with_reducible refine LeO.ite ?_ ?_)
   | (with_reducible refine LeO.bind ?_ (fun _ => ?_))
   | exact ih0 _ _ _
   | exact shardlogref08_Put1.mono _ _ _ _ _ _ _
   | exact LeO.none _
   | refine LeO.ite ?_ ?_
   | refine LeO.bind ?_ (fun _ => ?_)
theorem shardlogref08_Sort.mono : ∀ a0 k, LeO (shardlogref08_Sort.f k a0) (shardlogref08_Sort.f (k + 1) a0) := by
 intro a0 k
 have ih0 := shardlogref08_Sort.mono_l k
 unfold shardlogref08_Sort.f
 repeat' first
   | (with_reducible exact ih0 _ _ _)
   | (with_reducible exact shardlogref08_Put1.mono _ _ _ _ _ _ _)
   | (with_reducible exact LeO.refl _)
   | (with_reducible exact LeO.none _)
   | (with_reducible refine LeO.ite ?_ ?_)
   | (with_reducible refine LeO.bind ?_ (fun _ => ?_))
   | exact ih0 _ _ _
   | exact shardlogref08_Put1.mono _ _ _ _ _ _ _
   | exact LeO.none _
   | refine LeO.ite ?_ ?_
   | refine LeO.bind ?_ (fun _ => ?_)
set_option maxHeartbeats 8000000 in
set_option maxRecDepth 100000 in
theorem shardlogref08_Sort.calls (k : Nat) (A0 : Option Addr) (c0 : Nat) (l0 : List (S35)) (r : List (S35)) (w : World) (hr0 : Kd.C k35 w A0 l0.length l0) (hc0 : l0.length ≤ c0) (h : shardlogref08_Sort.f k l0 = some r) :
  Calls Try.prog 17 #[.slice A0 l0.length c0] w fun e w' => ∃ v0_ : Value, e = .returned (v0_) ∧ Kd.R k35 35 w' w.heap.size (fun _ => True) v0_ r ∧ Below w.heap.size w w' := by
 have hu35 := Try.underlying35
 have HR0 := aS hr0
 have HC0 := aS hc0
 clear hr0 hc0
 have HB := aS (Below.refl w.heap.size w)
 have H : (shardlogref08_Sort.l0 k l0 ([] : List (S35)) 0) = some r := h
 clear h
 have H' := aS H
 clear H
 go_enter Try.func17, Try.ntmps17
 go_wp2
 go_loopg [3, 4] k (fun kq v3 v4 w' => ∃ (x3_1 : List (S35)) (x4_1 : Int), v4 = .int .i64 x4_1 ∧ Aside0 (shardlogref08_Sort.l0 kq l0 x3_1 x4_1 = some r) ∧ Aside0 (kq ≤ k) ∧ Aside0 (Kd.R k35 35 w' w.heap.size (fun _ => True) v3 x3_1) ∧ Aside0 (Below w.heap.size w w'))
 case atStart => exact ⟨(([] : List (S35))), (0), (by first | rfl | (simp; done) | (simp [*]; done) | (simp; exact (by decide : ∀ a_ b_ : Bool, (a_ == b_) = (!a_ != b_)) _ _)), H', ⟨Nat.le_refl _⟩, ⟨by first | exact Kd.R_nil _ _ _ _ _ | exact Kd.N_nil _ _ _ _ _ | exact Kd.V_nil _ _ _ _ _ | exact Kd.Q_nil _ _ _ _ _ | exact Kd.S_nil _ _ _ _ _⟩, ⟨by repeat (first | (with_reducible first | exact HB.out | apply bal | apply bdN | apply bdo) | exact HB.out)⟩⟩
 case round =>
  clear H'; (try clear c1)
  obtain ⟨x3_1, x4_1, rfl, HA, HK1, HO_3, HB⟩ := hrel
  cases gk with
  | zero => exact absurd HA.out (by simp [shardlogref08_Sort.l0])
  | succ k1 =>
   have H := HA.out; clear HA
   simp only [shardlogref08_Sort.l0] at H
   by_cases c2 : x4_1 < (l0.length : Int)
   ·
    rw [if_pos c2] at H
    have c2b0 : decide (x4_1 < (l0.length : Int)) = true := decide_eq_true c2
    clear c2
    by_cases c3 : 0 ≤ x4_1
    ·
     rw [if_pos c3] at H
     have c3b0 : decide (0 ≤ x4_1) = true := decide_eq_true c3
     clear c3
     replace H := obm H
     obtain ⟨t229, A40, H⟩ := H
     replace H : (shardlogref08_Sort.l0 k1 l0 t229 (wrap64 (x4_1 + 1))) = some r := H
     have A4 := aS A40
     clear A40
     have H' := aS H
     clear H
     have p228 : 0 ≤ (x4_1 : Int) := odt (by first | (with_reducible assumption) | assumption)
     have q228 : x4_1 < (l0.length : Int) := odt (by first | (with_reducible assumption) | assumption)
     obtain ⟨ad228, e228, hx228_0, hx228_1, hx228_2, hx228_3, hx228_4⟩ := at_T35 HR0.out x4_1 p228 q228
     cases e228
     replace hx228_0 := (HB.out.cell (wbl w _ hx228_0)).trans hx228_0
     replace hx228_1 := (HB.out.cell (wbl w _ hx228_1)).trans hx228_1
     replace hx228_2 := (HB.out.cell (wbl w _ hx228_2)).trans hx228_2
     replace hx228_3 := (HB.out.cell (wbl w _ hx228_3)).trans hx228_3
     replace hx228_4 := (HB.out.cell (wbl w _ hx228_4)).trans hx228_4
     replace p228 := eq_true p228
     replace q228 := eq_true q228
     obtain ⟨Ao5, co5, eo5⟩ := Kd.R_slice HO_3.out
     subst eo5
     go_wp2_with (first | ((with_reducible refine gate_callee (f := 29) rfl ?_); refine goesL_ (some 16) rfl rfl Try.func29 (by kernel_rfl) rfl #[.slice Ao5 x3_1.length co5, .agg #[.string ((rd_T35 l0 x4_1).f0), .string ((rd_T35 l0 x4_1).f1), .int .i64 ((rd_T35 l0 x4_1).f2), .string ((rd_T35 l0 x4_1).f3), .bool ((rd_T35 l0 x4_1).f4)]] rfl (by (try simp only [List.map_toArray, List.map_cons, List.map_nil]); first | done | rfl | (simp only [lld, llt]; rfl)) ?_; (with_reducible refine (shardlogref08_Put1.calls k1 _ _ x3_1 ((rd_T35 l0 x4_1).f0) ((rd_T35 l0 x4_1).f1) ((rd_T35 l0 x4_1).f2) ((rd_T35 l0 x4_1).f3) ((rd_T35 l0 x4_1).f4) t229 _ ?side1 ?side2 A4.out).mono ?_); (case side1 => repeat (first | exact (Kd.R_reads' HO_3.out).2.2 | (with_reducible refine Kd.C_alloc ?_ _) | (with_reducible refine Kd.C_drewN ?_ _) | (with_reducible refine Kd.C_drew ?_))); (case side2 => exact (Kd.R_reads' HO_3.out).2.1); rintro e w6 ⟨v230, rfl, ho0, hb⟩; refine ⟨_, rfl, ?_⟩; have n0_ := aS (Kd.R_elder' (by (with_reducible repeat (first | apply Kd.R_alloc | apply Kd.R_drewN | apply Kd.R_drew)); exact HO_3.out) (by first | exact Kd.R_base ho0 | exact Kd.S_base ho0 | exact Kd.R_base ho0 | exact Kd.V_base ho0) hb); have n1_ := aS (Kd.R_lower (Kd.R_new' ho0 (Kd.R_lt (by (with_reducible repeat (first | apply Kd.R_alloc | apply Kd.R_drewN | apply Kd.R_drew)); exact HO_3.out))) (below_size (by repeat (first | (with_reducible first | exact HB.out | apply bal | apply bdN | apply bdo) | exact HB.out)))); have n2_ := aS (below_step (by repeat (first | (with_reducible first | exact HB.out | apply bal | apply bdN | apply bdo) | exact HB.out)) hb); clear HO_3; clear HB; have HO_3 := n0_; have HO231 := n1_; have HB := n2_; clear n0_ n1_ n2_; (try clear hb); (try clear hb2); (try clear hk); (try clear hi); (try clear ho0)))
     go_roundg k1
     case measure => have := HK1.out; omega
     case rel => exact ⟨(t229), (wrap64 (x4_1 + 1)), (by first | rfl | (simp; done) | (simp [*]; done) | (simp; exact (by decide : ∀ a_ b_ : Bool, (a_ == b_) = (!a_ != b_)) _ _)), H', ⟨by have := HK1.out; omega⟩, ⟨by (with_reducible repeat (first | apply Kd.R_alloc | apply Kd.R_drewN | apply Kd.R_drew)); exact Kd.R_mono HO231.out (fun _ hk => trivial)⟩, ⟨by repeat (first | (with_reducible first | exact HB.out | apply bal | apply bdN | apply bdo) | exact HB.out)⟩⟩
    ·
     rw [if_neg c3] at H
     exact absurd H (by simp)
   ·
    rw [if_neg c2] at H
    have c2b0 : decide (x4_1 < (l0.length : Int)) = false := decide_eq_false c2
    clear c2
    obtain rfl := Option.some.inj H
    go_wp2
    go_ret
    exact ⟨_, by first | rfl | (simp [errW_none, errW_some] <;> rfl) | (simp [*, errW_none, errW_some] <;> rfl), by (with_reducible repeat (first | apply Kd.R_alloc | apply Kd.R_drewN | apply Kd.R_drew)); exact HO_3.out, by repeat (first | (with_reducible first | exact HB.out | apply bal | apply bdN | apply bdo) | exact HB.out)⟩

/-! ### shardlogref08_Newest: function 39 -/
def shardlogref08_Newest.l0 : Nat → List (S35) → ByteArray → ByteArray → Int → Int → ByteArray → ByteArray → Int → ByteArray → Bool → Option (ByteArray × ByteArray × Int × ByteArray × Bool × Bool)
 | 0, _, _, _, _, _, _, _, _, _, _ => none
 | k + 1, x0, x1, x2, x3, x11, x234000, x234001, x234002, x234003, x234004 => if x11 < (x0.length : Int) then (if 0 ≤ x11 then (if ((rd_T35 x0 x11).f0).toList = x1.toList then (if ((rd_T35 x0 x11).f1).toList = x2.toList then (if ((rd_T35 x0 x11).f2) ≤ x3 then (if ((rd_T35 x0 x11).f2) > x234002 then (shardlogref08_Newest.l0 k x0 x1 x2 x3 (wrap64 (x11 + 1)) ((rd_T35 x0 x11).f0) ((rd_T35 x0 x11).f1) ((rd_T35 x0 x11).f2) ((rd_T35 x0 x11).f3) ((rd_T35 x0 x11).f4)) else (shardlogref08_Newest.l0 k x0 x1 x2 x3 (wrap64 (x11 + 1)) x234000 x234001 x234002 x234003 x234004)) else (shardlogref08_Newest.l0 k x0 x1 x2 x3 (wrap64 (x11 + 1)) x234000 x234001 x234002 x234003 x234004)) else (shardlogref08_Newest.l0 k x0 x1 x2 x3 (wrap64 (x11 + 1)) x234000 x234001 x234002 x234003 x234004)) else (shardlogref08_Newest.l0 k x0 x1 x2 x3 (wrap64 (x11 + 1)) x234000 x234001 x234002 x234003 x234004)) else (none)) else (if x234002 < 0 then (some ((⟨#[]⟩ : ByteArray), (⟨#[]⟩ : ByteArray), 0, (⟨#[]⟩ : ByteArray), false, false)) else (some (x234000, x234001, x234002, x234003, x234004, true)))
def shardlogref08_Newest.f (k : Nat) (l0 : List (S35)) (a1 : ByteArray) (a2 : ByteArray) (a3 : Int) : Option (ByteArray × ByteArray × Int × ByteArray × Bool × Bool) := shardlogref08_Newest.l0 k l0 a1 a2 a3 0 (⟨#[]⟩ : ByteArray) (⟨#[]⟩ : ByteArray) (-1) (⟨#[]⟩ : ByteArray) false
theorem shardlogref08_Newest.mono_l : ∀ k, (∀ y0 y1 y2 y3 y4 y5 y6 y7 y8 y9, LeO (shardlogref08_Newest.l0 k y0 y1 y2 y3 y4 y5 y6 y7 y8 y9) (shardlogref08_Newest.l0 (k + 1) y0 y1 y2 y3 y4 y5 y6 y7 y8 y9))
 | 0 => fun _ _ _ _ _ _ _ _ _ _ r h => by simp [shardlogref08_Newest.l0] at h
 | k + 1 => by
  have ih0 := shardlogref08_Newest.mono_l k
  ·
   intro y0 y1 y2 y3 y4 y5 y6 y7 y8 y9
   unfold shardlogref08_Newest.l0
   repeat' first
   | (with_reducible exact ih0 _ _ _ _ _ _ _ _ _ _)
   | (with_reducible exact LeO.refl _)
   | (with_reducible exact LeO.none _)
   | (with_reducible refine LeO.ite ?_ ?_)
   | (with_reducible refine LeO.bind ?_ (fun _ => ?_))
   | exact ih0 _ _ _ _ _ _ _ _ _ _
   | exact LeO.none _
   | refine LeO.ite ?_ ?_
   | refine LeO.bind ?_ (fun _ => ?_)
theorem shardlogref08_Newest.mono : ∀ a0 a1 a2 a3 k, LeO (shardlogref08_Newest.f k a0 a1 a2 a3) (shardlogref08_Newest.f (k + 1) a0 a1 a2 a3) := by
 intro a0 a1 a2 a3 k
 have ih0 := shardlogref08_Newest.mono_l k
 unfold shardlogref08_Newest.f
 repeat' first
   | (with_reducible exact ih0 _ _ _ _ _ _ _ _ _ _)
   | (with_reducible exact LeO.refl _)
   | (with_reducible exact LeO.none _)
   | (with_reducible refine LeO.ite ?_ ?_)
   | (with_reducible refine LeO.bind ?_ (fun _ => ?_))
   | exact ih0 _ _ _ _ _ _ _ _ _ _
   | exact LeO.none _
   | refine LeO.ite ?_ ?_
   | refine LeO.bind ?_ (fun _ => ?_)
set_option maxHeartbeats 8000000 in
set_option maxRecDepth 100000 in
theorem shardlogref08_Newest.calls (k : Nat) (A0 : Option Addr) (c0 : Nat) (l0 : List (S35)) (a1 : ByteArray) (a2 : ByteArray) (a3 : Int) (r1 : ByteArray) (r2 : ByteArray) (r3 : Int) (r4 : ByteArray) (r5 : Bool) (r6 : Bool) (w : World) (hr0 : Kd.C k35 w A0 l0.length l0) (hc0 : l0.length ≤ c0) (h : shardlogref08_Newest.f k l0 a1 a2 a3 = some (r1, r2, r3, r4, r5, r6)) :
  Calls Try.prog 39 #[.slice A0 l0.length c0, .string a1, .string a2, .int .i64 a3] w fun e w' => e = .returned (.tuple #[.agg #[.string r1, .string r2, .int .i64 r3, .string r4, .bool r5], .bool r6]) ∧ Below w.heap.size w w' := by
 have hu35 := Try.underlying35
 have HR0 := aS hr0
 have HC0 := aS hc0
 clear hr0 hc0
 have HB := aS (Below.refl w.heap.size w)
 have H : (shardlogref08_Newest.l0 k l0 a1 a2 a3 0 (⟨#[]⟩ : ByteArray) (⟨#[]⟩ : ByteArray) (-1) (⟨#[]⟩ : ByteArray) false) = some (r1, r2, r3, r4, r5, r6) := h
 clear h
 have H' := aS H
 clear H
 go_enter Try.func39, Try.ntmps39
 go_wp2_with (first | ((with_reducible refine gate_dst (N := 8) rfl ?_); refine box_event ?hg (N := 8) ?hd (cs := #[.string (⟨#[]⟩ : ByteArray), .string (⟨#[]⟩ : ByteArray), .int .i64 0, .string (⟨#[]⟩ : ByteArray), .bool false]) (t := 35) ?hr ?_; (case hd => rfl); (case hg => rfl); (case hr => first | (go_simp; done) | (go_simp; rfl)); intro gb232 hg w5 hbox hb; have n0_ := aS (below_step (by repeat (first | (with_reducible first | exact HB.out | apply bal | apply bdN | apply bdo) | exact HB.out)) hb); have n1_ := aS (hbox); have n2_ := aS ((by rw [hg]; exact (below_size (by repeat (first | (with_reducible first | exact HB.out | apply bal | apply bdN | apply bdo) | exact HB.out))) : w.heap.size ≤ gb232)); have n3_ := aS ((by rw [hg]; exact (below_size (by repeat (first | (with_reducible first | exact HB.out | apply bal | apply bdN | apply bdo) | exact HB.out))) : w.heap.size ≤ gb232)); clear HB; have HB := n0_; have BK232 := n1_; have GW232 := n2_; have GE232 := n3_; clear n0_ n1_ n2_ n3_; clear hb hbox hg) | ((with_reducible refine gate_dst (N := 10) rfl ?_); refine box_event ?hg (N := 10) ?hd (cs := #[.string (⟨#[]⟩ : ByteArray), .string (⟨#[]⟩ : ByteArray), .int .i64 0, .string (⟨#[]⟩ : ByteArray), .bool false]) (t := 35) ?hr ?_; (case hd => rfl); (case hg => rfl); (case hr => first | (go_simp; done) | (go_simp; rfl)); intro gb233 hg w6 hbox hb; have n0_ := aS (blk_below (g := gb232) (o := .cells #[.string (⟨#[]⟩ : ByteArray), .string (⟨#[]⟩ : ByteArray), .int .i64 0, .string (⟨#[]⟩ : ByteArray), .bool false] 35 (0, 0)) (by (with_reducible repeat (first | refine blk_drewN ?_ _ | refine blk_drew ?_ | refine blk_alloc ?_ _)); exact BK232.out) hb); have n1_ := aS (below_step (by repeat (first | (with_reducible first | exact HB.out | apply bal | apply bdN | apply bdo | refine below_set ?_ GE232.out) | exact HB.out)) hb); have n2_ := aS (hbox); have n3_ := aS ((by rw [hg]; exact (below_size (by repeat (first | (with_reducible first | exact HB.out | apply bal | apply bdN | apply bdo | refine below_set ?_ GE232.out) | exact HB.out))) : w.heap.size ≤ gb233)); have n4_ := aS ((by rw [hg]; exact (below_size (by repeat (first | (with_reducible first | exact HB.out | apply bal | apply bdN | apply bdo | refine below_set ?_ GE232.out) | exact HB.out))) : w.heap.size ≤ gb233)); have n5_ := aS ((by rw [hg]; exact Nat.ne_of_lt (blk_lt (g := gb232) (o := .cells #[.string (⟨#[]⟩ : ByteArray), .string (⟨#[]⟩ : ByteArray), .int .i64 0, .string (⟨#[]⟩ : ByteArray), .bool false] 35 (0, 0)) (by (with_reducible repeat (first | refine blk_drewN ?_ _ | refine blk_drew ?_ | refine blk_alloc ?_ _)); exact BK232.out)) : gb232 ≠ gb233)); have n6_ := aS ((by rw [hg]; exact Nat.ne_of_gt (blk_lt (g := gb232) (o := .cells #[.string (⟨#[]⟩ : ByteArray), .string (⟨#[]⟩ : ByteArray), .int .i64 0, .string (⟨#[]⟩ : ByteArray), .bool false] 35 (0, 0)) (by (with_reducible repeat (first | refine blk_drewN ?_ _ | refine blk_drew ?_ | refine blk_alloc ?_ _)); exact BK232.out)) : gb233 ≠ gb232)); clear BK232; clear HB; have BK232 := n0_; have HB := n1_; have BK233 := n2_; have GW233 := n3_; have GE233 := n4_; have NB232_233 := n5_; have NB233_232 := n6_; clear n0_ n1_ n2_ n3_ n4_ n5_ n6_; clear hb hbox hg; have hnb7 := NB233_232.out; have hnc7 := NB232_233.out; have hcz8_0 : w6.cell? ⟨gb233, 0, none⟩ = some (.string (⟨#[]⟩ : ByteArray)) := (blk_cell BK233.out 0).trans rfl; have hcz8_1 : w6.cell? ⟨gb233, 1, none⟩ = some (.string (⟨#[]⟩ : ByteArray)) := (blk_cell BK233.out 1).trans rfl; have hcz8_2 : w6.cell? ⟨gb233, 2, none⟩ = some (.int .i64 0) := (blk_cell BK233.out 2).trans rfl; have hcz8_3 : w6.cell? ⟨gb233, 3, none⟩ = some (.string (⟨#[]⟩ : ByteArray)) := (blk_cell BK233.out 3).trans rfl; have hcz8_4 : w6.cell? ⟨gb233, 4, none⟩ = some (.bool false) := (blk_cell BK233.out 4).trans rfl; have hfz8_0 := blk_frozen BK233.out 0; have hfz8_1 := blk_frozen BK233.out 1; have hfz8_2 := blk_frozen BK233.out 2; have hfz8_3 := blk_frozen BK233.out 3; have hfz8_4 := blk_frozen BK233.out 4))
 repeat (go_quiet (first | ((with_reducible refine gate_dst (N := 8) rfl ?_); refine box_event ?hg (N := 8) ?hd (cs := #[.string (⟨#[]⟩ : ByteArray), .string (⟨#[]⟩ : ByteArray), .int .i64 0, .string (⟨#[]⟩ : ByteArray), .bool false]) (t := 35) ?hr ?_; (case hd => rfl); (case hg => rfl); (case hr => first | (go_simp; done) | (go_simp; rfl)); intro gb232 hg w5 hbox hb; have n0_ := aS (below_step (by repeat (first | (with_reducible first | exact HB.out | apply bal | apply bdN | apply bdo) | exact HB.out)) hb); have n1_ := aS (hbox); have n2_ := aS ((by rw [hg]; exact (below_size (by repeat (first | (with_reducible first | exact HB.out | apply bal | apply bdN | apply bdo) | exact HB.out))) : w.heap.size ≤ gb232)); have n3_ := aS ((by rw [hg]; exact (below_size (by repeat (first | (with_reducible first | exact HB.out | apply bal | apply bdN | apply bdo) | exact HB.out))) : w.heap.size ≤ gb232)); clear HB; have HB := n0_; have BK232 := n1_; have GW232 := n2_; have GE232 := n3_; clear n0_ n1_ n2_ n3_; clear hb hbox hg) | ((with_reducible refine gate_dst (N := 10) rfl ?_); refine box_event ?hg (N := 10) ?hd (cs := #[.string (⟨#[]⟩ : ByteArray), .string (⟨#[]⟩ : ByteArray), .int .i64 0, .string (⟨#[]⟩ : ByteArray), .bool false]) (t := 35) ?hr ?_; (case hd => rfl); (case hg => rfl); (case hr => first | (go_simp; done) | (go_simp; rfl)); intro gb233 hg w6 hbox hb; have n0_ := aS (blk_below (g := gb232) (o := .cells #[.string (⟨#[]⟩ : ByteArray), .string (⟨#[]⟩ : ByteArray), .int .i64 0, .string (⟨#[]⟩ : ByteArray), .bool false] 35 (0, 0)) (by (with_reducible repeat (first | refine blk_drewN ?_ _ | refine blk_drew ?_ | refine blk_alloc ?_ _)); exact BK232.out) hb); have n1_ := aS (below_step (by repeat (first | (with_reducible first | exact HB.out | apply bal | apply bdN | apply bdo | refine below_set ?_ GE232.out) | exact HB.out)) hb); have n2_ := aS (hbox); have n3_ := aS ((by rw [hg]; exact (below_size (by repeat (first | (with_reducible first | exact HB.out | apply bal | apply bdN | apply bdo | refine below_set ?_ GE232.out) | exact HB.out))) : w.heap.size ≤ gb233)); have n4_ := aS ((by rw [hg]; exact (below_size (by repeat (first | (with_reducible first | exact HB.out | apply bal | apply bdN | apply bdo | refine below_set ?_ GE232.out) | exact HB.out))) : w.heap.size ≤ gb233)); have n5_ := aS ((by rw [hg]; exact Nat.ne_of_lt (blk_lt (g := gb232) (o := .cells #[.string (⟨#[]⟩ : ByteArray), .string (⟨#[]⟩ : ByteArray), .int .i64 0, .string (⟨#[]⟩ : ByteArray), .bool false] 35 (0, 0)) (by (with_reducible repeat (first | refine blk_drewN ?_ _ | refine blk_drew ?_ | refine blk_alloc ?_ _)); exact BK232.out)) : gb232 ≠ gb233)); have n6_ := aS ((by rw [hg]; exact Nat.ne_of_gt (blk_lt (g := gb232) (o := .cells #[.string (⟨#[]⟩ : ByteArray), .string (⟨#[]⟩ : ByteArray), .int .i64 0, .string (⟨#[]⟩ : ByteArray), .bool false] 35 (0, 0)) (by (with_reducible repeat (first | refine blk_drewN ?_ _ | refine blk_drew ?_ | refine blk_alloc ?_ _)); exact BK232.out)) : gb233 ≠ gb232)); clear BK232; clear HB; have BK232 := n0_; have HB := n1_; have BK233 := n2_; have GW233 := n3_; have GE233 := n4_; have NB232_233 := n5_; have NB233_232 := n6_; clear n0_ n1_ n2_ n3_ n4_ n5_ n6_; clear hb hbox hg; have hnb7 := NB233_232.out; have hnc7 := NB232_233.out; have hcz8_0 : w6.cell? ⟨gb233, 0, none⟩ = some (.string (⟨#[]⟩ : ByteArray)) := (blk_cell BK233.out 0).trans rfl; have hcz8_1 : w6.cell? ⟨gb233, 1, none⟩ = some (.string (⟨#[]⟩ : ByteArray)) := (blk_cell BK233.out 1).trans rfl; have hcz8_2 : w6.cell? ⟨gb233, 2, none⟩ = some (.int .i64 0) := (blk_cell BK233.out 2).trans rfl; have hcz8_3 : w6.cell? ⟨gb233, 3, none⟩ = some (.string (⟨#[]⟩ : ByteArray)) := (blk_cell BK233.out 3).trans rfl; have hcz8_4 : w6.cell? ⟨gb233, 4, none⟩ = some (.bool false) := (blk_cell BK233.out 4).trans rfl; have hfz8_0 := blk_frozen BK233.out 0; have hfz8_1 := blk_frozen BK233.out 1; have hfz8_2 := blk_frozen BK233.out 2; have hfz8_3 := blk_frozen BK233.out 3; have hfz8_4 := blk_frozen BK233.out 4)); try go_wp2_with (first | ((with_reducible refine gate_dst (N := 8) rfl ?_); refine box_event ?hg (N := 8) ?hd (cs := #[.string (⟨#[]⟩ : ByteArray), .string (⟨#[]⟩ : ByteArray), .int .i64 0, .string (⟨#[]⟩ : ByteArray), .bool false]) (t := 35) ?hr ?_; (case hd => rfl); (case hg => rfl); (case hr => first | (go_simp; done) | (go_simp; rfl)); intro gb232 hg w5 hbox hb; have n0_ := aS (below_step (by repeat (first | (with_reducible first | exact HB.out | apply bal | apply bdN | apply bdo) | exact HB.out)) hb); have n1_ := aS (hbox); have n2_ := aS ((by rw [hg]; exact (below_size (by repeat (first | (with_reducible first | exact HB.out | apply bal | apply bdN | apply bdo) | exact HB.out))) : w.heap.size ≤ gb232)); have n3_ := aS ((by rw [hg]; exact (below_size (by repeat (first | (with_reducible first | exact HB.out | apply bal | apply bdN | apply bdo) | exact HB.out))) : w.heap.size ≤ gb232)); clear HB; have HB := n0_; have BK232 := n1_; have GW232 := n2_; have GE232 := n3_; clear n0_ n1_ n2_ n3_; clear hb hbox hg) | ((with_reducible refine gate_dst (N := 10) rfl ?_); refine box_event ?hg (N := 10) ?hd (cs := #[.string (⟨#[]⟩ : ByteArray), .string (⟨#[]⟩ : ByteArray), .int .i64 0, .string (⟨#[]⟩ : ByteArray), .bool false]) (t := 35) ?hr ?_; (case hd => rfl); (case hg => rfl); (case hr => first | (go_simp; done) | (go_simp; rfl)); intro gb233 hg w6 hbox hb; have n0_ := aS (blk_below (g := gb232) (o := .cells #[.string (⟨#[]⟩ : ByteArray), .string (⟨#[]⟩ : ByteArray), .int .i64 0, .string (⟨#[]⟩ : ByteArray), .bool false] 35 (0, 0)) (by (with_reducible repeat (first | refine blk_drewN ?_ _ | refine blk_drew ?_ | refine blk_alloc ?_ _)); exact BK232.out) hb); have n1_ := aS (below_step (by repeat (first | (with_reducible first | exact HB.out | apply bal | apply bdN | apply bdo | refine below_set ?_ GE232.out) | exact HB.out)) hb); have n2_ := aS (hbox); have n3_ := aS ((by rw [hg]; exact (below_size (by repeat (first | (with_reducible first | exact HB.out | apply bal | apply bdN | apply bdo | refine below_set ?_ GE232.out) | exact HB.out))) : w.heap.size ≤ gb233)); have n4_ := aS ((by rw [hg]; exact (below_size (by repeat (first | (with_reducible first | exact HB.out | apply bal | apply bdN | apply bdo | refine below_set ?_ GE232.out) | exact HB.out))) : w.heap.size ≤ gb233)); have n5_ := aS ((by rw [hg]; exact Nat.ne_of_lt (blk_lt (g := gb232) (o := .cells #[.string (⟨#[]⟩ : ByteArray), .string (⟨#[]⟩ : ByteArray), .int .i64 0, .string (⟨#[]⟩ : ByteArray), .bool false] 35 (0, 0)) (by (with_reducible repeat (first | refine blk_drewN ?_ _ | refine blk_drew ?_ | refine blk_alloc ?_ _)); exact BK232.out)) : gb232 ≠ gb233)); have n6_ := aS ((by rw [hg]; exact Nat.ne_of_gt (blk_lt (g := gb232) (o := .cells #[.string (⟨#[]⟩ : ByteArray), .string (⟨#[]⟩ : ByteArray), .int .i64 0, .string (⟨#[]⟩ : ByteArray), .bool false] 35 (0, 0)) (by (with_reducible repeat (first | refine blk_drewN ?_ _ | refine blk_drew ?_ | refine blk_alloc ?_ _)); exact BK232.out)) : gb233 ≠ gb232)); clear BK232; clear HB; have BK232 := n0_; have HB := n1_; have BK233 := n2_; have GW233 := n3_; have GE233 := n4_; have NB232_233 := n5_; have NB233_232 := n6_; clear n0_ n1_ n2_ n3_ n4_ n5_ n6_; clear hb hbox hg; have hnb7 := NB233_232.out; have hnc7 := NB232_233.out; have hcz8_0 : w6.cell? ⟨gb233, 0, none⟩ = some (.string (⟨#[]⟩ : ByteArray)) := (blk_cell BK233.out 0).trans rfl; have hcz8_1 : w6.cell? ⟨gb233, 1, none⟩ = some (.string (⟨#[]⟩ : ByteArray)) := (blk_cell BK233.out 1).trans rfl; have hcz8_2 : w6.cell? ⟨gb233, 2, none⟩ = some (.int .i64 0) := (blk_cell BK233.out 2).trans rfl; have hcz8_3 : w6.cell? ⟨gb233, 3, none⟩ = some (.string (⟨#[]⟩ : ByteArray)) := (blk_cell BK233.out 3).trans rfl; have hcz8_4 : w6.cell? ⟨gb233, 4, none⟩ = some (.bool false) := (blk_cell BK233.out 4).trans rfl; have hfz8_0 := blk_frozen BK233.out 0; have hfz8_1 := blk_frozen BK233.out 1; have hfz8_2 := blk_frozen BK233.out 2; have hfz8_3 := blk_frozen BK233.out 3; have hfz8_4 := blk_frozen BK233.out 4)))
 go_loopg [11] k (fun kq v11 w' => ∃ (x11_1 : Int) (x234000_1 : ByteArray) (x234001_1 : ByteArray) (x234002_1 : Int) (x234003_1 : ByteArray) (x234004_1 : Bool), v11 = .int .i64 x11_1 ∧ Aside0 (shardlogref08_Newest.l0 kq l0 a1 a2 a3 x11_1 x234000_1 x234001_1 x234002_1 x234003_1 x234004_1 = some (r1, r2, r3, r4, r5, r6)) ∧ Aside0 (kq ≤ k) ∧ Aside0 (w'.heap[gb232]? = some (.cells #[.string (⟨#[]⟩ : ByteArray), .string (⟨#[]⟩ : ByteArray), .int .i64 0, .string (⟨#[]⟩ : ByteArray), .bool false] 35 (0, 0))) ∧ Aside0 (w'.heap[gb233]? = some (.cells #[.string x234000_1, .string x234001_1, .int .i64 x234002_1, .string x234003_1, .bool x234004_1] 35 (0, 0))) ∧ Aside0 (Below w.heap.size w w'))
 case atStart => exact ⟨(0), ((⟨#[]⟩ : ByteArray)), ((⟨#[]⟩ : ByteArray)), ((-1)), ((⟨#[]⟩ : ByteArray)), (false), (by first | rfl | (simp; done) | (simp [*]; done) | (simp; exact (by decide : ∀ a_ b_ : Bool, (a_ == b_) = (!a_ != b_)) _ _)), H', ⟨Nat.le_refl _⟩, ⟨by (with_reducible repeat (first | refine blk_drewN ?_ _ | refine blk_drew ?_ | refine blk_alloc ?_ _)); refine blk_far ?_ NB232_233.out _; (with_reducible repeat (first | refine blk_drewN ?_ _ | refine blk_drew ?_ | refine blk_alloc ?_ _)); refine blk_far ?_ NB232_233.out _; (with_reducible repeat (first | refine blk_drewN ?_ _ | refine blk_drew ?_ | refine blk_alloc ?_ _)); refine blk_far ?_ NB232_233.out _; (with_reducible repeat (first | refine blk_drewN ?_ _ | refine blk_drew ?_ | refine blk_alloc ?_ _)); refine blk_far ?_ NB232_233.out _; (with_reducible repeat (first | refine blk_drewN ?_ _ | refine blk_drew ?_ | refine blk_alloc ?_ _)); refine blk_far ?_ NB232_233.out _; (with_reducible repeat (first | refine blk_drewN ?_ _ | refine blk_drew ?_ | refine blk_alloc ?_ _)); exact BK232.out⟩, ⟨by (with_reducible repeat (first | refine blk_drewN ?_ _ | refine blk_drew ?_ | refine blk_alloc ?_ _)); refine blk_put (cs := #[.string (⟨#[]⟩ : ByteArray), .string (⟨#[]⟩ : ByteArray), .int .i64 (-1), .string (⟨#[]⟩ : ByteArray), .bool false]) ?_ 4 _ rfl; (with_reducible repeat (first | refine blk_drewN ?_ _ | refine blk_drew ?_ | refine blk_alloc ?_ _)); refine blk_put (cs := #[.string (⟨#[]⟩ : ByteArray), .string (⟨#[]⟩ : ByteArray), .int .i64 (-1), .string (⟨#[]⟩ : ByteArray), .bool false]) ?_ 3 _ rfl; (with_reducible repeat (first | refine blk_drewN ?_ _ | refine blk_drew ?_ | refine blk_alloc ?_ _)); refine blk_put (cs := #[.string (⟨#[]⟩ : ByteArray), .string (⟨#[]⟩ : ByteArray), .int .i64 0, .string (⟨#[]⟩ : ByteArray), .bool false]) ?_ 2 _ rfl; (with_reducible repeat (first | refine blk_drewN ?_ _ | refine blk_drew ?_ | refine blk_alloc ?_ _)); refine blk_put (cs := #[.string (⟨#[]⟩ : ByteArray), .string (⟨#[]⟩ : ByteArray), .int .i64 0, .string (⟨#[]⟩ : ByteArray), .bool false]) ?_ 1 _ rfl; (with_reducible repeat (first | refine blk_drewN ?_ _ | refine blk_drew ?_ | refine blk_alloc ?_ _)); refine blk_put (cs := #[.string (⟨#[]⟩ : ByteArray), .string (⟨#[]⟩ : ByteArray), .int .i64 0, .string (⟨#[]⟩ : ByteArray), .bool false]) ?_ 0 _ rfl; (with_reducible repeat (first | refine blk_drewN ?_ _ | refine blk_drew ?_ | refine blk_alloc ?_ _)); exact BK233.out⟩, ⟨by repeat (first | (with_reducible first | exact HB.out | apply bal | apply bdN | apply bdo | refine below_set ?_ GE232.out | refine below_set ?_ GE233.out) | exact HB.out)⟩⟩
 case round =>
  clear H'; (try clear p2); (try clear c3); (try clear c7); (try clear hcz8_0); (try clear hcz8_1); (try clear hcz8_2); (try clear hcz8_3); (try clear hcz8_4); (try clear hfz8_0); (try clear hfz8_1); (try clear hfz8_2); (try clear hfz8_3); (try clear hfz8_4)
  obtain ⟨x11_1, x234000_1, x234001_1, x234002_1, x234003_1, x234004_1, rfl, HA, HK1, BK232, BK233, HB⟩ := hrel
  cases gk with
  | zero => exact absurd HA.out (by simp [shardlogref08_Newest.l0])
  | succ k1 =>
   have H := HA.out; clear HA
   simp only [shardlogref08_Newest.l0] at H
   by_cases c9 : x11_1 < (l0.length : Int)
   ·
    rw [if_pos c9] at H
    have c9b0 : decide (x11_1 < (l0.length : Int)) = true := decide_eq_true c9
    clear c9
    by_cases c10 : 0 ≤ x11_1
    ·
     rw [if_pos c10] at H
     have c10b0 : decide (0 ≤ x11_1) = true := decide_eq_true c10
     clear c10
     by_cases c11 : ((rd_T35 l0 x11_1).f0).toList = a1.toList
     ·
      rw [if_pos c11] at H
      have c11b0 : (((rd_T35 l0 x11_1).f0).toList == a1.toList) = true := beq_iff_eq.mpr c11
      have c11b1 : (((rd_T35 l0 x11_1).f0).toList != a1.toList) = false := bne_eq_false_iff_eq.mpr c11
      clear c11
      by_cases c12 : ((rd_T35 l0 x11_1).f1).toList = a2.toList
      ·
       rw [if_pos c12] at H
       have c12b0 : (((rd_T35 l0 x11_1).f1).toList == a2.toList) = true := beq_iff_eq.mpr c12
       have c12b1 : (((rd_T35 l0 x11_1).f1).toList != a2.toList) = false := bne_eq_false_iff_eq.mpr c12
       clear c12
       by_cases c13 : ((rd_T35 l0 x11_1).f2) ≤ a3
       ·
        rw [if_pos c13] at H
        have c13b0 : decide (((rd_T35 l0 x11_1).f2) ≤ a3) = true := decide_eq_true c13
        clear c13
        by_cases c14 : ((rd_T35 l0 x11_1).f2) > x234002_1
        ·
         rw [if_pos c14] at H
         have c14b0 : decide (x234002_1 < ((rd_T35 l0 x11_1).f2)) = true := decide_eq_true c14
         clear c14
         have H' := aS H
         clear H
         have p234 : 0 ≤ (x11_1 : Int) := odt (by first | (with_reducible assumption) | assumption)
         have q234 : x11_1 < (l0.length : Int) := odt (by first | (with_reducible assumption) | assumption)
         obtain ⟨ad234, e234, hx234_0, hx234_1, hx234_2, hx234_3, hx234_4⟩ := at_T35 HR0.out x11_1 p234 q234
         cases e234
         replace hx234_0 := (HB.out.cell (wbl w _ hx234_0)).trans hx234_0
         replace hx234_1 := (HB.out.cell (wbl w _ hx234_1)).trans hx234_1
         replace hx234_2 := (HB.out.cell (wbl w _ hx234_2)).trans hx234_2
         replace hx234_3 := (HB.out.cell (wbl w _ hx234_3)).trans hx234_3
         replace hx234_4 := (HB.out.cell (wbl w _ hx234_4)).trans hx234_4
         replace p234 := eq_true p234
         replace q234 := eq_true q234
         have p235 : 0 ≤ (x11_1 : Int) := odt (by first | (with_reducible assumption) | assumption)
         have q235 : x11_1 < (l0.length : Int) := odt (by first | (with_reducible assumption) | assumption)
         obtain ⟨ad235, e235, hx235_0, hx235_1, hx235_2, hx235_3, hx235_4⟩ := at_T35 HR0.out x11_1 p235 q235
         obtain rfl : ad234 = ad235 := (by injection e235)
         replace hx235_0 := (HB.out.cell (wbl w _ hx235_0)).trans hx235_0
         replace hx235_1 := (HB.out.cell (wbl w _ hx235_1)).trans hx235_1
         replace hx235_2 := (HB.out.cell (wbl w _ hx235_2)).trans hx235_2
         replace hx235_3 := (HB.out.cell (wbl w _ hx235_3)).trans hx235_3
         replace hx235_4 := (HB.out.cell (wbl w _ hx235_4)).trans hx235_4
         replace p235 := eq_true p235
         replace q235 := eq_true q235
         have p236 : 0 ≤ (x11_1 : Int) := odt (by first | (with_reducible assumption) | assumption)
         have q236 : x11_1 < (l0.length : Int) := odt (by first | (with_reducible assumption) | assumption)
         obtain ⟨ad236, e236, hx236_0, hx236_1, hx236_2, hx236_3, hx236_4⟩ := at_T35 HR0.out x11_1 p236 q236
         obtain rfl : ad234 = ad236 := (by injection e236)
         replace hx236_0 := (HB.out.cell (wbl w _ hx236_0)).trans hx236_0
         replace hx236_1 := (HB.out.cell (wbl w _ hx236_1)).trans hx236_1
         replace hx236_2 := (HB.out.cell (wbl w _ hx236_2)).trans hx236_2
         replace hx236_3 := (HB.out.cell (wbl w _ hx236_3)).trans hx236_3
         replace hx236_4 := (HB.out.cell (wbl w _ hx236_4)).trans hx236_4
         replace p236 := eq_true p236
         replace q236 := eq_true q236
         have p237 : 0 ≤ (x11_1 : Int) := odt (by first | (with_reducible assumption) | assumption)
         have q237 : x11_1 < (l0.length : Int) := odt (by first | (with_reducible assumption) | assumption)
         obtain ⟨ad237, e237, hx237_0, hx237_1, hx237_2, hx237_3, hx237_4⟩ := at_T35 HR0.out x11_1 p237 q237
         obtain rfl : ad234 = ad237 := (by injection e237)
         replace hx237_0 := (HB.out.cell (wbl w _ hx237_0)).trans hx237_0
         replace hx237_1 := (HB.out.cell (wbl w _ hx237_1)).trans hx237_1
         replace hx237_2 := (HB.out.cell (wbl w _ hx237_2)).trans hx237_2
         replace hx237_3 := (HB.out.cell (wbl w _ hx237_3)).trans hx237_3
         replace hx237_4 := (HB.out.cell (wbl w _ hx237_4)).trans hx237_4
         replace p237 := eq_true p237
         replace q237 := eq_true q237
         have hnb15 := NB233_232.out; have hnc15 := NB232_233.out
         have hcz16_0 : wr.cell? ⟨gb233, 0, none⟩ = some (.string x234000_1) := (blk_cell BK233.out 0).trans rfl
         have hcz16_1 : wr.cell? ⟨gb233, 1, none⟩ = some (.string x234001_1) := (blk_cell BK233.out 1).trans rfl
         have hcz16_2 : wr.cell? ⟨gb233, 2, none⟩ = some (.int .i64 x234002_1) := (blk_cell BK233.out 2).trans rfl
         have hcz16_3 : wr.cell? ⟨gb233, 3, none⟩ = some (.string x234003_1) := (blk_cell BK233.out 3).trans rfl
         have hcz16_4 : wr.cell? ⟨gb233, 4, none⟩ = some (.bool x234004_1) := (blk_cell BK233.out 4).trans rfl
         have hfz16_0 := blk_frozen BK233.out 0
         have hfz16_1 := blk_frozen BK233.out 1
         have hfz16_2 := blk_frozen BK233.out 2
         have hfz16_3 := blk_frozen BK233.out 3
         have hfz16_4 := blk_frozen BK233.out 4
         have p238 : 0 ≤ (x11_1 : Int) := odt (by first | (with_reducible assumption) | assumption)
         have q238 : x11_1 < (l0.length : Int) := odt (by first | (with_reducible assumption) | assumption)
         obtain ⟨ad238, e238, hx238_0, hx238_1, hx238_2, hx238_3, hx238_4⟩ := at_T35 HR0.out x11_1 p238 q238
         obtain rfl : ad234 = ad238 := (by injection e238)
         replace hx238_0 := (HB.out.cell (wbl w _ hx238_0)).trans hx238_0
         replace hx238_1 := (HB.out.cell (wbl w _ hx238_1)).trans hx238_1
         replace hx238_2 := (HB.out.cell (wbl w _ hx238_2)).trans hx238_2
         replace hx238_3 := (HB.out.cell (wbl w _ hx238_3)).trans hx238_3
         replace hx238_4 := (HB.out.cell (wbl w _ hx238_4)).trans hx238_4
         replace p238 := eq_true p238
         replace q238 := eq_true q238
         go_wp2
         repeat (go_quiet (fail); try go_wp2)
         go_roundg k1
         case measure => have := HK1.out; omega
         case rel => exact ⟨(wrap64 (x11_1 + 1)), ((rd_T35 l0 x11_1).f0), ((rd_T35 l0 x11_1).f1), ((rd_T35 l0 x11_1).f2), ((rd_T35 l0 x11_1).f3), ((rd_T35 l0 x11_1).f4), (by first | rfl | (simp; done) | (simp [*]; done) | (simp; exact (by decide : ∀ a_ b_ : Bool, (a_ == b_) = (!a_ != b_)) _ _)), H', ⟨by have := HK1.out; omega⟩, ⟨by (with_reducible repeat (first | refine blk_drewN ?_ _ | refine blk_drew ?_ | refine blk_alloc ?_ _)); refine blk_far ?_ NB232_233.out _; (with_reducible repeat (first | refine blk_drewN ?_ _ | refine blk_drew ?_ | refine blk_alloc ?_ _)); refine blk_far ?_ NB232_233.out _; (with_reducible repeat (first | refine blk_drewN ?_ _ | refine blk_drew ?_ | refine blk_alloc ?_ _)); refine blk_far ?_ NB232_233.out _; (with_reducible repeat (first | refine blk_drewN ?_ _ | refine blk_drew ?_ | refine blk_alloc ?_ _)); refine blk_far ?_ NB232_233.out _; (with_reducible repeat (first | refine blk_drewN ?_ _ | refine blk_drew ?_ | refine blk_alloc ?_ _)); refine blk_far ?_ NB232_233.out _; (with_reducible repeat (first | refine blk_drewN ?_ _ | refine blk_drew ?_ | refine blk_alloc ?_ _)); exact BK232.out⟩, ⟨by (with_reducible repeat (first | refine blk_drewN ?_ _ | refine blk_drew ?_ | refine blk_alloc ?_ _)); refine blk_put (cs := #[.string ((rd_T35 l0 x11_1).f0), .string ((rd_T35 l0 x11_1).f1), .int .i64 ((rd_T35 l0 x11_1).f2), .string ((rd_T35 l0 x11_1).f3), .bool x234004_1]) ?_ 4 _ rfl; (with_reducible repeat (first | refine blk_drewN ?_ _ | refine blk_drew ?_ | refine blk_alloc ?_ _)); refine blk_put (cs := #[.string ((rd_T35 l0 x11_1).f0), .string ((rd_T35 l0 x11_1).f1), .int .i64 ((rd_T35 l0 x11_1).f2), .string x234003_1, .bool x234004_1]) ?_ 3 _ rfl; (with_reducible repeat (first | refine blk_drewN ?_ _ | refine blk_drew ?_ | refine blk_alloc ?_ _)); refine blk_put (cs := #[.string ((rd_T35 l0 x11_1).f0), .string ((rd_T35 l0 x11_1).f1), .int .i64 x234002_1, .string x234003_1, .bool x234004_1]) ?_ 2 _ rfl; (with_reducible repeat (first | refine blk_drewN ?_ _ | refine blk_drew ?_ | refine blk_alloc ?_ _)); refine blk_put (cs := #[.string ((rd_T35 l0 x11_1).f0), .string x234001_1, .int .i64 x234002_1, .string x234003_1, .bool x234004_1]) ?_ 1 _ rfl; (with_reducible repeat (first | refine blk_drewN ?_ _ | refine blk_drew ?_ | refine blk_alloc ?_ _)); refine blk_put (cs := #[.string x234000_1, .string x234001_1, .int .i64 x234002_1, .string x234003_1, .bool x234004_1]) ?_ 0 _ rfl; (with_reducible repeat (first | refine blk_drewN ?_ _ | refine blk_drew ?_ | refine blk_alloc ?_ _)); exact BK233.out⟩, ⟨by repeat (first | (with_reducible first | exact HB.out | apply bal | apply bdN | apply bdo | refine below_set ?_ GE232.out | refine below_set ?_ GE233.out) | exact HB.out)⟩⟩
        ·
         rw [if_neg c14] at H
         have c14b0 : decide (x234002_1 < ((rd_T35 l0 x11_1).f2)) = false := decide_eq_false c14
         clear c14
         have H' := aS H
         clear H
         have p234 : 0 ≤ (x11_1 : Int) := odt (by first | (with_reducible assumption) | assumption)
         have q234 : x11_1 < (l0.length : Int) := odt (by first | (with_reducible assumption) | assumption)
         obtain ⟨ad234, e234, hx234_0, hx234_1, hx234_2, hx234_3, hx234_4⟩ := at_T35 HR0.out x11_1 p234 q234
         cases e234
         replace hx234_0 := (HB.out.cell (wbl w _ hx234_0)).trans hx234_0
         replace hx234_1 := (HB.out.cell (wbl w _ hx234_1)).trans hx234_1
         replace hx234_2 := (HB.out.cell (wbl w _ hx234_2)).trans hx234_2
         replace hx234_3 := (HB.out.cell (wbl w _ hx234_3)).trans hx234_3
         replace hx234_4 := (HB.out.cell (wbl w _ hx234_4)).trans hx234_4
         replace p234 := eq_true p234
         replace q234 := eq_true q234
         have p235 : 0 ≤ (x11_1 : Int) := odt (by first | (with_reducible assumption) | assumption)
         have q235 : x11_1 < (l0.length : Int) := odt (by first | (with_reducible assumption) | assumption)
         obtain ⟨ad235, e235, hx235_0, hx235_1, hx235_2, hx235_3, hx235_4⟩ := at_T35 HR0.out x11_1 p235 q235
         obtain rfl : ad234 = ad235 := (by injection e235)
         replace hx235_0 := (HB.out.cell (wbl w _ hx235_0)).trans hx235_0
         replace hx235_1 := (HB.out.cell (wbl w _ hx235_1)).trans hx235_1
         replace hx235_2 := (HB.out.cell (wbl w _ hx235_2)).trans hx235_2
         replace hx235_3 := (HB.out.cell (wbl w _ hx235_3)).trans hx235_3
         replace hx235_4 := (HB.out.cell (wbl w _ hx235_4)).trans hx235_4
         replace p235 := eq_true p235
         replace q235 := eq_true q235
         have p236 : 0 ≤ (x11_1 : Int) := odt (by first | (with_reducible assumption) | assumption)
         have q236 : x11_1 < (l0.length : Int) := odt (by first | (with_reducible assumption) | assumption)
         obtain ⟨ad236, e236, hx236_0, hx236_1, hx236_2, hx236_3, hx236_4⟩ := at_T35 HR0.out x11_1 p236 q236
         obtain rfl : ad234 = ad236 := (by injection e236)
         replace hx236_0 := (HB.out.cell (wbl w _ hx236_0)).trans hx236_0
         replace hx236_1 := (HB.out.cell (wbl w _ hx236_1)).trans hx236_1
         replace hx236_2 := (HB.out.cell (wbl w _ hx236_2)).trans hx236_2
         replace hx236_3 := (HB.out.cell (wbl w _ hx236_3)).trans hx236_3
         replace hx236_4 := (HB.out.cell (wbl w _ hx236_4)).trans hx236_4
         replace p236 := eq_true p236
         replace q236 := eq_true q236
         have p237 : 0 ≤ (x11_1 : Int) := odt (by first | (with_reducible assumption) | assumption)
         have q237 : x11_1 < (l0.length : Int) := odt (by first | (with_reducible assumption) | assumption)
         obtain ⟨ad237, e237, hx237_0, hx237_1, hx237_2, hx237_3, hx237_4⟩ := at_T35 HR0.out x11_1 p237 q237
         obtain rfl : ad234 = ad237 := (by injection e237)
         replace hx237_0 := (HB.out.cell (wbl w _ hx237_0)).trans hx237_0
         replace hx237_1 := (HB.out.cell (wbl w _ hx237_1)).trans hx237_1
         replace hx237_2 := (HB.out.cell (wbl w _ hx237_2)).trans hx237_2
         replace hx237_3 := (HB.out.cell (wbl w _ hx237_3)).trans hx237_3
         replace hx237_4 := (HB.out.cell (wbl w _ hx237_4)).trans hx237_4
         replace p237 := eq_true p237
         replace q237 := eq_true q237
         have hnb17 := NB233_232.out; have hnc17 := NB232_233.out
         have hcz18_0 : wr.cell? ⟨gb233, 0, none⟩ = some (.string x234000_1) := (blk_cell BK233.out 0).trans rfl
         have hcz18_1 : wr.cell? ⟨gb233, 1, none⟩ = some (.string x234001_1) := (blk_cell BK233.out 1).trans rfl
         have hcz18_2 : wr.cell? ⟨gb233, 2, none⟩ = some (.int .i64 x234002_1) := (blk_cell BK233.out 2).trans rfl
         have hcz18_3 : wr.cell? ⟨gb233, 3, none⟩ = some (.string x234003_1) := (blk_cell BK233.out 3).trans rfl
         have hcz18_4 : wr.cell? ⟨gb233, 4, none⟩ = some (.bool x234004_1) := (blk_cell BK233.out 4).trans rfl
         have hfz18_0 := blk_frozen BK233.out 0
         have hfz18_1 := blk_frozen BK233.out 1
         have hfz18_2 := blk_frozen BK233.out 2
         have hfz18_3 := blk_frozen BK233.out 3
         have hfz18_4 := blk_frozen BK233.out 4
         go_wp2
         repeat (go_quiet (fail); try go_wp2)
         go_roundg k1
         case measure => have := HK1.out; omega
         case rel => exact ⟨(wrap64 (x11_1 + 1)), (x234000_1), (x234001_1), (x234002_1), (x234003_1), (x234004_1), (by first | rfl | (simp; done) | (simp [*]; done) | (simp; exact (by decide : ∀ a_ b_ : Bool, (a_ == b_) = (!a_ != b_)) _ _)), H', ⟨by have := HK1.out; omega⟩, ⟨by (with_reducible repeat (first | refine blk_drewN ?_ _ | refine blk_drew ?_ | refine blk_alloc ?_ _)); exact BK232.out⟩, ⟨by (with_reducible repeat (first | refine blk_drewN ?_ _ | refine blk_drew ?_ | refine blk_alloc ?_ _)); exact BK233.out⟩, ⟨by repeat (first | (with_reducible first | exact HB.out | apply bal | apply bdN | apply bdo | refine below_set ?_ GE232.out | refine below_set ?_ GE233.out) | exact HB.out)⟩⟩
       ·
        rw [if_neg c13] at H
        have c13b0 : decide (((rd_T35 l0 x11_1).f2) ≤ a3) = false := decide_eq_false c13
        clear c13
        have H' := aS H
        clear H
        have p234 : 0 ≤ (x11_1 : Int) := odt (by first | (with_reducible assumption) | assumption)
        have q234 : x11_1 < (l0.length : Int) := odt (by first | (with_reducible assumption) | assumption)
        obtain ⟨ad234, e234, hx234_0, hx234_1, hx234_2, hx234_3, hx234_4⟩ := at_T35 HR0.out x11_1 p234 q234
        cases e234
        replace hx234_0 := (HB.out.cell (wbl w _ hx234_0)).trans hx234_0
        replace hx234_1 := (HB.out.cell (wbl w _ hx234_1)).trans hx234_1
        replace hx234_2 := (HB.out.cell (wbl w _ hx234_2)).trans hx234_2
        replace hx234_3 := (HB.out.cell (wbl w _ hx234_3)).trans hx234_3
        replace hx234_4 := (HB.out.cell (wbl w _ hx234_4)).trans hx234_4
        replace p234 := eq_true p234
        replace q234 := eq_true q234
        have p235 : 0 ≤ (x11_1 : Int) := odt (by first | (with_reducible assumption) | assumption)
        have q235 : x11_1 < (l0.length : Int) := odt (by first | (with_reducible assumption) | assumption)
        obtain ⟨ad235, e235, hx235_0, hx235_1, hx235_2, hx235_3, hx235_4⟩ := at_T35 HR0.out x11_1 p235 q235
        obtain rfl : ad234 = ad235 := (by injection e235)
        replace hx235_0 := (HB.out.cell (wbl w _ hx235_0)).trans hx235_0
        replace hx235_1 := (HB.out.cell (wbl w _ hx235_1)).trans hx235_1
        replace hx235_2 := (HB.out.cell (wbl w _ hx235_2)).trans hx235_2
        replace hx235_3 := (HB.out.cell (wbl w _ hx235_3)).trans hx235_3
        replace hx235_4 := (HB.out.cell (wbl w _ hx235_4)).trans hx235_4
        replace p235 := eq_true p235
        replace q235 := eq_true q235
        have p236 : 0 ≤ (x11_1 : Int) := odt (by first | (with_reducible assumption) | assumption)
        have q236 : x11_1 < (l0.length : Int) := odt (by first | (with_reducible assumption) | assumption)
        obtain ⟨ad236, e236, hx236_0, hx236_1, hx236_2, hx236_3, hx236_4⟩ := at_T35 HR0.out x11_1 p236 q236
        obtain rfl : ad234 = ad236 := (by injection e236)
        replace hx236_0 := (HB.out.cell (wbl w _ hx236_0)).trans hx236_0
        replace hx236_1 := (HB.out.cell (wbl w _ hx236_1)).trans hx236_1
        replace hx236_2 := (HB.out.cell (wbl w _ hx236_2)).trans hx236_2
        replace hx236_3 := (HB.out.cell (wbl w _ hx236_3)).trans hx236_3
        replace hx236_4 := (HB.out.cell (wbl w _ hx236_4)).trans hx236_4
        replace p236 := eq_true p236
        replace q236 := eq_true q236
        go_wp2
        repeat (go_quiet (fail); try go_wp2)
        go_roundg k1
        case measure => have := HK1.out; omega
        case rel => exact ⟨(wrap64 (x11_1 + 1)), (x234000_1), (x234001_1), (x234002_1), (x234003_1), (x234004_1), (by first | rfl | (simp; done) | (simp [*]; done) | (simp; exact (by decide : ∀ a_ b_ : Bool, (a_ == b_) = (!a_ != b_)) _ _)), H', ⟨by have := HK1.out; omega⟩, ⟨by (with_reducible repeat (first | refine blk_drewN ?_ _ | refine blk_drew ?_ | refine blk_alloc ?_ _)); exact BK232.out⟩, ⟨by (with_reducible repeat (first | refine blk_drewN ?_ _ | refine blk_drew ?_ | refine blk_alloc ?_ _)); exact BK233.out⟩, ⟨by repeat (first | (with_reducible first | exact HB.out | apply bal | apply bdN | apply bdo | refine below_set ?_ GE232.out | refine below_set ?_ GE233.out) | exact HB.out)⟩⟩
      ·
       rw [if_neg c12] at H
       have c12b0 : (((rd_T35 l0 x11_1).f1).toList == a2.toList) = false := beq_eq_false_iff_ne.mpr c12
       have c12b1 : (((rd_T35 l0 x11_1).f1).toList != a2.toList) = true := bne_iff_ne.mpr c12
       have H' := aS H
       clear H
       have p234 : 0 ≤ (x11_1 : Int) := odt (by first | (with_reducible assumption) | assumption)
       have q234 : x11_1 < (l0.length : Int) := odt (by first | (with_reducible assumption) | assumption)
       obtain ⟨ad234, e234, hx234_0, hx234_1, hx234_2, hx234_3, hx234_4⟩ := at_T35 HR0.out x11_1 p234 q234
       cases e234
       replace hx234_0 := (HB.out.cell (wbl w _ hx234_0)).trans hx234_0
       replace hx234_1 := (HB.out.cell (wbl w _ hx234_1)).trans hx234_1
       replace hx234_2 := (HB.out.cell (wbl w _ hx234_2)).trans hx234_2
       replace hx234_3 := (HB.out.cell (wbl w _ hx234_3)).trans hx234_3
       replace hx234_4 := (HB.out.cell (wbl w _ hx234_4)).trans hx234_4
       replace p234 := eq_true p234
       replace q234 := eq_true q234
       have p235 : 0 ≤ (x11_1 : Int) := odt (by first | (with_reducible assumption) | assumption)
       have q235 : x11_1 < (l0.length : Int) := odt (by first | (with_reducible assumption) | assumption)
       obtain ⟨ad235, e235, hx235_0, hx235_1, hx235_2, hx235_3, hx235_4⟩ := at_T35 HR0.out x11_1 p235 q235
       obtain rfl : ad234 = ad235 := (by injection e235)
       replace hx235_0 := (HB.out.cell (wbl w _ hx235_0)).trans hx235_0
       replace hx235_1 := (HB.out.cell (wbl w _ hx235_1)).trans hx235_1
       replace hx235_2 := (HB.out.cell (wbl w _ hx235_2)).trans hx235_2
       replace hx235_3 := (HB.out.cell (wbl w _ hx235_3)).trans hx235_3
       replace hx235_4 := (HB.out.cell (wbl w _ hx235_4)).trans hx235_4
       replace p235 := eq_true p235
       replace q235 := eq_true q235
       go_wp2
       repeat (go_quiet (fail); try go_wp2)
       go_roundg k1
       case measure => have := HK1.out; omega
       case rel => exact ⟨(wrap64 (x11_1 + 1)), (x234000_1), (x234001_1), (x234002_1), (x234003_1), (x234004_1), (by first | rfl | (simp; done) | (simp [*]; done) | (simp; exact (by decide : ∀ a_ b_ : Bool, (a_ == b_) = (!a_ != b_)) _ _)), H', ⟨by have := HK1.out; omega⟩, ⟨by (with_reducible repeat (first | refine blk_drewN ?_ _ | refine blk_drew ?_ | refine blk_alloc ?_ _)); exact BK232.out⟩, ⟨by (with_reducible repeat (first | refine blk_drewN ?_ _ | refine blk_drew ?_ | refine blk_alloc ?_ _)); exact BK233.out⟩, ⟨by repeat (first | (with_reducible first | exact HB.out | apply bal | apply bdN | apply bdo | refine below_set ?_ GE232.out | refine below_set ?_ GE233.out) | exact HB.out)⟩⟩
     ·
      rw [if_neg c11] at H
      have c11b0 : (((rd_T35 l0 x11_1).f0).toList == a1.toList) = false := beq_eq_false_iff_ne.mpr c11
      have c11b1 : (((rd_T35 l0 x11_1).f0).toList != a1.toList) = true := bne_iff_ne.mpr c11
      have H' := aS H
      clear H
      have p234 : 0 ≤ (x11_1 : Int) := odt (by first | (with_reducible assumption) | assumption)
      have q234 : x11_1 < (l0.length : Int) := odt (by first | (with_reducible assumption) | assumption)
      obtain ⟨ad234, e234, hx234_0, hx234_1, hx234_2, hx234_3, hx234_4⟩ := at_T35 HR0.out x11_1 p234 q234
      cases e234
      replace hx234_0 := (HB.out.cell (wbl w _ hx234_0)).trans hx234_0
      replace hx234_1 := (HB.out.cell (wbl w _ hx234_1)).trans hx234_1
      replace hx234_2 := (HB.out.cell (wbl w _ hx234_2)).trans hx234_2
      replace hx234_3 := (HB.out.cell (wbl w _ hx234_3)).trans hx234_3
      replace hx234_4 := (HB.out.cell (wbl w _ hx234_4)).trans hx234_4
      replace p234 := eq_true p234
      replace q234 := eq_true q234
      go_wp2
      repeat (go_quiet (fail); try go_wp2)
      go_roundg k1
      case measure => have := HK1.out; omega
      case rel => exact ⟨(wrap64 (x11_1 + 1)), (x234000_1), (x234001_1), (x234002_1), (x234003_1), (x234004_1), (by first | rfl | (simp; done) | (simp [*]; done) | (simp; exact (by decide : ∀ a_ b_ : Bool, (a_ == b_) = (!a_ != b_)) _ _)), H', ⟨by have := HK1.out; omega⟩, ⟨by (with_reducible repeat (first | refine blk_drewN ?_ _ | refine blk_drew ?_ | refine blk_alloc ?_ _)); exact BK232.out⟩, ⟨by (with_reducible repeat (first | refine blk_drewN ?_ _ | refine blk_drew ?_ | refine blk_alloc ?_ _)); exact BK233.out⟩, ⟨by repeat (first | (with_reducible first | exact HB.out | apply bal | apply bdN | apply bdo | refine below_set ?_ GE232.out | refine below_set ?_ GE233.out) | exact HB.out)⟩⟩
    ·
     rw [if_neg c10] at H
     exact absurd H (by simp)
   ·
    rw [if_neg c9] at H
    have c9b0 : decide (x11_1 < (l0.length : Int)) = false := decide_eq_false c9
    clear c9
    by_cases c19 : x234002_1 < 0
    ·
     rw [if_pos c19] at H
     have c19b0 : decide (x234002_1 < 0) = true := decide_eq_true c19
     clear c19
     simp only [Option.some.injEq, Prod.mk.injEq] at H
     obtain ⟨rfl, rfl, rfl, rfl, rfl, rfl⟩ := H
     have hnb20 := NB233_232.out; have hnc20 := NB232_233.out
     have hcz21_0 : wr.cell? ⟨gb233, 0, none⟩ = some (.string x234000_1) := (blk_cell BK233.out 0).trans rfl
     have hcz21_1 : wr.cell? ⟨gb233, 1, none⟩ = some (.string x234001_1) := (blk_cell BK233.out 1).trans rfl
     have hcz21_2 : wr.cell? ⟨gb233, 2, none⟩ = some (.int .i64 x234002_1) := (blk_cell BK233.out 2).trans rfl
     have hcz21_3 : wr.cell? ⟨gb233, 3, none⟩ = some (.string x234003_1) := (blk_cell BK233.out 3).trans rfl
     have hcz21_4 : wr.cell? ⟨gb233, 4, none⟩ = some (.bool x234004_1) := (blk_cell BK233.out 4).trans rfl
     have hfz21_0 := blk_frozen BK233.out 0
     have hfz21_1 := blk_frozen BK233.out 1
     have hfz21_2 := blk_frozen BK233.out 2
     have hfz21_3 := blk_frozen BK233.out 3
     have hfz21_4 := blk_frozen BK233.out 4
     have hcz22_0 : wr.cell? ⟨gb232, 0, none⟩ = some (.string (⟨#[]⟩ : ByteArray)) := (blk_cell BK232.out 0).trans rfl
     have hcz22_1 : wr.cell? ⟨gb232, 1, none⟩ = some (.string (⟨#[]⟩ : ByteArray)) := (blk_cell BK232.out 1).trans rfl
     have hcz22_2 : wr.cell? ⟨gb232, 2, none⟩ = some (.int .i64 0) := (blk_cell BK232.out 2).trans rfl
     have hcz22_3 : wr.cell? ⟨gb232, 3, none⟩ = some (.string (⟨#[]⟩ : ByteArray)) := (blk_cell BK232.out 3).trans rfl
     have hcz22_4 : wr.cell? ⟨gb232, 4, none⟩ = some (.bool false) := (blk_cell BK232.out 4).trans rfl
     have hfz22_0 := blk_frozen BK232.out 0
     have hfz22_1 := blk_frozen BK232.out 1
     have hfz22_2 := blk_frozen BK232.out 2
     have hfz22_3 := blk_frozen BK232.out 3
     have hfz22_4 := blk_frozen BK232.out 4
     go_wp2
     repeat (go_quiet (fail); try go_wp2)
     refine bodyPost_ret (results_ct rfl _ _ gb232 35 #[.string (⟨#[]⟩ : ByteArray), .string (⟨#[]⟩ : ByteArray), .int .i64 0, .string (⟨#[]⟩ : ByteArray), .bool false] (0, 0) _ rfl (by (with_reducible repeat (first | refine blk_drewN ?_ _ | refine blk_drew ?_ | refine blk_alloc ?_ _)); refine blk_put (cs := #[.string (⟨#[]⟩ : ByteArray), .string (⟨#[]⟩ : ByteArray), .int .i64 0, .string (⟨#[]⟩ : ByteArray), .bool false]) ?_ 4 _ rfl; (with_reducible repeat (first | refine blk_drewN ?_ _ | refine blk_drew ?_ | refine blk_alloc ?_ _)); refine blk_put (cs := #[.string (⟨#[]⟩ : ByteArray), .string (⟨#[]⟩ : ByteArray), .int .i64 0, .string (⟨#[]⟩ : ByteArray), .bool false]) ?_ 3 _ rfl; (with_reducible repeat (first | refine blk_drewN ?_ _ | refine blk_drew ?_ | refine blk_alloc ?_ _)); refine blk_put (cs := #[.string (⟨#[]⟩ : ByteArray), .string (⟨#[]⟩ : ByteArray), .int .i64 0, .string (⟨#[]⟩ : ByteArray), .bool false]) ?_ 2 _ rfl; (with_reducible repeat (first | refine blk_drewN ?_ _ | refine blk_drew ?_ | refine blk_alloc ?_ _)); refine blk_put (cs := #[.string (⟨#[]⟩ : ByteArray), .string (⟨#[]⟩ : ByteArray), .int .i64 0, .string (⟨#[]⟩ : ByteArray), .bool false]) ?_ 1 _ rfl; (with_reducible repeat (first | refine blk_drewN ?_ _ | refine blk_drew ?_ | refine blk_alloc ?_ _)); refine blk_put (cs := #[.string (⟨#[]⟩ : ByteArray), .string (⟨#[]⟩ : ByteArray), .int .i64 0, .string (⟨#[]⟩ : ByteArray), .bool false]) ?_ 0 _ rfl; (with_reducible repeat (first | refine blk_drewN ?_ _ | refine blk_drew ?_ | refine blk_alloc ?_ _)); exact BK232.out) Try.underlying35 rfl (by kernel_rfl)) rfl ?_
     exact ⟨by first | rfl | (simp [errW_none, errW_some] <;> rfl) | (simp [*, errW_none, errW_some] <;> rfl), by repeat (first | (with_reducible first | exact HB.out | apply bal | apply bdN | apply bdo | refine below_set ?_ GE232.out | refine below_set ?_ GE233.out) | exact HB.out)⟩
    ·
     rw [if_neg c19] at H
     have c19b0 : decide (x234002_1 < 0) = false := decide_eq_false c19
     clear c19
     simp only [Option.some.injEq, Prod.mk.injEq] at H
     obtain ⟨rfl, rfl, rfl, rfl, rfl, rfl⟩ := H
     have hnb23 := NB233_232.out; have hnc23 := NB232_233.out
     have hcz24_0 : wr.cell? ⟨gb233, 0, none⟩ = some (.string x234000_1) := (blk_cell BK233.out 0).trans rfl
     have hcz24_1 : wr.cell? ⟨gb233, 1, none⟩ = some (.string x234001_1) := (blk_cell BK233.out 1).trans rfl
     have hcz24_2 : wr.cell? ⟨gb233, 2, none⟩ = some (.int .i64 x234002_1) := (blk_cell BK233.out 2).trans rfl
     have hcz24_3 : wr.cell? ⟨gb233, 3, none⟩ = some (.string x234003_1) := (blk_cell BK233.out 3).trans rfl
     have hcz24_4 : wr.cell? ⟨gb233, 4, none⟩ = some (.bool x234004_1) := (blk_cell BK233.out 4).trans rfl
     have hfz24_0 := blk_frozen BK233.out 0
     have hfz24_1 := blk_frozen BK233.out 1
     have hfz24_2 := blk_frozen BK233.out 2
     have hfz24_3 := blk_frozen BK233.out 3
     have hfz24_4 := blk_frozen BK233.out 4
     have hcz25_0 : wr.cell? ⟨gb232, 0, none⟩ = some (.string (⟨#[]⟩ : ByteArray)) := (blk_cell BK232.out 0).trans rfl
     have hcz25_1 : wr.cell? ⟨gb232, 1, none⟩ = some (.string (⟨#[]⟩ : ByteArray)) := (blk_cell BK232.out 1).trans rfl
     have hcz25_2 : wr.cell? ⟨gb232, 2, none⟩ = some (.int .i64 0) := (blk_cell BK232.out 2).trans rfl
     have hcz25_3 : wr.cell? ⟨gb232, 3, none⟩ = some (.string (⟨#[]⟩ : ByteArray)) := (blk_cell BK232.out 3).trans rfl
     have hcz25_4 : wr.cell? ⟨gb232, 4, none⟩ = some (.bool false) := (blk_cell BK232.out 4).trans rfl
     have hfz25_0 := blk_frozen BK232.out 0
     have hfz25_1 := blk_frozen BK232.out 1
     have hfz25_2 := blk_frozen BK232.out 2
     have hfz25_3 := blk_frozen BK232.out 3
     have hfz25_4 := blk_frozen BK232.out 4
     go_wp2
     repeat (go_quiet (fail); try go_wp2)
     refine bodyPost_ret (results_ct rfl _ _ gb232 35 #[.string x234000_1, .string x234001_1, .int .i64 x234002_1, .string x234003_1, .bool x234004_1] (0, 0) _ rfl (by (with_reducible repeat (first | refine blk_drewN ?_ _ | refine blk_drew ?_ | refine blk_alloc ?_ _)); refine blk_put (cs := #[.string x234000_1, .string x234001_1, .int .i64 x234002_1, .string x234003_1, .bool false]) ?_ 4 _ rfl; (with_reducible repeat (first | refine blk_drewN ?_ _ | refine blk_drew ?_ | refine blk_alloc ?_ _)); refine blk_put (cs := #[.string x234000_1, .string x234001_1, .int .i64 x234002_1, .string (⟨#[]⟩ : ByteArray), .bool false]) ?_ 3 _ rfl; (with_reducible repeat (first | refine blk_drewN ?_ _ | refine blk_drew ?_ | refine blk_alloc ?_ _)); refine blk_put (cs := #[.string x234000_1, .string x234001_1, .int .i64 0, .string (⟨#[]⟩ : ByteArray), .bool false]) ?_ 2 _ rfl; (with_reducible repeat (first | refine blk_drewN ?_ _ | refine blk_drew ?_ | refine blk_alloc ?_ _)); refine blk_put (cs := #[.string x234000_1, .string (⟨#[]⟩ : ByteArray), .int .i64 0, .string (⟨#[]⟩ : ByteArray), .bool false]) ?_ 1 _ rfl; (with_reducible repeat (first | refine blk_drewN ?_ _ | refine blk_drew ?_ | refine blk_alloc ?_ _)); refine blk_put (cs := #[.string (⟨#[]⟩ : ByteArray), .string (⟨#[]⟩ : ByteArray), .int .i64 0, .string (⟨#[]⟩ : ByteArray), .bool false]) ?_ 0 _ rfl; (with_reducible repeat (first | refine blk_drewN ?_ _ | refine blk_drew ?_ | refine blk_alloc ?_ _)); exact BK232.out) Try.underlying35 rfl (by kernel_rfl)) rfl ?_
     exact ⟨by first | rfl | (simp [errW_none, errW_some] <;> rfl) | (simp [*, errW_none, errW_some] <;> rfl), by repeat (first | (with_reducible first | exact HB.out | apply bal | apply bdN | apply bdo | refine below_set ?_ GE232.out | refine below_set ?_ GE233.out) | exact HB.out)⟩

/-! ### shardlogref13_newest: function 32 -/
def shardlogref13_newest.f (k : Nat) (l0 : List (S35)) (a1_0 : ByteArray) (a1_1 : ByteArray) (a1_2 : Int) (a1_3 : ByteArray) (a1_4 : Bool) (a2 : Int) : Option (Bool) := (shardlogref08_Newest.f k l0 a1_0 a1_1 a2).bind fun bt240 => (if bt240.2.2.2.2.2 = true then (some (bt240.1.toList == a1_0.toList && (bt240.2.1.toList == a1_1.toList && (bt240.2.2.1 == a1_2 && (bt240.2.2.2.1.toList == a1_3.toList && (bt240.2.2.2.2.1 == a1_4)))))) else (some false))
theorem shardlogref13_newest.mono : ∀ a0 a1 a2 a3 a4 a5 a6 k, LeO (shardlogref13_newest.f k a0 a1 a2 a3 a4 a5 a6) (shardlogref13_newest.f (k + 1) a0 a1 a2 a3 a4 a5 a6) := by
 intro a0 a1 a2 a3 a4 a5 a6 k
 unfold shardlogref13_newest.f
 repeat' first
   | (with_reducible exact shardlogref08_Newest.mono _ _ _ _ _)
   | (with_reducible exact LeO.refl _)
   | (with_reducible exact LeO.none _)
   | (with_reducible refine LeO.ite ?_ ?_)
   | (with_reducible refine LeO.bind ?_ (fun _ => ?_))
   | exact shardlogref08_Newest.mono _ _ _ _ _
   | exact LeO.none _
   | refine LeO.ite ?_ ?_
   | refine LeO.bind ?_ (fun _ => ?_)
set_option maxHeartbeats 8000000 in
set_option maxRecDepth 100000 in
theorem shardlogref13_newest.calls (k : Nat) (A0 : Option Addr) (c0 : Nat) (l0 : List (S35)) (a1_0 : ByteArray) (a1_1 : ByteArray) (a1_2 : Int) (a1_3 : ByteArray) (a1_4 : Bool) (a2 : Int) (r : Bool) (w : World) (hr0 : Kd.C k35 w A0 l0.length l0) (hc0 : l0.length ≤ c0) (h : shardlogref13_newest.f k l0 a1_0 a1_1 a1_2 a1_3 a1_4 a2 = some r) :
  Calls Try.prog 32 #[.slice A0 l0.length c0, .agg #[.string a1_0, .string a1_1, .int .i64 a1_2, .string a1_3, .bool a1_4], .int .i64 a2] w fun e w' => e = .returned (.bool r) ∧ Below w.heap.size w w' := by
 have hu35 := Try.underlying35
 have HR0 := aS hr0
 have HC0 := aS hc0
 clear hr0 hc0
 have HB := aS (Below.refl w.heap.size w)
 have H : ((shardlogref08_Newest.f k l0 a1_0 a1_1 a2).bind fun bt240 => (if bt240.2.2.2.2.2 = true then (some (bt240.1.toList == a1_0.toList && (bt240.2.1.toList == a1_1.toList && (bt240.2.2.1 == a1_2 && (bt240.2.2.2.1.toList == a1_3.toList && (bt240.2.2.2.2.1 == a1_4)))))) else (some false))) = some r := h
 clear h
 replace H := obm H
 obtain ⟨⟨t240, t241, t242, t243, t244, t245⟩, A40, H⟩ := H
 replace H : (if t245 = true then (some (t240.toList == a1_0.toList && (t241.toList == a1_1.toList && (t242 == a1_2 && (t243.toList == a1_3.toList && (t244 == a1_4)))))) else (some false)) = some r := H
 have A4 := aS A40
 clear A40
 by_cases c5 : t245 = true
 ·
  subst c5
  have H1 : (some (t240.toList == a1_0.toList && (t241.toList == a1_1.toList && (t242 == a1_2 && (t243.toList == a1_3.toList && (t244 == a1_4)))))) = some r := by rw [if_pos rfl] at H; exact H
  clear H; have H := H1; clear H1
  obtain rfl := Option.some.inj H
  go_enter Try.func32, Try.ntmps32
  go_wp2_with (first | ((with_reducible refine gate_dst (N := 4) rfl ?_); refine box_event ?hg (N := 4) ?hd (cs := #[.string a1_0, .string a1_1, .int .i64 a1_2, .string a1_3, .bool a1_4]) (t := 35) ?hr ?_; (case hd => rfl); (case hg => rfl); (case hr => first | (go_simp; done) | (go_simp; rfl)); intro gb239 hg w6 hbox hb; have n0_ := aS (below_step (by repeat (first | (with_reducible first | exact HB.out | apply bal | apply bdN | apply bdo) | exact HB.out)) hb); have n1_ := aS (hbox); have n2_ := aS ((by rw [hg]; exact (below_size (by repeat (first | (with_reducible first | exact HB.out | apply bal | apply bdN | apply bdo) | exact HB.out))) : w.heap.size ≤ gb239)); have n3_ := aS ((by rw [hg]; exact (below_size (by repeat (first | (with_reducible first | exact HB.out | apply bal | apply bdN | apply bdo) | exact HB.out))) : w.heap.size ≤ gb239)); clear HB; have HB := n0_; have BK239 := n1_; have GW239 := n2_; have GE239 := n3_; clear n0_ n1_ n2_ n3_; clear hb hbox hg; have hcz7_0 : w6.cell? ⟨gb239, 0, none⟩ = some (.string a1_0) := (blk_cell BK239.out 0).trans rfl; have hcz7_1 : w6.cell? ⟨gb239, 1, none⟩ = some (.string a1_1) := (blk_cell BK239.out 1).trans rfl; have hcz7_2 : w6.cell? ⟨gb239, 2, none⟩ = some (.int .i64 a1_2) := (blk_cell BK239.out 2).trans rfl; have hcz7_3 : w6.cell? ⟨gb239, 3, none⟩ = some (.string a1_3) := (blk_cell BK239.out 3).trans rfl; have hcz7_4 : w6.cell? ⟨gb239, 4, none⟩ = some (.bool a1_4) := (blk_cell BK239.out 4).trans rfl; have hfz7_0 := blk_frozen BK239.out 0; have hfz7_1 := blk_frozen BK239.out 1; have hfz7_2 := blk_frozen BK239.out 2; have hfz7_3 := blk_frozen BK239.out 3; have hfz7_4 := blk_frozen BK239.out 4) | ((with_reducible refine gate_callee (f := 39) rfl ?_); refine goesL_ (some 16) rfl rfl Try.func39 (by kernel_rfl) rfl #[.slice A0 l0.length c0, .string a1_0, .string a1_1, .int .i64 a2] rfl (by (try simp only [List.map_toArray, List.map_cons, List.map_nil]); first | done | rfl | (simp only [lld, llt]; rfl)) ?_; (with_reducible refine (shardlogref08_Newest.calls k _ _ l0 a1_0 a1_1 a2 t240 t241 t242 t243 t244 true _ ?side1 ?side2 A4.out).mono ?_); (case side1 => repeat (first | exact (Kd.C_below HR0.out HB.out) | (with_reducible refine Kd.C_alloc ?_ _) | (with_reducible refine Kd.C_drewN ?_ _) | (with_reducible refine Kd.C_drew ?_))); (case side2 => exact HC0.out); rintro e w8 ⟨rfl, hb⟩; refine ⟨_, rfl, ?_⟩; have n0_ := aS (blk_below (g := gb239) (o := .cells #[.string a1_0, .string a1_1, .int .i64 a1_2, .string a1_3, .bool a1_4] 35 (0, 0)) (by (with_reducible repeat (first | refine blk_drewN ?_ _ | refine blk_drew ?_ | refine blk_alloc ?_ _)); exact BK239.out) hb); have n1_ := aS (below_step (by repeat (first | (with_reducible first | exact HB.out | apply bal | apply bdN | apply bdo | refine below_set ?_ GE239.out) | exact HB.out)) hb); clear BK239; clear HB; have BK239 := n0_; have HB := n1_; clear n0_ n1_; (try clear hb); (try clear hb2); (try clear hk); (try clear hi)) | ((with_reducible refine gate_dst (N := 7) rfl ?_); refine box_event ?hg (N := 7) ?hd (cs := #[.string (⟨#[]⟩ : ByteArray), .string (⟨#[]⟩ : ByteArray), .int .i64 0, .string (⟨#[]⟩ : ByteArray), .bool false]) (t := 35) ?hr ?_; (case hd => rfl); (case hg => rfl); (case hr => first | (go_simp; done) | (go_simp; rfl)); intro gb246 hg w9 hbox hb; have n0_ := aS (blk_below (g := gb239) (o := .cells #[.string a1_0, .string a1_1, .int .i64 a1_2, .string a1_3, .bool a1_4] 35 (0, 0)) (by (with_reducible repeat (first | refine blk_drewN ?_ _ | refine blk_drew ?_ | refine blk_alloc ?_ _)); exact BK239.out) hb); have n1_ := aS (below_step (by repeat (first | (with_reducible first | exact HB.out | apply bal | apply bdN | apply bdo | refine below_set ?_ GE239.out) | exact HB.out)) hb); have n2_ := aS (hbox); have n3_ := aS ((by rw [hg]; exact (below_size (by repeat (first | (with_reducible first | exact HB.out | apply bal | apply bdN | apply bdo | refine below_set ?_ GE239.out) | exact HB.out))) : w.heap.size ≤ gb246)); have n4_ := aS ((by rw [hg]; exact (below_size (by repeat (first | (with_reducible first | exact HB.out | apply bal | apply bdN | apply bdo | refine below_set ?_ GE239.out) | exact HB.out))) : w.heap.size ≤ gb246)); have n5_ := aS ((by rw [hg]; exact Nat.ne_of_lt (blk_lt (g := gb239) (o := .cells #[.string a1_0, .string a1_1, .int .i64 a1_2, .string a1_3, .bool a1_4] 35 (0, 0)) (by (with_reducible repeat (first | refine blk_drewN ?_ _ | refine blk_drew ?_ | refine blk_alloc ?_ _)); exact BK239.out)) : gb239 ≠ gb246)); have n6_ := aS ((by rw [hg]; exact Nat.ne_of_gt (blk_lt (g := gb239) (o := .cells #[.string a1_0, .string a1_1, .int .i64 a1_2, .string a1_3, .bool a1_4] 35 (0, 0)) (by (with_reducible repeat (first | refine blk_drewN ?_ _ | refine blk_drew ?_ | refine blk_alloc ?_ _)); exact BK239.out)) : gb246 ≠ gb239)); clear BK239; clear HB; have BK239 := n0_; have HB := n1_; have BK246 := n2_; have GW246 := n3_; have GE246 := n4_; have NB239_246 := n5_; have NB246_239 := n6_; clear n0_ n1_ n2_ n3_ n4_ n5_ n6_; clear hb hbox hg; have hnb10 := NB246_239.out; have hnc10 := NB239_246.out; have hcz11_0 : w9.cell? ⟨gb246, 0, none⟩ = some (.string (⟨#[]⟩ : ByteArray)) := (blk_cell BK246.out 0).trans rfl; have hcz11_1 : w9.cell? ⟨gb246, 1, none⟩ = some (.string (⟨#[]⟩ : ByteArray)) := (blk_cell BK246.out 1).trans rfl; have hcz11_2 : w9.cell? ⟨gb246, 2, none⟩ = some (.int .i64 0) := (blk_cell BK246.out 2).trans rfl; have hcz11_3 : w9.cell? ⟨gb246, 3, none⟩ = some (.string (⟨#[]⟩ : ByteArray)) := (blk_cell BK246.out 3).trans rfl; have hcz11_4 : w9.cell? ⟨gb246, 4, none⟩ = some (.bool false) := (blk_cell BK246.out 4).trans rfl; have hfz11_0 := blk_frozen BK246.out 0; have hfz11_1 := blk_frozen BK246.out 1; have hfz11_2 := blk_frozen BK246.out 2; have hfz11_3 := blk_frozen BK246.out 3; have hfz11_4 := blk_frozen BK246.out 4; have hcz12_0 : w9.cell? ⟨gb239, 0, none⟩ = some (.string a1_0) := (blk_cell BK239.out 0).trans rfl; have hcz12_1 : w9.cell? ⟨gb239, 1, none⟩ = some (.string a1_1) := (blk_cell BK239.out 1).trans rfl; have hcz12_2 : w9.cell? ⟨gb239, 2, none⟩ = some (.int .i64 a1_2) := (blk_cell BK239.out 2).trans rfl; have hcz12_3 : w9.cell? ⟨gb239, 3, none⟩ = some (.string a1_3) := (blk_cell BK239.out 3).trans rfl; have hcz12_4 : w9.cell? ⟨gb239, 4, none⟩ = some (.bool a1_4) := (blk_cell BK239.out 4).trans rfl; have hfz12_0 := blk_frozen BK239.out 0; have hfz12_1 := blk_frozen BK239.out 1; have hfz12_2 := blk_frozen BK239.out 2; have hfz12_3 := blk_frozen BK239.out 3; have hfz12_4 := blk_frozen BK239.out 4))
  go_ret
  exact ⟨by first | rfl | (simp [errW_none, errW_some] <;> rfl) | (simp [*, errW_none, errW_some] <;> rfl), by repeat (first | (with_reducible first | exact HB.out | apply bal | apply bdN | apply bdo | refine below_set ?_ GE239.out | refine below_set ?_ GE246.out) | exact HB.out)⟩
 ·
  replace c5 := Bool.eq_false_iff.mpr c5
  subst c5
  have H1 : (some false) = some r := by rw [if_neg (show ¬ (false = true) by decide)] at H; exact H
  clear H; have H := H1; clear H1
  obtain rfl := Option.some.inj H
  go_enter Try.func32, Try.ntmps32
  go_wp2_with (first | ((with_reducible refine gate_dst (N := 4) rfl ?_); refine box_event ?hg (N := 4) ?hd (cs := #[.string a1_0, .string a1_1, .int .i64 a1_2, .string a1_3, .bool a1_4]) (t := 35) ?hr ?_; (case hd => rfl); (case hg => rfl); (case hr => first | (go_simp; done) | (go_simp; rfl)); intro gb239 hg w13 hbox hb; have n0_ := aS (below_step (by repeat (first | (with_reducible first | exact HB.out | apply bal | apply bdN | apply bdo) | exact HB.out)) hb); have n1_ := aS (hbox); have n2_ := aS ((by rw [hg]; exact (below_size (by repeat (first | (with_reducible first | exact HB.out | apply bal | apply bdN | apply bdo) | exact HB.out))) : w.heap.size ≤ gb239)); have n3_ := aS ((by rw [hg]; exact (below_size (by repeat (first | (with_reducible first | exact HB.out | apply bal | apply bdN | apply bdo) | exact HB.out))) : w.heap.size ≤ gb239)); clear HB; have HB := n0_; have BK239 := n1_; have GW239 := n2_; have GE239 := n3_; clear n0_ n1_ n2_ n3_; clear hb hbox hg; have hcz14_0 : w13.cell? ⟨gb239, 0, none⟩ = some (.string a1_0) := (blk_cell BK239.out 0).trans rfl; have hcz14_1 : w13.cell? ⟨gb239, 1, none⟩ = some (.string a1_1) := (blk_cell BK239.out 1).trans rfl; have hcz14_2 : w13.cell? ⟨gb239, 2, none⟩ = some (.int .i64 a1_2) := (blk_cell BK239.out 2).trans rfl; have hcz14_3 : w13.cell? ⟨gb239, 3, none⟩ = some (.string a1_3) := (blk_cell BK239.out 3).trans rfl; have hcz14_4 : w13.cell? ⟨gb239, 4, none⟩ = some (.bool a1_4) := (blk_cell BK239.out 4).trans rfl; have hfz14_0 := blk_frozen BK239.out 0; have hfz14_1 := blk_frozen BK239.out 1; have hfz14_2 := blk_frozen BK239.out 2; have hfz14_3 := blk_frozen BK239.out 3; have hfz14_4 := blk_frozen BK239.out 4) | ((with_reducible refine gate_callee (f := 39) rfl ?_); refine goesL_ (some 16) rfl rfl Try.func39 (by kernel_rfl) rfl #[.slice A0 l0.length c0, .string a1_0, .string a1_1, .int .i64 a2] rfl (by (try simp only [List.map_toArray, List.map_cons, List.map_nil]); first | done | rfl | (simp only [lld, llt]; rfl)) ?_; (with_reducible refine (shardlogref08_Newest.calls k _ _ l0 a1_0 a1_1 a2 t240 t241 t242 t243 t244 false _ ?side1 ?side2 A4.out).mono ?_); (case side1 => repeat (first | exact (Kd.C_below HR0.out HB.out) | (with_reducible refine Kd.C_alloc ?_ _) | (with_reducible refine Kd.C_drewN ?_ _) | (with_reducible refine Kd.C_drew ?_))); (case side2 => exact HC0.out); rintro e w15 ⟨rfl, hb⟩; refine ⟨_, rfl, ?_⟩; have n0_ := aS (blk_below (g := gb239) (o := .cells #[.string a1_0, .string a1_1, .int .i64 a1_2, .string a1_3, .bool a1_4] 35 (0, 0)) (by (with_reducible repeat (first | refine blk_drewN ?_ _ | refine blk_drew ?_ | refine blk_alloc ?_ _)); exact BK239.out) hb); have n1_ := aS (below_step (by repeat (first | (with_reducible first | exact HB.out | apply bal | apply bdN | apply bdo | refine below_set ?_ GE239.out) | exact HB.out)) hb); clear BK239; clear HB; have BK239 := n0_; have HB := n1_; clear n0_ n1_; (try clear hb); (try clear hb2); (try clear hk); (try clear hi)) | ((with_reducible refine gate_dst (N := 7) rfl ?_); refine box_event ?hg (N := 7) ?hd (cs := #[.string (⟨#[]⟩ : ByteArray), .string (⟨#[]⟩ : ByteArray), .int .i64 0, .string (⟨#[]⟩ : ByteArray), .bool false]) (t := 35) ?hr ?_; (case hd => rfl); (case hg => rfl); (case hr => first | (go_simp; done) | (go_simp; rfl)); intro gb246 hg w16 hbox hb; have n0_ := aS (blk_below (g := gb239) (o := .cells #[.string a1_0, .string a1_1, .int .i64 a1_2, .string a1_3, .bool a1_4] 35 (0, 0)) (by (with_reducible repeat (first | refine blk_drewN ?_ _ | refine blk_drew ?_ | refine blk_alloc ?_ _)); exact BK239.out) hb); have n1_ := aS (below_step (by repeat (first | (with_reducible first | exact HB.out | apply bal | apply bdN | apply bdo | refine below_set ?_ GE239.out) | exact HB.out)) hb); have n2_ := aS (hbox); have n3_ := aS ((by rw [hg]; exact (below_size (by repeat (first | (with_reducible first | exact HB.out | apply bal | apply bdN | apply bdo | refine below_set ?_ GE239.out) | exact HB.out))) : w.heap.size ≤ gb246)); have n4_ := aS ((by rw [hg]; exact (below_size (by repeat (first | (with_reducible first | exact HB.out | apply bal | apply bdN | apply bdo | refine below_set ?_ GE239.out) | exact HB.out))) : w.heap.size ≤ gb246)); have n5_ := aS ((by rw [hg]; exact Nat.ne_of_lt (blk_lt (g := gb239) (o := .cells #[.string a1_0, .string a1_1, .int .i64 a1_2, .string a1_3, .bool a1_4] 35 (0, 0)) (by (with_reducible repeat (first | refine blk_drewN ?_ _ | refine blk_drew ?_ | refine blk_alloc ?_ _)); exact BK239.out)) : gb239 ≠ gb246)); have n6_ := aS ((by rw [hg]; exact Nat.ne_of_gt (blk_lt (g := gb239) (o := .cells #[.string a1_0, .string a1_1, .int .i64 a1_2, .string a1_3, .bool a1_4] 35 (0, 0)) (by (with_reducible repeat (first | refine blk_drewN ?_ _ | refine blk_drew ?_ | refine blk_alloc ?_ _)); exact BK239.out)) : gb246 ≠ gb239)); clear BK239; clear HB; have BK239 := n0_; have HB := n1_; have BK246 := n2_; have GW246 := n3_; have GE246 := n4_; have NB239_246 := n5_; have NB246_239 := n6_; clear n0_ n1_ n2_ n3_ n4_ n5_ n6_; clear hb hbox hg; have hnb17 := NB246_239.out; have hnc17 := NB239_246.out; have hcz18_0 : w16.cell? ⟨gb246, 0, none⟩ = some (.string (⟨#[]⟩ : ByteArray)) := (blk_cell BK246.out 0).trans rfl; have hcz18_1 : w16.cell? ⟨gb246, 1, none⟩ = some (.string (⟨#[]⟩ : ByteArray)) := (blk_cell BK246.out 1).trans rfl; have hcz18_2 : w16.cell? ⟨gb246, 2, none⟩ = some (.int .i64 0) := (blk_cell BK246.out 2).trans rfl; have hcz18_3 : w16.cell? ⟨gb246, 3, none⟩ = some (.string (⟨#[]⟩ : ByteArray)) := (blk_cell BK246.out 3).trans rfl; have hcz18_4 : w16.cell? ⟨gb246, 4, none⟩ = some (.bool false) := (blk_cell BK246.out 4).trans rfl; have hfz18_0 := blk_frozen BK246.out 0; have hfz18_1 := blk_frozen BK246.out 1; have hfz18_2 := blk_frozen BK246.out 2; have hfz18_3 := blk_frozen BK246.out 3; have hfz18_4 := blk_frozen BK246.out 4))
  go_ret
  exact ⟨by first | rfl | (simp [errW_none, errW_some] <;> rfl) | (simp [*, errW_none, errW_some] <;> rfl), by repeat (first | (with_reducible first | exact HB.out | apply bal | apply bdN | apply bdo | refine below_set ?_ GE239.out | refine below_set ?_ GE246.out) | exact HB.out)⟩

/-! ### shardlogref13_Clean: function 19 -/
def shardlogref13_Clean.l0 : Nat → List (S35) → Int → List (S35) → Int → Option ((List (S35)))
 | 0, _, _, _, _ => none
 | k + 1, x0, x1, x5, x6 => if x6 < (x0.length : Int) then (if 0 ≤ x6 then (if ((rd_T35 x0 x6).f2) > x1 then (if x5.length < 2199023255552 then (shardlogref13_Clean.l0 k x0 x1 (x5 ++ [(⟨(rd_T35 x0 x6).f0, (rd_T35 x0 x6).f1, (rd_T35 x0 x6).f2, (rd_T35 x0 x6).f3, (rd_T35 x0 x6).f4⟩ : S35)]) (wrap64 (x6 + 1))) else (none)) else ((shardlogref13_newest.f k x0 ((rd_T35 x0 x6).f0) ((rd_T35 x0 x6).f1) ((rd_T35 x0 x6).f2) ((rd_T35 x0 x6).f3) ((rd_T35 x0 x6).f4) x1).bind fun t253 => (if t253 = true then (if ((rd_T35 x0 x6).f4 = true) then (shardlogref13_Clean.l0 k x0 x1 x5 (wrap64 (x6 + 1))) else (if x5.length < 2199023255552 then (shardlogref13_Clean.l0 k x0 x1 (x5 ++ [(⟨(rd_T35 x0 x6).f0, (rd_T35 x0 x6).f1, (rd_T35 x0 x6).f2, (rd_T35 x0 x6).f3, (rd_T35 x0 x6).f4⟩ : S35)]) (wrap64 (x6 + 1))) else (none))) else (shardlogref13_Clean.l0 k x0 x1 x5 (wrap64 (x6 + 1)))))) else (none)) else (some x5)
def shardlogref13_Clean.f (k : Nat) (l0 : List (S35)) (a1 : Int) : Option ((List (S35))) := shardlogref13_Clean.l0 k l0 a1 ([] : List (S35)) 0
theorem shardlogref13_Clean.mono_l : ∀ k, (∀ y0 y1 y2 y3, LeO (shardlogref13_Clean.l0 k y0 y1 y2 y3) (shardlogref13_Clean.l0 (k + 1) y0 y1 y2 y3))
 | 0 => fun _ _ _ _ r h => by simp [shardlogref13_Clean.l0] at h
 | k + 1 => by
  have ih0 := shardlogref13_Clean.mono_l k
  ·
   intro y0 y1 y2 y3
   unfold shardlogref13_Clean.l0
   repeat' first
   | (with_reducible exact ih0 _ _ _ _)
   | (with_reducible exact shardlogref13_newest.mono _ _ _ _ _ _ _ _)
   | (with_reducible exact LeO.refl _)
   | (with_reducible exact LeO.none _)
   | (with_reducible refine LeO.ite ?_ ?_)
   | (with_reducible refine LeO.bind ?_ (fun _ => ?_))
   | exact ih0 _ _ _ _
   | exact shardlogref13_newest.mono _ _ _ _ _ _ _ _
   | exact LeO.none _
   | refine LeO.ite ?_ ?_
   | refine LeO.bind ?_ (fun _ => ?_)
theorem shardlogref13_Clean.mono : ∀ a0 a1 k, LeO (shardlogref13_Clean.f k a0 a1) (shardlogref13_Clean.f (k + 1) a0 a1) := by
 intro a0 a1 k
 have ih0 := shardlogref13_Clean.mono_l k
 unfold shardlogref13_Clean.f
 repeat' first
   | (with_reducible exact ih0 _ _ _ _)
   | (with_reducible exact shardlogref13_newest.mono _ _ _ _ _ _ _ _)
   | (with_reducible exact LeO.refl _)
   | (with_reducible exact LeO.none _)
   | (with_reducible refine LeO.ite ?_ ?_)
   | (with_reducible refine LeO.bind ?_ (fun _ => ?_))
   | exact ih0 _ _ _ _
   | exact shardlogref13_newest.mono _ _ _ _ _ _ _ _
   | exact LeO.none _
   | refine LeO.ite ?_ ?_
   | refine LeO.bind ?_ (fun _ => ?_)
set_option maxHeartbeats 8000000 in
set_option maxRecDepth 100000 in
theorem shardlogref13_Clean.calls (k : Nat) (A0 : Option Addr) (c0 : Nat) (l0 : List (S35)) (a1 : Int) (r : List (S35)) (w : World) (hr0 : Kd.C k35 w A0 l0.length l0) (hc0 : l0.length ≤ c0) (h : shardlogref13_Clean.f k l0 a1 = some r) :
  Calls Try.prog 19 #[.slice A0 l0.length c0, .int .i64 a1] w fun e w' => ∃ v0_ : Value, e = .returned (v0_) ∧ Kd.R k35 35 w' w.heap.size (fun _ => True) v0_ r ∧ Below w.heap.size w w' := by
 have hu35 := Try.underlying35
 have HR0 := aS hr0
 have HC0 := aS hc0
 clear hr0 hc0
 have HB := aS (Below.refl w.heap.size w)
 have H : (shardlogref13_Clean.l0 k l0 a1 ([] : List (S35)) 0) = some r := h
 clear h
 have H' := aS H
 clear H
 go_enter Try.func19, Try.ntmps19
 go_wp2
 go_loopg [5, 6] k (fun kq v5 v6 w' => ∃ (x5_1 : List (S35)) (x6_1 : Int), v6 = .int .i64 x6_1 ∧ Aside0 (shardlogref13_Clean.l0 kq l0 a1 x5_1 x6_1 = some r) ∧ Aside0 (kq ≤ k) ∧ Aside0 (Kd.R k35 35 w' w.heap.size (fun _ => True) v5 x5_1) ∧ Aside0 (Below w.heap.size w w'))
 case atStart => exact ⟨(([] : List (S35))), (0), (by first | rfl | (simp; done) | (simp [*]; done) | (simp; exact (by decide : ∀ a_ b_ : Bool, (a_ == b_) = (!a_ != b_)) _ _)), H', ⟨Nat.le_refl _⟩, ⟨by first | exact Kd.R_nil _ _ _ _ _ | exact Kd.N_nil _ _ _ _ _ | exact Kd.V_nil _ _ _ _ _ | exact Kd.Q_nil _ _ _ _ _ | exact Kd.S_nil _ _ _ _ _⟩, ⟨by repeat (first | (with_reducible first | exact HB.out | apply bal | apply bdN | apply bdo) | exact HB.out)⟩⟩
 case round =>
  clear H'; (try clear c1); (try clear p2)
  obtain ⟨x5_1, x6_1, rfl, HA, HK1, HO_5, HB⟩ := hrel
  cases gk with
  | zero => exact absurd HA.out (by simp [shardlogref13_Clean.l0])
  | succ k1 =>
   have H := HA.out; clear HA
   simp only [shardlogref13_Clean.l0] at H
   by_cases c3 : x6_1 < (l0.length : Int)
   ·
    rw [if_pos c3] at H
    have c3b0 : decide (x6_1 < (l0.length : Int)) = true := decide_eq_true c3
    clear c3
    by_cases c4 : 0 ≤ x6_1
    ·
     rw [if_pos c4] at H
     have c4b0 : decide (0 ≤ x6_1) = true := decide_eq_true c4
     clear c4
     by_cases c5 : ((rd_T35 l0 x6_1).f2) > a1
     ·
      rw [if_pos c5] at H
      have c5b0 : decide (a1 < ((rd_T35 l0 x6_1).f2)) = true := decide_eq_true c5
      clear c5
      by_cases c6 : x5_1.length < 2199023255552
      ·
       rw [if_pos c6] at H
       have LMc6 := aS c6
       clear c6
       obtain ⟨y249, hy249⟩ : ∃ y_ : List (S35), y_ = (x5_1 ++ [(⟨(rd_T35 l0 x6_1).f0, (rd_T35 l0 x6_1).f1, (rd_T35 l0 x6_1).f2, (rd_T35 l0 x6_1).f3, (rd_T35 l0 x6_1).f4⟩ : S35)]) := ⟨_, rfl⟩
       replace H : (shardlogref13_Clean.l0 k1 l0 a1 y249 (wrap64 (x6_1 + 1))) = some r := by first | (rw [hy249]; with_reducible exact H) | (have H2_ := (Option.bind_some _ _).symm.trans H; rw [hy249]; with_reducible exact H2_) | (have H2_ := (Option.bind_some _ _).symm.trans H; with_reducible exact H2_) | with_reducible exact H | (rw [hy249]; exact H) | exact H
       have Ny249 := aS hy249
       clear hy249
       have H' := aS H
       clear H
       have p247 : 0 ≤ (x6_1 : Int) := odt (by first | (with_reducible assumption) | assumption)
       have q247 : x6_1 < (l0.length : Int) := odt (by first | (with_reducible assumption) | assumption)
       obtain ⟨ad247, e247, hx247_0, hx247_1, hx247_2, hx247_3, hx247_4⟩ := at_T35 HR0.out x6_1 p247 q247
       cases e247
       replace hx247_0 := (HB.out.cell (wbl w _ hx247_0)).trans hx247_0
       replace hx247_1 := (HB.out.cell (wbl w _ hx247_1)).trans hx247_1
       replace hx247_2 := (HB.out.cell (wbl w _ hx247_2)).trans hx247_2
       replace hx247_3 := (HB.out.cell (wbl w _ hx247_3)).trans hx247_3
       replace hx247_4 := (HB.out.cell (wbl w _ hx247_4)).trans hx247_4
       replace p247 := eq_true p247
       replace q247 := eq_true q247
       have p248 : 0 ≤ (x6_1 : Int) := odt (by first | (with_reducible assumption) | assumption)
       have q248 : x6_1 < (l0.length : Int) := odt (by first | (with_reducible assumption) | assumption)
       obtain ⟨ad248, e248, hx248_0, hx248_1, hx248_2, hx248_3, hx248_4⟩ := at_T35 HR0.out x6_1 p248 q248
       obtain rfl : ad247 = ad248 := (by injection e248)
       replace hx248_0 := (HB.out.cell (wbl w _ hx248_0)).trans hx248_0
       replace hx248_1 := (HB.out.cell (wbl w _ hx248_1)).trans hx248_1
       replace hx248_2 := (HB.out.cell (wbl w _ hx248_2)).trans hx248_2
       replace hx248_3 := (HB.out.cell (wbl w _ hx248_3)).trans hx248_3
       replace hx248_4 := (HB.out.cell (wbl w _ hx248_4)).trans hx248_4
       replace p248 := eq_true p248
       replace q248 := eq_true q248
       go_wp2_with (first | ((with_reducible refine gate_builtin (b := .append) (xs := #[.tmp 37, .tmp 42]) rfl ?_); at_builtin; refine Kd.R_append k35 (w0 := w) w.heap.size rfl (.tmp 37) (.tmp 42) 27 35 (.agg #[(.string ⟨#[]⟩), (.string ⟨#[]⟩), (.int .i64 0), (.string ⟨#[]⟩), (.bool false)]) 64 rfl Try.underlying27 info35 rfl (by decide) (by omega) u5 x5_1 (⟨(rd_T35 l0 x6_1).f0, (rd_T35 l0 x6_1).f1, (rd_T35 l0 x6_1).f2, (rd_T35 l0 x6_1).f3, (rd_T35 l0 x6_1).f4⟩ : S35) [.string ((rd_T35 l0 x6_1).f0), .string ((rd_T35 l0 x6_1).f1), .int .i64 ((rd_T35 l0 x6_1).f2), .string ((rd_T35 l0 x6_1).f3), .bool ((rd_T35 l0 x6_1).f4)] (fun _ => True) (fun _ => False) rfl rfl ?aP (fun _ hk => hk.elim) ?aF ?aO ?aB ?aS ?aL ?_; (case aP => exact k35_mkM _ _ _ (⟨(rd_T35 l0 x6_1).f0, (rd_T35 l0 x6_1).f1, (rd_T35 l0 x6_1).f2, (rd_T35 l0 x6_1).f3, (rd_T35 l0 x6_1).f4⟩ : S35)); (case aB => exact (by repeat (first | (with_reducible first | exact HB.out | apply bal | apply bdN | apply bdo) | exact HB.out))); (case aF => exact (fun _ _ => trivial)); (case aO => exact (by (with_reducible repeat (first | apply Kd.R_alloc | apply Kd.R_drewN | apply Kd.R_drew)); exact HO_5.out)); (case aS => exact (below_size (by repeat (first | (with_reducible first | exact HB.out | apply bal | apply bdN | apply bdo) | exact HB.out)))); (case aL => have := LMc6.out; omega); intro v250 w7 ho hb hg hat; rw [← Ny249.out] at ho; have n0_ := aS (hb); have n1_ := aS (ho); clear HB; clear HO_5; have HB := n0_; have HO251 := n1_; clear n0_ n1_; clear ho hb hg hat))
       go_roundg k1
       case measure => have := HK1.out; omega
       case rel => exact ⟨(y249), (wrap64 (x6_1 + 1)), (by first | rfl | (simp; done) | (simp [*]; done) | (simp; exact (by decide : ∀ a_ b_ : Bool, (a_ == b_) = (!a_ != b_)) _ _)), H', ⟨by have := HK1.out; omega⟩, ⟨by (with_reducible repeat (first | apply Kd.R_alloc | apply Kd.R_drewN | apply Kd.R_drew)); exact HO251.out⟩, ⟨by repeat (first | (with_reducible first | exact HB.out | apply bal | apply bdN | apply bdo) | exact HB.out)⟩⟩
      ·
       rw [if_neg c6] at H
       exact absurd H (by simp)
     ·
      rw [if_neg c5] at H
      have c5b0 : decide (a1 < ((rd_T35 l0 x6_1).f2)) = false := decide_eq_false c5
      clear c5
      replace H := obm H
      obtain ⟨t253, A80, H⟩ := H
      replace H : (if t253 = true then (if ((rd_T35 l0 x6_1).f4 = true) then (shardlogref13_Clean.l0 k1 l0 a1 x5_1 (wrap64 (x6_1 + 1))) else (if x5_1.length < 2199023255552 then (shardlogref13_Clean.l0 k1 l0 a1 (x5_1 ++ [(⟨(rd_T35 l0 x6_1).f0, (rd_T35 l0 x6_1).f1, (rd_T35 l0 x6_1).f2, (rd_T35 l0 x6_1).f3, (rd_T35 l0 x6_1).f4⟩ : S35)]) (wrap64 (x6_1 + 1))) else (none))) else (shardlogref13_Clean.l0 k1 l0 a1 x5_1 (wrap64 (x6_1 + 1)))) = some r := H
      have A8 := aS A80
      clear A80
      by_cases c9 : t253 = true
      ·
       subst c9
       have H1 : (if ((rd_T35 l0 x6_1).f4 = true) then (shardlogref13_Clean.l0 k1 l0 a1 x5_1 (wrap64 (x6_1 + 1))) else (if x5_1.length < 2199023255552 then (shardlogref13_Clean.l0 k1 l0 a1 (x5_1 ++ [(⟨(rd_T35 l0 x6_1).f0, (rd_T35 l0 x6_1).f1, (rd_T35 l0 x6_1).f2, (rd_T35 l0 x6_1).f3, (rd_T35 l0 x6_1).f4⟩ : S35)]) (wrap64 (x6_1 + 1))) else (none))) = some r := by rw [if_pos rfl] at H; exact H
       clear H; have H := H1; clear H1
       obtain ⟨bq10, hbq10⟩ : ∃ b_ : Bool, b_ = ((rd_T35 l0 x6_1).f4) := ⟨_, rfl⟩
       replace H : (if (bq10 = true) then (shardlogref13_Clean.l0 k1 l0 a1 x5_1 (wrap64 (x6_1 + 1))) else (if x5_1.length < 2199023255552 then (shardlogref13_Clean.l0 k1 l0 a1 (x5_1 ++ [(⟨(rd_T35 l0 x6_1).f0, (rd_T35 l0 x6_1).f1, (rd_T35 l0 x6_1).f2, (rd_T35 l0 x6_1).f3, bq10⟩ : S35)]) (wrap64 (x6_1 + 1))) else (none))) = some r := by rw [← hbq10] at H; exact H
       have Nbq10 := aS hbq10
       clear hbq10
       by_cases c11 : (bq10 = true)
       ·
        subst c11
        have H1 : (shardlogref13_Clean.l0 k1 l0 a1 x5_1 (wrap64 (x6_1 + 1))) = some r := by rw [if_pos rfl] at H; exact H
        clear H; have H := H1; clear H1
        have H' := aS H
        clear H
        have p247 : 0 ≤ (x6_1 : Int) := odt (by first | (with_reducible assumption) | assumption)
        have q247 : x6_1 < (l0.length : Int) := odt (by first | (with_reducible assumption) | assumption)
        obtain ⟨ad247, e247, hx247_0, hx247_1, hx247_2, hx247_3, hx247_4⟩ := at_T35 HR0.out x6_1 p247 q247
        (try rw [← Nbq10.out] at hx247_4)
        cases e247
        replace hx247_0 := (HB.out.cell (wbl w _ hx247_0)).trans hx247_0
        replace hx247_1 := (HB.out.cell (wbl w _ hx247_1)).trans hx247_1
        replace hx247_2 := (HB.out.cell (wbl w _ hx247_2)).trans hx247_2
        replace hx247_3 := (HB.out.cell (wbl w _ hx247_3)).trans hx247_3
        replace hx247_4 := (HB.out.cell (wbl w _ hx247_4)).trans hx247_4
        replace p247 := eq_true p247
        replace q247 := eq_true q247
        have p252 : 0 ≤ (x6_1 : Int) := odt (by first | (with_reducible assumption) | assumption)
        have q252 : x6_1 < (l0.length : Int) := odt (by first | (with_reducible assumption) | assumption)
        obtain ⟨ad252, e252, hx252_0, hx252_1, hx252_2, hx252_3, hx252_4⟩ := at_T35 HR0.out x6_1 p252 q252
        (try rw [← Nbq10.out] at hx252_4)
        obtain rfl : ad247 = ad252 := (by injection e252)
        replace hx252_0 := (HB.out.cell (wbl w _ hx252_0)).trans hx252_0
        replace hx252_1 := (HB.out.cell (wbl w _ hx252_1)).trans hx252_1
        replace hx252_2 := (HB.out.cell (wbl w _ hx252_2)).trans hx252_2
        replace hx252_3 := (HB.out.cell (wbl w _ hx252_3)).trans hx252_3
        replace hx252_4 := (HB.out.cell (wbl w _ hx252_4)).trans hx252_4
        replace p252 := eq_true p252
        replace q252 := eq_true q252
        go_wp2_with (first | (go_at_call 32; (with_reducible refine (shardlogref13_newest.calls k1 _ _ l0 ((rd_T35 l0 x6_1).f0) ((rd_T35 l0 x6_1).f1) ((rd_T35 l0 x6_1).f2) ((rd_T35 l0 x6_1).f3) true a1 true _ ?side1 ?side2 (by first | exact A8.out | (have h_ := A8.out; rw [← Nbq10.out] at h_; exact h_))).mono ?_); (case side1 => repeat (first | exact (Kd.C_below HR0.out HB.out) | (with_reducible refine Kd.C_alloc ?_ _) | (with_reducible refine Kd.C_drewN ?_ _) | (with_reducible refine Kd.C_drew ?_))); (case side2 => exact HC0.out); rintro e w12 ⟨rfl, hb⟩; have n0_ := aS (Kd.R_below (by (with_reducible repeat (first | apply Kd.R_alloc | apply Kd.R_drewN | apply Kd.R_drew)); exact HO_5.out) hb); have n1_ := aS (below_step (by repeat (first | (with_reducible first | exact HB.out | apply bal | apply bdN | apply bdo) | exact HB.out)) hb); clear HO_5; clear HB; have HO_5 := n0_; have HB := n1_; clear n0_ n1_; (try clear hb); (try clear hb2); (try clear hk); (try clear hi); have p254 : 0 ≤ (x6_1 : Int) := odt (by first | (with_reducible assumption) | assumption); have q254 : x6_1 < (l0.length : Int) := odt (by first | (with_reducible assumption) | assumption); obtain ⟨ad254, e254, hx254_0, hx254_1, hx254_2, hx254_3, hx254_4⟩ := at_T35 HR0.out x6_1 p254 q254; (try rw [← Nbq10.out] at hx254_4); obtain rfl : ad247 = ad254 := (by injection e254); replace hx254_0 := (HB.out.cell (wbl w _ hx254_0)).trans hx254_0; replace hx254_1 := (HB.out.cell (wbl w _ hx254_1)).trans hx254_1; replace hx254_2 := (HB.out.cell (wbl w _ hx254_2)).trans hx254_2; replace hx254_3 := (HB.out.cell (wbl w _ hx254_3)).trans hx254_3; replace hx254_4 := (HB.out.cell (wbl w _ hx254_4)).trans hx254_4; replace p254 := eq_true p254; replace q254 := eq_true q254))
        go_roundg k1
        case measure => have := HK1.out; omega
        case rel => exact ⟨(x5_1), (wrap64 (x6_1 + 1)), (by first | rfl | (simp; done) | (simp [*]; done) | (simp; exact (by decide : ∀ a_ b_ : Bool, (a_ == b_) = (!a_ != b_)) _ _)), H', ⟨by have := HK1.out; omega⟩, ⟨by (with_reducible repeat (first | apply Kd.R_alloc | apply Kd.R_drewN | apply Kd.R_drew)); exact HO_5.out⟩, ⟨by repeat (first | (with_reducible first | exact HB.out | apply bal | apply bdN | apply bdo) | exact HB.out)⟩⟩
       ·
        replace c11 := Bool.eq_false_iff.mpr c11
        subst c11
        have H1 : (if x5_1.length < 2199023255552 then (shardlogref13_Clean.l0 k1 l0 a1 (x5_1 ++ [(⟨(rd_T35 l0 x6_1).f0, (rd_T35 l0 x6_1).f1, (rd_T35 l0 x6_1).f2, (rd_T35 l0 x6_1).f3, false⟩ : S35)]) (wrap64 (x6_1 + 1))) else (none)) = some r := by rw [if_neg (show ¬ (false = true) by decide)] at H; exact H
        clear H; have H := H1; clear H1
        by_cases c13 : x5_1.length < 2199023255552
        ·
         rw [if_pos c13] at H
         have LMc13 := aS c13
         clear c13
         obtain ⟨y256, hy256⟩ : ∃ y_ : List (S35), y_ = (x5_1 ++ [(⟨(rd_T35 l0 x6_1).f0, (rd_T35 l0 x6_1).f1, (rd_T35 l0 x6_1).f2, (rd_T35 l0 x6_1).f3, false⟩ : S35)]) := ⟨_, rfl⟩
         replace H : (shardlogref13_Clean.l0 k1 l0 a1 y256 (wrap64 (x6_1 + 1))) = some r := by first | (rw [hy256]; with_reducible exact H) | (have H2_ := (Option.bind_some _ _).symm.trans H; rw [hy256]; with_reducible exact H2_) | (have H2_ := (Option.bind_some _ _).symm.trans H; with_reducible exact H2_) | with_reducible exact H | (rw [hy256]; exact H) | exact H
         have Ny256 := aS hy256
         clear hy256
         have H' := aS H
         clear H
         have p247 : 0 ≤ (x6_1 : Int) := odt (by first | (with_reducible assumption) | assumption)
         have q247 : x6_1 < (l0.length : Int) := odt (by first | (with_reducible assumption) | assumption)
         obtain ⟨ad247, e247, hx247_0, hx247_1, hx247_2, hx247_3, hx247_4⟩ := at_T35 HR0.out x6_1 p247 q247
         (try rw [← Nbq10.out] at hx247_4)
         cases e247
         replace hx247_0 := (HB.out.cell (wbl w _ hx247_0)).trans hx247_0
         replace hx247_1 := (HB.out.cell (wbl w _ hx247_1)).trans hx247_1
         replace hx247_2 := (HB.out.cell (wbl w _ hx247_2)).trans hx247_2
         replace hx247_3 := (HB.out.cell (wbl w _ hx247_3)).trans hx247_3
         replace hx247_4 := (HB.out.cell (wbl w _ hx247_4)).trans hx247_4
         replace p247 := eq_true p247
         replace q247 := eq_true q247
         have p252 : 0 ≤ (x6_1 : Int) := odt (by first | (with_reducible assumption) | assumption)
         have q252 : x6_1 < (l0.length : Int) := odt (by first | (with_reducible assumption) | assumption)
         obtain ⟨ad252, e252, hx252_0, hx252_1, hx252_2, hx252_3, hx252_4⟩ := at_T35 HR0.out x6_1 p252 q252
         (try rw [← Nbq10.out] at hx252_4)
         obtain rfl : ad247 = ad252 := (by injection e252)
         replace hx252_0 := (HB.out.cell (wbl w _ hx252_0)).trans hx252_0
         replace hx252_1 := (HB.out.cell (wbl w _ hx252_1)).trans hx252_1
         replace hx252_2 := (HB.out.cell (wbl w _ hx252_2)).trans hx252_2
         replace hx252_3 := (HB.out.cell (wbl w _ hx252_3)).trans hx252_3
         replace hx252_4 := (HB.out.cell (wbl w _ hx252_4)).trans hx252_4
         replace p252 := eq_true p252
         replace q252 := eq_true q252
         go_wp2_with (first | (go_at_call 32; (with_reducible refine (shardlogref13_newest.calls k1 _ _ l0 ((rd_T35 l0 x6_1).f0) ((rd_T35 l0 x6_1).f1) ((rd_T35 l0 x6_1).f2) ((rd_T35 l0 x6_1).f3) false a1 true _ ?side1 ?side2 (by first | exact A8.out | (have h_ := A8.out; rw [← Nbq10.out] at h_; exact h_))).mono ?_); (case side1 => repeat (first | exact (Kd.C_below HR0.out HB.out) | (with_reducible refine Kd.C_alloc ?_ _) | (with_reducible refine Kd.C_drewN ?_ _) | (with_reducible refine Kd.C_drew ?_))); (case side2 => exact HC0.out); rintro e w14 ⟨rfl, hb⟩; have n0_ := aS (Kd.R_below (by (with_reducible repeat (first | apply Kd.R_alloc | apply Kd.R_drewN | apply Kd.R_drew)); exact HO_5.out) hb); have n1_ := aS (below_step (by repeat (first | (with_reducible first | exact HB.out | apply bal | apply bdN | apply bdo) | exact HB.out)) hb); clear HO_5; clear HB; have HO_5 := n0_; have HB := n1_; clear n0_ n1_; (try clear hb); (try clear hb2); (try clear hk); (try clear hi); have p254 : 0 ≤ (x6_1 : Int) := odt (by first | (with_reducible assumption) | assumption); have q254 : x6_1 < (l0.length : Int) := odt (by first | (with_reducible assumption) | assumption); obtain ⟨ad254, e254, hx254_0, hx254_1, hx254_2, hx254_3, hx254_4⟩ := at_T35 HR0.out x6_1 p254 q254; (try rw [← Nbq10.out] at hx254_4); obtain rfl : ad247 = ad254 := (by injection e254); replace hx254_0 := (HB.out.cell (wbl w _ hx254_0)).trans hx254_0; replace hx254_1 := (HB.out.cell (wbl w _ hx254_1)).trans hx254_1; replace hx254_2 := (HB.out.cell (wbl w _ hx254_2)).trans hx254_2; replace hx254_3 := (HB.out.cell (wbl w _ hx254_3)).trans hx254_3; replace hx254_4 := (HB.out.cell (wbl w _ hx254_4)).trans hx254_4; replace p254 := eq_true p254; replace q254 := eq_true q254; have p255 : 0 ≤ (x6_1 : Int) := odt (by first | (with_reducible assumption) | assumption); have q255 : x6_1 < (l0.length : Int) := odt (by first | (with_reducible assumption) | assumption); obtain ⟨ad255, e255, hx255_0, hx255_1, hx255_2, hx255_3, hx255_4⟩ := at_T35 HR0.out x6_1 p255 q255; (try rw [← Nbq10.out] at hx255_4); obtain rfl : ad247 = ad255 := (by injection e255); replace hx255_0 := (HB.out.cell (wbl w _ hx255_0)).trans hx255_0; replace hx255_1 := (HB.out.cell (wbl w _ hx255_1)).trans hx255_1; replace hx255_2 := (HB.out.cell (wbl w _ hx255_2)).trans hx255_2; replace hx255_3 := (HB.out.cell (wbl w _ hx255_3)).trans hx255_3; replace hx255_4 := (HB.out.cell (wbl w _ hx255_4)).trans hx255_4; replace p255 := eq_true p255; replace q255 := eq_true q255) | ((with_reducible refine gate_builtin (b := .append) (xs := #[.tmp 37, .tmp 42]) rfl ?_); at_builtin; refine Kd.R_append k35 (w0 := w) w.heap.size rfl (.tmp 37) (.tmp 42) 27 35 (.agg #[(.string ⟨#[]⟩), (.string ⟨#[]⟩), (.int .i64 0), (.string ⟨#[]⟩), (.bool false)]) 64 rfl Try.underlying27 info35 rfl (by decide) (by omega) u5 x5_1 (⟨(rd_T35 l0 x6_1).f0, (rd_T35 l0 x6_1).f1, (rd_T35 l0 x6_1).f2, (rd_T35 l0 x6_1).f3, false⟩ : S35) [.string ((rd_T35 l0 x6_1).f0), .string ((rd_T35 l0 x6_1).f1), .int .i64 ((rd_T35 l0 x6_1).f2), .string ((rd_T35 l0 x6_1).f3), .bool false] (fun _ => True) (fun _ => False) rfl rfl ?aP (fun _ hk => hk.elim) ?aF ?aO ?aB ?aS ?aL ?_; (case aP => exact k35_mkM _ _ _ (⟨(rd_T35 l0 x6_1).f0, (rd_T35 l0 x6_1).f1, (rd_T35 l0 x6_1).f2, (rd_T35 l0 x6_1).f3, false⟩ : S35)); (case aB => exact (by repeat (first | (with_reducible first | exact HB.out | apply bal | apply bdN | apply bdo) | exact HB.out))); (case aF => exact (fun _ _ => trivial)); (case aO => exact (by (with_reducible repeat (first | apply Kd.R_alloc | apply Kd.R_drewN | apply Kd.R_drew)); exact HO_5.out)); (case aS => exact (below_size (by repeat (first | (with_reducible first | exact HB.out | apply bal | apply bdN | apply bdo) | exact HB.out)))); (case aL => have := LMc13.out; omega); intro v257 w15 ho hb hg hat; rw [← Ny256.out] at ho; have n0_ := aS (hb); have n1_ := aS (ho); clear HB; clear HO_5; have HB := n0_; have HO258 := n1_; clear n0_ n1_; clear ho hb hg hat))
         go_roundg k1
         case measure => have := HK1.out; omega
         case rel => exact ⟨(y256), (wrap64 (x6_1 + 1)), (by first | rfl | (simp; done) | (simp [*]; done) | (simp; exact (by decide : ∀ a_ b_ : Bool, (a_ == b_) = (!a_ != b_)) _ _)), H', ⟨by have := HK1.out; omega⟩, ⟨by (with_reducible repeat (first | apply Kd.R_alloc | apply Kd.R_drewN | apply Kd.R_drew)); exact HO258.out⟩, ⟨by repeat (first | (with_reducible first | exact HB.out | apply bal | apply bdN | apply bdo) | exact HB.out)⟩⟩
        ·
         rw [if_neg c13] at H
         exact absurd H (by simp)
      ·
       replace c9 := Bool.eq_false_iff.mpr c9
       subst c9
       have H1 : (shardlogref13_Clean.l0 k1 l0 a1 x5_1 (wrap64 (x6_1 + 1))) = some r := by rw [if_neg (show ¬ (false = true) by decide)] at H; exact H
       clear H; have H := H1; clear H1
       have H' := aS H
       clear H
       have p247 : 0 ≤ (x6_1 : Int) := odt (by first | (with_reducible assumption) | assumption)
       have q247 : x6_1 < (l0.length : Int) := odt (by first | (with_reducible assumption) | assumption)
       obtain ⟨ad247, e247, hx247_0, hx247_1, hx247_2, hx247_3, hx247_4⟩ := at_T35 HR0.out x6_1 p247 q247
       cases e247
       replace hx247_0 := (HB.out.cell (wbl w _ hx247_0)).trans hx247_0
       replace hx247_1 := (HB.out.cell (wbl w _ hx247_1)).trans hx247_1
       replace hx247_2 := (HB.out.cell (wbl w _ hx247_2)).trans hx247_2
       replace hx247_3 := (HB.out.cell (wbl w _ hx247_3)).trans hx247_3
       replace hx247_4 := (HB.out.cell (wbl w _ hx247_4)).trans hx247_4
       replace p247 := eq_true p247
       replace q247 := eq_true q247
       have p252 : 0 ≤ (x6_1 : Int) := odt (by first | (with_reducible assumption) | assumption)
       have q252 : x6_1 < (l0.length : Int) := odt (by first | (with_reducible assumption) | assumption)
       obtain ⟨ad252, e252, hx252_0, hx252_1, hx252_2, hx252_3, hx252_4⟩ := at_T35 HR0.out x6_1 p252 q252
       obtain rfl : ad247 = ad252 := (by injection e252)
       replace hx252_0 := (HB.out.cell (wbl w _ hx252_0)).trans hx252_0
       replace hx252_1 := (HB.out.cell (wbl w _ hx252_1)).trans hx252_1
       replace hx252_2 := (HB.out.cell (wbl w _ hx252_2)).trans hx252_2
       replace hx252_3 := (HB.out.cell (wbl w _ hx252_3)).trans hx252_3
       replace hx252_4 := (HB.out.cell (wbl w _ hx252_4)).trans hx252_4
       replace p252 := eq_true p252
       replace q252 := eq_true q252
       go_wp2_with (first | (go_at_call 32; (with_reducible refine (shardlogref13_newest.calls k1 _ _ l0 ((rd_T35 l0 x6_1).f0) ((rd_T35 l0 x6_1).f1) ((rd_T35 l0 x6_1).f2) ((rd_T35 l0 x6_1).f3) ((rd_T35 l0 x6_1).f4) a1 false _ ?side1 ?side2 A8.out).mono ?_); (case side1 => repeat (first | exact (Kd.C_below HR0.out HB.out) | (with_reducible refine Kd.C_alloc ?_ _) | (with_reducible refine Kd.C_drewN ?_ _) | (with_reducible refine Kd.C_drew ?_))); (case side2 => exact HC0.out); rintro e w16 ⟨rfl, hb⟩; have n0_ := aS (Kd.R_below (by (with_reducible repeat (first | apply Kd.R_alloc | apply Kd.R_drewN | apply Kd.R_drew)); exact HO_5.out) hb); have n1_ := aS (below_step (by repeat (first | (with_reducible first | exact HB.out | apply bal | apply bdN | apply bdo) | exact HB.out)) hb); clear HO_5; clear HB; have HO_5 := n0_; have HB := n1_; clear n0_ n1_; (try clear hb); (try clear hb2); (try clear hk); (try clear hi)))
       go_roundg k1
       case measure => have := HK1.out; omega
       case rel => exact ⟨(x5_1), (wrap64 (x6_1 + 1)), (by first | rfl | (simp; done) | (simp [*]; done) | (simp; exact (by decide : ∀ a_ b_ : Bool, (a_ == b_) = (!a_ != b_)) _ _)), H', ⟨by have := HK1.out; omega⟩, ⟨by (with_reducible repeat (first | apply Kd.R_alloc | apply Kd.R_drewN | apply Kd.R_drew)); exact HO_5.out⟩, ⟨by repeat (first | (with_reducible first | exact HB.out | apply bal | apply bdN | apply bdo) | exact HB.out)⟩⟩
    ·
     rw [if_neg c4] at H
     exact absurd H (by simp)
   ·
    rw [if_neg c3] at H
    have c3b0 : decide (x6_1 < (l0.length : Int)) = false := decide_eq_false c3
    clear c3
    obtain rfl := Option.some.inj H
    go_wp2
    go_ret
    exact ⟨_, by first | rfl | (simp [errW_none, errW_some] <;> rfl) | (simp [*, errW_none, errW_some] <;> rfl), by (with_reducible repeat (first | apply Kd.R_alloc | apply Kd.R_drewN | apply Kd.R_drew)); exact HO_5.out, by repeat (first | (with_reducible first | exact HB.out | apply bal | apply bdN | apply bdo) | exact HB.out)⟩

/-! ### shardlogref13_Visible: function 21 -/
def shardlogref13_Visible.l0 : Nat → List (S35) → Int → List (S35) → Int → Option ((List (S35)))
 | 0, _, _, _, _ => none
 | k + 1, x0, x1, x5, x6 => if x6 < (x0.length : Int) then (if 0 ≤ x6 then ((shardlogref13_newest.f k x0 ((rd_T35 x0 x6).f0) ((rd_T35 x0 x6).f1) ((rd_T35 x0 x6).f2) ((rd_T35 x0 x6).f3) ((rd_T35 x0 x6).f4) x1).bind fun t260 => (if t260 = true then (if ((rd_T35 x0 x6).f4 = true) then (shardlogref13_Visible.l0 k x0 x1 x5 (wrap64 (x6 + 1))) else (if x5.length < 2199023255552 then (shardlogref13_Visible.l0 k x0 x1 (x5 ++ [(⟨(rd_T35 x0 x6).f0, (rd_T35 x0 x6).f1, (rd_T35 x0 x6).f2, (rd_T35 x0 x6).f3, (rd_T35 x0 x6).f4⟩ : S35)]) (wrap64 (x6 + 1))) else (none))) else (shardlogref13_Visible.l0 k x0 x1 x5 (wrap64 (x6 + 1))))) else (none)) else (some x5)
def shardlogref13_Visible.f (k : Nat) (l0 : List (S35)) (a1 : Int) : Option ((List (S35))) := shardlogref13_Visible.l0 k l0 a1 ([] : List (S35)) 0
theorem shardlogref13_Visible.mono_l : ∀ k, (∀ y0 y1 y2 y3, LeO (shardlogref13_Visible.l0 k y0 y1 y2 y3) (shardlogref13_Visible.l0 (k + 1) y0 y1 y2 y3))
 | 0 => fun _ _ _ _ r h => by simp [shardlogref13_Visible.l0] at h
 | k + 1 => by
  have ih0 := shardlogref13_Visible.mono_l k
  ·
   intro y0 y1 y2 y3
   unfold shardlogref13_Visible.l0
   repeat' first
   | (with_reducible exact ih0 _ _ _ _)
   | (with_reducible exact shardlogref13_newest.mono _ _ _ _ _ _ _ _)
   | (with_reducible exact LeO.refl _)
   | (with_reducible exact LeO.none _)
   | (with_reducible refine LeO.ite ?_ ?_)
   | (with_reducible refine LeO.bind ?_ (fun _ => ?_))
   | exact ih0 _ _ _ _
   | exact shardlogref13_newest.mono _ _ _ _ _ _ _ _
   | exact LeO.none _
   | refine LeO.ite ?_ ?_
   | refine LeO.bind ?_ (fun _ => ?_)
theorem shardlogref13_Visible.mono : ∀ a0 a1 k, LeO (shardlogref13_Visible.f k a0 a1) (shardlogref13_Visible.f (k + 1) a0 a1) := by
 intro a0 a1 k
 have ih0 := shardlogref13_Visible.mono_l k
 unfold shardlogref13_Visible.f
 repeat' first
   | (with_reducible exact ih0 _ _ _ _)
   | (with_reducible exact shardlogref13_newest.mono _ _ _ _ _ _ _ _)
   | (with_reducible exact LeO.refl _)
   | (with_reducible exact LeO.none _)
   | (with_reducible refine LeO.ite ?_ ?_)
   | (with_reducible refine LeO.bind ?_ (fun _ => ?_))
   | exact ih0 _ _ _ _
   | exact shardlogref13_newest.mono _ _ _ _ _ _ _ _
   | exact LeO.none _
   | refine LeO.ite ?_ ?_
   | refine LeO.bind ?_ (fun _ => ?_)
set_option maxHeartbeats 8000000 in
set_option maxRecDepth 100000 in
theorem shardlogref13_Visible.calls (k : Nat) (A0 : Option Addr) (c0 : Nat) (l0 : List (S35)) (a1 : Int) (r : List (S35)) (w : World) (hr0 : Kd.C k35 w A0 l0.length l0) (hc0 : l0.length ≤ c0) (h : shardlogref13_Visible.f k l0 a1 = some r) :
  Calls Try.prog 21 #[.slice A0 l0.length c0, .int .i64 a1] w fun e w' => ∃ v0_ : Value, e = .returned (v0_) ∧ Kd.R k35 35 w' w.heap.size (fun _ => True) v0_ r ∧ Below w.heap.size w w' := by
 have hu35 := Try.underlying35
 have HR0 := aS hr0
 have HC0 := aS hc0
 clear hr0 hc0
 have HB := aS (Below.refl w.heap.size w)
 have H : (shardlogref13_Visible.l0 k l0 a1 ([] : List (S35)) 0) = some r := h
 clear h
 have H' := aS H
 clear H
 go_enter Try.func21, Try.ntmps21
 go_wp2
 go_loopg [5, 6] k (fun kq v5 v6 w' => ∃ (x5_1 : List (S35)) (x6_1 : Int), v6 = .int .i64 x6_1 ∧ Aside0 (shardlogref13_Visible.l0 kq l0 a1 x5_1 x6_1 = some r) ∧ Aside0 (kq ≤ k) ∧ Aside0 (Kd.R k35 35 w' w.heap.size (fun _ => True) v5 x5_1) ∧ Aside0 (Below w.heap.size w w'))
 case atStart => exact ⟨(([] : List (S35))), (0), (by first | rfl | (simp; done) | (simp [*]; done) | (simp; exact (by decide : ∀ a_ b_ : Bool, (a_ == b_) = (!a_ != b_)) _ _)), H', ⟨Nat.le_refl _⟩, ⟨by first | exact Kd.R_nil _ _ _ _ _ | exact Kd.N_nil _ _ _ _ _ | exact Kd.V_nil _ _ _ _ _ | exact Kd.Q_nil _ _ _ _ _ | exact Kd.S_nil _ _ _ _ _⟩, ⟨by repeat (first | (with_reducible first | exact HB.out | apply bal | apply bdN | apply bdo) | exact HB.out)⟩⟩
 case round =>
  clear H'; (try clear c2); (try clear p2)
  obtain ⟨x5_1, x6_1, rfl, HA, HK1, HO_5, HB⟩ := hrel
  cases gk with
  | zero => exact absurd HA.out (by simp [shardlogref13_Visible.l0])
  | succ k1 =>
   have H := HA.out; clear HA
   simp only [shardlogref13_Visible.l0] at H
   by_cases c3 : x6_1 < (l0.length : Int)
   ·
    rw [if_pos c3] at H
    have c3b0 : decide (x6_1 < (l0.length : Int)) = true := decide_eq_true c3
    clear c3
    by_cases c4 : 0 ≤ x6_1
    ·
     rw [if_pos c4] at H
     have c4b0 : decide (0 ≤ x6_1) = true := decide_eq_true c4
     clear c4
     replace H := obm H
     obtain ⟨t260, A50, H⟩ := H
     replace H : (if t260 = true then (if ((rd_T35 l0 x6_1).f4 = true) then (shardlogref13_Visible.l0 k1 l0 a1 x5_1 (wrap64 (x6_1 + 1))) else (if x5_1.length < 2199023255552 then (shardlogref13_Visible.l0 k1 l0 a1 (x5_1 ++ [(⟨(rd_T35 l0 x6_1).f0, (rd_T35 l0 x6_1).f1, (rd_T35 l0 x6_1).f2, (rd_T35 l0 x6_1).f3, (rd_T35 l0 x6_1).f4⟩ : S35)]) (wrap64 (x6_1 + 1))) else (none))) else (shardlogref13_Visible.l0 k1 l0 a1 x5_1 (wrap64 (x6_1 + 1)))) = some r := H
     have A5 := aS A50
     clear A50
     by_cases c6 : t260 = true
     ·
      subst c6
      have H1 : (if ((rd_T35 l0 x6_1).f4 = true) then (shardlogref13_Visible.l0 k1 l0 a1 x5_1 (wrap64 (x6_1 + 1))) else (if x5_1.length < 2199023255552 then (shardlogref13_Visible.l0 k1 l0 a1 (x5_1 ++ [(⟨(rd_T35 l0 x6_1).f0, (rd_T35 l0 x6_1).f1, (rd_T35 l0 x6_1).f2, (rd_T35 l0 x6_1).f3, (rd_T35 l0 x6_1).f4⟩ : S35)]) (wrap64 (x6_1 + 1))) else (none))) = some r := by rw [if_pos rfl] at H; exact H
      clear H; have H := H1; clear H1
      obtain ⟨bq7, hbq7⟩ : ∃ b_ : Bool, b_ = ((rd_T35 l0 x6_1).f4) := ⟨_, rfl⟩
      replace H : (if (bq7 = true) then (shardlogref13_Visible.l0 k1 l0 a1 x5_1 (wrap64 (x6_1 + 1))) else (if x5_1.length < 2199023255552 then (shardlogref13_Visible.l0 k1 l0 a1 (x5_1 ++ [(⟨(rd_T35 l0 x6_1).f0, (rd_T35 l0 x6_1).f1, (rd_T35 l0 x6_1).f2, (rd_T35 l0 x6_1).f3, bq7⟩ : S35)]) (wrap64 (x6_1 + 1))) else (none))) = some r := by rw [← hbq7] at H; exact H
      have Nbq7 := aS hbq7
      clear hbq7
      by_cases c8 : (bq7 = true)
      ·
       subst c8
       have H1 : (shardlogref13_Visible.l0 k1 l0 a1 x5_1 (wrap64 (x6_1 + 1))) = some r := by rw [if_pos rfl] at H; exact H
       clear H; have H := H1; clear H1
       have H' := aS H
       clear H
       have p259 : 0 ≤ (x6_1 : Int) := odt (by first | (with_reducible assumption) | assumption)
       have q259 : x6_1 < (l0.length : Int) := odt (by first | (with_reducible assumption) | assumption)
       obtain ⟨ad259, e259, hx259_0, hx259_1, hx259_2, hx259_3, hx259_4⟩ := at_T35 HR0.out x6_1 p259 q259
       (try rw [← Nbq7.out] at hx259_4)
       cases e259
       replace hx259_0 := (HB.out.cell (wbl w _ hx259_0)).trans hx259_0
       replace hx259_1 := (HB.out.cell (wbl w _ hx259_1)).trans hx259_1
       replace hx259_2 := (HB.out.cell (wbl w _ hx259_2)).trans hx259_2
       replace hx259_3 := (HB.out.cell (wbl w _ hx259_3)).trans hx259_3
       replace hx259_4 := (HB.out.cell (wbl w _ hx259_4)).trans hx259_4
       replace p259 := eq_true p259
       replace q259 := eq_true q259
       go_wp2_with (first | ((with_reducible refine gate_callee (f := 32) rfl ?_); refine goesL_ (some 19) rfl rfl Try.func32 (by kernel_rfl) rfl #[.slice (some ad259) l0.length c0, .agg #[.string ((rd_T35 l0 x6_1).f0), .string ((rd_T35 l0 x6_1).f1), .int .i64 ((rd_T35 l0 x6_1).f2), .string ((rd_T35 l0 x6_1).f3), .bool true], .int .i64 a1] rfl (by (try simp only [List.map_toArray, List.map_cons, List.map_nil]); first | done | rfl | (simp only [lld, llt]; rfl)) ?_; (with_reducible refine (shardlogref13_newest.calls k1 _ _ l0 ((rd_T35 l0 x6_1).f0) ((rd_T35 l0 x6_1).f1) ((rd_T35 l0 x6_1).f2) ((rd_T35 l0 x6_1).f3) true a1 true _ ?side1 ?side2 (by first | exact A5.out | (have h_ := A5.out; rw [← Nbq7.out] at h_; exact h_))).mono ?_); (case side1 => repeat (first | exact (Kd.C_below HR0.out HB.out) | (with_reducible refine Kd.C_alloc ?_ _) | (with_reducible refine Kd.C_drewN ?_ _) | (with_reducible refine Kd.C_drew ?_))); (case side2 => exact HC0.out); rintro e w9 ⟨rfl, hb⟩; refine ⟨_, rfl, ?_⟩; have n0_ := aS (Kd.R_below (by (with_reducible repeat (first | apply Kd.R_alloc | apply Kd.R_drewN | apply Kd.R_drew)); exact HO_5.out) hb); have n1_ := aS (below_step (by repeat (first | (with_reducible first | exact HB.out | apply bal | apply bdN | apply bdo) | exact HB.out)) hb); clear HO_5; clear HB; have HO_5 := n0_; have HB := n1_; clear n0_ n1_; (try clear hb); (try clear hb2); (try clear hk); (try clear hi); have p261 : 0 ≤ (x6_1 : Int) := odt (by first | (with_reducible assumption) | assumption); have q261 : x6_1 < (l0.length : Int) := odt (by first | (with_reducible assumption) | assumption); obtain ⟨ad261, e261, hx261_0, hx261_1, hx261_2, hx261_3, hx261_4⟩ := at_T35 HR0.out x6_1 p261 q261; (try rw [← Nbq7.out] at hx261_4); obtain rfl : ad259 = ad261 := (by injection e261); replace hx261_0 := (HB.out.cell (wbl w _ hx261_0)).trans hx261_0; replace hx261_1 := (HB.out.cell (wbl w _ hx261_1)).trans hx261_1; replace hx261_2 := (HB.out.cell (wbl w _ hx261_2)).trans hx261_2; replace hx261_3 := (HB.out.cell (wbl w _ hx261_3)).trans hx261_3; replace hx261_4 := (HB.out.cell (wbl w _ hx261_4)).trans hx261_4; replace p261 := eq_true p261; replace q261 := eq_true q261))
       go_roundg k1
       case measure => have := HK1.out; omega
       case rel => exact ⟨(x5_1), (wrap64 (x6_1 + 1)), (by first | rfl | (simp; done) | (simp [*]; done) | (simp; exact (by decide : ∀ a_ b_ : Bool, (a_ == b_) = (!a_ != b_)) _ _)), H', ⟨by have := HK1.out; omega⟩, ⟨by (with_reducible repeat (first | apply Kd.R_alloc | apply Kd.R_drewN | apply Kd.R_drew)); exact HO_5.out⟩, ⟨by repeat (first | (with_reducible first | exact HB.out | apply bal | apply bdN | apply bdo) | exact HB.out)⟩⟩
      ·
       replace c8 := Bool.eq_false_iff.mpr c8
       subst c8
       have H1 : (if x5_1.length < 2199023255552 then (shardlogref13_Visible.l0 k1 l0 a1 (x5_1 ++ [(⟨(rd_T35 l0 x6_1).f0, (rd_T35 l0 x6_1).f1, (rd_T35 l0 x6_1).f2, (rd_T35 l0 x6_1).f3, false⟩ : S35)]) (wrap64 (x6_1 + 1))) else (none)) = some r := by rw [if_neg (show ¬ (false = true) by decide)] at H; exact H
       clear H; have H := H1; clear H1
       by_cases c10 : x5_1.length < 2199023255552
       ·
        rw [if_pos c10] at H
        have LMc10 := aS c10
        clear c10
        obtain ⟨y263, hy263⟩ : ∃ y_ : List (S35), y_ = (x5_1 ++ [(⟨(rd_T35 l0 x6_1).f0, (rd_T35 l0 x6_1).f1, (rd_T35 l0 x6_1).f2, (rd_T35 l0 x6_1).f3, false⟩ : S35)]) := ⟨_, rfl⟩
        replace H : (shardlogref13_Visible.l0 k1 l0 a1 y263 (wrap64 (x6_1 + 1))) = some r := by first | (rw [hy263]; with_reducible exact H) | (have H2_ := (Option.bind_some _ _).symm.trans H; rw [hy263]; with_reducible exact H2_) | (have H2_ := (Option.bind_some _ _).symm.trans H; with_reducible exact H2_) | with_reducible exact H | (rw [hy263]; exact H) | exact H
        have Ny263 := aS hy263
        clear hy263
        have H' := aS H
        clear H
        have p259 : 0 ≤ (x6_1 : Int) := odt (by first | (with_reducible assumption) | assumption)
        have q259 : x6_1 < (l0.length : Int) := odt (by first | (with_reducible assumption) | assumption)
        obtain ⟨ad259, e259, hx259_0, hx259_1, hx259_2, hx259_3, hx259_4⟩ := at_T35 HR0.out x6_1 p259 q259
        (try rw [← Nbq7.out] at hx259_4)
        cases e259
        replace hx259_0 := (HB.out.cell (wbl w _ hx259_0)).trans hx259_0
        replace hx259_1 := (HB.out.cell (wbl w _ hx259_1)).trans hx259_1
        replace hx259_2 := (HB.out.cell (wbl w _ hx259_2)).trans hx259_2
        replace hx259_3 := (HB.out.cell (wbl w _ hx259_3)).trans hx259_3
        replace hx259_4 := (HB.out.cell (wbl w _ hx259_4)).trans hx259_4
        replace p259 := eq_true p259
        replace q259 := eq_true q259
        go_wp2_with (first | ((with_reducible refine gate_callee (f := 32) rfl ?_); refine goesL_ (some 19) rfl rfl Try.func32 (by kernel_rfl) rfl #[.slice (some ad259) l0.length c0, .agg #[.string ((rd_T35 l0 x6_1).f0), .string ((rd_T35 l0 x6_1).f1), .int .i64 ((rd_T35 l0 x6_1).f2), .string ((rd_T35 l0 x6_1).f3), .bool false], .int .i64 a1] rfl (by (try simp only [List.map_toArray, List.map_cons, List.map_nil]); first | done | rfl | (simp only [lld, llt]; rfl)) ?_; (with_reducible refine (shardlogref13_newest.calls k1 _ _ l0 ((rd_T35 l0 x6_1).f0) ((rd_T35 l0 x6_1).f1) ((rd_T35 l0 x6_1).f2) ((rd_T35 l0 x6_1).f3) false a1 true _ ?side1 ?side2 (by first | exact A5.out | (have h_ := A5.out; rw [← Nbq7.out] at h_; exact h_))).mono ?_); (case side1 => repeat (first | exact (Kd.C_below HR0.out HB.out) | (with_reducible refine Kd.C_alloc ?_ _) | (with_reducible refine Kd.C_drewN ?_ _) | (with_reducible refine Kd.C_drew ?_))); (case side2 => exact HC0.out); rintro e w11 ⟨rfl, hb⟩; refine ⟨_, rfl, ?_⟩; have n0_ := aS (Kd.R_below (by (with_reducible repeat (first | apply Kd.R_alloc | apply Kd.R_drewN | apply Kd.R_drew)); exact HO_5.out) hb); have n1_ := aS (below_step (by repeat (first | (with_reducible first | exact HB.out | apply bal | apply bdN | apply bdo) | exact HB.out)) hb); clear HO_5; clear HB; have HO_5 := n0_; have HB := n1_; clear n0_ n1_; (try clear hb); (try clear hb2); (try clear hk); (try clear hi); have p261 : 0 ≤ (x6_1 : Int) := odt (by first | (with_reducible assumption) | assumption); have q261 : x6_1 < (l0.length : Int) := odt (by first | (with_reducible assumption) | assumption); obtain ⟨ad261, e261, hx261_0, hx261_1, hx261_2, hx261_3, hx261_4⟩ := at_T35 HR0.out x6_1 p261 q261; (try rw [← Nbq7.out] at hx261_4); obtain rfl : ad259 = ad261 := (by injection e261); replace hx261_0 := (HB.out.cell (wbl w _ hx261_0)).trans hx261_0; replace hx261_1 := (HB.out.cell (wbl w _ hx261_1)).trans hx261_1; replace hx261_2 := (HB.out.cell (wbl w _ hx261_2)).trans hx261_2; replace hx261_3 := (HB.out.cell (wbl w _ hx261_3)).trans hx261_3; replace hx261_4 := (HB.out.cell (wbl w _ hx261_4)).trans hx261_4; replace p261 := eq_true p261; replace q261 := eq_true q261; have p262 : 0 ≤ (x6_1 : Int) := odt (by first | (with_reducible assumption) | assumption); have q262 : x6_1 < (l0.length : Int) := odt (by first | (with_reducible assumption) | assumption); obtain ⟨ad262, e262, hx262_0, hx262_1, hx262_2, hx262_3, hx262_4⟩ := at_T35 HR0.out x6_1 p262 q262; (try rw [← Nbq7.out] at hx262_4); obtain rfl : ad259 = ad262 := (by injection e262); replace hx262_0 := (HB.out.cell (wbl w _ hx262_0)).trans hx262_0; replace hx262_1 := (HB.out.cell (wbl w _ hx262_1)).trans hx262_1; replace hx262_2 := (HB.out.cell (wbl w _ hx262_2)).trans hx262_2; replace hx262_3 := (HB.out.cell (wbl w _ hx262_3)).trans hx262_3; replace hx262_4 := (HB.out.cell (wbl w _ hx262_4)).trans hx262_4; replace p262 := eq_true p262; replace q262 := eq_true q262) | ((with_reducible refine gate_builtin (b := .append) (xs := #[.tmp 28, .tmp 33]) rfl ?_); at_builtin; refine Kd.R_append k35 (w0 := w) w.heap.size rfl (.tmp 28) (.tmp 33) 27 35 (.agg #[(.string ⟨#[]⟩), (.string ⟨#[]⟩), (.int .i64 0), (.string ⟨#[]⟩), (.bool false)]) 64 rfl Try.underlying27 info35 rfl (by decide) (by omega) u5 x5_1 (⟨(rd_T35 l0 x6_1).f0, (rd_T35 l0 x6_1).f1, (rd_T35 l0 x6_1).f2, (rd_T35 l0 x6_1).f3, false⟩ : S35) [.string ((rd_T35 l0 x6_1).f0), .string ((rd_T35 l0 x6_1).f1), .int .i64 ((rd_T35 l0 x6_1).f2), .string ((rd_T35 l0 x6_1).f3), .bool false] (fun _ => True) (fun _ => False) rfl rfl ?aP (fun _ hk => hk.elim) ?aF ?aO ?aB ?aS ?aL ?_; (case aP => exact k35_mkM _ _ _ (⟨(rd_T35 l0 x6_1).f0, (rd_T35 l0 x6_1).f1, (rd_T35 l0 x6_1).f2, (rd_T35 l0 x6_1).f3, false⟩ : S35)); (case aB => exact (by repeat (first | (with_reducible first | exact HB.out | apply bal | apply bdN | apply bdo) | exact HB.out))); (case aF => exact (fun _ _ => trivial)); (case aO => exact (by (with_reducible repeat (first | apply Kd.R_alloc | apply Kd.R_drewN | apply Kd.R_drew)); exact HO_5.out)); (case aS => exact (below_size (by repeat (first | (with_reducible first | exact HB.out | apply bal | apply bdN | apply bdo) | exact HB.out)))); (case aL => have := LMc10.out; omega); intro v264 w12 ho hb hg hat; rw [← Ny263.out] at ho; have n0_ := aS (hb); have n1_ := aS (ho); clear HB; clear HO_5; have HB := n0_; have HO265 := n1_; clear n0_ n1_; clear ho hb hg hat))
        go_roundg k1
        case measure => have := HK1.out; omega
        case rel => exact ⟨(y263), (wrap64 (x6_1 + 1)), (by first | rfl | (simp; done) | (simp [*]; done) | (simp; exact (by decide : ∀ a_ b_ : Bool, (a_ == b_) = (!a_ != b_)) _ _)), H', ⟨by have := HK1.out; omega⟩, ⟨by (with_reducible repeat (first | apply Kd.R_alloc | apply Kd.R_drewN | apply Kd.R_drew)); exact HO265.out⟩, ⟨by repeat (first | (with_reducible first | exact HB.out | apply bal | apply bdN | apply bdo) | exact HB.out)⟩⟩
       ·
        rw [if_neg c10] at H
        exact absurd H (by simp)
     ·
      replace c6 := Bool.eq_false_iff.mpr c6
      subst c6
      have H1 : (shardlogref13_Visible.l0 k1 l0 a1 x5_1 (wrap64 (x6_1 + 1))) = some r := by rw [if_neg (show ¬ (false = true) by decide)] at H; exact H
      clear H; have H := H1; clear H1
      have H' := aS H
      clear H
      have p259 : 0 ≤ (x6_1 : Int) := odt (by first | (with_reducible assumption) | assumption)
      have q259 : x6_1 < (l0.length : Int) := odt (by first | (with_reducible assumption) | assumption)
      obtain ⟨ad259, e259, hx259_0, hx259_1, hx259_2, hx259_3, hx259_4⟩ := at_T35 HR0.out x6_1 p259 q259
      cases e259
      replace hx259_0 := (HB.out.cell (wbl w _ hx259_0)).trans hx259_0
      replace hx259_1 := (HB.out.cell (wbl w _ hx259_1)).trans hx259_1
      replace hx259_2 := (HB.out.cell (wbl w _ hx259_2)).trans hx259_2
      replace hx259_3 := (HB.out.cell (wbl w _ hx259_3)).trans hx259_3
      replace hx259_4 := (HB.out.cell (wbl w _ hx259_4)).trans hx259_4
      replace p259 := eq_true p259
      replace q259 := eq_true q259
      go_wp2_with (first | ((with_reducible refine gate_callee (f := 32) rfl ?_); refine goesL_ (some 19) rfl rfl Try.func32 (by kernel_rfl) rfl #[.slice (some ad259) l0.length c0, .agg #[.string ((rd_T35 l0 x6_1).f0), .string ((rd_T35 l0 x6_1).f1), .int .i64 ((rd_T35 l0 x6_1).f2), .string ((rd_T35 l0 x6_1).f3), .bool ((rd_T35 l0 x6_1).f4)], .int .i64 a1] rfl (by (try simp only [List.map_toArray, List.map_cons, List.map_nil]); first | done | rfl | (simp only [lld, llt]; rfl)) ?_; (with_reducible refine (shardlogref13_newest.calls k1 _ _ l0 ((rd_T35 l0 x6_1).f0) ((rd_T35 l0 x6_1).f1) ((rd_T35 l0 x6_1).f2) ((rd_T35 l0 x6_1).f3) ((rd_T35 l0 x6_1).f4) a1 false _ ?side1 ?side2 A5.out).mono ?_); (case side1 => repeat (first | exact (Kd.C_below HR0.out HB.out) | (with_reducible refine Kd.C_alloc ?_ _) | (with_reducible refine Kd.C_drewN ?_ _) | (with_reducible refine Kd.C_drew ?_))); (case side2 => exact HC0.out); rintro e w13 ⟨rfl, hb⟩; refine ⟨_, rfl, ?_⟩; have n0_ := aS (Kd.R_below (by (with_reducible repeat (first | apply Kd.R_alloc | apply Kd.R_drewN | apply Kd.R_drew)); exact HO_5.out) hb); have n1_ := aS (below_step (by repeat (first | (with_reducible first | exact HB.out | apply bal | apply bdN | apply bdo) | exact HB.out)) hb); clear HO_5; clear HB; have HO_5 := n0_; have HB := n1_; clear n0_ n1_; (try clear hb); (try clear hb2); (try clear hk); (try clear hi)))
      go_roundg k1
      case measure => have := HK1.out; omega
      case rel => exact ⟨(x5_1), (wrap64 (x6_1 + 1)), (by first | rfl | (simp; done) | (simp [*]; done) | (simp; exact (by decide : ∀ a_ b_ : Bool, (a_ == b_) = (!a_ != b_)) _ _)), H', ⟨by have := HK1.out; omega⟩, ⟨by (with_reducible repeat (first | apply Kd.R_alloc | apply Kd.R_drewN | apply Kd.R_drew)); exact HO_5.out⟩, ⟨by repeat (first | (with_reducible first | exact HB.out | apply bal | apply bdN | apply bdo) | exact HB.out)⟩⟩
    ·
     rw [if_neg c4] at H
     exact absurd H (by simp)
   ·
    rw [if_neg c3] at H
    have c3b0 : decide (x6_1 < (l0.length : Int)) = false := decide_eq_false c3
    clear c3
    obtain rfl := Option.some.inj H
    go_wp2
    go_ret
    exact ⟨_, by first | rfl | (simp [errW_none, errW_some] <;> rfl) | (simp [*, errW_none, errW_some] <;> rfl), by (with_reducible repeat (first | apply Kd.R_alloc | apply Kd.R_drewN | apply Kd.R_drew)); exact HO_5.out, by repeat (first | (with_reducible first | exact HB.out | apply bal | apply bdN | apply bdo) | exact HB.out)⟩

/-! ### shardloglaw13_MergeCleans: function 4 -/
def shardloglaw13_MergeCleans.j0 : Nat → List (S35) → Int → Bool → Option (Bool)
 | 0, _, _, _ => none
 | k + 1, x0, x1, x12 => if x12 = true then ((shardloglaw13_awake.f k).bind fun t268 => (some t268)) else ((shardlogref08_Sort.f k x0).bind fun t269 => ((merge_Clean.f k t269 x1).bind fun t272 => ((shardlogref13_Clean.f k t269 x1).bind fun t275 => ((shardlogref08_Same.f k t272 t275).bind fun t278 => (if t278 = true then ((merge_Visible.f k t269 x1).bind fun t279 => ((shardlogref13_Visible.f k t269 x1).bind fun t282 => ((shardlogref08_Same.f k t279 t282).bind fun t285 => (some t285)))) else (none))))))
def shardloglaw13_MergeCleans.f (k : Nat) (l0 : List (S35)) (a1 : Int) : Option (Bool) := (shardloglaw13_awake.f k).bind fun t266 => (if t266 = true then ((shardlogref08_Few.f k l0).bind fun t267 => (shardloglaw13_MergeCleans.j0 k l0 a1 (!t267))) else (shardloglaw13_MergeCleans.j0 k l0 a1 true))
theorem shardloglaw13_MergeCleans.mono_l : ∀ k, (∀ y0 y1 y2, LeO (shardloglaw13_MergeCleans.j0 k y0 y1 y2) (shardloglaw13_MergeCleans.j0 (k + 1) y0 y1 y2))
 | 0 => fun _ _ _ r h => by simp [shardloglaw13_MergeCleans.j0] at h
 | k + 1 => by
  have ih0 := shardloglaw13_MergeCleans.mono_l k
  ·
   intro y0 y1 y2
   unfold shardloglaw13_MergeCleans.j0
   repeat' first
   | (with_reducible exact ih0 _ _ _)
   | (with_reducible exact merge_Clean.mono _ _ _)
   | (with_reducible exact merge_Visible.mono _ _ _)
   | (with_reducible exact shardloglaw13_awake.mono _)
   | (with_reducible exact shardlogref08_Few.mono _ _)
   | (with_reducible exact shardlogref08_Same.mono _ _ _)
   | (with_reducible exact shardlogref08_Sort.mono _ _)
   | (with_reducible exact shardlogref13_Clean.mono _ _ _)
   | (with_reducible exact shardlogref13_Visible.mono _ _ _)
   | (with_reducible exact LeO.refl _)
   | (with_reducible exact LeO.none _)
   | (with_reducible refine LeO.ite ?_ ?_)
   | (with_reducible refine LeO.bind ?_ (fun _ => ?_))
   | exact ih0 _ _ _
   | exact merge_Clean.mono _ _ _
   | exact merge_Visible.mono _ _ _
   | exact shardloglaw13_awake.mono _
   | exact shardlogref08_Few.mono _ _
   | exact shardlogref08_Same.mono _ _ _
   | exact shardlogref08_Sort.mono _ _
   | exact shardlogref13_Clean.mono _ _ _
   | exact shardlogref13_Visible.mono _ _ _
   | exact LeO.none _
   | refine LeO.ite ?_ ?_
   | refine LeO.bind ?_ (fun _ => ?_)
theorem shardloglaw13_MergeCleans.mono : ∀ a0 a1 k, LeO (shardloglaw13_MergeCleans.f k a0 a1) (shardloglaw13_MergeCleans.f (k + 1) a0 a1) := by
 intro a0 a1 k
 have ih0 := shardloglaw13_MergeCleans.mono_l k
 unfold shardloglaw13_MergeCleans.f
 repeat' first
   | (with_reducible exact ih0 _ _ _)
   | (with_reducible exact merge_Clean.mono _ _ _)
   | (with_reducible exact merge_Visible.mono _ _ _)
   | (with_reducible exact shardloglaw13_awake.mono _)
   | (with_reducible exact shardlogref08_Few.mono _ _)
   | (with_reducible exact shardlogref08_Same.mono _ _ _)
   | (with_reducible exact shardlogref08_Sort.mono _ _)
   | (with_reducible exact shardlogref13_Clean.mono _ _ _)
   | (with_reducible exact shardlogref13_Visible.mono _ _ _)
   | (with_reducible exact LeO.refl _)
   | (with_reducible exact LeO.none _)
   | (with_reducible refine LeO.ite ?_ ?_)
   | (with_reducible refine LeO.bind ?_ (fun _ => ?_))
   | exact ih0 _ _ _
   | exact merge_Clean.mono _ _ _
   | exact merge_Visible.mono _ _ _
   | exact shardloglaw13_awake.mono _
   | exact shardlogref08_Few.mono _ _
   | exact shardlogref08_Same.mono _ _ _
   | exact shardlogref08_Sort.mono _ _
   | exact shardlogref13_Clean.mono _ _ _
   | exact shardlogref13_Visible.mono _ _ _
   | exact LeO.none _
   | refine LeO.ite ?_ ?_
   | refine LeO.bind ?_ (fun _ => ?_)
set_option maxHeartbeats 8000000 in
set_option maxRecDepth 100000 in
theorem shardloglaw13_MergeCleans.calls (k : Nat) (A0 : Option Addr) (c0 : Nat) (l0 : List (S35)) (a1 : Int) (r : Bool) (w : World) (hr0 : Kd.C k35 w A0 l0.length l0) (hc0 : l0.length ≤ c0) (h : shardloglaw13_MergeCleans.f k l0 a1 = some r) :
  Calls Try.prog 4 #[.slice A0 l0.length c0, .int .i64 a1] w fun e w' => e = .returned (.bool r) ∧ Below w.heap.size w w' := by
 have HR0 := aS hr0
 have HC0 := aS hc0
 clear hr0 hc0
 have HB := aS (Below.refl w.heap.size w)
 have H : ((shardloglaw13_awake.f k).bind fun t266 => (if t266 = true then ((shardlogref08_Few.f k l0).bind fun t267 => (shardloglaw13_MergeCleans.j0 k l0 a1 (!t267))) else (shardloglaw13_MergeCleans.j0 k l0 a1 true))) = some r := h
 clear h
 have HC3 := aS H
 clear H
 go_enter Try.func4, Try.ntmps4
 go_upto_region 1 with (fail)
 go_cut [12] (fun v12 wc => ∃ (kq : Nat) (x12_2 : Bool), v12 = .bool x12_2 ∧ Aside0 (shardloglaw13_MergeCleans.j0 kq l0 a1 x12_2 = some r) ∧ Aside0 (kq ≤ k) ∧ Aside0 (Below w.heap.size w wc))
 case first =>
  have H := HC3.out; clear HC3
  replace H := obm H
  obtain ⟨t266, A40, H⟩ := H
  replace H : (if t266 = true then ((shardlogref08_Few.f k l0).bind fun t267 => (shardloglaw13_MergeCleans.j0 k l0 a1 (!t267))) else (shardloglaw13_MergeCleans.j0 k l0 a1 true)) = some r := H
  have A4 := aS A40
  clear A40
  by_cases c5 : t266 = true
  ·
   subst c5
   have H1 : ((shardlogref08_Few.f k l0).bind fun t267 => (shardloglaw13_MergeCleans.j0 k l0 a1 (!t267))) = some r := by rw [if_pos rfl] at H; exact H
   clear H; have H := H1; clear H1
   replace H := obm H
   obtain ⟨t267, A60, H⟩ := H
   replace H : (shardloglaw13_MergeCleans.j0 k l0 a1 (!t267)) = some r := H
   have A6 := aS A60
   clear A60
   have H' := aS H
   clear H
   go_wp2_with (first | ((with_reducible refine gate_callee (f := 10) rfl ?_); refine goesL_ (some 6) rfl rfl Try.func10 (by kernel_rfl) rfl #[] rfl (by (try simp only [List.map_toArray, List.map_cons, List.map_nil]); first | done | rfl | (simp only [lld, llt]; rfl)) ?_; (with_reducible refine (shardloglaw13_awake.calls k  true _ A4.out).mono ?_); rintro e w7 ⟨rfl, hb⟩; refine ⟨_, rfl, ?_⟩; have n0_ := aS (below_step (by repeat (first | (with_reducible first | exact HB.out | apply bal | apply bdN | apply bdo) | exact HB.out)) hb); clear HB; have HB := n0_; clear n0_; (try clear hb); (try clear hb2); (try clear hk); (try clear hi)) | (go_at_call 16; (with_reducible refine (shardlogref08_Few.calls k _ _ l0 t267 _ ?side1 ?side2 A6.out).mono ?_); (case side1 => repeat (first | exact (Kd.C_below HR0.out HB.out) | (with_reducible refine Kd.C_alloc ?_ _) | (with_reducible refine Kd.C_drewN ?_ _) | (with_reducible refine Kd.C_drew ?_))); (case side2 => exact HC0.out); rintro e w8 ⟨rfl, hb⟩; have n0_ := aS (below_step (by repeat (first | (with_reducible first | exact HB.out | apply bal | apply bdN | apply bdo) | exact HB.out)) hb); clear HB; have HB := n0_; clear n0_; (try clear hb); (try clear hb2); (try clear hk); (try clear hi)))
   go_meet
   case rel => exact ⟨_, (!t267), (by first | rfl | (simp; done) | (simp [*]; done) | (simp; exact (by decide : ∀ a_ b_ : Bool, (a_ == b_) = (!a_ != b_)) _ _)), H', ⟨by first | omega | exact Nat.le_refl _⟩, ⟨by repeat (first | (with_reducible first | exact HB.out | apply bal | apply bdN | apply bdo) | exact HB.out)⟩⟩
  ·
   replace c5 := Bool.eq_false_iff.mpr c5
   subst c5
   have H1 : (shardloglaw13_MergeCleans.j0 k l0 a1 true) = some r := by rw [if_neg (show ¬ (false = true) by decide)] at H; exact H
   clear H; have H := H1; clear H1
   have H' := aS H
   clear H
   go_wp2_with (first | ((with_reducible refine gate_callee (f := 10) rfl ?_); refine goesL_ (some 6) rfl rfl Try.func10 (by kernel_rfl) rfl #[] rfl (by (try simp only [List.map_toArray, List.map_cons, List.map_nil]); first | done | rfl | (simp only [lld, llt]; rfl)) ?_; (with_reducible refine (shardloglaw13_awake.calls k  false _ A4.out).mono ?_); rintro e w9 ⟨rfl, hb⟩; refine ⟨_, rfl, ?_⟩; have n0_ := aS (below_step (by repeat (first | (with_reducible first | exact HB.out | apply bal | apply bdN | apply bdo) | exact HB.out)) hb); clear HB; have HB := n0_; clear n0_; (try clear hb); (try clear hb2); (try clear hk); (try clear hi)))
   go_meet
   case rel => exact ⟨_, (true), (by first | rfl | (simp; done) | (simp [*]; done) | (simp; exact (by decide : ∀ a_ b_ : Bool, (a_ == b_) = (!a_ != b_)) _ _)), H', ⟨by first | omega | exact Nat.le_refl _⟩, ⟨by repeat (first | (with_reducible first | exact HB.out | apply bal | apply bdN | apply bdo) | exact HB.out)⟩⟩
 case rest =>
  clear HC3; (try clear c1); (try clear p2); (try clear c4); (try clear c5)
  obtain ⟨kq, x12_2, rfl, HA, HJ2, HB⟩ := hcut
  cases kq with
  | zero => exact absurd HA.out (by simp [shardloglaw13_MergeCleans.j0])
  | succ kj2 =>
   have H := HA.out; clear HA
   simp only [shardloglaw13_MergeCleans.j0] at H
   by_cases c10 : x12_2 = true
   ·
    subst c10
    have H1 : ((shardloglaw13_awake.f kj2).bind fun t268 => (some t268)) = some r := by rw [if_pos rfl] at H; exact H
    clear H; have H := H1; clear H1
    replace H := obm H
    obtain ⟨t268, A110, H⟩ := H
    replace H : (some t268) = some r := H
    have A11 := aS A110
    clear A110
    obtain rfl := Option.some.inj H
    go_wp2_with (first | ((with_reducible refine gate_callee (f := 10) rfl ?_); refine goesL_ (some 13) rfl rfl Try.func10 (by kernel_rfl) rfl #[] rfl (by (try simp only [List.map_toArray, List.map_cons, List.map_nil]); first | done | rfl | (simp only [lld, llt]; rfl)) ?_; (with_reducible refine (shardloglaw13_awake.calls kj2  t268 _ A11.out).mono ?_); rintro e w12 ⟨rfl, hb⟩; refine ⟨_, rfl, ?_⟩; have n0_ := aS (below_step (by repeat (first | (with_reducible first | exact HB.out | apply bal | apply bdN | apply bdo) | exact HB.out)) hb); clear HB; have HB := n0_; clear n0_; (try clear hb); (try clear hb2); (try clear hk); (try clear hi)))
    go_ret
    exact ⟨by first | rfl | (simp [errW_none, errW_some] <;> rfl) | (simp [*, errW_none, errW_some] <;> rfl), by repeat (first | (with_reducible first | exact HB.out | apply bal | apply bdN | apply bdo) | exact HB.out)⟩
   ·
    replace c10 := Bool.eq_false_iff.mpr c10
    subst c10
    have H1 : ((shardlogref08_Sort.f kj2 l0).bind fun t269 => ((merge_Clean.f kj2 t269 a1).bind fun t272 => ((shardlogref13_Clean.f kj2 t269 a1).bind fun t275 => ((shardlogref08_Same.f kj2 t272 t275).bind fun t278 => (if t278 = true then ((merge_Visible.f kj2 t269 a1).bind fun t279 => ((shardlogref13_Visible.f kj2 t269 a1).bind fun t282 => ((shardlogref08_Same.f kj2 t279 t282).bind fun t285 => (some t285)))) else (none)))))) = some r := by rw [if_neg (show ¬ (false = true) by decide)] at H; exact H
    clear H; have H := H1; clear H1
    replace H := obm H
    obtain ⟨t269, A130, H⟩ := H
    replace H : ((merge_Clean.f kj2 t269 a1).bind fun t272 => ((shardlogref13_Clean.f kj2 t269 a1).bind fun t275 => ((shardlogref08_Same.f kj2 t272 t275).bind fun t278 => (if t278 = true then ((merge_Visible.f kj2 t269 a1).bind fun t279 => ((shardlogref13_Visible.f kj2 t269 a1).bind fun t282 => ((shardlogref08_Same.f kj2 t279 t282).bind fun t285 => (some t285)))) else (none))))) = some r := H
    have A13 := aS A130
    clear A130
    replace H := obm H
    obtain ⟨t272, A140, H⟩ := H
    replace H : ((shardlogref13_Clean.f kj2 t269 a1).bind fun t275 => ((shardlogref08_Same.f kj2 t272 t275).bind fun t278 => (if t278 = true then ((merge_Visible.f kj2 t269 a1).bind fun t279 => ((shardlogref13_Visible.f kj2 t269 a1).bind fun t282 => ((shardlogref08_Same.f kj2 t279 t282).bind fun t285 => (some t285)))) else (none)))) = some r := H
    have A14 := aS A140
    clear A140
    replace H := obm H
    obtain ⟨t275, A150, H⟩ := H
    replace H : ((shardlogref08_Same.f kj2 t272 t275).bind fun t278 => (if t278 = true then ((merge_Visible.f kj2 t269 a1).bind fun t279 => ((shardlogref13_Visible.f kj2 t269 a1).bind fun t282 => ((shardlogref08_Same.f kj2 t279 t282).bind fun t285 => (some t285)))) else (none))) = some r := H
    have A15 := aS A150
    clear A150
    replace H := obm H
    obtain ⟨t278, A160, H⟩ := H
    replace H : (if t278 = true then ((merge_Visible.f kj2 t269 a1).bind fun t279 => ((shardlogref13_Visible.f kj2 t269 a1).bind fun t282 => ((shardlogref08_Same.f kj2 t279 t282).bind fun t285 => (some t285)))) else (none)) = some r := H
    have A16 := aS A160
    clear A160
    by_cases c17 : t278 = true
    ·
     subst c17
     have H1 : ((merge_Visible.f kj2 t269 a1).bind fun t279 => ((shardlogref13_Visible.f kj2 t269 a1).bind fun t282 => ((shardlogref08_Same.f kj2 t279 t282).bind fun t285 => (some t285)))) = some r := by rw [if_pos rfl] at H; exact H
     clear H; have H := H1; clear H1
     replace H := obm H
     obtain ⟨t279, A180, H⟩ := H
     replace H : ((shardlogref13_Visible.f kj2 t269 a1).bind fun t282 => ((shardlogref08_Same.f kj2 t279 t282).bind fun t285 => (some t285))) = some r := H
     have A18 := aS A180
     clear A180
     replace H := obm H
     obtain ⟨t282, A190, H⟩ := H
     replace H : ((shardlogref08_Same.f kj2 t279 t282).bind fun t285 => (some t285)) = some r := H
     have A19 := aS A190
     clear A190
     replace H := obm H
     obtain ⟨t285, A200, H⟩ := H
     replace H : (some t285) = some r := H
     have A20 := aS A200
     clear A200
     obtain rfl := Option.some.inj H
     go_wp2_with (first | ((with_reducible refine gate_callee (f := 17) rfl ?_); refine goesL_ (some 15) rfl rfl Try.func17 (by kernel_rfl) rfl #[.slice A0 l0.length c0] rfl (by (try simp only [List.map_toArray, List.map_cons, List.map_nil]); first | done | rfl | (simp only [lld, llt]; rfl)) ?_; (with_reducible refine (shardlogref08_Sort.calls kj2 _ _ l0 t269 _ ?side1 ?side2 A13.out).mono ?_); (case side1 => repeat (first | exact (Kd.C_below HR0.out HB.out) | (with_reducible refine Kd.C_alloc ?_ _) | (with_reducible refine Kd.C_drewN ?_ _) | (with_reducible refine Kd.C_drew ?_))); (case side2 => exact HC0.out); rintro e w21 ⟨v270, rfl, ho0, hb⟩; refine ⟨_, rfl, ?_⟩; have n0_ := aS (Kd.R_lower ho0 (below_size (by repeat (first | (with_reducible first | exact HB.out | apply bal | apply bdN | apply bdo) | exact HB.out)))); have n1_ := aS (below_step (by repeat (first | (with_reducible first | exact HB.out | apply bal | apply bdN | apply bdo) | exact HB.out)) hb); clear HB; have HO271 := n0_; have HB := n1_; clear n0_ n1_; (try clear hb); (try clear hb2); (try clear hk); (try clear hi); (try clear ho0); obtain ⟨Ao22, co22, eo22⟩ := Kd.R_slice HO271.out; subst eo22) | ((with_reducible refine gate_callee (f := 18) rfl ?_); refine goesL_ (some 18) rfl rfl Try.func18 (by kernel_rfl) rfl #[.slice Ao22 t269.length co22, .int .i64 a1] rfl (by (try simp only [List.map_toArray, List.map_cons, List.map_nil]); first | done | rfl | (simp only [lld, llt]; rfl)) ?_; (with_reducible refine (merge_Clean.calls kj2 _ _ t269 a1 t272 _ ?side1 ?side2 A14.out).mono ?_); (case side1 => repeat (first | exact (Kd.R_reads' HO271.out).2.2 | (with_reducible refine Kd.C_alloc ?_ _) | (with_reducible refine Kd.C_drewN ?_ _) | (with_reducible refine Kd.C_drew ?_))); (case side2 => exact (Kd.R_reads' HO271.out).2.1); rintro e w23 ⟨v273, rfl, ho0, hb⟩; refine ⟨_, rfl, ?_⟩; have n0_ := aS (Kd.R_elder' (by (with_reducible repeat (first | apply Kd.R_alloc | apply Kd.R_drewN | apply Kd.R_drew)); exact HO271.out) (by first | exact Kd.R_base ho0 | exact Kd.S_base ho0 | exact Kd.R_base ho0 | exact Kd.V_base ho0) hb); have n1_ := aS (Kd.R_lower (Kd.R_new' ho0 (Kd.R_lt (by (with_reducible repeat (first | apply Kd.R_alloc | apply Kd.R_drewN | apply Kd.R_drew)); exact HO271.out))) (below_size (by repeat (first | (with_reducible first | exact HB.out | apply bal | apply bdN | apply bdo) | exact HB.out)))); have n2_ := aS (below_step (by repeat (first | (with_reducible first | exact HB.out | apply bal | apply bdN | apply bdo) | exact HB.out)) hb); clear HO271; clear HB; have HO271 := n0_; have HO274 := n1_; have HB := n2_; clear n0_ n1_ n2_; (try clear hb); (try clear hb2); (try clear hk); (try clear hi); (try clear ho0)) | ((with_reducible refine gate_callee (f := 19) rfl ?_); refine goesL_ (some 21) rfl rfl Try.func19 (by kernel_rfl) rfl #[.slice Ao22 t269.length co22, .int .i64 a1] rfl (by (try simp only [List.map_toArray, List.map_cons, List.map_nil]); first | done | rfl | (simp only [lld, llt]; rfl)) ?_; (with_reducible refine (shardlogref13_Clean.calls kj2 _ _ t269 a1 t275 _ ?side1 ?side2 A15.out).mono ?_); (case side1 => repeat (first | exact (Kd.R_reads' HO271.out).2.2 | (with_reducible refine Kd.C_alloc ?_ _) | (with_reducible refine Kd.C_drewN ?_ _) | (with_reducible refine Kd.C_drew ?_))); (case side2 => exact (Kd.R_reads' HO271.out).2.1); rintro e w24 ⟨v276, rfl, ho0, hb⟩; refine ⟨_, rfl, ?_⟩; have n0_ := aS (Kd.R_elder' (by (with_reducible repeat (first | apply Kd.R_alloc | apply Kd.R_drewN | apply Kd.R_drew)); exact HO271.out) (by first | exact Kd.R_base ho0 | exact Kd.S_base ho0 | exact Kd.R_base ho0 | exact Kd.V_base ho0) hb); have n1_ := aS (Kd.R_elder' (by (with_reducible repeat (first | apply Kd.R_alloc | apply Kd.R_drewN | apply Kd.R_drew)); exact HO274.out) (by first | exact Kd.R_base ho0 | exact Kd.S_base ho0 | exact Kd.R_base ho0 | exact Kd.V_base ho0) hb); have n2_ := aS (Kd.R_lower (Kd.R_new' (Kd.R_new' ho0 (Kd.R_lt (by (with_reducible repeat (first | apply Kd.R_alloc | apply Kd.R_drewN | apply Kd.R_drew)); exact HO271.out))) (Kd.R_lt (by (with_reducible repeat (first | apply Kd.R_alloc | apply Kd.R_drewN | apply Kd.R_drew)); exact HO274.out))) (below_size (by repeat (first | (with_reducible first | exact HB.out | apply bal | apply bdN | apply bdo) | exact HB.out)))); have n3_ := aS (below_step (by repeat (first | (with_reducible first | exact HB.out | apply bal | apply bdN | apply bdo) | exact HB.out)) hb); clear HO271; clear HO274; clear HB; have HO271 := n0_; have HO274 := n1_; have HO277 := n2_; have HB := n3_; clear n0_ n1_ n2_ n3_; (try clear hb); (try clear hb2); (try clear hk); (try clear hi); (try clear ho0); obtain ⟨Ao25, co25, eo25⟩ := Kd.R_slice HO274.out; subst eo25; obtain ⟨Ao26, co26, eo26⟩ := Kd.R_slice HO277.out; subst eo26) | ((with_reducible refine gate_callee (f := 13) rfl ?_); refine goesL_ (some 22) rfl rfl Try.func13 (by kernel_rfl) rfl #[.slice Ao25 t272.length co25, .slice Ao26 t275.length co26] rfl (by (try simp only [List.map_toArray, List.map_cons, List.map_nil]); first | done | rfl | (simp only [lld, llt]; rfl)) ?_; (with_reducible refine (shardlogref08_Same.calls kj2 _ _ t272 _ _ t275 true _ ?side1 ?side2 ?side3 ?side4 A16.out).mono ?_); (case side1 => repeat (first | exact (Kd.R_reads' HO274.out).2.2 | (with_reducible refine Kd.C_alloc ?_ _) | (with_reducible refine Kd.C_drewN ?_ _) | (with_reducible refine Kd.C_drew ?_))); (case side2 => exact (Kd.R_reads' HO274.out).2.1); (case side3 => repeat (first | exact (Kd.R_reads' HO277.out).2.2 | (with_reducible refine Kd.C_alloc ?_ _) | (with_reducible refine Kd.C_drewN ?_ _) | (with_reducible refine Kd.C_drew ?_))); (case side4 => exact (Kd.R_reads' HO277.out).2.1); rintro e w' ⟨rfl, ⟨nd, rfl⟩⟩; refine ⟨_, rfl, ?_⟩) | (go_at_call 20; (with_reducible refine (merge_Visible.calls kj2 _ _ t269 a1 t279 _ ?side1 ?side2 A18.out).mono ?_); (case side1 => repeat (first | exact (Kd.R_reads' HO271.out).2.2 | (with_reducible refine Kd.C_alloc ?_ _) | (with_reducible refine Kd.C_drewN ?_ _) | (with_reducible refine Kd.C_drew ?_))); (case side2 => exact (Kd.R_reads' HO271.out).2.1); rintro e w27 ⟨v280, rfl, ho0, hb⟩; have n0_ := aS (Kd.R_elder' (by (with_reducible repeat (first | apply Kd.R_alloc | apply Kd.R_drewN | apply Kd.R_drew)); exact HO271.out) (by first | exact Kd.R_base ho0 | exact Kd.S_base ho0 | exact Kd.R_base ho0 | exact Kd.V_base ho0) hb); have n1_ := aS (Kd.R_elder' (by (with_reducible repeat (first | apply Kd.R_alloc | apply Kd.R_drewN | apply Kd.R_drew)); exact HO274.out) (by first | exact Kd.R_base ho0 | exact Kd.S_base ho0 | exact Kd.R_base ho0 | exact Kd.V_base ho0) hb); have n2_ := aS (Kd.R_elder' (by (with_reducible repeat (first | apply Kd.R_alloc | apply Kd.R_drewN | apply Kd.R_drew)); exact HO277.out) (by first | exact Kd.R_base ho0 | exact Kd.S_base ho0 | exact Kd.R_base ho0 | exact Kd.V_base ho0) hb); have n3_ := aS (Kd.R_lower (Kd.R_new' (Kd.R_new' (Kd.R_new' ho0 (Kd.R_lt (by (with_reducible repeat (first | apply Kd.R_alloc | apply Kd.R_drewN | apply Kd.R_drew)); exact HO271.out))) (Kd.R_lt (by (with_reducible repeat (first | apply Kd.R_alloc | apply Kd.R_drewN | apply Kd.R_drew)); exact HO274.out))) (Kd.R_lt (by (with_reducible repeat (first | apply Kd.R_alloc | apply Kd.R_drewN | apply Kd.R_drew)); exact HO277.out))) (below_size (by repeat (first | (with_reducible first | exact HB.out | apply bal | apply bdN | apply bdo) | exact HB.out)))); have n4_ := aS (below_step (by repeat (first | (with_reducible first | exact HB.out | apply bal | apply bdN | apply bdo) | exact HB.out)) hb); clear HO271; clear HO274; clear HO277; clear HB; have HO271 := n0_; have HO274 := n1_; have HO277 := n2_; have HO281 := n3_; have HB := n4_; clear n0_ n1_ n2_ n3_ n4_; (try clear hb); (try clear hb2); (try clear hk); (try clear hi); (try clear ho0)) | (go_at_call 21; (with_reducible refine (shardlogref13_Visible.calls kj2 _ _ t269 a1 t282 _ ?side1 ?side2 A19.out).mono ?_); (case side1 => repeat (first | exact (Kd.R_reads' HO271.out).2.2 | (with_reducible refine Kd.C_alloc ?_ _) | (with_reducible refine Kd.C_drewN ?_ _) | (with_reducible refine Kd.C_drew ?_))); (case side2 => exact (Kd.R_reads' HO271.out).2.1); rintro e w28 ⟨v283, rfl, ho0, hb⟩; have n0_ := aS (Kd.R_elder' (by (with_reducible repeat (first | apply Kd.R_alloc | apply Kd.R_drewN | apply Kd.R_drew)); exact HO271.out) (by first | exact Kd.R_base ho0 | exact Kd.S_base ho0 | exact Kd.R_base ho0 | exact Kd.V_base ho0) hb); have n1_ := aS (Kd.R_elder' (by (with_reducible repeat (first | apply Kd.R_alloc | apply Kd.R_drewN | apply Kd.R_drew)); exact HO274.out) (by first | exact Kd.R_base ho0 | exact Kd.S_base ho0 | exact Kd.R_base ho0 | exact Kd.V_base ho0) hb); have n2_ := aS (Kd.R_elder' (by (with_reducible repeat (first | apply Kd.R_alloc | apply Kd.R_drewN | apply Kd.R_drew)); exact HO277.out) (by first | exact Kd.R_base ho0 | exact Kd.S_base ho0 | exact Kd.R_base ho0 | exact Kd.V_base ho0) hb); have n3_ := aS (Kd.R_elder' (by (with_reducible repeat (first | apply Kd.R_alloc | apply Kd.R_drewN | apply Kd.R_drew)); exact HO281.out) (by first | exact Kd.R_base ho0 | exact Kd.S_base ho0 | exact Kd.R_base ho0 | exact Kd.V_base ho0) hb); have n4_ := aS (Kd.R_lower (Kd.R_new' (Kd.R_new' (Kd.R_new' (Kd.R_new' ho0 (Kd.R_lt (by (with_reducible repeat (first | apply Kd.R_alloc | apply Kd.R_drewN | apply Kd.R_drew)); exact HO271.out))) (Kd.R_lt (by (with_reducible repeat (first | apply Kd.R_alloc | apply Kd.R_drewN | apply Kd.R_drew)); exact HO274.out))) (Kd.R_lt (by (with_reducible repeat (first | apply Kd.R_alloc | apply Kd.R_drewN | apply Kd.R_drew)); exact HO277.out))) (Kd.R_lt (by (with_reducible repeat (first | apply Kd.R_alloc | apply Kd.R_drewN | apply Kd.R_drew)); exact HO281.out))) (below_size (by repeat (first | (with_reducible first | exact HB.out | apply bal | apply bdN | apply bdo) | exact HB.out)))); have n5_ := aS (below_step (by repeat (first | (with_reducible first | exact HB.out | apply bal | apply bdN | apply bdo) | exact HB.out)) hb); clear HO271; clear HO274; clear HO277; clear HO281; clear HB; have HO271 := n0_; have HO274 := n1_; have HO277 := n2_; have HO281 := n3_; have HO284 := n4_; have HB := n5_; clear n0_ n1_ n2_ n3_ n4_ n5_; (try clear hb); (try clear hb2); (try clear hk); (try clear hi); (try clear ho0); obtain ⟨Ao29, co29, eo29⟩ := Kd.R_slice HO281.out; subst eo29; obtain ⟨Ao30, co30, eo30⟩ := Kd.R_slice HO284.out; subst eo30) | (go_at_call 13; (with_reducible refine (shardlogref08_Same.calls kj2 _ _ t279 _ _ t282 t285 _ ?side1 ?side2 ?side3 ?side4 A20.out).mono ?_); (case side1 => repeat (first | exact (Kd.R_reads' HO281.out).2.2 | (with_reducible refine Kd.C_alloc ?_ _) | (with_reducible refine Kd.C_drewN ?_ _) | (with_reducible refine Kd.C_drew ?_))); (case side2 => exact (Kd.R_reads' HO281.out).2.1); (case side3 => repeat (first | exact (Kd.R_reads' HO284.out).2.2 | (with_reducible refine Kd.C_alloc ?_ _) | (with_reducible refine Kd.C_drewN ?_ _) | (with_reducible refine Kd.C_drew ?_))); (case side4 => exact (Kd.R_reads' HO284.out).2.1); rintro e w' ⟨rfl, ⟨nd, rfl⟩⟩))
     go_ret
     exact ⟨by first | rfl | (simp [errW_none, errW_some] <;> rfl) | (simp [*, errW_none, errW_some] <;> rfl), by repeat (first | (with_reducible first | exact HB.out | apply bal | apply bdN | apply bdo) | exact HB.out)⟩
    ·
     replace c17 := Bool.eq_false_iff.mpr c17
     subst c17
     have H1 : (none) = some r := by rw [if_neg (show ¬ (false = true) by decide)] at H; exact H
     clear H; have H := H1; clear H1
     exact absurd H (by simp)

/-- THE ONE PURE STATEMENT of shardloglaw13_MergeCleans. -/
def shardloglaw13_MergeCleans.Pure : Prop := ∀ (l0 : List (S35)) (a1 : Int), (l0.length ≤ maxLen ∧ l0.length * 64 ≤ 140737488351232 ∧ ∀ y0_ ∈ l0, (y0_.f0.size ≤ 140737488351232 ∧ y0_.f1.size ≤ 140737488351232 ∧ (Lit.int .i64 y0_.f2).wf = true ∧ y0_.f3.size ≤ 140737488351232 ∧ True)) → (Lit.int .i64 a1).wf = true → ∃ k, shardloglaw13_MergeCleans.f k l0 a1 = some true
theorem shardloglaw13_MergeCleans.walk (P : shardloglaw13_MergeCleans.Pure) (A0 : Option Addr) (c0 : Nat) (l0 : List (S35)) (a1 : Int) (w : World) (wf0 : (l0.length ≤ maxLen ∧ l0.length * 64 ≤ 140737488351232 ∧ ∀ y0_ ∈ l0, (y0_.f0.size ≤ 140737488351232 ∧ y0_.f1.size ≤ 140737488351232 ∧ (Lit.int .i64 y0_.f2).wf = true ∧ y0_.f3.size ≤ 140737488351232 ∧ True))) (hr0 : Kd.C k35 w A0 l0.length l0) (hc0 : l0.length ≤ c0) (wf1 : (Lit.int .i64 a1).wf = true) :
  Calls Try.prog 4 #[.slice A0 l0.length c0, .int .i64 a1] w fun e w' => e = .returned (.bool true) ∧ Below w.heap.size w w' := by
 obtain ⟨k, h⟩ := P l0 a1 wf0 wf1
 refine (shardloglaw13_MergeCleans.calls k A0 c0 l0 a1 true w hr0 hc0 h).mono ?_
 rintro e w' ⟨rfl, hd⟩
 exact ⟨rfl, hd⟩

end Go.Proofs.Ythphffimgmbhgaa.X
