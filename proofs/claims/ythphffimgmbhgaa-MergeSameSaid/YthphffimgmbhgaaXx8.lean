-- written by a program of this session's, over the kit's print
import Derived.Test.YthphffimgmbhgaaXx0
import Derived.Test.YthphffimgmbhgaaXx3
import Derived.Test.YthphffimgmbhgaaXx4
import Derived.Test.YthphffimgmbhgaaXx5
import Derived.Test.YthphffimgmbhgaaXx6
import Derived.Test.YthphffimgmbhgaaXx7
namespace Go.Proofs.Ythphffimgmbhgaa.X
open Go.RowKit Go.Proofs.YthphffimgmbhgaaW.PrintWords Go.Proofs.YthphffimgmbhgaaW.PrintLast Go.Proofs.YthphffimgmbhgaaW.PrintMore
attribute [local go_sem] max2_int min2_int max_two min_two max_three min_three max_four min_four gtr_str   -- for this text's walks alone
set_option linter.unusedVariables false
set_option linter.unusedSimpArgs false

/-! ### shardlogref08_Sort: function 17 -/
def shardlogref08_Sort.l0 : Nat → List (S35) → List (S35) → Int → Option ((List (S35)))
 | 0, _, _, _ => none
 | k + 1, x0, x3, x4 => if x4 < (x0.length : Int) then (if 0 ≤ x4 then ((shardlogref08_Put1.f k x3 ((rd_T35 x0 x4).f0) ((rd_T35 x0 x4).f1) ((rd_T35 x0 x4).f2) ((rd_T35 x0 x4).f3) ((rd_T35 x0 x4).f4)).bind fun t229 => (shardlogref08_Sort.l0 k x0 t229 (wrap64 (x4 + 1)))) else (none)) else (some x3)
def shardlogref08_Sort.f (k : Nat) (l0 : List (S35)) : Option ((List (S35))) := shardlogref08_Sort.l0 k l0 ([] : List (S35)) 0
theorem shardlogref08_Sort.mono_l : ∀ k, (∀ y0 y1 y2, LeO (shardlogref08_Sort.l0 k y0 y1 y2) (shardlogref08_Sort.l0 (k + 1) y0 y1 y2))
 | 0 => fun _ _ _ r h => by simp [shardlogref08_Sort.l0] at h
 | k + 1 => by
  have ih0 := shardlogref08_Sort.mono_l k
  ·
   intro y0 y1 y2
   unfold shardlogref08_Sort.l0
   repeat' first
   | (with_reducible exact ih0 _ _ _)
   | (with_reducible exact shardlogref08_Put1.mono _ _ _ _ _ _ _)
   | (with_reducible exact LeO.refl _)
   | (with_reducible exact LeO.none _)
   | (with_reducible refine LeO.ite ?_ ?_)
   | (with_reducible refine LeO.bind ?_ (fun _ => ?_))
   | exact ih0 _ _ _
   | exact shardlogref08_Put1.mono _ _ _ _ _ _ _
   | exact LeO.none _
   | refine LeO.ite ?_ ?_
   | refine LeO.bind ?_ (fun _ => ?_)
theorem shardlogref08_Sort.mono : ∀ a0 k, LeO (shardlogref08_Sort.f k a0) (shardlogref08_Sort.f (k + 1) a0) := by
 intro a0 k
 have ih0 := shardlogref08_Sort.mono_l k
 unfold shardlogref08_Sort.f
 repeat' first
   | (with_reducible exact ih0 _ _ _)
   | (with_reducible exact shardlogref08_Put1.mono _ _ _ _ _ _ _)
   | (with_reducible exact LeO.refl _)
   | (with_reducible exact LeO.none _)
   | (with_reducible refine LeO.ite ?_ ?_)
   | (with_reducible refine LeO.bind ?_ (fun _ => ?_))
   | exact ih0 _ _ _
   | exact shardlogref08_Put1.mono _ _ _ _ _ _ _
   | exact LeO.none _
   | refine LeO.ite ?_ ?_
   | refine LeO.bind ?_ (fun _ => ?_)
set_option maxHeartbeats 8000000 in
set_option maxRecDepth 100000 in
theorem shardlogref08_Sort.calls (k : Nat) (A0 : Option Addr) (c0 : Nat) (l0 : List (S35)) (r : List (S35)) (w : World) (hr0 : Kd.C k35 w A0 l0.length l0) (hc0 : l0.length ≤ c0) (h : shardlogref08_Sort.f k l0 = some r) :
  Calls Try.prog 17 #[.slice A0 l0.length c0] w fun e w' => ∃ v0_ : Value, e = .returned (v0_) ∧ Kd.R k35 35 w' w.heap.size (fun _ => True) v0_ r ∧ Below w.heap.size w w' := by
 have hu35 := Try.underlying35
 have HR0 := aS hr0
 have HC0 := aS hc0
 clear hr0 hc0
 have HB := aS (Below.refl w.heap.size w)
 have H : (shardlogref08_Sort.l0 k l0 ([] : List (S35)) 0) = some r := h
 clear h
 have H' := aS H
 clear H
 go_enter Try.func17, Try.ntmps17
 go_wp2
 go_loopg [3, 4] k (fun kq v3 v4 w' => ∃ (x3_1 : List (S35)) (x4_1 : Int), v4 = .int .i64 x4_1 ∧ Aside0 (shardlogref08_Sort.l0 kq l0 x3_1 x4_1 = some r) ∧ Aside0 (kq ≤ k) ∧ Aside0 (Kd.R k35 35 w' w.heap.size (fun _ => True) v3 x3_1) ∧ Aside0 (Below w.heap.size w w'))
 case atStart => exact ⟨(([] : List (S35))), (0), (by first | rfl | (simp; done) | (simp [*]; done) | (simp; exact (by decide : ∀ a_ b_ : Bool, (a_ == b_) = (!a_ != b_)) _ _)), H', ⟨Nat.le_refl _⟩, ⟨by first | exact Kd.R_nil _ _ _ _ _ | exact Kd.N_nil _ _ _ _ _ | exact Kd.V_nil _ _ _ _ _ | exact Kd.Q_nil _ _ _ _ _ | exact Kd.S_nil _ _ _ _ _⟩, ⟨by repeat (first | (with_reducible first | exact HB.out | apply bal | apply bdN | apply bdo) | exact HB.out)⟩⟩
 case round =>
  clear H'; (try clear c1)
  obtain ⟨x3_1, x4_1, rfl, HA, HK1, HO_3, HB⟩ := hrel
  cases gk with
  | zero => exact absurd HA.out (by simp [shardlogref08_Sort.l0])
  | succ k1 =>
   have H := HA.out; clear HA
   simp only [shardlogref08_Sort.l0] at H
   by_cases c2 : x4_1 < (l0.length : Int)
   ·
    rw [if_pos c2] at H
    have c2b0 : decide (x4_1 < (l0.length : Int)) = true := decide_eq_true c2
    clear c2
    by_cases c3 : 0 ≤ x4_1
    ·
     rw [if_pos c3] at H
     have c3b0 : decide (0 ≤ x4_1) = true := decide_eq_true c3
     clear c3
     replace H := obm H
     obtain ⟨t229, A40, H⟩ := H
     replace H : (shardlogref08_Sort.l0 k1 l0 t229 (wrap64 (x4_1 + 1))) = some r := H
     have A4 := aS A40
     clear A40
     have H' := aS H
     clear H
     have p228 : 0 ≤ (x4_1 : Int) := odt (by first | (with_reducible assumption) | assumption)
     have q228 : x4_1 < (l0.length : Int) := odt (by first | (with_reducible assumption) | assumption)
     obtain ⟨ad228, e228, hx228_0, hx228_1, hx228_2, hx228_3, hx228_4⟩ := at_T35 HR0.out x4_1 p228 q228
     cases e228
     replace hx228_0 := (HB.out.cell (wbl w _ hx228_0)).trans hx228_0
     replace hx228_1 := (HB.out.cell (wbl w _ hx228_1)).trans hx228_1
     replace hx228_2 := (HB.out.cell (wbl w _ hx228_2)).trans hx228_2
     replace hx228_3 := (HB.out.cell (wbl w _ hx228_3)).trans hx228_3
     replace hx228_4 := (HB.out.cell (wbl w _ hx228_4)).trans hx228_4
     replace p228 := eq_true p228
     replace q228 := eq_true q228
     obtain ⟨Ao5, co5, eo5⟩ := Kd.R_slice HO_3.out
     subst eo5
     go_wp2_with (first | ((with_reducible refine gate_callee (f := 29) rfl ?_); refine goesL_ (some 16) rfl rfl Try.func29 (by kernel_rfl) rfl #[.slice Ao5 x3_1.length co5, .agg #[.string ((rd_T35 l0 x4_1).f0), .string ((rd_T35 l0 x4_1).f1), .int .i64 ((rd_T35 l0 x4_1).f2), .string ((rd_T35 l0 x4_1).f3), .bool ((rd_T35 l0 x4_1).f4)]] rfl (by (try simp only [List.map_toArray, List.map_cons, List.map_nil]); first | done | rfl | (simp only [lld, llt]; rfl)) ?_; (with_reducible refine (shardlogref08_Put1.calls k1 _ _ x3_1 ((rd_T35 l0 x4_1).f0) ((rd_T35 l0 x4_1).f1) ((rd_T35 l0 x4_1).f2) ((rd_T35 l0 x4_1).f3) ((rd_T35 l0 x4_1).f4) t229 _ ?side1 ?side2 A4.out).mono ?_); (case side1 => repeat (first | exact (Kd.R_reads' HO_3.out).2.2 | (with_reducible refine Kd.C_alloc ?_ _) | (with_reducible refine Kd.C_drewN ?_ _) | (with_reducible refine Kd.C_drew ?_))); (case side2 => exact (Kd.R_reads' HO_3.out).2.1); rintro e w6 ⟨v230, rfl, ho0, hb⟩; refine ⟨_, rfl, ?_⟩; have n0_ := aS (Kd.R_elder' (by (with_reducible repeat (first | apply Kd.R_alloc | apply Kd.R_drewN | apply Kd.R_drew)); exact HO_3.out) (by first | exact Kd.R_base ho0 | exact Kd.S_base ho0 | exact Kd.R_base ho0 | exact Kd.V_base ho0) hb); have n1_ := aS (Kd.R_lower (Kd.R_new' ho0 (Kd.R_lt (by (with_reducible repeat (first | apply Kd.R_alloc | apply Kd.R_drewN | apply Kd.R_drew)); exact HO_3.out))) (below_size (by repeat (first | (with_reducible first | exact HB.out | apply bal | apply bdN | apply bdo) | exact HB.out)))); have n2_ := aS (below_step (by repeat (first | (with_reducible first | exact HB.out | apply bal | apply bdN | apply bdo) | exact HB.out)) hb); clear HO_3; clear HB; have HO_3 := n0_; have HO231 := n1_; have HB := n2_; clear n0_ n1_ n2_; (try clear hb); (try clear hb2); (try clear hk); (try clear hi); (try clear ho0)))
     go_roundg k1
     case measure => have := HK1.out; omega
     case rel => exact ⟨(t229), (wrap64 (x4_1 + 1)), (by first | rfl | (simp; done) | (simp [*]; done) | (simp; exact (by decide : ∀ a_ b_ : Bool, (a_ == b_) = (!a_ != b_)) _ _)), H', ⟨by have := HK1.out; omega⟩, ⟨by (with_reducible repeat (first | apply Kd.R_alloc | apply Kd.R_drewN | apply Kd.R_drew)); exact Kd.R_mono HO231.out (fun _ hk => trivial)⟩, ⟨by repeat (first | (with_reducible first | exact HB.out | apply bal | apply bdN | apply bdo) | exact HB.out)⟩⟩
    ·
     rw [if_neg c3] at H
     exact absurd H (by simp)
   ·
    rw [if_neg c2] at H
    have c2b0 : decide (x4_1 < (l0.length : Int)) = false := decide_eq_false c2
    clear c2
    obtain rfl := Option.some.inj H
    go_wp2
    go_ret
    exact ⟨_, by first | rfl | (simp [errW_none, errW_some] <;> rfl) | (simp [*, errW_none, errW_some] <;> rfl), by (with_reducible repeat (first | apply Kd.R_alloc | apply Kd.R_drewN | apply Kd.R_drew)); exact HO_3.out, by repeat (first | (with_reducible first | exact HB.out | apply bal | apply bdN | apply bdo) | exact HB.out)⟩

/-! ### shardloglaw13_MergeSame: function 9 -/
def shardloglaw13_MergeSame.tail (k : Nat) (s v : List S35) (j a2 : Int) : Option Bool :=
 if 0 ≤ j ∧ j ≤ (s.length : Int) then (merge_All.f k [s, s]).bind fun x => (shardlogref08_Same.f k x s).bind fun b1 => if b1 = true then (merge_All.f k [s.drop j.toNat, s, s.take j.toNat]).bind fun y => (shardlogref08_Same.f k y s).bind fun b2 => if b2 = true then (merge_Visible.f k v a2).bind fun z => (shardlogref08_Same.f k z v).bind fun b3 => if b3 = true then (merge_Clean.f k v a2).bind fun c => shardlogref08_Same.f k c v else none else none else none else none
def shardloglaw13_MergeSame.j0 (k : Nat) (l0 : List S35) (a1 a2 : Int) (b : Bool) : Option Bool :=
 if b = true then (shardloglaw13_awake.f k).bind fun t => some t else (shardlogref08_Sort.f k l0).bind fun s => if (wrap64 ((s.length : Int) + 1)) = 0 then none else (merge_Visible.f k s a2).bind fun v => shardloglaw13_MergeSame.tail k s v (Int.tmod (wrap64 a1) (wrap64 ((s.length : Int) + 1))) a2
def shardloglaw13_MergeSame.f (k : Nat) (l0 : List S35) (a1 a2 : Int) : Option Bool :=
 (shardloglaw13_awake.f k).bind fun t => if t = true then (shardlogref08_Few.f k l0).bind fun u => (if u = true then shardloglaw13_MergeSame.j0 k l0 a1 a2 (decide (a2 > 4294967295)) else shardloglaw13_MergeSame.j0 k l0 a1 a2 true) else shardloglaw13_MergeSame.j0 k l0 a1 a2 true
theorem shardloglaw13_MergeSame.tail_mono (k s v j a2) : LeO (shardloglaw13_MergeSame.tail k s v j a2) (shardloglaw13_MergeSame.tail (k + 1) s v j a2) :=
 LeO.ite (LeO.bind (merge_All.mono _ _) fun _ => LeO.bind (shardlogref08_Same.mono _ _ _) fun _ => LeO.ite (LeO.bind (merge_All.mono _ _) fun _ => LeO.bind (shardlogref08_Same.mono _ _ _) fun _ => LeO.ite (LeO.bind (merge_Visible.mono _ _ _) fun _ => LeO.bind (shardlogref08_Same.mono _ _ _) fun _ => LeO.ite (LeO.bind (merge_Clean.mono _ _ _) fun _ => shardlogref08_Same.mono _ _ _) (LeO.refl _)) (LeO.refl _)) (LeO.refl _)) (LeO.refl _)
theorem shardloglaw13_MergeSame.j0_mono (k l0 a1 a2 b) : LeO (shardloglaw13_MergeSame.j0 k l0 a1 a2 b) (shardloglaw13_MergeSame.j0 (k + 1) l0 a1 a2 b) :=
 LeO.ite (LeO.bind (shardloglaw13_awake.mono _) fun _ => LeO.refl _) (LeO.bind (shardlogref08_Sort.mono _ _) fun _ => LeO.ite (LeO.refl _) (LeO.bind (merge_Visible.mono _ _ _) fun _ => shardloglaw13_MergeSame.tail_mono _ _ _ _ _))
theorem shardloglaw13_MergeSame.mono : ∀ a0 a1 a2 k, LeO (shardloglaw13_MergeSame.f k a0 a1 a2) (shardloglaw13_MergeSame.f (k + 1) a0 a1 a2) := fun a0 a1 a2 k =>
 LeO.bind (shardloglaw13_awake.mono _) fun _ => LeO.ite (LeO.bind (shardlogref08_Few.mono _ _) fun _ => LeO.ite (shardloglaw13_MergeSame.j0_mono _ _ _ _ _) (shardloglaw13_MergeSame.j0_mono _ _ _ _ _)) (shardloglaw13_MergeSame.j0_mono _ _ _ _ _)
set_option maxHeartbeats 8000000 in
set_option maxRecDepth 100000 in
theorem shardloglaw13_MergeSame.calls (k : Nat) (A0 : Option Addr) (c0 : Nat) (l0 : List S35) (a1 a2 : Int) (r : Bool) (w : World) (hr0 : Kd.C k35 w A0 l0.length l0) (hc0 : l0.length ≤ c0) (h : shardloglaw13_MergeSame.f k l0 a1 a2 = some r) :
  Calls Try.prog 9 #[.slice A0 l0.length c0, .int .u8 a1, .int .i64 a2] w fun e w' => e = .returned (.bool r) ∧ Below w.heap.size w w' := by
 have HR0 := aS hr0
 have HC0 := aS hc0
 clear hr0 hc0
 have HB := aS (Below.refl w.heap.size w)
 have HC3 := aS h
 clear h
 go_enter Try.func9, Try.ntmps9
 go_upto_region 1 with (fail)
 go_cut [20] (fun v20 wc => ∃ (x20 : Bool), v20 = .bool x20 ∧ Aside0 (shardloglaw13_MergeSame.j0 k l0 a1 a2 x20 = some r) ∧ Aside0 (Below w.heap.size w wc))
 case first =>
  have H := HC3.out; clear HC3
  unfold shardloglaw13_MergeSame.f at H
  obtain ⟨t242, A40, H⟩ := obm H
  have A4 := aS A40
  clear A40
  cases t242 with
  | true =>
   rw [if_pos rfl] at H
   obtain ⟨t243, A60, H⟩ := obm H
   have A6 := aS A60
   clear A60
   cases t243 with
   | true =>
    rw [if_pos rfl] at H
    have H' := aS H
    clear H
    go_wp2_with (first | ((with_reducible refine gate_callee (f := 10) rfl ?_); refine goesL_ (some 10) rfl rfl Try.func10 (by kernel_rfl) rfl #[] rfl (by (try simp only [List.map_toArray, List.map_cons, List.map_nil]); first | done | rfl) ?_; (with_reducible refine (shardloglaw13_awake.calls k true _ A4.out).mono ?_); rintro e w8 ⟨rfl, hb⟩; refine ⟨_, rfl, ?_⟩; have n0_ := aS (below_step (by repeat (first | (with_reducible first | exact HB.out | apply bal | apply bdN | apply bdo) | exact HB.out)) hb); clear HB; have HB := n0_; clear n0_ hb) | (go_at_call 16; (with_reducible refine (shardlogref08_Few.calls k _ _ l0 true _ ?side1 ?side2 A6.out).mono ?_); (case side1 => repeat (first | exact (Kd.C_below HR0.out HB.out) | (with_reducible refine Kd.C_alloc ?_ _) | (with_reducible refine Kd.C_drewN ?_ _) | (with_reducible refine Kd.C_drew ?_))); (case side2 => exact HC0.out); rintro e w9 ⟨rfl, hb⟩; (have n0_ := aS (below_step (by repeat (first | (with_reducible first | exact HB.out | apply bal | apply bdN | apply bdo) | exact HB.out)) hb)); clear HB; have HB := n0_; clear n0_ hb))
    go_meet
    case rel => exact ⟨_, (by first | rfl | (simp; done) | (simp [*]; done)), H', ⟨(by repeat (first | (with_reducible first | exact HB.out | apply bal | apply bdN | apply bdo) | exact HB.out))⟩⟩
   | false =>
    rw [if_neg Bool.false_ne_true] at H
    have H' := aS H
    clear H
    go_wp2_with (first | ((with_reducible refine gate_callee (f := 10) rfl ?_); refine goesL_ (some 10) rfl rfl Try.func10 (by kernel_rfl) rfl #[] rfl (by (try simp only [List.map_toArray, List.map_cons, List.map_nil]); first | done | rfl) ?_; (with_reducible refine (shardloglaw13_awake.calls k true _ A4.out).mono ?_); rintro e w8 ⟨rfl, hb⟩; refine ⟨_, rfl, ?_⟩; have n0_ := aS (below_step (by repeat (first | (with_reducible first | exact HB.out | apply bal | apply bdN | apply bdo) | exact HB.out)) hb); clear HB; have HB := n0_; clear n0_ hb) | (go_at_call 16; (with_reducible refine (shardlogref08_Few.calls k _ _ l0 false _ ?side1 ?side2 A6.out).mono ?_); (case side1 => repeat (first | exact (Kd.C_below HR0.out HB.out) | (with_reducible refine Kd.C_alloc ?_ _) | (with_reducible refine Kd.C_drewN ?_ _) | (with_reducible refine Kd.C_drew ?_))); (case side2 => exact HC0.out); rintro e w9 ⟨rfl, hb⟩; (have n0_ := aS (below_step (by repeat (first | (with_reducible first | exact HB.out | apply bal | apply bdN | apply bdo) | exact HB.out)) hb)); clear HB; have HB := n0_; clear n0_ hb))
    go_meet
    case rel => exact ⟨_, (by first | rfl | (simp; done) | (simp [*]; done)), H', ⟨(by repeat (first | (with_reducible first | exact HB.out | apply bal | apply bdN | apply bdo) | exact HB.out))⟩⟩
  | false =>
   rw [if_neg Bool.false_ne_true] at H
   have H' := aS H
   clear H
   go_wp2_with (first | ((with_reducible refine gate_callee (f := 10) rfl ?_); refine goesL_ (some 10) rfl rfl Try.func10 (by kernel_rfl) rfl #[] rfl (by (try simp only [List.map_toArray, List.map_cons, List.map_nil]); first | done | rfl) ?_; (with_reducible refine (shardloglaw13_awake.calls k false _ A4.out).mono ?_); rintro e w8 ⟨rfl, hb⟩; refine ⟨_, rfl, ?_⟩; have n0_ := aS (below_step (by repeat (first | (with_reducible first | exact HB.out | apply bal | apply bdN | apply bdo) | exact HB.out)) hb); clear HB; have HB := n0_; clear n0_ hb))
   go_meet
   case rel => exact ⟨_, (by first | rfl | (simp; done) | (simp [*]; done)), H', ⟨(by repeat (first | (with_reducible first | exact HB.out | apply bal | apply bdN | apply bdo) | exact HB.out))⟩⟩
 case rest =>
  clear HC3
  obtain ⟨x20, rfl, HA, HB⟩ := hcut
  have H := HA.out; clear HA
  unfold shardloglaw13_MergeSame.j0 at H
  cases x20 with
  | true =>
   rw [if_pos rfl] at H
   obtain ⟨t244, A40, H⟩ := obm H
   have A4 := aS A40
   clear A40
   obtain rfl := Option.some.inj H
   go_wp2_with (first | ((with_reducible refine gate_callee (f := 10) rfl ?_); refine goesL_ (some 21) rfl rfl Try.func10 (by kernel_rfl) rfl #[] rfl (by (try simp only [List.map_toArray, List.map_cons, List.map_nil]); first | done | rfl) ?_; (with_reducible refine (shardloglaw13_awake.calls k _ _ A4.out).mono ?_); rintro e w8 ⟨rfl, hb⟩; refine ⟨_, rfl, ?_⟩; have n0_ := aS (below_step (by repeat (first | (with_reducible first | exact HB.out | apply bal | apply bdN | apply bdo) | exact HB.out)) hb); clear HB; have HB := n0_; clear n0_ hb))
   go_ret
   exact ⟨rfl, (by repeat (first | (with_reducible first | exact HB.out | apply bal | apply bdN | apply bdo) | exact HB.out))⟩
  | false =>
   rw [if_neg Bool.false_ne_true] at H
   obtain ⟨s, A10, H⟩ := obm H
   have A1 := aS A10
   clear A10
   by_cases hz : (wrap64 ((s.length : Int) + 1)) = 0
   ·
    rw [if_pos hz] at H
    cases H
   rw [if_neg hz] at H
   have hzb0 : ((wrap64 ((s.length : Int) + 1)) == 0) = false := beq_eq_false_iff_ne.mpr hz
   have hzb1 : ((wrap64 ((s.length : Int) + 1)) != 0) = true := bne_iff_ne.mpr hz
   obtain ⟨v, A20, H⟩ := obm H
   have A2 := aS A20
   clear A20
   obtain ⟨j, hj⟩ : ∃ j_ : Int, Int.tmod (wrap64 a1) (wrap64 ((s.length : Int) + 1)) = j_ := ⟨_, rfl⟩
   rw [hj] at H
   unfold shardloglaw13_MergeSame.tail at H
   by_cases hjj : 0 ≤ j ∧ j ≤ (s.length : Int)
   rotate_left
   ·
    rw [if_neg hjj] at H
    cases H
   rw [if_pos hjj] at H
   have HJ := aS hjj
   clear hjj
   obtain ⟨x, A30, H⟩ := obm H
   obtain ⟨b1, A40, H⟩ := obm H
   cases b1 with
   | false => rw [if_neg Bool.false_ne_true] at H; cases H
   | true =>
   rw [if_pos rfl] at H
   obtain ⟨y, A50, H⟩ := obm H
   obtain ⟨b2, A60, H⟩ := obm H
   cases b2 with
   | false => rw [if_neg Bool.false_ne_true] at H; cases H
   | true =>
   rw [if_pos rfl] at H
   obtain ⟨z, A70, H⟩ := obm H
   obtain ⟨b3, A80, H⟩ := obm H
   cases b3 with
   | false => rw [if_neg Bool.false_ne_true] at H; cases H
   | true =>
   rw [if_pos rfl] at H
   obtain ⟨c, A90, AA0⟩ := obm H
   obtain ⟨p, hp⟩ : ∃ p_ : List (List S35), p_ = [s, s] := ⟨_, rfl⟩
   obtain ⟨q, hq⟩ : ∃ q_ : List (List S35), q_ = [s.drop j.toNat, s, s.take j.toNat] := ⟨_, rfl⟩
   obtain ⟨s1, hs1⟩ : ∃ q_ : List S35, q_ = s.drop j.toNat := ⟨_, rfl⟩
   obtain ⟨s2, hs2⟩ : ∃ q_ : List S35, q_ = s.take j.toNat := ⟨_, rfl⟩
   rw [← hp] at A30
   rw [← hq] at A50
   rw [← hs1, ← hs2] at hq
   have A3 := aS A30
   have A4 := aS A40
   have A5 := aS A50
   have A6 := aS A60
   have A7 := aS A70
   have A8 := aS A80
   have A9 := aS A90
   have AA := aS AA0
   have NP := aS hp
   have NQ := aS hq
   have NS1 := aS hs1
   have NS2 := aS hs2
   clear A30 A40 A50 A60 A70 A80 A90 AA0 H hp hq hs1 hs2
   try go_wp2_with (first | ((with_reducible refine gate_callee (f := 17) rfl ?_); refine goesL_ (some 23) rfl rfl Try.func17 (by kernel_rfl) rfl #[.slice A0 l0.length c0] rfl (by (try simp only [List.map_toArray, List.map_cons, List.map_nil]); first | done | rfl) ?_; (with_reducible refine (shardlogref08_Sort.calls k _ _ l0 s _ ?side1 ?side2 A1.out).mono ?_); (case side1 => repeat (first | exact (Kd.C_below HR0.out HB.out) | (with_reducible refine Kd.C_alloc ?_ _) | (with_reducible refine Kd.C_drewN ?_ _) | (with_reducible refine Kd.C_drew ?_))); (case side2 => exact HC0.out); rintro e w35 ⟨vs, rfl, ho0, hb⟩; refine ⟨_, rfl, ?_⟩; obtain ⟨As, cs, rfl⟩ := Kd.R_slice ho0; have hcs := aS (Kd.R_reads' ho0).2.1; have FS := aS (Kd.R_F ho0); have n1_ := aS (below_step (by repeat (first | (with_reducible first | exact HB.out | apply bal | apply bdN | apply bdo) | exact HB.out)) hb); clear HB; have HB := n1_; clear n1_ hb ho0) | ((with_reducible refine gate_callee (f := 20) rfl ?_); refine goesL_ (some 32) rfl rfl Try.func20 (by kernel_rfl) rfl #[.slice As s.length cs, .int .i64 a2] rfl (by (try simp only [List.map_toArray, List.map_cons, List.map_nil]); first | done | rfl) ?_; (with_reducible refine (merge_Visible.calls k _ _ s a2 v _ ?side1 ?side2 A2.out).mono ?_); (case side1 => repeat (first | exact (Kd.F_now FS.out) | (with_reducible refine Kd.C_alloc ?_ _) | (with_reducible refine Kd.C_drewN ?_ _) | (with_reducible refine Kd.C_drew ?_))); (case side2 => exact hcs.out); rintro e w36 ⟨vv, rfl, ho0, hb⟩; refine ⟨_, rfl, ?_⟩; obtain ⟨Av, cv, rfl⟩ := Kd.R_slice ho0; have hcv := aS (Kd.R_reads' ho0).2.1; have FV := aS (Kd.R_F ho0); have n0_ := aS (Kd.F_below (by (with_reducible repeat (first | apply Kd.F_alloc | apply Kd.F_drewN | apply Kd.F_drew)); exact FS.out) hb); have n1_ := aS (below_step (by repeat (first | (with_reducible first | exact HB.out | apply bal | apply bdN | apply bdo) | exact HB.out)) hb); clear HB FS; have HB := n1_; have FS := n0_; clear n0_ n1_ hb ho0))
   have n0_ := aS (Kd.F_drew FS.out)
   have n1_ := aS (Kd.F_drew FV.out)
   have n2_ := aS (bdo HB.out)
   clear FS FV HB
   have FS := n0_
   have FV := n1_
   have HB := n2_
   clear n0_ n1_ n2_
   refine start_ (n := 34) (ds := []) (S := fun w' => True) #[false, false, false, false, false, false, false, false, false, false, false, false, false, false, false, false, false, false, false, false, false, false, false, false, false, false, false, false, false, false, false, false, false, false] (by kernel_rfl) rfl rfl trivial (fun hHeld => ?_)
   generalize w36.drew = w37 at FS FV HB hHeld ⊢
   refine pure_ (i := 0) (N := (some 33)) (v := ?_) (a' := ?_) #[true, false, false, false, false, false, false, false, false, false, false, false, false, false, false, false, false, false, false, false, false, false, false, false, false, false, false, false, false, false, false, false, false, false] rfl rfl (by kernel_rfl) (fun _ _ _ h => h) (Or.inl ⟨by rfl, ?_⟩) ?_ ?_
   rotate_left
   ·
    intro w'
    go_simp
    with_reducible rfl
   rotate_left
   ·
    simp only [Act.put, lsa, lsz, lss, i64_w, i32_w]
    rfl
   refine pure_ (i := 1) (N := (some 34)) (v := ?_) (a' := ?_) #[true, true, false, false, false, false, false, false, false, false, false, false, false, false, false, false, false, false, false, false, false, false, false, false, false, false, false, false, false, false, false, false, false, false] rfl rfl (by kernel_rfl) (fun _ _ _ h => h) (Or.inl ⟨by rfl, ?_⟩) ?_ ?_
   rotate_left
   ·
    intro w'
    go_simp
    with_reducible rfl
   rotate_left
   ·
    simp only [Act.put, lsa, lsz, lss, i64_w, i32_w]
    rfl
   refine pure_ (i := 4) (N := (some 37)) (v := ?_) (a' := ?_) #[true, true, false, false, true, false, false, false, false, false, false, false, false, false, false, false, false, false, false, false, false, false, false, false, false, false, false, false, false, false, false, false, false, false] rfl rfl (by kernel_rfl) (fun _ _ _ h => h) (Or.inl ⟨by rfl, ?_⟩) ?_ ?_
   rotate_left
   ·
    intro w'
    go_simp
    with_reducible rfl
   rotate_left
   ·
    simp only [Act.put, lsa, lsz, lss, i64_w, i32_w]
    rfl
   refine one_ (i := 2) (N := (some 35)) #[true, true, true, false, true, false, false, false, false, false, false, false, false, false, false, false, false, false, false, false, false, false, false, false, false, false, false, false, false, false, false, false, false, false] rfl rfl (by kernel_rfl) (by decide) (fun K hK => ?_)
   refine Kd.N_lit_step (Kd.slice 35 k35) _ 27 ?hg (N' := 35) ?hd (xs := ([s, s] : List (List S35))) (inner := [.slice As s.length cs, .slice As s.length cs]) (ok := fun _ => True) (okp := fun _ => True) ?hr ?hp (fun _ hk => hk) trivial (Below.refl _ _) (Nat.le_refl _) (by simp) ?_; (case hd => rfl); (case hg => rfl); (case hr => first | (go_simp; done) | (go_simp; rfl)); (case hp => exact Reps.one (show Kd.FK (Kd.slice 35 k35) _ _ s [.slice As s.length cs] from Kd.FK_slice_mk hcs.out FS.out) (Reps.one (show Kd.FK (Kd.slice 35 k35) _ _ s [.slice As s.length cs] from Kd.FK_slice_mk hcs.out FS.out) (Reps.none _ _)))
   intro vl w38 ho hb hg_ hnew_
   clear hg_ hnew_
   rw [← NP.out] at ho
   obtain ⟨Ap, cp, rfl⟩ := Kd.N_slice ho
   have Lp := aS (Kd.N_reads' ho).2.2
   have hcp := aS (Kd.N_reads' ho).2.1
   clear ho
   have n0_ := aS (Kd.F_below FS.out hb)
   have n1_ := aS (Kd.F_below FV.out hb)
   have nb_ := aS (below_step HB.out hb)
   clear HB FS FV
   have FS := n0_
   have FV := n1_
   have HB := nb_
   clear nb_ n0_ n1_; clear hb
   refine hK.out _ _ trivial (fun hHeld => ?_)
   clear hK K
   refine norm_ (a' := ?_) ?_ ?_
   rotate_left
   ·
    show Act.put _ (some 35) _ = _
    simp only [Act.put, lsa, lsz, lss, i64_w, i32_w]
    rfl
   refine one_ (i := 3) (N := (some 36)) #[true, true, true, true, true, false, false, false, false, false, false, false, false, false, false, false, false, false, false, false, false, false, false, false, false, false, false, false, false, false, false, false, false, false] rfl rfl (by kernel_rfl) (by decide) (fun K hK => ?_)
   refine goes_ Try.func14 (by kernel_rfl) rfl #[.slice Ap p.length cp] (by rfl) rfl rfl (by (try simp only [List.map_toArray, List.map_cons, List.map_nil]); first | done | rfl) ?_
   with_reducible refine (merge_All.calls k _ _ p x _ ?side1 ?side2 A3.out).mono ?_
   (case side1 => exact Lp.out)
   (case side2 => exact hcp.out)
   rintro e w39 ⟨vr, rfl, ho0, hb⟩
   refine ⟨_, rfl, ?_⟩
   obtain ⟨Ax, cx, rfl⟩ := Kd.R_slice ho0
   have hcx := aS (Kd.R_reads' ho0).2.1
   have Lx := aS (Kd.R_reads' ho0).2.2
   clear ho0
   have n0_ := aS (Kd.F_below FS.out hb)
   have n1_ := aS (Kd.F_below FV.out hb)
   have nb_ := aS (below_step HB.out hb)
   clear HB FS FV
   have FS := n0_
   have FV := n1_
   have HB := nb_
   clear nb_ n0_ n1_; clear hb
   refine hK.out _ _ trivial (fun hHeld => ?_)
   clear hK K
   refine norm_ (a' := ?_) ?_ ?_
   rotate_left
   ·
    show Act.put _ (some 36) _ = _
    simp only [Act.put, lsa, lsz, lss, i64_w, i32_w]
    rfl
   refine one_ (i := 5) (N := (some 38)) #[true, true, true, true, true, true, false, false, false, false, false, false, false, false, false, false, false, false, false, false, false, false, false, false, false, false, false, false, false, false, false, false, false, false] rfl rfl (by kernel_rfl) (by decide) (fun K hK => ?_)
   refine goes_ Try.func13 (by kernel_rfl) rfl #[.slice Ax x.length cx, .slice As s.length cs] (by rfl) rfl rfl (by (try simp only [List.map_toArray, List.map_cons, List.map_nil]); first | done | rfl) ?_
   with_reducible refine (shardlogref08_Same.calls k _ _ x _ _ s true _ ?side1 ?side2 ?side3 ?side4 A4.out).mono ?_
   (case side1 => exact Lx.out)
   (case side2 => exact hcx.out)
   (case side3 => exact Kd.F_now FS.out)
   (case side4 => exact hcs.out)
   rintro e w' ⟨rfl, ⟨nd, rfl⟩⟩
   refine ⟨_, rfl, ?_⟩
   have n0_ := aS (Kd.F_drewN FS.out nd)
   have n1_ := aS (Kd.F_drewN FV.out nd)
   have n2_ := aS (bdN HB.out nd)
   clear HB FS FV Lx
   have FS := n0_
   have FV := n1_
   have HB := n2_
   clear n0_ n1_ n2_
   generalize World.drewN _ nd = w40 at FS FV HB ⊢
   refine hK.out _ _ trivial (fun hHeld => ?_)
   clear hK K
   refine norm_ (a' := ?_) ?_ ?_
   rotate_left
   ·
    show Act.put _ (some 38) _ = _
    simp only [Act.put, lsa, lsz, lss, i64_w, i32_w]
    rfl
   refine pure_ (i := 6) (N := (some 39)) (v := ?_) (a' := ?_) #[true, true, true, true, true, true, true, false, false, false, false, false, false, false, false, false, false, false, false, false, false, false, false, false, false, false, false, false, false, false, false, false, false, false] rfl rfl (by kernel_rfl) (fun _ _ _ h => h) (Or.inl ⟨by rfl, ?_⟩) ?_ ?_
   rotate_left
   ·
    intro w'
    go_simp
    with_reducible rfl
   rotate_left
   ·
    simp only [Act.put, lsa, lsz, lss, i64_w, i32_w]
    rfl
   refine pure_ (i := 7) (N := (some 40)) (v := ?_) (a' := ?_) #[true, true, true, true, true, true, true, true, false, false, false, false, false, false, false, false, false, false, false, false, false, false, false, false, false, false, false, false, false, false, false, false, false, false] rfl rfl (by kernel_rfl) (fun _ _ _ h => h) (Or.inl ⟨by rfl, ?_⟩) ?_ ?_
   rotate_left
   ·
    intro w'
    go_simp
    with_reducible rfl
   rotate_left
   ·
    simp only [Act.put, lsa, lsz, lss, i64_w, i32_w]
    rfl
   refine pure_ (i := 8) (N := (some 41)) (v := ?_) (a' := ?_) #[true, true, true, true, true, true, true, true, true, false, false, false, false, false, false, false, false, false, false, false, false, false, false, false, false, false, false, false, false, false, false, false, false, false] rfl rfl (by kernel_rfl) (fun _ _ _ h => h) (Or.inl ⟨by rfl, ?_⟩) ?_ ?_
   rotate_left
   ·
    intro w'
    go_simp
    with_reducible rfl
   rotate_left
   ·
    simp only [Act.put, lsa, lsz, lss, i64_w, i32_w]
    rfl
   refine pure_ (i := 10) (N := (some 43)) (v := ?_) (a' := ?_) #[true, true, true, true, true, true, true, true, true, false, true, false, false, false, false, false, false, false, false, false, false, false, false, false, false, false, false, false, false, false, false, false, false, false] rfl rfl (by kernel_rfl) (fun _ _ _ h => h) (Or.inl ⟨by rfl, ?_⟩) ?_ ?_
   rotate_left
   ·
    intro w'
    go_simp
    with_reducible rfl
   rotate_left
   ·
    simp only [Act.put, lsa, lsz, lss, i64_w, i32_w]
    rfl
   refine pure_ (i := 11) (N := (some 44)) (v := ?_) (a' := ?_) #[true, true, true, true, true, true, true, true, true, false, true, true, false, false, false, false, false, false, false, false, false, false, false, false, false, false, false, false, false, false, false, false, false, false] rfl rfl (by kernel_rfl) (fun _ _ _ h => h) (Or.inl ⟨by rfl, ?_⟩) ?_ ?_
   rotate_left
   ·
    intro w'
    go_simp
    with_reducible rfl
   rotate_left
   ·
    simp only [Act.put, lsa, lsz, lss, i64_w, i32_w]
    rfl
   refine pure_ (i := 12) (N := (some 45)) (v := ?_) (a' := ?_) #[true, true, true, true, true, true, true, true, true, false, true, true, true, false, false, false, false, false, false, false, false, false, false, false, false, false, false, false, false, false, false, false, false, false] rfl rfl (by kernel_rfl) (fun _ _ _ h => h) (Or.inl ⟨by rfl, ?_⟩) ?_ ?_
   rotate_left
   ·
    intro w'
    go_simp
    with_reducible rfl
   rotate_left
   ·
    simp only [Act.put, lsa, lsz, lss, i64_w, i32_w]
    rfl
   refine pure_ (i := 16) (N := (some 49)) (v := ?_) (a' := ?_) #[true, true, true, true, true, true, true, true, true, false, true, true, true, false, false, false, true, false, false, false, false, false, false, false, false, false, false, false, false, false, false, false, false, false] rfl rfl (by kernel_rfl) (fun _ _ _ h => h) (Or.inl ⟨by rfl, ?_⟩) ?_ ?_
   rotate_left
   ·
    intro w'
    go_simp
    with_reducible rfl
   rotate_left
   ·
    simp only [Act.put, lsa, lsz, lss, i64_w, i32_w]
    rfl
   have q38 : j ≤ (s.length : Int) := HJ.out.2
   have q039 : (0 : Int) ≤ j := HJ.out.1
   obtain ⟨i038, hi038, _, hsz38, _⟩ := info_parts info35
   have hcut39 := cut_from (P := Try.prog) 27 35 .i64 Try.underlying27 hi038 5 hsz38 As s.length cs j q039 q38
   have hcut38 := cut_to (P := Try.prog) 27 35 .i64 Try.underlying27 hi038 As s.length cs j q039 q38 hcs.out
   have FA := aS (Kd.F_cut (m := j.toNat) (c := cs) FS.out (by omega) hcs.out)
   have FT := aS (Kd.F_take (m := j.toNat) FS.out (by omega))
   obtain ⟨A39, hA39⟩ : ∃ A1_, A1_ = (if cs = j.toNat then As else (As : Option Addr).map (·.add (j.toNat * 5))) := ⟨_, rfl⟩
   obtain ⟨c39, hc39⟩ : ∃ c1_, c1_ = cs - j.toNat := ⟨_, rfl⟩
   have hy39 : s1.length = s.length - j.toNat := by rw [NS1.out, lld]
   have hy38 : s2.length = j.toNat := by rw [NS2.out, llt]; omega
   rw [← NS1.out] at FA
   rw [← NS2.out] at FT
   have FA1 : Aside0 (Kd.F k35 _ _ A39 s1.length s1) := ⟨by rw [hA39]; exact FA.out⟩
   clear FA
   rw [← hy39, ← hA39, ← hc39] at hcut39
   rw [← hy38] at hcut38
   have h39 : s1.length ≤ c39 := by rw [hy39, hc39]; exact Nat.sub_le_sub_right hcs.out _
   have h38 : s2.length ≤ cs := by have := hcs.out; omega
   have H39 := aS h39
   have H38 := aS h38
   clear h39 h38 hA39 hc39 hy39 hy38 hi038 hsz38 q38 q039
   refine pure_ (i := 9) (N := (some 42)) (v := ?_) (a' := ?_) #[true, true, true, true, true, true, true, true, true, true, true, true, true, false, false, false, true, false, false, false, false, false, false, false, false, false, false, false, false, false, false, false, false, false] rfl rfl (by kernel_rfl) (fun _ _ _ h => h) (Or.inl ⟨by rfl, ?_⟩) ?_ ?_
   rotate_left
   ·
    intro w'
    go_simp
    with_reducible rfl
   rotate_left
   ·
    simp only [Act.put, lsa, lsz, lss, i64_w, i32_w]
    rfl
   refine pure_ (i := 13) (N := (some 46)) (v := ?_) (a' := ?_) #[true, true, true, true, true, true, true, true, true, true, true, true, true, true, false, false, true, false, false, false, false, false, false, false, false, false, false, false, false, false, false, false, false, false] rfl rfl (by kernel_rfl) (fun _ _ _ h => h) (Or.inl ⟨by rfl, ?_⟩) ?_ ?_
   rotate_left
   ·
    intro w'
    go_simp
    with_reducible rfl
   rotate_left
   ·
    simp only [Act.put, lsa, lsz, lss, i64_w, i32_w]
    rfl
   clear hcut39 hcut38
   refine one_ (i := 14) (N := (some 47)) #[true, true, true, true, true, true, true, true, true, true, true, true, true, true, true, false, true, false, false, false, false, false, false, false, false, false, false, false, false, false, false, false, false, false] rfl rfl (by kernel_rfl) (by decide) (fun K hK => ?_)
   refine Kd.N_lit_step (Kd.slice 35 k35) _ 27 ?hg (N' := 47) ?hd (xs := ([s1, s, s2] : List (List S35))) (inner := [.slice A39 s1.length c39, .slice As s.length cs, .slice As s2.length cs]) (ok := fun _ => True) (okp := fun _ => True) ?hr ?hp (fun _ hk => hk) trivial (Below.refl _ _) (Nat.le_refl _) (by simp) ?_; (case hd => rfl); (case hg => rfl); (case hr => first | (go_simp; done) | (go_simp; rfl)); (case hp => exact Reps.one (show Kd.FK (Kd.slice 35 k35) _ _ s1 [.slice A39 s1.length c39] from Kd.FK_slice_mk H39.out FA1.out) (Reps.one (show Kd.FK (Kd.slice 35 k35) _ _ s [.slice As s.length cs] from Kd.FK_slice_mk hcs.out FS.out) (Reps.one (show Kd.FK (Kd.slice 35 k35) _ _ s2 [.slice As s2.length cs] from Kd.FK_slice_mk H38.out FT.out) (Reps.none _ _))))
   intro vl w41 ho hb hg_ hnew_
   clear hg_ hnew_
   rw [← NQ.out] at ho
   obtain ⟨Aq, cq, rfl⟩ := Kd.N_slice ho
   have Lq := aS (Kd.N_reads' ho).2.2
   have hcq := aS (Kd.N_reads' ho).2.1
   clear ho
   have n0_ := aS (Kd.F_below FS.out hb)
   have n1_ := aS (Kd.F_below FV.out hb)
   have nb_ := aS (below_step HB.out hb)
   clear HB FS FV
   have FS := n0_
   have FV := n1_
   have HB := nb_
   clear nb_ n0_ n1_; clear hb
   refine hK.out _ _ trivial (fun hHeld => ?_)
   clear hK K
   refine norm_ (a' := ?_) ?_ ?_
   rotate_left
   ·
    show Act.put _ (some 47) _ = _
    simp only [Act.put, lsa, lsz, lss, i64_w, i32_w]
    rfl
   refine one_ (i := 15) (N := (some 48)) #[true, true, true, true, true, true, true, true, true, true, true, true, true, true, true, true, true, false, false, false, false, false, false, false, false, false, false, false, false, false, false, false, false, false] rfl rfl (by kernel_rfl) (by decide) (fun K hK => ?_)
   refine goes_ Try.func14 (by kernel_rfl) rfl #[.slice Aq q.length cq] (by rfl) rfl rfl (by (try simp only [List.map_toArray, List.map_cons, List.map_nil]); first | done | rfl) ?_
   with_reducible refine (merge_All.calls k _ _ q y _ ?side1 ?side2 A5.out).mono ?_
   (case side1 => exact Lq.out)
   (case side2 => exact hcq.out)
   rintro e w42 ⟨vr, rfl, ho0, hb⟩
   refine ⟨_, rfl, ?_⟩
   obtain ⟨Ay, cy, rfl⟩ := Kd.R_slice ho0
   have hcy := aS (Kd.R_reads' ho0).2.1
   have Ly := aS (Kd.R_reads' ho0).2.2
   clear ho0
   have n0_ := aS (Kd.F_below FS.out hb)
   have n1_ := aS (Kd.F_below FV.out hb)
   have nb_ := aS (below_step HB.out hb)
   clear HB FS FV
   have FS := n0_
   have FV := n1_
   have HB := nb_
   clear nb_ n0_ n1_; clear hb
   refine hK.out _ _ trivial (fun hHeld => ?_)
   clear hK K
   refine norm_ (a' := ?_) ?_ ?_
   rotate_left
   ·
    show Act.put _ (some 48) _ = _
    simp only [Act.put, lsa, lsz, lss, i64_w, i32_w]
    rfl
   refine one_ (i := 17) (N := (some 50)) #[true, true, true, true, true, true, true, true, true, true, true, true, true, true, true, true, true, true, false, false, false, false, false, false, false, false, false, false, false, false, false, false, false, false] rfl rfl (by kernel_rfl) (by decide) (fun K hK => ?_)
   refine goes_ Try.func13 (by kernel_rfl) rfl #[.slice Ay y.length cy, .slice As s.length cs] (by rfl) rfl rfl (by (try simp only [List.map_toArray, List.map_cons, List.map_nil]); first | done | rfl) ?_
   with_reducible refine (shardlogref08_Same.calls k _ _ y _ _ s true _ ?side1 ?side2 ?side3 ?side4 A6.out).mono ?_
   (case side1 => exact Ly.out)
   (case side2 => exact hcy.out)
   (case side3 => exact Kd.F_now FS.out)
   (case side4 => exact hcs.out)
   rintro e w' ⟨rfl, ⟨nd, rfl⟩⟩
   refine ⟨_, rfl, ?_⟩
   have n0_ := aS (Kd.F_drewN FS.out nd)
   have n1_ := aS (Kd.F_drewN FV.out nd)
   have n2_ := aS (bdN HB.out nd)
   clear HB FS FV Ly
   have FS := n0_
   have FV := n1_
   have HB := n2_
   clear n0_ n1_ n2_
   generalize World.drewN _ nd = w43 at FS FV HB ⊢
   refine hK.out _ _ trivial (fun hHeld => ?_)
   clear hK K
   refine norm_ (a' := ?_) ?_ ?_
   rotate_left
   ·
    show Act.put _ (some 50) _ = _
    simp only [Act.put, lsa, lsz, lss, i64_w, i32_w]
    rfl
   refine pure_ (i := 18) (N := (some 51)) (v := ?_) (a' := ?_) #[true, true, true, true, true, true, true, true, true, true, true, true, true, true, true, true, true, true, true, false, false, false, false, false, false, false, false, false, false, false, false, false, false, false] rfl rfl (by kernel_rfl) (fun _ _ _ h => h) (Or.inl ⟨by rfl, ?_⟩) ?_ ?_
   rotate_left
   ·
    intro w'
    go_simp
    with_reducible rfl
   rotate_left
   ·
    simp only [Act.put, lsa, lsz, lss, i64_w, i32_w]
    rfl
   refine pure_ (i := 19) (N := (some 52)) (v := ?_) (a' := ?_) #[true, true, true, true, true, true, true, true, true, true, true, true, true, true, true, true, true, true, true, true, false, false, false, false, false, false, false, false, false, false, false, false, false, false] rfl rfl (by kernel_rfl) (fun _ _ _ h => h) (Or.inl ⟨by rfl, ?_⟩) ?_ ?_
   rotate_left
   ·
    intro w'
    go_simp
    with_reducible rfl
   rotate_left
   ·
    simp only [Act.put, lsa, lsz, lss, i64_w, i32_w]
    rfl
   refine pure_ (i := 20) (N := (some 53)) (v := ?_) (a' := ?_) #[true, true, true, true, true, true, true, true, true, true, true, true, true, true, true, true, true, true, true, true, true, false, false, false, false, false, false, false, false, false, false, false, false, false] rfl rfl (by kernel_rfl) (fun _ _ _ h => h) (Or.inl ⟨by rfl, ?_⟩) ?_ ?_
   rotate_left
   ·
    intro w'
    go_simp
    with_reducible rfl
   rotate_left
   ·
    simp only [Act.put, lsa, lsz, lss, i64_w, i32_w]
    rfl
   refine pure_ (i := 21) (N := (some 54)) (v := ?_) (a' := ?_) #[true, true, true, true, true, true, true, true, true, true, true, true, true, true, true, true, true, true, true, true, true, true, false, false, false, false, false, false, false, false, false, false, false, false] rfl rfl (by kernel_rfl) (fun _ _ _ h => h) (Or.inl ⟨by rfl, ?_⟩) ?_ ?_
   rotate_left
   ·
    intro w'
    go_simp
    with_reducible rfl
   rotate_left
   ·
    simp only [Act.put, lsa, lsz, lss, i64_w, i32_w]
    rfl
   refine pure_ (i := 23) (N := (some 56)) (v := ?_) (a' := ?_) #[true, true, true, true, true, true, true, true, true, true, true, true, true, true, true, true, true, true, true, true, true, true, false, true, false, false, false, false, false, false, false, false, false, false] rfl rfl (by kernel_rfl) (fun _ _ _ h => h) (Or.inl ⟨by rfl, ?_⟩) ?_ ?_
   rotate_left
   ·
    intro w'
    go_simp
    with_reducible rfl
   rotate_left
   ·
    simp only [Act.put, lsa, lsz, lss, i64_w, i32_w]
    rfl
   refine one_ (i := 22) (N := (some 55)) #[true, true, true, true, true, true, true, true, true, true, true, true, true, true, true, true, true, true, true, true, true, true, true, true, false, false, false, false, false, false, false, false, false, false] rfl rfl (by kernel_rfl) (by decide) (fun K hK => ?_)
   refine goes_ Try.func20 (by kernel_rfl) rfl #[.slice Av v.length cv, .int .i64 a2] (by rfl) rfl rfl (by (try simp only [List.map_toArray, List.map_cons, List.map_nil]); first | done | rfl) ?_
   with_reducible refine (merge_Visible.calls k _ _ v a2 z _ ?side1 ?side2 A7.out).mono ?_
   (case side1 => exact Kd.F_now FV.out)
   (case side2 => exact hcv.out)
   rintro e w44 ⟨vr, rfl, ho0, hb⟩
   refine ⟨_, rfl, ?_⟩
   obtain ⟨Az, cz, rfl⟩ := Kd.R_slice ho0
   have hcz := aS (Kd.R_reads' ho0).2.1
   have Lz := aS (Kd.R_reads' ho0).2.2
   clear ho0
   have n0_ := aS (Kd.F_below FS.out hb)
   have n1_ := aS (Kd.F_below FV.out hb)
   have nb_ := aS (below_step HB.out hb)
   clear HB FS FV
   have FS := n0_
   have FV := n1_
   have HB := nb_
   clear nb_ n0_ n1_; clear hb
   refine hK.out _ _ trivial (fun hHeld => ?_)
   clear hK K
   refine norm_ (a' := ?_) ?_ ?_
   rotate_left
   ·
    show Act.put _ (some 55) _ = _
    simp only [Act.put, lsa, lsz, lss, i64_w, i32_w]
    rfl
   refine one_ (i := 24) (N := (some 57)) #[true, true, true, true, true, true, true, true, true, true, true, true, true, true, true, true, true, true, true, true, true, true, true, true, true, false, false, false, false, false, false, false, false, false] rfl rfl (by kernel_rfl) (by decide) (fun K hK => ?_)
   refine goes_ Try.func13 (by kernel_rfl) rfl #[.slice Az z.length cz, .slice Av v.length cv] (by rfl) rfl rfl (by (try simp only [List.map_toArray, List.map_cons, List.map_nil]); first | done | rfl) ?_
   with_reducible refine (shardlogref08_Same.calls k _ _ z _ _ v true _ ?side1 ?side2 ?side3 ?side4 A8.out).mono ?_
   (case side1 => exact Lz.out)
   (case side2 => exact hcz.out)
   (case side3 => exact Kd.F_now FV.out)
   (case side4 => exact hcv.out)
   rintro e w' ⟨rfl, ⟨nd, rfl⟩⟩
   refine ⟨_, rfl, ?_⟩
   have n0_ := aS (Kd.F_drewN FS.out nd)
   have n1_ := aS (Kd.F_drewN FV.out nd)
   have n2_ := aS (bdN HB.out nd)
   clear HB FS FV Lz
   have FS := n0_
   have FV := n1_
   have HB := n2_
   clear n0_ n1_ n2_
   generalize World.drewN _ nd = w45 at FS FV HB ⊢
   refine hK.out _ _ trivial (fun hHeld => ?_)
   clear hK K
   refine norm_ (a' := ?_) ?_ ?_
   rotate_left
   ·
    show Act.put _ (some 57) _ = _
    simp only [Act.put, lsa, lsz, lss, i64_w, i32_w]
    rfl
   refine pure_ (i := 25) (N := (some 58)) (v := ?_) (a' := ?_) #[true, true, true, true, true, true, true, true, true, true, true, true, true, true, true, true, true, true, true, true, true, true, true, true, true, true, false, false, false, false, false, false, false, false] rfl rfl (by kernel_rfl) (fun _ _ _ h => h) (Or.inl ⟨by rfl, ?_⟩) ?_ ?_
   rotate_left
   ·
    intro w'
    go_simp
    with_reducible rfl
   rotate_left
   ·
    simp only [Act.put, lsa, lsz, lss, i64_w, i32_w]
    rfl
   refine pure_ (i := 26) (N := (some 59)) (v := ?_) (a' := ?_) #[true, true, true, true, true, true, true, true, true, true, true, true, true, true, true, true, true, true, true, true, true, true, true, true, true, true, true, false, false, false, false, false, false, false] rfl rfl (by kernel_rfl) (fun _ _ _ h => h) (Or.inl ⟨by rfl, ?_⟩) ?_ ?_
   rotate_left
   ·
    intro w'
    go_simp
    with_reducible rfl
   rotate_left
   ·
    simp only [Act.put, lsa, lsz, lss, i64_w, i32_w]
    rfl
   refine pure_ (i := 27) (N := (some 60)) (v := ?_) (a' := ?_) #[true, true, true, true, true, true, true, true, true, true, true, true, true, true, true, true, true, true, true, true, true, true, true, true, true, true, true, true, false, false, false, false, false, false] rfl rfl (by kernel_rfl) (fun _ _ _ h => h) (Or.inl ⟨by rfl, ?_⟩) ?_ ?_
   rotate_left
   ·
    intro w'
    go_simp
    with_reducible rfl
   rotate_left
   ·
    simp only [Act.put, lsa, lsz, lss, i64_w, i32_w]
    rfl
   refine pure_ (i := 28) (N := (some 61)) (v := ?_) (a' := ?_) #[true, true, true, true, true, true, true, true, true, true, true, true, true, true, true, true, true, true, true, true, true, true, true, true, true, true, true, true, true, false, false, false, false, false] rfl rfl (by kernel_rfl) (fun _ _ _ h => h) (Or.inl ⟨by rfl, ?_⟩) ?_ ?_
   rotate_left
   ·
    intro w'
    go_simp
    with_reducible rfl
   rotate_left
   ·
    simp only [Act.put, lsa, lsz, lss, i64_w, i32_w]
    rfl
   refine pure_ (i := 30) (N := (some 63)) (v := ?_) (a' := ?_) #[true, true, true, true, true, true, true, true, true, true, true, true, true, true, true, true, true, true, true, true, true, true, true, true, true, true, true, true, true, false, true, false, false, false] rfl rfl (by kernel_rfl) (fun _ _ _ h => h) (Or.inl ⟨by rfl, ?_⟩) ?_ ?_
   rotate_left
   ·
    intro w'
    go_simp
    with_reducible rfl
   rotate_left
   ·
    simp only [Act.put, lsa, lsz, lss, i64_w, i32_w]
    rfl
   refine one_ (i := 29) (N := (some 62)) #[true, true, true, true, true, true, true, true, true, true, true, true, true, true, true, true, true, true, true, true, true, true, true, true, true, true, true, true, true, true, true, false, false, false] rfl rfl (by kernel_rfl) (by decide) (fun K hK => ?_)
   refine goes_ Try.func18 (by kernel_rfl) rfl #[.slice Av v.length cv, .int .i64 a2] (by rfl) rfl rfl (by (try simp only [List.map_toArray, List.map_cons, List.map_nil]); first | done | rfl) ?_
   with_reducible refine (merge_Clean.calls k _ _ v a2 c _ ?side1 ?side2 A9.out).mono ?_
   (case side1 => exact Kd.F_now FV.out)
   (case side2 => exact hcv.out)
   rintro e w46 ⟨vr, rfl, ho0, hb⟩
   refine ⟨_, rfl, ?_⟩
   obtain ⟨Ac, cc, rfl⟩ := Kd.R_slice ho0
   have hcc := aS (Kd.R_reads' ho0).2.1
   have Lc := aS (Kd.R_reads' ho0).2.2
   clear ho0
   have n0_ := aS (Kd.F_below FS.out hb)
   have n1_ := aS (Kd.F_below FV.out hb)
   have nb_ := aS (below_step HB.out hb)
   clear HB FS FV
   have FS := n0_
   have FV := n1_
   have HB := nb_
   clear nb_ n0_ n1_; clear hb
   refine hK.out _ _ trivial (fun hHeld => ?_)
   clear hK K
   refine norm_ (a' := ?_) ?_ ?_
   rotate_left
   ·
    show Act.put _ (some 62) _ = _
    simp only [Act.put, lsa, lsz, lss, i64_w, i32_w]
    rfl
   refine one_ (i := 31) (N := (some 64)) #[true, true, true, true, true, true, true, true, true, true, true, true, true, true, true, true, true, true, true, true, true, true, true, true, true, true, true, true, true, true, true, true, false, false] rfl rfl (by kernel_rfl) (by decide) (fun K hK => ?_)
   refine goes_ Try.func13 (by kernel_rfl) rfl #[.slice Ac c.length cc, .slice Av v.length cv] (by rfl) rfl rfl (by (try simp only [List.map_toArray, List.map_cons, List.map_nil]); first | done | rfl) ?_
   with_reducible refine (shardlogref08_Same.calls k _ _ c _ _ v r _ ?side1 ?side2 ?side3 ?side4 AA.out).mono ?_
   (case side1 => exact Lc.out)
   (case side2 => exact hcc.out)
   (case side3 => exact Kd.F_now FV.out)
   (case side4 => exact hcv.out)
   rintro e w' ⟨rfl, ⟨nd, rfl⟩⟩
   refine ⟨_, rfl, ?_⟩
   have n0_ := aS (Kd.F_drewN FS.out nd)
   have n1_ := aS (Kd.F_drewN FV.out nd)
   have n2_ := aS (bdN HB.out nd)
   clear HB FS FV Lc
   have FS := n0_
   have FV := n1_
   have HB := n2_
   clear n0_ n1_ n2_
   generalize World.drewN _ nd = w47 at FS FV HB ⊢
   refine hK.out _ _ trivial (fun hHeld => ?_)
   clear hK K
   refine norm_ (a' := ?_) ?_ ?_
   rotate_left
   ·
    show Act.put _ (some 64) _ = _
    simp only [Act.put, lsa, lsz, lss, i64_w, i32_w]
    rfl
   refine pure_ (i := 32) (N := (some 65)) (v := ?_) (a' := ?_) #[true, true, true, true, true, true, true, true, true, true, true, true, true, true, true, true, true, true, true, true, true, true, true, true, true, true, true, true, true, true, true, true, true, false] rfl rfl (by kernel_rfl) (fun _ _ _ h => h) (Or.inl ⟨by rfl, ?_⟩) ?_ ?_
   rotate_left
   ·
    intro w'
    go_simp
    with_reducible rfl
   rotate_left
   ·
    simp only [Act.put, lsa, lsz, lss, i64_w, i32_w]
    rfl
   refine pure_ (i := 33) (N := (some 6)) (v := ?_) (a' := ?_) #[true, true, true, true, true, true, true, true, true, true, true, true, true, true, true, true, true, true, true, true, true, true, true, true, true, true, true, true, true, true, true, true, true, true] rfl rfl (by kernel_rfl) (fun _ _ _ h => h) (Or.inl ⟨by rfl, ?_⟩) ?_ ?_
   rotate_left
   ·
    intro w'
    go_simp
    with_reducible rfl
   rotate_left
   ·
    simp only [Act.put, lsa, lsz, lss, i64_w, i32_w]
    rfl
   refine done_ (by kernel_rfl) ?_
   try go_wp2
   go_ret
   exact ⟨by first | rfl | (simp; done), (by repeat (first | (with_reducible first | exact HB.out | apply bal | apply bdN | apply bdo) | exact HB.out))⟩


/-- THE ONE PURE STATEMENT of shardloglaw13_MergeSame. -/
def shardloglaw13_MergeSame.Pure : Prop := ∀ (l0 : List (S35)) (a1 : Int) (a2 : Int), (l0.length ≤ maxLen ∧ l0.length * 64 ≤ 140737488351232 ∧ ∀ y0_ ∈ l0, (y0_.f0.size ≤ 140737488351232 ∧ y0_.f1.size ≤ 140737488351232 ∧ (Lit.int .i64 y0_.f2).wf = true ∧ y0_.f3.size ≤ 140737488351232 ∧ True)) → (Lit.int .u8 a1).wf = true → (Lit.int .i64 a2).wf = true → ∃ k, shardloglaw13_MergeSame.f k l0 a1 a2 = some true
theorem shardloglaw13_MergeSame.walk (P : shardloglaw13_MergeSame.Pure) (A0 : Option Addr) (c0 : Nat) (l0 : List (S35)) (a1 : Int) (a2 : Int) (w : World) (wf0 : (l0.length ≤ maxLen ∧ l0.length * 64 ≤ 140737488351232 ∧ ∀ y0_ ∈ l0, (y0_.f0.size ≤ 140737488351232 ∧ y0_.f1.size ≤ 140737488351232 ∧ (Lit.int .i64 y0_.f2).wf = true ∧ y0_.f3.size ≤ 140737488351232 ∧ True))) (hr0 : Kd.C k35 w A0 l0.length l0) (hc0 : l0.length ≤ c0) (wf1 : (Lit.int .u8 a1).wf = true) (wf2 : (Lit.int .i64 a2).wf = true) :
  Calls Try.prog 9 #[.slice A0 l0.length c0, .int .u8 a1, .int .i64 a2] w fun e w' => e = .returned (.bool true) ∧ Below w.heap.size w w' := by
 obtain ⟨k, h⟩ := P l0 a1 a2 wf0 wf1 wf2
 refine (shardloglaw13_MergeSame.calls k A0 c0 l0 a1 a2 true w hr0 hc0 h).mono ?_
 rintro e w' ⟨rfl, hd⟩
 exact ⟨rfl, hd⟩

end Go.Proofs.Ythphffimgmbhgaa.X
