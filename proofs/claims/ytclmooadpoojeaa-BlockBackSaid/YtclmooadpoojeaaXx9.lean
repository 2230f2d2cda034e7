-- written by a program of this session's, over the kit's print
import Derived.Test.YtclmooadpoojeaaXx0
import Derived.Test.YtclmooadpoojeaaXx4
import Derived.Test.YtclmooadpoojeaaXx5
import Derived.Test.YtclmooadpoojeaaXx7
import Derived.Test.YtclmooadpoojeaaXx8
namespace Go.Proofs.Ytclmooadpoojeaa.X
open Go.RowKit Go.Proofs.YtclmooadpoojeaaW.PrintWords Go.Proofs.YtclmooadpoojeaaW.PrintLast Go.Proofs.YtclmooadpoojeaaW.PrintMore
attribute [local go_sem] max2_int min2_int max_two min_two max_three min_three max_four min_four gtr_str   -- for this text's walks alone
set_option linter.unusedVariables false
set_option linter.unusedSimpArgs false

/-! ### shardlogref08_Sort: function 10 -/
def shardlogref08_Sort.l0 : Nat → List (S46) → List (S46) → Int → Option ((List (S46)))
 | 0, _, _, _ => none
 | k + 1, x0, x3, x4 => if x4 < (x0.length : Int) then (if 0 ≤ x4 then ((shardlogref08_Put1.f k x3 ((rd_T46 x0 x4).f0) ((rd_T46 x0 x4).f1) ((rd_T46 x0 x4).f2) ((rd_T46 x0 x4).f3) ((rd_T46 x0 x4).f4)).bind fun t453 => (shardlogref08_Sort.l0 k x0 t453 (wrap64 (x4 + 1)))) else (none)) else (some x3)
def shardlogref08_Sort.f (k : Nat) (l0 : List (S46)) : Option ((List (S46))) := shardlogref08_Sort.l0 k l0 ([] : List (S46)) 0
theorem shardlogref08_Sort.mono_l : ∀ k, (∀ y0 y1 y2, LeO (shardlogref08_Sort.l0 k y0 y1 y2) (shardlogref08_Sort.l0 (k + 1) y0 y1 y2))
 | 0 => fun _ _ _ r h => by simp [shardlogref08_Sort.l0] at h
 | k + 1 => by
  have ih0 := shardlogref08_Sort.mono_l k
  ·
   intro y0 y1 y2
   unfold shardlogref08_Sort.l0
   repeat' first
   | (with_reducible exact ih0 _ _ _)
   | (with_reducible exact shardlogref08_Put1.mono _ _ _ _ _ _ _)
   | (with_reducible exact LeO.refl _)
   | (with_reducible exact LeO.none _)
   | (with_reducible refine LeO.ite ?_ ?_)
   | (with_reducible refine LeO.bind ?_ (fun _ => ?_))
   | exact ih0 _ _ _
   | exact shardlogref08_Put1.mono _ _ _ _ _ _ _
   | exact LeO.none _
   | refine LeO.ite ?_ ?_
   | refine LeO.bind ?_ (fun _ => ?_)
theorem shardlogref08_Sort.mono : ∀ a0 k, LeO (shardlogref08_Sort.f k a0) (shardlogref08_Sort.f (k + 1) a0) := by
 intro a0 k
 have ih0 := shardlogref08_Sort.mono_l k
 unfold shardlogref08_Sort.f
 repeat' first
   | (with_reducible exact ih0 _ _ _)
   | (with_reducible exact shardlogref08_Put1.mono _ _ _ _ _ _ _)
   | (with_reducible exact LeO.refl _)
   | (with_reducible exact LeO.none _)
   | (with_reducible refine LeO.ite ?_ ?_)
   | (with_reducible refine LeO.bind ?_ (fun _ => ?_))
   | exact ih0 _ _ _
   | exact shardlogref08_Put1.mono _ _ _ _ _ _ _
   | exact LeO.none _
   | refine LeO.ite ?_ ?_
   | refine LeO.bind ?_ (fun _ => ?_)
set_option maxHeartbeats 8000000 in
set_option maxRecDepth 100000 in
theorem shardlogref08_Sort.calls (k : Nat) (A0 : Option Addr) (c0 : Nat) (l0 : List (S46)) (r : List (S46)) (w : World) (hr0 : Kd.C k46 w A0 l0.length l0) (hc0 : l0.length ≤ c0) (h : shardlogref08_Sort.f k l0 = some r) :
  Calls Try.prog 10 #[.slice A0 l0.length c0] w fun e w' => ∃ v0_ : Value, e = .returned (v0_) ∧ Kd.R k46 46 w' w.heap.size (fun _ => True) v0_ r ∧ Below w.heap.size w w' := by
 have hu46 := Try.underlying46
 have HR0 := aS hr0
 have HC0 := aS hc0
 clear hr0 hc0
 have HB := aS (Below.refl w.heap.size w)
 have H : (shardlogref08_Sort.l0 k l0 ([] : List (S46)) 0) = some r := h
 clear h
 have H' := aS H
 clear H
 go_enter Try.func10, Try.ntmps10
 go_wp2
 go_loopg [3, 4] k (fun kq v3 v4 w' => ∃ (x3_1 : List (S46)) (x4_1 : Int), v4 = .int .i64 x4_1 ∧ Aside0 (shardlogref08_Sort.l0 kq l0 x3_1 x4_1 = some r) ∧ Aside0 (kq ≤ k) ∧ Aside0 (Kd.R k46 46 w' w.heap.size (fun _ => True) v3 x3_1) ∧ Aside0 (Below w.heap.size w w'))
 case atStart => exact ⟨(([] : List (S46))), (0), (by first | rfl | (simp; done) | (simp [*]; done) | (simp; exact (by decide : ∀ a_ b_ : Bool, (a_ == b_) = (!a_ != b_)) _ _)), H', ⟨Nat.le_refl _⟩, ⟨by first | exact Kd.R_nil _ _ _ _ _ | exact Kd.N_nil _ _ _ _ _ | exact Kd.V_nil _ _ _ _ _ | exact Kd.Q_nil _ _ _ _ _ | exact Kd.S_nil _ _ _ _ _⟩, ⟨by repeat (first | (with_reducible first | exact HB.out | apply bal | apply bdN | apply bdo) | exact HB.out)⟩⟩
 case round =>
  clear H'; (try clear c1)
  obtain ⟨x3_1, x4_1, rfl, HA, HK1, HO_3, HB⟩ := hrel
  cases gk with
  | zero => exact absurd HA.out (by simp [shardlogref08_Sort.l0])
  | succ k1 =>
   have H := HA.out; clear HA
   simp only [shardlogref08_Sort.l0] at H
   by_cases c2 : x4_1 < (l0.length : Int)
   ·
    rw [if_pos c2] at H
    have c2b0 : decide (x4_1 < (l0.length : Int)) = true := decide_eq_true c2
    clear c2
    by_cases c3 : 0 ≤ x4_1
    ·
     rw [if_pos c3] at H
     have c3b0 : decide (0 ≤ x4_1) = true := decide_eq_true c3
     clear c3
     replace H := obm H
     obtain ⟨t453, A40, H⟩ := H
     replace H : (shardlogref08_Sort.l0 k1 l0 t453 (wrap64 (x4_1 + 1))) = some r := H
     have A4 := aS A40
     clear A40
     have H' := aS H
     clear H
     have p452 : 0 ≤ (x4_1 : Int) := odt (by first | (with_reducible assumption) | assumption)
     have q452 : x4_1 < (l0.length : Int) := odt (by first | (with_reducible assumption) | assumption)
     obtain ⟨ad452, e452, hx452_0, hx452_1, hx452_2, hx452_3, hx452_4⟩ := at_T46 HR0.out x4_1 p452 q452
     cases e452
     replace hx452_0 := (HB.out.cell (wbl w _ hx452_0)).trans hx452_0
     replace hx452_1 := (HB.out.cell (wbl w _ hx452_1)).trans hx452_1
     replace hx452_2 := (HB.out.cell (wbl w _ hx452_2)).trans hx452_2
     replace hx452_3 := (HB.out.cell (wbl w _ hx452_3)).trans hx452_3
     replace hx452_4 := (HB.out.cell (wbl w _ hx452_4)).trans hx452_4
     replace p452 := eq_true p452
     replace q452 := eq_true q452
     obtain ⟨Ao5, co5, eo5⟩ := Kd.R_slice HO_3.out
     subst eo5
     go_wp2_with (first | ((with_reducible refine gate_callee (f := 22) rfl ?_); refine goesL_ (some 16) rfl rfl Try.func22 (by kernel_rfl) rfl #[.slice Ao5 x3_1.length co5, .agg #[.string ((rd_T46 l0 x4_1).f0), .string ((rd_T46 l0 x4_1).f1), .int .i64 ((rd_T46 l0 x4_1).f2), .string ((rd_T46 l0 x4_1).f3), .bool ((rd_T46 l0 x4_1).f4)]] rfl (by (try simp only [List.map_toArray, List.map_cons, List.map_nil]); first | done | rfl | (simp only [lld, llt]; rfl)) ?_; (with_reducible refine (shardlogref08_Put1.calls k1 _ _ x3_1 ((rd_T46 l0 x4_1).f0) ((rd_T46 l0 x4_1).f1) ((rd_T46 l0 x4_1).f2) ((rd_T46 l0 x4_1).f3) ((rd_T46 l0 x4_1).f4) t453 _ ?side1 ?side2 A4.out).mono ?_); (case side1 => repeat (first | exact (Kd.R_reads' HO_3.out).2.2 | (with_reducible refine Kd.C_alloc ?_ _) | (with_reducible refine Kd.C_drewN ?_ _) | (with_reducible refine Kd.C_drew ?_))); (case side2 => exact (Kd.R_reads' HO_3.out).2.1); rintro e w6 ⟨v454, rfl, ho0, hb⟩; refine ⟨_, rfl, ?_⟩; have n0_ := aS (Kd.R_elder' (by (with_reducible repeat (first | apply Kd.R_alloc | apply Kd.R_drewN | apply Kd.R_drew)); exact HO_3.out) (by first | exact Kd.R_base ho0 | exact Kd.S_base ho0 | exact Kd.R_base ho0 | exact Kd.V_base ho0) hb); have n1_ := aS (Kd.R_lower (Kd.R_new' ho0 (Kd.R_lt (by (with_reducible repeat (first | apply Kd.R_alloc | apply Kd.R_drewN | apply Kd.R_drew)); exact HO_3.out))) (below_size (by repeat (first | (with_reducible first | exact HB.out | apply bal | apply bdN | apply bdo) | exact HB.out)))); have n2_ := aS (below_step (by repeat (first | (with_reducible first | exact HB.out | apply bal | apply bdN | apply bdo) | exact HB.out)) hb); clear HO_3; clear HB; have HO_3 := n0_; have HO455 := n1_; have HB := n2_; clear n0_ n1_ n2_; (try clear hb); (try clear hb2); (try clear hk); (try clear hi); (try clear ho0)))
     go_roundg k1
     case measure => have := HK1.out; omega
     case rel => exact ⟨(t453), (wrap64 (x4_1 + 1)), (by first | rfl | (simp; done) | (simp [*]; done) | (simp; exact (by decide : ∀ a_ b_ : Bool, (a_ == b_) = (!a_ != b_)) _ _)), H', ⟨by have := HK1.out; omega⟩, ⟨by (with_reducible repeat (first | apply Kd.R_alloc | apply Kd.R_drewN | apply Kd.R_drew)); exact Kd.R_mono HO455.out (fun _ hk => trivial)⟩, ⟨by repeat (first | (with_reducible first | exact HB.out | apply bal | apply bdN | apply bdo) | exact HB.out)⟩⟩
    ·
     rw [if_neg c3] at H
     exact absurd H (by simp)
   ·
    rw [if_neg c2] at H
    have c2b0 : decide (x4_1 < (l0.length : Int)) = false := decide_eq_false c2
    clear c2
    obtain rfl := Option.some.inj H
    go_wp2
    go_ret
    exact ⟨_, by first | rfl | (simp [errW_none, errW_some] <;> rfl) | (simp [*, errW_none, errW_some] <;> rfl), by (with_reducible repeat (first | apply Kd.R_alloc | apply Kd.R_drewN | apply Kd.R_drew)); exact HO_3.out, by repeat (first | (with_reducible first | exact HB.out | apply bal | apply bdN | apply bdo) | exact HB.out)⟩

/-! ### shardlogref01_Num: function 29 -/
def shardlogref01_Num.f (a0 : Int) : Option (List Int) := if a0 < 0 then (some ([] : List Int)) else (if a0 > 4294967295 then (some ([] : List Int)) else (some (([(wrap64 (Int.tdiv a0 16777216)) % 256, (Int.tmod (wrap64 (Int.tdiv a0 65536)) 256) % 256, (Int.tmod (wrap64 (Int.tdiv a0 256)) 256) % 256, (Int.tmod a0 256) % 256] : List Int))))
set_option maxHeartbeats 8000000 in
set_option maxRecDepth 100000 in
theorem shardlogref01_Num.calls (a0 : Int) (r : List Int) (w : World) (h : shardlogref01_Num.f a0 = some r) :
  Calls Try.prog 29 #[.int .i64 a0] w fun e w' => ∃ v0_ : Value, e = .returned (v0_) ∧ Kd.R (Kd.int .u8) 5 w' w.heap.size (fun _ => True) v0_ r ∧ Below w.heap.size w w' := by
 have HB := aS (Below.refl w.heap.size w)
 have H : (if a0 < 0 then (some ([] : List Int)) else (if a0 > 4294967295 then (some ([] : List Int)) else (some (([(wrap64 (Int.tdiv a0 16777216)) % 256, (Int.tmod (wrap64 (Int.tdiv a0 65536)) 256) % 256, (Int.tmod (wrap64 (Int.tdiv a0 256)) 256) % 256, (Int.tmod a0 256) % 256] : List Int))))) = some r := h
 clear h
 by_cases c2 : a0 < 0
 ·
  rw [if_pos c2] at H
  have c2b0 : decide (a0 < 0) = true := decide_eq_true c2
  clear c2
  obtain rfl := Option.some.inj H
  go_enter Try.func29, Try.ntmps29
  go_wp2
  go_ret
  exact ⟨_, by first | rfl | (simp [errW_none, errW_some] <;> rfl) | (simp [*, errW_none, errW_some] <;> rfl), by first | exact Kd.R_nil _ _ _ _ _ | exact Kd.N_nil _ _ _ _ _ | exact Kd.V_nil _ _ _ _ _ | exact Kd.Q_nil _ _ _ _ _ | exact Kd.S_nil _ _ _ _ _, by repeat (first | (with_reducible first | exact HB.out | apply bal | apply bdN | apply bdo) | exact HB.out)⟩
 ·
  rw [if_neg c2] at H
  have c2b0 : decide (a0 < 0) = false := decide_eq_false c2
  clear c2
  by_cases c3 : a0 > 4294967295
  ·
   rw [if_pos c3] at H
   have c3b0 : decide (4294967295 < a0) = true := decide_eq_true c3
   clear c3
   obtain rfl := Option.some.inj H
   go_enter Try.func29, Try.ntmps29
   go_wp2
   go_ret
   exact ⟨_, by first | rfl | (simp [errW_none, errW_some] <;> rfl) | (simp [*, errW_none, errW_some] <;> rfl), by first | exact Kd.R_nil _ _ _ _ _ | exact Kd.N_nil _ _ _ _ _ | exact Kd.V_nil _ _ _ _ _ | exact Kd.Q_nil _ _ _ _ _ | exact Kd.S_nil _ _ _ _ _, by repeat (first | (with_reducible first | exact HB.out | apply bal | apply bdN | apply bdo) | exact HB.out)⟩
  ·
   rw [if_neg c3] at H
   have c3b0 : decide (4294967295 < a0) = false := decide_eq_false c3
   clear c3
   obtain ⟨y456, hy456⟩ : ∃ y_ : List Int, y_ = (([(wrap64 (Int.tdiv a0 16777216)) % 256, (Int.tmod (wrap64 (Int.tdiv a0 65536)) 256) % 256, (Int.tmod (wrap64 (Int.tdiv a0 256)) 256) % 256, (Int.tmod a0 256) % 256] : List Int)) := ⟨_, rfl⟩
   replace H : (some y456) = some r := by first | (rw [hy456]; with_reducible exact H) | (have H2_ := (Option.bind_some _ _).symm.trans H; rw [hy456]; with_reducible exact H2_) | (have H2_ := (Option.bind_some _ _).symm.trans H; with_reducible exact H2_) | with_reducible exact H | (rw [hy456]; exact H) | exact H
   have Ny456 := aS hy456
   clear hy456
   obtain rfl := Option.some.inj H
   go_enter Try.func29, Try.ntmps29
   go_wp2_with (first | ((with_reducible refine gate_dst (N := 23) rfl ?_); refine Kd.R_lit (Kd.int .u8) _ 5 ?hg (N := 23) ?hd (xs := ([(wrap64 (Int.tdiv a0 16777216)) % 256, (Int.tmod (wrap64 (Int.tdiv a0 65536)) 256) % 256, (Int.tmod (wrap64 (Int.tdiv a0 256)) 256) % 256, (Int.tmod a0 256) % 256] : List Int)) (inner := [.int .u8 ((wrap64 (Int.tdiv a0 16777216)) % 256), .int .u8 ((Int.tmod (wrap64 (Int.tdiv a0 65536)) 256) % 256), .int .u8 ((Int.tmod (wrap64 (Int.tdiv a0 256)) 256) % 256), .int .u8 ((Int.tmod a0 256) % 256)]) (ok := fun _ => True) (okp := fun _ => True) ?hr ?hp (fun _ hk => hk) trivial (Below.refl _ _) (Nat.le_refl _) (by simp) ?_; (case hd => rfl); (case hg => rfl); (case hr => first | (go_simp; done) | (go_simp; rfl)); (case hp => exact (Reps.one (show Kd.M (Kd.int .u8) _ _ _ ((wrap64 (Int.tdiv a0 16777216)) % 256) [.int .u8 ((wrap64 (Int.tdiv a0 16777216)) % 256)] from rfl) (Reps.one (show Kd.M (Kd.int .u8) _ _ _ ((Int.tmod (wrap64 (Int.tdiv a0 65536)) 256) % 256) [.int .u8 ((Int.tmod (wrap64 (Int.tdiv a0 65536)) 256) % 256)] from rfl) (Reps.one (show Kd.M (Kd.int .u8) _ _ _ ((Int.tmod (wrap64 (Int.tdiv a0 256)) 256) % 256) [.int .u8 ((Int.tmod (wrap64 (Int.tdiv a0 256)) 256) % 256)] from rfl) (Reps.one (show Kd.M (Kd.int .u8) _ _ _ ((Int.tmod a0 256) % 256) [.int .u8 ((Int.tmod a0 256) % 256)] from rfl) (Reps.none _ _)))))); intro v457 w4 ho5 hb hg_ hnew_; clear hg_ hnew_; (first | rw [← Ny456.out] at ho5 | (simp only [Int.reduceToNat] at ho5; rw [← Ny456.out] at ho5)); have n0_ := aS (Kd.R_lower ho5 (below_size (by repeat (first | (with_reducible first | exact HB.out | apply bal | apply bdN | apply bdo) | exact HB.out)))); have n1_ := aS (below_step (by repeat (first | (with_reducible first | exact HB.out | apply bal | apply bdN | apply bdo) | exact HB.out)) hb); clear HB; have HO458 := n0_; have HB := n1_; clear n0_ n1_; clear hb ho5))
   go_ret
   exact ⟨_, by first | rfl | (simp [errW_none, errW_some] <;> rfl) | (simp [*, errW_none, errW_some] <;> rfl), by (with_reducible repeat (first | apply Kd.R_alloc | apply Kd.R_drewN | apply Kd.R_drew)); exact HO458.out, by repeat (first | (with_reducible first | exact HB.out | apply bal | apply bdN | apply bdo) | exact HB.out)⟩

/-! ### shardlogref01_Text: function 37 -/
def shardlogref01_Text.f (a0 : ByteArray) : Option (List Int) := (shardlogref01_Num.f (a0.size : Int)).bind fun t459 => (if a0.size ≤ 9223372036854775807 then ((some (bytesOf a0 : List Int)).bind fun y462 => (if t459.length + y462.length < 140737488355328 then (some (t459 ++ y462)) else (none))) else (none))
set_option maxHeartbeats 8000000 in
set_option maxRecDepth 100000 in
theorem shardlogref01_Text.calls (a0 : ByteArray) (r : List Int) (w : World) (h : shardlogref01_Text.f a0 = some r) :
  Calls Try.prog 37 #[.string a0] w fun e w' => ∃ v0_ : Value, e = .returned (v0_) ∧ Kd.R (Kd.int .u8) 5 w' w.heap.size (fun _ => True) v0_ r ∧ Below w.heap.size w w' := by
 have HB := aS (Below.refl w.heap.size w)
 have H : ((shardlogref01_Num.f (a0.size : Int)).bind fun t459 => (if a0.size ≤ 9223372036854775807 then ((some (bytesOf a0 : List Int)).bind fun y462 => (if t459.length + y462.length < 140737488355328 then (some (t459 ++ y462)) else (none))) else (none))) = some r := h
 clear h
 replace H := obm H
 obtain ⟨t459, A20, H⟩ := H
 replace H : (if a0.size ≤ 9223372036854775807 then ((some (bytesOf a0 : List Int)).bind fun y462 => (if t459.length + y462.length < 140737488355328 then (some (t459 ++ y462)) else (none))) else (none)) = some r := H
 have A2 := aS A20
 clear A20
 by_cases c3 : a0.size ≤ 9223372036854775807
 ·
  rw [if_pos c3] at H
  have c3b0 := eq_true c3
  have c3b1 : decide (a0.size ≤ 9223372036854775807) = true := decide_eq_true c3
  try have c3b2 : (9223372036854775807 < a0.size) = False := eq_false (Nat.not_lt.2 c3)
  clear c3
  obtain ⟨y462, hy462⟩ : ∃ y_ : List Int, y_ = (bytesOf a0) := ⟨_, rfl⟩
  replace H : (if t459.length + y462.length < 140737488355328 then (some (t459 ++ y462)) else (none)) = some r := by first | (rw [hy462]; with_reducible exact H) | (have H2_ := (Option.bind_some _ _).symm.trans H; rw [hy462]; with_reducible exact H2_) | (have H2_ := (Option.bind_some _ _).symm.trans H; with_reducible exact H2_) | with_reducible exact H | (rw [hy462]; exact H) | exact H
  have Ny462 := aS hy462
  clear hy462
  by_cases c4 : t459.length + y462.length < 140737488355328
  ·
   rw [if_pos c4] at H
   have LMc4 := aS c4
   clear c4
   obtain ⟨y465, hy465⟩ : ∃ y_ : List Int, y_ = (t459 ++ y462) := ⟨_, rfl⟩
   replace H : (some y465) = some r := by first | (rw [hy465]; with_reducible exact H) | (have H2_ := (Option.bind_some _ _).symm.trans H; rw [hy465]; with_reducible exact H2_) | (have H2_ := (Option.bind_some _ _).symm.trans H; with_reducible exact H2_) | with_reducible exact H | (rw [hy465]; exact H) | exact H
   have Ny465 := aS hy465
   clear hy465
   obtain rfl := Option.some.inj H
   go_enter Try.func37, Try.ntmps37
   go_wp2_with (first | ((with_reducible refine gate_callee (f := 29) rfl ?_); refine goesL_ (some 5) rfl rfl Try.func29 (by kernel_rfl) rfl #[.int .i64 (a0.size : Int)] rfl (by (try simp only [List.map_toArray, List.map_cons, List.map_nil]); first | done | rfl | (simp only [lld, llt]; rfl)) ?_; (with_reducible refine (shardlogref01_Num.calls (a0.size : Int) t459 _ A2.out).mono ?_); rintro e w5 ⟨v460, rfl, ho0, hb⟩; refine ⟨_, rfl, ?_⟩; have n0_ := aS (Kd.R_lower ho0 (below_size (by repeat (first | (with_reducible first | exact HB.out | apply bal | apply bdN | apply bdo) | exact HB.out)))); have n1_ := aS (below_step (by repeat (first | (with_reducible first | exact HB.out | apply bal | apply bdN | apply bdo) | exact HB.out)) hb); clear HB; have HO461 := n0_; have HB := n1_; clear n0_ n1_; (try clear hb); (try clear hb2); (try clear hk); (try clear hi); (try clear ho0)) | ((with_reducible refine gate_dst (N := 7) rfl ?_); refine Kd.V_bytes rfl (N := 7) rfl 9 33 5 _ a0 rfl rfl Try.underlying9 Try.underlying33 Try.underlying5 (odt (by first | (with_reducible assumption) | assumption)) ?_; intro v463 w6 ho7 hb; rw [← Ny462.out] at ho7; have n0_ := aS (Kd.R_below (by (with_reducible repeat (first | apply Kd.R_alloc | apply Kd.R_drewN | apply Kd.R_drew)); exact HO461.out) hb); have n1_ := aS (Kd.V_lower (Kd.V_mono (ok' := fun k_ => some k_ ≠ (v460 : Value).ownBlock) ho7 (fun k_ hk_ => (Kd.fresh' (Kd.R_lt (by (with_reducible repeat (first | apply Kd.R_alloc | apply Kd.R_drewN | apply Kd.R_drew)); exact HO461.out)) k_ hk_))) (below_size (by repeat (first | (with_reducible first | exact HB.out | apply bal | apply bdN | apply bdo) | exact HB.out)))); have n2_ := aS (below_step (by repeat (first | (with_reducible first | exact HB.out | apply bal | apply bdN | apply bdo) | exact HB.out)) hb); clear HO461; clear HB; have HO461 := n0_; have HO464 := n1_; have HB := n2_; clear n0_ n1_ n2_; clear hb ho7; obtain ⟨Ao9, co9, eo9⟩ := Kd.V_slice HO464.out; subst eo9) | ((with_reducible refine gate_builtin (b := .append) (xs := #[.tmp 5, .tmp 7]) rfl ?_); at_builtin; refine Kd.R_append_rows (Kd.int .u8) (w0 := w) w.heap.size rfl (.tmp 5) (.tmp 7) 33 5 (.int .u8 0) 1 rfl Try.underlying33 info5 rfl (by decide) (by omega) v460 t459 y462 _ _ _ (fun _ => True) (fun _ => False) rfl rfl ?aO ?aR (fun _ _ h => h) (fun _ h => h.elim) ?aF ?aB ?aS ?aL ?_; (case aR => repeat (first | exact (Kd.V_reads' HO464.out).2.2 | (with_reducible refine Kd.C_alloc ?_ _) | (with_reducible refine Kd.C_drewN ?_ _) | (with_reducible refine Kd.C_drew ?_))); (case aB => exact (by repeat (first | (with_reducible first | exact HB.out | apply bal | apply bdN | apply bdo) | exact HB.out))); (case aF => exact (fun _ _ => trivial)); (case aO => exact (by (with_reducible repeat (first | apply Kd.R_alloc | apply Kd.R_drewN | apply Kd.R_drew)); exact HO461.out)); (case aS => exact (below_size (by repeat (first | (with_reducible first | exact HB.out | apply bal | apply bdN | apply bdo) | exact HB.out)))); (case aL => have := LMc4.out; omega); intro v466 w8 ho hb hg hat; rw [← Ny465.out] at ho; have n0_ := aS (Kd.V_afterv (ok := (fun _ => True)) (by (with_reducible repeat (first | apply Kd.V_alloc | apply Kd.V_drewN | apply Kd.V_drew)); exact Kd.V_mono HO464.out (fun _ hk => ⟨trivial, hk⟩)) hg hat); have n1_ := aS (hb); have n2_ := aS (ho); clear HO464; clear HB; clear HO461; have HO464 := n0_; have HB := n1_; have HO467 := n2_; clear n0_ n1_ n2_; clear ho hb hg hat))
   go_ret
   exact ⟨_, by first | rfl | (simp [errW_none, errW_some] <;> rfl) | (simp [*, errW_none, errW_some] <;> rfl), by (with_reducible repeat (first | apply Kd.R_alloc | apply Kd.R_drewN | apply Kd.R_drew)); exact HO467.out, by repeat (first | (with_reducible first | exact HB.out | apply bal | apply bdN | apply bdo) | exact HB.out)⟩
  ·
   rw [if_neg c4] at H
   exact absurd H (by simp)
 ·
  rw [if_neg c3] at H
  exact absurd H (by simp)

/-! ### shardlogref08_Put: function 20 -/
mutual
def shardlogref08_Put.j0 : Nat → List Int → ByteArray → ByteArray → Int → ByteArray → Bool → Option (List Int)
 | 0, _, _, _, _, _, _ => none
 | k + 1, x3, x469000, x469001, x469002, x469003, x469004 => (shardlogref01_Num.f x469002).bind fun t478 => (if x3.length + t478.length < 140737488355328 then (shardlogref08_Put.j1 k (x3 ++ t478) x469000 x469001 x469002 x469003 x469004) else (none))
def shardlogref08_Put.j1 : Nat → List Int → ByteArray → ByteArray → Int → ByteArray → Bool → Option (List Int)
 | 0, _, _, _, _, _, _ => none
 | k + 1, x3, x469000, x469001, x469002, x469003, x469004 => if x469004 = true then (if x3.length < 140737488355328 then ((some (x3 ++ [1] : List Int)).bind fun y484 => ((shardlogref01_Text.f x469003).bind fun t487 => (if y484.length + t487.length < 140737488355328 then (some (y484 ++ t487)) else (none)))) else (none)) else (if x3.length < 140737488355328 then ((some (x3 ++ [0] : List Int)).bind fun y493 => ((shardlogref01_Text.f x469003).bind fun t496 => (if y493.length + t496.length < 140737488355328 then (some (y493 ++ t496)) else (none)))) else (none))
end
def shardlogref08_Put.f (k : Nat) (a0_0 : ByteArray) (a0_1 : ByteArray) (a0_2 : Int) (a0_3 : ByteArray) (a0_4 : Bool) : Option (List Int) := (shardlogref01_Text.f a0_0).bind fun t469 => ((shardlogref01_Text.f a0_1).bind fun t472 => (if t469.length + t472.length < 140737488355328 then (shardlogref08_Put.j0 k (t469 ++ t472) a0_0 a0_1 a0_2 a0_3 a0_4) else (none)))
theorem shardlogref08_Put.mono_l : ∀ k, (∀ y0 y1 y2 y3 y4 y5, LeO (shardlogref08_Put.j0 k y0 y1 y2 y3 y4 y5) (shardlogref08_Put.j0 (k + 1) y0 y1 y2 y3 y4 y5)) ∧ (∀ y0 y1 y2 y3 y4 y5, LeO (shardlogref08_Put.j1 k y0 y1 y2 y3 y4 y5) (shardlogref08_Put.j1 (k + 1) y0 y1 y2 y3 y4 y5))
 | 0 => ⟨fun _ _ _ _ _ _ r h => by simp [shardlogref08_Put.j0] at h, fun _ _ _ _ _ _ r h => by simp [shardlogref08_Put.j1] at h⟩
 | k + 1 => by
  obtain ⟨ih0, ih1⟩ := shardlogref08_Put.mono_l k
  refine ⟨?_, ?_⟩
  ·
   intro y0 y1 y2 y3 y4 y5
   unfold shardlogref08_Put.j0
   repeat' first
   | (with_reducible exact ih0 _ _ _ _ _ _)
   | (with_reducible exact ih1 _ _ _ _ _ _)
   | (with_reducible exact LeO.refl _)
   | (with_reducible exact LeO.none _)
   | (with_reducible refine LeO.ite ?_ ?_)
   | (with_reducible refine LeO.bind ?_ (fun _ => ?_))
   | exact ih0 _ _ _ _ _ _
   | exact ih1 _ _ _ _ _ _
   | exact LeO.none _
   | refine LeO.ite ?_ ?_
   | refine LeO.bind ?_ (fun _ => ?_)
  ·
   intro y0 y1 y2 y3 y4 y5
   unfold shardlogref08_Put.j1
   repeat' first
   | (with_reducible exact ih0 _ _ _ _ _ _)
   | (with_reducible exact ih1 _ _ _ _ _ _)
   | (with_reducible exact LeO.refl _)
   | (with_reducible exact LeO.none _)
   | (with_reducible refine LeO.ite ?_ ?_)
   | (with_reducible refine LeO.bind ?_ (fun _ => ?_))
   | exact ih0 _ _ _ _ _ _
   | exact ih1 _ _ _ _ _ _
   | exact LeO.none _
   | refine LeO.ite ?_ ?_
   | refine LeO.bind ?_ (fun _ => ?_)
theorem shardlogref08_Put.mono : ∀ a0 a1 a2 a3 a4 k, LeO (shardlogref08_Put.f k a0 a1 a2 a3 a4) (shardlogref08_Put.f (k + 1) a0 a1 a2 a3 a4) := by
 intro a0 a1 a2 a3 a4 k
 obtain ⟨ih0, ih1⟩ := shardlogref08_Put.mono_l k
 unfold shardlogref08_Put.f
 repeat' first
   | (with_reducible exact ih0 _ _ _ _ _ _)
   | (with_reducible exact ih1 _ _ _ _ _ _)
   | (with_reducible exact LeO.refl _)
   | (with_reducible exact LeO.none _)
   | (with_reducible refine LeO.ite ?_ ?_)
   | (with_reducible refine LeO.bind ?_ (fun _ => ?_))
   | exact ih0 _ _ _ _ _ _
   | exact ih1 _ _ _ _ _ _
   | exact LeO.none _
   | refine LeO.ite ?_ ?_
   | refine LeO.bind ?_ (fun _ => ?_)
def shardlogref08_Put.T1 : Bool × List (List Nat × List Nat) := (true, [([], []), ([0], [0]), ([1], [1]), ([], []), ([3], [3]), ([4, 2], [4]), ([2, 5, 5], [2, 5]), ([6, 6, 0, 1, 2, 3, 4, 5, 6], [6])])
def shardlogref08_Put.B1 : List Nat := [0, 1, 3, 0, 8, 31, 63, 127]
theorem shardlogref08_Put.tab1 : rtab .any (opsOf Try.f20 1) = shardlogref08_Put.T1 := by kernel_rfl
theorem shardlogref08_Put.bits1 : waitsOk shardlogref08_Put.T1.2 shardlogref08_Put.B1 = true := by kernel_rfl
set_option maxHeartbeats 8000000 in
set_option maxRecDepth 100000 in
theorem shardlogref08_Put.calls (k : Nat) (a0_0 : ByteArray) (a0_1 : ByteArray) (a0_2 : Int) (a0_3 : ByteArray) (a0_4 : Bool) (r : List Int) (w : World) (h : shardlogref08_Put.f k a0_0 a0_1 a0_2 a0_3 a0_4 = some r) :
  Calls Try.prog 20 #[.agg #[.string a0_0, .string a0_1, .int .i64 a0_2, .string a0_3, .bool a0_4]] w fun e w' => ∃ v0_ : Value, e = .returned (v0_) ∧ Kd.R (Kd.int .u8) 5 w' w.heap.size (fun _ => True) v0_ r ∧ Below w.heap.size w w' := by
 have hu46 := Try.underlying46
 have HB := aS (Below.refl w.heap.size w)
 have H : ((shardlogref01_Text.f a0_0).bind fun t469 => ((shardlogref01_Text.f a0_1).bind fun t472 => (if t469.length + t472.length < 140737488355328 then (shardlogref08_Put.j0 k (t469 ++ t472) a0_0 a0_1 a0_2 a0_3 a0_4) else (none)))) = some r := h
 clear h
 have HC2 := aS H
 clear H
 go_enter Try.func20, Try.ntmps20
 go_upto_region 1 with (first | ((with_reducible refine gate_dst (N := 1) rfl ?_); refine box_event ?hg (N := 1) ?hd (cs := #[.string a0_0, .string a0_1, .int .i64 a0_2, .string a0_3, .bool a0_4]) (t := 46) ?hr ?_; (case hd => rfl); (case hg => rfl); (case hr => first | (go_simp; done) | (go_simp; rfl)); intro gb468 hg w3 hbox hb; have n0_ := aS (below_step (by repeat (first | (with_reducible first | exact HB.out | apply bal | apply bdN | apply bdo) | exact HB.out)) hb); have n1_ := aS (hbox); have n2_ := aS ((by rw [hg]; exact (below_size (by repeat (first | (with_reducible first | exact HB.out | apply bal | apply bdN | apply bdo) | exact HB.out))) : w.heap.size ≤ gb468)); have n3_ := aS ((by rw [hg]; exact (below_size (by repeat (first | (with_reducible first | exact HB.out | apply bal | apply bdN | apply bdo) | exact HB.out))) : w.heap.size ≤ gb468)); clear HB; have HB := n0_; have BK468 := n1_; have GW468 := n2_; have GE468 := n3_; clear n0_ n1_ n2_ n3_; clear hb hbox hg))
 (try simp only [Act.put, lsa, lsz, lss])
 go_cut [3] (fun v3 wc => ∃ (kq : Nat) (x3_1 : List Int), Aside0 (shardlogref08_Put.j0 kq x3_1 a0_0 a0_1 a0_2 a0_3 a0_4 = some r) ∧ Aside0 (kq ≤ k) ∧ Aside0 (Kd.R (Kd.int .u8) 5 wc w.heap.size (fun _ => True) v3 x3_1) ∧ Aside0 (wc.heap[gb468]? = some (.cells #[.string a0_0, .string a0_1, .int .i64 a0_2, .string a0_3, .bool a0_4] 46 (0, 0))) ∧ Aside0 (Below w.heap.size w wc))
 case first =>
  have H := HC2.out; clear HC2
  replace H := obm H
  obtain ⟨t469, A40, H⟩ := H
  replace H : ((shardlogref01_Text.f a0_1).bind fun t472 => (if t469.length + t472.length < 140737488355328 then (shardlogref08_Put.j0 k (t469 ++ t472) a0_0 a0_1 a0_2 a0_3 a0_4) else (none))) = some r := H
  have A4 := aS A40
  clear A40
  replace H := obm H
  obtain ⟨t472, A50, H⟩ := H
  replace H : (if t469.length + t472.length < 140737488355328 then (shardlogref08_Put.j0 k (t469 ++ t472) a0_0 a0_1 a0_2 a0_3 a0_4) else (none)) = some r := H
  have A5 := aS A50
  clear A50
  by_cases c6 : t469.length + t472.length < 140737488355328
  ·
   rw [if_pos c6] at H
   have LMc6 := aS c6
   clear c6
   obtain ⟨y475, hy475⟩ : ∃ y_ : List Int, y_ = (t469 ++ t472) := ⟨_, rfl⟩
   replace H : (shardlogref08_Put.j0 k y475 a0_0 a0_1 a0_2 a0_3 a0_4) = some r := by first | (rw [hy475]; with_reducible exact H) | (have H2_ := (Option.bind_some _ _).symm.trans H; rw [hy475]; with_reducible exact H2_) | (have H2_ := (Option.bind_some _ _).symm.trans H; with_reducible exact H2_) | with_reducible exact H | (rw [hy475]; exact H) | exact H
   have Ny475 := aS hy475
   clear hy475
   have H' := aS H
   clear H
   try go_wp2
   have n0_ := aS (blk_drew BK468.out)
   have n1_ := aS (bdo HB.out)
   clear BK468; clear HB
   have BK468 := n0_
   have HB := n1_
   clear n0_ n1_
   refine start_ (n := 8) (S := fun w' => w'.cell? ⟨gb468, 0, none⟩ = some (.string a0_0) ∧ w'.cell? ⟨gb468, 1, none⟩ = some (.string a0_1) ∧ w'.cell? ⟨gb468, 2, none⟩ = some (.int .i64 a0_2) ∧ w'.cell? ⟨gb468, 3, none⟩ = some (.string a0_3) ∧ w'.cell? ⟨gb468, 4, none⟩ = some (.bool a0_4)) (ds := []) #[false, false, false, false, false, false, false, false] (by kernel_rfl) rfl rfl ⟨(blk_cell BK468.out 0).trans rfl, (blk_cell BK468.out 1).trans rfl, (blk_cell BK468.out 2).trans rfl, (blk_cell BK468.out 3).trans rfl, (blk_cell BK468.out 4).trans rfl⟩ (fun hHeld => ?_); refine with_tabW shardlogref08_Put.tab1 shardlogref08_Put.bits1 (fun HT_ HW_ => ?_)
   generalize w3.drew = w7 at BK468 HB hHeld ⊢
   refine pure_ (i := 0) (N := some 4) (v := ?_) (a' := ?_) #[true, false, false, false, false, false, false, false] rfl rfl (any_of HT_.out (by kernel_rfl)) (fun _ _ _ h => h) (Or.inl ⟨by rfl, ?_⟩) ?_ ?_
   rotate_left
   ·
    intro w'
    go_simp
    with_reducible rfl
   rotate_left
   ·
    simp only [Act.put, lsa, lsz, lss, i64_w, i32_w]
    rfl
   refine pure_ (i := 3) (N := some 7) (v := ?_) (a' := ?_) #[true, false, false, true, false, false, false, false] rfl rfl (any_of HT_.out (by kernel_rfl)) (fun _ _ _ h => h) (Or.inl ⟨by rfl, ?_⟩) ?_ ?_
   rotate_left
   ·
    intro w'
    go_simp
    with_reducible rfl
   rotate_left
   ·
    simp only [Act.put, lsa, lsz, lss, i64_w, i32_w]
    rfl
   refine take_ (i := 1) (N := some 5) (v := ?_) (a' := ?_) #[true, true, false, true, false, false, false, false] rfl rfl (take_ofW HT_.out HW_.out (by kernel_rfl)) (fun _ _ _ h => h) (Or.inl ⟨by rfl, ?_⟩) hHeld ?_ ?_
   rotate_left
   ·
    rintro w' ⟨s0, s1, s2, s3, s4⟩
    go_simp
    with_reducible rfl
   rotate_left
   ·
    simp only [Act.put, lsa, lsz, lss, i64_w, i32_w]
    rfl
   refine take_ (i := 4) (N := some 8) (v := ?_) (a' := ?_) #[true, true, false, true, true, false, false, false] rfl rfl (take_ofW HT_.out HW_.out (by kernel_rfl)) (fun _ _ _ h => h) (Or.inl ⟨by rfl, ?_⟩) hHeld ?_ ?_
   rotate_left
   ·
    rintro w' ⟨s0, s1, s2, s3, s4⟩
    go_simp
    with_reducible rfl
   rotate_left
   ·
    simp only [Act.put, lsa, lsz, lss, i64_w, i32_w]
    rfl
   refine one_ (i := 2) (N := some 6) #[true, true, true, true, true, false, false, false] rfl rfl (one_of HT_.out (by kernel_rfl)) (by decide) (fun K hK => ?_)
   refine goes_ Try.func37 (by kernel_rfl) rfl #[.string a0_0] (by rfl) rfl rfl (by (try simp only [List.map_toArray, List.map_cons, List.map_nil]); first | done | rfl | (simp only [lld, llt]; rfl)) ?_
   with_reducible refine (shardlogref01_Text.calls a0_0 t469 _ A4.out).mono ?_
   rintro e w8 ⟨v470, rfl, ho0, hb⟩
   refine ⟨_, rfl, ?_⟩
   have n0_ := aS (Kd.R_lower ho0 (below_size (by repeat (first | (with_reducible first | exact HB.out | apply bal | apply bdN | apply bdo | refine below_set ?_ GE468.out) | exact HB.out))))
   have n1_ := aS (blk_below (g := gb468) (o := .cells #[.string a0_0, .string a0_1, .int .i64 a0_2, .string a0_3, .bool a0_4] 46 (0, 0)) (by (with_reducible repeat (first | refine blk_drewN ?_ _ | refine blk_drew ?_ | refine blk_alloc ?_ _)); exact BK468.out) hb)
   have n2_ := aS (below_step (by repeat (first | (with_reducible first | exact HB.out | apply bal | apply bdN | apply bdo | refine below_set ?_ GE468.out) | exact HB.out)) hb)
   clear BK468; clear HB
   have HO471 := n0_
   have BK468 := n1_
   have HB := n2_
   clear n0_ n1_ n2_; (try clear hb); (try clear hb2); (try clear hk); (try clear hi); (try clear ho0)
   refine hK.out _ _ ⟨(blk_cell BK468.out 0).trans rfl, (blk_cell BK468.out 1).trans rfl, (blk_cell BK468.out 2).trans rfl, (blk_cell BK468.out 3).trans rfl, (blk_cell BK468.out 4).trans rfl⟩ (fun hHeld => ?_)
   clear hK K
   refine norm_ (a' := ?_) ?_ ?_
   rotate_left
   ·
    show Act.put _ (some 6) _ = _
    simp only [Act.put, lsa, lsz, lss, i64_w, i32_w]
    rfl
   refine one_ (i := 5) (N := some 9) #[true, true, true, true, true, true, false, false] rfl rfl (one_of HT_.out (by kernel_rfl)) (by decide) (fun K hK => ?_)
   refine goes_ Try.func37 (by kernel_rfl) rfl #[.string a0_1] (by rfl) rfl rfl (by (try simp only [List.map_toArray, List.map_cons, List.map_nil]); first | done | rfl | (simp only [lld, llt]; rfl)) ?_
   with_reducible refine (shardlogref01_Text.calls a0_1 t472 _ A5.out).mono ?_
   rintro e w9 ⟨v473, rfl, ho0, hb⟩
   refine ⟨_, rfl, ?_⟩
   have n0_ := aS (Kd.R_elder' (by (with_reducible repeat (first | apply Kd.R_alloc | apply Kd.R_drewN | apply Kd.R_drew)); exact HO471.out) (by first | exact Kd.R_base ho0 | exact Kd.S_base ho0 | exact Kd.R_base ho0 | exact Kd.V_base ho0) hb)
   have n1_ := aS (Kd.R_lower (Kd.R_new' ho0 (Kd.R_lt (by (with_reducible repeat (first | apply Kd.R_alloc | apply Kd.R_drewN | apply Kd.R_drew)); exact HO471.out))) (below_size (by repeat (first | (with_reducible first | exact HB.out | apply bal | apply bdN | apply bdo | refine below_set ?_ GE468.out) | exact HB.out))))
   have n2_ := aS (blk_below (g := gb468) (o := .cells #[.string a0_0, .string a0_1, .int .i64 a0_2, .string a0_3, .bool a0_4] 46 (0, 0)) (by (with_reducible repeat (first | refine blk_drewN ?_ _ | refine blk_drew ?_ | refine blk_alloc ?_ _)); exact BK468.out) hb)
   have n3_ := aS (below_step (by repeat (first | (with_reducible first | exact HB.out | apply bal | apply bdN | apply bdo | refine below_set ?_ GE468.out) | exact HB.out)) hb)
   clear HO471; clear BK468; clear HB
   have HO471 := n0_
   have HO474 := n1_
   have BK468 := n2_
   have HB := n3_
   clear n0_ n1_ n2_ n3_; (try clear hb); (try clear hb2); (try clear hk); (try clear hi); (try clear ho0)
   obtain ⟨Ao11, co11, eo11⟩ := Kd.R_slice HO474.out
   (first | subst eo11 | (injection eo11 with f1_ f2_ f3_; have f4_ := f1_.symm; have f5_ := f3_.symm; clear f1_ f2_ f3_; subst f4_; subst f5_))
   refine hK.out _ _ ⟨(blk_cell BK468.out 0).trans rfl, (blk_cell BK468.out 1).trans rfl, (blk_cell BK468.out 2).trans rfl, (blk_cell BK468.out 3).trans rfl, (blk_cell BK468.out 4).trans rfl⟩ (fun hHeld => ?_)
   clear hK K
   refine norm_ (a' := ?_) ?_ ?_
   rotate_left
   ·
    show Act.put _ (some 9) _ = _
    simp only [Act.put, lsa, lsz, lss, i64_w, i32_w]
    rfl
   refine one_ (i := 6) (N := some 10) #[true, true, true, true, true, true, true, false] rfl rfl (one_of HT_.out (by kernel_rfl)) (by decide) (fun K hK => ?_)
   refine Kd.R_append_rows_step (Kd.int .u8) (w0 := w) w.heap.size (by rfl) (.tmp 6) (.tmp 9) 33 5 (.int .u8 0) 1 rfl Try.underlying33 info5 rfl (by decide) (by omega) v470 t469 t472 _ _ _ (fun k_ => some k_ ≠ (.slice Ao11 t472.length co11 : Value).ownBlock) (fun _ => False) rfl rfl ?aO ?aR (fun _ _ h => h) (fun _ h => h.elim) ?aF ?aB ?aS ?aL ?_
   (case aR => repeat (first | exact (Kd.R_reads' HO474.out).2.2 | (with_reducible refine Kd.C_alloc ?_ _) | (with_reducible refine Kd.C_drewN ?_ _) | (with_reducible refine Kd.C_drew ?_)))
   (case aB => exact (by repeat (first | (with_reducible first | exact HB.out | apply bal | apply bdN | apply bdo | refine below_set ?_ GE468.out) | exact HB.out)))
   (case aF => exact (fun k_ hk => Kd.fresh' (Kd.R_lt (by (with_reducible repeat (first | apply Kd.R_alloc | apply Kd.R_drewN | apply Kd.R_drew)); exact HO474.out)) k_ hk))
   (case aO => exact (by (with_reducible repeat (first | apply Kd.R_alloc | apply Kd.R_drewN | apply Kd.R_drew)); exact Kd.R_mono HO471.out (fun _ hk => hk.2)))
   (case aS => exact (below_size (by repeat (first | (with_reducible first | exact HB.out | apply bal | apply bdN | apply bdo | refine below_set ?_ GE468.out) | exact HB.out))))
   (case aL => have := LMc6.out; omega)
   intro v476 w10 ho hb hg hat
   rw [← Ny475.out] at ho
   have n0_ := aS (blk_grown (g := gb468) (o := .cells #[.string a0_0, .string a0_1, .int .i64 a0_2, .string a0_3, .bool a0_4] 46 (0, 0)) (by (with_reducible repeat (first | refine blk_drewN ?_ _ | refine blk_drew ?_ | refine blk_alloc ?_ _)); exact BK468.out) hg (Kd.R_ne HO471.out BK468.out (by decide)))
   have n1_ := aS (Kd.R_after (ok := (fun _ => True)) (by (with_reducible repeat (first | apply Kd.R_alloc | apply Kd.R_drewN | apply Kd.R_drew)); exact HO474.out) hg hat)
   have n2_ := aS (hb)
   have n3_ := aS (ho)
   clear BK468; clear HO474; clear HB; clear HO471
   have BK468 := n0_
   have HO474 := n1_
   have HB := n2_
   have HO477 := n3_
   clear n0_ n1_ n2_ n3_; clear ho hb hg hat
   refine hK.out _ _ ⟨(blk_cell BK468.out 0).trans rfl, (blk_cell BK468.out 1).trans rfl, (blk_cell BK468.out 2).trans rfl, (blk_cell BK468.out 3).trans rfl, (blk_cell BK468.out 4).trans rfl⟩ (fun hHeld => ?_)
   clear hK K
   refine norm_ (a' := ?_) ?_ ?_
   rotate_left
   ·
    show Act.put _ (some 10) _ = _
    simp only [Act.put, lsa, lsz, lss, i64_w, i32_w]
    rfl
   refine pure_ (i := 7) (N := some 3) (v := ?_) (a' := ?_) #[true, true, true, true, true, true, true, true] rfl rfl (any_of HT_.out (by kernel_rfl)) (fun _ _ _ h => h) (Or.inl ⟨by rfl, ?_⟩) ?_ ?_
   rotate_left
   ·
    intro w'
    go_simp
    with_reducible rfl
   rotate_left
   ·
    simp only [Act.put, lsa, lsz, lss, i64_w, i32_w]
    rfl
   refine done_ (done_of HT_.out (by kernel_rfl)) ?_
   try go_wp2
   go_meet
   case rel => exact ⟨_, (y475), H', ⟨by first | omega | exact Nat.le_refl _⟩, ⟨by (with_reducible repeat (first | apply Kd.R_alloc | apply Kd.R_drewN | apply Kd.R_drew)); exact Kd.R_mono HO477.out (fun _ hk => trivial)⟩, ⟨by (with_reducible repeat (first | refine blk_drewN ?_ _ | refine blk_drew ?_ | refine blk_alloc ?_ _)); exact BK468.out⟩, ⟨by repeat (first | (with_reducible first | exact HB.out | apply bal | apply bdN | apply bdo | refine below_set ?_ GE468.out) | exact HB.out)⟩⟩
  ·
   rw [if_neg c6] at H
   exact absurd H (by simp)
 case rest =>
  clear HC2; (try clear c2); (try clear p2); (try clear c3); (try clear c6)
  obtain ⟨kq, x3_1, HA, HJ1, HO_3, BK468, HB⟩ := hcut
  cases kq with
  | zero => exact absurd HA.out (by simp [shardlogref08_Put.j0])
  | succ kj1 =>
   have H := HA.out; clear HA
   simp only [shardlogref08_Put.j0] at H
   have HC12 := aS H
   clear H
   go_upto_region 2 with (fail)
   go_cut [3] (fun v3 wc => ∃ (kq : Nat) (x3_11 : List Int), Aside0 (shardlogref08_Put.j1 kq x3_11 a0_0 a0_1 a0_2 a0_3 a0_4 = some r) ∧ Aside0 (kq ≤ kj1) ∧ Aside0 (Kd.R (Kd.int .u8) 5 wc w.heap.size (fun _ => True) v3 x3_11) ∧ Aside0 (wc.heap[gb468]? = some (.cells #[.string a0_0, .string a0_1, .int .i64 a0_2, .string a0_3, .bool a0_4] 46 (0, 0))) ∧ Aside0 (Below w.heap.size w wc))
   case first =>
    have H := HC12.out; clear HC12
    replace H := obm H
    obtain ⟨t478, A130, H⟩ := H
    replace H : (if x3_1.length + t478.length < 140737488355328 then (shardlogref08_Put.j1 kj1 (x3_1 ++ t478) a0_0 a0_1 a0_2 a0_3 a0_4) else (none)) = some r := H
    have A13 := aS A130
    clear A130
    by_cases c14 : x3_1.length + t478.length < 140737488355328
    ·
     rw [if_pos c14] at H
     have LMc14 := aS c14
     clear c14
     obtain ⟨y481, hy481⟩ : ∃ y_ : List Int, y_ = (x3_1 ++ t478) := ⟨_, rfl⟩
     replace H : (shardlogref08_Put.j1 kj1 y481 a0_0 a0_1 a0_2 a0_3 a0_4) = some r := by first | (rw [hy481]; with_reducible exact H) | (have H2_ := (Option.bind_some _ _).symm.trans H; rw [hy481]; with_reducible exact H2_) | (have H2_ := (Option.bind_some _ _).symm.trans H; with_reducible exact H2_) | with_reducible exact H | (rw [hy481]; exact H) | exact H
     have Ny481 := aS hy481
     clear hy481
     have H' := aS H
     clear H
     have hcz15_0 : wc.cell? ⟨gb468, 0, none⟩ = some (.string a0_0) := (blk_cell BK468.out 0).trans rfl
     have hcz15_1 : wc.cell? ⟨gb468, 1, none⟩ = some (.string a0_1) := (blk_cell BK468.out 1).trans rfl
     have hcz15_2 : wc.cell? ⟨gb468, 2, none⟩ = some (.int .i64 a0_2) := (blk_cell BK468.out 2).trans rfl
     have hcz15_3 : wc.cell? ⟨gb468, 3, none⟩ = some (.string a0_3) := (blk_cell BK468.out 3).trans rfl
     have hcz15_4 : wc.cell? ⟨gb468, 4, none⟩ = some (.bool a0_4) := (blk_cell BK468.out 4).trans rfl
     have hfz15_0 := blk_frozen BK468.out 0
     have hfz15_1 := blk_frozen BK468.out 1
     have hfz15_2 := blk_frozen BK468.out 2
     have hfz15_3 := blk_frozen BK468.out 3
     have hfz15_4 := blk_frozen BK468.out 4
     go_wp2_with (first | ((with_reducible refine gate_callee (f := 29) rfl ?_); refine goesL_ (some 14) rfl rfl Try.func29 (by kernel_rfl) rfl #[.int .i64 a0_2] rfl (by (try simp only [List.map_toArray, List.map_cons, List.map_nil]); first | done | rfl | (simp only [lld, llt]; rfl)) ?_; (with_reducible refine (shardlogref01_Num.calls a0_2 t478 _ A13.out).mono ?_); rintro e w16 ⟨v479, rfl, ho0, hb⟩; refine ⟨_, rfl, ?_⟩; have n0_ := aS (Kd.R_elder' (by (with_reducible repeat (first | apply Kd.R_alloc | apply Kd.R_drewN | apply Kd.R_drew)); exact HO_3.out) (by first | exact Kd.R_base ho0 | exact Kd.S_base ho0 | exact Kd.R_base ho0 | exact Kd.V_base ho0) hb); have n1_ := aS (Kd.R_lower (Kd.R_new' ho0 (Kd.R_lt (by (with_reducible repeat (first | apply Kd.R_alloc | apply Kd.R_drewN | apply Kd.R_drew)); exact HO_3.out))) (below_size (by repeat (first | (with_reducible first | exact HB.out | apply bal | apply bdN | apply bdo | refine below_set ?_ GE468.out) | exact HB.out)))); have n2_ := aS (blk_below (g := gb468) (o := .cells #[.string a0_0, .string a0_1, .int .i64 a0_2, .string a0_3, .bool a0_4] 46 (0, 0)) (by (with_reducible repeat (first | refine blk_drewN ?_ _ | refine blk_drew ?_ | refine blk_alloc ?_ _)); exact BK468.out) hb); have n3_ := aS (below_step (by repeat (first | (with_reducible first | exact HB.out | apply bal | apply bdN | apply bdo | refine below_set ?_ GE468.out) | exact HB.out)) hb); clear HO_3; clear BK468; clear HB; have HO_3 := n0_; have HO480 := n1_; have BK468 := n2_; have HB := n3_; clear n0_ n1_ n2_ n3_; (try clear hb); (try clear hb2); (try clear hk); (try clear hi); (try clear ho0); obtain ⟨Ao18, co18, eo18⟩ := Kd.R_slice HO480.out; subst eo18) | ((with_reducible refine gate_builtin (b := .append) (xs := #[.tmp 11, .tmp 14]) rfl ?_); at_builtin; refine Kd.R_append_rows (Kd.int .u8) (w0 := w) w.heap.size rfl (.tmp 11) (.tmp 14) 33 5 (.int .u8 0) 1 rfl Try.underlying33 info5 rfl (by decide) (by omega) u3 x3_1 t478 _ _ _ (fun k_ => some k_ ≠ (.slice Ao18 t478.length co18 : Value).ownBlock) (fun _ => False) rfl rfl ?aO ?aR (fun _ _ h => h) (fun _ h => h.elim) ?aF ?aB ?aS ?aL ?_; (case aR => repeat (first | exact (Kd.R_reads' HO480.out).2.2 | (with_reducible refine Kd.C_alloc ?_ _) | (with_reducible refine Kd.C_drewN ?_ _) | (with_reducible refine Kd.C_drew ?_))); (case aB => exact (by repeat (first | (with_reducible first | exact HB.out | apply bal | apply bdN | apply bdo | refine below_set ?_ GE468.out) | exact HB.out))); (case aF => exact (fun k_ hk => Kd.fresh' (Kd.R_lt (by (with_reducible repeat (first | apply Kd.R_alloc | apply Kd.R_drewN | apply Kd.R_drew)); exact HO480.out)) k_ hk)); (case aO => exact (by (with_reducible repeat (first | apply Kd.R_alloc | apply Kd.R_drewN | apply Kd.R_drew)); exact Kd.R_mono HO_3.out (fun _ hk => hk.2))); (case aS => exact (below_size (by repeat (first | (with_reducible first | exact HB.out | apply bal | apply bdN | apply bdo | refine below_set ?_ GE468.out) | exact HB.out)))); (case aL => have := LMc14.out; omega); intro v482 w17 ho hb hg hat; rw [← Ny481.out] at ho; have n0_ := aS (blk_grown (g := gb468) (o := .cells #[.string a0_0, .string a0_1, .int .i64 a0_2, .string a0_3, .bool a0_4] 46 (0, 0)) (by (with_reducible repeat (first | refine blk_drewN ?_ _ | refine blk_drew ?_ | refine blk_alloc ?_ _)); exact BK468.out) hg (Kd.R_ne HO_3.out BK468.out (by decide))); have n1_ := aS (Kd.R_after (ok := (fun _ => True)) (by (with_reducible repeat (first | apply Kd.R_alloc | apply Kd.R_drewN | apply Kd.R_drew)); exact HO480.out) hg hat); have n2_ := aS (hb); have n3_ := aS (ho); clear BK468; clear HO480; clear HB; clear HO_3; have BK468 := n0_; have HO480 := n1_; have HB := n2_; have HO483 := n3_; clear n0_ n1_ n2_ n3_; clear ho hb hg hat))
     go_meet
     case rel => exact ⟨_, (y481), H', ⟨by have := HJ1.out; first | omega | exact Nat.le_refl _⟩, ⟨by (with_reducible repeat (first | apply Kd.R_alloc | apply Kd.R_drewN | apply Kd.R_drew)); exact Kd.R_mono HO483.out (fun _ hk => trivial)⟩, ⟨by (with_reducible repeat (first | refine blk_drewN ?_ _ | refine blk_drew ?_ | refine blk_alloc ?_ _)); exact BK468.out⟩, ⟨by repeat (first | (with_reducible first | exact HB.out | apply bal | apply bdN | apply bdo | refine below_set ?_ GE468.out) | exact HB.out)⟩⟩
    ·
     rw [if_neg c14] at H
     exact absurd H (by simp)
   case rest =>
    clear HC12; (try clear c1); (try clear c2); (try clear p2); (try clear c3); (try clear c6); (try clear c14); (try clear hcz15_0); (try clear hcz15_1); (try clear hcz15_2); (try clear hcz15_3); (try clear hcz15_4); (try clear hfz15_0); (try clear hfz15_1); (try clear hfz15_2); (try clear hfz15_3); (try clear hfz15_4); (try clear p2)
    obtain ⟨kq, x3_11, HA, HJ11, HO_3, BK468, HB⟩ := hcut
    cases kq with
    | zero => exact absurd HA.out (by simp [shardlogref08_Put.j1])
    | succ kj11 =>
     have H := HA.out; clear HA
     simp only [shardlogref08_Put.j1] at H
     by_cases c19 : a0_4 = true
     ·
      subst c19
      have H1 : (if x3_11.length < 140737488355328 then ((some (x3_11 ++ [1] : List Int)).bind fun y484 => ((shardlogref01_Text.f a0_3).bind fun t487 => (if y484.length + t487.length < 140737488355328 then (some (y484 ++ t487)) else (none)))) else (none)) = some r := by rw [if_pos rfl] at H; exact H
      clear H; have H := H1; clear H1
      by_cases c20 : x3_11.length < 140737488355328
      ·
       rw [if_pos c20] at H
       have LMc20 := aS c20
       clear c20
       obtain ⟨y484, hy484⟩ : ∃ y_ : List Int, y_ = (x3_11 ++ [1]) := ⟨_, rfl⟩
       replace H : ((shardlogref01_Text.f a0_3).bind fun t487 => (if y484.length + t487.length < 140737488355328 then (some (y484 ++ t487)) else (none))) = some r := by first | (rw [hy484]; with_reducible exact H) | (have H2_ := (Option.bind_some _ _).symm.trans H; rw [hy484]; with_reducible exact H2_) | (have H2_ := (Option.bind_some _ _).symm.trans H; with_reducible exact H2_) | with_reducible exact H | (rw [hy484]; exact H) | exact H
       have Ny484 := aS hy484
       clear hy484
       replace H := obm H
       obtain ⟨t487, A210, H⟩ := H
       replace H : (if y484.length + t487.length < 140737488355328 then (some (y484 ++ t487)) else (none)) = some r := H
       have A21 := aS A210
       clear A210
       by_cases c22 : y484.length + t487.length < 140737488355328
       ·
        rw [if_pos c22] at H
        have LMc22 := aS c22
        clear c22
        obtain ⟨y490, hy490⟩ : ∃ y_ : List Int, y_ = (y484 ++ t487) := ⟨_, rfl⟩
        replace H : (some y490) = some r := by first | (rw [hy490]; with_reducible exact H) | (have H2_ := (Option.bind_some _ _).symm.trans H; rw [hy490]; with_reducible exact H2_) | (have H2_ := (Option.bind_some _ _).symm.trans H; with_reducible exact H2_) | with_reducible exact H | (rw [hy490]; exact H) | exact H
        have Ny490 := aS hy490
        clear hy490
        obtain rfl := Option.some.inj H
        have hcz23_0 : wc.cell? ⟨gb468, 0, none⟩ = some (.string a0_0) := (blk_cell BK468.out 0).trans rfl
        have hcz23_1 : wc.cell? ⟨gb468, 1, none⟩ = some (.string a0_1) := (blk_cell BK468.out 1).trans rfl
        have hcz23_2 : wc.cell? ⟨gb468, 2, none⟩ = some (.int .i64 a0_2) := (blk_cell BK468.out 2).trans rfl
        have hcz23_3 : wc.cell? ⟨gb468, 3, none⟩ = some (.string a0_3) := (blk_cell BK468.out 3).trans rfl
        have hcz23_4 : wc.cell? ⟨gb468, 4, none⟩ = some (.bool true) := (blk_cell BK468.out 4).trans rfl
        have hfz23_0 := blk_frozen BK468.out 0
        have hfz23_1 := blk_frozen BK468.out 1
        have hfz23_2 := blk_frozen BK468.out 2
        have hfz23_3 := blk_frozen BK468.out 3
        have hfz23_4 := blk_frozen BK468.out 4
        go_wp2_with (first | ((with_reducible refine gate_builtin (b := .append) (xs := #[.tmp 18, .tmp 19]) rfl ?_); at_builtin; refine Kd.R_append (Kd.int .u8) (w0 := w) w.heap.size rfl (.tmp 18) (.tmp 19) 33 5 (.int .u8 0) 1 rfl Try.underlying33 info5 rfl (by decide) (by omega) u3 x3_11 1 [.int .u8 1] (fun _ => True) (fun _ => False) rfl rfl ?aP (fun _ hk => hk.elim) ?aF ?aO ?aB ?aS ?aL ?_; (case aP => exact rfl); (case aB => exact (by repeat (first | (with_reducible first | exact HB.out | apply bal | apply bdN | apply bdo | refine below_set ?_ GE468.out) | exact HB.out))); (case aF => exact (fun _ _ => trivial)); (case aO => exact (by (with_reducible repeat (first | apply Kd.R_alloc | apply Kd.R_drewN | apply Kd.R_drew)); exact HO_3.out)); (case aS => exact (below_size (by repeat (first | (with_reducible first | exact HB.out | apply bal | apply bdN | apply bdo | refine below_set ?_ GE468.out) | exact HB.out)))); (case aL => have := LMc20.out; omega); intro v485 w24 ho hb hg hat; rw [← Ny484.out] at ho; have n0_ := aS (blk_grown (g := gb468) (o := .cells #[.string a0_0, .string a0_1, .int .i64 a0_2, .string a0_3, .bool true] 46 (0, 0)) (by (with_reducible repeat (first | refine blk_drewN ?_ _ | refine blk_drew ?_ | refine blk_alloc ?_ _)); exact BK468.out) hg (Kd.R_ne HO_3.out BK468.out (by decide))); have n1_ := aS (hb); have n2_ := aS (ho); clear BK468; clear HB; clear HO_3; have BK468 := n0_; have HB := n1_; have HO486 := n2_; clear n0_ n1_ n2_; clear ho hb hg hat; have hcz25_0 : w24.cell? ⟨gb468, 0, none⟩ = some (.string a0_0) := (blk_cell BK468.out 0).trans rfl; have hcz25_1 : w24.cell? ⟨gb468, 1, none⟩ = some (.string a0_1) := (blk_cell BK468.out 1).trans rfl; have hcz25_2 : w24.cell? ⟨gb468, 2, none⟩ = some (.int .i64 a0_2) := (blk_cell BK468.out 2).trans rfl; have hcz25_3 : w24.cell? ⟨gb468, 3, none⟩ = some (.string a0_3) := (blk_cell BK468.out 3).trans rfl; have hcz25_4 : w24.cell? ⟨gb468, 4, none⟩ = some (.bool true) := (blk_cell BK468.out 4).trans rfl; have hfz25_0 := blk_frozen BK468.out 0; have hfz25_1 := blk_frozen BK468.out 1; have hfz25_2 := blk_frozen BK468.out 2; have hfz25_3 := blk_frozen BK468.out 3; have hfz25_4 := blk_frozen BK468.out 4) | ((with_reducible refine gate_callee (f := 37) rfl ?_); refine goesL_ (some 27) rfl rfl Try.func37 (by kernel_rfl) rfl #[.string a0_3] rfl (by (try simp only [List.map_toArray, List.map_cons, List.map_nil]); first | done | rfl | (simp only [lld, llt]; rfl)) ?_; (with_reducible refine (shardlogref01_Text.calls a0_3 t487 _ A21.out).mono ?_); rintro e w26 ⟨v488, rfl, ho0, hb⟩; refine ⟨_, rfl, ?_⟩; have n0_ := aS (Kd.R_elder' (by (with_reducible repeat (first | apply Kd.R_alloc | apply Kd.R_drewN | apply Kd.R_drew)); exact HO486.out) (by first | exact Kd.R_base ho0 | exact Kd.S_base ho0 | exact Kd.R_base ho0 | exact Kd.V_base ho0) hb); have n1_ := aS (Kd.R_lower (Kd.R_new' ho0 (Kd.R_lt (by (with_reducible repeat (first | apply Kd.R_alloc | apply Kd.R_drewN | apply Kd.R_drew)); exact HO486.out))) (below_size (by repeat (first | (with_reducible first | exact HB.out | apply bal | apply bdN | apply bdo | refine below_set ?_ GE468.out) | exact HB.out)))); have n2_ := aS (blk_below (g := gb468) (o := .cells #[.string a0_0, .string a0_1, .int .i64 a0_2, .string a0_3, .bool true] 46 (0, 0)) (by (with_reducible repeat (first | refine blk_drewN ?_ _ | refine blk_drew ?_ | refine blk_alloc ?_ _)); exact BK468.out) hb); have n3_ := aS (below_step (by repeat (first | (with_reducible first | exact HB.out | apply bal | apply bdN | apply bdo | refine below_set ?_ GE468.out) | exact HB.out)) hb); clear HO486; clear BK468; clear HB; have HO486 := n0_; have HO489 := n1_; have BK468 := n2_; have HB := n3_; clear n0_ n1_ n2_ n3_; (try clear hb); (try clear hb2); (try clear hk); (try clear hi); (try clear ho0); obtain ⟨Ao28, co28, eo28⟩ := Kd.R_slice HO489.out; subst eo28) | ((with_reducible refine gate_builtin (b := .append) (xs := #[.tmp 24, .tmp 27]) rfl ?_); at_builtin; refine Kd.R_append_rows (Kd.int .u8) (w0 := w) w.heap.size rfl (.tmp 24) (.tmp 27) 33 5 (.int .u8 0) 1 rfl Try.underlying33 info5 rfl (by decide) (by omega) v485 y484 t487 _ _ _ (fun k_ => some k_ ≠ (.slice Ao28 t487.length co28 : Value).ownBlock) (fun _ => False) rfl rfl ?aO ?aR (fun _ _ h => h) (fun _ h => h.elim) ?aF ?aB ?aS ?aL ?_; (case aR => repeat (first | exact (Kd.R_reads' HO489.out).2.2 | (with_reducible refine Kd.C_alloc ?_ _) | (with_reducible refine Kd.C_drewN ?_ _) | (with_reducible refine Kd.C_drew ?_))); (case aB => exact (by repeat (first | (with_reducible first | exact HB.out | apply bal | apply bdN | apply bdo | refine below_set ?_ GE468.out) | exact HB.out))); (case aF => exact (fun k_ hk => Kd.fresh' (Kd.R_lt (by (with_reducible repeat (first | apply Kd.R_alloc | apply Kd.R_drewN | apply Kd.R_drew)); exact HO489.out)) k_ hk)); (case aO => exact (by (with_reducible repeat (first | apply Kd.R_alloc | apply Kd.R_drewN | apply Kd.R_drew)); exact Kd.R_mono HO486.out (fun _ hk => hk.2))); (case aS => exact (below_size (by repeat (first | (with_reducible first | exact HB.out | apply bal | apply bdN | apply bdo | refine below_set ?_ GE468.out) | exact HB.out)))); (case aL => have := LMc22.out; omega); intro v491 w27 ho hb hg hat; rw [← Ny490.out] at ho; have n0_ := aS (blk_grown (g := gb468) (o := .cells #[.string a0_0, .string a0_1, .int .i64 a0_2, .string a0_3, .bool true] 46 (0, 0)) (by (with_reducible repeat (first | refine blk_drewN ?_ _ | refine blk_drew ?_ | refine blk_alloc ?_ _)); exact BK468.out) hg (Kd.R_ne HO486.out BK468.out (by decide))); have n1_ := aS (Kd.R_after (ok := (fun _ => True)) (by (with_reducible repeat (first | apply Kd.R_alloc | apply Kd.R_drewN | apply Kd.R_drew)); exact HO489.out) hg hat); have n2_ := aS (hb); have n3_ := aS (ho); clear BK468; clear HO489; clear HB; clear HO486; have BK468 := n0_; have HO489 := n1_; have HB := n2_; have HO492 := n3_; clear n0_ n1_ n2_ n3_; clear ho hb hg hat))
        go_ret
        exact ⟨_, by first | rfl | (simp [errW_none, errW_some] <;> rfl) | (simp [*, errW_none, errW_some] <;> rfl), by (with_reducible repeat (first | apply Kd.R_alloc | apply Kd.R_drewN | apply Kd.R_drew)); exact Kd.R_mono HO492.out (fun _ hk => trivial), by repeat (first | (with_reducible first | exact HB.out | apply bal | apply bdN | apply bdo | refine below_set ?_ GE468.out) | exact HB.out)⟩
       ·
        rw [if_neg c22] at H
        exact absurd H (by simp)
      ·
       rw [if_neg c20] at H
       exact absurd H (by simp)
     ·
      replace c19 := Bool.eq_false_iff.mpr c19
      subst c19
      have H1 : (if x3_11.length < 140737488355328 then ((some (x3_11 ++ [0] : List Int)).bind fun y493 => ((shardlogref01_Text.f a0_3).bind fun t496 => (if y493.length + t496.length < 140737488355328 then (some (y493 ++ t496)) else (none)))) else (none)) = some r := by rw [if_neg (show ¬ (false = true) by decide)] at H; exact H
      clear H; have H := H1; clear H1
      by_cases c29 : x3_11.length < 140737488355328
      ·
       rw [if_pos c29] at H
       have LMc29 := aS c29
       clear c29
       obtain ⟨y493, hy493⟩ : ∃ y_ : List Int, y_ = (x3_11 ++ [0]) := ⟨_, rfl⟩
       replace H : ((shardlogref01_Text.f a0_3).bind fun t496 => (if y493.length + t496.length < 140737488355328 then (some (y493 ++ t496)) else (none))) = some r := by first | (rw [hy493]; with_reducible exact H) | (have H2_ := (Option.bind_some _ _).symm.trans H; rw [hy493]; with_reducible exact H2_) | (have H2_ := (Option.bind_some _ _).symm.trans H; with_reducible exact H2_) | with_reducible exact H | (rw [hy493]; exact H) | exact H
       have Ny493 := aS hy493
       clear hy493
       replace H := obm H
       obtain ⟨t496, A300, H⟩ := H
       replace H : (if y493.length + t496.length < 140737488355328 then (some (y493 ++ t496)) else (none)) = some r := H
       have A30 := aS A300
       clear A300
       by_cases c31 : y493.length + t496.length < 140737488355328
       ·
        rw [if_pos c31] at H
        have LMc31 := aS c31
        clear c31
        obtain ⟨y499, hy499⟩ : ∃ y_ : List Int, y_ = (y493 ++ t496) := ⟨_, rfl⟩
        replace H : (some y499) = some r := by first | (rw [hy499]; with_reducible exact H) | (have H2_ := (Option.bind_some _ _).symm.trans H; rw [hy499]; with_reducible exact H2_) | (have H2_ := (Option.bind_some _ _).symm.trans H; with_reducible exact H2_) | with_reducible exact H | (rw [hy499]; exact H) | exact H
        have Ny499 := aS hy499
        clear hy499
        obtain rfl := Option.some.inj H
        have hcz32_0 : wc.cell? ⟨gb468, 0, none⟩ = some (.string a0_0) := (blk_cell BK468.out 0).trans rfl
        have hcz32_1 : wc.cell? ⟨gb468, 1, none⟩ = some (.string a0_1) := (blk_cell BK468.out 1).trans rfl
        have hcz32_2 : wc.cell? ⟨gb468, 2, none⟩ = some (.int .i64 a0_2) := (blk_cell BK468.out 2).trans rfl
        have hcz32_3 : wc.cell? ⟨gb468, 3, none⟩ = some (.string a0_3) := (blk_cell BK468.out 3).trans rfl
        have hcz32_4 : wc.cell? ⟨gb468, 4, none⟩ = some (.bool false) := (blk_cell BK468.out 4).trans rfl
        have hfz32_0 := blk_frozen BK468.out 0
        have hfz32_1 := blk_frozen BK468.out 1
        have hfz32_2 := blk_frozen BK468.out 2
        have hfz32_3 := blk_frozen BK468.out 3
        have hfz32_4 := blk_frozen BK468.out 4
        go_wp2_with (first | ((with_reducible refine gate_builtin (b := .append) (xs := #[.tmp 21, .tmp 22]) rfl ?_); at_builtin; refine Kd.R_append (Kd.int .u8) (w0 := w) w.heap.size rfl (.tmp 21) (.tmp 22) 33 5 (.int .u8 0) 1 rfl Try.underlying33 info5 rfl (by decide) (by omega) u3 x3_11 0 [.int .u8 0] (fun _ => True) (fun _ => False) rfl rfl ?aP (fun _ hk => hk.elim) ?aF ?aO ?aB ?aS ?aL ?_; (case aP => exact rfl); (case aB => exact (by repeat (first | (with_reducible first | exact HB.out | apply bal | apply bdN | apply bdo | refine below_set ?_ GE468.out) | exact HB.out))); (case aF => exact (fun _ _ => trivial)); (case aO => exact (by (with_reducible repeat (first | apply Kd.R_alloc | apply Kd.R_drewN | apply Kd.R_drew)); exact HO_3.out)); (case aS => exact (below_size (by repeat (first | (with_reducible first | exact HB.out | apply bal | apply bdN | apply bdo | refine below_set ?_ GE468.out) | exact HB.out)))); (case aL => have := LMc29.out; omega); intro v494 w33 ho hb hg hat; rw [← Ny493.out] at ho; have n0_ := aS (blk_grown (g := gb468) (o := .cells #[.string a0_0, .string a0_1, .int .i64 a0_2, .string a0_3, .bool false] 46 (0, 0)) (by (with_reducible repeat (first | refine blk_drewN ?_ _ | refine blk_drew ?_ | refine blk_alloc ?_ _)); exact BK468.out) hg (Kd.R_ne HO_3.out BK468.out (by decide))); have n1_ := aS (hb); have n2_ := aS (ho); clear BK468; clear HB; clear HO_3; have BK468 := n0_; have HB := n1_; have HO495 := n2_; clear n0_ n1_ n2_; clear ho hb hg hat; have hcz34_0 : w33.cell? ⟨gb468, 0, none⟩ = some (.string a0_0) := (blk_cell BK468.out 0).trans rfl; have hcz34_1 : w33.cell? ⟨gb468, 1, none⟩ = some (.string a0_1) := (blk_cell BK468.out 1).trans rfl; have hcz34_2 : w33.cell? ⟨gb468, 2, none⟩ = some (.int .i64 a0_2) := (blk_cell BK468.out 2).trans rfl; have hcz34_3 : w33.cell? ⟨gb468, 3, none⟩ = some (.string a0_3) := (blk_cell BK468.out 3).trans rfl; have hcz34_4 : w33.cell? ⟨gb468, 4, none⟩ = some (.bool false) := (blk_cell BK468.out 4).trans rfl; have hfz34_0 := blk_frozen BK468.out 0; have hfz34_1 := blk_frozen BK468.out 1; have hfz34_2 := blk_frozen BK468.out 2; have hfz34_3 := blk_frozen BK468.out 3; have hfz34_4 := blk_frozen BK468.out 4) | ((with_reducible refine gate_callee (f := 37) rfl ?_); refine goesL_ (some 27) rfl rfl Try.func37 (by kernel_rfl) rfl #[.string a0_3] rfl (by (try simp only [List.map_toArray, List.map_cons, List.map_nil]); first | done | rfl | (simp only [lld, llt]; rfl)) ?_; (with_reducible refine (shardlogref01_Text.calls a0_3 t496 _ A30.out).mono ?_); rintro e w35 ⟨v497, rfl, ho0, hb⟩; refine ⟨_, rfl, ?_⟩; have n0_ := aS (Kd.R_elder' (by (with_reducible repeat (first | apply Kd.R_alloc | apply Kd.R_drewN | apply Kd.R_drew)); exact HO495.out) (by first | exact Kd.R_base ho0 | exact Kd.S_base ho0 | exact Kd.R_base ho0 | exact Kd.V_base ho0) hb); have n1_ := aS (Kd.R_lower (Kd.R_new' ho0 (Kd.R_lt (by (with_reducible repeat (first | apply Kd.R_alloc | apply Kd.R_drewN | apply Kd.R_drew)); exact HO495.out))) (below_size (by repeat (first | (with_reducible first | exact HB.out | apply bal | apply bdN | apply bdo | refine below_set ?_ GE468.out) | exact HB.out)))); have n2_ := aS (blk_below (g := gb468) (o := .cells #[.string a0_0, .string a0_1, .int .i64 a0_2, .string a0_3, .bool false] 46 (0, 0)) (by (with_reducible repeat (first | refine blk_drewN ?_ _ | refine blk_drew ?_ | refine blk_alloc ?_ _)); exact BK468.out) hb); have n3_ := aS (below_step (by repeat (first | (with_reducible first | exact HB.out | apply bal | apply bdN | apply bdo | refine below_set ?_ GE468.out) | exact HB.out)) hb); clear HO495; clear BK468; clear HB; have HO495 := n0_; have HO498 := n1_; have BK468 := n2_; have HB := n3_; clear n0_ n1_ n2_ n3_; (try clear hb); (try clear hb2); (try clear hk); (try clear hi); (try clear ho0); obtain ⟨Ao37, co37, eo37⟩ := Kd.R_slice HO498.out; subst eo37) | ((with_reducible refine gate_builtin (b := .append) (xs := #[.tmp 24, .tmp 27]) rfl ?_); at_builtin; refine Kd.R_append_rows (Kd.int .u8) (w0 := w) w.heap.size rfl (.tmp 24) (.tmp 27) 33 5 (.int .u8 0) 1 rfl Try.underlying33 info5 rfl (by decide) (by omega) v494 y493 t496 _ _ _ (fun k_ => some k_ ≠ (.slice Ao37 t496.length co37 : Value).ownBlock) (fun _ => False) rfl rfl ?aO ?aR (fun _ _ h => h) (fun _ h => h.elim) ?aF ?aB ?aS ?aL ?_; (case aR => repeat (first | exact (Kd.R_reads' HO498.out).2.2 | (with_reducible refine Kd.C_alloc ?_ _) | (with_reducible refine Kd.C_drewN ?_ _) | (with_reducible refine Kd.C_drew ?_))); (case aB => exact (by repeat (first | (with_reducible first | exact HB.out | apply bal | apply bdN | apply bdo | refine below_set ?_ GE468.out) | exact HB.out))); (case aF => exact (fun k_ hk => Kd.fresh' (Kd.R_lt (by (with_reducible repeat (first | apply Kd.R_alloc | apply Kd.R_drewN | apply Kd.R_drew)); exact HO498.out)) k_ hk)); (case aO => exact (by (with_reducible repeat (first | apply Kd.R_alloc | apply Kd.R_drewN | apply Kd.R_drew)); exact Kd.R_mono HO495.out (fun _ hk => hk.2))); (case aS => exact (below_size (by repeat (first | (with_reducible first | exact HB.out | apply bal | apply bdN | apply bdo | refine below_set ?_ GE468.out) | exact HB.out)))); (case aL => have := LMc31.out; omega); intro v500 w36 ho hb hg hat; rw [← Ny499.out] at ho; have n0_ := aS (blk_grown (g := gb468) (o := .cells #[.string a0_0, .string a0_1, .int .i64 a0_2, .string a0_3, .bool false] 46 (0, 0)) (by (with_reducible repeat (first | refine blk_drewN ?_ _ | refine blk_drew ?_ | refine blk_alloc ?_ _)); exact BK468.out) hg (Kd.R_ne HO495.out BK468.out (by decide))); have n1_ := aS (Kd.R_after (ok := (fun _ => True)) (by (with_reducible repeat (first | apply Kd.R_alloc | apply Kd.R_drewN | apply Kd.R_drew)); exact HO498.out) hg hat); have n2_ := aS (hb); have n3_ := aS (ho); clear BK468; clear HO498; clear HB; clear HO495; have BK468 := n0_; have HO498 := n1_; have HB := n2_; have HO501 := n3_; clear n0_ n1_ n2_ n3_; clear ho hb hg hat))
        go_ret
        exact ⟨_, by first | rfl | (simp [errW_none, errW_some] <;> rfl) | (simp [*, errW_none, errW_some] <;> rfl), by (with_reducible repeat (first | apply Kd.R_alloc | apply Kd.R_drewN | apply Kd.R_drew)); exact Kd.R_mono HO501.out (fun _ hk => trivial), by repeat (first | (with_reducible first | exact HB.out | apply bal | apply bdN | apply bdo | refine below_set ?_ GE468.out) | exact HB.out)⟩
       ·
        rw [if_neg c31] at H
        exact absurd H (by simp)
      ·
       rw [if_neg c29] at H
       exact absurd H (by simp)

/-! ### shardloglaw10_BlockBack: function 6 -/
mutual
def shardloglaw10_BlockBack.j0 : Nat → List (S46) → Int → Bool → Option (Bool)
 | 0, _, _, _ => none
 | k + 1, x0, x1, x25 => if x25 = true then ((shardloglaw10_awake.f k).bind fun t504 => (some t504)) else ((shardlogref08_Sort.f k x0).bind fun t505 => ((block_Cut.f k t505 (wrap64 (1 + (wrap64 (x1))))).bind fun bt508 => (if bt508.2 = 0 then (shardloglaw10_BlockBack.l0 k x1 t505 bt508.1 ([] : List Int) 0) else (none))))
def shardloglaw10_BlockBack.l0 : Nat → Int → List (S46) → List (List (S46)) → List Int → Int → Option (Bool)
 | 0, _, _, _, _, _ => none
 | k + 1, x1, x5, x6, x8, x10 => if x10 < (x6.length : Int) then (shardloglaw10_BlockBack.l1 k x1 x5 x6 x8 x10 0 0) else (shardloglaw10_BlockBack.l2 k x5 x6 x8 ([] : List (S46)) 0)
def shardloglaw10_BlockBack.l1 : Nat → Int → List (S46) → List (List (S46)) → List Int → Int → Int → Int → Option (Bool)
 | 0, _, _, _, _, _, _, _ => none
 | k + 1, x1, x5, x6, x8, x10, x11, x12 => if 0 ≤ x10 then (if x10 < (x6.length : Int) then (if x12 < ((rd_L7 x6 x10).length : Int) then (if x11 > (wrap64 (x1)) then (none) else (if 0 ≤ x12 then ((shardlogref08_Put.f k ((rd_T46 (rd_L7 x6 x10) x12).f0) ((rd_T46 (rd_L7 x6 x10) x12).f1) ((rd_T46 (rd_L7 x6 x10) x12).f2) ((rd_T46 (rd_L7 x6 x10) x12).f3) ((rd_T46 (rd_L7 x6 x10) x12).f4)).bind fun t515 => (shardloglaw10_BlockBack.l1 k x1 x5 x6 x8 x10 (wrap64 (x11 + (t515.length : Int))) (wrap64 (x12 + 1)))) else (none))) else (if ((rd_L7 x6 x10).length : Int) = 0 then (shardloglaw10_BlockBack.j3 k x1 x5 x6 x8 x10 true) else (if x11 ≤ (wrap64 (x1)) then (shardloglaw10_BlockBack.j3 k x1 x5 x6 x8 x10 (decide ((wrap64 (x10 + 1)) < (x6.length : Int)))) else (shardloglaw10_BlockBack.j3 k x1 x5 x6 x8 x10 false)))) else (none)) else (none)
def shardloglaw10_BlockBack.j3 : Nat → Int → List (S46) → List (List (S46)) → List Int → Int → Bool → Option (Bool)
 | 0, _, _, _, _, _, _ => none
 | k + 1, x1, x5, x6, x8, x10, x87 => if x87 = true then (none) else (if 0 ≤ x10 then (if x10 < (x6.length : Int) then ((block_Put.f k (rd_L7 x6 x10)).bind fun bt520 => (if bt520.2 = 0 then (if x8.length + bt520.1.length < 140737488355328 then (shardloglaw10_BlockBack.l0 k x1 x5 x6 (x8 ++ bt520.1) (wrap64 (x10 + 1))) else (none)) else (none))) else (none)) else (none))
def shardloglaw10_BlockBack.l2 : Nat → List (S46) → List (List (S46)) → List Int → List (S46) → Int → Option (Bool)
 | 0, _, _, _, _, _ => none
 | k + 1, x5, x6, x8, x9, x15 => if x15 < (x6.length : Int) then ((block_Get.f k x8).bind fun bt527 => (if bt527.2.2 = 0 then (if x9.length + bt527.1.length < 2199023255552 then (shardloglaw10_BlockBack.l2 k x5 x6 bt527.2.1 (x9 ++ bt527.1) (wrap64 (x15 + 1))) else (none)) else (none))) else (if (x8.length : Int) = 0 then ((shardlogref08_Same.f k x9 x5).bind fun t537 => (some t537)) else (none))
end
def shardloglaw10_BlockBack.f (k : Nat) (l0 : List (S46)) (a1 : Int) : Option (Bool) := (shardloglaw10_awake.f k).bind fun t502 => (if t502 = true then ((shardlogref08_Few.f k l0).bind fun t503 => (shardloglaw10_BlockBack.j0 k l0 a1 (!t503))) else (shardloglaw10_BlockBack.j0 k l0 a1 true))
theorem shardloglaw10_BlockBack.mono_l : ∀ k, (∀ y0 y1 y2, LeO (shardloglaw10_BlockBack.j0 k y0 y1 y2) (shardloglaw10_BlockBack.j0 (k + 1) y0 y1 y2)) ∧ (∀ y0 y1 y2 y3 y4, LeO (shardloglaw10_BlockBack.l0 k y0 y1 y2 y3 y4) (shardloglaw10_BlockBack.l0 (k + 1) y0 y1 y2 y3 y4)) ∧ (∀ y0 y1 y2 y3 y4 y5 y6, LeO (shardloglaw10_BlockBack.l1 k y0 y1 y2 y3 y4 y5 y6) (shardloglaw10_BlockBack.l1 (k + 1) y0 y1 y2 y3 y4 y5 y6)) ∧ (∀ y0 y1 y2 y3 y4 y5, LeO (shardloglaw10_BlockBack.j3 k y0 y1 y2 y3 y4 y5) (shardloglaw10_BlockBack.j3 (k + 1) y0 y1 y2 y3 y4 y5)) ∧ (∀ y0 y1 y2 y3 y4, LeO (shardloglaw10_BlockBack.l2 k y0 y1 y2 y3 y4) (shardloglaw10_BlockBack.l2 (k + 1) y0 y1 y2 y3 y4))
 | 0 => ⟨fun _ _ _ r h => by simp [shardloglaw10_BlockBack.j0] at h, fun _ _ _ _ _ r h => by simp [shardloglaw10_BlockBack.l0] at h, fun _ _ _ _ _ _ _ r h => by simp [shardloglaw10_BlockBack.l1] at h, fun _ _ _ _ _ _ r h => by simp [shardloglaw10_BlockBack.j3] at h, fun _ _ _ _ _ r h => by simp [shardloglaw10_BlockBack.l2] at h⟩
 | k + 1 => by
  obtain ⟨ih0, ih1, ih2, ih3, ih4⟩ := shardloglaw10_BlockBack.mono_l k
  refine ⟨?_, ?_, ?_, ?_, ?_⟩
  ·
   intro y0 y1 y2
   unfold shardloglaw10_BlockBack.j0
   repeat' first
   | (with_reducible exact ih0 _ _ _)
   | (with_reducible exact ih1 _ _ _ _ _)
   | (with_reducible exact ih2 _ _ _ _ _ _ _)
   | (with_reducible exact ih3 _ _ _ _ _ _)
   | (with_reducible exact ih4 _ _ _ _ _)
   | (with_reducible exact block_Cut.mono _ _ _)
   | (with_reducible exact block_Get.mono _ _)
   | (with_reducible exact block_Put.mono _ _)
   | (with_reducible exact shardloglaw10_awake.mono _)
   | (with_reducible exact shardlogref08_Few.mono _ _)
   | (with_reducible exact shardlogref08_Put.mono _ _ _ _ _ _)
   | (with_reducible exact shardlogref08_Same.mono _ _ _)
   | (with_reducible exact shardlogref08_Sort.mono _ _)
   | (with_reducible exact LeO.refl _)
   | (with_reducible exact LeO.none _)
   | (with_reducible refine LeO.ite ?_ ?_)
   | (with_reducible refine LeO.bind ?_ (fun _ => ?_))
   | exact ih0 _ _ _
   | exact ih1 _ _ _ _ _
   | exact ih2 _ _ _ _ _ _ _
   | exact ih3 _ _ _ _ _ _
   | exact ih4 _ _ _ _ _
   | exact block_Cut.mono _ _ _
   | exact block_Get.mono _ _
   | exact block_Put.mono _ _
   | exact shardloglaw10_awake.mono _
   | exact shardlogref08_Few.mono _ _
   | exact shardlogref08_Put.mono _ _ _ _ _ _
   | exact shardlogref08_Same.mono _ _ _
   | exact shardlogref08_Sort.mono _ _
   | exact LeO.none _
   | refine LeO.ite ?_ ?_
   | refine LeO.bind ?_ (fun _ => ?_)
  ·
   intro y0 y1 y2 y3 y4
   unfold shardloglaw10_BlockBack.l0
   repeat' first
   | (with_reducible exact ih0 _ _ _)
   | (with_reducible exact ih1 _ _ _ _ _)
   | (with_reducible exact ih2 _ _ _ _ _ _ _)
   | (with_reducible exact ih3 _ _ _ _ _ _)
   | (with_reducible exact ih4 _ _ _ _ _)
   | (with_reducible exact block_Cut.mono _ _ _)
   | (with_reducible exact block_Get.mono _ _)
   | (with_reducible exact block_Put.mono _ _)
   | (with_reducible exact shardloglaw10_awake.mono _)
   | (with_reducible exact shardlogref08_Few.mono _ _)
   | (with_reducible exact shardlogref08_Put.mono _ _ _ _ _ _)
   | (with_reducible exact shardlogref08_Same.mono _ _ _)
   | (with_reducible exact shardlogref08_Sort.mono _ _)
   | (with_reducible exact LeO.refl _)
   | (with_reducible exact LeO.none _)
   | (with_reducible refine LeO.ite ?_ ?_)
   | (with_reducible refine LeO.bind ?_ (fun _ => ?_))
   | exact ih0 _ _ _
   | exact ih1 _ _ _ _ _
   | exact ih2 _ _ _ _ _ _ _
   | exact ih3 _ _ _ _ _ _
   | exact ih4 _ _ _ _ _
   | exact block_Cut.mono _ _ _
   | exact block_Get.mono _ _
   | exact block_Put.mono _ _
   | exact shardloglaw10_awake.mono _
   | exact shardlogref08_Few.mono _ _
   | exact shardlogref08_Put.mono _ _ _ _ _ _
   | exact shardlogref08_Same.mono _ _ _
   | exact shardlogref08_Sort.mono _ _
   | exact LeO.none _
   | refine LeO.ite ?_ ?_
   | refine LeO.bind ?_ (fun _ => ?_)
  ·
   intro y0 y1 y2 y3 y4 y5 y6
   unfold shardloglaw10_BlockBack.l1
   repeat' first
   | (with_reducible exact ih0 _ _ _)
   | (with_reducible exact ih1 _ _ _ _ _)
   | (with_reducible exact ih2 _ _ _ _ _ _ _)
   | (with_reducible exact ih3 _ _ _ _ _ _)
   | (with_reducible exact ih4 _ _ _ _ _)
   | (with_reducible exact block_Cut.mono _ _ _)
   | (with_reducible exact block_Get.mono _ _)
   | (with_reducible exact block_Put.mono _ _)
   | (with_reducible exact shardloglaw10_awake.mono _)
   | (with_reducible exact shardlogref08_Few.mono _ _)
   | (with_reducible exact shardlogref08_Put.mono _ _ _ _ _ _)
   | (with_reducible exact shardlogref08_Same.mono _ _ _)
   | (with_reducible exact shardlogref08_Sort.mono _ _)
   | (with_reducible exact LeO.refl _)
   | (with_reducible exact LeO.none _)
   | (with_reducible refine LeO.ite ?_ ?_)
   | (with_reducible refine LeO.bind ?_ (fun _ => ?_))
   | exact ih0 _ _ _
   | exact ih1 _ _ _ _ _
   | exact ih2 _ _ _ _ _ _ _
   | exact ih3 _ _ _ _ _ _
   | exact ih4 _ _ _ _ _
   | exact block_Cut.mono _ _ _
   | exact block_Get.mono _ _
   | exact block_Put.mono _ _
   | exact shardloglaw10_awake.mono _
   | exact shardlogref08_Few.mono _ _
   | exact shardlogref08_Put.mono _ _ _ _ _ _
   | exact shardlogref08_Same.mono _ _ _
   | exact shardlogref08_Sort.mono _ _
   | exact LeO.none _
   | refine LeO.ite ?_ ?_
   | refine LeO.bind ?_ (fun _ => ?_)
  ·
   intro y0 y1 y2 y3 y4 y5
   unfold shardloglaw10_BlockBack.j3
   repeat' first
   | (with_reducible exact ih0 _ _ _)
   | (with_reducible exact ih1 _ _ _ _ _)
   | (with_reducible exact ih2 _ _ _ _ _ _ _)
   | (with_reducible exact ih3 _ _ _ _ _ _)
   | (with_reducible exact ih4 _ _ _ _ _)
   | (with_reducible exact block_Cut.mono _ _ _)
   | (with_reducible exact block_Get.mono _ _)
   | (with_reducible exact block_Put.mono _ _)
   | (with_reducible exact shardloglaw10_awake.mono _)
   | (with_reducible exact shardlogref08_Few.mono _ _)
   | (with_reducible exact shardlogref08_Put.mono _ _ _ _ _ _)
   | (with_reducible exact shardlogref08_Same.mono _ _ _)
   | (with_reducible exact shardlogref08_Sort.mono _ _)
   | (with_reducible exact LeO.refl _)
   | (with_reducible exact LeO.none _)
   | (with_reducible refine LeO.ite ?_ ?_)
   | (with_reducible refine LeO.bind ?_ (fun _ => ?_))
   | exact ih0 _ _ _
   | exact ih1 _ _ _ _ _
   | exact ih2 _ _ _ _ _ _ _
   | exact ih3 _ _ _ _ _ _
   | exact ih4 _ _ _ _ _
   | exact block_Cut.mono _ _ _
   | exact block_Get.mono _ _
   | exact block_Put.mono _ _
   | exact shardloglaw10_awake.mono _
   | exact shardlogref08_Few.mono _ _
   | exact shardlogref08_Put.mono _ _ _ _ _ _
   | exact shardlogref08_Same.mono _ _ _
   | exact shardlogref08_Sort.mono _ _
   | exact LeO.none _
   | refine LeO.ite ?_ ?_
   | refine LeO.bind ?_ (fun _ => ?_)
  ·
   intro y0 y1 y2 y3 y4
   unfold shardloglaw10_BlockBack.l2
   repeat' first
   | (with_reducible exact ih0 _ _ _)
   | (with_reducible exact ih1 _ _ _ _ _)
   | (with_reducible exact ih2 _ _ _ _ _ _ _)
   | (with_reducible exact ih3 _ _ _ _ _ _)
   | (with_reducible exact ih4 _ _ _ _ _)
   | (with_reducible exact block_Cut.mono _ _ _)
   | (with_reducible exact block_Get.mono _ _)
   | (with_reducible exact block_Put.mono _ _)
   | (with_reducible exact shardloglaw10_awake.mono _)
   | (with_reducible exact shardlogref08_Few.mono _ _)
   | (with_reducible exact shardlogref08_Put.mono _ _ _ _ _ _)
   | (with_reducible exact shardlogref08_Same.mono _ _ _)
   | (with_reducible exact shardlogref08_Sort.mono _ _)
   | (with_reducible exact LeO.refl _)
   | (with_reducible exact LeO.none _)
   | (with_reducible refine LeO.ite ?_ ?_)
   | (with_reducible refine LeO.bind ?_ (fun _ => ?_))
   | exact ih0 _ _ _
   | exact ih1 _ _ _ _ _
   | exact ih2 _ _ _ _ _ _ _
   | exact ih3 _ _ _ _ _ _
   | exact ih4 _ _ _ _ _
   | exact block_Cut.mono _ _ _
   | exact block_Get.mono _ _
   | exact block_Put.mono _ _
   | exact shardloglaw10_awake.mono _
   | exact shardlogref08_Few.mono _ _
   | exact shardlogref08_Put.mono _ _ _ _ _ _
   | exact shardlogref08_Same.mono _ _ _
   | exact shardlogref08_Sort.mono _ _
   | exact LeO.none _
   | refine LeO.ite ?_ ?_
   | refine LeO.bind ?_ (fun _ => ?_)
theorem shardloglaw10_BlockBack.mono : ∀ a0 a1 k, LeO (shardloglaw10_BlockBack.f k a0 a1) (shardloglaw10_BlockBack.f (k + 1) a0 a1) := by
 intro a0 a1 k
 obtain ⟨ih0, ih1, ih2, ih3, ih4⟩ := shardloglaw10_BlockBack.mono_l k
 unfold shardloglaw10_BlockBack.f
 repeat' first
   | (with_reducible exact ih0 _ _ _)
   | (with_reducible exact ih1 _ _ _ _ _)
   | (with_reducible exact ih2 _ _ _ _ _ _ _)
   | (with_reducible exact ih3 _ _ _ _ _ _)
   | (with_reducible exact ih4 _ _ _ _ _)
   | (with_reducible exact block_Cut.mono _ _ _)
   | (with_reducible exact block_Get.mono _ _)
   | (with_reducible exact block_Put.mono _ _)
   | (with_reducible exact shardloglaw10_awake.mono _)
   | (with_reducible exact shardlogref08_Few.mono _ _)
   | (with_reducible exact shardlogref08_Put.mono _ _ _ _ _ _)
   | (with_reducible exact shardlogref08_Same.mono _ _ _)
   | (with_reducible exact shardlogref08_Sort.mono _ _)
   | (with_reducible exact LeO.refl _)
   | (with_reducible exact LeO.none _)
   | (with_reducible refine LeO.ite ?_ ?_)
   | (with_reducible refine LeO.bind ?_ (fun _ => ?_))
   | exact ih0 _ _ _
   | exact ih1 _ _ _ _ _
   | exact ih2 _ _ _ _ _ _ _
   | exact ih3 _ _ _ _ _ _
   | exact ih4 _ _ _ _ _
   | exact block_Cut.mono _ _ _
   | exact block_Get.mono _ _
   | exact block_Put.mono _ _
   | exact shardloglaw10_awake.mono _
   | exact shardlogref08_Few.mono _ _
   | exact shardlogref08_Put.mono _ _ _ _ _ _
   | exact shardlogref08_Same.mono _ _ _
   | exact shardlogref08_Sort.mono _ _
   | exact LeO.none _
   | refine LeO.ite ?_ ?_
   | refine LeO.bind ?_ (fun _ => ?_)
set_option maxHeartbeats 8000000 in
set_option maxRecDepth 100000 in
theorem shardloglaw10_BlockBack.calls (k : Nat) (A0 : Option Addr) (c0 : Nat) (l0 : List (S46)) (a1 : Int) (r : Bool) (w : World) (hr0 : Kd.C k46 w A0 l0.length l0) (hc0 : l0.length ≤ c0) (h : shardloglaw10_BlockBack.f k l0 a1 = some r) :
  Calls Try.prog 6 #[.slice A0 l0.length c0, .int .u8 a1] w fun e w' => e = .returned (.bool r) ∧ Below w.heap.size w w' := by
 have hu46 := Try.underlying46
 have HR0 := aS hr0
 have HC0 := aS hc0
 clear hr0 hc0
 have HB := aS (Below.refl w.heap.size w)
 have H : ((shardloglaw10_awake.f k).bind fun t502 => (if t502 = true then ((shardlogref08_Few.f k l0).bind fun t503 => (shardloglaw10_BlockBack.j0 k l0 a1 (!t503))) else (shardloglaw10_BlockBack.j0 k l0 a1 true))) = some r := h
 clear h
 have HC3 := aS H
 clear H
 go_enter Try.func6, Try.ntmps6
 go_upto_region 1 with (fail)
 go_cut [25] (fun v25 wc => ∃ (kq : Nat) (x25_2 : Bool), v25 = .bool x25_2 ∧ Aside0 (shardloglaw10_BlockBack.j0 kq l0 a1 x25_2 = some r) ∧ Aside0 (kq ≤ k) ∧ Aside0 (Below w.heap.size w wc))
 case first =>
  have H := HC3.out; clear HC3
  replace H := obm H
  obtain ⟨t502, A40, H⟩ := H
  replace H : (if t502 = true then ((shardlogref08_Few.f k l0).bind fun t503 => (shardloglaw10_BlockBack.j0 k l0 a1 (!t503))) else (shardloglaw10_BlockBack.j0 k l0 a1 true)) = some r := H
  have A4 := aS A40
  clear A40
  by_cases c5 : t502 = true
  ·
   subst c5
   have H1 : ((shardlogref08_Few.f k l0).bind fun t503 => (shardloglaw10_BlockBack.j0 k l0 a1 (!t503))) = some r := by rw [if_pos rfl] at H; exact H
   clear H; have H := H1; clear H1
   replace H := obm H
   obtain ⟨t503, A60, H⟩ := H
   replace H : (shardloglaw10_BlockBack.j0 k l0 a1 (!t503)) = some r := H
   have A6 := aS A60
   clear A60
   have H' := aS H
   clear H
   go_wp2_with (first | ((with_reducible refine gate_callee (f := 8) rfl ?_); refine goesL_ (some 19) rfl rfl Try.func8 (by kernel_rfl) rfl #[] rfl (by (try simp only [List.map_toArray, List.map_cons, List.map_nil]); first | done | rfl | (simp only [lld, llt]; rfl)) ?_; (with_reducible refine (shardloglaw10_awake.calls k  true _ A4.out).mono ?_); rintro e w7 ⟨rfl, hb⟩; refine ⟨_, rfl, ?_⟩; have n0_ := aS (below_step (by repeat (first | (with_reducible first | exact HB.out | apply bal | apply bdN | apply bdo) | exact HB.out)) hb); clear HB; have HB := n0_; clear n0_; (try clear hb); (try clear hb2); (try clear hk); (try clear hi)) | (go_at_call 9; (with_reducible refine (shardlogref08_Few.calls k _ _ l0 t503 _ ?side1 ?side2 A6.out).mono ?_); (case side1 => repeat (first | exact (Kd.C_below HR0.out HB.out) | (with_reducible refine Kd.C_alloc ?_ _) | (with_reducible refine Kd.C_drewN ?_ _) | (with_reducible refine Kd.C_drew ?_))); (case side2 => exact HC0.out); rintro e w8 ⟨rfl, hb⟩; have n0_ := aS (below_step (by repeat (first | (with_reducible first | exact HB.out | apply bal | apply bdN | apply bdo) | exact HB.out)) hb); clear HB; have HB := n0_; clear n0_; (try clear hb); (try clear hb2); (try clear hk); (try clear hi)))
   go_meet
   case rel => exact ⟨_, (!t503), (by first | rfl | (simp; done) | (simp [*]; done) | (simp; exact (by decide : ∀ a_ b_ : Bool, (a_ == b_) = (!a_ != b_)) _ _)), H', ⟨by first | omega | exact Nat.le_refl _⟩, ⟨by repeat (first | (with_reducible first | exact HB.out | apply bal | apply bdN | apply bdo) | exact HB.out)⟩⟩
  ·
   replace c5 := Bool.eq_false_iff.mpr c5
   subst c5
   have H1 : (shardloglaw10_BlockBack.j0 k l0 a1 true) = some r := by rw [if_neg (show ¬ (false = true) by decide)] at H; exact H
   clear H; have H := H1; clear H1
   have H' := aS H
   clear H
   go_wp2_with (first | ((with_reducible refine gate_callee (f := 8) rfl ?_); refine goesL_ (some 19) rfl rfl Try.func8 (by kernel_rfl) rfl #[] rfl (by (try simp only [List.map_toArray, List.map_cons, List.map_nil]); first | done | rfl | (simp only [lld, llt]; rfl)) ?_; (with_reducible refine (shardloglaw10_awake.calls k  false _ A4.out).mono ?_); rintro e w9 ⟨rfl, hb⟩; refine ⟨_, rfl, ?_⟩; have n0_ := aS (below_step (by repeat (first | (with_reducible first | exact HB.out | apply bal | apply bdN | apply bdo) | exact HB.out)) hb); clear HB; have HB := n0_; clear n0_; (try clear hb); (try clear hb2); (try clear hk); (try clear hi)))
   go_meet
   case rel => exact ⟨_, (true), (by first | rfl | (simp; done) | (simp [*]; done) | (simp; exact (by decide : ∀ a_ b_ : Bool, (a_ == b_) = (!a_ != b_)) _ _)), H', ⟨by first | omega | exact Nat.le_refl _⟩, ⟨by repeat (first | (with_reducible first | exact HB.out | apply bal | apply bdN | apply bdo) | exact HB.out)⟩⟩
 case rest =>
  clear HC3; (try clear p2); (try clear c5); (try clear c6); (try clear c8)
  obtain ⟨kq, x25_2, rfl, HA, HJ2, HB⟩ := hcut
  cases kq with
  | zero => exact absurd HA.out (by simp [shardloglaw10_BlockBack.j0])
  | succ kj2 =>
   have H := HA.out; clear HA
   simp only [shardloglaw10_BlockBack.j0] at H
   by_cases c10 : x25_2 = true
   ·
    subst c10
    have H1 : ((shardloglaw10_awake.f kj2).bind fun t504 => (some t504)) = some r := by rw [if_pos rfl] at H; exact H
    clear H; have H := H1; clear H1
    replace H := obm H
    obtain ⟨t504, A110, H⟩ := H
    replace H : (some t504) = some r := H
    have A11 := aS A110
    clear A110
    obtain rfl := Option.some.inj H
    go_wp2_with (first | ((with_reducible refine gate_callee (f := 8) rfl ?_); refine goesL_ (some 26) rfl rfl Try.func8 (by kernel_rfl) rfl #[] rfl (by (try simp only [List.map_toArray, List.map_cons, List.map_nil]); first | done | rfl | (simp only [lld, llt]; rfl)) ?_; (with_reducible refine (shardloglaw10_awake.calls kj2  t504 _ A11.out).mono ?_); rintro e w12 ⟨rfl, hb⟩; refine ⟨_, rfl, ?_⟩; have n0_ := aS (below_step (by repeat (first | (with_reducible first | exact HB.out | apply bal | apply bdN | apply bdo) | exact HB.out)) hb); clear HB; have HB := n0_; clear n0_; (try clear hb); (try clear hb2); (try clear hk); (try clear hi)))
    go_ret
    exact ⟨by first | rfl | (simp [errW_none, errW_some] <;> rfl) | (simp [*, errW_none, errW_some] <;> rfl), by repeat (first | (with_reducible first | exact HB.out | apply bal | apply bdN | apply bdo) | exact HB.out)⟩
   ·
    replace c10 := Bool.eq_false_iff.mpr c10
    subst c10
    have H1 : ((shardlogref08_Sort.f kj2 l0).bind fun t505 => ((block_Cut.f kj2 t505 (wrap64 (1 + (wrap64 (a1))))).bind fun bt508 => (if bt508.2 = 0 then (shardloglaw10_BlockBack.l0 kj2 a1 t505 bt508.1 ([] : List Int) 0) else (none)))) = some r := by rw [if_neg (show ¬ (false = true) by decide)] at H; exact H
    clear H; have H := H1; clear H1
    replace H := obm H
    obtain ⟨t505, A130, H⟩ := H
    replace H : ((block_Cut.f kj2 t505 (wrap64 (1 + (wrap64 (a1))))).bind fun bt508 => (if bt508.2 = 0 then (shardloglaw10_BlockBack.l0 kj2 a1 t505 bt508.1 ([] : List Int) 0) else (none))) = some r := H
    have A13 := aS A130
    clear A130
    replace H := obm H
    obtain ⟨⟨t508, t511⟩, A140, H⟩ := H
    replace H : (if t511 = 0 then (shardloglaw10_BlockBack.l0 kj2 a1 t505 t508 ([] : List Int) 0) else (none)) = some r := H
    have A14 := aS A140
    clear A140
    by_cases c15 : t511 = 0
    ·
     rw [if_pos c15] at H
     have c15b0 : (t511 == 0) = true := beq_iff_eq.mpr c15
     have c15b1 : (t511 != 0) = false := bne_eq_false_iff_eq.mpr c15
     clear c15
     have H' := aS H
     clear H
     go_wp2_with (first | ((with_reducible refine gate_callee (f := 10) rfl ?_); refine goesL_ (some 28) rfl rfl Try.func10 (by kernel_rfl) rfl #[.slice A0 l0.length c0] rfl (by (try simp only [List.map_toArray, List.map_cons, List.map_nil]); first | done | rfl | (simp only [lld, llt]; rfl)) ?_; (with_reducible refine (shardlogref08_Sort.calls kj2 _ _ l0 t505 _ ?side1 ?side2 A13.out).mono ?_); (case side1 => repeat (first | exact (Kd.C_below HR0.out HB.out) | (with_reducible refine Kd.C_alloc ?_ _) | (with_reducible refine Kd.C_drewN ?_ _) | (with_reducible refine Kd.C_drew ?_))); (case side2 => exact HC0.out); rintro e w16 ⟨v506, rfl, ho0, hb⟩; refine ⟨_, rfl, ?_⟩; have n0_ := aS (Kd.R_lower ho0 (below_size (by repeat (first | (with_reducible first | exact HB.out | apply bal | apply bdN | apply bdo) | exact HB.out)))); have n1_ := aS (below_step (by repeat (first | (with_reducible first | exact HB.out | apply bal | apply bdN | apply bdo) | exact HB.out)) hb); clear HB; have HO507 := n0_; have HB := n1_; clear n0_ n1_; (try clear hb); (try clear hb2); (try clear hk); (try clear hi); (try clear ho0); obtain ⟨Ao17, co17, eo17⟩ := Kd.R_slice HO507.out; subst eo17) | ((with_reducible refine gate_callee (f := 11) rfl ?_); refine goesL_ (some 34) rfl rfl Try.func11 (by kernel_rfl) rfl #[.slice Ao17 t505.length co17, .int .i64 (wrap64 (1 + (wrap64 (a1))))] rfl (by (try simp only [List.map_toArray, List.map_cons, List.map_nil]); first | done | rfl | (simp only [lld, llt]; rfl)) ?_; (with_reducible refine (block_Cut.calls kj2 (fun k_ => some k_ = (.slice Ao17 t505.length co17 : Value).ownBlock) _ _ t505 (wrap64 (1 + (wrap64 (a1)))) t508 t511 _ ?side1 A14.out).mono ?_); (case side1 => exact Kd.R_V (Kd.R_tight rfl (HO507.out))); rintro e w18 ⟨v509, rfl, ho0, hb⟩; refine ⟨_, rfl, ?_⟩; have n0_ := aS (Kd.R_below (by (with_reducible repeat (first | apply Kd.R_alloc | apply Kd.R_drewN | apply Kd.R_drew)); exact HO507.out) hb); have n1_ := aS (Kd.S_lower (Kd.S_new' (Kd.S_mono (ok' := fun k_ => True) ho0 (fun _ hk_ => trivial)) (Kd.R_lt (by (with_reducible repeat (first | apply Kd.R_alloc | apply Kd.R_drewN | apply Kd.R_drew)); exact HO507.out))) (below_size (by repeat (first | (with_reducible first | exact HB.out | apply bal | apply bdN | apply bdo) | exact HB.out)))); have n2_ := aS (below_step (by repeat (first | (with_reducible first | exact HB.out | apply bal | apply bdN | apply bdo) | exact HB.out)) hb); clear HO507; clear HB; have HO507 := n0_; have HO510 := n1_; have HB := n2_; clear n0_ n1_ n2_; (try clear hb); (try clear hb2); (try clear hk); (try clear hi); (try clear ho0)))
     go_loopg [8, 10] kj2 (fun kq v8 v10 w' => ∃ (x8_2 : List Int) (x10_2 : Int), v10 = .int .i64 x10_2 ∧ Aside0 (shardloglaw10_BlockBack.l0 kq a1 t505 t508 x8_2 x10_2 = some r) ∧ Aside0 (kq ≤ kj2) ∧ Aside0 (Kd.R k46 46 w' w.heap.size (fun _ => True) (.slice Ao17 t505.length co17) t505) ∧ Aside0 (Kd.S (Kd.slice 46 k46) 22 w' w.heap.size (fun k_ => some k_ ≠ ((.slice Ao17 t505.length co17) : Value).ownBlock) v509 t508) ∧ Aside0 (Kd.R (Kd.int .u8) 5 w' w.heap.size (fun _ => True) v8 x8_2) ∧ Aside0 (Below w.heap.size w w'))
     case atStart => exact ⟨(([] : List Int)), (0), (by first | rfl | (simp; done) | (simp [*]; done) | (simp; exact (by decide : ∀ a_ b_ : Bool, (a_ == b_) = (!a_ != b_)) _ _)), H', ⟨Nat.le_refl _⟩, ⟨by (with_reducible repeat (first | apply Kd.R_alloc | apply Kd.R_drewN | apply Kd.R_drew)); exact HO507.out⟩, ⟨by (with_reducible repeat (first | apply Kd.S_alloc | apply Kd.S_drewN | apply Kd.S_drew)); exact Kd.S_mono HO510.out (fun _ hk => hk.2)⟩, ⟨by first | exact Kd.R_nil _ _ _ _ _ | exact Kd.N_nil _ _ _ _ _ | exact Kd.V_nil _ _ _ _ _ | exact Kd.Q_nil _ _ _ _ _ | exact Kd.S_nil _ _ _ _ _⟩, ⟨by repeat (first | (with_reducible first | exact HB.out | apply bal | apply bdN | apply bdo) | exact HB.out)⟩⟩
     case round =>
      clear H'; (try clear c1); (try clear p2); (try clear c5); (try clear c6); (try clear p6); (try clear c8); (try clear c10); (try clear c11); (try clear c15); (try clear c15b0); (try clear c15b1); (try clear p2)
      obtain ⟨x8_2, x10_2, rfl, HA, HK2, HO_5, HO_6, HO_8, HB⟩ := hrel
      cases gk with
      | zero => exact absurd HA.out (by simp [shardloglaw10_BlockBack.l0])
      | succ k2 =>
       have H := HA.out; clear HA
       simp only [shardloglaw10_BlockBack.l0] at H
       by_cases c19 : x10_2 < (t508.length : Int)
       ·
        rw [if_pos c19] at H
        have c19b0 : decide (x10_2 < (t508.length : Int)) = true := decide_eq_true c19
        clear c19
        have H' := aS H
        clear H
        obtain ⟨Ao20, co20, eo20⟩ := Kd.S_slice HO_6.out
        subst eo20
        go_wp2
        go_loopg [11, 12] k2 (fun kq v11 v12 w' => ∃ (x11_3 : Int) (x12_3 : Int), v11 = .int .i64 x11_3 ∧ v12 = .int .i64 x12_3 ∧ Aside0 (shardloglaw10_BlockBack.l1 kq a1 t505 t508 x8_2 x10_2 x11_3 x12_3 = some r) ∧ Aside0 (kq ≤ k2) ∧ Aside0 (Kd.R k46 46 w' w.heap.size (fun _ => True) (.slice Ao17 t505.length co17) t505) ∧ Aside0 (Kd.S (Kd.slice 46 k46) 22 w' w.heap.size (fun k_ => some k_ ≠ ((.slice Ao17 t505.length co17) : Value).ownBlock) (.slice Ao20 t508.length co20) t508) ∧ Aside0 (Kd.R (Kd.int .u8) 5 w' w.heap.size (fun _ => True) u8 x8_2) ∧ Aside0 (Below w.heap.size w w'))
        case atStart => exact ⟨(0), (0), (by first | rfl | (simp; done) | (simp [*]; done) | (simp; exact (by decide : ∀ a_ b_ : Bool, (a_ == b_) = (!a_ != b_)) _ _)), (by first | rfl | (simp; done) | (simp [*]; done) | (simp; exact (by decide : ∀ a_ b_ : Bool, (a_ == b_) = (!a_ != b_)) _ _)), H', ⟨Nat.le_refl _⟩, ⟨by (with_reducible repeat (first | apply Kd.R_alloc | apply Kd.R_drewN | apply Kd.R_drew)); exact HO_5.out⟩, ⟨by (with_reducible repeat (first | apply Kd.S_alloc | apply Kd.S_drewN | apply Kd.S_drew)); exact HO_6.out⟩, ⟨by (with_reducible repeat (first | apply Kd.R_alloc | apply Kd.R_drewN | apply Kd.R_drew)); exact HO_8.out⟩, ⟨by repeat (first | (with_reducible first | exact HB.out | apply bal | apply bdN | apply bdo) | exact HB.out)⟩⟩
        case round =>
         clear H'; (try clear c1); (try clear p2); (try clear c5); (try clear c6); (try clear p6); (try clear c8); (try clear c10); (try clear c11); (try clear c15); (try clear c15b0); (try clear c15b1); (try clear c19); (try clear c19b0); (try clear p2); (try clear p6)
         obtain ⟨x11_3, x12_3, rfl, rfl, HA, HK3, HO_5, HO_6, HO_8, HB⟩ := hrel
         cases gk with
         | zero => exact absurd HA.out (by simp [shardloglaw10_BlockBack.l1])
         | succ k3 =>
          have H := HA.out; clear HA
          simp only [shardloglaw10_BlockBack.l1] at H
          by_cases c21 : 0 ≤ x10_2
          ·
           rw [if_pos c21] at H
           have c21b0 : decide (0 ≤ x10_2) = true := decide_eq_true c21
           clear c21
           by_cases c22 : x10_2 < (t508.length : Int)
           ·
            rw [if_pos c22] at H
            have c22b0 : decide (x10_2 < (t508.length : Int)) = true := decide_eq_true c22
            clear c22
            by_cases c23 : x12_3 < ((rd_L7 t508 x10_2).length : Int)
            ·
             rw [if_pos c23] at H
             have c23b0 : decide (x12_3 < ((rd_L7 t508 x10_2).length : Int)) = true := decide_eq_true c23
             clear c23
             by_cases c24 : x11_3 > (wrap64 (a1))
             ·
              rw [if_pos c24] at H
              exact absurd H (by simp)
             ·
              rw [if_neg c24] at H
              have c24b0 : decide ((wrap64 (a1)) < x11_3) = false := decide_eq_false c24
              clear c24
              by_cases c25 : 0 ≤ x12_3
              ·
               rw [if_pos c25] at H
               have c25b0 : decide (0 ≤ x12_3) = true := decide_eq_true c25
               clear c25
               replace H := obm H
               obtain ⟨t515, A260, H⟩ := H
               replace H : (shardloglaw10_BlockBack.l1 k3 a1 t505 t508 x8_2 x10_2 (wrap64 (x11_3 + (t515.length : Int))) (wrap64 (x12_3 + 1))) = some r := H
               have A26 := aS A260
               clear A260
               have H' := aS H
               clear H
               have p512 : 0 ≤ (x10_2 : Int) := odt (by first | (with_reducible assumption) | assumption)
               have q512 : x10_2 < (t508.length : Int) := odt (by first | (with_reducible assumption) | assumption)
               obtain ⟨ad512, A512_0, c512_0, e512, hx512_0, hl512_0, hi512_0⟩ := at_L7 (Kd.S_reads' HO_6.out).2.2 x10_2 p512 q512
               cases e512
               obtain ⟨ce512, hce512, hMe512, hcc512⟩ := Kd.S_get HO_6.out [] x10_2 p512 (by first | exact q512 | exact odt (by first | (with_reducible assumption) | assumption) | (have e_ := (Kd.S_reads' HO_6.out).1; omega))
               obtain ⟨ve512_0, rfl, ge512_0⟩ := hMe512
               have hv512_0 := hcc512 0 _ rfl
               rw [Nat.add_zero, show ((Kd.slice 46 k46)).sz = 1 from rfl, Nat.mul_one] at hv512_0
               replace hv512_0 := Option.some.inj (hv512_0.symm.trans hx512_0)
               rw [hv512_0] at ge512_0
               have HL512_0 := aS (show Kd.R k46 46 _ _ _ _ (rd_L7 t508 x10_2) from ge512_0)
               clear hv512_0 ge512_0; clear hcc512 hce512
               have HR512_0 := aS hi512_0
               have HC512_0 := aS hl512_0
               clear hi512_0 hl512_0
               replace p512 := eq_true p512
               replace q512 := eq_true q512
               have p513 : 0 ≤ (x10_2 : Int) := odt (by first | (with_reducible assumption) | assumption)
               have q513 : x10_2 < (t508.length : Int) := odt (by first | (with_reducible assumption) | assumption)
               obtain ⟨ad513, A513_0, c513_0, e513, hx513_0, hl513_0, hi513_0⟩ := at_L7 (Kd.S_reads' HO_6.out).2.2 x10_2 p513 q513
               obtain rfl : ad512 = ad513 := (by injection e513)
               obtain ⟨ce513, hce513, hMe513, hcc513⟩ := Kd.S_get HO_6.out [] x10_2 p513 (by first | exact q513 | exact odt (by first | (with_reducible assumption) | assumption) | (have e_ := (Kd.S_reads' HO_6.out).1; omega))
               obtain ⟨ve513_0, rfl, ge513_0⟩ := hMe513
               have hv513_0 := hcc513 0 _ rfl
               rw [Nat.add_zero, show ((Kd.slice 46 k46)).sz = 1 from rfl, Nat.mul_one] at hv513_0
               replace hv513_0 := Option.some.inj (hv513_0.symm.trans hx513_0)
               rw [hv513_0] at ge513_0
               have HL513_0 := aS (show Kd.R k46 46 _ _ _ _ (rd_L7 t508 x10_2) from ge513_0)
               clear hv513_0 ge513_0; clear hcc513 hce513
               have HR513_0 := aS hi513_0
               have HC513_0 := aS hl513_0
               clear hi513_0 hl513_0
               replace p513 := eq_true p513
               replace q513 := eq_true q513
               have ea_ := Option.some.inj (hx512_0.symm.trans hx513_0)
               injection ea_ with ea_ en_ ec_
               subst ea_
               subst ec_
               clear en_
               have p514 : 0 ≤ (x12_3 : Int) := odt (by first | (with_reducible assumption) | assumption)
               have q514 : x12_3 < ((rd_L7 t508 x10_2).length : Int) := odt (by first | (with_reducible assumption) | assumption)
               obtain ⟨ad514, e514, hx514_0, hx514_1, hx514_2, hx514_3, hx514_4⟩ := at_T46 (by repeat (first | (with_reducible exact HR513_0.out) | (with_reducible refine Kd.C_alloc ?_ _) | (with_reducible refine Kd.C_drewN ?_ _) | (with_reducible refine Kd.C_drew ?_) | exact HR513_0.out)) x12_3 p514 q514
               cases e514
               replace p514 := eq_true p514
               replace q514 := eq_true q514
               go_wp2_with (first | ((with_reducible refine gate_callee (f := 20) rfl ?_); refine goesL_ (some 66) rfl rfl Try.func20 (by kernel_rfl) rfl #[.agg #[.string ((rd_T46 (rd_L7 t508 x10_2) x12_3).f0), .string ((rd_T46 (rd_L7 t508 x10_2) x12_3).f1), .int .i64 ((rd_T46 (rd_L7 t508 x10_2) x12_3).f2), .string ((rd_T46 (rd_L7 t508 x10_2) x12_3).f3), .bool ((rd_T46 (rd_L7 t508 x10_2) x12_3).f4)]] rfl (by (try simp only [List.map_toArray, List.map_cons, List.map_nil]); first | done | rfl | (simp only [lld, llt]; rfl)) ?_; (with_reducible refine (shardlogref08_Put.calls k3 ((rd_T46 (rd_L7 t508 x10_2) x12_3).f0) ((rd_T46 (rd_L7 t508 x10_2) x12_3).f1) ((rd_T46 (rd_L7 t508 x10_2) x12_3).f2) ((rd_T46 (rd_L7 t508 x10_2) x12_3).f3) ((rd_T46 (rd_L7 t508 x10_2) x12_3).f4) t515 _ A26.out).mono ?_); rintro e w27 ⟨v516, rfl, ho0, hb⟩; refine ⟨_, rfl, ?_⟩; have n0_ := aS (Kd.R_below (by (with_reducible repeat (first | apply Kd.R_alloc | apply Kd.R_drewN | apply Kd.R_drew)); exact HO_5.out) hb); have n1_ := aS (Kd.S_below (by (with_reducible repeat (first | apply Kd.S_alloc | apply Kd.S_drewN | apply Kd.S_drew)); exact HO_6.out) hb); have n2_ := aS (Kd.R_elder' (by (with_reducible repeat (first | apply Kd.R_alloc | apply Kd.R_drewN | apply Kd.R_drew)); exact HO_8.out) (by first | exact Kd.R_base ho0 | exact Kd.S_base ho0 | exact Kd.R_base ho0 | exact Kd.V_base ho0) hb); have n3_ := aS (Kd.R_below (by (with_reducible repeat (first | apply Kd.R_alloc | apply Kd.R_drewN | apply Kd.R_drew)); exact HL512_0.out) hb); have n4_ := aS (Kd.R_below (by (with_reducible repeat (first | apply Kd.R_alloc | apply Kd.R_drewN | apply Kd.R_drew)); exact HL513_0.out) hb); have n5_ := aS (Kd.R_lower (Kd.R_new' ho0 (Kd.R_lt (by (with_reducible repeat (first | apply Kd.R_alloc | apply Kd.R_drewN | apply Kd.R_drew)); exact HO_8.out))) (below_size (by repeat (first | (with_reducible first | exact HB.out | apply bal | apply bdN | apply bdo) | exact HB.out)))); have n6_ := aS (Kd.C_below (by repeat (first | (with_reducible exact HR512_0.out) | (with_reducible refine Kd.C_alloc ?_ _) | (with_reducible refine Kd.C_drewN ?_ _) | (with_reducible refine Kd.C_drew ?_) | exact HR512_0.out)) hb); have n7_ := aS (Kd.C_below (by repeat (first | (with_reducible exact HR513_0.out) | (with_reducible refine Kd.C_alloc ?_ _) | (with_reducible refine Kd.C_drewN ?_ _) | (with_reducible refine Kd.C_drew ?_) | exact HR513_0.out)) hb); have n8_ := aS (below_step (by repeat (first | (with_reducible first | exact HB.out | apply bal | apply bdN | apply bdo) | exact HB.out)) hb); clear HO_5; clear HO_6; clear HO_8; clear HL512_0; clear HL513_0; clear HR512_0; clear HR513_0; clear HB; have HO_5 := n0_; have HO_6 := n1_; have HO_8 := n2_; have HL512_0 := n3_; have HL513_0 := n4_; have HO517 := n5_; have HR512_0 := n6_; have HR513_0 := n7_; have HB := n8_; clear n0_ n1_ n2_ n3_ n4_ n5_ n6_ n7_ n8_; (try clear hb); (try clear hb2); (try clear hk); (try clear hi); (try clear ho0); obtain ⟨Ao28, co28, eo28⟩ := Kd.R_slice HO517.out; subst eo28))
               go_roundg k3
               case measure => have := HJ2.out; have := HK2.out; have := HK3.out; omega
               case rel => exact ⟨(wrap64 (x11_3 + (t515.length : Int))), (wrap64 (x12_3 + 1)), (by first | rfl | (simp; done) | (simp [*]; done) | (simp; exact (by decide : ∀ a_ b_ : Bool, (a_ == b_) = (!a_ != b_)) _ _)), (by first | rfl | (simp; done) | (simp [*]; done) | (simp; exact (by decide : ∀ a_ b_ : Bool, (a_ == b_) = (!a_ != b_)) _ _)), H', ⟨by have := HJ2.out; have := HK2.out; have := HK3.out; omega⟩, ⟨by (with_reducible repeat (first | apply Kd.R_alloc | apply Kd.R_drewN | apply Kd.R_drew)); exact HO_5.out⟩, ⟨by (with_reducible repeat (first | apply Kd.S_alloc | apply Kd.S_drewN | apply Kd.S_drew)); exact HO_6.out⟩, ⟨by (with_reducible repeat (first | apply Kd.R_alloc | apply Kd.R_drewN | apply Kd.R_drew)); exact Kd.R_mono HO_8.out (fun _ hk => trivial)⟩, ⟨by repeat (first | (with_reducible first | exact HB.out | apply bal | apply bdN | apply bdo) | exact HB.out)⟩⟩
              ·
               rw [if_neg c25] at H
               exact absurd H (by simp)
            ·
             rw [if_neg c23] at H
             have c23b0 : decide (x12_3 < ((rd_L7 t508 x10_2).length : Int)) = false := decide_eq_false c23
             clear c23
             have HC29 := aS H
             clear H
             have p512 : 0 ≤ (x10_2 : Int) := odt (by first | (with_reducible assumption) | assumption)
             have q512 : x10_2 < (t508.length : Int) := odt (by first | (with_reducible assumption) | assumption)
             obtain ⟨ad512, A512_0, c512_0, e512, hx512_0, hl512_0, hi512_0⟩ := at_L7 (Kd.S_reads' HO_6.out).2.2 x10_2 p512 q512
             cases e512
             obtain ⟨ce512, hce512, hMe512, hcc512⟩ := Kd.S_get HO_6.out [] x10_2 p512 (by first | exact q512 | exact odt (by first | (with_reducible assumption) | assumption) | (have e_ := (Kd.S_reads' HO_6.out).1; omega))
             obtain ⟨ve512_0, rfl, ge512_0⟩ := hMe512
             have hv512_0 := hcc512 0 _ rfl
             rw [Nat.add_zero, show ((Kd.slice 46 k46)).sz = 1 from rfl, Nat.mul_one] at hv512_0
             replace hv512_0 := Option.some.inj (hv512_0.symm.trans hx512_0)
             rw [hv512_0] at ge512_0
             have HL512_0 := aS (show Kd.R k46 46 _ _ _ _ (rd_L7 t508 x10_2) from ge512_0)
             clear hv512_0 ge512_0; clear hcc512 hce512
             have HR512_0 := aS hi512_0
             have HC512_0 := aS hl512_0
             clear hi512_0 hl512_0
             replace p512 := eq_true p512
             replace q512 := eq_true q512
             go_upto_region 19 with (fail)
             go_cut [87] (fun v87 wc => ∃ (kq : Nat) (x87_28 : Bool), v87 = .bool x87_28 ∧ Aside0 (shardloglaw10_BlockBack.j3 kq a1 t505 t508 x8_2 x10_2 x87_28 = some r) ∧ Aside0 (kq ≤ k3) ∧ Aside0 (Kd.R k46 46 wc w.heap.size (fun _ => True) (.slice Ao17 t505.length co17) t505) ∧ Aside0 (Kd.S (Kd.slice 46 k46) 22 wc w.heap.size (fun k_ => some k_ ≠ ((.slice Ao17 t505.length co17) : Value).ownBlock) (.slice (some ad512) t508.length co20) t508) ∧ Aside0 (Kd.R (Kd.int .u8) 5 wc w.heap.size (fun _ => True) u8 x8_2) ∧ Aside0 (Kd.C k46 wc A512_0 (rd_L7 t508 x10_2).length (rd_L7 t508 x10_2)) ∧ Aside0 (Below w.heap.size w wc))
             case first =>
              have H := HC29.out; clear HC29
              by_cases c30 : ((rd_L7 t508 x10_2).length : Int) = 0
              ·
               rw [if_pos c30] at H
               have c30b0 : (((rd_L7 t508 x10_2).length : Int) == 0) = true := beq_iff_eq.mpr c30
               have c30b1 : (((rd_L7 t508 x10_2).length : Int) != 0) = false := bne_eq_false_iff_eq.mpr c30
               clear c30
               (first | rw [c30b0] | (simp only [i64_w, i32_w]; rw [c30b0]) | skip)
               have H' := aS H
               clear H
               have p518 : 0 ≤ (x10_2 : Int) := odt (by first | (with_reducible assumption) | assumption)
               have q518 : x10_2 < (t508.length : Int) := odt (by first | (with_reducible assumption) | assumption)
               obtain ⟨ad518, A518_0, c518_0, e518, hx518_0, hl518_0, hi518_0⟩ := at_L7 (Kd.S_reads' HO_6.out).2.2 x10_2 p518 q518
               obtain rfl : ad512 = ad518 := (by injection e518)
               obtain ⟨ce518, hce518, hMe518, hcc518⟩ := Kd.S_get HO_6.out [] x10_2 p518 (by first | exact q518 | exact odt (by first | (with_reducible assumption) | assumption) | (have e_ := (Kd.S_reads' HO_6.out).1; omega))
               obtain ⟨ve518_0, rfl, ge518_0⟩ := hMe518
               have hv518_0 := hcc518 0 _ rfl
               rw [Nat.add_zero, show ((Kd.slice 46 k46)).sz = 1 from rfl, Nat.mul_one] at hv518_0
               replace hv518_0 := Option.some.inj (hv518_0.symm.trans hx518_0)
               rw [hv518_0] at ge518_0
               have HL518_0 := aS (show Kd.R k46 46 _ _ _ _ (rd_L7 t508 x10_2) from ge518_0)
               clear hv518_0 ge518_0; clear hcc518 hce518
               have HR518_0 := aS hi518_0
               have HC518_0 := aS hl518_0
               clear hi518_0 hl518_0
               replace p518 := eq_true p518
               replace q518 := eq_true q518
               go_wp2
               go_meet
               case rel => exact ⟨_, (true), (by first | rfl | (simp; done) | (simp [*]; done) | (simp; exact (by decide : ∀ a_ b_ : Bool, (a_ == b_) = (!a_ != b_)) _ _)), H', ⟨by have := HJ2.out; have := HK2.out; have := HK3.out; first | omega | exact Nat.le_refl _⟩, ⟨by (with_reducible repeat (first | apply Kd.R_alloc | apply Kd.R_drewN | apply Kd.R_drew)); exact HO_5.out⟩, ⟨by (with_reducible repeat (first | apply Kd.S_alloc | apply Kd.S_drewN | apply Kd.S_drew)); exact HO_6.out⟩, ⟨by (with_reducible repeat (first | apply Kd.R_alloc | apply Kd.R_drewN | apply Kd.R_drew)); exact HO_8.out⟩, ⟨by repeat (first | (with_reducible exact HR512_0.out) | (with_reducible refine Kd.C_alloc ?_ _) | (with_reducible refine Kd.C_drewN ?_ _) | (with_reducible refine Kd.C_drew ?_) | exact HR512_0.out)⟩, ⟨by repeat (first | (with_reducible first | exact HB.out | apply bal | apply bdN | apply bdo) | exact HB.out)⟩⟩
              ·
               rw [if_neg c30] at H
               have c30b0 : (((rd_L7 t508 x10_2).length : Int) == 0) = false := beq_eq_false_iff_ne.mpr c30
               have c30b1 : (((rd_L7 t508 x10_2).length : Int) != 0) = true := bne_iff_ne.mpr c30
               have c30b2 : ¬ ((rd_L7 t508 x10_2) = []) := fun h_ => c30 (by rw [h_]; rfl)
               (first | rw [c30b0] | (simp only [i64_w, i32_w]; rw [c30b0]) | skip)
               by_cases c31 : x11_3 ≤ (wrap64 (a1))
               ·
                rw [if_pos c31] at H
                have c31b0 : decide (x11_3 ≤ (wrap64 (a1))) = true := decide_eq_true c31
                clear c31
                have H' := aS H
                clear H
                have p518 : 0 ≤ (x10_2 : Int) := odt (by first | (with_reducible assumption) | assumption)
                have q518 : x10_2 < (t508.length : Int) := odt (by first | (with_reducible assumption) | assumption)
                obtain ⟨ad518, A518_0, c518_0, e518, hx518_0, hl518_0, hi518_0⟩ := at_L7 (Kd.S_reads' HO_6.out).2.2 x10_2 p518 q518
                obtain rfl : ad512 = ad518 := (by injection e518)
                obtain ⟨ce518, hce518, hMe518, hcc518⟩ := Kd.S_get HO_6.out [] x10_2 p518 (by first | exact q518 | exact odt (by first | (with_reducible assumption) | assumption) | (have e_ := (Kd.S_reads' HO_6.out).1; omega))
                obtain ⟨ve518_0, rfl, ge518_0⟩ := hMe518
                have hv518_0 := hcc518 0 _ rfl
                rw [Nat.add_zero, show ((Kd.slice 46 k46)).sz = 1 from rfl, Nat.mul_one] at hv518_0
                replace hv518_0 := Option.some.inj (hv518_0.symm.trans hx518_0)
                rw [hv518_0] at ge518_0
                have HL518_0 := aS (show Kd.R k46 46 _ _ _ _ (rd_L7 t508 x10_2) from ge518_0)
                clear hv518_0 ge518_0; clear hcc518 hce518
                have HR518_0 := aS hi518_0
                have HC518_0 := aS hl518_0
                clear hi518_0 hl518_0
                replace p518 := eq_true p518
                replace q518 := eq_true q518
                go_wp2
                go_meet
                case rel => exact ⟨_, (decide ((wrap64 (x10_2 + 1)) < (t508.length : Int))), (by first | rfl | (simp; done) | (simp [*]; done) | (simp; exact (by decide : ∀ a_ b_ : Bool, (a_ == b_) = (!a_ != b_)) _ _)), H', ⟨by have := HJ2.out; have := HK2.out; have := HK3.out; first | omega | exact Nat.le_refl _⟩, ⟨by (with_reducible repeat (first | apply Kd.R_alloc | apply Kd.R_drewN | apply Kd.R_drew)); exact HO_5.out⟩, ⟨by (with_reducible repeat (first | apply Kd.S_alloc | apply Kd.S_drewN | apply Kd.S_drew)); exact HO_6.out⟩, ⟨by (with_reducible repeat (first | apply Kd.R_alloc | apply Kd.R_drewN | apply Kd.R_drew)); exact HO_8.out⟩, ⟨by repeat (first | (with_reducible exact HR512_0.out) | (with_reducible refine Kd.C_alloc ?_ _) | (with_reducible refine Kd.C_drewN ?_ _) | (with_reducible refine Kd.C_drew ?_) | exact HR512_0.out)⟩, ⟨by repeat (first | (with_reducible first | exact HB.out | apply bal | apply bdN | apply bdo) | exact HB.out)⟩⟩
               ·
                rw [if_neg c31] at H
                have c31b0 : decide (x11_3 ≤ (wrap64 (a1))) = false := decide_eq_false c31
                clear c31
                have H' := aS H
                clear H
                have p518 : 0 ≤ (x10_2 : Int) := odt (by first | (with_reducible assumption) | assumption)
                have q518 : x10_2 < (t508.length : Int) := odt (by first | (with_reducible assumption) | assumption)
                obtain ⟨ad518, A518_0, c518_0, e518, hx518_0, hl518_0, hi518_0⟩ := at_L7 (Kd.S_reads' HO_6.out).2.2 x10_2 p518 q518
                obtain rfl : ad512 = ad518 := (by injection e518)
                obtain ⟨ce518, hce518, hMe518, hcc518⟩ := Kd.S_get HO_6.out [] x10_2 p518 (by first | exact q518 | exact odt (by first | (with_reducible assumption) | assumption) | (have e_ := (Kd.S_reads' HO_6.out).1; omega))
                obtain ⟨ve518_0, rfl, ge518_0⟩ := hMe518
                have hv518_0 := hcc518 0 _ rfl
                rw [Nat.add_zero, show ((Kd.slice 46 k46)).sz = 1 from rfl, Nat.mul_one] at hv518_0
                replace hv518_0 := Option.some.inj (hv518_0.symm.trans hx518_0)
                rw [hv518_0] at ge518_0
                have HL518_0 := aS (show Kd.R k46 46 _ _ _ _ (rd_L7 t508 x10_2) from ge518_0)
                clear hv518_0 ge518_0; clear hcc518 hce518
                have HR518_0 := aS hi518_0
                have HC518_0 := aS hl518_0
                clear hi518_0 hl518_0
                replace p518 := eq_true p518
                replace q518 := eq_true q518
                go_wp2
                go_meet
                case rel => exact ⟨_, (false), (by first | rfl | (simp; done) | (simp [*]; done) | (simp; exact (by decide : ∀ a_ b_ : Bool, (a_ == b_) = (!a_ != b_)) _ _)), H', ⟨by have := HJ2.out; have := HK2.out; have := HK3.out; first | omega | exact Nat.le_refl _⟩, ⟨by (with_reducible repeat (first | apply Kd.R_alloc | apply Kd.R_drewN | apply Kd.R_drew)); exact HO_5.out⟩, ⟨by (with_reducible repeat (first | apply Kd.S_alloc | apply Kd.S_drewN | apply Kd.S_drew)); exact HO_6.out⟩, ⟨by (with_reducible repeat (first | apply Kd.R_alloc | apply Kd.R_drewN | apply Kd.R_drew)); exact HO_8.out⟩, ⟨by repeat (first | (with_reducible exact HR512_0.out) | (with_reducible refine Kd.C_alloc ?_ _) | (with_reducible refine Kd.C_drewN ?_ _) | (with_reducible refine Kd.C_drew ?_) | exact HR512_0.out)⟩, ⟨by repeat (first | (with_reducible first | exact HB.out | apply bal | apply bdN | apply bdo) | exact HB.out)⟩⟩
             case rest =>
              clear HC29; (try clear c1); (try clear c2); (try clear p2); (try clear c3); (try clear c5); (try clear p5); (try clear q5); (try clear hx5); (try clear c6); (try clear p6); (try clear c8); (try clear c10); (try clear c11); (try clear c15); (try clear c15b0); (try clear c15b1); (try clear c19); (try clear c19b0); (try clear c20); (try clear c21); (try clear c21b0); (try clear c22); (try clear c22b0); (try clear c23); (try clear c23b0); (try clear c24); (try clear c24b0); (try clear c25); (try clear c25b0); (try clear c30); (try clear c30b0); (try clear c30b1); (try clear c30b2); (try clear c31); (try clear c31b0); (try clear hx512_0); (try clear hx513_0); (try clear hx514_0); (try clear hx514_1); (try clear hx514_2); (try clear hx514_3); (try clear hx514_4); (try clear hx518_0); (try clear p2); (try clear p512); (try clear p513); (try clear p514); (try clear p518); (try clear p6); (try clear q512); (try clear q513); (try clear q514); (try clear q518)
              obtain ⟨kq, x87_28, rfl, HA, HJ28, HO_5, HO_6, HO_8, HR512_0, HB⟩ := hcut
              cases kq with
              | zero => exact absurd HA.out (by simp [shardloglaw10_BlockBack.j3])
              | succ kj28 =>
               have H := HA.out; clear HA
               simp only [shardloglaw10_BlockBack.j3] at H
               by_cases c32 : x87_28 = true
               ·
                subst c32
                have H1 : (none) = some r := by rw [if_pos rfl] at H; exact H
                clear H; have H := H1; clear H1
                exact absurd H (by simp)
               ·
                replace c32 := Bool.eq_false_iff.mpr c32
                subst c32
                have H1 : (if 0 ≤ x10_2 then (if x10_2 < (t508.length : Int) then ((block_Put.f kj28 (rd_L7 t508 x10_2)).bind fun bt520 => (if bt520.2 = 0 then (if x8_2.length + bt520.1.length < 140737488355328 then (shardloglaw10_BlockBack.l0 kj28 a1 t505 t508 (x8_2 ++ bt520.1) (wrap64 (x10_2 + 1))) else (none)) else (none))) else (none)) else (none)) = some r := by rw [if_neg (show ¬ (false = true) by decide)] at H; exact H
                clear H; have H := H1; clear H1
                by_cases c33 : 0 ≤ x10_2
                ·
                 rw [if_pos c33] at H
                 have c33b0 : decide (0 ≤ x10_2) = true := decide_eq_true c33
                 clear c33
                 by_cases c34 : x10_2 < (t508.length : Int)
                 ·
                  rw [if_pos c34] at H
                  have c34b0 : decide (x10_2 < (t508.length : Int)) = true := decide_eq_true c34
                  clear c34
                  replace H := obm H
                  obtain ⟨⟨t520, t521⟩, A350, H⟩ := H
                  replace H : (if t521 = 0 then (if x8_2.length + t520.length < 140737488355328 then (shardloglaw10_BlockBack.l0 kj28 a1 t505 t508 (x8_2 ++ t520) (wrap64 (x10_2 + 1))) else (none)) else (none)) = some r := H
                  have A35 := aS A350
                  clear A350
                  by_cases c36 : t521 = 0
                  ·
                   rw [if_pos c36] at H
                   have c36b0 : (t521 == 0) = true := beq_iff_eq.mpr c36
                   have c36b1 : (t521 != 0) = false := bne_eq_false_iff_eq.mpr c36
                   clear c36
                   by_cases c37 : x8_2.length + t520.length < 140737488355328
                   ·
                    rw [if_pos c37] at H
                    have LMc37 := aS c37
                    clear c37
                    obtain ⟨y524, hy524⟩ : ∃ y_ : List Int, y_ = (x8_2 ++ t520) := ⟨_, rfl⟩
                    replace H : (shardloglaw10_BlockBack.l0 kj28 a1 t505 t508 y524 (wrap64 (x10_2 + 1))) = some r := by first | (rw [hy524]; with_reducible exact H) | (have H2_ := (Option.bind_some _ _).symm.trans H; rw [hy524]; with_reducible exact H2_) | (have H2_ := (Option.bind_some _ _).symm.trans H; with_reducible exact H2_) | with_reducible exact H | (rw [hy524]; exact H) | exact H
                    have Ny524 := aS hy524
                    clear hy524
                    have H' := aS H
                    clear H
                    have p519 : 0 ≤ (x10_2 : Int) := odt (by first | (with_reducible assumption) | assumption)
                    have q519 : x10_2 < (t508.length : Int) := odt (by first | (with_reducible assumption) | assumption)
                    obtain ⟨ad519, A519_0, c519_0, e519, hx519_0, hl519_0, hi519_0⟩ := at_L7 (Kd.S_reads' HO_6.out).2.2 x10_2 p519 q519
                    obtain rfl : ad512 = ad519 := (by injection e519)
                    obtain ⟨ce519, hce519, hMe519, hcc519⟩ := Kd.S_get HO_6.out [] x10_2 p519 (by first | exact q519 | exact odt (by first | (with_reducible assumption) | assumption) | (have e_ := (Kd.S_reads' HO_6.out).1; omega))
                    obtain ⟨ve519_0, rfl, ge519_0⟩ := hMe519
                    have hv519_0 := hcc519 0 _ rfl
                    rw [Nat.add_zero, show ((Kd.slice 46 k46)).sz = 1 from rfl, Nat.mul_one] at hv519_0
                    replace hv519_0 := Option.some.inj (hv519_0.symm.trans hx519_0)
                    rw [hv519_0] at ge519_0
                    have HL519_0 := aS (show Kd.R k46 46 _ _ _ _ (rd_L7 t508 x10_2) from ge519_0)
                    clear hv519_0 ge519_0; clear hcc519 hce519
                    have HR519_0 := aS hi519_0
                    have HC519_0 := aS hl519_0
                    clear hi519_0 hl519_0
                    replace p519 := eq_true p519
                    replace q519 := eq_true q519
                    go_wp2_with (first | ((with_reducible refine gate_callee (f := 15) rfl ?_); refine goesL_ (some 93) rfl rfl Try.func15 (by kernel_rfl) rfl #[.slice A519_0 (rd_L7 t508 x10_2).length c519_0] rfl (by (try simp only [List.map_toArray, List.map_cons, List.map_nil]); first | done | rfl | (simp only [lld, llt]; rfl)) ?_; (with_reducible refine (block_Put.calls kj28 _ _ (rd_L7 t508 x10_2) t520 t521 _ ?side1 ?side2 A35.out).mono ?_); (case side1 => repeat (first | exact (by repeat (first | (with_reducible exact HR519_0.out) | (with_reducible refine Kd.C_alloc ?_ _) | (with_reducible refine Kd.C_drewN ?_ _) | (with_reducible refine Kd.C_drew ?_) | exact HR519_0.out)) | (with_reducible refine Kd.C_alloc ?_ _) | (with_reducible refine Kd.C_drewN ?_ _) | (with_reducible refine Kd.C_drew ?_))); (case side2 => exact HC519_0.out); rintro e w38 ⟨v522, rfl, ho0, hb⟩; refine ⟨_, rfl, ?_⟩; have n0_ := aS (Kd.R_below (by (with_reducible repeat (first | apply Kd.R_alloc | apply Kd.R_drewN | apply Kd.R_drew)); exact HO_5.out) hb); have n1_ := aS (Kd.S_below (by (with_reducible repeat (first | apply Kd.S_alloc | apply Kd.S_drewN | apply Kd.S_drew)); exact HO_6.out) hb); have n2_ := aS (Kd.R_elder' (by (with_reducible repeat (first | apply Kd.R_alloc | apply Kd.R_drewN | apply Kd.R_drew)); exact HO_8.out) (by first | exact Kd.R_base ho0 | exact Kd.S_base ho0 | exact Kd.R_base ho0 | exact Kd.V_base ho0) hb); have n3_ := aS (Kd.R_below (by (with_reducible repeat (first | apply Kd.R_alloc | apply Kd.R_drewN | apply Kd.R_drew)); exact HL519_0.out) hb); have n4_ := aS (Kd.R_lower (Kd.R_new' ho0 (Kd.R_lt (by (with_reducible repeat (first | apply Kd.R_alloc | apply Kd.R_drewN | apply Kd.R_drew)); exact HO_8.out))) (below_size (by repeat (first | (with_reducible first | exact HB.out | apply bal | apply bdN | apply bdo) | exact HB.out)))); have n5_ := aS (Kd.C_below (by repeat (first | (with_reducible exact HR512_0.out) | (with_reducible refine Kd.C_alloc ?_ _) | (with_reducible refine Kd.C_drewN ?_ _) | (with_reducible refine Kd.C_drew ?_) | exact HR512_0.out)) hb); have n6_ := aS (Kd.C_below (by repeat (first | (with_reducible exact HR519_0.out) | (with_reducible refine Kd.C_alloc ?_ _) | (with_reducible refine Kd.C_drewN ?_ _) | (with_reducible refine Kd.C_drew ?_) | exact HR519_0.out)) hb); have n7_ := aS (below_step (by repeat (first | (with_reducible first | exact HB.out | apply bal | apply bdN | apply bdo) | exact HB.out)) hb); clear HO_5; clear HO_6; clear HO_8; clear HL519_0; clear HR512_0; clear HR519_0; clear HB; have HO_5 := n0_; have HO_6 := n1_; have HO_8 := n2_; have HL519_0 := n3_; have HO523 := n4_; have HR512_0 := n5_; have HR519_0 := n6_; have HB := n7_; clear n0_ n1_ n2_ n3_ n4_ n5_ n6_ n7_; (try clear hb); (try clear hb2); (try clear hk); (try clear hi); (try clear ho0); obtain ⟨Ao40, co40, eo40⟩ := Kd.R_slice HO523.out; subst eo40) | ((with_reducible refine gate_builtin (b := .append) (xs := #[.tmp 98, .tmp 99]) rfl ?_); (try (refine gate_guard (by rfl) ?_; dsimp only)); at_builtin; refine Kd.R_append_rows (Kd.int .u8) (w0 := w) w.heap.size rfl (.tmp 98) (.tmp 99) 33 5 (.int .u8 0) 1 rfl Try.underlying33 info5 rfl (by decide) (by omega) u8 x8_2 t520 _ _ _ (fun k_ => some k_ ≠ (.slice Ao40 t520.length co40 : Value).ownBlock) (fun _ => False) rfl rfl ?aO ?aR (fun _ _ h => h) (fun _ h => h.elim) ?aF ?aB ?aS ?aL ?_; (case aR => repeat (first | exact (Kd.R_reads' HO523.out).2.2 | (with_reducible refine Kd.C_alloc ?_ _) | (with_reducible refine Kd.C_drewN ?_ _) | (with_reducible refine Kd.C_drew ?_))); (case aB => exact (by repeat (first | (with_reducible first | exact HB.out | apply bal | apply bdN | apply bdo) | exact HB.out))); (case aF => exact (fun k_ hk => Kd.fresh' (Kd.R_lt (by (with_reducible repeat (first | apply Kd.R_alloc | apply Kd.R_drewN | apply Kd.R_drew)); exact HO523.out)) k_ hk)); (case aO => exact (by (with_reducible repeat (first | apply Kd.R_alloc | apply Kd.R_drewN | apply Kd.R_drew)); exact Kd.R_mono HO_8.out (fun _ hk => hk.2))); (case aS => exact (below_size (by repeat (first | (with_reducible first | exact HB.out | apply bal | apply bdN | apply bdo) | exact HB.out)))); (case aL => have := LMc37.out; omega); intro v525 w39 ho hb hg hat; rw [← Ny524.out] at ho; have n0_ := aS (Kd.R_over' (by (with_reducible repeat (first | apply Kd.R_alloc | apply Kd.R_drewN | apply Kd.R_drew)); exact HO_5.out) (Kd.R_typed (by (with_reducible repeat (first | apply Kd.R_alloc | apply Kd.R_drewN | apply Kd.R_drew)); exact HO_8.out)) (by decide) hg); have n1_ := aS (Kd.S_over' (by (with_reducible repeat (first | apply Kd.S_alloc | apply Kd.S_drewN | apply Kd.S_drew)); exact HO_6.out) (Kd.R_typed (by (with_reducible repeat (first | apply Kd.R_alloc | apply Kd.R_drewN | apply Kd.R_drew)); exact HO_8.out)) (by decide) hg); have n2_ := aS (Kd.R_over' (by (with_reducible repeat (first | apply Kd.R_alloc | apply Kd.R_drewN | apply Kd.R_drew)); exact HL519_0.out) (Kd.R_typed (by (with_reducible repeat (first | apply Kd.R_alloc | apply Kd.R_drewN | apply Kd.R_drew)); exact HO_8.out)) (by decide) hg); have n3_ := aS (Kd.R_after (ok := (fun _ => True)) (by (with_reducible repeat (first | apply Kd.R_alloc | apply Kd.R_drewN | apply Kd.R_drew)); exact HO523.out) hg hat); have n4_ := aS (hb); have n5_ := aS (ho); clear HO_5; clear HO_6; clear HL519_0; clear HO523; clear HB; clear HO_8; have HO_5 := n0_; have HO_6 := n1_; have HL519_0 := n2_; have HO523 := n3_; have HB := n4_; have HO526 := n5_; clear n0_ n1_ n2_ n3_ n4_ n5_; clear ho hb hg hat))
                    go_roundg kj28
                    case measure => have := HJ2.out; have := HK2.out; have := HK3.out; have := HJ28.out; omega
                    case rel => exact ⟨(y524), (wrap64 (x10_2 + 1)), (by first | rfl | (simp; done) | (simp [*]; done) | (simp; exact (by decide : ∀ a_ b_ : Bool, (a_ == b_) = (!a_ != b_)) _ _)), H', ⟨by have := HJ2.out; have := HK2.out; have := HK3.out; have := HJ28.out; omega⟩, ⟨by (with_reducible repeat (first | apply Kd.R_alloc | apply Kd.R_drewN | apply Kd.R_drew)); exact HO_5.out⟩, ⟨by (with_reducible repeat (first | apply Kd.S_alloc | apply Kd.S_drewN | apply Kd.S_drew)); exact HO_6.out⟩, ⟨by (with_reducible repeat (first | apply Kd.R_alloc | apply Kd.R_drewN | apply Kd.R_drew)); exact Kd.R_mono HO526.out (fun _ hk => trivial)⟩, ⟨by repeat (first | (with_reducible first | exact HB.out | apply bal | apply bdN | apply bdo) | exact HB.out)⟩⟩
                   ·
                    rw [if_neg c37] at H
                    exact absurd H (by simp)
                  ·
                   rw [if_neg c36] at H
                   exact absurd H (by simp)
                 ·
                  rw [if_neg c34] at H
                  exact absurd H (by simp)
                ·
                 rw [if_neg c33] at H
                 exact absurd H (by simp)
           ·
            rw [if_neg c22] at H
            exact absurd H (by simp)
          ·
           rw [if_neg c21] at H
           exact absurd H (by simp)
       ·
        rw [if_neg c19] at H
        have c19b0 : decide (x10_2 < (t508.length : Int)) = false := decide_eq_false c19
        clear c19
        have H' := aS H
        clear H
        obtain ⟨Ao41, co41, eo41⟩ := Kd.S_slice HO_6.out
        subst eo41
        go_wp2
        go_loopg [8, 9, 15] k2 (fun kq v8 v9 v15 w' => ∃ (x8_3 : List Int) (x9_3 : List (S46)) (x15_3 : Int), v15 = .int .i64 x15_3 ∧ Aside0 (shardloglaw10_BlockBack.l2 kq t505 t508 x8_3 x9_3 x15_3 = some r) ∧ Aside0 (kq ≤ k2) ∧ Aside0 (Kd.R k46 46 w' w.heap.size (fun k_ => some k_ ≠ (v9 : Value).ownBlock) (.slice Ao17 t505.length co17) t505) ∧ Aside0 (Kd.S (Kd.slice 46 k46) 22 w' w.heap.size (fun k_ => some k_ ≠ ((.slice Ao17 t505.length co17) : Value).ownBlock ∧ some k_ ≠ (v9 : Value).ownBlock) (.slice Ao41 t508.length co41) t508) ∧ Aside0 (Kd.R (Kd.int .u8) 5 w' w.heap.size (fun _ => True) v8 x8_3) ∧ Aside0 (Kd.R k46 46 w' w.heap.size (fun k_ => some k_ ≠ ((.slice Ao17 t505.length co17) : Value).ownBlock) v9 x9_3) ∧ Aside0 (Below w.heap.size w w'))
        case atStart => exact ⟨(x8_2), (([] : List (S46))), (0), (by first | rfl | (simp; done) | (simp [*]; done) | (simp; exact (by decide : ∀ a_ b_ : Bool, (a_ == b_) = (!a_ != b_)) _ _)), H', ⟨Nat.le_refl _⟩, ⟨by (with_reducible repeat (first | apply Kd.R_alloc | apply Kd.R_drewN | apply Kd.R_drew)); exact Kd.R_mono HO_5.out (fun _ hk => (by simp [Value.ownBlock]))⟩, ⟨by (with_reducible repeat (first | apply Kd.S_alloc | apply Kd.S_drewN | apply Kd.S_drew)); exact Kd.S_mono HO_6.out (fun _ hk => ⟨hk, (by simp [Value.ownBlock])⟩)⟩, ⟨by (with_reducible repeat (first | apply Kd.R_alloc | apply Kd.R_drewN | apply Kd.R_drew)); exact HO_8.out⟩, ⟨by first | exact Kd.R_nil _ _ _ _ _ | exact Kd.N_nil _ _ _ _ _ | exact Kd.V_nil _ _ _ _ _ | exact Kd.Q_nil _ _ _ _ _ | exact Kd.S_nil _ _ _ _ _⟩, ⟨by repeat (first | (with_reducible first | exact HB.out | apply bal | apply bdN | apply bdo) | exact HB.out)⟩⟩
        case round =>
         clear H'; (try clear c1); (try clear c2); (try clear p2); (try clear c3); (try clear c5); (try clear p5); (try clear q5); (try clear hx5); (try clear c6); (try clear p6); (try clear c8); (try clear c10); (try clear c11); (try clear c15); (try clear c15b0); (try clear c15b1); (try clear c19); (try clear c19b0); (try clear c20); (try clear c21); (try clear c21b0); (try clear c22); (try clear c22b0); (try clear c23); (try clear c23b0); (try clear c24); (try clear c24b0); (try clear c25); (try clear c25b0); (try clear c30); (try clear c30b0); (try clear c30b1); (try clear c30b2); (try clear c31); (try clear c31b0); (try clear c32); (try clear c33); (try clear c33b0); (try clear c34); (try clear c34b0); (try clear c36); (try clear c36b0); (try clear c36b1); (try clear c37); (try clear hx512_0); (try clear hx513_0); (try clear hx514_0); (try clear hx514_1); (try clear hx514_2); (try clear hx514_3); (try clear hx514_4); (try clear hx518_0); (try clear hx519_0); (try clear p2); (try clear p5); (try clear p512); (try clear p513); (try clear p514); (try clear p518); (try clear p519); (try clear p6); (try clear q5); (try clear q512); (try clear q513); (try clear q514); (try clear q518); (try clear q519)
         obtain ⟨x8_3, x9_3, x15_3, rfl, HA, HK3, HO_5, HO_6, HO_8, HO_9, HB⟩ := hrel
         cases gk with
         | zero => exact absurd HA.out (by simp [shardloglaw10_BlockBack.l2])
         | succ k3 =>
          have H := HA.out; clear HA
          simp only [shardloglaw10_BlockBack.l2] at H
          by_cases c42 : x15_3 < (t508.length : Int)
          ·
           rw [if_pos c42] at H
           have c42b0 : decide (x15_3 < (t508.length : Int)) = true := decide_eq_true c42
           clear c42
           replace H := obm H
           obtain ⟨⟨t527, t528, t529⟩, A430, H⟩ := H
           replace H : (if t529 = 0 then (if x9_3.length + t527.length < 2199023255552 then (shardloglaw10_BlockBack.l2 k3 t505 t508 t528 (x9_3 ++ t527) (wrap64 (x15_3 + 1))) else (none)) else (none)) = some r := H
           have A43 := aS A430
           clear A430
           by_cases c44 : t529 = 0
           ·
            rw [if_pos c44] at H
            have c44b0 : (t529 == 0) = true := beq_iff_eq.mpr c44
            have c44b1 : (t529 != 0) = false := bne_eq_false_iff_eq.mpr c44
            clear c44
            by_cases c45 : x9_3.length + t527.length < 2199023255552
            ·
             rw [if_pos c45] at H
             have LMc45 := aS c45
             clear c45
             obtain ⟨y534, hy534⟩ : ∃ y_ : List (S46), y_ = (x9_3 ++ t527) := ⟨_, rfl⟩
             replace H : (shardloglaw10_BlockBack.l2 k3 t505 t508 t528 y534 (wrap64 (x15_3 + 1))) = some r := by first | (rw [hy534]; with_reducible exact H) | (have H2_ := (Option.bind_some _ _).symm.trans H; rw [hy534]; with_reducible exact H2_) | (have H2_ := (Option.bind_some _ _).symm.trans H; with_reducible exact H2_) | with_reducible exact H | (rw [hy534]; exact H) | exact H
             have Ny534 := aS hy534
             clear hy534
             have H' := aS H
             clear H
             obtain ⟨Ao46, co46, eo46⟩ := Kd.R_slice HO_8.out
             subst eo46
             go_wp2_with (first | ((with_reducible refine gate_callee (f := 18) rfl ?_); refine goesL_ (some 109) rfl rfl Try.func18 (by kernel_rfl) rfl #[.slice Ao46 x8_3.length co46] rfl (by (try simp only [List.map_toArray, List.map_cons, List.map_nil]); first | done | rfl | (simp only [lld, llt]; rfl)) ?_; (with_reducible refine (block_Get.calls k3 _ _ x8_3 t527 t528 t529 _ ?side1 ?side2 A43.out).mono ?_); (case side1 => repeat (first | exact (Kd.R_reads' HO_8.out).2.2 | (with_reducible refine Kd.C_alloc ?_ _) | (with_reducible refine Kd.C_drewN ?_ _) | (with_reducible refine Kd.C_drew ?_))); (case side2 => exact (Kd.R_reads' HO_8.out).2.1); rintro e w47 ⟨v530, v532, rfl, ho0, ho1, hb⟩; refine ⟨_, rfl, ?_⟩; have n0_ := aS (Kd.R_elder' (by (with_reducible repeat (first | apply Kd.R_alloc | apply Kd.R_drewN | apply Kd.R_drew)); exact HO_5.out) (by first | exact Kd.R_base ho0 | exact Kd.S_base ho0 | exact Kd.R_base ho0 | exact Kd.V_base ho0) hb); have n1_ := aS (Kd.S_elder' (by (with_reducible repeat (first | apply Kd.S_alloc | apply Kd.S_drewN | apply Kd.S_drew)); exact HO_6.out) (by first | exact Kd.R_base ho0 | exact Kd.S_base ho0 | exact Kd.R_base ho0 | exact Kd.V_base ho0) hb); have n2_ := aS (Kd.R_elder' (by (with_reducible repeat (first | apply Kd.R_alloc | apply Kd.R_drewN | apply Kd.R_drew)); exact HO_8.out) (by first | exact Kd.R_base ho1 | exact Kd.S_base ho1 | exact Kd.R_base ho1 | exact Kd.V_base ho1) hb); have n3_ := aS (Kd.R_elder' (by (with_reducible repeat (first | apply Kd.R_alloc | apply Kd.R_drewN | apply Kd.R_drew)); exact HO_9.out) (by first | exact Kd.R_base ho0 | exact Kd.S_base ho0 | exact Kd.R_base ho0 | exact Kd.V_base ho0) hb); have n4_ := aS (Kd.R_lower (Kd.R_new' (Kd.R_new' ho0 (Kd.R_lt (by (with_reducible repeat (first | apply Kd.R_alloc | apply Kd.R_drewN | apply Kd.R_drew)); exact HO_5.out))) (Kd.R_lt (by (with_reducible repeat (first | apply Kd.R_alloc | apply Kd.R_drewN | apply Kd.R_drew)); exact HO_9.out))) (below_size (by repeat (first | (with_reducible first | exact HB.out | apply bal | apply bdN | apply bdo) | exact HB.out)))); have n5_ := aS (Kd.R_lower (Kd.R_new' ho1 (Kd.R_lt (by (with_reducible repeat (first | apply Kd.R_alloc | apply Kd.R_drewN | apply Kd.R_drew)); exact HO_8.out))) (below_size (by repeat (first | (with_reducible first | exact HB.out | apply bal | apply bdN | apply bdo) | exact HB.out)))); have n6_ := aS (below_step (by repeat (first | (with_reducible first | exact HB.out | apply bal | apply bdN | apply bdo) | exact HB.out)) hb); clear HO_5; clear HO_6; clear HO_8; clear HO_9; clear HB; have HO_5 := n0_; have HO_6 := n1_; have HO_8 := n2_; have HO_9 := n3_; have HO531 := n4_; have HO533 := n5_; have HB := n6_; clear n0_ n1_ n2_ n3_ n4_ n5_ n6_; (try clear hb); (try clear hb2); (try clear hk); (try clear hi); (try clear ho0); (try clear ho1); obtain ⟨Ao49, co49, eo49⟩ := Kd.R_slice HO531.out; subst eo49) | ((with_reducible refine gate_builtin (b := .append) (xs := #[.tmp 115, .tmp 116]) rfl ?_); (try (refine gate_guard (by rfl) ?_; dsimp only)); at_builtin; refine Kd.R_append_rows k46 (w0 := w) w.heap.size rfl (.tmp 115) (.tmp 116) 22 46 (.agg #[(.string ⟨#[]⟩), (.string ⟨#[]⟩), (.int .i64 0), (.string ⟨#[]⟩), (.bool false)]) 64 rfl Try.underlying22 info46 rfl (by decide) (by omega) u9 x9_3 t527 _ _ _ (fun k_ => some k_ ≠ (.slice Ao17 t505.length co17 : Value).ownBlock ∧ some k_ ≠ (.slice Ao49 t527.length co49 : Value).ownBlock) (fun _ => False) rfl rfl ?aO ?aR (fun _ _ h => h) (fun _ h => h.elim) ?aF ?aB ?aS ?aL ?_; (case aR => repeat (first | exact (Kd.R_reads' HO531.out).2.2 | (with_reducible refine Kd.C_alloc ?_ _) | (with_reducible refine Kd.C_drewN ?_ _) | (with_reducible refine Kd.C_drew ?_))); (case aB => exact (by repeat (first | (with_reducible first | exact HB.out | apply bal | apply bdN | apply bdo) | exact HB.out))); (case aF => exact (fun k_ hk => ⟨Kd.fresh' (Kd.R_lt (by (with_reducible repeat (first | apply Kd.R_alloc | apply Kd.R_drewN | apply Kd.R_drew)); exact HO_5.out)) k_ hk, Kd.fresh' (Kd.R_lt (by (with_reducible repeat (first | apply Kd.R_alloc | apply Kd.R_drewN | apply Kd.R_drew)); exact HO531.out)) k_ hk⟩)); (case aO => exact (by (with_reducible repeat (first | apply Kd.R_alloc | apply Kd.R_drewN | apply Kd.R_drew)); exact HO_9.out)); (case aS => exact (below_size (by repeat (first | (with_reducible first | exact HB.out | apply bal | apply bdN | apply bdo) | exact HB.out)))); (case aL => have := LMc45.out; omega); intro v535 w48 ho hb hg hat; rw [← Ny534.out] at ho; have n0_ := aS (Kd.R_after (ok := (fun k_ => some k_ ≠ (.slice Ao49 t527.length co49 : Value).ownBlock)) (by (with_reducible repeat (first | apply Kd.R_alloc | apply Kd.R_drewN | apply Kd.R_drew)); exact Kd.R_mono HO_5.out (fun _ hk => ⟨hk.2, hk.1⟩)) hg hat); have n1_ := aS (Kd.S_after (ok := (fun k_ => some k_ ≠ (.slice Ao17 t505.length co17 : Value).ownBlock ∧ some k_ ≠ (.slice Ao49 t527.length co49 : Value).ownBlock)) (by (with_reducible repeat (first | apply Kd.S_alloc | apply Kd.S_drewN | apply Kd.S_drew)); exact Kd.S_mono HO_6.out (fun _ hk => ⟨⟨hk.1.1, hk.2⟩, hk.1.2⟩)) hg hat); have n2_ := aS (Kd.R_over' (by (with_reducible repeat (first | apply Kd.R_alloc | apply Kd.R_drewN | apply Kd.R_drew)); exact HO_8.out) (Kd.R_typed (by (with_reducible repeat (first | apply Kd.R_alloc | apply Kd.R_drewN | apply Kd.R_drew)); exact HO_9.out)) (by decide) hg); have n3_ := aS (Kd.R_after (ok := (fun k_ => some k_ ≠ (.slice Ao17 t505.length co17 : Value).ownBlock)) (by (with_reducible repeat (first | apply Kd.R_alloc | apply Kd.R_drewN | apply Kd.R_drew)); exact Kd.R_mono HO531.out (fun _ hk => ⟨hk.1.2, hk.2⟩)) hg hat); have n4_ := aS (Kd.R_over' (by (with_reducible repeat (first | apply Kd.R_alloc | apply Kd.R_drewN | apply Kd.R_drew)); exact HO533.out) (Kd.R_typed (by (with_reducible repeat (first | apply Kd.R_alloc | apply Kd.R_drewN | apply Kd.R_drew)); exact HO_9.out)) (by decide) hg); have n5_ := aS (hb); have n6_ := aS (ho); clear HO_5; clear HO_6; clear HO_8; clear HO531; clear HO533; clear HB; clear HO_9; have HO_5 := n0_; have HO_6 := n1_; have HO_8 := n2_; have HO531 := n3_; have HO533 := n4_; have HB := n5_; have HO536 := n6_; clear n0_ n1_ n2_ n3_ n4_ n5_ n6_; clear ho hb hg hat))
             go_roundg k3
             case measure => have := HJ2.out; have := HK2.out; have := HK3.out; omega
             case rel => exact ⟨(t528), (y534), (wrap64 (x15_3 + 1)), (by first | rfl | (simp; done) | (simp [*]; done) | (simp; exact (by decide : ∀ a_ b_ : Bool, (a_ == b_) = (!a_ != b_)) _ _)), H', ⟨by have := HJ2.out; have := HK2.out; have := HK3.out; omega⟩, ⟨by (with_reducible repeat (first | apply Kd.R_alloc | apply Kd.R_drewN | apply Kd.R_drew)); exact Kd.R_mono HO_5.out (fun _ hk => hk.2)⟩, ⟨by (with_reducible repeat (first | apply Kd.S_alloc | apply Kd.S_drewN | apply Kd.S_drew)); exact Kd.S_mono HO_6.out (fun _ hk => ⟨hk.1.1, hk.2⟩)⟩, ⟨by (with_reducible repeat (first | apply Kd.R_alloc | apply Kd.R_drewN | apply Kd.R_drew)); exact Kd.R_mono HO533.out (fun _ hk => trivial)⟩, ⟨by (with_reducible repeat (first | apply Kd.R_alloc | apply Kd.R_drewN | apply Kd.R_drew)); exact Kd.R_mono HO536.out (fun _ hk => hk.1)⟩, ⟨by repeat (first | (with_reducible first | exact HB.out | apply bal | apply bdN | apply bdo) | exact HB.out)⟩⟩
            ·
             rw [if_neg c45] at H
             exact absurd H (by simp)
           ·
            rw [if_neg c44] at H
            exact absurd H (by simp)
          ·
           rw [if_neg c42] at H
           have c42b0 : decide (x15_3 < (t508.length : Int)) = false := decide_eq_false c42
           clear c42
           by_cases c50 : (x8_3.length : Int) = 0
           ·
            rw [if_pos c50] at H
            have c50b0 : ((x8_3.length : Int) == 0) = true := beq_iff_eq.mpr c50
            have c50b1 : ((x8_3.length : Int) != 0) = false := bne_eq_false_iff_eq.mpr c50
            clear c50
            replace H := obm H
            obtain ⟨t537, A510, H⟩ := H
            replace H : (some t537) = some r := H
            have A51 := aS A510
            clear A510
            obtain rfl := Option.some.inj H
            obtain ⟨Ao52, co52, eo52⟩ := Kd.R_slice HO_8.out
            subst eo52
            obtain ⟨Ao53, co53, eo53⟩ := Kd.R_slice HO_9.out
            subst eo53
            go_wp2_with (first | (go_at_call 14; (with_reducible refine (shardlogref08_Same.calls k3 _ _ x9_3 _ _ t505 t537 _ ?side1 ?side2 ?side3 ?side4 A51.out).mono ?_); (case side1 => repeat (first | exact (Kd.R_reads' HO_9.out).2.2 | (with_reducible refine Kd.C_alloc ?_ _) | (with_reducible refine Kd.C_drewN ?_ _) | (with_reducible refine Kd.C_drew ?_))); (case side2 => exact (Kd.R_reads' HO_9.out).2.1); (case side3 => repeat (first | exact (Kd.R_reads' HO_5.out).2.2 | (with_reducible refine Kd.C_alloc ?_ _) | (with_reducible refine Kd.C_drewN ?_ _) | (with_reducible refine Kd.C_drew ?_))); (case side4 => exact (Kd.R_reads' HO_5.out).2.1); rintro e w' ⟨rfl, ⟨nd, rfl⟩⟩))
            go_ret
            exact ⟨by first | rfl | (simp [errW_none, errW_some] <;> rfl) | (simp [*, errW_none, errW_some] <;> rfl), by repeat (first | (with_reducible first | exact HB.out | apply bal | apply bdN | apply bdo) | exact HB.out)⟩
           ·
            rw [if_neg c50] at H
            exact absurd H (by simp)
    ·
     rw [if_neg c15] at H
     exact absurd H (by simp)

/-- THE ONE PURE STATEMENT of shardloglaw10_BlockBack. -/
def shardloglaw10_BlockBack.Pure : Prop := ∀ (l0 : List (S46)) (a1 : Int), (l0.length ≤ maxLen ∧ l0.length * 64 ≤ 140737488351232 ∧ ∀ y0_ ∈ l0, (y0_.f0.size ≤ 140737488351232 ∧ y0_.f1.size ≤ 140737488351232 ∧ (Lit.int .i64 y0_.f2).wf = true ∧ y0_.f3.size ≤ 140737488351232 ∧ True)) → (Lit.int .u8 a1).wf = true → ∃ k, shardloglaw10_BlockBack.f k l0 a1 = some true
theorem shardloglaw10_BlockBack.walk (P : shardloglaw10_BlockBack.Pure) (A0 : Option Addr) (c0 : Nat) (l0 : List (S46)) (a1 : Int) (w : World) (wf0 : (l0.length ≤ maxLen ∧ l0.length * 64 ≤ 140737488351232 ∧ ∀ y0_ ∈ l0, (y0_.f0.size ≤ 140737488351232 ∧ y0_.f1.size ≤ 140737488351232 ∧ (Lit.int .i64 y0_.f2).wf = true ∧ y0_.f3.size ≤ 140737488351232 ∧ True))) (hr0 : Kd.C k46 w A0 l0.length l0) (hc0 : l0.length ≤ c0) (wf1 : (Lit.int .u8 a1).wf = true) :
  Calls Try.prog 6 #[.slice A0 l0.length c0, .int .u8 a1] w fun e w' => e = .returned (.bool true) ∧ Below w.heap.size w w' := by
 obtain ⟨k, h⟩ := P l0 a1 wf0 wf1
 refine (shardloglaw10_BlockBack.calls k A0 c0 l0 a1 true w hr0 hc0 h).mono ?_
 rintro e w' ⟨rfl, hd⟩
 exact ⟨rfl, hd⟩

end Go.Proofs.Ytclmooadpoojeaa.X
