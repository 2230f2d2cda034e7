-- written by a program of this session's, over the kit's print
import Derived.Test.YtinhpolmanccgaaXx0
import Derived.Test.YtinhpolmanccgaaXx12
namespace Go.Proofs.Ytinhpolmanccgaa.X
open Go.RowKit Go.Proofs.YtinhpolmanccgaaW.PrintWords Go.Proofs.YtinhpolmanccgaaW.PrintLast Go.Proofs.YtinhpolmanccgaaW.PrintMore
attribute [local go_sem] max2_int min2_int max_two min_two max_three min_three max_four min_four gtr_str   -- for this text's walks alone
set_option linter.unusedVariables false
set_option linter.unusedSimpArgs false

/-! ### shardlogref08_Sort: function 11 -/
def shardlogref08_Sort.l0 : Nat → List (S42) → List (S42) → Int → Option ((List (S42)))
 | 0, _, _, _ => none
 | k + 1, x0, x3, x4 => if x4 < (x0.length : Int) then (if 0 ≤ x4 then ((shardlogref08_Put1.f k x3 ((rd_T42 x0 x4).f0) ((rd_T42 x0 x4).f1) ((rd_T42 x0 x4).f2) ((rd_T42 x0 x4).f3) ((rd_T42 x0 x4).f4)).bind fun t559 => (shardlogref08_Sort.l0 k x0 t559 (wrap64 (x4 + 1)))) else (none)) else (some x3)
def shardlogref08_Sort.f (k : Nat) (l0 : List (S42)) : Option ((List (S42))) := shardlogref08_Sort.l0 k l0 ([] : List (S42)) 0
theorem shardlogref08_Sort.mono_l : ∀ k, (∀ y0 y1 y2, LeO (shardlogref08_Sort.l0 k y0 y1 y2) (shardlogref08_Sort.l0 (k + 1) y0 y1 y2))
 | 0 => fun _ _ _ r h => by simp [shardlogref08_Sort.l0] at h
 | k + 1 => by
  have ih0 := shardlogref08_Sort.mono_l k
  ·
   intro y0 y1 y2
   unfold shardlogref08_Sort.l0
   have m0 := @shardlogref08_Put1.mono; exact lmo
theorem shardlogref08_Sort.mono : ∀ a0 k, LeO (shardlogref08_Sort.f k a0) (shardlogref08_Sort.f (k + 1) a0) := by
 intro a0 k
 have ih0 := shardlogref08_Sort.mono_l k
 unfold shardlogref08_Sort.f
 have m0 := @shardlogref08_Put1.mono; exact lmo
set_option maxHeartbeats 8000000 in
set_option maxRecDepth 100000 in
theorem shardlogref08_Sort.calls (k : Nat) (A0 : Option Addr) (c0 : Nat) (l0 : List (S42)) (r : List (S42)) (w : World) (hr0 : Kd.C k42 w A0 l0.length l0) (hc0 : l0.length ≤ c0) (h : shardlogref08_Sort.f k l0 = some r) :
  Calls Try.prog 11 #[.slice A0 l0.length c0] w fun e w' => ∃ v0_ : Value, e = .returned (v0_) ∧ Kd.R k42 42 w' w.heap.size (fun _ => True) v0_ r ∧ Below w.heap.size w w' := by
 have hu42 := Try.underlying42; have HR0 := aS hr0; have HC0 := aS hc0; clear hr0 hc0; have HB := aS (Below.refl w.heap.size w); have H : (shardlogref08_Sort.l0 k l0 ([] : List (S42)) 0) = some r := h; clear h
 have H' := aS H
 clear H
 go_enter Try.func11, Try.ntmps11
 go_wp2
 go_loopg [3, 4] k (fun kq v3 v4 w' => ∃ (x3_1 : List (S42)) (x4_1 : Int), v4 = .int .i64 x4_1 ∧ Aside0 (shardlogref08_Sort.l0 kq l0 x3_1 x4_1 = some r) ∧ Aside0 (kq ≤ k) ∧ Aside0 (Kd.R k42 42 w' w.heap.size (fun _ => True) v3 x3_1) ∧ Aside0 (Below w.heap.size w w'))
 case atStart => exact ⟨(([] : List (S42))), (0), srf, H', ⟨Nat.le_refl _⟩, ⟨by first | exact Kd.R_nil _ _ _ _ _ | exact Kd.N_nil _ _ _ _ _ | exact Kd.V_nil _ _ _ _ _ | exact Kd.Q_nil _ _ _ _ _ | exact Kd.S_nil _ _ _ _ _⟩, ⟨bel⟩⟩
 case round =>
  clear H'; obtain ⟨x3_1, x4_1, rfl, HA, HK1, HO_3, HB⟩ := hrel
  cases gk with
  | zero => exact absurd HA.out (by simp [shardlogref08_Sort.l0])
  | succ k1 =>
   have H := HA.out; clear HA
   simp only [shardlogref08_Sort.l0] at H
   by_cases c2 : x4_1 < (l0.length : Int)
   ·
    rw [if_pos c2] at H; have c2b0 : decide (x4_1 < (l0.length : Int)) = true := decide_eq_true c2; clear c2
    by_cases c3 : 0 ≤ x4_1
    ·
     rw [if_pos c3] at H; have c3b0 : decide (0 ≤ x4_1) = true := decide_eq_true c3; clear c3; replace H := obm H; obtain ⟨t559, A40, H⟩ := H; have A4 := aS A40; clear A40
     have H' := aS H
     clear H; have p558 : 0 ≤ (x4_1 : Int) := oda; have q558 : x4_1 < (l0.length : Int) := oda; obtain ⟨ad558, e558, hx558_0, hx558_1, hx558_2, hx558_3, hx558_4⟩ := at_T42 HR0.out x4_1 p558 q558; cases e558; replace hx558_0 := bx bel hx558_0; replace hx558_1 := bx bel hx558_1; replace hx558_2 := bx bel hx558_2; replace hx558_3 := bx bel hx558_3; replace hx558_4 := bx bel hx558_4; replace p558 := eq_true p558; replace q558 := eq_true q558; obtain ⟨Ao5, co5, eo5⟩ := Kd.R_slice HO_3.out; subst eo5
     go_wp2_with (first | ((with_reducible refine gate_callee (f := 28) rfl ?_); refine goesL_ (some 16) rfl rfl Try.func28 (by kernel_rfl) rfl #[.slice Ao5 x3_1.length co5, .agg #[.string ((rd_T42 l0 x4_1).f0), .string ((rd_T42 l0 x4_1).f1), .int .i64 ((rd_T42 l0 x4_1).f2), .string ((rd_T42 l0 x4_1).f3), .bool ((rd_T42 l0 x4_1).f4)]] rfl agn ?_; (with_reducible refine (shardlogref08_Put1.calls k1 _ _ x3_1 ((rd_T42 l0 x4_1).f0) ((rd_T42 l0 x4_1).f1) ((rd_T42 l0 x4_1).f2) ((rd_T42 l0 x4_1).f3) ((rd_T42 l0 x4_1).f4) t559 _ ?side1 ?side2 A4.out).mono ?_); (case side1 => exact cel ((Kd.R_reads' HO_3.out).2.2)); (case side2 => exact (Kd.R_reads' HO_3.out).2.1); rintro e w6 ⟨v560, rfl, ho0, hb⟩; refine ⟨_, rfl, ?_⟩; have HO561 := aS (Kd.R_lower (Kd.R_new' ho0 (Kd.R_lt (rel HO_3.out))) (below_size bel)); replace HO_3 := aS (Kd.R_elder' (rel HO_3.out) (ebs ho0) hb); replace HB := bstep hb; (try clear hb); (try clear hk); (try clear hi); (try clear ho0)))
     go_roundg k1
     case measure => have := HK1.out; omega
     case rel => exact ⟨(t559), (wrap64 (x4_1 + 1)), srf, H', ⟨by have := HK1.out; omega⟩, ⟨by (with_reducible repeat (first | apply Kd.R_alloc | apply Kd.R_drewN | apply Kd.R_drew)); exact Kd.R_mono HO561.out (fun _ hk => trivial)⟩, ⟨bel⟩⟩
    ·
     rw [if_neg c3] at H; exact absurd H (by simp)
   ·
    rw [if_neg c2] at H; have c2b0 : decide (x4_1 < (l0.length : Int)) = false := decide_eq_false c2; clear c2
    obtain rfl := Option.some.inj H
    go_wp2
    go_ret
    exact ⟨_, rf3, by (with_reducible repeat (first | apply Kd.R_alloc | apply Kd.R_drewN | apply Kd.R_drew)); exact HO_3.out, bel⟩

/-! ### shardlogref01_Num: function 33 -/
def shardlogref01_Num.f (a0 : Int) : Option (List Int) := if a0 < 0 then (some ([] : List Int)) else (if a0 > 4294967295 then (some ([] : List Int)) else (some (([(wrap64 (Int.tdiv a0 16777216)) % 256, (Int.tmod (wrap64 (Int.tdiv a0 65536)) 256) % 256, (Int.tmod (wrap64 (Int.tdiv a0 256)) 256) % 256, (Int.tmod a0 256) % 256] : List Int))))
set_option maxHeartbeats 8000000 in
set_option maxRecDepth 100000 in
theorem shardlogref01_Num.calls (a0 : Int) (r : List Int) (w : World) (h : shardlogref01_Num.f a0 = some r) :
  Calls Try.prog 33 #[.int .i64 a0] w fun e w' => ∃ v0_ : Value, e = .returned (v0_) ∧ Kd.R (Kd.int .u8) 5 w' w.heap.size (fun _ => True) v0_ r ∧ Below w.heap.size w w' := by
 have HB := aS (Below.refl w.heap.size w); have H : (if a0 < 0 then (some ([] : List Int)) else (if a0 > 4294967295 then (some ([] : List Int)) else (some (([(wrap64 (Int.tdiv a0 16777216)) % 256, (Int.tmod (wrap64 (Int.tdiv a0 65536)) 256) % 256, (Int.tmod (wrap64 (Int.tdiv a0 256)) 256) % 256, (Int.tmod a0 256) % 256] : List Int))))) = some r := h; clear h
 by_cases c2 : a0 < 0
 ·
  rw [if_pos c2] at H; have c2b0 : decide (a0 < 0) = true := decide_eq_true c2; clear c2
  obtain rfl := Option.some.inj H
  go_enter Try.func33, Try.ntmps33
  go_wp2
  go_ret
  exact ⟨_, rf3, by first | exact Kd.R_nil _ _ _ _ _ | exact Kd.N_nil _ _ _ _ _ | exact Kd.V_nil _ _ _ _ _ | exact Kd.Q_nil _ _ _ _ _ | exact Kd.S_nil _ _ _ _ _, bel⟩
 ·
  rw [if_neg c2] at H; have c2b0 : decide (a0 < 0) = false := decide_eq_false c2; clear c2
  by_cases c3 : a0 > 4294967295
  ·
   rw [if_pos c3] at H; have c3b0 : decide (4294967295 < a0) = true := decide_eq_true c3; clear c3
   obtain rfl := Option.some.inj H
   go_enter Try.func33, Try.ntmps33
   go_wp2
   go_ret
   exact ⟨_, rf3, by first | exact Kd.R_nil _ _ _ _ _ | exact Kd.N_nil _ _ _ _ _ | exact Kd.V_nil _ _ _ _ _ | exact Kd.Q_nil _ _ _ _ _ | exact Kd.S_nil _ _ _ _ _, bel⟩
  ·
   rw [if_neg c3] at H; have c3b0 : decide (4294967295 < a0) = false := decide_eq_false c3; clear c3
   obtain ⟨y562, hy562⟩ : ∃ y_ : List Int, y_ = (([(wrap64 (Int.tdiv a0 16777216)) % 256, (Int.tmod (wrap64 (Int.tdiv a0 65536)) 256) % 256, (Int.tmod (wrap64 (Int.tdiv a0 256)) 256) % 256, (Int.tmod a0 256) % 256] : List Int)) := ⟨_, rfl⟩
   replace H : (some y562) = some r := hyr hy562 H; have Ny562 := aS hy562; clear hy562
   obtain rfl := Option.some.inj H
   go_enter Try.func33, Try.ntmps33
   go_wp2_with (first | ((with_reducible refine gate_dst (N := 23) rfl ?_); refine Kd.R_lit (Kd.int .u8) _ 5 ?hg (N := 23) ?hd (xs := ([(wrap64 (Int.tdiv a0 16777216)) % 256, (Int.tmod (wrap64 (Int.tdiv a0 65536)) 256) % 256, (Int.tmod (wrap64 (Int.tdiv a0 256)) 256) % 256, (Int.tmod a0 256) % 256] : List Int)) (inner := [.int .u8 ((wrap64 (Int.tdiv a0 16777216)) % 256), .int .u8 ((Int.tmod (wrap64 (Int.tdiv a0 65536)) 256) % 256), .int .u8 ((Int.tmod (wrap64 (Int.tdiv a0 256)) 256) % 256), .int .u8 ((Int.tmod a0 256) % 256)]) (ok := fun _ => True) (okp := fun _ => True) ?hr ?hp (fun _ hk => hk) trivial (Below.refl _ _) (Nat.le_refl _) (by simp) ?_; (case hd => rfl); (case hg => rfl); (case hr => first | (go_simp; done) | (go_simp; rfl)); (case hp => exact (Reps.one (show Kd.M (Kd.int .u8) _ _ _ ((wrap64 (Int.tdiv a0 16777216)) % 256) [.int .u8 ((wrap64 (Int.tdiv a0 16777216)) % 256)] from rfl) (Reps.one (show Kd.M (Kd.int .u8) _ _ _ ((Int.tmod (wrap64 (Int.tdiv a0 65536)) 256) % 256) [.int .u8 ((Int.tmod (wrap64 (Int.tdiv a0 65536)) 256) % 256)] from rfl) (Reps.one (show Kd.M (Kd.int .u8) _ _ _ ((Int.tmod (wrap64 (Int.tdiv a0 256)) 256) % 256) [.int .u8 ((Int.tmod (wrap64 (Int.tdiv a0 256)) 256) % 256)] from rfl) (Reps.one (show Kd.M (Kd.int .u8) _ _ _ ((Int.tmod a0 256) % 256) [.int .u8 ((Int.tmod a0 256) % 256)] from rfl) (Reps.none _ _)))))); intro v563 w4 ho5 hb hg_ hnew_; clear hg_ hnew_; (first | rw [← Ny562.out] at ho5 | (simp only [Int.reduceToNat] at ho5; rw [← Ny562.out] at ho5)); have HO564 := aS (Kd.R_lower ho5 (below_size bel)); replace HB := bstep hb; clear hb ho5))
   go_ret
   exact ⟨_, rf3, by (with_reducible repeat (first | apply Kd.R_alloc | apply Kd.R_drewN | apply Kd.R_drew)); exact HO564.out, bel⟩

/-! ### shardlogref01_Text: function 37 -/
def shardlogref01_Text.f (a0 : ByteArray) : Option (List Int) := (shardlogref01_Num.f (a0.size : Int)).bind fun t565 => (if a0.size ≤ 9223372036854775807 then ((some (bytesOf a0 : List Int)).bind fun y568 => (if t565.length + y568.length < 140737488355328 then (some (t565 ++ y568)) else (none))) else (none))
set_option maxHeartbeats 8000000 in
set_option maxRecDepth 100000 in
theorem shardlogref01_Text.calls (a0 : ByteArray) (r : List Int) (w : World) (h : shardlogref01_Text.f a0 = some r) :
  Calls Try.prog 37 #[.string a0] w fun e w' => ∃ v0_ : Value, e = .returned (v0_) ∧ Kd.R (Kd.int .u8) 5 w' w.heap.size (fun _ => True) v0_ r ∧ Below w.heap.size w w' := by
 have HB := aS (Below.refl w.heap.size w); have H : ((shardlogref01_Num.f (a0.size : Int)).bind fun t565 => (if a0.size ≤ 9223372036854775807 then ((some (bytesOf a0 : List Int)).bind fun y568 => (if t565.length + y568.length < 140737488355328 then (some (t565 ++ y568)) else (none))) else (none))) = some r := h; clear h; replace H := obm H; obtain ⟨t565, A20, H⟩ := H; have A2 := aS A20; clear A20
 by_cases c3 : a0.size ≤ 9223372036854775807
 ·
  rw [if_pos c3] at H; have c3b0 := eq_true c3; have c3b1 : decide (a0.size ≤ 9223372036854775807) = true := decide_eq_true c3
  try have c3b2 : (9223372036854775807 < a0.size) = False := eq_false (Nat.not_lt.2 c3)
  clear c3
  obtain ⟨y568, hy568⟩ : ∃ y_ : List Int, y_ = (bytesOf a0) := ⟨_, rfl⟩
  (first | replace H := hyn hy568 H | rw [← hy568] at H); have Ny568 := aS hy568; clear hy568
  by_cases c4 : t565.length + y568.length < 140737488355328
  ·
   rw [if_pos c4] at H; have LMc4 := aS c4; clear c4
   obtain ⟨y571, hy571⟩ : ∃ y_ : List Int, y_ = (t565 ++ y568) := ⟨_, rfl⟩
   replace H : (some y571) = some r := hyr hy571 H; have Ny571 := aS hy571; clear hy571
   obtain rfl := Option.some.inj H
   go_enter Try.func37, Try.ntmps37
   go_wp2_with (first | ((with_reducible refine gate_callee (f := 33) rfl ?_); refine goesL_ (some 5) rfl rfl Try.func33 (by kernel_rfl) rfl #[.int .i64 (a0.size : Int)] rfl agn ?_; (with_reducible refine (shardlogref01_Num.calls (a0.size : Int) t565 _ A2.out).mono ?_); rintro e w5 ⟨v566, rfl, ho0, hb⟩; refine ⟨_, rfl, ?_⟩; have HO567 := aS (Kd.R_lower ho0 (below_size bel)); replace HB := bstep hb; (try clear hb); (try clear hk); (try clear hi); (try clear ho0)) | ((with_reducible refine gate_dst (N := 7) rfl ?_); refine Kd.V_bytes rfl (N := 7) rfl 9 26 5 _ a0 rfl rfl Try.underlying9 Try.underlying26 Try.underlying5 (oda) ?_; intro v569 w6 ho7 hb; rw [← Ny568.out] at ho7; have HO570 := aS (Kd.V_lower (Kd.V_mono (ok' := fun k_ => some k_ ≠ (v566 : Value).ownBlock) ho7 (fun k_ hk_ => (Kd.fresh' (Kd.R_lt (rel HO567.out)) k_ hk_))) (below_size bel)); replace HO567 := aS (Kd.R_below (rel HO567.out) hb); replace HB := bstep hb; clear hb ho7; obtain ⟨Ao9, co9, eo9⟩ := Kd.V_slice HO570.out; subst eo9) | ((with_reducible refine gate_builtin (b := .append) (xs := #[.tmp 5, .tmp 7]) rfl ?_); at_builtin; refine Kd.R_append_rows (Kd.int .u8) (w0 := w) w.heap.size rfl (.tmp 5) (.tmp 7) 26 5 (.int .u8 0) 1 rfl Try.underlying26 info5 rfl (by decide) (by omega) v566 t565 y568 _ _ _ (fun _ => True) (fun _ => False) rfl rfl ?aO ?aR (fun _ _ h => h) (fun _ h => h.elim) ?aF ?aB ?aS ?aL ?_; (case aR => exact cel ((Kd.V_reads' HO570.out).2.2)); (case aB => exact bel); (case aF => exact (fun _ _ => trivial)); (case aO => exact (rel HO567.out)); (case aS => exact (below_size bel)); (case aL => have := LMc4.out; omega); intro v572 w8 ho hb hg hat; rw [← Ny571.out] at ho; have n0_ := aS (Kd.V_afterv (ok := (fun _ => True)) (by (with_reducible repeat (first | apply Kd.V_alloc | apply Kd.V_drewN | apply Kd.V_drew)); exact Kd.V_mono HO570.out (fun _ hk => ⟨trivial, hk⟩)) hg hat); have n1_ := aS (hb); have n2_ := aS (ho); clear HO570; clear HB; clear HO567; have HO570 := n0_; have HB := n1_; have HO573 := n2_; clear n0_ n1_ n2_; clear ho hb hg hat))
   go_ret
   exact ⟨_, rf3, by (with_reducible repeat (first | apply Kd.R_alloc | apply Kd.R_drewN | apply Kd.R_drew)); exact HO573.out, bel⟩
  ·
   rw [if_neg c4] at H; exact absurd H (by simp)
 ·
  rw [if_neg c3] at H; exact absurd H (by simp)

/-! ### shardlogref08_Put: function 34 -/
mutual
def shardlogref08_Put.j0 : Nat → List Int → ByteArray → ByteArray → Int → ByteArray → Bool → Option (List Int)
 | 0, _, _, _, _, _, _ => none
 | k + 1, x3, x575000, x575001, x575002, x575003, x575004 => (shardlogref01_Num.f x575002).bind fun t584 => (if x3.length + t584.length < 140737488355328 then (shardlogref08_Put.j1 k (x3 ++ t584) x575000 x575001 x575002 x575003 x575004) else (none))
def shardlogref08_Put.j1 : Nat → List Int → ByteArray → ByteArray → Int → ByteArray → Bool → Option (List Int)
 | 0, _, _, _, _, _, _ => none
 | k + 1, x3, x575000, x575001, x575002, x575003, x575004 => if x575004 = true then (if x3.length < 140737488355328 then ((some (x3 ++ [1] : List Int)).bind fun y590 => ((shardlogref01_Text.f x575003).bind fun t593 => (if y590.length + t593.length < 140737488355328 then (some (y590 ++ t593)) else (none)))) else (none)) else (if x3.length < 140737488355328 then ((some (x3 ++ [0] : List Int)).bind fun y599 => ((shardlogref01_Text.f x575003).bind fun t602 => (if y599.length + t602.length < 140737488355328 then (some (y599 ++ t602)) else (none)))) else (none))
end
def shardlogref08_Put.f (k : Nat) (a0_0 : ByteArray) (a0_1 : ByteArray) (a0_2 : Int) (a0_3 : ByteArray) (a0_4 : Bool) : Option (List Int) := (shardlogref01_Text.f a0_0).bind fun t575 => ((shardlogref01_Text.f a0_1).bind fun t578 => (if t575.length + t578.length < 140737488355328 then (shardlogref08_Put.j0 k (t575 ++ t578) a0_0 a0_1 a0_2 a0_3 a0_4) else (none)))
theorem shardlogref08_Put.mono_l : ∀ k, (∀ y0 y1 y2 y3 y4 y5, LeO (shardlogref08_Put.j0 k y0 y1 y2 y3 y4 y5) (shardlogref08_Put.j0 (k + 1) y0 y1 y2 y3 y4 y5)) ∧ (∀ y0 y1 y2 y3 y4 y5, LeO (shardlogref08_Put.j1 k y0 y1 y2 y3 y4 y5) (shardlogref08_Put.j1 (k + 1) y0 y1 y2 y3 y4 y5))
 | 0 => ⟨fun _ _ _ _ _ _ r h => by simp [shardlogref08_Put.j0] at h, fun _ _ _ _ _ _ r h => by simp [shardlogref08_Put.j1] at h⟩
 | k + 1 => by
  obtain ⟨ih0, ih1⟩ := shardlogref08_Put.mono_l k; refine ⟨?_, ?_⟩
  ·
   intro y0 y1 y2 y3 y4 y5
   unfold shardlogref08_Put.j0
   exact lmo
  ·
   intro y0 y1 y2 y3 y4 y5
   unfold shardlogref08_Put.j1
   exact lmo
theorem shardlogref08_Put.mono : ∀ a0 a1 a2 a3 a4 k, LeO (shardlogref08_Put.f k a0 a1 a2 a3 a4) (shardlogref08_Put.f (k + 1) a0 a1 a2 a3 a4) := by
 intro a0 a1 a2 a3 a4 k
 obtain ⟨ih0, ih1⟩ := shardlogref08_Put.mono_l k
 unfold shardlogref08_Put.f
 exact lmo
def shardlogref08_Put.T1 : Bool × List (List Nat × List Nat) := (true, [([], []), ([0], [0]), ([1], [1]), ([], []), ([3], [3]), ([4, 2], [4]), ([2, 5, 5], [2, 5]), ([6, 6, 0, 1, 2, 3, 4, 5, 6], [6])])
def shardlogref08_Put.B1 : List Nat := [0, 1, 3, 0, 8, 31, 63, 127]
theorem shardlogref08_Put.tab1 : rtab .any (opsOf Try.f34 1) = shardlogref08_Put.T1 := by kernel_rfl
theorem shardlogref08_Put.bits1 : waitsOk shardlogref08_Put.T1.2 shardlogref08_Put.B1 = true := by kernel_rfl
set_option maxHeartbeats 8000000 in
set_option maxRecDepth 100000 in
theorem shardlogref08_Put.calls (k : Nat) (a0_0 : ByteArray) (a0_1 : ByteArray) (a0_2 : Int) (a0_3 : ByteArray) (a0_4 : Bool) (r : List Int) (w : World) (h : shardlogref08_Put.f k a0_0 a0_1 a0_2 a0_3 a0_4 = some r) :
  Calls Try.prog 34 #[.agg #[.string a0_0, .string a0_1, .int .i64 a0_2, .string a0_3, .bool a0_4]] w fun e w' => ∃ v0_ : Value, e = .returned (v0_) ∧ Kd.R (Kd.int .u8) 5 w' w.heap.size (fun _ => True) v0_ r ∧ Below w.heap.size w w' := by
 have hu42 := Try.underlying42; have HB := aS (Below.refl w.heap.size w); have H : ((shardlogref01_Text.f a0_0).bind fun t575 => ((shardlogref01_Text.f a0_1).bind fun t578 => (if t575.length + t578.length < 140737488355328 then (shardlogref08_Put.j0 k (t575 ++ t578) a0_0 a0_1 a0_2 a0_3 a0_4) else (none)))) = some r := h; clear h; have HC2 := aS H; clear H
 go_enter Try.func34, Try.ntmps34
 go_upto_region 1 with (first | ((with_reducible refine gate_dst (N := 1) rfl ?_); refine box_event ?hg (N := 1) ?hd (cs := #[.string a0_0, .string a0_1, .int .i64 a0_2, .string a0_3, .bool a0_4]) (t := 42) ?hr ?_; (case hd => rfl); (case hg => rfl); (case hr => first | (go_simp; done) | (go_simp; rfl)); intro gb574 hg w3 hbox hb; have BK574 := aS (hbox); have GW574 := bsize hg; have GE574 := bsize hg; replace HB := bstep hb; clear hb hbox hg))
 (try simp only [Act.put, lsa, lsz, lss])
 go_cut [3] (fun v3 wc => ∃ (kq : Nat) (x3_1 : List Int), Aside0 (shardlogref08_Put.j0 kq x3_1 a0_0 a0_1 a0_2 a0_3 a0_4 = some r) ∧ Aside0 (kq ≤ k) ∧ Aside0 (Kd.R (Kd.int .u8) 5 wc w.heap.size (fun _ => True) v3 x3_1) ∧ Aside0 (wc.heap[gb574]? = some (.cells #[.string a0_0, .string a0_1, .int .i64 a0_2, .string a0_3, .bool a0_4] 42 (0, 0))) ∧ Aside0 (Below w.heap.size w wc))
 case first =>
  have H := HC2.out; clear HC2; replace H := obm H; obtain ⟨t575, A40, H⟩ := H; have A4 := aS A40; clear A40; replace H := obm H; obtain ⟨t578, A50, H⟩ := H; have A5 := aS A50; clear A50
  by_cases c6 : t575.length + t578.length < 140737488355328
  ·
   rw [if_pos c6] at H; have LMc6 := aS c6; clear c6
   obtain ⟨y581, hy581⟩ : ∃ y_ : List Int, y_ = (t575 ++ t578) := ⟨_, rfl⟩
   (first | replace H := hyn hy581 H | rw [← hy581] at H); have Ny581 := aS hy581; clear hy581
   have H' := aS H
   clear H
   try go_wp2
   replace BK574 := aS (blk_drew BK574.out); replace HB := aS (bdo HB.out); refine start_ (n := 8) (S := fun w' => w'.cell? ⟨gb574, 0, none⟩ = some (.string a0_0) ∧ w'.cell? ⟨gb574, 1, none⟩ = some (.string a0_1) ∧ w'.cell? ⟨gb574, 2, none⟩ = some (.int .i64 a0_2) ∧ w'.cell? ⟨gb574, 3, none⟩ = some (.string a0_3) ∧ w'.cell? ⟨gb574, 4, none⟩ = some (.bool a0_4)) (ds := []) (bA 8 0) (by kernel_rfl) rfl rfl ⟨bc BK574 0, bc BK574 1, bc BK574 2, bc BK574 3, bc BK574 4⟩ (fun hHeld => ?_); refine with_tabW shardlogref08_Put.tab1 shardlogref08_Put.bits1 (fun HT_ HW_ => ?_)
   generalize w3.drew = w7 at BK574 HB hHeld ⊢
   refine along_ [(0, 4), (3, 7), (1, 5), (4, 8)] ?_
   iterate 4 (first | (refine pure3 HT_ ?_) | (refine take3 HT_ HW_ hHeld ?_))
   refine lay_ (bA 8 27) (by kernel_rfl) ?_; refine one3 2 (N := some 6) (bA 8 31) HT_ (fun K hK => ?_); refine goes_ Try.func37 (by kernel_rfl) rfl #[.string a0_0] (by rfl) rfl rfl agn ?_
   with_reducible refine (shardlogref01_Text.calls a0_0 t575 _ A4.out).mono ?_
   rintro e w8 ⟨v576, rfl, ho0, hb⟩
   refine ⟨_, rfl, ?_⟩; have HO577 := aS (Kd.R_lower ho0 (below_size bel)); replace BK574 := bbl BK574 hb; replace HB := bstep hb; (try clear hb); (try clear hk); (try clear hi); (try clear ho0); refine hK.out _ _ ⟨bc BK574 0, bc BK574 1, bc BK574 2, bc BK574 3, bc BK574 4⟩ (fun hHeld => ?_); clear hK K; refine nm 6 ?_; refine one3 5 (N := some 9) (bA 8 63) HT_ (fun K hK => ?_); refine goes_ Try.func37 (by kernel_rfl) rfl #[.string a0_1] (by rfl) rfl rfl agn ?_
   with_reducible refine (shardlogref01_Text.calls a0_1 t578 _ A5.out).mono ?_
   rintro e w9 ⟨v579, rfl, ho0, hb⟩
   refine ⟨_, rfl, ?_⟩; have HO580 := aS (Kd.R_lower (Kd.R_new' ho0 (Kd.R_lt (rel HO577.out))) (below_size bel)); replace HO577 := aS (Kd.R_elder' (rel HO577.out) (ebs ho0) hb); replace BK574 := bbl BK574 hb; replace HB := bstep hb; (try clear hb); (try clear hk); (try clear hi); (try clear ho0); obtain ⟨Ao11, co11, eo11⟩ := Kd.R_slice HO580.out
   (first | subst eo11 | (injection eo11 with f1_ f2_ f3_; have f4_ := f1_.symm; have f5_ := f3_.symm; clear f1_ f2_ f3_; subst f4_; subst f5_))
   refine hK.out _ _ ⟨bc BK574 0, bc BK574 1, bc BK574 2, bc BK574 3, bc BK574 4⟩ (fun hHeld => ?_); clear hK K; refine nm 9 ?_; refine one3 6 (N := some 10) (bA 8 127) HT_ (fun K hK => ?_); refine Kd.R_append_rows_step (Kd.int .u8) (w0 := w) w.heap.size (by rfl) (.tmp 6) (.tmp 9) 26 5 (.int .u8 0) 1 rfl Try.underlying26 info5 rfl (by decide) (by omega) v576 t575 t578 _ _ _ (fun k_ => some k_ ≠ (.slice Ao11 t578.length co11 : Value).ownBlock) (fun _ => False) rfl rfl ?aO ?aR (fun _ _ h => h) (fun _ h => h.elim) ?aF ?aB ?aS ?aL ?_
   (case aR => exact cel ((Kd.R_reads' HO580.out).2.2))
   (case aB => exact bel)
   (case aF => exact (fun k_ hk => Kd.fresh' (Kd.R_lt (rel HO580.out)) k_ hk))
   (case aO => exact (rel (Kd.R_mono HO577.out (fun _ hk => hk.2))))
   (case aS => exact (below_size bel))
   (case aL => have := LMc6.out; omega)
   intro v582 w10 ho hb hg hat
   rw [← Ny581.out] at ho; have n0_ := aS (blk_grown (g := gb574) (o := .cells #[.string a0_0, .string a0_1, .int .i64 a0_2, .string a0_3, .bool a0_4] 42 (0, 0)) (bkl BK574.out) hg (Kd.R_ne HO577.out BK574.out (by decide))); have n1_ := aS (Kd.R_after (ok := (fun _ => True)) (rel HO580.out) hg hat); have n2_ := aS (hb); have n3_ := aS (ho); clear BK574; clear HO580; clear HB; clear HO577; have BK574 := n0_; have HO580 := n1_; have HB := n2_; have HO583 := n3_; clear n0_ n1_ n2_ n3_; clear ho hb hg hat; refine hK.out _ _ ⟨bc BK574 0, bc BK574 1, bc BK574 2, bc BK574 3, bc BK574 4⟩ (fun hHeld => ?_); clear hK K; refine nm 10 ?_; refine pure_ (i := 7) (N := some 3) (v := ?_) (a' := ?_) (bA 8 255) rfl rfl (any_of HT_.out (by kernel_rfl)) (fun _ _ _ h => h) (Or.inl ⟨by rfl, ?_⟩) ?_ ?_
   rotate_left
   ·
    intro w'
    go_simp
    with_reducible rfl
   rotate_left
   ·
    simp only [Act.put, lsa, lsz, lss, i64_w, i32_w]
    rfl
   refine done_ (done_of HT_.out (by kernel_rfl)) ?_
   try go_wp2
   go_meet
   case rel => exact ⟨_, (y581), H', ⟨by first | omega | exact Nat.le_refl _⟩, ⟨by (with_reducible repeat (first | apply Kd.R_alloc | apply Kd.R_drewN | apply Kd.R_drew)); exact Kd.R_mono HO583.out (fun _ hk => trivial)⟩, ⟨bkl BK574.out⟩, ⟨bel⟩⟩
  ·
   rw [if_neg c6] at H; exact absurd H (by simp)
 case rest =>
  clear HC2; obtain ⟨kq, x3_1, HA, HJ1, HO_3, BK574, HB⟩ := hcut
  cases kq with
  | zero => exact absurd HA.out (by simp [shardlogref08_Put.j0])
  | succ kj1 =>
   have H := HA.out; clear HA
   simp only [shardlogref08_Put.j0] at H
   have HC12 := aS H; clear H
   go_upto_region 2 with (fail)
   go_cut [3] (fun v3 wc => ∃ (kq : Nat) (x3_11 : List Int), Aside0 (shardlogref08_Put.j1 kq x3_11 a0_0 a0_1 a0_2 a0_3 a0_4 = some r) ∧ Aside0 (kq ≤ kj1) ∧ Aside0 (Kd.R (Kd.int .u8) 5 wc w.heap.size (fun _ => True) v3 x3_11) ∧ Aside0 (wc.heap[gb574]? = some (.cells #[.string a0_0, .string a0_1, .int .i64 a0_2, .string a0_3, .bool a0_4] 42 (0, 0))) ∧ Aside0 (Below w.heap.size w wc))
   case first =>
    have H := HC12.out; clear HC12; replace H := obm H; obtain ⟨t584, A130, H⟩ := H; have A13 := aS A130; clear A130
    by_cases c14 : x3_1.length + t584.length < 140737488355328
    ·
     rw [if_pos c14] at H; have LMc14 := aS c14; clear c14
     obtain ⟨y587, hy587⟩ : ∃ y_ : List Int, y_ = (x3_1 ++ t584) := ⟨_, rfl⟩
     (first | replace H := hyn hy587 H | rw [← hy587] at H); have Ny587 := aS hy587; clear hy587
     have H' := aS H
     clear H; have hcz15 := cK5 BK574
     go_wp2_with (first | ((with_reducible refine gate_callee (f := 33) rfl ?_); refine goesL_ (some 14) rfl rfl Try.func33 (by kernel_rfl) rfl #[.int .i64 a0_2] rfl agn ?_; (with_reducible refine (shardlogref01_Num.calls a0_2 t584 _ A13.out).mono ?_); rintro e w16 ⟨v585, rfl, ho0, hb⟩; refine ⟨_, rfl, ?_⟩; have HO586 := aS (Kd.R_lower (Kd.R_new' ho0 (Kd.R_lt (rel HO_3.out))) (below_size bel)); replace HO_3 := aS (Kd.R_elder' (rel HO_3.out) (ebs ho0) hb); replace BK574 := bbl BK574 hb; replace HB := bstep hb; (try clear hb); (try clear hk); (try clear hi); (try clear ho0); obtain ⟨Ao18, co18, eo18⟩ := Kd.R_slice HO586.out; subst eo18) | ((with_reducible refine gate_builtin (b := .append) (xs := #[.tmp 11, .tmp 14]) rfl ?_); at_builtin; refine Kd.R_append_rows (Kd.int .u8) (w0 := w) w.heap.size rfl (.tmp 11) (.tmp 14) 26 5 (.int .u8 0) 1 rfl Try.underlying26 info5 rfl (by decide) (by omega) u3 x3_1 t584 _ _ _ (fun k_ => some k_ ≠ (.slice Ao18 t584.length co18 : Value).ownBlock) (fun _ => False) rfl rfl ?aO ?aR (fun _ _ h => h) (fun _ h => h.elim) ?aF ?aB ?aS ?aL ?_; (case aR => exact cel ((Kd.R_reads' HO586.out).2.2)); (case aB => exact bel); (case aF => exact (fun k_ hk => Kd.fresh' (Kd.R_lt (rel HO586.out)) k_ hk)); (case aO => exact (rel (Kd.R_mono HO_3.out (fun _ hk => hk.2)))); (case aS => exact (below_size bel)); (case aL => have := LMc14.out; omega); intro v588 w17 ho hb hg hat; rw [← Ny587.out] at ho; have n0_ := aS (blk_grown (g := gb574) (o := .cells #[.string a0_0, .string a0_1, .int .i64 a0_2, .string a0_3, .bool a0_4] 42 (0, 0)) (bkl BK574.out) hg (Kd.R_ne HO_3.out BK574.out (by decide))); have n1_ := aS (Kd.R_after (ok := (fun _ => True)) (rel HO586.out) hg hat); have n2_ := aS (hb); have n3_ := aS (ho); clear BK574; clear HO586; clear HB; clear HO_3; have BK574 := n0_; have HO586 := n1_; have HB := n2_; have HO589 := n3_; clear n0_ n1_ n2_ n3_; clear ho hb hg hat))
     go_meet
     case rel => exact ⟨_, (y587), H', ⟨by have := HJ1.out; first | omega | exact Nat.le_refl _⟩, ⟨by (with_reducible repeat (first | apply Kd.R_alloc | apply Kd.R_drewN | apply Kd.R_drew)); exact Kd.R_mono HO589.out (fun _ hk => trivial)⟩, ⟨bkl BK574.out⟩, ⟨bel⟩⟩
    ·
     rw [if_neg c14] at H; exact absurd H (by simp)
   case rest =>
    clear HC12; obtain ⟨kq, x3_11, HA, HJ11, HO_3, BK574, HB⟩ := hcut
    cases kq with
    | zero => exact absurd HA.out (by simp [shardlogref08_Put.j1])
    | succ kj11 =>
     have H := HA.out; clear HA
     simp only [shardlogref08_Put.j1] at H
     by_cases c19 : a0_4 = true
     ·
      subst c19
      replace H := ifT H
      by_cases c20 : x3_11.length < 140737488355328
      ·
       rw [if_pos c20] at H; have LMc20 := aS c20; clear c20
       obtain ⟨y590, hy590⟩ : ∃ y_ : List Int, y_ = (x3_11 ++ [1]) := ⟨_, rfl⟩
       (first | replace H := hyn hy590 H | rw [← hy590] at H); have Ny590 := aS hy590; clear hy590; replace H := obm H; obtain ⟨t593, A210, H⟩ := H; have A21 := aS A210; clear A210
       by_cases c22 : y590.length + t593.length < 140737488355328
       ·
        rw [if_pos c22] at H; have LMc22 := aS c22; clear c22
        obtain ⟨y596, hy596⟩ : ∃ y_ : List Int, y_ = (y590 ++ t593) := ⟨_, rfl⟩
        replace H : (some y596) = some r := hyr hy596 H; have Ny596 := aS hy596; clear hy596
        obtain rfl := Option.some.inj H
        have hcz23 := cK5 BK574
        go_wp2_with (first | ((with_reducible refine gate_builtin (b := .append) (xs := #[.tmp 18, .tmp 19]) rfl ?_); at_builtin; refine Kd.R_append (Kd.int .u8) (w0 := w) w.heap.size rfl (.tmp 18) (.tmp 19) 26 5 (.int .u8 0) 1 rfl Try.underlying26 info5 rfl (by decide) (by omega) u3 x3_11 1 [.int .u8 1] (fun _ => True) (fun _ => False) rfl rfl ?aP (fun _ hk => hk.elim) ?aF ?aO ?aB ?aS ?aL ?_; (case aP => exact rfl); (case aB => exact bel); (case aF => exact (fun _ _ => trivial)); (case aO => exact (rel HO_3.out)); (case aS => exact (below_size bel)); (case aL => have := LMc20.out; omega); intro v591 w24 ho hb hg hat; rw [← Ny590.out] at ho; have n0_ := aS (blk_grown (g := gb574) (o := .cells #[.string a0_0, .string a0_1, .int .i64 a0_2, .string a0_3, .bool true] 42 (0, 0)) (bkl BK574.out) hg (Kd.R_ne HO_3.out BK574.out (by decide))); have n1_ := aS (hb); have n2_ := aS (ho); clear BK574; clear HB; clear HO_3; have BK574 := n0_; have HB := n1_; have HO592 := n2_; clear n0_ n1_ n2_; clear ho hb hg hat; have hcz25 := cK5 BK574) | ((with_reducible refine gate_callee (f := 37) rfl ?_); refine goesL_ (some 27) rfl rfl Try.func37 (by kernel_rfl) rfl #[.string a0_3] rfl agn ?_; (with_reducible refine (shardlogref01_Text.calls a0_3 t593 _ A21.out).mono ?_); rintro e w26 ⟨v594, rfl, ho0, hb⟩; refine ⟨_, rfl, ?_⟩; have HO595 := aS (Kd.R_lower (Kd.R_new' ho0 (Kd.R_lt (rel HO592.out))) (below_size bel)); replace HO592 := aS (Kd.R_elder' (rel HO592.out) (ebs ho0) hb); replace BK574 := bbl BK574 hb; replace HB := bstep hb; (try clear hb); (try clear hk); (try clear hi); (try clear ho0); obtain ⟨Ao28, co28, eo28⟩ := Kd.R_slice HO595.out; subst eo28) | ((with_reducible refine gate_builtin (b := .append) (xs := #[.tmp 24, .tmp 27]) rfl ?_); at_builtin; refine Kd.R_append_rows (Kd.int .u8) (w0 := w) w.heap.size rfl (.tmp 24) (.tmp 27) 26 5 (.int .u8 0) 1 rfl Try.underlying26 info5 rfl (by decide) (by omega) v591 y590 t593 _ _ _ (fun k_ => some k_ ≠ (.slice Ao28 t593.length co28 : Value).ownBlock) (fun _ => False) rfl rfl ?aO ?aR (fun _ _ h => h) (fun _ h => h.elim) ?aF ?aB ?aS ?aL ?_; (case aR => exact cel ((Kd.R_reads' HO595.out).2.2)); (case aB => exact bel); (case aF => exact (fun k_ hk => Kd.fresh' (Kd.R_lt (rel HO595.out)) k_ hk)); (case aO => exact (rel (Kd.R_mono HO592.out (fun _ hk => hk.2)))); (case aS => exact (below_size bel)); (case aL => have := LMc22.out; omega); intro v597 w27 ho hb hg hat; rw [← Ny596.out] at ho; have n0_ := aS (blk_grown (g := gb574) (o := .cells #[.string a0_0, .string a0_1, .int .i64 a0_2, .string a0_3, .bool true] 42 (0, 0)) (bkl BK574.out) hg (Kd.R_ne HO592.out BK574.out (by decide))); have n1_ := aS (Kd.R_after (ok := (fun _ => True)) (rel HO595.out) hg hat); have n2_ := aS (hb); have n3_ := aS (ho); clear BK574; clear HO595; clear HB; clear HO592; have BK574 := n0_; have HO595 := n1_; have HB := n2_; have HO598 := n3_; clear n0_ n1_ n2_ n3_; clear ho hb hg hat))
        go_ret
        exact ⟨_, rf3, by (with_reducible repeat (first | apply Kd.R_alloc | apply Kd.R_drewN | apply Kd.R_drew)); exact Kd.R_mono HO598.out (fun _ hk => trivial), bel⟩
       ·
        rw [if_neg c22] at H; exact absurd H (by simp)
      ·
       rw [if_neg c20] at H; exact absurd H (by simp)
     ·
      replace c19 := Bool.eq_false_iff.mpr c19; subst c19
      replace H := ifF H
      by_cases c29 : x3_11.length < 140737488355328
      ·
       rw [if_pos c29] at H; have LMc29 := aS c29; clear c29
       obtain ⟨y599, hy599⟩ : ∃ y_ : List Int, y_ = (x3_11 ++ [0]) := ⟨_, rfl⟩
       (first | replace H := hyn hy599 H | rw [← hy599] at H); have Ny599 := aS hy599; clear hy599; replace H := obm H; obtain ⟨t602, A300, H⟩ := H; have A30 := aS A300; clear A300
       by_cases c31 : y599.length + t602.length < 140737488355328
       ·
        rw [if_pos c31] at H; have LMc31 := aS c31; clear c31
        obtain ⟨y605, hy605⟩ : ∃ y_ : List Int, y_ = (y599 ++ t602) := ⟨_, rfl⟩
        replace H : (some y605) = some r := hyr hy605 H; have Ny605 := aS hy605; clear hy605
        obtain rfl := Option.some.inj H
        have hcz32 := cK5 BK574
        go_wp2_with (first | ((with_reducible refine gate_builtin (b := .append) (xs := #[.tmp 21, .tmp 22]) rfl ?_); at_builtin; refine Kd.R_append (Kd.int .u8) (w0 := w) w.heap.size rfl (.tmp 21) (.tmp 22) 26 5 (.int .u8 0) 1 rfl Try.underlying26 info5 rfl (by decide) (by omega) u3 x3_11 0 [.int .u8 0] (fun _ => True) (fun _ => False) rfl rfl ?aP (fun _ hk => hk.elim) ?aF ?aO ?aB ?aS ?aL ?_; (case aP => exact rfl); (case aB => exact bel); (case aF => exact (fun _ _ => trivial)); (case aO => exact (rel HO_3.out)); (case aS => exact (below_size bel)); (case aL => have := LMc29.out; omega); intro v600 w33 ho hb hg hat; rw [← Ny599.out] at ho; have n0_ := aS (blk_grown (g := gb574) (o := .cells #[.string a0_0, .string a0_1, .int .i64 a0_2, .string a0_3, .bool false] 42 (0, 0)) (bkl BK574.out) hg (Kd.R_ne HO_3.out BK574.out (by decide))); have n1_ := aS (hb); have n2_ := aS (ho); clear BK574; clear HB; clear HO_3; have BK574 := n0_; have HB := n1_; have HO601 := n2_; clear n0_ n1_ n2_; clear ho hb hg hat; have hcz34 := cK5 BK574) | ((with_reducible refine gate_callee (f := 37) rfl ?_); refine goesL_ (some 27) rfl rfl Try.func37 (by kernel_rfl) rfl #[.string a0_3] rfl agn ?_; (with_reducible refine (shardlogref01_Text.calls a0_3 t602 _ A30.out).mono ?_); rintro e w35 ⟨v603, rfl, ho0, hb⟩; refine ⟨_, rfl, ?_⟩; have HO604 := aS (Kd.R_lower (Kd.R_new' ho0 (Kd.R_lt (rel HO601.out))) (below_size bel)); replace HO601 := aS (Kd.R_elder' (rel HO601.out) (ebs ho0) hb); replace BK574 := bbl BK574 hb; replace HB := bstep hb; (try clear hb); (try clear hk); (try clear hi); (try clear ho0); obtain ⟨Ao37, co37, eo37⟩ := Kd.R_slice HO604.out; subst eo37) | ((with_reducible refine gate_builtin (b := .append) (xs := #[.tmp 24, .tmp 27]) rfl ?_); at_builtin; refine Kd.R_append_rows (Kd.int .u8) (w0 := w) w.heap.size rfl (.tmp 24) (.tmp 27) 26 5 (.int .u8 0) 1 rfl Try.underlying26 info5 rfl (by decide) (by omega) v600 y599 t602 _ _ _ (fun k_ => some k_ ≠ (.slice Ao37 t602.length co37 : Value).ownBlock) (fun _ => False) rfl rfl ?aO ?aR (fun _ _ h => h) (fun _ h => h.elim) ?aF ?aB ?aS ?aL ?_; (case aR => exact cel ((Kd.R_reads' HO604.out).2.2)); (case aB => exact bel); (case aF => exact (fun k_ hk => Kd.fresh' (Kd.R_lt (rel HO604.out)) k_ hk)); (case aO => exact (rel (Kd.R_mono HO601.out (fun _ hk => hk.2)))); (case aS => exact (below_size bel)); (case aL => have := LMc31.out; omega); intro v606 w36 ho hb hg hat; rw [← Ny605.out] at ho; have n0_ := aS (blk_grown (g := gb574) (o := .cells #[.string a0_0, .string a0_1, .int .i64 a0_2, .string a0_3, .bool false] 42 (0, 0)) (bkl BK574.out) hg (Kd.R_ne HO601.out BK574.out (by decide))); have n1_ := aS (Kd.R_after (ok := (fun _ => True)) (rel HO604.out) hg hat); have n2_ := aS (hb); have n3_ := aS (ho); clear BK574; clear HO604; clear HB; clear HO601; have BK574 := n0_; have HO604 := n1_; have HB := n2_; have HO607 := n3_; clear n0_ n1_ n2_ n3_; clear ho hb hg hat))
        go_ret
        exact ⟨_, rf3, by (with_reducible repeat (first | apply Kd.R_alloc | apply Kd.R_drewN | apply Kd.R_drew)); exact Kd.R_mono HO607.out (fun _ hk => trivial), bel⟩
       ·
        rw [if_neg c31] at H; exact absurd H (by simp)
      ·
       rw [if_neg c29] at H; exact absurd H (by simp)

/-! ### shardlogref10_Cut: function 20 -/
mutual
def shardlogref10_Cut.l0 : Nat → List (S42) → Int → List (List (S42)) → List (S42) → Int → Int → Option ((List (List (S42))))
 | 0, _, _, _, _, _, _ => none
 | k + 1, x0, x1, x5, x6, x7, x8 => if x8 < (x0.length : Int) then (if 0 ≤ x8 then (if x6.length < 2199023255552 then ((some (x6 ++ [(⟨(rd_T42 x0 x8).f0, (rd_T42 x0 x8).f1, (rd_T42 x0 x8).f2, (rd_T42 x0 x8).f3, (rd_T42 x0 x8).f4⟩ : S42)] : List (S42))).bind fun y609 => ((shardlogref08_Put.f k ((rd_T42 x0 x8).f0) ((rd_T42 x0 x8).f1) ((rd_T42 x0 x8).f2) ((rd_T42 x0 x8).f3) ((rd_T42 x0 x8).f4)).bind fun t613 => (if (wrap64 (x7 + (t613.length : Int))) ≥ x1 then (shardlogref10_Cut.j1 k x0 x1 x5 y609 (wrap64 (x7 + (t613.length : Int))) x8 true) else (shardlogref10_Cut.j1 k x0 x1 x5 y609 (wrap64 (x7 + (t613.length : Int))) x8 ((wrap64 (x8 + 1)) == (x0.length : Int)))))) else (none)) else (none)) else (some x5)
def shardlogref10_Cut.j1 : Nat → List (S42) → Int → List (List (S42)) → List (S42) → Int → Int → Bool → Option ((List (List (S42))))
 | 0, _, _, _, _, _, _, _ => none
 | k + 1, x0, x1, x5, x6, x7, x8, x39 => if x39 = true then (if x5.length < 5864062014805 then (shardlogref10_Cut.l0 k x0 x1 (x5 ++ [x6]) ([] : List (S42)) 0 (wrap64 (x8 + 1))) else (none)) else (shardlogref10_Cut.l0 k x0 x1 x5 x6 x7 (wrap64 (x8 + 1)))
end
def shardlogref10_Cut.f (k : Nat) (l0 : List (S42)) (a1 : Int) : Option ((List (List (S42)))) := shardlogref10_Cut.l0 k l0 a1 ([] : List (List (S42))) ([] : List (S42)) 0 0
theorem shardlogref10_Cut.mono_l : ∀ k, (∀ y0 y1 y2 y3 y4 y5, LeO (shardlogref10_Cut.l0 k y0 y1 y2 y3 y4 y5) (shardlogref10_Cut.l0 (k + 1) y0 y1 y2 y3 y4 y5)) ∧ (∀ y0 y1 y2 y3 y4 y5 y6, LeO (shardlogref10_Cut.j1 k y0 y1 y2 y3 y4 y5 y6) (shardlogref10_Cut.j1 (k + 1) y0 y1 y2 y3 y4 y5 y6))
 | 0 => ⟨fun _ _ _ _ _ _ r h => by simp [shardlogref10_Cut.l0] at h, fun _ _ _ _ _ _ _ r h => by simp [shardlogref10_Cut.j1] at h⟩
 | k + 1 => by
  obtain ⟨ih0, ih1⟩ := shardlogref10_Cut.mono_l k; refine ⟨?_, ?_⟩
  ·
   intro y0 y1 y2 y3 y4 y5
   unfold shardlogref10_Cut.l0
   have m0 := @shardlogref08_Put.mono; exact lmo
  ·
   intro y0 y1 y2 y3 y4 y5 y6
   unfold shardlogref10_Cut.j1
   have m0 := @shardlogref08_Put.mono; exact lmo
theorem shardlogref10_Cut.mono : ∀ a0 a1 k, LeO (shardlogref10_Cut.f k a0 a1) (shardlogref10_Cut.f (k + 1) a0 a1) := by
 intro a0 a1 k
 obtain ⟨ih0, ih1⟩ := shardlogref10_Cut.mono_l k
 unfold shardlogref10_Cut.f
 have m0 := @shardlogref08_Put.mono; exact lmo
set_option maxHeartbeats 8000000 in
set_option maxRecDepth 100000 in
theorem shardlogref10_Cut.calls (k : Nat) (A0 : Option Addr) (c0 : Nat) (l0 : List (S42)) (a1 : Int) (r : List (List (S42))) (w : World) (hr0 : Kd.C k42 w A0 l0.length l0) (hc0 : l0.length ≤ c0) (h : shardlogref10_Cut.f k l0 a1 = some r) :
  Calls Try.prog 20 #[.slice A0 l0.length c0, .int .i64 a1] w fun e w' => ∃ v0_ : Value, e = .returned (v0_) ∧ Kd.S (Kd.slice 42 k42) 22 w' w.heap.size (fun _ => True) v0_ r ∧ Below w.heap.size w w' := by
 have hu42 := Try.underlying42; have HR0 := aS hr0; have HC0 := aS hc0; clear hr0 hc0; have HB := aS (Below.refl w.heap.size w); have H : (shardlogref10_Cut.l0 k l0 a1 ([] : List (List (S42))) ([] : List (S42)) 0 0) = some r := h; clear h
 have H' := aS H
 clear H
 go_enter Try.func20, Try.ntmps20
 go_wp2
 go_loopg [5, 6, 7, 8] k (fun kq v5 v6 v7 v8 w' => ∃ (x5_1 : List (List (S42))) (x6_1 : List (S42)) (x7_1 : Int) (x8_1 : Int), v7 = .int .i64 x7_1 ∧ v8 = .int .i64 x8_1 ∧ Aside0 (shardlogref10_Cut.l0 kq l0 a1 x5_1 x6_1 x7_1 x8_1 = some r) ∧ Aside0 (kq ≤ k) ∧ Aside0 (Kd.S (Kd.slice 42 k42) 22 w' w.heap.size (fun k_ => some k_ ≠ (v6 : Value).ownBlock) v5 x5_1) ∧ Aside0 (Kd.R k42 42 w' w.heap.size (fun _ => True) v6 x6_1) ∧ Aside0 (Below w.heap.size w w'))
 case atStart => exact ⟨(([] : List (List (S42)))), (([] : List (S42))), (0), (0), srf, srf, H', ⟨Nat.le_refl _⟩, ⟨by first | exact Kd.S_nil _ _ _ _ _ | exact Kd.N_nil _ _ _ _ _ | exact Kd.V_nil _ _ _ _ _ | exact Kd.Q_nil _ _ _ _ _ | exact Kd.R_nil _ _ _ _ _⟩, ⟨by first | exact Kd.R_nil _ _ _ _ _ | exact Kd.N_nil _ _ _ _ _ | exact Kd.V_nil _ _ _ _ _ | exact Kd.Q_nil _ _ _ _ _ | exact Kd.S_nil _ _ _ _ _⟩, ⟨bel⟩⟩
 case round =>
  clear H'; obtain ⟨x5_1, x6_1, x7_1, x8_1, rfl, rfl, HA, HK1, HO_5, HO_6, HB⟩ := hrel
  cases gk with
  | zero => exact absurd HA.out (by simp [shardlogref10_Cut.l0])
  | succ k1 =>
   have H := HA.out; clear HA
   simp only [shardlogref10_Cut.l0] at H
   by_cases c3 : x8_1 < (l0.length : Int)
   ·
    rw [if_pos c3] at H; have c3b0 : decide (x8_1 < (l0.length : Int)) = true := decide_eq_true c3; clear c3
    by_cases c4 : 0 ≤ x8_1
    ·
     rw [if_pos c4] at H; have c4b0 : decide (0 ≤ x8_1) = true := decide_eq_true c4; clear c4
     by_cases c5 : x6_1.length < 2199023255552
     ·
      rw [if_pos c5] at H; have LMc5 := aS c5; clear c5
      obtain ⟨y609, hy609⟩ : ∃ y_ : List (S42), y_ = (x6_1 ++ [(⟨(rd_T42 l0 x8_1).f0, (rd_T42 l0 x8_1).f1, (rd_T42 l0 x8_1).f2, (rd_T42 l0 x8_1).f3, (rd_T42 l0 x8_1).f4⟩ : S42)]) := ⟨_, rfl⟩
      (first | replace H := hyn hy609 H | rw [← hy609] at H); have Ny609 := aS hy609; clear hy609; replace H := obm H; obtain ⟨t613, A60, H⟩ := H; have A6 := aS A60; clear A60; have HC7 := aS H; clear H; have p608 : 0 ≤ (x8_1 : Int) := oda; have q608 : x8_1 < (l0.length : Int) := oda; obtain ⟨ad608, e608, hx608_0, hx608_1, hx608_2, hx608_3, hx608_4⟩ := at_T42 HR0.out x8_1 p608 q608; cases e608; replace hx608_0 := bx bel hx608_0; replace hx608_1 := bx bel hx608_1; replace hx608_2 := bx bel hx608_2; replace hx608_3 := bx bel hx608_3; replace hx608_4 := bx bel hx608_4; replace p608 := eq_true p608; replace q608 := eq_true q608
      go_upto_region 9 with (first | ((with_reducible refine gate_builtin (b := .append) (xs := #[.tmp 15, .tmp 20]) rfl ?_); (try (refine gate_guard (by rfl) ?_; dsimp only)); at_builtin; refine Kd.R_append k42 (w0 := w) w.heap.size rfl (.tmp 15) (.tmp 20) 22 42 (.agg #[(.string ⟨#[]⟩), (.string ⟨#[]⟩), (.int .i64 0), (.string ⟨#[]⟩), (.bool false)]) 64 rfl Try.underlying22 info42 rfl (by decide) (by omega) u6 x6_1 (⟨(rd_T42 l0 x8_1).f0, (rd_T42 l0 x8_1).f1, (rd_T42 l0 x8_1).f2, (rd_T42 l0 x8_1).f3, (rd_T42 l0 x8_1).f4⟩ : S42) [.string ((rd_T42 l0 x8_1).f0), .string ((rd_T42 l0 x8_1).f1), .int .i64 ((rd_T42 l0 x8_1).f2), .string ((rd_T42 l0 x8_1).f3), .bool ((rd_T42 l0 x8_1).f4)] (fun _ => True) (fun _ => False) rfl rfl ?aP (fun _ hk => hk.elim) ?aF ?aO ?aB ?aS ?aL ?_; (case aP => exact k42_mkM _ _ _ (⟨(rd_T42 l0 x8_1).f0, (rd_T42 l0 x8_1).f1, (rd_T42 l0 x8_1).f2, (rd_T42 l0 x8_1).f3, (rd_T42 l0 x8_1).f4⟩ : S42)); (case aB => exact bel); (case aF => exact (fun _ _ => trivial)); (case aO => exact (rel HO_6.out)); (case aS => exact (below_size bel)); (case aL => have := LMc5.out; omega); intro v610 w8 ho hb hg hat; rw [← Ny609.out] at ho; have n0_ := aS (Kd.S_after (ok := (fun _ => True)) (by (with_reducible repeat (first | apply Kd.S_alloc | apply Kd.S_drewN | apply Kd.S_drew)); exact Kd.S_mono HO_5.out (fun _ hk => ⟨trivial, hk⟩)) hg hat); have n1_ := aS (hb); have n2_ := aS (ho); clear HO_5; clear HB; clear HO_6; have HO_5 := n0_; have HB := n1_; have HO611 := n2_; clear n0_ n1_ n2_; clear ho hb hg hat; have p612 : 0 ≤ (x8_1 : Int) := oda; have q612 : x8_1 < (l0.length : Int) := oda; obtain ⟨ad612, e612, hx612_0, hx612_1, hx612_2, hx612_3, hx612_4⟩ := at_T42 HR0.out x8_1 p612 q612; obtain rfl : ad608 = ad612 := (by injection e612); replace hx612_0 := bx bel hx612_0; replace hx612_1 := bx bel hx612_1; replace hx612_2 := bx bel hx612_2; replace hx612_3 := bx bel hx612_3; replace hx612_4 := bx bel hx612_4; replace p612 := eq_true p612; replace q612 := eq_true q612) | ((with_reducible refine gate_callee (f := 34) rfl ?_); refine goesL_ (some 27) rfl rfl Try.func34 (by kernel_rfl) rfl #[.agg #[.string ((rd_T42 l0 x8_1).f0), .string ((rd_T42 l0 x8_1).f1), .int .i64 ((rd_T42 l0 x8_1).f2), .string ((rd_T42 l0 x8_1).f3), .bool ((rd_T42 l0 x8_1).f4)]] rfl agn ?_; (with_reducible refine (shardlogref08_Put.calls k1 ((rd_T42 l0 x8_1).f0) ((rd_T42 l0 x8_1).f1) ((rd_T42 l0 x8_1).f2) ((rd_T42 l0 x8_1).f3) ((rd_T42 l0 x8_1).f4) t613 _ A6.out).mono ?_); rintro e w9 ⟨v614, rfl, ho0, hb⟩; refine ⟨_, rfl, ?_⟩; replace HO_5 := aS (Kd.S_below (by (with_reducible repeat (first | apply Kd.S_alloc | apply Kd.S_drewN | apply Kd.S_drew)); exact HO_5.out) hb); replace HO611 := aS (Kd.R_below (rel HO611.out) hb); have HO615 := aS (Kd.R_lower ho0 (below_size bel)); replace HB := bstep hb; (try clear hb); (try clear hk); (try clear hi); (try clear ho0); obtain ⟨Ao10, co10, eo10⟩ := Kd.R_slice HO615.out; subst eo10))
      (try simp only [Act.put, lsa, lsz, lss])
      go_cut [39] (fun v39 wc => ∃ (kq : Nat) (x39_6 : Bool), v39 = .bool x39_6 ∧ Aside0 (shardlogref10_Cut.j1 kq l0 a1 x5_1 y609 (wrap64 (x7_1 + (t613.length : Int))) x8_1 x39_6 = some r) ∧ Aside0 (kq ≤ k1) ∧ Aside0 (Kd.S (Kd.slice 42 k42) 22 wc w.heap.size (fun k_ => some k_ ≠ (v610 : Value).ownBlock) u5 x5_1) ∧ Aside0 (Kd.R k42 42 wc w.heap.size (fun _ => True) v610 y609) ∧ Aside0 (Below w.heap.size w wc))
      case first =>
       have H := HC7.out; clear HC7
       by_cases c11 : (wrap64 (x7_1 + (t613.length : Int))) ≥ a1
       ·
        rw [if_pos c11] at H; have c11b0 : decide (a1 ≤ (wrap64 (x7_1 + (t613.length : Int)))) = true := decide_eq_true c11; clear c11
        (first | rw [c11b0] | (simp only [i64_w, i32_w]; rw [c11b0]) | skip)
        have H' := aS H
        clear H
        go_wp2
        go_meet
        case rel => exact ⟨_, (true), srf, H', ⟨by have := HK1.out; first | omega | exact Nat.le_refl _⟩, ⟨by (with_reducible repeat (first | apply Kd.S_alloc | apply Kd.S_drewN | apply Kd.S_drew)); exact Kd.S_mono HO_5.out (fun _ hk => hk.2)⟩, ⟨by (with_reducible repeat (first | apply Kd.R_alloc | apply Kd.R_drewN | apply Kd.R_drew)); exact HO611.out⟩, ⟨bel⟩⟩
       ·
        rw [if_neg c11] at H; have c11b0 : decide (a1 ≤ (wrap64 (x7_1 + (t613.length : Int)))) = false := decide_eq_false c11; clear c11
        (first | rw [c11b0] | (simp only [i64_w, i32_w]; rw [c11b0]) | skip)
        have H' := aS H
        clear H
        go_wp2
        go_meet
        case rel => exact ⟨_, (((wrap64 (x8_1 + 1)) == (l0.length : Int))), srf, H', ⟨by have := HK1.out; first | omega | exact Nat.le_refl _⟩, ⟨by (with_reducible repeat (first | apply Kd.S_alloc | apply Kd.S_drewN | apply Kd.S_drew)); exact Kd.S_mono HO_5.out (fun _ hk => hk.2)⟩, ⟨by (with_reducible repeat (first | apply Kd.R_alloc | apply Kd.R_drewN | apply Kd.R_drew)); exact HO611.out⟩, ⟨bel⟩⟩
      case rest =>
       clear HC7; (try clear c3); (try clear c3b0); (try clear c4); (try clear c4b0); (try clear c5); (try clear hx608_0); (try clear hx608_1); (try clear hx608_2); (try clear hx608_3); (try clear hx608_4); (try clear hx612_0); (try clear hx612_1); (try clear hx612_2); (try clear hx612_3); (try clear hx612_4); (try clear p608); (try clear p612); (try clear q608); (try clear q612); obtain ⟨kq, x39_6, rfl, HA, HJ6, HO_5, HO_6, HB⟩ := hcut
       cases kq with
       | zero => exact absurd HA.out (by simp [shardlogref10_Cut.j1])
       | succ kj6 =>
        have H := HA.out; clear HA
        simp only [shardlogref10_Cut.j1] at H
        by_cases c12 : x39_6 = true
        ·
         subst c12
         replace H := ifT H
         by_cases c13 : x5_1.length < 5864062014805
         ·
          rw [if_pos c13] at H; have LMc13 := aS c13; clear c13
          obtain ⟨y616, hy616⟩ : ∃ y_ : List (List (S42)), y_ = (x5_1 ++ [y609]) := ⟨_, rfl⟩
          (first | replace H := hyn hy616 H | rw [← hy616] at H); have Ny616 := aS hy616; clear hy616
          have H' := aS H
          clear H; obtain ⟨Ao15, co15, eo15⟩ := Kd.R_slice HO_6.out; subst eo15
          go_wp2_with (first | ((with_reducible refine gate_builtin (b := .append) (xs := #[.tmp 40, .tmp 42]) rfl ?_); (try (refine gate_guard (by rfl) ?_; dsimp only)); at_builtin; refine Kd.S_append (Kd.slice 42 k42) (w0 := w) w.heap.size rfl (.tmp 40) (.tmp 42) 39 22 (.slice none 0 0) 24 rfl Try.underlying39 info22 rfl (by decide) (by omega) u5 x5_1 y609 [.slice Ao15 y609.length co15] (fun _ => True) (fun k_ => some k_ = (.slice Ao15 y609.length co15 : Value).ownBlock) rfl rfl ?aP (fun k_ hk_ => ((Kd.R_mono (ok' := fun k_ => ((fun _ => True)) k_ ∧ some k_ ≠ (u5 : Value).ownBlock) (Kd.R_apart' (HO_6.out) (Kd.S_typed HO_5.out) (by decide)) (fun k_ hk => ⟨trivial, hk.2⟩))).1 k_ hk_.symm) ?aF ?aO ?aB ?aS ?aL ?_; (case aP => exact Kd.M_row (Kd.R_mono (Kd.R_tight rfl (Kd.R_mono (ok' := fun k_ => ((fun _ => True)) k_ ∧ some k_ ≠ (u5 : Value).ownBlock) (Kd.R_apart' (HO_6.out) (Kd.S_typed HO_5.out) (by decide)) (fun k_ hk => ⟨trivial, hk.2⟩))) (fun _ h_ => h_))); (case aB => exact bel); (case aF => exact (fun _ _ => trivial)); (case aO => exact (by (with_reducible repeat (first | apply Kd.S_alloc | apply Kd.S_drewN | apply Kd.S_drew)); exact Kd.S_mono HO_5.out (fun k_ hk => ⟨trivial, fun e_ => hk e_⟩))); (case aS => exact (below_size bel)); (case aL => have := LMc13.out; omega); intro v617 w14 ho hb hg hat; rw [← Ny616.out] at ho; have n0_ := aS (hb); have n1_ := aS (ho); clear HB; clear HO_5; clear HO_6; have HB := n0_; have HO618 := n1_; clear n0_ n1_; clear ho hb hg hat))
          go_roundg kj6
          case measure => have := HK1.out; have := HJ6.out; omega
          case rel => exact ⟨(y616), (([] : List (S42))), (0), (wrap64 (x8_1 + 1)), srf, srf, H', ⟨by have := HK1.out; have := HJ6.out; omega⟩, ⟨by (with_reducible repeat (first | apply Kd.S_alloc | apply Kd.S_drewN | apply Kd.S_drew)); exact Kd.S_mono HO618.out (fun _ hk => (by simp [Value.ownBlock]))⟩, ⟨by first | exact Kd.R_nil _ _ _ _ _ | exact Kd.N_nil _ _ _ _ _ | exact Kd.V_nil _ _ _ _ _ | exact Kd.Q_nil _ _ _ _ _ | exact Kd.S_nil _ _ _ _ _⟩, ⟨bel⟩⟩
         ·
          rw [if_neg c13] at H; exact absurd H (by simp)
        ·
         replace c12 := Bool.eq_false_iff.mpr c12; subst c12
         replace H := ifF H
         have H' := aS H
         clear H
         go_wp2
         go_roundg kj6
         case measure => have := HK1.out; have := HJ6.out; omega
         case rel => exact ⟨(x5_1), (y609), ((wrap64 (x7_1 + (t613.length : Int)))), (wrap64 (x8_1 + 1)), srf, srf, H', ⟨by have := HK1.out; have := HJ6.out; omega⟩, ⟨by (with_reducible repeat (first | apply Kd.S_alloc | apply Kd.S_drewN | apply Kd.S_drew)); exact HO_5.out⟩, ⟨by (with_reducible repeat (first | apply Kd.R_alloc | apply Kd.R_drewN | apply Kd.R_drew)); exact HO_6.out⟩, ⟨bel⟩⟩
     ·
      rw [if_neg c5] at H; exact absurd H (by simp)
    ·
     rw [if_neg c4] at H; exact absurd H (by simp)
   ·
    rw [if_neg c3] at H; have c3b0 : decide (x8_1 < (l0.length : Int)) = false := decide_eq_false c3; clear c3
    obtain rfl := Option.some.inj H
    go_wp2
    go_ret
    exact ⟨_, rf3, by (with_reducible repeat (first | apply Kd.S_alloc | apply Kd.S_drewN | apply Kd.S_drew)); exact Kd.S_mono HO_5.out (fun _ hk => trivial), bel⟩

/-! ### shardlogref12_Key: function 24 -/
def shardlogref12_Key.f (a0 : ByteArray) (a1 : ByteArray) : Option (ByteArray) := (shardlogref01_Text.f a0).bind fun t619 => ((shardlogref01_Text.f a1).bind fun t622 => (if (strOfNums t619).size + (strOfNums t622).size ≤ 9223372036854775807 then (some ((strOfNums t619) ++ (strOfNums t622))) else (none)))
def shardlogref12_Key.T1 : Bool × List (List Nat × List Nat) := (true, [([], []), ([0], [0]), ([1], [1]), ([], []), ([3, 1], [3]), ([4], [4]), ([2, 5], [2, 5]), ([6, 4, 0, 1, 2, 3, 4, 5, 6], [6])])
def shardlogref12_Key.B1 : List Nat := [0, 1, 3, 0, 11, 27, 63, 127]
theorem shardlogref12_Key.tab1 : rtab .any (opsOf Try.f24 1) = shardlogref12_Key.T1 := by kernel_rfl
theorem shardlogref12_Key.bits1 : waitsOk shardlogref12_Key.T1.2 shardlogref12_Key.B1 = true := by kernel_rfl
set_option maxHeartbeats 8000000 in
set_option maxRecDepth 100000 in
theorem shardlogref12_Key.calls (a0 : ByteArray) (a1 : ByteArray) (r : ByteArray) (w : World) (h : shardlogref12_Key.f a0 a1 = some r) :
  Calls Try.prog 24 #[.string a0, .string a1] w fun e w' => e = .returned (.string r) ∧ Below w.heap.size w w' := by
 have HB := aS (Below.refl w.heap.size w); have H : ((shardlogref01_Text.f a0).bind fun t619 => ((shardlogref01_Text.f a1).bind fun t622 => (if (strOfNums t619).size + (strOfNums t622).size ≤ 9223372036854775807 then (some ((strOfNums t619) ++ (strOfNums t622))) else (none)))) = some r := h; clear h; replace H := obm H; obtain ⟨t619, A30, H⟩ := H; have A3 := aS A30; clear A30; replace H := obm H; obtain ⟨t622, A40, H⟩ := H; have A4 := aS A40; clear A40
 by_cases c5 : (strOfNums t619).size + (strOfNums t622).size ≤ 9223372036854775807
 ·
  rw [if_pos c5] at H; have c5b0 := eq_true c5; have c5b1 : decide ((strOfNums t619).size + (strOfNums t622).size ≤ 9223372036854775807) = true := decide_eq_true c5
  try have c5b2 : (9223372036854775807 < (strOfNums t619).size + (strOfNums t622).size) = False := eq_false (Nat.not_lt.2 c5)
  obtain rfl := Option.some.inj H
  go_enter Try.func24, Try.ntmps24
  try go_wp2
  replace HB := aS (bdo HB.out); refine start_ (n := 8) (S := fun w' => True) (ds := []) (bA 8 0) (by kernel_rfl) rfl rfl trivial (fun hHeld => ?_); refine with_tabW shardlogref12_Key.tab1 shardlogref12_Key.bits1 (fun HT_ HW_ => ?_)
  generalize w.drew = w6 at HB hHeld ⊢
  refine along_ [(0, 5), (3, 8)] ?_
  iterate 2 (refine pure3 HT_ ?_)
  refine lay_ (bA 8 9) (by kernel_rfl) ?_; refine one3 1 (N := some 6) (bA 8 11) HT_ (fun K hK => ?_); refine goes_ Try.func37 (by kernel_rfl) rfl #[.string a0] (by rfl) rfl rfl agn ?_
  with_reducible refine (shardlogref01_Text.calls a0 t619 _ A3.out).mono ?_
  rintro e w7 ⟨v620, rfl, ho0, hb⟩
  refine ⟨_, rfl, ?_⟩; have HO621 := aS (Kd.R_lower ho0 (below_size bel)); replace HB := bstep hb; (try clear hb); (try clear hk); (try clear hi); (try clear ho0); refine hK.out _ _ trivial (fun hHeld => ?_); clear hK K; refine nm 6 ?_; refine join_ (σ := Value) 2 (bA 8 63) (fun s_ => [(7, .string (strOfNums t619)), (9, s_), (10, .string (strOfNums t622))]) (fun s_ w' => (Kd.R (Kd.int .u8) 5 w' w.heap.size (fun k_ => some k_ ≠ (s_ : Value).ownBlock) v620 t619) ∧ (Kd.R (Kd.int .u8) 5 w' w.heap.size (fun k_ => some k_ ≠ (v620 : Value).ownBlock) s_ t622) ∧ (Below w.heap.size w w')) ?_ ?_
  rotate_left
  ·
   intro hCont
   refine two_ (i := 2) (j := 4) (Ni := some 7) (Nj := some 9) (bA 8 15) (bA 8 27) rfl rfl rfl rfl (two_of HT_.out (by kernel_rfl)) (by decide) (by decide) (fun K hK => ?_) (fun K hK => ?_)
   ·
    skip
    have hcv8 := own_string (P := Try.prog) Try.underlying26 Try.underlying5 Try.underlying9 (Kd.own_of_R HO621.out); refine value_ (w1 := ?_) (v := ?_) (by rfl) rfl ?_ ?_
    rotate_left 2
    ·
     go_simp
     constructor
     ·
      rfl
     ·
      rfl
    clear hcv8; refine hK.out _ _ trivial (fun hHeld => ?_); clear hK K; refine nm 7 ?_; refine one3 4 (N := some 9) (bA 8 31) HT_ (fun K hK => ?_); refine goes_ Try.func37 (by kernel_rfl) rfl #[.string a1] (by rfl) rfl rfl agn ?_
    with_reducible refine (shardlogref01_Text.calls a1 t622 _ A4.out).mono ?_
    rintro e w9 ⟨v623, rfl, ho0, hb⟩
    refine ⟨_, rfl, ?_⟩; have HO624 := aS (Kd.R_lower (Kd.R_new' ho0 (Kd.R_lt (rel HO621.out))) (below_size bel)); replace HO621 := aS (Kd.R_elder' (rel HO621.out) (ebs ho0) hb); replace HB := bstep hb; (try clear hb); (try clear hk); (try clear hi); (try clear ho0); refine hK.out _ _ trivial (fun hHeld => ?_); clear hK K; refine nm 9 ?_; refine one3 5 (N := some 10) (bA 8 63) HT_ (fun K hK => ?_); have hcv10 := own_string (P := Try.prog) Try.underlying26 Try.underlying5 Try.underlying9 (Kd.own_of_R HO624.out); refine value_ (w1 := ?_) (v := ?_) (by rfl) rfl ?_ ?_
    rotate_left 2
    ·
     go_simp
     constructor
     ·
      rfl
     ·
      rfl
    clear hcv10; refine hK.out _ _ trivial (fun hHeld => ?_); clear hK K; refine nm 10 ?_; exact norm_ (by simp only [putAll, Act.put, lsa, lsz, lss]) (hCont (v623) _ ⟨(rel (Kd.R_mono HO621.out (fun _ hk => hk.2))), (rel (Kd.R_mono HO624.out (fun _ hk => hk.2))), bel⟩)
   ·
    skip
    refine goes_ Try.func37 (by kernel_rfl) rfl #[.string a1] (by rfl) rfl rfl agn ?_
    with_reducible refine (shardlogref01_Text.calls a1 t622 _ A4.out).mono ?_
    rintro e w8 ⟨v623, rfl, ho0, hb⟩
    refine ⟨_, rfl, ?_⟩; have HO624 := aS (Kd.R_lower (Kd.R_new' ho0 (Kd.R_lt (rel HO621.out))) (below_size bel)); replace HO621 := aS (Kd.R_elder' (rel HO621.out) (ebs ho0) hb); replace HB := bstep hb; (try clear hb); (try clear hk); (try clear hi); (try clear ho0); refine hK.out _ _ trivial (fun hHeld => ?_); clear hK K; refine nm 9 ?_; refine two_ (i := 2) (j := 5) (Ni := some 7) (Nj := some 10) (bA 8 31) (bA 8 59) rfl rfl rfl rfl (two_of HT_.out (by kernel_rfl)) (by decide) (by decide) (fun K hK => ?_) (fun K hK => ?_)
    ·
     skip
     have hcv9 := own_string (P := Try.prog) Try.underlying26 Try.underlying5 Try.underlying9 (Kd.own_of_R HO621.out); refine value_ (w1 := ?_) (v := ?_) (by rfl) rfl ?_ ?_
     rotate_left 2
     ·
      go_simp
      constructor
      ·
       rfl
      ·
       rfl
     clear hcv9; refine hK.out _ _ trivial (fun hHeld => ?_); clear hK K; refine nm 7 ?_; refine one3 5 (N := some 10) (bA 8 63) HT_ (fun K hK => ?_); have hcv10 := own_string (P := Try.prog) Try.underlying26 Try.underlying5 Try.underlying9 (Kd.own_of_R HO624.out); refine value_ (w1 := ?_) (v := ?_) (by rfl) rfl ?_ ?_
     rotate_left 2
     ·
      go_simp
      constructor
      ·
       rfl
      ·
       rfl
     clear hcv10; refine hK.out _ _ trivial (fun hHeld => ?_); clear hK K; refine nm 10 ?_; exact norm_ (by simp only [putAll, Act.put, lsa, lsz, lss]) (hCont (v623) _ ⟨(rel (Kd.R_mono HO621.out (fun _ hk => hk.2))), (rel (Kd.R_mono HO624.out (fun _ hk => hk.2))), bel⟩)
    ·
     skip
     have hcv9 := own_string (P := Try.prog) Try.underlying26 Try.underlying5 Try.underlying9 (Kd.own_of_R HO624.out); refine value_ (w1 := ?_) (v := ?_) (by rfl) rfl ?_ ?_
     rotate_left 2
     ·
      go_simp
      constructor
      ·
       rfl
      ·
       rfl
     clear hcv9; refine hK.out _ _ trivial (fun hHeld => ?_); clear hK K; refine nm 10 ?_; refine one3 2 (N := some 7) (bA 8 63) HT_ (fun K hK => ?_); have hcv10 := own_string (P := Try.prog) Try.underlying26 Try.underlying5 Try.underlying9 (Kd.own_of_R HO621.out); refine value_ (w1 := ?_) (v := ?_) (by rfl) rfl ?_ ?_
     rotate_left 2
     ·
      go_simp
      constructor
      ·
       rfl
      ·
       rfl
     clear hcv10; refine hK.out _ _ trivial (fun hHeld => ?_); clear hK K; refine nm 7 ?_; exact norm_ (by simp only [putAll, Act.put, lsa, lsz, lss]) (hCont (v623) _ ⟨(rel (Kd.R_mono HO621.out (fun _ hk => hk.2))), (rel (Kd.R_mono HO624.out (fun _ hk => hk.2))), bel⟩)
  rintro v623 w11 ⟨h0_, h1_, h2_⟩
  have n0_ : Aside0 (Kd.R (Kd.int .u8) 5 w11 w.heap.size (fun k_ => some k_ ≠ (v623 : Value).ownBlock) v620 t619) := ⟨h0_⟩; have n1_ : Aside0 (Kd.R (Kd.int .u8) 5 w11 w.heap.size (fun k_ => some k_ ≠ (v620 : Value).ownBlock) v623 t622) := ⟨h1_⟩; have n2_ : Aside0 (Below w.heap.size w w11) := ⟨h2_⟩; clear HB; clear h0_ h1_ h2_; have HO621 := n0_; have HO624 := n1_; have HB := n2_; clear n0_ n1_ n2_; have hHeld := trivial; refine norm_ (a' := ?_) ?_ ?_
  rotate_left
  ·
   simp only [putAll, Act.put, lsa, lsz, lss]
   rfl
  refine along_ [(6, 11), (7, 4)] ?_
  iterate 2 (refine pure3 HT_ ?_)
  refine lay_ (bA 8 255) (by kernel_rfl) ?_; refine done_ (done_of HT_.out (by kernel_rfl)) ?_
  try go_wp2
  go_ret
  exact ⟨rf3, bel⟩
 ·
  rw [if_neg c5] at H; exact absurd H (by simp)

/-! ### shardlogref02_Sum: function 57 -/
mutual
def shardlogref02_Sum.l0 : Nat → List Int → Int → Int → Option (Int)
 | 0, _, _, _ => none
 | k + 1, x0, x3, x4 => if x4 < (x0.length : Int) then (if 0 ≤ x4 then (shardlogref02_Sum.l1 k x0 (Go.bits .xor .u32 x3 ((rd x0 x4) % 4294967296)) x4 0) else (none)) else (some ((4294967295 - x3) % 4294967296))
def shardlogref02_Sum.l1 : Nat → List Int → Int → Int → Int → Option (Int)
 | 0, _, _, _, _ => none
 | k + 1, x0, x3, x4, x5 => if x5 < 8 then (if (Int.tmod x3 2) = 1 then (shardlogref02_Sum.l1 k x0 (Go.bits .xor .u32 ((Int.tdiv x3 2) % 4294967296) 2197175160) x4 (wrap64 (x5 + 1))) else (shardlogref02_Sum.l1 k x0 ((Int.tdiv x3 2) % 4294967296) x4 (wrap64 (x5 + 1)))) else (shardlogref02_Sum.l0 k x0 x3 (wrap64 (x4 + 1)))
end
def shardlogref02_Sum.f (k : Nat) (l0 : List Int) : Option (Int) := shardlogref02_Sum.l0 k l0 4294967295 0
theorem shardlogref02_Sum.mono_l : ∀ k, (∀ y0 y1 y2, LeO (shardlogref02_Sum.l0 k y0 y1 y2) (shardlogref02_Sum.l0 (k + 1) y0 y1 y2)) ∧ (∀ y0 y1 y2 y3, LeO (shardlogref02_Sum.l1 k y0 y1 y2 y3) (shardlogref02_Sum.l1 (k + 1) y0 y1 y2 y3))
 | 0 => ⟨fun _ _ _ r h => by simp [shardlogref02_Sum.l0] at h, fun _ _ _ _ r h => by simp [shardlogref02_Sum.l1] at h⟩
 | k + 1 => by
  obtain ⟨ih0, ih1⟩ := shardlogref02_Sum.mono_l k; refine ⟨?_, ?_⟩
  ·
   intro y0 y1 y2
   unfold shardlogref02_Sum.l0
   exact lmo
  ·
   intro y0 y1 y2 y3
   unfold shardlogref02_Sum.l1
   exact lmo
theorem shardlogref02_Sum.mono : ∀ a0 k, LeO (shardlogref02_Sum.f k a0) (shardlogref02_Sum.f (k + 1) a0) := by
 intro a0 k
 obtain ⟨ih0, ih1⟩ := shardlogref02_Sum.mono_l k
 unfold shardlogref02_Sum.f
 exact lmo
set_option maxHeartbeats 8000000 in
set_option maxRecDepth 100000 in
theorem shardlogref02_Sum.calls (k : Nat) (A0 : Option Addr) (c0 : Nat) (l0 : List Int) (r : Int) (w : World) (hr0 : Kd.C (Kd.int .u8) w A0 l0.length l0) (hc0 : l0.length ≤ c0) (h : shardlogref02_Sum.f k l0 = some r) :
  Calls Try.prog 57 #[.slice A0 l0.length c0] w fun e w' => e = .returned (.int .u32 r) ∧ Drawn0 w w' := by
 have HR0 := aS hr0; have HC0 := aS hc0; clear hr0 hc0; have H : (shardlogref02_Sum.l0 k l0 4294967295 0) = some r := h; clear h
 have H' := aS H
 clear H
 go_enter Try.func57, Try.ntmps57
 go_wp2
 go_loopg [3, 4] k (fun kq v3 v4 w' => ∃ (x3_1 : Int) (x4_1 : Int), v3 = .int .u32 x3_1 ∧ v4 = .int .i64 x4_1 ∧ Aside0 (shardlogref02_Sum.l0 kq l0 x3_1 x4_1 = some r) ∧ Aside0 (kq ≤ k) ∧ Drawn0 w w')
 case atStart => exact ⟨(4294967295), (0), srf, srf, H', ⟨Nat.le_refl _⟩, by repeat (first | exact Drawn0.refl _ | apply Drawn0.step)⟩
 case round =>
  clear H'; obtain ⟨x3_1, x4_1, rfl, rfl, HA, HK1, ⟨m1, rfl⟩⟩ := hrel
  cases gk with
  | zero => exact absurd HA.out (by simp [shardlogref02_Sum.l0])
  | succ k1 =>
   have H := HA.out; clear HA
   simp only [shardlogref02_Sum.l0] at H
   by_cases c2 : x4_1 < (l0.length : Int)
   ·
    rw [if_pos c2] at H; have c2b0 : decide (x4_1 < (l0.length : Int)) = true := decide_eq_true c2; clear c2
    by_cases c3 : 0 ≤ x4_1
    ·
     rw [if_pos c3] at H; have c3b0 : decide (0 ≤ x4_1) = true := decide_eq_true c3; clear c3
     have H' := aS H
     clear H; have p625 : 0 ≤ (x4_1 : Int) := oda; have q625 : x4_1 < (l0.length : Int) := oda; obtain ⟨ad625, e625, hx625_0⟩ := Kd.at_int HR0.out x4_1 p625 q625; cases e625; replace p625 := eq_true p625; replace q625 := eq_true q625
     go_wp2
     go_loopg [3, 5] k1 (fun kq v3 v5 w' => ∃ (x3_2 : Int) (x5_2 : Int), v3 = .int .u32 x3_2 ∧ v5 = .int .i64 x5_2 ∧ Aside0 (shardlogref02_Sum.l1 kq l0 x3_2 x4_1 x5_2 = some r) ∧ Aside0 (kq ≤ k1) ∧ Drawn0 w w')
     case atStart => exact ⟨(Go.bits .xor .u32 x3_1 ((rd l0 x4_1) % 4294967296)), (0), srf, srf, H', ⟨Nat.le_refl _⟩, by repeat (first | exact Drawn0.refl _ | apply Drawn0.step)⟩
     case round =>
      clear H'; (try clear c2); (try clear c2b0); (try clear c3); (try clear c3b0); (try clear hx625_0); (try clear p625); (try clear q625); obtain ⟨x3_2, x5_2, rfl, rfl, HA, HK2, ⟨m2, rfl⟩⟩ := hrel
      cases gk with
      | zero => exact absurd HA.out (by simp [shardlogref02_Sum.l1])
      | succ k2 =>
       have H := HA.out; clear HA
       simp only [shardlogref02_Sum.l1] at H
       by_cases c4 : x5_2 < 8
       ·
        rw [if_pos c4] at H; have c4b0 : decide (x5_2 < 8) = true := decide_eq_true c4; clear c4
        by_cases c5 : (Int.tmod x3_2 2) = 1
        ·
         rw [if_pos c5] at H; obtain ⟨c5b0, c5b1⟩ := eqT c5; clear c5
         have H' := aS H
         clear H
         go_wp2
         go_roundg k2
         case measure => have := HK1.out; have := HK2.out; omega
         case rel => exact ⟨(Go.bits .xor .u32 ((Int.tdiv x3_2 2) % 4294967296) 2197175160), (wrap64 (x5_2 + 1)), srf, srf, H', ⟨by have := HK1.out; have := HK2.out; omega⟩, by repeat (first | exact Drawn0.refl _ | apply Drawn0.step)⟩
        ·
         rw [if_neg c5] at H; obtain ⟨c5b0, c5b1⟩ := eqF c5
         have H' := aS H
         clear H
         go_wp2
         go_roundg k2
         case measure => have := HK1.out; have := HK2.out; omega
         case rel => exact ⟨((Int.tdiv x3_2 2) % 4294967296), (wrap64 (x5_2 + 1)), srf, srf, H', ⟨by have := HK1.out; have := HK2.out; omega⟩, by repeat (first | exact Drawn0.refl _ | apply Drawn0.step)⟩
       ·
        rw [if_neg c4] at H; have c4b0 : decide (x5_2 < 8) = false := decide_eq_false c4; clear c4
        have H' := aS H
        clear H
        go_wp2
        go_roundg k2
        case measure => have := HK1.out; have := HK2.out; omega
        case rel => exact ⟨(x3_2), (wrap64 (x4_1 + 1)), srf, srf, H', ⟨by have := HK1.out; have := HK2.out; omega⟩, by repeat (first | exact Drawn0.refl _ | apply Drawn0.step)⟩
    ·
     rw [if_neg c3] at H; exact absurd H (by simp)
   ·
    rw [if_neg c2] at H; have c2b0 : decide (x4_1 < (l0.length : Int)) = false := decide_eq_false c2; clear c2
    obtain rfl := Option.some.inj H
    go_wp2
    go_ret
    exact ⟨by first | rfl | (simp; done) | (simp [*]; done) | (simp; exact (by decide : ∀ a_ b_ : Bool, (a_ == b_) = (!a_ != b_)) _ _), by repeat (first | exact Drawn0.refl _ | apply Drawn0.step)⟩

end Go.Proofs.Ytinhpolmanccgaa.X
