-- written by a program of this session's, over the kit's print
import Derived.Test.YtgcicgjfimfhpaaXx0
import Derived.Test.YtgcicgjfimfhpaaXx1
import Derived.Test.YtgcicgjfimfhpaaXx2
import Derived.Test.YtgcicgjfimfhpaaXx3
import Derived.Test.YtgcicgjfimfhpaaXx4
import Derived.Test.YtgcicgjfimfhpaaXx5
namespace Go.Proofs.Ytgcicgjfimfhpaa.X
open Go.RowKit Go.Proofs.YtgcicgjfimfhpaaW.PrintWords Go.Proofs.YtgcicgjfimfhpaaW.PrintLast Go.Proofs.YtgcicgjfimfhpaaW.PrintMore
attribute [local go_sem] max2_int min2_int max_two min_two max_three min_three max_four min_four gtr_str   -- for this text's walks alone
set_option linter.unusedVariables false
set_option linter.unusedSimpArgs false

attribute [local go_sem high] eqA29
/-! ### shardlogref01_Num: function 32 -/
def shardlogref01_Num.f (a0 : Int) : Option (List Int) := if a0 < 0 then (some ([] : List Int)) else (if a0 > 4294967295 then (some ([] : List Int)) else (some (([(wrap64 (Int.tdiv a0 16777216)) % 256, (Int.tmod (wrap64 (Int.tdiv a0 65536)) 256) % 256, (Int.tmod (wrap64 (Int.tdiv a0 256)) 256) % 256, (Int.tmod a0 256) % 256] : List Int))))
set_option maxHeartbeats 8000000 in
set_option maxRecDepth 100000 in
theorem shardlogref01_Num.calls (a0 : Int) (r : List Int) (w : World) (h : shardlogref01_Num.f a0 = some r) :
  Calls Try.prog 32 #[.int .i64 a0] w fun e w' => ∃ v0_ : Value, e = .returned (v0_) ∧ Kd.R (Kd.int .u8) 5 w' w.heap.size (fun _ => True) v0_ r ∧ Below w.heap.size w w' := by
 have HB := aS (Below.refl w.heap.size w)
 have H : (if a0 < 0 then (some ([] : List Int)) else (if a0 > 4294967295 then (some ([] : List Int)) else (some (([(wrap64 (Int.tdiv a0 16777216)) % 256, (Int.tmod (wrap64 (Int.tdiv a0 65536)) 256) % 256, (Int.tmod (wrap64 (Int.tdiv a0 256)) 256) % 256, (Int.tmod a0 256) % 256] : List Int))))) = some r := h
 clear h
 by_cases c2 : a0 < 0
 ·
  rw [if_pos c2] at H
  have c2b0 : decide (a0 < 0) = true := decide_eq_true c2
  clear c2
  obtain rfl := Option.some.inj H
  go_enter Try.func32, Try.ntmps32
  go_wp2
  go_ret
  exact ⟨_, rf3, by first | exact Kd.R_nil _ _ _ _ _ | exact Kd.N_nil _ _ _ _ _ | exact Kd.V_nil _ _ _ _ _ | exact Kd.Q_nil _ _ _ _ _ | exact Kd.S_nil _ _ _ _ _, bel⟩
 ·
  rw [if_neg c2] at H
  have c2b0 : decide (a0 < 0) = false := decide_eq_false c2
  clear c2
  by_cases c3 : a0 > 4294967295
  ·
   rw [if_pos c3] at H
   have c3b0 : decide (4294967295 < a0) = true := decide_eq_true c3
   clear c3
   obtain rfl := Option.some.inj H
   go_enter Try.func32, Try.ntmps32
   go_wp2
   go_ret
   exact ⟨_, rf3, by first | exact Kd.R_nil _ _ _ _ _ | exact Kd.N_nil _ _ _ _ _ | exact Kd.V_nil _ _ _ _ _ | exact Kd.Q_nil _ _ _ _ _ | exact Kd.S_nil _ _ _ _ _, bel⟩
  ·
   rw [if_neg c3] at H
   have c3b0 : decide (4294967295 < a0) = false := decide_eq_false c3
   clear c3
   obtain ⟨y224, hy224⟩ : ∃ y_ : List Int, y_ = (([(wrap64 (Int.tdiv a0 16777216)) % 256, (Int.tmod (wrap64 (Int.tdiv a0 65536)) 256) % 256, (Int.tmod (wrap64 (Int.tdiv a0 256)) 256) % 256, (Int.tmod a0 256) % 256] : List Int)) := ⟨_, rfl⟩
   replace H : (some y224) = some r := by first | (rw [hy224]; with_reducible exact H) | (have H2_ := (Option.bind_some _ _).symm.trans H; rw [hy224]; with_reducible exact H2_) | (have H2_ := (Option.bind_some _ _).symm.trans H; with_reducible exact H2_) | with_reducible exact H | (rw [hy224]; exact H) | exact H
   have Ny224 := aS hy224
   clear hy224
   obtain rfl := Option.some.inj H
   go_enter Try.func32, Try.ntmps32
   go_wp2_with (first | ((with_reducible refine gate_dst (N := 23) rfl ?_); refine Kd.R_lit (Kd.int .u8) _ 5 ?hg (N := 23) ?hd (xs := ([(wrap64 (Int.tdiv a0 16777216)) % 256, (Int.tmod (wrap64 (Int.tdiv a0 65536)) 256) % 256, (Int.tmod (wrap64 (Int.tdiv a0 256)) 256) % 256, (Int.tmod a0 256) % 256] : List Int)) (inner := [.int .u8 ((wrap64 (Int.tdiv a0 16777216)) % 256), .int .u8 ((Int.tmod (wrap64 (Int.tdiv a0 65536)) 256) % 256), .int .u8 ((Int.tmod (wrap64 (Int.tdiv a0 256)) 256) % 256), .int .u8 ((Int.tmod a0 256) % 256)]) (ok := fun _ => True) (okp := fun _ => True) ?hr ?hp (fun _ hk => hk) trivial (Below.refl _ _) (Nat.le_refl _) (by simp) ?_; (case hd => rfl); (case hg => rfl); (case hr => first | (go_simp; done) | (go_simp; rfl)); (case hp => exact (Reps.one (show Kd.M (Kd.int .u8) _ _ _ ((wrap64 (Int.tdiv a0 16777216)) % 256) [.int .u8 ((wrap64 (Int.tdiv a0 16777216)) % 256)] from rfl) (Reps.one (show Kd.M (Kd.int .u8) _ _ _ ((Int.tmod (wrap64 (Int.tdiv a0 65536)) 256) % 256) [.int .u8 ((Int.tmod (wrap64 (Int.tdiv a0 65536)) 256) % 256)] from rfl) (Reps.one (show Kd.M (Kd.int .u8) _ _ _ ((Int.tmod (wrap64 (Int.tdiv a0 256)) 256) % 256) [.int .u8 ((Int.tmod (wrap64 (Int.tdiv a0 256)) 256) % 256)] from rfl) (Reps.one (show Kd.M (Kd.int .u8) _ _ _ ((Int.tmod a0 256) % 256) [.int .u8 ((Int.tmod a0 256) % 256)] from rfl) (Reps.none _ _)))))); intro v225 w4 ho5 hb hg_ hnew_; clear hg_ hnew_; (first | rw [← Ny224.out] at ho5 | (simp only [Int.reduceToNat] at ho5; rw [← Ny224.out] at ho5)); have n0_ := aS (Kd.R_lower ho5 (below_size bel)); have n1_ := bstep hb; clear HB; have HO226 := n0_; have HB := n1_; clear n0_ n1_; clear hb ho5))
   go_ret
   exact ⟨_, rf3, by (with_reducible repeat (first | apply Kd.R_alloc | apply Kd.R_drewN | apply Kd.R_drew)); exact HO226.out, bel⟩

/-! ### shardlogref01_Text: function 31 -/
def shardlogref01_Text.f (a0 : ByteArray) : Option (List Int) := (shardlogref01_Num.f (a0.size : Int)).bind fun t227 => (if a0.size ≤ 9223372036854775807 then ((some (bytesOf a0 : List Int)).bind fun y230 => (if t227.length + y230.length < 140737488355328 then (some (t227 ++ y230)) else (none))) else (none))
set_option maxHeartbeats 8000000 in
set_option maxRecDepth 100000 in
theorem shardlogref01_Text.calls (a0 : ByteArray) (r : List Int) (w : World) (h : shardlogref01_Text.f a0 = some r) :
  Calls Try.prog 31 #[.string a0] w fun e w' => ∃ v0_ : Value, e = .returned (v0_) ∧ Kd.R (Kd.int .u8) 5 w' w.heap.size (fun _ => True) v0_ r ∧ Below w.heap.size w w' := by
 have HB := aS (Below.refl w.heap.size w)
 have H : ((shardlogref01_Num.f (a0.size : Int)).bind fun t227 => (if a0.size ≤ 9223372036854775807 then ((some (bytesOf a0 : List Int)).bind fun y230 => (if t227.length + y230.length < 140737488355328 then (some (t227 ++ y230)) else (none))) else (none))) = some r := h
 clear h
 replace H := obm H
 obtain ⟨t227, A20, H⟩ := H
 replace H : (if a0.size ≤ 9223372036854775807 then ((some (bytesOf a0 : List Int)).bind fun y230 => (if t227.length + y230.length < 140737488355328 then (some (t227 ++ y230)) else (none))) else (none)) = some r := H
 have A2 := aS A20
 clear A20
 by_cases c3 : a0.size ≤ 9223372036854775807
 ·
  rw [if_pos c3] at H
  have c3b0 := eq_true c3
  have c3b1 : decide (a0.size ≤ 9223372036854775807) = true := decide_eq_true c3
  try have c3b2 : (9223372036854775807 < a0.size) = False := eq_false (Nat.not_lt.2 c3)
  clear c3
  obtain ⟨y230, hy230⟩ : ∃ y_ : List Int, y_ = (bytesOf a0) := ⟨_, rfl⟩
  replace H : (if t227.length + y230.length < 140737488355328 then (some (t227 ++ y230)) else (none)) = some r := by first | (rw [hy230]; with_reducible exact H) | (have H2_ := (Option.bind_some _ _).symm.trans H; rw [hy230]; with_reducible exact H2_) | (have H2_ := (Option.bind_some _ _).symm.trans H; with_reducible exact H2_) | with_reducible exact H | (rw [hy230]; exact H) | exact H
  have Ny230 := aS hy230
  clear hy230
  by_cases c4 : t227.length + y230.length < 140737488355328
  ·
   rw [if_pos c4] at H
   have LMc4 := aS c4
   clear c4
   obtain ⟨y233, hy233⟩ : ∃ y_ : List Int, y_ = (t227 ++ y230) := ⟨_, rfl⟩
   replace H : (some y233) = some r := by first | (rw [hy233]; with_reducible exact H) | (have H2_ := (Option.bind_some _ _).symm.trans H; rw [hy233]; with_reducible exact H2_) | (have H2_ := (Option.bind_some _ _).symm.trans H; with_reducible exact H2_) | with_reducible exact H | (rw [hy233]; exact H) | exact H
   have Ny233 := aS hy233
   clear hy233
   obtain rfl := Option.some.inj H
   go_enter Try.func31, Try.ntmps31
   go_wp2_with (first | ((with_reducible refine gate_callee (f := 32) rfl ?_); refine goesL_ (some 5) rfl rfl Try.func32 (by kernel_rfl) rfl #[.int .i64 (a0.size : Int)] rfl agn ?_; (with_reducible refine (shardlogref01_Num.calls (a0.size : Int) t227 _ A2.out).mono ?_); rintro e w5 ⟨v228, rfl, ho0, hb⟩; refine ⟨_, rfl, ?_⟩; have n0_ := aS (Kd.R_lower ho0 (below_size bel)); have n1_ := bstep hb; clear HB; have HO229 := n0_; have HB := n1_; clear n0_ n1_; (try clear hb); (try clear hb2); (try clear hk); (try clear hi); (try clear ho0)) | ((with_reducible refine gate_dst (N := 7) rfl ?_); refine Kd.V_bytes rfl (N := 7) rfl 9 31 5 _ a0 rfl rfl Try.underlying9 Try.underlying31 Try.underlying5 (odt (by first | (with_reducible assumption) | assumption)) ?_; intro v231 w6 ho7 hb; rw [← Ny230.out] at ho7; have n0_ := aS (Kd.R_below (rel HO229.out) hb); have n1_ := aS (Kd.V_lower (Kd.V_mono (ok' := fun k_ => some k_ ≠ (v228 : Value).ownBlock) ho7 (fun k_ hk_ => (Kd.fresh' (Kd.R_lt (rel HO229.out)) k_ hk_))) (below_size bel)); have n2_ := bstep hb; clear HO229; clear HB; have HO229 := n0_; have HO232 := n1_; have HB := n2_; clear n0_ n1_ n2_; clear hb ho7; obtain ⟨Ao9, co9, eo9⟩ := Kd.V_slice HO232.out; subst eo9) | ((with_reducible refine gate_builtin (b := .append) (xs := #[.tmp 5, .tmp 7]) rfl ?_); at_builtin; refine Kd.R_append_rows (Kd.int .u8) (w0 := w) w.heap.size rfl (.tmp 5) (.tmp 7) 31 5 (.int .u8 0) 1 rfl Try.underlying31 info5 rfl (by decide) (by omega) v228 t227 y230 _ _ _ (fun _ => True) (fun _ => False) rfl rfl ?aO ?aR (fun _ _ h => h) (fun _ h => h.elim) ?aF ?aB ?aS ?aL ?_; (case aR => exact cel ((Kd.V_reads' HO232.out).2.2)); (case aB => exact bel); (case aF => exact (fun _ _ => trivial)); (case aO => exact (rel HO229.out)); (case aS => exact (below_size bel)); (case aL => have := LMc4.out; omega); intro v234 w8 ho hb hg hat; rw [← Ny233.out] at ho; have n0_ := aS (Kd.V_afterv (ok := (fun _ => True)) (by (with_reducible repeat (first | apply Kd.V_alloc | apply Kd.V_drewN | apply Kd.V_drew)); exact Kd.V_mono HO232.out (fun _ hk => ⟨trivial, hk⟩)) hg hat); have n1_ := aS (hb); have n2_ := aS (ho); clear HO232; clear HB; clear HO229; have HO232 := n0_; have HB := n1_; have HO235 := n2_; clear n0_ n1_ n2_; clear ho hb hg hat))
   go_ret
   exact ⟨_, rf3, by (with_reducible repeat (first | apply Kd.R_alloc | apply Kd.R_drewN | apply Kd.R_drew)); exact HO235.out, bel⟩
  ·
   rw [if_neg c4] at H
   exact absurd H (by simp)
 ·
  rw [if_neg c3] at H
  exact absurd H (by simp)

/-! ### shardlogref08_Put: function 13 -/
mutual
def shardlogref08_Put.j0 : Nat → List Int → ByteArray → ByteArray → Int → ByteArray → Bool → Option (List Int)
 | 0, _, _, _, _, _, _ => none
 | k + 1, x3, x237000, x237001, x237002, x237003, x237004 => (shardlogref01_Num.f x237002).bind fun t246 => (if x3.length + t246.length < 140737488355328 then (shardlogref08_Put.j1 k (x3 ++ t246) x237000 x237001 x237002 x237003 x237004) else (none))
def shardlogref08_Put.j1 : Nat → List Int → ByteArray → ByteArray → Int → ByteArray → Bool → Option (List Int)
 | 0, _, _, _, _, _, _ => none
 | k + 1, x3, x237000, x237001, x237002, x237003, x237004 => if x237004 = true then (if x3.length < 140737488355328 then ((some (x3 ++ [1] : List Int)).bind fun y252 => ((shardlogref01_Text.f x237003).bind fun t255 => (if y252.length + t255.length < 140737488355328 then (some (y252 ++ t255)) else (none)))) else (none)) else (if x3.length < 140737488355328 then ((some (x3 ++ [0] : List Int)).bind fun y261 => ((shardlogref01_Text.f x237003).bind fun t264 => (if y261.length + t264.length < 140737488355328 then (some (y261 ++ t264)) else (none)))) else (none))
end
def shardlogref08_Put.f (k : Nat) (a0_0 : ByteArray) (a0_1 : ByteArray) (a0_2 : Int) (a0_3 : ByteArray) (a0_4 : Bool) : Option (List Int) := (shardlogref01_Text.f a0_0).bind fun t237 => ((shardlogref01_Text.f a0_1).bind fun t240 => (if t237.length + t240.length < 140737488355328 then (shardlogref08_Put.j0 k (t237 ++ t240) a0_0 a0_1 a0_2 a0_3 a0_4) else (none)))
theorem shardlogref08_Put.mono_l : ∀ k, (∀ y0 y1 y2 y3 y4 y5, LeO (shardlogref08_Put.j0 k y0 y1 y2 y3 y4 y5) (shardlogref08_Put.j0 (k + 1) y0 y1 y2 y3 y4 y5)) ∧ (∀ y0 y1 y2 y3 y4 y5, LeO (shardlogref08_Put.j1 k y0 y1 y2 y3 y4 y5) (shardlogref08_Put.j1 (k + 1) y0 y1 y2 y3 y4 y5))
 | 0 => ⟨fun _ _ _ _ _ _ r h => by simp [shardlogref08_Put.j0] at h, fun _ _ _ _ _ _ r h => by simp [shardlogref08_Put.j1] at h⟩
 | k + 1 => by
  obtain ⟨ih0, ih1⟩ := shardlogref08_Put.mono_l k
  refine ⟨?_, ?_⟩
  ·
   intro y0 y1 y2 y3 y4 y5
   unfold shardlogref08_Put.j0
   repeat' first
   | (with_reducible exact ih0 _ _ _ _ _ _)
   | (with_reducible exact ih1 _ _ _ _ _ _)
   | (with_reducible exact LeO.refl _)
   | (with_reducible exact LeO.none _)
   | (with_reducible refine LeO.ite ?_ ?_)
   | (with_reducible refine LeO.bind ?_ (fun _ => ?_))
   | exact LeO.none _
   | refine LeO.ite ?_ ?_
   | refine LeO.bind ?_ (fun _ => ?_)
  ·
   intro y0 y1 y2 y3 y4 y5
   unfold shardlogref08_Put.j1
   repeat' first
   | (with_reducible exact ih0 _ _ _ _ _ _)
   | (with_reducible exact ih1 _ _ _ _ _ _)
   | (with_reducible exact LeO.refl _)
   | (with_reducible exact LeO.none _)
   | (with_reducible refine LeO.ite ?_ ?_)
   | (with_reducible refine LeO.bind ?_ (fun _ => ?_))
   | exact LeO.none _
   | refine LeO.ite ?_ ?_
   | refine LeO.bind ?_ (fun _ => ?_)
theorem shardlogref08_Put.mono : ∀ a0 a1 a2 a3 a4 k, LeO (shardlogref08_Put.f k a0 a1 a2 a3 a4) (shardlogref08_Put.f (k + 1) a0 a1 a2 a3 a4) := by
 intro a0 a1 a2 a3 a4 k
 obtain ⟨ih0, ih1⟩ := shardlogref08_Put.mono_l k
 unfold shardlogref08_Put.f
 repeat' first
   | (with_reducible exact ih0 _ _ _ _ _ _)
   | (with_reducible exact ih1 _ _ _ _ _ _)
   | (with_reducible exact LeO.refl _)
   | (with_reducible exact LeO.none _)
   | (with_reducible refine LeO.ite ?_ ?_)
   | (with_reducible refine LeO.bind ?_ (fun _ => ?_))
   | exact LeO.none _
   | refine LeO.ite ?_ ?_
   | refine LeO.bind ?_ (fun _ => ?_)
def shardlogref08_Put.T1 : Bool × List (List Nat × List Nat) := (true, [([], []), ([0], [0]), ([1], [1]), ([], []), ([3], [3]), ([4, 2], [4]), ([2, 5, 5], [2, 5]), ([6, 6, 0, 1, 2, 3, 4, 5, 6], [6])])
def shardlogref08_Put.B1 : List Nat := [0, 1, 3, 0, 8, 31, 63, 127]
theorem shardlogref08_Put.tab1 : rtab .any (opsOf Try.f13 1) = shardlogref08_Put.T1 := by kernel_rfl
theorem shardlogref08_Put.bits1 : waitsOk shardlogref08_Put.T1.2 shardlogref08_Put.B1 = true := by kernel_rfl
set_option maxHeartbeats 8000000 in
set_option maxRecDepth 100000 in
theorem shardlogref08_Put.calls (k : Nat) (a0_0 : ByteArray) (a0_1 : ByteArray) (a0_2 : Int) (a0_3 : ByteArray) (a0_4 : Bool) (r : List Int) (w : World) (h : shardlogref08_Put.f k a0_0 a0_1 a0_2 a0_3 a0_4 = some r) :
  Calls Try.prog 13 #[.agg #[.string a0_0, .string a0_1, .int .i64 a0_2, .string a0_3, .bool a0_4]] w fun e w' => ∃ v0_ : Value, e = .returned (v0_) ∧ Kd.R (Kd.int .u8) 5 w' w.heap.size (fun _ => True) v0_ r ∧ Below w.heap.size w w' := by
 have hu29 := Try.underlying29
 have HB := aS (Below.refl w.heap.size w)
 have H : ((shardlogref01_Text.f a0_0).bind fun t237 => ((shardlogref01_Text.f a0_1).bind fun t240 => (if t237.length + t240.length < 140737488355328 then (shardlogref08_Put.j0 k (t237 ++ t240) a0_0 a0_1 a0_2 a0_3 a0_4) else (none)))) = some r := h
 clear h
 have HC2 := aS H
 clear H
 go_enter Try.func13, Try.ntmps13
 go_upto_region 1 with (first | ((with_reducible refine gate_dst (N := 1) rfl ?_); refine box_event ?hg (N := 1) ?hd (cs := #[.string a0_0, .string a0_1, .int .i64 a0_2, .string a0_3, .bool a0_4]) (t := 29) ?hr ?_; (case hd => rfl); (case hg => rfl); (case hr => first | (go_simp; done) | (go_simp; rfl)); intro gb236 hg w3 hbox hb; have n0_ := bstep hb; have n1_ := aS (hbox); have n2_ := bsize hg; have n3_ := bsize hg; clear HB; have HB := n0_; have BK236 := n1_; have GW236 := n2_; have GE236 := n3_; clear n0_ n1_ n2_ n3_; clear hb hbox hg))
 (try simp only [Act.put, lsa, lsz, lss])
 go_cut [3] (fun v3 wc => ∃ (kq : Nat) (x3_1 : List Int), Aside0 (shardlogref08_Put.j0 kq x3_1 a0_0 a0_1 a0_2 a0_3 a0_4 = some r) ∧ Aside0 (kq ≤ k) ∧ Aside0 (Kd.R (Kd.int .u8) 5 wc w.heap.size (fun _ => True) v3 x3_1) ∧ Aside0 (wc.heap[gb236]? = some (.cells #[.string a0_0, .string a0_1, .int .i64 a0_2, .string a0_3, .bool a0_4] 29 (0, 0))) ∧ Aside0 (Below w.heap.size w wc))
 case first =>
  have H := HC2.out; clear HC2
  replace H := obm H
  obtain ⟨t237, A40, H⟩ := H
  replace H : ((shardlogref01_Text.f a0_1).bind fun t240 => (if t237.length + t240.length < 140737488355328 then (shardlogref08_Put.j0 k (t237 ++ t240) a0_0 a0_1 a0_2 a0_3 a0_4) else (none))) = some r := H
  have A4 := aS A40
  clear A40
  replace H := obm H
  obtain ⟨t240, A50, H⟩ := H
  replace H : (if t237.length + t240.length < 140737488355328 then (shardlogref08_Put.j0 k (t237 ++ t240) a0_0 a0_1 a0_2 a0_3 a0_4) else (none)) = some r := H
  have A5 := aS A50
  clear A50
  by_cases c6 : t237.length + t240.length < 140737488355328
  ·
   rw [if_pos c6] at H
   have LMc6 := aS c6
   clear c6
   obtain ⟨y243, hy243⟩ : ∃ y_ : List Int, y_ = (t237 ++ t240) := ⟨_, rfl⟩
   replace H : (shardlogref08_Put.j0 k y243 a0_0 a0_1 a0_2 a0_3 a0_4) = some r := by first | (rw [hy243]; with_reducible exact H) | (have H2_ := (Option.bind_some _ _).symm.trans H; rw [hy243]; with_reducible exact H2_) | (have H2_ := (Option.bind_some _ _).symm.trans H; with_reducible exact H2_) | with_reducible exact H | (rw [hy243]; exact H) | exact H
   have Ny243 := aS hy243
   clear hy243
   have H' := aS H
   clear H
   try go_wp2
   have n0_ := aS (blk_drew BK236.out)
   have n1_ := aS (bdo HB.out)
   clear BK236; clear HB
   have BK236 := n0_
   have HB := n1_
   clear n0_ n1_
   refine start_ (n := 8) (S := fun w' => w'.cell? ⟨gb236, 0, none⟩ = some (.string a0_0) ∧ w'.cell? ⟨gb236, 1, none⟩ = some (.string a0_1) ∧ w'.cell? ⟨gb236, 2, none⟩ = some (.int .i64 a0_2) ∧ w'.cell? ⟨gb236, 3, none⟩ = some (.string a0_3) ∧ w'.cell? ⟨gb236, 4, none⟩ = some (.bool a0_4)) (ds := []) #[false, false, false, false, false, false, false, false] (by kernel_rfl) rfl rfl ⟨(blk_cell BK236.out 0).trans rfl, (blk_cell BK236.out 1).trans rfl, (blk_cell BK236.out 2).trans rfl, (blk_cell BK236.out 3).trans rfl, (blk_cell BK236.out 4).trans rfl⟩ (fun hHeld => ?_); refine with_tabW shardlogref08_Put.tab1 shardlogref08_Put.bits1 (fun HT_ HW_ => ?_)
   generalize w3.drew = w7 at BK236 HB hHeld ⊢
   refine along_ [(0, 4), (3, 7), (1, 5), (4, 8)] ?_
   iterate 4 (first | (apply pure1 HT_; (case hi => rfl); (case hN => rfl); (case hw => rfl); (case hc => kernel_rfl); (case hQ => exact fun _ _ _ h => h); (case hy => intro w'; go_simp; with_reducible rfl); (case ha => simp only [Act.put, lsa, lsz, lss, i64_w, i32_w]; rfl)) | (apply take1 HT_ HW_ hHeld; (case hi => rfl); (case hN => rfl); (case hw => rfl); (case hc => kernel_rfl); (case hQ => exact fun _ _ _ h => h); (case hy => intro w' hs_; go_simp; with_reducible rfl); (case ha => simp only [Act.put, lsa, lsz, lss, i64_w, i32_w]; rfl)))
   refine lay_ #[true, true, false, true, true, false, false, false] (by kernel_rfl) ?_
   refine one_ (i := 2) (N := some 6) #[true, true, true, true, true, false, false, false] rfl rfl (one_of HT_.out (by kernel_rfl)) (by decide) (fun K hK => ?_)
   refine goes_ Try.func31 (by kernel_rfl) rfl #[.string a0_0] (by rfl) rfl rfl agn ?_
   with_reducible refine (shardlogref01_Text.calls a0_0 t237 _ A4.out).mono ?_
   rintro e w8 ⟨v238, rfl, ho0, hb⟩
   refine ⟨_, rfl, ?_⟩
   have n0_ := aS (Kd.R_lower ho0 (below_size bel))
   have n1_ := aS (blk_below (g := gb236) (o := .cells #[.string a0_0, .string a0_1, .int .i64 a0_2, .string a0_3, .bool a0_4] 29 (0, 0)) (bkl BK236.out) hb)
   have n2_ := bstep hb
   clear BK236; clear HB
   have HO239 := n0_
   have BK236 := n1_
   have HB := n2_
   clear n0_ n1_ n2_; (try clear hb); (try clear hb2); (try clear hk); (try clear hi); (try clear ho0)
   refine hK.out _ _ ⟨(blk_cell BK236.out 0).trans rfl, (blk_cell BK236.out 1).trans rfl, (blk_cell BK236.out 2).trans rfl, (blk_cell BK236.out 3).trans rfl, (blk_cell BK236.out 4).trans rfl⟩ (fun hHeld => ?_)
   clear hK K
   refine norm_ (a' := ?_) ?_ ?_
   rotate_left
   ·
    show Act.put _ (some 6) _ = _
    simp only [Act.put, lsa, lsz, lss, i64_w, i32_w]
    rfl
   refine one_ (i := 5) (N := some 9) #[true, true, true, true, true, true, false, false] rfl rfl (one_of HT_.out (by kernel_rfl)) (by decide) (fun K hK => ?_)
   refine goes_ Try.func31 (by kernel_rfl) rfl #[.string a0_1] (by rfl) rfl rfl agn ?_
   with_reducible refine (shardlogref01_Text.calls a0_1 t240 _ A5.out).mono ?_
   rintro e w9 ⟨v241, rfl, ho0, hb⟩
   refine ⟨_, rfl, ?_⟩
   have n0_ := aS (Kd.R_elder' (rel HO239.out) (by first | exact Kd.R_base ho0 | exact Kd.S_base ho0 | exact Kd.R_base ho0 | exact Kd.V_base ho0) hb)
   have n1_ := aS (Kd.R_lower (Kd.R_new' ho0 (Kd.R_lt (rel HO239.out))) (below_size bel))
   have n2_ := aS (blk_below (g := gb236) (o := .cells #[.string a0_0, .string a0_1, .int .i64 a0_2, .string a0_3, .bool a0_4] 29 (0, 0)) (bkl BK236.out) hb)
   have n3_ := bstep hb
   clear HO239; clear BK236; clear HB
   have HO239 := n0_
   have HO242 := n1_
   have BK236 := n2_
   have HB := n3_
   clear n0_ n1_ n2_ n3_; (try clear hb); (try clear hb2); (try clear hk); (try clear hi); (try clear ho0)
   obtain ⟨Ao11, co11, eo11⟩ := Kd.R_slice HO242.out
   (first | subst eo11 | (injection eo11 with f1_ f2_ f3_; have f4_ := f1_.symm; have f5_ := f3_.symm; clear f1_ f2_ f3_; subst f4_; subst f5_))
   refine hK.out _ _ ⟨(blk_cell BK236.out 0).trans rfl, (blk_cell BK236.out 1).trans rfl, (blk_cell BK236.out 2).trans rfl, (blk_cell BK236.out 3).trans rfl, (blk_cell BK236.out 4).trans rfl⟩ (fun hHeld => ?_)
   clear hK K
   refine norm_ (a' := ?_) ?_ ?_
   rotate_left
   ·
    show Act.put _ (some 9) _ = _
    simp only [Act.put, lsa, lsz, lss, i64_w, i32_w]
    rfl
   refine one_ (i := 6) (N := some 10) #[true, true, true, true, true, true, true, false] rfl rfl (one_of HT_.out (by kernel_rfl)) (by decide) (fun K hK => ?_)
   refine Kd.R_append_rows_step (Kd.int .u8) (w0 := w) w.heap.size (by rfl) (.tmp 6) (.tmp 9) 31 5 (.int .u8 0) 1 rfl Try.underlying31 info5 rfl (by decide) (by omega) v238 t237 t240 _ _ _ (fun k_ => some k_ ≠ (.slice Ao11 t240.length co11 : Value).ownBlock) (fun _ => False) rfl rfl ?aO ?aR (fun _ _ h => h) (fun _ h => h.elim) ?aF ?aB ?aS ?aL ?_
   (case aR => exact cel ((Kd.R_reads' HO242.out).2.2))
   (case aB => exact bel)
   (case aF => exact (fun k_ hk => Kd.fresh' (Kd.R_lt (rel HO242.out)) k_ hk))
   (case aO => exact (rel (Kd.R_mono HO239.out (fun _ hk => hk.2))))
   (case aS => exact (below_size bel))
   (case aL => have := LMc6.out; omega)
   intro v244 w10 ho hb hg hat
   rw [← Ny243.out] at ho
   have n0_ := aS (blk_grown (g := gb236) (o := .cells #[.string a0_0, .string a0_1, .int .i64 a0_2, .string a0_3, .bool a0_4] 29 (0, 0)) (bkl BK236.out) hg (Kd.R_ne HO239.out BK236.out (by decide)))
   have n1_ := aS (Kd.R_after (ok := (fun _ => True)) (rel HO242.out) hg hat)
   have n2_ := aS (hb)
   have n3_ := aS (ho)
   clear BK236; clear HO242; clear HB; clear HO239
   have BK236 := n0_
   have HO242 := n1_
   have HB := n2_
   have HO245 := n3_
   clear n0_ n1_ n2_ n3_; clear ho hb hg hat
   refine hK.out _ _ ⟨(blk_cell BK236.out 0).trans rfl, (blk_cell BK236.out 1).trans rfl, (blk_cell BK236.out 2).trans rfl, (blk_cell BK236.out 3).trans rfl, (blk_cell BK236.out 4).trans rfl⟩ (fun hHeld => ?_)
   clear hK K
   refine norm_ (a' := ?_) ?_ ?_
   rotate_left
   ·
    show Act.put _ (some 10) _ = _
    simp only [Act.put, lsa, lsz, lss, i64_w, i32_w]
    rfl
   refine pure_ (i := 7) (N := some 3) (v := ?_) (a' := ?_) #[true, true, true, true, true, true, true, true] rfl rfl (any_of HT_.out (by kernel_rfl)) (fun _ _ _ h => h) (Or.inl ⟨by rfl, ?_⟩) ?_ ?_
   rotate_left
   ·
    intro w'
    go_simp
    with_reducible rfl
   rotate_left
   ·
    simp only [Act.put, lsa, lsz, lss, i64_w, i32_w]
    rfl
   refine done_ (done_of HT_.out (by kernel_rfl)) ?_
   try go_wp2
   go_meet
   case rel => exact ⟨_, (y243), H', ⟨by first | omega | exact Nat.le_refl _⟩, ⟨by (with_reducible repeat (first | apply Kd.R_alloc | apply Kd.R_drewN | apply Kd.R_drew)); exact Kd.R_mono HO245.out (fun _ hk => trivial)⟩, ⟨by (with_reducible repeat (first | refine blk_drewN ?_ _ | refine blk_drew ?_ | refine blk_alloc ?_ _)); exact BK236.out⟩, ⟨bel⟩⟩
  ·
   rw [if_neg c6] at H
   exact absurd H (by simp)
 case rest =>
  clear HC2; (try clear c1); (try clear p2); (try clear c3); (try clear c6)
  obtain ⟨kq, x3_1, HA, HJ1, HO_3, BK236, HB⟩ := hcut
  cases kq with
  | zero => exact absurd HA.out (by simp [shardlogref08_Put.j0])
  | succ kj1 =>
   have H := HA.out; clear HA
   simp only [shardlogref08_Put.j0] at H
   have HC12 := aS H
   clear H
   go_upto_region 2 with (fail)
   go_cut [3] (fun v3 wc => ∃ (kq : Nat) (x3_11 : List Int), Aside0 (shardlogref08_Put.j1 kq x3_11 a0_0 a0_1 a0_2 a0_3 a0_4 = some r) ∧ Aside0 (kq ≤ kj1) ∧ Aside0 (Kd.R (Kd.int .u8) 5 wc w.heap.size (fun _ => True) v3 x3_11) ∧ Aside0 (wc.heap[gb236]? = some (.cells #[.string a0_0, .string a0_1, .int .i64 a0_2, .string a0_3, .bool a0_4] 29 (0, 0))) ∧ Aside0 (Below w.heap.size w wc))
   case first =>
    have H := HC12.out; clear HC12
    replace H := obm H
    obtain ⟨t246, A130, H⟩ := H
    replace H : (if x3_1.length + t246.length < 140737488355328 then (shardlogref08_Put.j1 kj1 (x3_1 ++ t246) a0_0 a0_1 a0_2 a0_3 a0_4) else (none)) = some r := H
    have A13 := aS A130
    clear A130
    by_cases c14 : x3_1.length + t246.length < 140737488355328
    ·
     rw [if_pos c14] at H
     have LMc14 := aS c14
     clear c14
     obtain ⟨y249, hy249⟩ : ∃ y_ : List Int, y_ = (x3_1 ++ t246) := ⟨_, rfl⟩
     replace H : (shardlogref08_Put.j1 kj1 y249 a0_0 a0_1 a0_2 a0_3 a0_4) = some r := by first | (rw [hy249]; with_reducible exact H) | (have H2_ := (Option.bind_some _ _).symm.trans H; rw [hy249]; with_reducible exact H2_) | (have H2_ := (Option.bind_some _ _).symm.trans H; with_reducible exact H2_) | with_reducible exact H | (rw [hy249]; exact H) | exact H
     have Ny249 := aS hy249
     clear hy249
     have H' := aS H
     clear H
     have hcz15 := cK5 BK236
     go_wp2_with (first | ((with_reducible refine gate_callee (f := 32) rfl ?_); refine goesL_ (some 14) rfl rfl Try.func32 (by kernel_rfl) rfl #[.int .i64 a0_2] rfl agn ?_; (with_reducible refine (shardlogref01_Num.calls a0_2 t246 _ A13.out).mono ?_); rintro e w16 ⟨v247, rfl, ho0, hb⟩; refine ⟨_, rfl, ?_⟩; have n0_ := aS (Kd.R_elder' (rel HO_3.out) (by first | exact Kd.R_base ho0 | exact Kd.S_base ho0 | exact Kd.R_base ho0 | exact Kd.V_base ho0) hb); have n1_ := aS (Kd.R_lower (Kd.R_new' ho0 (Kd.R_lt (rel HO_3.out))) (below_size bel)); have n2_ := aS (blk_below (g := gb236) (o := .cells #[.string a0_0, .string a0_1, .int .i64 a0_2, .string a0_3, .bool a0_4] 29 (0, 0)) (bkl BK236.out) hb); have n3_ := bstep hb; clear HO_3; clear BK236; clear HB; have HO_3 := n0_; have HO248 := n1_; have BK236 := n2_; have HB := n3_; clear n0_ n1_ n2_ n3_; (try clear hb); (try clear hb2); (try clear hk); (try clear hi); (try clear ho0); obtain ⟨Ao18, co18, eo18⟩ := Kd.R_slice HO248.out; subst eo18) | ((with_reducible refine gate_builtin (b := .append) (xs := #[.tmp 11, .tmp 14]) rfl ?_); at_builtin; refine Kd.R_append_rows (Kd.int .u8) (w0 := w) w.heap.size rfl (.tmp 11) (.tmp 14) 31 5 (.int .u8 0) 1 rfl Try.underlying31 info5 rfl (by decide) (by omega) u3 x3_1 t246 _ _ _ (fun k_ => some k_ ≠ (.slice Ao18 t246.length co18 : Value).ownBlock) (fun _ => False) rfl rfl ?aO ?aR (fun _ _ h => h) (fun _ h => h.elim) ?aF ?aB ?aS ?aL ?_; (case aR => exact cel ((Kd.R_reads' HO248.out).2.2)); (case aB => exact bel); (case aF => exact (fun k_ hk => Kd.fresh' (Kd.R_lt (rel HO248.out)) k_ hk)); (case aO => exact (rel (Kd.R_mono HO_3.out (fun _ hk => hk.2)))); (case aS => exact (below_size bel)); (case aL => have := LMc14.out; omega); intro v250 w17 ho hb hg hat; rw [← Ny249.out] at ho; have n0_ := aS (blk_grown (g := gb236) (o := .cells #[.string a0_0, .string a0_1, .int .i64 a0_2, .string a0_3, .bool a0_4] 29 (0, 0)) (bkl BK236.out) hg (Kd.R_ne HO_3.out BK236.out (by decide))); have n1_ := aS (Kd.R_after (ok := (fun _ => True)) (rel HO248.out) hg hat); have n2_ := aS (hb); have n3_ := aS (ho); clear BK236; clear HO248; clear HB; clear HO_3; have BK236 := n0_; have HO248 := n1_; have HB := n2_; have HO251 := n3_; clear n0_ n1_ n2_ n3_; clear ho hb hg hat))
     go_meet
     case rel => exact ⟨_, (y249), H', ⟨by have := HJ1.out; first | omega | exact Nat.le_refl _⟩, ⟨by (with_reducible repeat (first | apply Kd.R_alloc | apply Kd.R_drewN | apply Kd.R_drew)); exact Kd.R_mono HO251.out (fun _ hk => trivial)⟩, ⟨by (with_reducible repeat (first | refine blk_drewN ?_ _ | refine blk_drew ?_ | refine blk_alloc ?_ _)); exact BK236.out⟩, ⟨bel⟩⟩
    ·
     rw [if_neg c14] at H
     exact absurd H (by simp)
   case rest =>
    clear HC12; (try clear c1); (try clear p2); (try clear c3); (try clear c6); (try clear c13); (try clear c14); (try clear hcz15)
    obtain ⟨kq, x3_11, HA, HJ11, HO_3, BK236, HB⟩ := hcut
    cases kq with
    | zero => exact absurd HA.out (by simp [shardlogref08_Put.j1])
    | succ kj11 =>
     have H := HA.out; clear HA
     simp only [shardlogref08_Put.j1] at H
     by_cases c19 : a0_4 = true
     ·
      subst c19
      have H1 : (if x3_11.length < 140737488355328 then ((some (x3_11 ++ [1] : List Int)).bind fun y252 => ((shardlogref01_Text.f a0_3).bind fun t255 => (if y252.length + t255.length < 140737488355328 then (some (y252 ++ t255)) else (none)))) else (none)) = some r := by rw [if_pos rfl] at H; exact H
      clear H; have H := H1; clear H1
      by_cases c20 : x3_11.length < 140737488355328
      ·
       rw [if_pos c20] at H
       have LMc20 := aS c20
       clear c20
       obtain ⟨y252, hy252⟩ : ∃ y_ : List Int, y_ = (x3_11 ++ [1]) := ⟨_, rfl⟩
       replace H : ((shardlogref01_Text.f a0_3).bind fun t255 => (if y252.length + t255.length < 140737488355328 then (some (y252 ++ t255)) else (none))) = some r := by first | (rw [hy252]; with_reducible exact H) | (have H2_ := (Option.bind_some _ _).symm.trans H; rw [hy252]; with_reducible exact H2_) | (have H2_ := (Option.bind_some _ _).symm.trans H; with_reducible exact H2_) | with_reducible exact H | (rw [hy252]; exact H) | exact H
       have Ny252 := aS hy252
       clear hy252
       replace H := obm H
       obtain ⟨t255, A210, H⟩ := H
       replace H : (if y252.length + t255.length < 140737488355328 then (some (y252 ++ t255)) else (none)) = some r := H
       have A21 := aS A210
       clear A210
       by_cases c22 : y252.length + t255.length < 140737488355328
       ·
        rw [if_pos c22] at H
        have LMc22 := aS c22
        clear c22
        obtain ⟨y258, hy258⟩ : ∃ y_ : List Int, y_ = (y252 ++ t255) := ⟨_, rfl⟩
        replace H : (some y258) = some r := by first | (rw [hy258]; with_reducible exact H) | (have H2_ := (Option.bind_some _ _).symm.trans H; rw [hy258]; with_reducible exact H2_) | (have H2_ := (Option.bind_some _ _).symm.trans H; with_reducible exact H2_) | with_reducible exact H | (rw [hy258]; exact H) | exact H
        have Ny258 := aS hy258
        clear hy258
        obtain rfl := Option.some.inj H
        have hcz23 := cK5 BK236
        go_wp2_with (first | ((with_reducible refine gate_builtin (b := .append) (xs := #[.tmp 18, .tmp 19]) rfl ?_); at_builtin; refine Kd.R_append (Kd.int .u8) (w0 := w) w.heap.size rfl (.tmp 18) (.tmp 19) 31 5 (.int .u8 0) 1 rfl Try.underlying31 info5 rfl (by decide) (by omega) u3 x3_11 1 [.int .u8 1] (fun _ => True) (fun _ => False) rfl rfl ?aP (fun _ hk => hk.elim) ?aF ?aO ?aB ?aS ?aL ?_; (case aP => exact rfl); (case aB => exact bel); (case aF => exact (fun _ _ => trivial)); (case aO => exact (rel HO_3.out)); (case aS => exact (below_size bel)); (case aL => have := LMc20.out; omega); intro v253 w24 ho hb hg hat; rw [← Ny252.out] at ho; have n0_ := aS (blk_grown (g := gb236) (o := .cells #[.string a0_0, .string a0_1, .int .i64 a0_2, .string a0_3, .bool true] 29 (0, 0)) (bkl BK236.out) hg (Kd.R_ne HO_3.out BK236.out (by decide))); have n1_ := aS (hb); have n2_ := aS (ho); clear BK236; clear HB; clear HO_3; have BK236 := n0_; have HB := n1_; have HO254 := n2_; clear n0_ n1_ n2_; clear ho hb hg hat; have hcz25 := cK5 BK236) | ((with_reducible refine gate_callee (f := 31) rfl ?_); refine goesL_ (some 27) rfl rfl Try.func31 (by kernel_rfl) rfl #[.string a0_3] rfl agn ?_; (with_reducible refine (shardlogref01_Text.calls a0_3 t255 _ A21.out).mono ?_); rintro e w26 ⟨v256, rfl, ho0, hb⟩; refine ⟨_, rfl, ?_⟩; have n0_ := aS (Kd.R_elder' (rel HO254.out) (by first | exact Kd.R_base ho0 | exact Kd.S_base ho0 | exact Kd.R_base ho0 | exact Kd.V_base ho0) hb); have n1_ := aS (Kd.R_lower (Kd.R_new' ho0 (Kd.R_lt (rel HO254.out))) (below_size bel)); have n2_ := aS (blk_below (g := gb236) (o := .cells #[.string a0_0, .string a0_1, .int .i64 a0_2, .string a0_3, .bool true] 29 (0, 0)) (bkl BK236.out) hb); have n3_ := bstep hb; clear HO254; clear BK236; clear HB; have HO254 := n0_; have HO257 := n1_; have BK236 := n2_; have HB := n3_; clear n0_ n1_ n2_ n3_; (try clear hb); (try clear hb2); (try clear hk); (try clear hi); (try clear ho0); obtain ⟨Ao28, co28, eo28⟩ := Kd.R_slice HO257.out; subst eo28) | ((with_reducible refine gate_builtin (b := .append) (xs := #[.tmp 24, .tmp 27]) rfl ?_); at_builtin; refine Kd.R_append_rows (Kd.int .u8) (w0 := w) w.heap.size rfl (.tmp 24) (.tmp 27) 31 5 (.int .u8 0) 1 rfl Try.underlying31 info5 rfl (by decide) (by omega) v253 y252 t255 _ _ _ (fun k_ => some k_ ≠ (.slice Ao28 t255.length co28 : Value).ownBlock) (fun _ => False) rfl rfl ?aO ?aR (fun _ _ h => h) (fun _ h => h.elim) ?aF ?aB ?aS ?aL ?_; (case aR => exact cel ((Kd.R_reads' HO257.out).2.2)); (case aB => exact bel); (case aF => exact (fun k_ hk => Kd.fresh' (Kd.R_lt (rel HO257.out)) k_ hk)); (case aO => exact (rel (Kd.R_mono HO254.out (fun _ hk => hk.2)))); (case aS => exact (below_size bel)); (case aL => have := LMc22.out; omega); intro v259 w27 ho hb hg hat; rw [← Ny258.out] at ho; have n0_ := aS (blk_grown (g := gb236) (o := .cells #[.string a0_0, .string a0_1, .int .i64 a0_2, .string a0_3, .bool true] 29 (0, 0)) (bkl BK236.out) hg (Kd.R_ne HO254.out BK236.out (by decide))); have n1_ := aS (Kd.R_after (ok := (fun _ => True)) (rel HO257.out) hg hat); have n2_ := aS (hb); have n3_ := aS (ho); clear BK236; clear HO257; clear HB; clear HO254; have BK236 := n0_; have HO257 := n1_; have HB := n2_; have HO260 := n3_; clear n0_ n1_ n2_ n3_; clear ho hb hg hat))
        go_ret
        exact ⟨_, rf3, by (with_reducible repeat (first | apply Kd.R_alloc | apply Kd.R_drewN | apply Kd.R_drew)); exact Kd.R_mono HO260.out (fun _ hk => trivial), bel⟩
       ·
        rw [if_neg c22] at H
        exact absurd H (by simp)
      ·
       rw [if_neg c20] at H
       exact absurd H (by simp)
     ·
      replace c19 := Bool.eq_false_iff.mpr c19
      subst c19
      have H1 : (if x3_11.length < 140737488355328 then ((some (x3_11 ++ [0] : List Int)).bind fun y261 => ((shardlogref01_Text.f a0_3).bind fun t264 => (if y261.length + t264.length < 140737488355328 then (some (y261 ++ t264)) else (none)))) else (none)) = some r := by rw [if_neg (show ¬ (false = true) by decide)] at H; exact H
      clear H; have H := H1; clear H1
      by_cases c29 : x3_11.length < 140737488355328
      ·
       rw [if_pos c29] at H
       have LMc29 := aS c29
       clear c29
       obtain ⟨y261, hy261⟩ : ∃ y_ : List Int, y_ = (x3_11 ++ [0]) := ⟨_, rfl⟩
       replace H : ((shardlogref01_Text.f a0_3).bind fun t264 => (if y261.length + t264.length < 140737488355328 then (some (y261 ++ t264)) else (none))) = some r := by first | (rw [hy261]; with_reducible exact H) | (have H2_ := (Option.bind_some _ _).symm.trans H; rw [hy261]; with_reducible exact H2_) | (have H2_ := (Option.bind_some _ _).symm.trans H; with_reducible exact H2_) | with_reducible exact H | (rw [hy261]; exact H) | exact H
       have Ny261 := aS hy261
       clear hy261
       replace H := obm H
       obtain ⟨t264, A300, H⟩ := H
       replace H : (if y261.length + t264.length < 140737488355328 then (some (y261 ++ t264)) else (none)) = some r := H
       have A30 := aS A300
       clear A300
       by_cases c31 : y261.length + t264.length < 140737488355328
       ·
        rw [if_pos c31] at H
        have LMc31 := aS c31
        clear c31
        obtain ⟨y267, hy267⟩ : ∃ y_ : List Int, y_ = (y261 ++ t264) := ⟨_, rfl⟩
        replace H : (some y267) = some r := by first | (rw [hy267]; with_reducible exact H) | (have H2_ := (Option.bind_some _ _).symm.trans H; rw [hy267]; with_reducible exact H2_) | (have H2_ := (Option.bind_some _ _).symm.trans H; with_reducible exact H2_) | with_reducible exact H | (rw [hy267]; exact H) | exact H
        have Ny267 := aS hy267
        clear hy267
        obtain rfl := Option.some.inj H
        have hcz32 := cK5 BK236
        go_wp2_with (first | ((with_reducible refine gate_builtin (b := .append) (xs := #[.tmp 21, .tmp 22]) rfl ?_); at_builtin; refine Kd.R_append (Kd.int .u8) (w0 := w) w.heap.size rfl (.tmp 21) (.tmp 22) 31 5 (.int .u8 0) 1 rfl Try.underlying31 info5 rfl (by decide) (by omega) u3 x3_11 0 [.int .u8 0] (fun _ => True) (fun _ => False) rfl rfl ?aP (fun _ hk => hk.elim) ?aF ?aO ?aB ?aS ?aL ?_; (case aP => exact rfl); (case aB => exact bel); (case aF => exact (fun _ _ => trivial)); (case aO => exact (rel HO_3.out)); (case aS => exact (below_size bel)); (case aL => have := LMc29.out; omega); intro v262 w33 ho hb hg hat; rw [← Ny261.out] at ho; have n0_ := aS (blk_grown (g := gb236) (o := .cells #[.string a0_0, .string a0_1, .int .i64 a0_2, .string a0_3, .bool false] 29 (0, 0)) (bkl BK236.out) hg (Kd.R_ne HO_3.out BK236.out (by decide))); have n1_ := aS (hb); have n2_ := aS (ho); clear BK236; clear HB; clear HO_3; have BK236 := n0_; have HB := n1_; have HO263 := n2_; clear n0_ n1_ n2_; clear ho hb hg hat; have hcz34 := cK5 BK236) | ((with_reducible refine gate_callee (f := 31) rfl ?_); refine goesL_ (some 27) rfl rfl Try.func31 (by kernel_rfl) rfl #[.string a0_3] rfl agn ?_; (with_reducible refine (shardlogref01_Text.calls a0_3 t264 _ A30.out).mono ?_); rintro e w35 ⟨v265, rfl, ho0, hb⟩; refine ⟨_, rfl, ?_⟩; have n0_ := aS (Kd.R_elder' (rel HO263.out) (by first | exact Kd.R_base ho0 | exact Kd.S_base ho0 | exact Kd.R_base ho0 | exact Kd.V_base ho0) hb); have n1_ := aS (Kd.R_lower (Kd.R_new' ho0 (Kd.R_lt (rel HO263.out))) (below_size bel)); have n2_ := aS (blk_below (g := gb236) (o := .cells #[.string a0_0, .string a0_1, .int .i64 a0_2, .string a0_3, .bool false] 29 (0, 0)) (bkl BK236.out) hb); have n3_ := bstep hb; clear HO263; clear BK236; clear HB; have HO263 := n0_; have HO266 := n1_; have BK236 := n2_; have HB := n3_; clear n0_ n1_ n2_ n3_; (try clear hb); (try clear hb2); (try clear hk); (try clear hi); (try clear ho0); obtain ⟨Ao37, co37, eo37⟩ := Kd.R_slice HO266.out; subst eo37) | ((with_reducible refine gate_builtin (b := .append) (xs := #[.tmp 24, .tmp 27]) rfl ?_); at_builtin; refine Kd.R_append_rows (Kd.int .u8) (w0 := w) w.heap.size rfl (.tmp 24) (.tmp 27) 31 5 (.int .u8 0) 1 rfl Try.underlying31 info5 rfl (by decide) (by omega) v262 y261 t264 _ _ _ (fun k_ => some k_ ≠ (.slice Ao37 t264.length co37 : Value).ownBlock) (fun _ => False) rfl rfl ?aO ?aR (fun _ _ h => h) (fun _ h => h.elim) ?aF ?aB ?aS ?aL ?_; (case aR => exact cel ((Kd.R_reads' HO266.out).2.2)); (case aB => exact bel); (case aF => exact (fun k_ hk => Kd.fresh' (Kd.R_lt (rel HO266.out)) k_ hk)); (case aO => exact (rel (Kd.R_mono HO263.out (fun _ hk => hk.2)))); (case aS => exact (below_size bel)); (case aL => have := LMc31.out; omega); intro v268 w36 ho hb hg hat; rw [← Ny267.out] at ho; have n0_ := aS (blk_grown (g := gb236) (o := .cells #[.string a0_0, .string a0_1, .int .i64 a0_2, .string a0_3, .bool false] 29 (0, 0)) (bkl BK236.out) hg (Kd.R_ne HO263.out BK236.out (by decide))); have n1_ := aS (Kd.R_after (ok := (fun _ => True)) (rel HO266.out) hg hat); have n2_ := aS (hb); have n3_ := aS (ho); clear BK236; clear HO266; clear HB; clear HO263; have BK236 := n0_; have HO266 := n1_; have HB := n2_; have HO269 := n3_; clear n0_ n1_ n2_ n3_; clear ho hb hg hat))
        go_ret
        exact ⟨_, rf3, by (with_reducible repeat (first | apply Kd.R_alloc | apply Kd.R_drewN | apply Kd.R_drew)); exact Kd.R_mono HO269.out (fun _ hk => trivial), bel⟩
       ·
        rw [if_neg c31] at H
        exact absurd H (by simp)
      ·
       rw [if_neg c29] at H
       exact absurd H (by simp)

/-! ### shardlogref08_Same: function 14 -/
def shardlogref08_Same.l0 : Nat → List (S29) → List (S29) → Int → Option (Bool)
 | 0, _, _, _ => none
 | k + 1, x0, x1, x5 => if x5 < (x0.length : Int) then (if 0 ≤ x5 then (if x5 < (x1.length : Int) then (if (!((((rd_T29 x0 x5).f0).toList) == (((rd_T29 x1 x5).f0).toList)) || (!((((rd_T29 x0 x5).f1).toList) == (((rd_T29 x1 x5).f1).toList)) || (!(((rd_T29 x0 x5).f2) == ((rd_T29 x1 x5).f2)) || (!((((rd_T29 x0 x5).f3).toList) == (((rd_T29 x1 x5).f3).toList)) || (!(((rd_T29 x0 x5).f4) == ((rd_T29 x1 x5).f4))))))) = true then (some false) else (shardlogref08_Same.l0 k x0 x1 (wrap64 (x5 + 1)))) else (none)) else (none)) else (some true)
def shardlogref08_Same.f (k : Nat) (l0 : List (S29)) (l1 : List (S29)) : Option (Bool) := if (l0.length : Int) = (l1.length : Int) then (shardlogref08_Same.l0 k l0 l1 0) else (some false)
theorem shardlogref08_Same.mono_l : ∀ k, (∀ y0 y1 y2, LeO (shardlogref08_Same.l0 k y0 y1 y2) (shardlogref08_Same.l0 (k + 1) y0 y1 y2))
 | 0 => fun _ _ _ r h => by simp [shardlogref08_Same.l0] at h
 | k + 1 => by
  have ih0 := shardlogref08_Same.mono_l k
  ·
   intro y0 y1 y2
   unfold shardlogref08_Same.l0
   repeat' first
   | (with_reducible exact ih0 _ _ _)
   | (with_reducible exact LeO.refl _)
   | (with_reducible exact LeO.none _)
   | (with_reducible refine LeO.ite ?_ ?_)
   | (with_reducible refine LeO.bind ?_ (fun _ => ?_))
   | exact LeO.none _
   | refine LeO.ite ?_ ?_
   | refine LeO.bind ?_ (fun _ => ?_)
theorem shardlogref08_Same.mono : ∀ a0 a1 k, LeO (shardlogref08_Same.f k a0 a1) (shardlogref08_Same.f (k + 1) a0 a1) := by
 intro a0 a1 k
 have ih0 := shardlogref08_Same.mono_l k
 unfold shardlogref08_Same.f
 repeat' first
   | (with_reducible exact ih0 _ _ _)
   | (with_reducible exact LeO.refl _)
   | (with_reducible exact LeO.none _)
   | (with_reducible refine LeO.ite ?_ ?_)
   | (with_reducible refine LeO.bind ?_ (fun _ => ?_))
   | exact LeO.none _
   | refine LeO.ite ?_ ?_
   | refine LeO.bind ?_ (fun _ => ?_)
set_option maxHeartbeats 8000000 in
set_option maxRecDepth 100000 in
theorem shardlogref08_Same.calls (k : Nat) (A0 : Option Addr) (c0 : Nat) (l0 : List (S29)) (A1 : Option Addr) (c1 : Nat) (l1 : List (S29)) (r : Bool) (w : World) (hr0 : Kd.C k29 w A0 l0.length l0) (hc0 : l0.length ≤ c0) (hr1 : Kd.C k29 w A1 l1.length l1) (hc1 : l1.length ≤ c1) (h : shardlogref08_Same.f k l0 l1 = some r) :
  Calls Try.prog 14 #[.slice A0 l0.length c0, .slice A1 l1.length c1] w fun e w' => e = .returned (.bool r) ∧ Drawn0 w w' := by
 have hu29 := Try.underlying29
 have HR0 := aS hr0
 have HC0 := aS hc0
 clear hr0 hc0
 have HR1 := aS hr1
 have HC1 := aS hc1
 clear hr1 hc1
 have H : (if (l0.length : Int) = (l1.length : Int) then (shardlogref08_Same.l0 k l0 l1 0) else (some false)) = some r := h
 clear h
 by_cases c3 : (l0.length : Int) = (l1.length : Int)
 ·
  rw [if_pos c3] at H
  obtain ⟨c3b0, c3b1⟩ := eqT c3
  have c3b2 : (l0.length == l1.length) = true := by first | simpa using c3 | (simp at c3 ⊢; omega)
  clear c3
  have H' := aS H
  clear H
  go_enter Try.func14, Try.ntmps14
  go_wp2
  repeat (go_quiet (fail); try go_wp2)
  go_loopg [5] k (fun kq v5 w' => ∃ (x5_1 : Int), v5 = .int .i64 x5_1 ∧ Aside0 (shardlogref08_Same.l0 kq l0 l1 x5_1 = some r) ∧ Aside0 (kq ≤ k) ∧ Drawn0 w w')
  case atStart => exact ⟨(0), (by first | rfl | (simp; done) | (simp [*]; done) | (simp; exact (by decide : ∀ a_ b_ : Bool, (a_ == b_) = (!a_ != b_)) _ _)), H', ⟨Nat.le_refl _⟩, by repeat (first | exact Drawn0.refl _ | apply Drawn0.step)⟩
  case round =>
   clear H'; (try clear c1); (try clear p2); (try clear c3); (try clear c3b0); (try clear c3b1); (try clear c3b2)
   obtain ⟨x5_1, rfl, HA, HK1, ⟨m1, rfl⟩⟩ := hrel
   cases gk with
   | zero => exact absurd HA.out (by simp [shardlogref08_Same.l0])
   | succ k1 =>
    have H := HA.out; clear HA
    simp only [shardlogref08_Same.l0] at H
    by_cases c4 : x5_1 < (l0.length : Int)
    ·
     rw [if_pos c4] at H
     have c4b0 : decide (x5_1 < (l0.length : Int)) = true := decide_eq_true c4
     clear c4
     by_cases c5 : 0 ≤ x5_1
     ·
      rw [if_pos c5] at H
      have c5b0 : decide (0 ≤ x5_1) = true := decide_eq_true c5
      clear c5
      by_cases c6 : x5_1 < (l1.length : Int)
      ·
       rw [if_pos c6] at H
       have c6b0 : decide (x5_1 < (l1.length : Int)) = true := decide_eq_true c6
       clear c6
       by_cases c7 : (!((((rd_T29 l0 x5_1).f0).toList) == (((rd_T29 l1 x5_1).f0).toList)) || (!((((rd_T29 l0 x5_1).f1).toList) == (((rd_T29 l1 x5_1).f1).toList)) || (!(((rd_T29 l0 x5_1).f2) == ((rd_T29 l1 x5_1).f2)) || (!((((rd_T29 l0 x5_1).f3).toList) == (((rd_T29 l1 x5_1).f3).toList)) || (!(((rd_T29 l0 x5_1).f4) == ((rd_T29 l1 x5_1).f4))))))) = true
       ·
        rw [if_pos c7] at H
        have c7b0 : (!((((rd_T29 l0 x5_1).f0).toList) == (((rd_T29 l1 x5_1).f0).toList)) || (!((((rd_T29 l0 x5_1).f1).toList) == (((rd_T29 l1 x5_1).f1).toList)) || (!(((rd_T29 l0 x5_1).f2) == ((rd_T29 l1 x5_1).f2)) || (!((((rd_T29 l0 x5_1).f3).toList) == (((rd_T29 l1 x5_1).f3).toList)) || (!(((rd_T29 l0 x5_1).f4) == ((rd_T29 l1 x5_1).f4))))))) = true := c7
        clear c7
        obtain rfl := Option.some.inj H
        have p270 : 0 ≤ (x5_1 : Int) := odt (by first | (with_reducible assumption) | assumption)
        have q270 : x5_1 < (l0.length : Int) := odt (by first | (with_reducible assumption) | assumption)
        obtain ⟨ad270, e270, hx270_0, hx270_1, hx270_2, hx270_3, hx270_4⟩ := at_T29 HR0.out x5_1 p270 q270
        cases e270
        replace p270 := eq_true p270
        replace q270 := eq_true q270
        have p271 : 0 ≤ (x5_1 : Int) := odt (by first | (with_reducible assumption) | assumption)
        have q271 : x5_1 < (l1.length : Int) := odt (by first | (with_reducible assumption) | assumption)
        obtain ⟨ad271, e271, hx271_0, hx271_1, hx271_2, hx271_3, hx271_4⟩ := at_T29 HR1.out x5_1 p271 q271
        cases e271
        replace p271 := eq_true p271
        replace q271 := eq_true q271
        go_wp2
        repeat (go_quiet (fail); try go_wp2)
        go_ret
        exact ⟨by first | rfl | (simp; done) | (simp [*]; done) | (simp; exact (by decide : ∀ a_ b_ : Bool, (a_ == b_) = (!a_ != b_)) _ _), by repeat (first | exact Drawn0.refl _ | apply Drawn0.step)⟩
       ·
        rw [if_neg c7] at H
        have c7b0 : (!((((rd_T29 l0 x5_1).f0).toList) == (((rd_T29 l1 x5_1).f0).toList)) || (!((((rd_T29 l0 x5_1).f1).toList) == (((rd_T29 l1 x5_1).f1).toList)) || (!(((rd_T29 l0 x5_1).f2) == ((rd_T29 l1 x5_1).f2)) || (!((((rd_T29 l0 x5_1).f3).toList) == (((rd_T29 l1 x5_1).f3).toList)) || (!(((rd_T29 l0 x5_1).f4) == ((rd_T29 l1 x5_1).f4))))))) = false := by simpa using c7
        clear c7
        have H' := aS H
        clear H
        have p270 : 0 ≤ (x5_1 : Int) := odt (by first | (with_reducible assumption) | assumption)
        have q270 : x5_1 < (l0.length : Int) := odt (by first | (with_reducible assumption) | assumption)
        obtain ⟨ad270, e270, hx270_0, hx270_1, hx270_2, hx270_3, hx270_4⟩ := at_T29 HR0.out x5_1 p270 q270
        cases e270
        replace p270 := eq_true p270
        replace q270 := eq_true q270
        have p271 : 0 ≤ (x5_1 : Int) := odt (by first | (with_reducible assumption) | assumption)
        have q271 : x5_1 < (l1.length : Int) := odt (by first | (with_reducible assumption) | assumption)
        obtain ⟨ad271, e271, hx271_0, hx271_1, hx271_2, hx271_3, hx271_4⟩ := at_T29 HR1.out x5_1 p271 q271
        cases e271
        replace p271 := eq_true p271
        replace q271 := eq_true q271
        go_wp2
        repeat (go_quiet (fail); try go_wp2)
        go_roundg k1
        case measure => have := HK1.out; omega
        case rel => exact ⟨(wrap64 (x5_1 + 1)), (by first | rfl | (simp; done) | (simp [*]; done) | (simp; exact (by decide : ∀ a_ b_ : Bool, (a_ == b_) = (!a_ != b_)) _ _)), H', ⟨by have := HK1.out; omega⟩, by repeat (first | exact Drawn0.refl _ | apply Drawn0.step)⟩
      ·
       rw [if_neg c6] at H
       exact absurd H (by simp)
     ·
      rw [if_neg c5] at H
      exact absurd H (by simp)
    ·
     rw [if_neg c4] at H
     have c4b0 : decide (x5_1 < (l0.length : Int)) = false := decide_eq_false c4
     clear c4
     obtain rfl := Option.some.inj H
     go_wp2
     repeat (go_quiet (fail); try go_wp2)
     go_ret
     exact ⟨by first | rfl | (simp; done) | (simp [*]; done) | (simp; exact (by decide : ∀ a_ b_ : Bool, (a_ == b_) = (!a_ != b_)) _ _), by repeat (first | exact Drawn0.refl _ | apply Drawn0.step)⟩
 ·
  rw [if_neg c3] at H
  obtain ⟨c3b0, c3b1⟩ := eqF c3
  have c3b2 : (l0.length == l1.length) = false := by first | simpa using c3 | (simp at c3 ⊢; omega)
  obtain rfl := Option.some.inj H
  go_enter Try.func14, Try.ntmps14
  go_wp2
  repeat (go_quiet (fail); try go_wp2)
  go_ret
  exact ⟨by first | rfl | (simp; done) | (simp [*]; done) | (simp; exact (by decide : ∀ a_ b_ : Bool, (a_ == b_) = (!a_ != b_)) _ _), by repeat (first | exact Drawn0.refl _ | apply Drawn0.step)⟩

/-! ### shardloglaw09_MemModel: function 3 -/
def shardloglaw09_MemModel.l0 (k : Nat) : List S29 → List S29 → Int → List S29 → Option (List S29 × Int × List S29)
 | [], xs, n, wt => some (xs, n, wt)
 | c :: r, xs, n, wt => (mem_Mem_Put.f k xs n c.f0 c.f1 c.f2 c.f3 c.f4).bind fun p => (shardlogref08_Right.f c.f0 c.f1 c.f2 c.f3 c.f4).bind fun q => if p.2.2 = q then (if q = true then (shardlogref08_Put1.f k wt c.f0 c.f1 c.f2 c.f3 c.f4).bind fun t => shardloglaw09_MemModel.l0 k r p.1 p.2.1 t else shardloglaw09_MemModel.l0 k r p.1 p.2.1 wt) else none
def shardloglaw09_MemModel.l1 (k : Nat) : List S29 → Int → Option Int
 | [], s => some s
 | c :: r, s => (shardlogref08_Put.f k c.f0 c.f1 c.f2 c.f3 c.f4).bind fun b => shardloglaw09_MemModel.l1 k r (wrap64 (s + b.length))
def shardloglaw09_MemModel.main (k : Nat) (l : List S29) : Option Bool :=
 (shardloglaw09_MemModel.l0 k l [] 0 []).bind fun q => (shardloglaw09_MemModel.l1 k q.2.2 0).bind fun s => (api_Cell_33.f q.1).bind fun c => (shardlogref08_Same.f k c q.2.2).bind fun e => if e = true ∧ q.1.length = q.2.2.length ∧ q.2.1 = s then some true else none
def shardloglaw09_MemModel.f (k : Nat) (l : List S29) : Option Bool :=
 (shardloglaw09_awake.f k).bind fun t => if t = true then (shardloglaw09_few.f k l).bind fun u => if u = true then shardloglaw09_MemModel.main k l else some true else none
theorem shardloglaw09_MemModel.mono_l0 (k : Nat) : ∀ l xs n wt, LeO (shardloglaw09_MemModel.l0 k l xs n wt) (shardloglaw09_MemModel.l0 (k + 1) l xs n wt)
 | [], _, _, _ => LeO.refl _
 | c :: r, xs, n, wt => LeO.bind (mem_Mem_Put.mono _ _ _ _ _ _ _ _) fun _ => LeO.bind (LeO.refl _) fun _ => LeO.ite (LeO.ite (LeO.bind (shardlogref08_Put1.mono _ _ _ _ _ _ _) fun _ => shardloglaw09_MemModel.mono_l0 k r _ _ _) (shardloglaw09_MemModel.mono_l0 k r _ _ _)) (LeO.refl _)
theorem shardloglaw09_MemModel.mono_l1 (k : Nat) : ∀ l s, LeO (shardloglaw09_MemModel.l1 k l s) (shardloglaw09_MemModel.l1 (k + 1) l s)
 | [], _ => LeO.refl _
 | c :: r, s => LeO.bind (shardlogref08_Put.mono _ _ _ _ _ _) fun _ => shardloglaw09_MemModel.mono_l1 k r _
theorem shardloglaw09_MemModel.mono : ∀ a0 k, LeO (shardloglaw09_MemModel.f k a0) (shardloglaw09_MemModel.f (k + 1) a0) := fun _ k =>
 LeO.bind (shardloglaw09_awake.mono _) fun _ => LeO.ite (LeO.bind (shardloglaw09_few.mono _ _) fun _ => LeO.ite (LeO.bind (shardloglaw09_MemModel.mono_l0 k _ _ _ _) fun _ => LeO.bind (shardloglaw09_MemModel.mono_l1 k _ _) fun _ => LeO.bind (LeO.refl _) fun _ => LeO.bind (shardlogref08_Same.mono _ _ _) fun _ => LeO.refl _) (LeO.refl _)) (LeO.refl _)
theorem shardloglaw09_MemModel.row_kept {w w1 : World} {base base' g : Nat} {xs ys : List S29} {n : Int} {v v1 u : Value} (hA : mem_New.At w base g xs n v) (hT : mem_New.Two w w1 g v.ownBlock) (hv : v1.ownBlock = v.ownBlock ∨ ∃ b, v1.ownBlock = some b ∧ w.heap.size ≤ b) (hR : Kd.R k29 29 w base' (fun b => b ≠ g ∧ some b ≠ v.ownBlock) u ys) :
  Kd.R k29 29 w1 base' (fun b => b ≠ g ∧ some b ≠ v1.ownBlock) u ys := by
 have h1 := Kd.R_step hR (w1 := w1) (fun k hk hlt => hT.block k hlt hk.1 hk.2)
 refine Kd.R_reok rfl h1 (fun k hk => ⟨(hR.1 k hk).1, fun he => ?_⟩)
 rcases hv with hv | ⟨b, hb, hle⟩
 ·
  exact (hR.1 k hk).2 (by rw [← hv]; exact he)
 ·
  rw [hb] at he
  injection he with he
  have := Kd.R_lt hR k hk
  omega
theorem shardloglaw09_MemModel.row_new {w w1 : World} {base g : Nat} {xs ys : List S29} {n : Int} {v u : Value} (hA : mem_New.At w base g xs n v) (hR : Kd.R k29 29 w1 w.heap.size (fun _ => True) u ys) :
  Kd.R k29 29 w1 w.heap.size (fun b => b ≠ g ∧ some b ≠ v.ownBlock) u ys :=
 Kd.R_reok rfl hR (fun k hk => ⟨by have := Kd.R_base hR k hk; have := hA.lt; omega, fun he => by have := Kd.R_base hR k hk; have := Kd.R_lt hA.2.2 k he.symm; omega⟩)
set_option maxHeartbeats 8000000 in
set_option maxRecDepth 100000 in
theorem shardloglaw09_MemModel.calls (k : Nat) (A0 : Option Addr) (c0 : Nat) (l : List S29) (r : Bool) (w : World) (hr0 : Kd.C k29 w A0 l.length l) (hc0 : l.length ≤ c0) (h : shardloglaw09_MemModel.f k l = some r) :
  Calls Try.prog 3 #[.slice A0 l.length c0] w fun e w' => e = .returned (.bool r) ∧ Below w.heap.size w w' := by
 have hu22 := Try.underlying22; have hu29 := Try.underlying29
 have hmx : l.length ≤ 9223372036854775807 := hr0.2.1
 have HR := aS hr0
 have HC := aS hc0
 have HM := aS hmx
 have HB := aS (Below.refl w.heap.size w)
 clear hr0 hmx hc0
 unfold shardloglaw09_MemModel.f at h
 replace h := obm h
 obtain ⟨t, x1, h⟩ := h
 cases t with
 | false =>
  rw [if_neg Bool.false_ne_true] at h
  cases h
 | true =>
 rw [if_pos rfl] at h
 replace h := obm h
 obtain ⟨u, x2, h⟩ := h
 have X1 := aS x1
 have X2 := aS x2
 clear x1 x2
 cases u with
 | false =>
  rw [if_neg Bool.false_ne_true] at h
  obtain rfl := Option.some.inj h
  clear h
  go_enter Try.func3, Try.ntmps3
  go_wp2_with (first | (go_at_call 7; (with_reducible refine (shardloglaw09_awake.calls k true _ X1.out).mono ?_); rintro e_ w1_ ⟨rfl, hb⟩; have n1_ := aS (below_step HB.out hb); clear HB; have HB := n1_; clear n1_; clear hb) | (go_at_call 8; (with_reducible refine (shardloglaw09_few.calls k A0 c0 l false _ (Kd.C_below HR.out HB.out) HC.out X2.out).mono ?_); rintro e_ w1_ ⟨rfl, hb⟩; have n1_ := aS (below_step HB.out hb.below); clear HB; have HB := n1_; clear n1_; clear hb))
  go_ret
  exact ⟨rfl, HB.out⟩
 | true =>
 rw [if_pos rfl] at h
 unfold shardloglaw09_MemModel.main at h
 replace h := obm h
 obtain ⟨⟨xs, n, wt⟩, x3, h⟩ := h
 replace h := obm h
 obtain ⟨s, x4, h⟩ := h
 replace h := obm h
 obtain ⟨c, x5, h⟩ := h
 replace h := obm h
 obtain ⟨e, x6, h⟩ := h
 split at h
 case isFalse => cases h
 rename_i hc
 obtain ⟨rfl, hc2, rfl⟩ := hc
 replace hc2 : xs.length = wt.length := hc2
 obtain rfl := Option.some.inj h
 have H : Aside0 (shardloglaw09_MemModel.l0 k l [] 0 [] = some (xs, n, wt)) := aS x3
 have X4 := aS x4
 have X5 := aS x5
 have X6 := aS x6
 have C2 := aS hc2
 clear x3 x4 x5 x6 hc2 h
 go_enter Try.func3, Try.ntmps3
 go_wp2_with (first | (go_at_call 7; (with_reducible refine (shardloglaw09_awake.calls k true _ X1.out).mono ?_); rintro e_ w1_ ⟨rfl, hb⟩; have n1_ := aS (below_step HB.out hb); clear HB; have HB := n1_; clear n1_; clear hb) | (go_at_call 8; (with_reducible refine (shardloglaw09_few.calls k A0 c0 l true _ (Kd.C_below HR.out HB.out) HC.out X2.out).mono ?_); rintro e_ w1_ ⟨rfl, hb⟩; have n1_ := aS (below_step HB.out hb.below); clear HB; have HB := n1_; clear n1_; clear hb) | (go_at_call 9; (with_reducible refine (mem_New.calls _).mono ?_); rintro e_ w3 ⟨g, rfl, ha, hb⟩; have HA := aS (ha.lower HB.out.size); have n1_ := aS (below_step HB.out hb); clear HB; have HB := n1_; clear n1_; clear ha hb))
 go_loopw [4, 5] (fun v4 v5 wr => ∃ (i : Nat) (xs1 wt1 : List S29) (n1 : Int) (v1 : Value), v5 = .int .i64 (i : Int) ∧ Aside0 (i ≤ l.length) ∧ Aside0 (shardloglaw09_MemModel.l0 k (l.drop i) xs1 n1 wt1 = some (xs, n, wt)) ∧ Aside0 (mem_New.At wr w.heap.size g xs1 n1 v1) ∧ Aside0 (Kd.R k29 29 wr w.heap.size (fun b => b ≠ g ∧ some b ≠ v1.ownBlock) v4 wt1) ∧ Aside0 (Below w.heap.size w wr)) (fun _ i _ => l.length - (intOf i).toNat)
 case atStart => exact ⟨0, [], [], 0, _, rfl, ⟨Nat.zero_le _⟩, H, HA, ⟨Kd.R_nil _ _ _ _ _⟩, HB⟩
 case round =>
  obtain ⟨i, xs1, wt1, n1, v1, rfl, hi, HA2, HM1, HW, HBr⟩ := hrel
  clear HA HB H X1 X2
  by_cases hlt : i < l.length
  ·
   have hq1 : (i : Int) < (l.length : Int) := by omega
   have hq0 : (0 : Int) ≤ (i : Int) := by omega
   obtain ⟨ad, e_, _⟩ := at_T29 HR.out (i : Int) hq0 hq1
   subst e_
   obtain ⟨x, hx⟩ : ∃ x, x = rd_T29 l (i : Int) := ⟨_, rfl⟩
   have hxe : x = l[i] := by rw [hx]; unfold rd_T29; rw [Int.toNat_natCast, List.getD_eq_getElem?_getD, List.getElem?_eq_getElem hlt]; rfl
   have HS : Aside0 (∀ W, Below w.heap.size w W → (W.cell? (ad.add (i * 5)) = some (.string x.f0) ∧ W.cell? ⟨(ad.add (i * 5)).block, (ad.add (i * 5)).off + 1, none⟩ = some (.string x.f1) ∧ W.cell? ⟨(ad.add (i * 5)).block, (ad.add (i * 5)).off + 2, none⟩ = some (.int .i64 x.f2) ∧ W.cell? ⟨(ad.add (i * 5)).block, (ad.add (i * 5)).off + 3, none⟩ = some (.string x.f3) ∧ W.cell? ⟨(ad.add (i * 5)).block, (ad.add (i * 5)).off + 4, none⟩ = some (.bool x.f4))) := aS (fun W hb => by
    obtain ⟨ad', e', hs⟩ := at_T29 (Kd.C_below HR.out hb) (i : Int) hq0 hq1
    cases e'
    rw [← hx, Int.toNat_natCast] at hs
    exact hs)
   have ha := HA2.out
   rw [List.drop_eq_getElem_cons hlt, ← hxe] at ha
   unfold shardloglaw09_MemModel.l0 at ha
   replace ha := obm ha
   obtain ⟨⟨ys, m, pr⟩, y1, ha⟩ := ha
   replace ha := obm ha
   obtain ⟨q, y2, ha⟩ := ha
   by_cases hpq : pr = q
   rotate_left
   ·
    rw [if_neg hpq] at ha
    cases ha
   rw [if_pos hpq] at ha
   cases hpq
   have Y1 := aS y1
   have Y2 := aS y2
   have HA3 := aS ha
   have hix : ∀ W : World, (Instr.indexAt 22 (.slice (some ad) l.length c0) (.int .i64 (i : Int))).run Try.prog W = .ok (.pointer (some (ad.add (i * 5)))) W := by
    obtain ⟨i0, hi0, hz⟩ := Option.map_eq_some_iff.1 info29
    simp only [Prod.mk.injEq] at hz
    exact index_ad 22 29 hu22 hi0 5 hz.2.1 ad l.length c0 (i : Int) hq0 hq1
   have hwr : wrap64 ((i : Int) + 1) = (i : Int) + 1 := by rw [← i64_w, IntKind.wrap_i64]; have := HM.out; omega
   clear hx hxe hi hq0 y1 y2 ha HA2
   go_upto_region 10 with (fail)
   refine start_ (n := 12) (ds := []) (S := fun w' => (w'.cell? (ad.add (i * 5)) = some (.string x.f0) ∧ w'.cell? ⟨(ad.add (i * 5)).block, (ad.add (i * 5)).off + 1, none⟩ = some (.string x.f1) ∧ w'.cell? ⟨(ad.add (i * 5)).block, (ad.add (i * 5)).off + 2, none⟩ = some (.int .i64 x.f2) ∧ w'.cell? ⟨(ad.add (i * 5)).block, (ad.add (i * 5)).off + 3, none⟩ = some (.string x.f3) ∧ w'.cell? ⟨(ad.add (i * 5)).block, (ad.add (i * 5)).off + 4, none⟩ = some (.bool x.f4))) #[false, false, false, false, false, false, false, false, false, false, false, false] (by kernel_rfl) rfl rfl (HS.out _ (below_step HBr.out (below_drew (Below.refl _ _)))) (fun hHeld => ?_)
   generalize hw_ : World.drew _ = w0 at hHeld ⊢
   have HMd : Aside0 (mem_New.At w0 w.heap.size g xs1 n1 v1) := aS (hw_ ▸ HM1.out.below (below_drew (Below.refl _ _)))
   have HBd : Aside0 (Below w.heap.size w w0) := aS (hw_ ▸ below_step HBr.out (below_drew (Below.refl _ _)))
   have HWd : Aside0 (Kd.R k29 29 w0 w.heap.size (fun b => b ≠ g ∧ some b ≠ v1.ownBlock) u4 wt1) := aS (hw_ ▸ Kd.R_below HW.out (below_drew (Below.refl _ _)))
   clear hw_ HM1 HBr HW
   refine with_tabW (T := (true, [([], []), ([], []), ([], []), ([1, 2], [1, 2]), ([3], [3]), ([0, 4], [0, 4]), ([], []), ([], []), ([6, 7], [6, 7]), ([8], [8]), ([9, 5], [9]), ([5, 10], [5, 10])])) (B := [0, 0, 0, 6, 14, 31, 0, 0, 192, 448, 1023, 2047]) (by kernel_rfl) (by kernel_rfl) (fun HT_ HW_ => ?_)
   refine along_ [(0, 25), (1, 26), (2, 27), (3, 28), (6, 31), (7, 32), (8, 33)] ?_
   iterate 7 (apply pure1 HT_; (case hi => rfl); (case hN => rfl); (case hw => rfl); (case hc => kernel_rfl); (case hQ => exact fun _ _ _ h => h); (case hy => intro w'; go_simp; with_reducible rfl); (case ha => simp only [Act.put, lsa, lsz, lss, i64_w, i32_w]; rfl))
   refine lay_ #[true, true, true, true, false, false, true, true, true, false, false, false] (by kernel_rfl) ?_
   refine along_ [(4, 29), (9, 34)] ?_
   iterate 2 (apply take1 HT_ HW_ hHeld; (case hi => rfl); (case hN => rfl); (case hw => rfl); (case hc => kernel_rfl); (case hQ => exact fun _ _ _ h => h); (case hy => intro w' hs_; go_simp; with_reducible rfl); (case ha => simp only [Act.put, lsa, lsz, lss, i64_w, i32_w]; rfl))
   refine lay_ #[true, true, true, true, true, false, true, true, true, true, false, false] (by kernel_rfl) ?_
   refine one_ (i := 5) (N := (some 30)) #[true, true, true, true, true, true, true, true, true, true, false, false] rfl rfl (one_of HT_.out (by kernel_rfl)) (by decide) (fun K hK => ?_)
   refine goes_ Try.func10 (by kernel_rfl) rfl #[.pointer (some ⟨g, 0, none⟩), .agg #[.string x.f0, .string x.f1, .int .i64 x.f2, .string x.f3, .bool x.f4]] (by rfl) rfl rfl agn ?_
   with_reducible refine (mem_Mem_Put.calls k g w.heap.size xs1 n1 v1 x.f0 x.f1 x.f2 x.f3 x.f4 ys m pr _ HMd.out Y1.out).mono ?_
   rintro e_ w1 ⟨rfl, v2, ha2, ht2, hv2⟩
   refine ⟨_, rfl, ?_⟩
   have HM2' := aS ha2
   have HB2' := aS (ht2.below HMd.out (Nat.le_refl _) HBd.out)
   have HW2' := aS (shardloglaw09_MemModel.row_kept HMd.out ht2 hv2 HWd.out)
   clear ha2 ht2 hv2 HMd HBd HWd
   refine hK.out _ _ (HS.out _ HB2'.out) (fun hHeld => ?_)
   clear hK K
   refine norm_ (a' := ?_) ?_ ?_
   rotate_left
   ·
    show Act.put _ (some 30) _ = _
    simp only [Act.put, lsa, lsz, lss, i64_w, i32_w]
    rfl
   refine one_ (i := 10) (N := (some 35)) #[true, true, true, true, true, true, true, true, true, true, true, false] rfl rfl (one_of HT_.out (by kernel_rfl)) (by decide) (fun K hK => ?_)
   refine goes_ Try.func11 (by kernel_rfl) rfl #[.agg #[.string x.f0, .string x.f1, .int .i64 x.f2, .string x.f3, .bool x.f4]] (by rfl) rfl rfl agn ?_
   with_reducible refine (shardlogref08_Right.calls x.f0 x.f1 x.f2 x.f3 x.f4 pr _ Y2.out).mono ?_
   rintro e_ w2 ⟨rfl, hb⟩
   refine ⟨_, rfl, ?_⟩
   have HM2 := aS (HM2'.out.below hb)
   have HB2 := aS (below_step HB2'.out hb)
   have HW2 := aS (Kd.R_below HW2'.out hb)
   clear hb HM2' HB2' HW2'
   refine hK.out _ _ (HS.out _ HB2.out) (fun hHeld => ?_)
   clear hK K
   refine norm_ (a' := ?_) ?_ ?_
   rotate_left
   ·
    show Act.put _ (some 35) _ = _
    simp only [Act.put, lsa, lsz, lss, i64_w, i32_w]
    rfl
   refine along_ [(11, 36)] ?_
   iterate 1 (apply pure1 HT_; (case hi => rfl); (case hN => rfl); (case hw => rfl); (case hc => kernel_rfl); (case hQ => exact fun _ _ _ h => h); (case hy => intro w'; go_simp; with_reducible rfl); (case ha => simp only [Act.put, lsa, lsz, lss, i64_w, i32_w]; rfl))
   refine lay_ #[true, true, true, true, true, true, true, true, true, true, true, true] (by kernel_rfl) ?_
   refine done_ (done_of HT_.out (by kernel_rfl)) ?_
   clear HT_ HW_
   cases pr with
   | false =>
    have ha := HA3.out
    rw [if_neg Bool.false_ne_true] at ha
    have HA2 := aS ha
    clear ha HA3
    obtain ⟨hx0, hx1, hx2, hx3, hx4⟩ := hHeld
    go_wp2_with (first | (go_at_call 11; (with_reducible refine (shardlogref08_Right.calls x.f0 x.f1 x.f2 x.f3 x.f4 false _ Y2.out).mono ?_); rintro e_ w3 ⟨rfl, hb⟩; have HM3 := aS (HM2.out.below hb); have HB3 := aS (below_step HB2.out hb); have HW3 := aS (Kd.R_below HW2.out hb); clear hb HM2 HB2 HW2))
    go_roundw
    case rel => exact ⟨i + 1, ys, wt1, m, v2, by rw [hwr]; rfl, ⟨hlt⟩, HA2, HM3, HW3, HB3⟩
    case measure => exact meas1 hwr hlt
   | true =>
    have ha := HA3.out
    rw [if_pos rfl] at ha
    replace ha := obm ha
    obtain ⟨tt, y3, ha⟩ := ha
    have Y3 := aS y3
    have HA2 := aS ha
    clear ha HA3 y3
    obtain ⟨hx0, hx1, hx2, hx3, hx4⟩ := hHeld
    obtain ⟨A4, c4, rfl, hcl, hC4⟩ := Kd.R_reads HW2.out
    have HC4 := aS (show wt1.length ≤ c4 ∧ Kd.C k29 w2 A4 wt1.length wt1 from ⟨hcl, hC4⟩)
    clear hcl hC4
    go_upto_region 13 with (first | (go_at_call 11; (with_reducible refine (shardlogref08_Right.calls x.f0 x.f1 x.f2 x.f3 x.f4 true _ Y2.out).mono ?_); rintro e_ w3 ⟨rfl, hb⟩; have HM3 := aS (HM2.out.below hb); have HB3 := aS (below_step HB2.out hb); have HW3 := aS (Kd.R_below HW2.out hb); have HC5 := aS (show wt1.length ≤ c4 ∧ Kd.C k29 w3 A4 wt1.length wt1 from ⟨HC4.out.1, Kd.C_below HC4.out.2 hb⟩); clear HC4; clear hb HM2 HB2 HW2))
    clear hx0 hx1 hx2 hx3 hx4
    obtain ⟨hx0, hx1, hx2, hx3, hx4⟩ := HS.out _ HB3.out
    go_wp2_with (first | (go_at_call 12; (with_reducible refine (shardlogref08_Put1.calls k A4 c4 wt1 x.f0 x.f1 x.f2 x.f3 x.f4 tt _ HC5.out.2 HC5.out.1 Y3.out).mono ?_); rintro e_ w4 ⟨v4, rfl, ho, hb⟩; have HM4 := aS (HM3.out.below hb); have HB4 := aS (below_step HB3.out hb); have HW4 := aS (Kd.R_lower (shardloglaw09_MemModel.row_new HM3.out ho) HB3.out.size); clear hb ho HM3 HB3 HW3))
    go_roundw
    case rel => exact ⟨i + 1, ys, tt, m, v2, by rw [hwr]; rfl, ⟨hlt⟩, HA2, HM4, HW4, HB4⟩
    case measure => exact meas1 hwr hlt
  ·
   have e_ : l.drop i = [] := List.drop_eq_nil_of_le (by omega)
   have hge : ¬ ((i : Int) < (l.length : Int)) := by omega
   have ha := HA2.out
   rw [e_] at ha
   unfold shardloglaw09_MemModel.l0 at ha
   obtain ha := Option.some.inj ha
   simp only [Prod.mk.injEq] at ha
   obtain ⟨e1, e2, e3⟩ := ha
   subst e1 e2 e3
   obtain ⟨A4, c4, rfl, hcl, hC4⟩ := Kd.R_reads HW.out
   have HL4 := aS hcl
   have HC4 := aS hC4
   have HM4 : Aside0 (wt1.length ≤ 9223372036854775807) := aS hC4.2.1
   clear e_ HA2 hcl hC4 HW
   go_wp2
   go_loopw [6, 7] (fun v6 v7 w' => ∃ (j : Nat) (s1 : Int), v6 = .int .i64 s1 ∧ v7 = .int .i64 (j : Int) ∧ Aside0 (j ≤ wt1.length) ∧ Aside0 (shardloglaw09_MemModel.l1 k (wt1.drop j) s1 = some n1) ∧ Aside0 (mem_New.At w' w.heap.size g xs1 n1 v1) ∧ Aside0 (Kd.C k29 w' A4 wt1.length wt1) ∧ Aside0 (Below w.heap.size w w')) (fun _ j _ => wt1.length - (intOf j).toNat)
   case atStart => exact ⟨0, 0, rfl, rfl, ⟨Nat.zero_le _⟩, X4, HM1, HC4, HBr⟩
   case round =>
    clear hge HM1 HC4 HBr X4
    obtain ⟨j, s1, rfl, rfl, hj, HA, HM1, HC4, HBr⟩ := hrel
    by_cases hlj : j < wt1.length
    ·
     have hq1 : (j : Int) < (wt1.length : Int) := by omega
     have hq0 : (0 : Int) ≤ (j : Int) := by omega
     obtain ⟨ad, e_, hx0, hx1, hx2, hx3, hx4⟩ := at_T29 HC4.out (j : Int) hq0 hq1
     subst e_
     obtain ⟨x, hx⟩ : ∃ x, x = rd_T29 wt1 (j : Int) := ⟨_, rfl⟩
     rw [← hx] at hx0 hx1 hx2 hx3 hx4
     have hxe : x = wt1[j] := by rw [hx]; unfold rd_T29; rw [Int.toNat_natCast, List.getD_eq_getElem?_getD, List.getElem?_eq_getElem hlj]; rfl
     have ha := HA.out
     rw [List.drop_eq_getElem_cons hlj, ← hxe] at ha
     unfold shardloglaw09_MemModel.l1 at ha
     replace ha := obm ha
     obtain ⟨b, y1, ha⟩ := ha
     have Y1 := aS y1
     have HA2 := aS ha
     have hix : ∀ W : World, (Instr.indexAt 22 (.slice (some ad) wt1.length c4) (.int .i64 (j : Int))).run Try.prog W = .ok (.pointer (some (ad.add (j * 5)))) W := by
      obtain ⟨i0, hi0, hz⟩ := Option.map_eq_some_iff.1 info29
      simp only [Prod.mk.injEq] at hz
      exact index_ad 22 29 hu22 hi0 5 hz.2.1 ad wt1.length c4 (j : Int) hq0 hq1
     have hwr : wrap64 ((j : Int) + 1) = (j : Int) + 1 := by rw [← i64_w, IntKind.wrap_i64]; have := HM4.out; omega
     rw [Int.toNat_natCast] at hx0 hx1 hx2 hx3 hx4
     clear hx hxe hj hq0 y1 ha HA
     go_wp2_with (go_at_call 13; (with_reducible refine (shardlogref08_Put.calls k x.f0 x.f1 x.f2 x.f3 x.f4 b _ Y1.out).mono ?_); rintro e_ w5 ⟨vb, rfl, ho, hb⟩; obtain ⟨Ab, cb, rfl⟩ := Kd.R_slice ho; have HM5 := aS (HM1.out.below hb); have HC5 := aS (Kd.C_below HC4.out hb); have HB5 := aS (below_step HBr.out hb); clear ho hb HM1 HC4 HBr)
     go_roundw
     case rel => exact ⟨j + 1, _, rfl, by rw [hwr]; rfl, ⟨hlj⟩, HA2, HM5, HC5, HB5⟩
     case measure => exact meas1 hwr hlj
    ·
     have hge : ¬ ((j : Int) < (wt1.length : Int)) := by omega
     have e_ : wt1.drop j = [] := List.drop_eq_nil_of_le (by omega)
     have ha := HA.out
     rw [e_] at ha
     unfold shardloglaw09_MemModel.l1 at ha
     obtain e1 := Option.some.inj ha
     subst e1
     clear e_ HA
     go_wp2_with (first | (go_at_call 15; (with_reducible refine (mem_Mem_Cells.calls g _ xs1 c s1 v1 _ HM1.out X5.out).mono ?_); rintro e_ w6 ⟨vc, rfl, ho, hb⟩; obtain ⟨A5, c5, rfl, hcl5, hC5⟩ := Kd.R_reads ho; have HC6 := aS (show c.length ≤ c5 ∧ Kd.C k29 w6 A5 c.length c from ⟨hcl5, hC5⟩); have HCw := aS (Kd.C_below HC4.out hb); have HM6 := aS (HM1.out.below hb); have HBr2 := aS (below_step HBr.out hb); clear ho hb hcl5 hC5 HM1 HBr HC4) | (go_at_call 14; (with_reducible refine (shardlogref08_Same.calls k A5 c5 c A4 c4 wt1 true _ HC6.out.2 HC6.out.1 HCw.out HL4.out X6.out).mono ?_); rintro e_ w7 ⟨rfl, hb⟩; have HM7 := aS (HM6.out.below hb.below); have HBr3 := aS (below_step HBr2.out hb.below); clear hb HM6 HBr2 HC6 HCw) | (go_at_call 16; (with_reducible refine (mem_Mem_Len.calls g _ xs1 s1 v1 _ HM7.out).mono ?_); rintro e_ w8 ⟨he, hb⟩; obtain rfl : e_ = .returned (.int .i64 (wt1.length : Int)) := he.trans (by rw [C2.out]); have HM8 := aS (HM7.out.below hb); have HBr3' := aS (below_step HBr3.out hb); clear he hb HM7 HBr3) | (go_at_call 17; (with_reducible refine (mem_Mem_Size.calls g _ xs1 s1 v1 _ HM8.out).mono ?_); rintro e_ w9 ⟨rfl, hb⟩; have HBr4 := aS (below_step HBr3'.out hb); clear hb HM8 HBr3'))
     go_ret
     exact ⟨rfl, HBr4.out⟩


/-- THE ONE PURE STATEMENT of shardloglaw09_MemModel. -/
def shardloglaw09_MemModel.Pure : Prop := ∀ (l0 : List (S29)), (l0.length ≤ maxLen ∧ l0.length * 64 ≤ 140737488351232 ∧ ∀ y0_ ∈ l0, (y0_.f0.size ≤ 140737488351232 ∧ y0_.f1.size ≤ 140737488351232 ∧ (Lit.int .i64 y0_.f2).wf = true ∧ y0_.f3.size ≤ 140737488351232 ∧ True)) → ∃ k, shardloglaw09_MemModel.f k l0 = some true
theorem shardloglaw09_MemModel.walk (P : shardloglaw09_MemModel.Pure) (A0 : Option Addr) (c0 : Nat) (l0 : List (S29)) (w : World) (wf0 : (l0.length ≤ maxLen ∧ l0.length * 64 ≤ 140737488351232 ∧ ∀ y0_ ∈ l0, (y0_.f0.size ≤ 140737488351232 ∧ y0_.f1.size ≤ 140737488351232 ∧ (Lit.int .i64 y0_.f2).wf = true ∧ y0_.f3.size ≤ 140737488351232 ∧ True))) (hr0 : Kd.C k29 w A0 l0.length l0) (hc0 : l0.length ≤ c0) :
  Calls Try.prog 3 #[.slice A0 l0.length c0] w fun e w' => e = .returned (.bool true) ∧ Below w.heap.size w w' := by
 obtain ⟨k, h⟩ := P l0 wf0
 refine (shardloglaw09_MemModel.calls k A0 c0 l0 true w hr0 hc0 h).mono ?_
 rintro e w' ⟨rfl, hd⟩
 exact ⟨rfl, hd⟩

/-! ### shardlogref08_Few: function 18 -/
def shardlogref08_Few.l0 : Nat → List (S29) → Int → Option (Bool)
 | 0, _, _ => none
 | k + 1, x0, x3 => if x3 < (x0.length : Int) then (if 0 ≤ x3 then ((shardlogref08_Right.f ((rd_T29 x0 x3).f0) ((rd_T29 x0 x3).f1) ((rd_T29 x0 x3).f2) ((rd_T29 x0 x3).f3) ((rd_T29 x0 x3).f4)).bind fun t273 => (if t273 = true then (shardlogref08_Few.l0 k x0 (wrap64 (x3 + 1))) else (some false))) else (none)) else (some true)
def shardlogref08_Few.f (k : Nat) (l0 : List (S29)) : Option (Bool) := if (l0.length : Int) > 80 then (some false) else (shardlogref08_Few.l0 k l0 0)
theorem shardlogref08_Few.mono_l : ∀ k, (∀ y0 y1, LeO (shardlogref08_Few.l0 k y0 y1) (shardlogref08_Few.l0 (k + 1) y0 y1))
 | 0 => fun _ _ r h => by simp [shardlogref08_Few.l0] at h
 | k + 1 => by
  have ih0 := shardlogref08_Few.mono_l k
  ·
   intro y0 y1
   unfold shardlogref08_Few.l0
   repeat' first
   | (with_reducible exact ih0 _ _)
   | (with_reducible exact LeO.refl _)
   | (with_reducible exact LeO.none _)
   | (with_reducible refine LeO.ite ?_ ?_)
   | (with_reducible refine LeO.bind ?_ (fun _ => ?_))
   | exact LeO.none _
   | refine LeO.ite ?_ ?_
   | refine LeO.bind ?_ (fun _ => ?_)
theorem shardlogref08_Few.mono : ∀ a0 k, LeO (shardlogref08_Few.f k a0) (shardlogref08_Few.f (k + 1) a0) := by
 intro a0 k
 have ih0 := shardlogref08_Few.mono_l k
 unfold shardlogref08_Few.f
 repeat' first
   | (with_reducible exact ih0 _ _)
   | (with_reducible exact LeO.refl _)
   | (with_reducible exact LeO.none _)
   | (with_reducible refine LeO.ite ?_ ?_)
   | (with_reducible refine LeO.bind ?_ (fun _ => ?_))
   | exact LeO.none _
   | refine LeO.ite ?_ ?_
   | refine LeO.bind ?_ (fun _ => ?_)
set_option maxHeartbeats 8000000 in
set_option maxRecDepth 100000 in
theorem shardlogref08_Few.calls (k : Nat) (A0 : Option Addr) (c0 : Nat) (l0 : List (S29)) (r : Bool) (w : World) (hr0 : Kd.C k29 w A0 l0.length l0) (hc0 : l0.length ≤ c0) (h : shardlogref08_Few.f k l0 = some r) :
  Calls Try.prog 18 #[.slice A0 l0.length c0] w fun e w' => e = .returned (.bool r) ∧ Below w.heap.size w w' := by
 have hu29 := Try.underlying29
 have HR0 := aS hr0
 have HC0 := aS hc0
 clear hr0 hc0
 have HB := aS (Below.refl w.heap.size w)
 have H : (if (l0.length : Int) > 80 then (some false) else (shardlogref08_Few.l0 k l0 0)) = some r := h
 clear h
 by_cases c2 : (l0.length : Int) > 80
 ·
  rw [if_pos c2] at H
  have c2b0 : decide (80 < (l0.length : Int)) = true := decide_eq_true c2
  have c2b1 : decide (80 < l0.length) = true := decide_eq_true (by omega)
  clear c2
  obtain rfl := Option.some.inj H
  go_enter Try.func18, Try.ntmps18
  go_wp2
  go_ret
  exact ⟨rf3, bel⟩
 ·
  rw [if_neg c2] at H
  have c2b0 : decide (80 < (l0.length : Int)) = false := decide_eq_false c2
  have c2b1 : decide (80 < l0.length) = false := decide_eq_false (by omega)
  clear c2
  have H' := aS H
  clear H
  go_enter Try.func18, Try.ntmps18
  go_wp2
  go_loopg [3] k (fun kq v3 w' => ∃ (x3_1 : Int), v3 = .int .i64 x3_1 ∧ Aside0 (shardlogref08_Few.l0 kq l0 x3_1 = some r) ∧ Aside0 (kq ≤ k) ∧ Aside0 (Below w.heap.size w w'))
  case atStart => exact ⟨(0), (by first | rfl | (simp; done) | (simp [*]; done) | (simp; exact (by decide : ∀ a_ b_ : Bool, (a_ == b_) = (!a_ != b_)) _ _)), H', ⟨Nat.le_refl _⟩, ⟨bel⟩⟩
  case round =>
   clear H'; (try clear c1); (try clear c2); (try clear c2b0); (try clear c2b1); (try clear p2)
   obtain ⟨x3_1, rfl, HA, HK1, HB⟩ := hrel
   cases gk with
   | zero => exact absurd HA.out (by simp [shardlogref08_Few.l0])
   | succ k1 =>
    have H := HA.out; clear HA
    simp only [shardlogref08_Few.l0] at H
    by_cases c3 : x3_1 < (l0.length : Int)
    ·
     rw [if_pos c3] at H
     have c3b0 : decide (x3_1 < (l0.length : Int)) = true := decide_eq_true c3
     clear c3
     by_cases c4 : 0 ≤ x3_1
     ·
      rw [if_pos c4] at H
      have c4b0 : decide (0 ≤ x3_1) = true := decide_eq_true c4
      clear c4
      replace H := obm H
      obtain ⟨t273, A50, H⟩ := H
      replace H : (if t273 = true then (shardlogref08_Few.l0 k1 l0 (wrap64 (x3_1 + 1))) else (some false)) = some r := H
      have A5 := aS A50
      clear A50
      by_cases c6 : t273 = true
      ·
       subst c6
       have H1 : (shardlogref08_Few.l0 k1 l0 (wrap64 (x3_1 + 1))) = some r := by rw [if_pos rfl] at H; exact H
       clear H; have H := H1; clear H1
       have H' := aS H
       clear H
       have p272 : 0 ≤ (x3_1 : Int) := odt (by first | (with_reducible assumption) | assumption)
       have q272 : x3_1 < (l0.length : Int) := odt (by first | (with_reducible assumption) | assumption)
       obtain ⟨ad272, e272, hx272_0, hx272_1, hx272_2, hx272_3, hx272_4⟩ := at_T29 HR0.out x3_1 p272 q272
       cases e272
       replace hx272_0 := (HB.out.cell (wbl w _ hx272_0)).trans hx272_0
       replace hx272_1 := (HB.out.cell (wbl w _ hx272_1)).trans hx272_1
       replace hx272_2 := (HB.out.cell (wbl w _ hx272_2)).trans hx272_2
       replace hx272_3 := (HB.out.cell (wbl w _ hx272_3)).trans hx272_3
       replace hx272_4 := (HB.out.cell (wbl w _ hx272_4)).trans hx272_4
       replace p272 := eq_true p272
       replace q272 := eq_true q272
       go_wp2_with (first | ((with_reducible refine gate_callee (f := 11) rfl ?_); refine goesL_ (some 17) rfl rfl Try.func11 (by kernel_rfl) rfl #[.agg #[.string ((rd_T29 l0 x3_1).f0), .string ((rd_T29 l0 x3_1).f1), .int .i64 ((rd_T29 l0 x3_1).f2), .string ((rd_T29 l0 x3_1).f3), .bool ((rd_T29 l0 x3_1).f4)]] rfl agn ?_; (with_reducible refine (shardlogref08_Right.calls ((rd_T29 l0 x3_1).f0) ((rd_T29 l0 x3_1).f1) ((rd_T29 l0 x3_1).f2) ((rd_T29 l0 x3_1).f3) ((rd_T29 l0 x3_1).f4) true _ A5.out).mono ?_); rintro e w7 ⟨rfl, hb⟩; refine ⟨_, rfl, ?_⟩; have n0_ := bstep hb; clear HB; have HB := n0_; clear n0_; (try clear hb); (try clear hb2); (try clear hk); (try clear hi)))
       go_roundg k1
       case measure => have := HK1.out; omega
       case rel => exact ⟨(wrap64 (x3_1 + 1)), (by first | rfl | (simp; done) | (simp [*]; done) | (simp; exact (by decide : ∀ a_ b_ : Bool, (a_ == b_) = (!a_ != b_)) _ _)), H', ⟨by have := HK1.out; omega⟩, ⟨bel⟩⟩
      ·
       replace c6 := Bool.eq_false_iff.mpr c6
       subst c6
       have H1 : (some false) = some r := by rw [if_neg (show ¬ (false = true) by decide)] at H; exact H
       clear H; have H := H1; clear H1
       obtain rfl := Option.some.inj H
       have p272 : 0 ≤ (x3_1 : Int) := odt (by first | (with_reducible assumption) | assumption)
       have q272 : x3_1 < (l0.length : Int) := odt (by first | (with_reducible assumption) | assumption)
       obtain ⟨ad272, e272, hx272_0, hx272_1, hx272_2, hx272_3, hx272_4⟩ := at_T29 HR0.out x3_1 p272 q272
       cases e272
       replace hx272_0 := (HB.out.cell (wbl w _ hx272_0)).trans hx272_0
       replace hx272_1 := (HB.out.cell (wbl w _ hx272_1)).trans hx272_1
       replace hx272_2 := (HB.out.cell (wbl w _ hx272_2)).trans hx272_2
       replace hx272_3 := (HB.out.cell (wbl w _ hx272_3)).trans hx272_3
       replace hx272_4 := (HB.out.cell (wbl w _ hx272_4)).trans hx272_4
       replace p272 := eq_true p272
       replace q272 := eq_true q272
       go_wp2_with (first | ((with_reducible refine gate_callee (f := 11) rfl ?_); refine goesL_ (some 17) rfl rfl Try.func11 (by kernel_rfl) rfl #[.agg #[.string ((rd_T29 l0 x3_1).f0), .string ((rd_T29 l0 x3_1).f1), .int .i64 ((rd_T29 l0 x3_1).f2), .string ((rd_T29 l0 x3_1).f3), .bool ((rd_T29 l0 x3_1).f4)]] rfl agn ?_; (with_reducible refine (shardlogref08_Right.calls ((rd_T29 l0 x3_1).f0) ((rd_T29 l0 x3_1).f1) ((rd_T29 l0 x3_1).f2) ((rd_T29 l0 x3_1).f3) ((rd_T29 l0 x3_1).f4) false _ A5.out).mono ?_); rintro e w8 ⟨rfl, hb⟩; refine ⟨_, rfl, ?_⟩; have n0_ := bstep hb; clear HB; have HB := n0_; clear n0_; (try clear hb); (try clear hb2); (try clear hk); (try clear hi)))
       go_ret
       exact ⟨rf3, bel⟩
     ·
      rw [if_neg c4] at H
      exact absurd H (by simp)
    ·
     rw [if_neg c3] at H
     have c3b0 : decide (x3_1 < (l0.length : Int)) = false := decide_eq_false c3
     clear c3
     obtain rfl := Option.some.inj H
     go_wp2
     go_ret
     exact ⟨rf3, bel⟩

/-! ### shardlogref08_Sort: function 20 -/
def shardlogref08_Sort.l0 : Nat → List (S29) → List (S29) → Int → Option ((List (S29)))
 | 0, _, _, _ => none
 | k + 1, x0, x3, x4 => if x4 < (x0.length : Int) then (if 0 ≤ x4 then ((shardlogref08_Put1.f k x3 ((rd_T29 x0 x4).f0) ((rd_T29 x0 x4).f1) ((rd_T29 x0 x4).f2) ((rd_T29 x0 x4).f3) ((rd_T29 x0 x4).f4)).bind fun t275 => (shardlogref08_Sort.l0 k x0 t275 (wrap64 (x4 + 1)))) else (none)) else (some x3)
def shardlogref08_Sort.f (k : Nat) (l0 : List (S29)) : Option ((List (S29))) := shardlogref08_Sort.l0 k l0 ([] : List (S29)) 0
theorem shardlogref08_Sort.mono_l : ∀ k, (∀ y0 y1 y2, LeO (shardlogref08_Sort.l0 k y0 y1 y2) (shardlogref08_Sort.l0 (k + 1) y0 y1 y2))
 | 0 => fun _ _ _ r h => by simp [shardlogref08_Sort.l0] at h
 | k + 1 => by
  have ih0 := shardlogref08_Sort.mono_l k
  ·
   intro y0 y1 y2
   unfold shardlogref08_Sort.l0
   repeat' first
   | (with_reducible exact ih0 _ _ _)
   | (with_reducible exact shardlogref08_Put1.mono _ _ _ _ _ _ _)
   | (with_reducible exact LeO.refl _)
   | (with_reducible exact LeO.none _)
   | (with_reducible refine LeO.ite ?_ ?_)
   | (with_reducible refine LeO.bind ?_ (fun _ => ?_))
   | exact LeO.none _
   | refine LeO.ite ?_ ?_
   | refine LeO.bind ?_ (fun _ => ?_)
theorem shardlogref08_Sort.mono : ∀ a0 k, LeO (shardlogref08_Sort.f k a0) (shardlogref08_Sort.f (k + 1) a0) := by
 intro a0 k
 have ih0 := shardlogref08_Sort.mono_l k
 unfold shardlogref08_Sort.f
 repeat' first
   | (with_reducible exact ih0 _ _ _)
   | (with_reducible exact shardlogref08_Put1.mono _ _ _ _ _ _ _)
   | (with_reducible exact LeO.refl _)
   | (with_reducible exact LeO.none _)
   | (with_reducible refine LeO.ite ?_ ?_)
   | (with_reducible refine LeO.bind ?_ (fun _ => ?_))
   | exact LeO.none _
   | refine LeO.ite ?_ ?_
   | refine LeO.bind ?_ (fun _ => ?_)
set_option maxHeartbeats 8000000 in
set_option maxRecDepth 100000 in
theorem shardlogref08_Sort.calls (k : Nat) (A0 : Option Addr) (c0 : Nat) (l0 : List (S29)) (r : List (S29)) (w : World) (hr0 : Kd.C k29 w A0 l0.length l0) (hc0 : l0.length ≤ c0) (h : shardlogref08_Sort.f k l0 = some r) :
  Calls Try.prog 20 #[.slice A0 l0.length c0] w fun e w' => ∃ v0_ : Value, e = .returned (v0_) ∧ Kd.R k29 29 w' w.heap.size (fun _ => True) v0_ r ∧ Below w.heap.size w w' := by
 have hu29 := Try.underlying29
 have HR0 := aS hr0
 have HC0 := aS hc0
 clear hr0 hc0
 have HB := aS (Below.refl w.heap.size w)
 have H : (shardlogref08_Sort.l0 k l0 ([] : List (S29)) 0) = some r := h
 clear h
 have H' := aS H
 clear H
 go_enter Try.func20, Try.ntmps20
 go_wp2
 go_loopg [3, 4] k (fun kq v3 v4 w' => ∃ (x3_1 : List (S29)) (x4_1 : Int), v4 = .int .i64 x4_1 ∧ Aside0 (shardlogref08_Sort.l0 kq l0 x3_1 x4_1 = some r) ∧ Aside0 (kq ≤ k) ∧ Aside0 (Kd.R k29 29 w' w.heap.size (fun _ => True) v3 x3_1) ∧ Aside0 (Below w.heap.size w w'))
 case atStart => exact ⟨(([] : List (S29))), (0), (by first | rfl | (simp; done) | (simp [*]; done) | (simp; exact (by decide : ∀ a_ b_ : Bool, (a_ == b_) = (!a_ != b_)) _ _)), H', ⟨Nat.le_refl _⟩, ⟨by first | exact Kd.R_nil _ _ _ _ _ | exact Kd.N_nil _ _ _ _ _ | exact Kd.V_nil _ _ _ _ _ | exact Kd.Q_nil _ _ _ _ _ | exact Kd.S_nil _ _ _ _ _⟩, ⟨bel⟩⟩
 case round =>
  clear H'
  obtain ⟨x3_1, x4_1, rfl, HA, HK1, HO_3, HB⟩ := hrel
  cases gk with
  | zero => exact absurd HA.out (by simp [shardlogref08_Sort.l0])
  | succ k1 =>
   have H := HA.out; clear HA
   simp only [shardlogref08_Sort.l0] at H
   by_cases c2 : x4_1 < (l0.length : Int)
   ·
    rw [if_pos c2] at H
    have c2b0 : decide (x4_1 < (l0.length : Int)) = true := decide_eq_true c2
    clear c2
    by_cases c3 : 0 ≤ x4_1
    ·
     rw [if_pos c3] at H
     have c3b0 : decide (0 ≤ x4_1) = true := decide_eq_true c3
     clear c3
     replace H := obm H
     obtain ⟨t275, A40, H⟩ := H
     replace H : (shardlogref08_Sort.l0 k1 l0 t275 (wrap64 (x4_1 + 1))) = some r := H
     have A4 := aS A40
     clear A40
     have H' := aS H
     clear H
     have p274 : 0 ≤ (x4_1 : Int) := odt (by first | (with_reducible assumption) | assumption)
     have q274 : x4_1 < (l0.length : Int) := odt (by first | (with_reducible assumption) | assumption)
     obtain ⟨ad274, e274, hx274_0, hx274_1, hx274_2, hx274_3, hx274_4⟩ := at_T29 HR0.out x4_1 p274 q274
     cases e274
     replace hx274_0 := (HB.out.cell (wbl w _ hx274_0)).trans hx274_0
     replace hx274_1 := (HB.out.cell (wbl w _ hx274_1)).trans hx274_1
     replace hx274_2 := (HB.out.cell (wbl w _ hx274_2)).trans hx274_2
     replace hx274_3 := (HB.out.cell (wbl w _ hx274_3)).trans hx274_3
     replace hx274_4 := (HB.out.cell (wbl w _ hx274_4)).trans hx274_4
     replace p274 := eq_true p274
     replace q274 := eq_true q274
     obtain ⟨Ao5, co5, eo5⟩ := Kd.R_slice HO_3.out
     subst eo5
     go_wp2_with (first | ((with_reducible refine gate_callee (f := 12) rfl ?_); refine goesL_ (some 16) rfl rfl Try.func12 (by kernel_rfl) rfl #[.slice Ao5 x3_1.length co5, .agg #[.string ((rd_T29 l0 x4_1).f0), .string ((rd_T29 l0 x4_1).f1), .int .i64 ((rd_T29 l0 x4_1).f2), .string ((rd_T29 l0 x4_1).f3), .bool ((rd_T29 l0 x4_1).f4)]] rfl agn ?_; (with_reducible refine (shardlogref08_Put1.calls k1 _ _ x3_1 ((rd_T29 l0 x4_1).f0) ((rd_T29 l0 x4_1).f1) ((rd_T29 l0 x4_1).f2) ((rd_T29 l0 x4_1).f3) ((rd_T29 l0 x4_1).f4) t275 _ ?side1 ?side2 A4.out).mono ?_); (case side1 => exact cel ((Kd.R_reads' HO_3.out).2.2)); (case side2 => exact (Kd.R_reads' HO_3.out).2.1); rintro e w6 ⟨v276, rfl, ho0, hb⟩; refine ⟨_, rfl, ?_⟩; have n0_ := aS (Kd.R_elder' (rel HO_3.out) (by first | exact Kd.R_base ho0 | exact Kd.S_base ho0 | exact Kd.R_base ho0 | exact Kd.V_base ho0) hb); have n1_ := aS (Kd.R_lower (Kd.R_new' ho0 (Kd.R_lt (rel HO_3.out))) (below_size bel)); have n2_ := bstep hb; clear HO_3; clear HB; have HO_3 := n0_; have HO277 := n1_; have HB := n2_; clear n0_ n1_ n2_; (try clear hb); (try clear hb2); (try clear hk); (try clear hi); (try clear ho0)))
     go_roundg k1
     case measure => have := HK1.out; omega
     case rel => exact ⟨(t275), (wrap64 (x4_1 + 1)), (by first | rfl | (simp; done) | (simp [*]; done) | (simp; exact (by decide : ∀ a_ b_ : Bool, (a_ == b_) = (!a_ != b_)) _ _)), H', ⟨by have := HK1.out; omega⟩, ⟨by (with_reducible repeat (first | apply Kd.R_alloc | apply Kd.R_drewN | apply Kd.R_drew)); exact Kd.R_mono HO277.out (fun _ hk => trivial)⟩, ⟨bel⟩⟩
    ·
     rw [if_neg c3] at H
     exact absurd H (by simp)
   ·
    rw [if_neg c2] at H
    have c2b0 : decide (x4_1 < (l0.length : Int)) = false := decide_eq_false c2
    clear c2
    obtain rfl := Option.some.inj H
    go_wp2
    go_ret
    exact ⟨_, rf3, by (with_reducible repeat (first | apply Kd.R_alloc | apply Kd.R_drewN | apply Kd.R_drew)); exact HO_3.out, bel⟩

end Go.Proofs.Ytgcicgjfimfhpaa.X
