-- written by a program of this session's, over the kit's print
import Derived.Test.YtinhpolmanccgaaXx0
import Derived.Test.YtinhpolmanccgaaXx13
namespace Go.Proofs.Ytinhpolmanccgaa.X
open Go.RowKit Go.Proofs.YtinhpolmanccgaaW.PrintWords Go.Proofs.YtinhpolmanccgaaW.PrintLast Go.Proofs.YtinhpolmanccgaaW.PrintMore
attribute [local go_sem] max2_int min2_int max_two min_two max_three min_three max_four min_four gtr_str   -- for this text's walks alone
set_option linter.unusedVariables false
set_option linter.unusedSimpArgs false

/-! ### shardlogref11_Bits: function 50 -/
def shardlogref11_Bits.f (k : Nat) (a0 : ByteArray) (a1 : Int) : Option (List Int) := if a0.size ≤ 9223372036854775807 then ((shardlogref02_Sum.f k (bytesOf a0)).bind fun t629 => ((some (([1] : List Int) : List Int)).bind fun y630 => ((some (bytesOf a0 : List Int)).bind fun y633 => (if y630.length + y633.length < 140737488355328 then ((shardlogref02_Sum.f k (y630 ++ y633)).bind fun t639 => (if a1 = 0 then (none) else (some (([Int.tmod (wrap64 (t629)) a1, Int.tmod (Int.tmod (wrap64 ((wrap64 (t629)) + (wrap64 (t639)))) 4294967296) a1, Int.tmod (Int.tmod (wrap64 ((wrap64 (t629)) + (wrap64 (2 * (wrap64 (t639)))))) 4294967296) a1] : List Int))))) else (none))))) else (none)
theorem shardlogref11_Bits.mono : ∀ a0 a1 k, LeO (shardlogref11_Bits.f k a0 a1) (shardlogref11_Bits.f (k + 1) a0 a1) := by
 intro a0 a1 k
 unfold shardlogref11_Bits.f
 have m0 := @shardlogref02_Sum.mono; exact lmo
def shardlogref11_Bits.T3 : Bool × List (List Nat × List Nat) := (true, [([], []), ([], []), ([0, 1], [0, 1]), ([], []), ([], []), ([3, 4], [3, 4]), ([5], [5]), ([], []), ([6, 7], [6, 7]), ([], []), ([], []), ([10], [10]), ([9, 11], [9, 11]), ([12], [12]), ([], []), ([13, 14], [13, 14]), ([2, 8, 15], [2, 8, 15]), ([16, 0, 1, 2, 3, 4, 5, 6, 7, 8, 9, 10, 11, 12, 13, 14, 15, 16], [16])])
def shardlogref11_Bits.B3 : List Nat := [0, 0, 3, 0, 0, 24, 56, 0, 248, 0, 0, 1024, 3584, 7680, 0, 32256, 65535, 131071]
theorem shardlogref11_Bits.tab3 : rtab .any (opsOf Try.f50 3) = shardlogref11_Bits.T3 := by kernel_rfl
theorem shardlogref11_Bits.bits3 : waitsOk shardlogref11_Bits.T3.2 shardlogref11_Bits.B3 = true := by kernel_rfl
set_option maxHeartbeats 8000000 in
set_option maxRecDepth 100000 in
theorem shardlogref11_Bits.calls (k : Nat) (a0 : ByteArray) (a1 : Int) (r : List Int) (w : World) (h : shardlogref11_Bits.f k a0 a1 = some r) :
  Calls Try.prog 50 #[.string a0, .int .i64 a1] w fun e w' => ∃ v0_ : Value, e = .returned (v0_) ∧ Kd.R (Kd.int .i64) 3 w' w.heap.size (fun _ => True) v0_ r ∧ Below w.heap.size w w' := by
 have HB := aS (Below.refl w.heap.size w); have H : (if a0.size ≤ 9223372036854775807 then ((shardlogref02_Sum.f k (bytesOf a0)).bind fun t629 => ((some (([1] : List Int) : List Int)).bind fun y630 => ((some (bytesOf a0 : List Int)).bind fun y633 => (if y630.length + y633.length < 140737488355328 then ((shardlogref02_Sum.f k (y630 ++ y633)).bind fun t639 => (if a1 = 0 then (none) else (some (([Int.tmod (wrap64 (t629)) a1, Int.tmod (Int.tmod (wrap64 ((wrap64 (t629)) + (wrap64 (t639)))) 4294967296) a1, Int.tmod (Int.tmod (wrap64 ((wrap64 (t629)) + (wrap64 (2 * (wrap64 (t639)))))) 4294967296) a1] : List Int))))) else (none))))) else (none)) = some r := h; clear h
 by_cases c3 : a0.size ≤ 9223372036854775807
 ·
  rw [if_pos c3] at H; have c3b0 := eq_true c3; have c3b1 : decide (a0.size ≤ 9223372036854775807) = true := decide_eq_true c3
  try have c3b2 : (9223372036854775807 < a0.size) = False := eq_false (Nat.not_lt.2 c3)
  clear c3
  obtain ⟨y626, hy626⟩ : ∃ y_ : List Int, y_ = (bytesOf a0) := ⟨_, rfl⟩
  replace H : ((shardlogref02_Sum.f k y626).bind fun t629 => ((some (([1] : List Int) : List Int)).bind fun y630 => ((some (bytesOf a0 : List Int)).bind fun y633 => (if y630.length + y633.length < 140737488355328 then ((shardlogref02_Sum.f k (y630 ++ y633)).bind fun t639 => (if a1 = 0 then (none) else (some (([Int.tmod (wrap64 (t629)) a1, Int.tmod (Int.tmod (wrap64 ((wrap64 (t629)) + (wrap64 (t639)))) 4294967296) a1, Int.tmod (Int.tmod (wrap64 ((wrap64 (t629)) + (wrap64 (2 * (wrap64 (t639)))))) 4294967296) a1] : List Int))))) else (none))))) = some r := hyr hy626 H; have Ny626 := aS hy626; clear hy626; replace H := obm H; obtain ⟨t629, A40, H⟩ := H; have A4 := aS A40; clear A40
  obtain ⟨y630, hy630⟩ : ∃ y_ : List Int, y_ = (([1] : List Int)) := ⟨_, rfl⟩
  (first | replace H := hyn hy630 H | rw [← hy630] at H); have Ny630 := aS hy630; clear hy630
  obtain ⟨y633, hy633⟩ : ∃ y_ : List Int, y_ = (bytesOf a0) := ⟨_, rfl⟩
  replace H : (if y630.length + y633.length < 140737488355328 then ((shardlogref02_Sum.f k (y630 ++ y633)).bind fun t639 => (if a1 = 0 then (none) else (some (([Int.tmod (wrap64 (t629)) a1, Int.tmod (Int.tmod (wrap64 ((wrap64 (t629)) + (wrap64 (t639)))) 4294967296) a1, Int.tmod (Int.tmod (wrap64 ((wrap64 (t629)) + (wrap64 (2 * (wrap64 (t639)))))) 4294967296) a1] : List Int))))) else (none)) = some r := hyr hy633 H; have Ny633 := aS hy633; clear hy633
  by_cases c5 : y630.length + y633.length < 140737488355328
  ·
   rw [if_pos c5] at H; have LMc5 := aS c5; clear c5
   obtain ⟨y636, hy636⟩ : ∃ y_ : List Int, y_ = (y630 ++ y633) := ⟨_, rfl⟩
   (first | replace H := hyn hy636 H | rw [← hy636] at H); have Ny636 := aS hy636; clear hy636; replace H := obm H; obtain ⟨t639, A60, H⟩ := H; have A6 := aS A60; clear A60
   by_cases c7 : a1 = 0
   ·
    rw [if_pos c7] at H; exact absurd H (by simp)
   ·
    rw [if_neg c7] at H; obtain ⟨c7b0, c7b1⟩ := eqF c7
    obtain ⟨y640, hy640⟩ : ∃ y_ : List Int, y_ = (([Int.tmod (wrap64 (t629)) a1, Int.tmod (Int.tmod (wrap64 ((wrap64 (t629)) + (wrap64 (t639)))) 4294967296) a1, Int.tmod (Int.tmod (wrap64 ((wrap64 (t629)) + (wrap64 (2 * (wrap64 (t639)))))) 4294967296) a1] : List Int)) := ⟨_, rfl⟩
    replace H : (some y640) = some r := hyr hy640 H; have Ny640 := aS hy640; clear hy640
    obtain rfl := Option.some.inj H
    go_enter Try.func50, Try.ntmps50
    try go_wp2_with (first | ((with_reducible refine gate_dst (N := 8) rfl ?_); refine Kd.V_bytes rfl (N := 8) rfl 9 26 5 _ a0 rfl rfl Try.underlying9 Try.underlying26 Try.underlying5 (oda) ?_; intro v627 w8 ho9 hb; rw [← Ny626.out] at ho9; have HO628 := aS (Kd.V_lower (Kd.V_mono (ok' := fun k_ => True) ho9 (fun k_ hk_ => trivial)) (below_size bel)); replace HB := bstep hb; clear hb ho9; obtain ⟨Ao10, co10, eo10⟩ := Kd.V_slice HO628.out; subst eo10) | ((with_reducible refine gate_callee (f := 57) rfl ?_); refine goesL_ (some 9) rfl rfl Try.func57 (by kernel_rfl) rfl #[.slice Ao10 y626.length co10] rfl agn ?_; (with_reducible refine (shardlogref02_Sum.calls k _ _ y626 t629 _ ?side1 ?side2 A4.out).mono ?_); (case side1 => exact cel ((Kd.V_reads' HO628.out).2.2)); (case side2 => exact (Kd.V_reads' HO628.out).2.1); rintro e w' ⟨rfl, ⟨nd, rfl⟩⟩; refine ⟨_, rfl, ?_⟩) | ((with_reducible refine gate_dst (N := 11) rfl ?_); refine Kd.R_lit (Kd.int .u8) _ 5 ?hg (N := 11) ?hd (xs := ([1] : List Int)) (inner := [.int .u8 1]) (ok := fun _ => True) (okp := fun _ => True) ?hr ?hp (fun _ hk => hk) trivial (Below.refl _ _) (Nat.le_refl _) (by simp) ?_; (case hd => rfl); (case hg => rfl); (case hr => first | (go_simp; done) | (go_simp; rfl)); (case hp => exact (Reps.one (show Kd.M (Kd.int .u8) _ _ _ 1 [.int .u8 1] from rfl) (Reps.none _ _))); intro v631 w11 ho12 hb hg_ hnew_; clear hg_ hnew_; (first | rw [← Ny630.out] at ho12 | (simp only [Int.reduceToNat] at ho12; rw [← Ny630.out] at ho12)); replace HO628 := aS (Kd.V_elder' (sel HO628.out) (ebs ho12) hb); have HO632 := aS (Kd.R_lower ho12 (below_size bel)); replace HB := bstep hb; clear hb ho12) | ((with_reducible refine gate_dst (N := 13) rfl ?_); refine Kd.V_bytes rfl (N := 13) rfl 9 26 5 _ a0 rfl rfl Try.underlying9 Try.underlying26 Try.underlying5 (oda) ?_; intro v634 w13 ho14 hb; rw [← Ny633.out] at ho14; replace HO628 := aS (Kd.V_below (sel HO628.out) hb); have HO635 := aS (Kd.V_lower (Kd.V_mono (ok' := fun k_ => some k_ ≠ (v631 : Value).ownBlock) ho14 (fun k_ hk_ => (Kd.fresh' (Kd.R_lt (rel HO632.out)) k_ hk_))) (below_size bel)); replace HO632 := aS (Kd.R_below (rel HO632.out) hb); replace HB := bstep hb; clear hb ho14; obtain ⟨Ao16, co16, eo16⟩ := Kd.V_slice HO635.out; subst eo16) | ((with_reducible refine gate_builtin (b := .append) (xs := #[.tmp 11, .tmp 13]) rfl ?_); at_builtin; refine Kd.R_append_rows (Kd.int .u8) (w0 := w) w.heap.size rfl (.tmp 11) (.tmp 13) 26 5 (.int .u8 0) 1 rfl Try.underlying26 info5 rfl (by decide) (by omega) v631 y630 y633 _ _ _ (fun _ => True) (fun _ => False) rfl rfl ?aO ?aR (fun _ _ h => h) (fun _ h => h.elim) ?aF ?aB ?aS ?aL ?_; (case aR => exact cel ((Kd.V_reads' HO635.out).2.2)); (case aB => exact bel); (case aF => exact (fun _ _ => trivial)); (case aO => exact (rel HO632.out)); (case aS => exact (below_size bel)); (case aL => have := LMc5.out; omega); intro v637 w15 ho hb hg hat; rw [← Ny636.out] at ho; have n0_ := aS (Kd.V_afterv (ok := (fun _ => True)) (sel HO628.out) hg hat); have n1_ := aS (Kd.V_afterv (ok := (fun _ => True)) (by (with_reducible repeat (first | apply Kd.V_alloc | apply Kd.V_drewN | apply Kd.V_drew)); exact Kd.V_mono HO635.out (fun _ hk => ⟨trivial, hk⟩)) hg hat); have n2_ := aS (hb); have n3_ := aS (ho); clear HO628; clear HO635; clear HB; clear HO632; have HO628 := n0_; have HO635 := n1_; have HB := n2_; have HO638 := n3_; clear n0_ n1_ n2_ n3_; clear ho hb hg hat; obtain ⟨Ao17, co17, eo17⟩ := Kd.R_slice HO638.out; subst eo17) | ((with_reducible refine gate_callee (f := 57) rfl ?_); refine goesL_ (some 15) rfl rfl Try.func57 (by kernel_rfl) rfl #[.slice Ao17 y636.length co17] rfl agn ?_; (with_reducible refine (shardlogref02_Sum.calls k _ _ y636 t639 _ ?side1 ?side2 A6.out).mono ?_); (case side1 => exact cel ((Kd.R_reads' HO638.out).2.2)); (case side2 => exact (Kd.R_reads' HO638.out).2.1); rintro e w' ⟨rfl, ⟨nd, rfl⟩⟩; refine ⟨_, rfl, ?_⟩))
    (try (rw [drewN_self w15]; generalize hq_ : World.drewN w15 _ = w15; have n0_ : Aside0 (Kd.V (Kd.int .u8) 5 w15 w.heap.size (fun k_ => some k_ ≠ (.slice Ao17 y636.length co17 : Value).ownBlock) (.slice Ao10 y626.length co10) y626) := ⟨by rw [← hq_]; exact (sel (Kd.V_mono HO628.out (fun _ hk => hk.2)))⟩; have n1_ : Aside0 (Kd.V (Kd.int .u8) 5 w15 w.heap.size (fun k_ => some k_ ≠ (.slice Ao17 y636.length co17 : Value).ownBlock) (.slice Ao16 y633.length co16) y633) := ⟨by rw [← hq_]; exact (sel (Kd.V_mono HO635.out (fun _ hk => hk.2)))⟩; have n2_ : Aside0 (Kd.R (Kd.int .u8) 5 w15 w.heap.size (fun _ => True) (.slice Ao17 y636.length co17) y636) := ⟨by rw [← hq_]; exact (rel HO638.out)⟩; have n3_ : Aside0 (Below w.heap.size w w15) := ⟨by rw [← hq_]; exact bel⟩; clear HO628 HO635 HO638 HB hq_; have HO628 := n0_; have HO635 := n1_; have HO638 := n2_; have HB := n3_; clear n0_ n1_ n2_ n3_))
    replace HO628 := aS (Kd.V_drew HO628.out); replace HO635 := aS (Kd.V_drew HO635.out); replace HO638 := aS (Kd.R_drew HO638.out); replace HB := aS (bdo HB.out); refine start_ (n := 18) (S := fun w' => True) (ds := []) (bA 18 0) (by kernel_rfl) rfl rfl trivial (fun hHeld => ?_); refine with_tabW shardlogref11_Bits.tab3 shardlogref11_Bits.bits3 (fun HT_ HW_ => ?_)
    generalize w15.drew = w18 at HO628 HO635 HO638 HB hHeld ⊢
    refine along_ [(0, 17), (1, 18), (2, 19), (3, 20), (4, 21), (5, 22), (6, 23), (7, 24), (8, 25), (9, 26), (10, 27), (11, 28), (12, 29), (13, 30), (14, 31), (15, 32)] ?_
    iterate 16 (refine pure3 HT_ ?_)
    refine lay_ (bA 18 65535) (by kernel_rfl) ?_; refine one3 16 (N := some 33) (bA 18 131071) HT_ (fun K hK => ?_)
    refine Kd.R_lit_step (Kd.int .i64) _ 3 ?hg (N := 33) ?hd (xs := ([Int.tmod (wrap64 (t629)) a1, Int.tmod (Int.tmod (wrap64 ((wrap64 (t629)) + (wrap64 (t639)))) 4294967296) a1, Int.tmod (Int.tmod (wrap64 ((wrap64 (t629)) + (wrap64 (2 * (wrap64 (t639)))))) 4294967296) a1] : List Int)) (inner := [.int .i64 (Int.tmod (wrap64 (t629)) a1), .int .i64 (Int.tmod (Int.tmod (wrap64 ((wrap64 (t629)) + (wrap64 (t639)))) 4294967296) a1), .int .i64 (Int.tmod (Int.tmod (wrap64 ((wrap64 (t629)) + (wrap64 (2 * (wrap64 (t639)))))) 4294967296) a1)]) (ok := fun _ => True) (okp := fun _ => True) ?hr ?hp (fun _ hk => hk) trivial (Below.refl _ _) (Nat.le_refl _) (by simp) ?_; (case hd => rfl); (case hg => rfl); (case hr => first | (go_simp; done) | (go_simp; rfl)); (case hp => exact (Reps.one (show Kd.M (Kd.int .i64) _ _ _ (Int.tmod (wrap64 (t629)) a1) [.int .i64 (Int.tmod (wrap64 (t629)) a1)] from rfl) (Reps.one (show Kd.M (Kd.int .i64) _ _ _ (Int.tmod (Int.tmod (wrap64 ((wrap64 (t629)) + (wrap64 (t639)))) 4294967296) a1) [.int .i64 (Int.tmod (Int.tmod (wrap64 ((wrap64 (t629)) + (wrap64 (t639)))) 4294967296) a1)] from rfl) (Reps.one (show Kd.M (Kd.int .i64) _ _ _ (Int.tmod (Int.tmod (wrap64 ((wrap64 (t629)) + (wrap64 (2 * (wrap64 (t639)))))) 4294967296) a1) [.int .i64 (Int.tmod (Int.tmod (wrap64 ((wrap64 (t629)) + (wrap64 (2 * (wrap64 (t639)))))) 4294967296) a1)] from rfl) (Reps.none _ _)))))
    intro v641 w19 ho20 hb hg_ hnew_
    clear hg_ hnew_
    (first | rw [← Ny640.out] at ho20 | (simp only [Int.reduceToNat] at ho20; rw [← Ny640.out] at ho20))
    replace HO628 := aS (Kd.V_elder' (sel HO628.out) (ebs ho20) hb); replace HO635 := aS (Kd.V_elder' (sel HO635.out) (ebs ho20) hb); replace HO638 := aS (Kd.R_below (rel HO638.out) hb); have HO642 := aS (Kd.R_lower ho20 (below_size bel)); replace HB := bstep hb; clear hb ho20; refine hK.out _ _ trivial (fun hHeld => ?_); clear hK K; refine nm 33 ?_; refine pure_ (i := 17) (N := some 4) (v := ?_) (a' := ?_) (bA 18 262143) rfl rfl (any_of HT_.out (by kernel_rfl)) (fun _ _ _ h => h) (Or.inl ⟨by rfl, ?_⟩) ?_ ?_
    rotate_left
    ·
     intro w'
     go_simp
     with_reducible rfl
    rotate_left
    ·
     simp only [Act.put, lsa, lsz, lss, i64_w, i32_w]
     rfl
    refine done_ (done_of HT_.out (by kernel_rfl)) ?_
    try go_wp2
    go_ret
    exact ⟨_, rf3, by (with_reducible repeat (first | apply Kd.R_alloc | apply Kd.R_drewN | apply Kd.R_drew)); exact HO642.out, bel⟩
  ·
   rw [if_neg c5] at H; exact absurd H (by simp)
 ·
  rw [if_neg c3] at H; exact absurd H (by simp)

/-! ### shardlogref11_Make: function 26 -/
mutual
def shardlogref11_Make.j0 : Nat → List ByteArray → Int → Option (List Int)
 | 0, _, _ => none
 | k + 1, x0, x3 => if 0 ≤ (wrap64 (8 * x3)) then (if (wrap64 (8 * x3) : Int).toNat ≤ 281474976710656 then (shardlogref11_Make.l0 k x0 x3 (List.replicate (wrap64 (8 * x3) : Int).toNat false) 0) else (none)) else (none)
def shardlogref11_Make.l0 : Nat → List ByteArray → Int → List Bool → Int → Option (List Int)
 | 0, _, _, _, _ => none
 | k + 1, x0, x3, x4, x5 => if x5 < (x0.length : Int) then (if 0 ≤ x5 then ((shardlogref11_Bits.f k (rdOf ByteArray.empty x0 x5) (wrap64 (8 * x3))).bind fun t647 => (shardlogref11_Make.l1 k x0 x3 x4 x5 t647 0)) else (none)) else (shardlogref11_Make.l2 k x3 x4 ([] : List Int) 0)
def shardlogref11_Make.l1 : Nat → List ByteArray → Int → List Bool → Int → List Int → Int → Option (List Int)
 | 0, _, _, _, _, _, _ => none
 | k + 1, x0, x3, x4, x5, x6, x7 => if x7 < (x6.length : Int) then (if 0 ≤ x7 then (if 0 ≤ (rd x6 x7) then (if (rd x6 x7) < (x4.length : Int) then (shardlogref11_Make.l1 k x0 x3 (x4.set ((rd x6 x7) : Int).toNat true) x5 x6 (wrap64 (x7 + 1))) else (none)) else (none)) else (none)) else (shardlogref11_Make.l0 k x0 x3 x4 (wrap64 (x5 + 1)))
def shardlogref11_Make.l2 : Nat → Int → List Bool → List Int → Int → Option (List Int)
 | 0, _, _, _, _ => none
 | k + 1, x3, x4, x8, x9 => if x9 < x3 then (shardlogref11_Make.l3 k x3 x4 x8 x9 0 7) else (some x8)
def shardlogref11_Make.l3 : Nat → Int → List Bool → List Int → Int → Int → Int → Option (List Int)
 | 0, _, _, _, _, _, _ => none
 | k + 1, x3, x4, x8, x9, x10, x11 => if x11 ≥ 0 then (if 0 ≤ (wrap64 ((wrap64 (8 * x9)) + x11)) then (if (wrap64 ((wrap64 (8 * x9)) + x11)) < (x4.length : Int) then (if rdOf false x4 (wrap64 ((wrap64 (8 * x9)) + x11)) = true then (shardlogref11_Make.l3 k x3 x4 x8 x9 (wrap64 ((wrap64 (2 * x10)) + 1)) (wrap64 (x11 - 1))) else (shardlogref11_Make.l3 k x3 x4 x8 x9 (wrap64 (2 * x10)) (wrap64 (x11 - 1)))) else (none)) else (none)) else (if x8.length < 140737488355328 then (shardlogref11_Make.l2 k x3 x4 (x8 ++ [(x10) % 256]) (wrap64 (x9 + 1))) else (none))
end
def shardlogref11_Make.f (k : Nat) (l0 : List ByteArray) : Option (List Int) := if (l0.length : Int) = 0 then (shardlogref11_Make.j0 k l0 1) else (shardlogref11_Make.j0 k l0 (l0.length : Int))
theorem shardlogref11_Make.mono_l : ∀ k, (∀ y0 y1, LeO (shardlogref11_Make.j0 k y0 y1) (shardlogref11_Make.j0 (k + 1) y0 y1)) ∧ (∀ y0 y1 y2 y3, LeO (shardlogref11_Make.l0 k y0 y1 y2 y3) (shardlogref11_Make.l0 (k + 1) y0 y1 y2 y3)) ∧ (∀ y0 y1 y2 y3 y4 y5, LeO (shardlogref11_Make.l1 k y0 y1 y2 y3 y4 y5) (shardlogref11_Make.l1 (k + 1) y0 y1 y2 y3 y4 y5)) ∧ (∀ y0 y1 y2 y3, LeO (shardlogref11_Make.l2 k y0 y1 y2 y3) (shardlogref11_Make.l2 (k + 1) y0 y1 y2 y3)) ∧ (∀ y0 y1 y2 y3 y4 y5, LeO (shardlogref11_Make.l3 k y0 y1 y2 y3 y4 y5) (shardlogref11_Make.l3 (k + 1) y0 y1 y2 y3 y4 y5))
 | 0 => ⟨fun _ _ r h => by simp [shardlogref11_Make.j0] at h, fun _ _ _ _ r h => by simp [shardlogref11_Make.l0] at h, fun _ _ _ _ _ _ r h => by simp [shardlogref11_Make.l1] at h, fun _ _ _ _ r h => by simp [shardlogref11_Make.l2] at h, fun _ _ _ _ _ _ r h => by simp [shardlogref11_Make.l3] at h⟩
 | k + 1 => by
  obtain ⟨ih0, ih1, ih2, ih3, ih4⟩ := shardlogref11_Make.mono_l k; refine ⟨?_, ?_, ?_, ?_, ?_⟩
  ·
   intro y0 y1
   unfold shardlogref11_Make.j0
   have m0 := @shardlogref11_Bits.mono; exact lmo
  ·
   intro y0 y1 y2 y3
   unfold shardlogref11_Make.l0
   have m0 := @shardlogref11_Bits.mono; exact lmo
  ·
   intro y0 y1 y2 y3 y4 y5
   unfold shardlogref11_Make.l1
   have m0 := @shardlogref11_Bits.mono; exact lmo
  ·
   intro y0 y1 y2 y3
   unfold shardlogref11_Make.l2
   have m0 := @shardlogref11_Bits.mono; exact lmo
  ·
   intro y0 y1 y2 y3 y4 y5
   unfold shardlogref11_Make.l3
   have m0 := @shardlogref11_Bits.mono; exact lmo
theorem shardlogref11_Make.mono : ∀ a0 k, LeO (shardlogref11_Make.f k a0) (shardlogref11_Make.f (k + 1) a0) := by
 intro a0 k
 obtain ⟨ih0, ih1, ih2, ih3, ih4⟩ := shardlogref11_Make.mono_l k
 unfold shardlogref11_Make.f
 have m0 := @shardlogref11_Bits.mono; exact lmo
set_option maxHeartbeats 8000000 in
set_option maxRecDepth 100000 in
theorem shardlogref11_Make.calls (k : Nat) (A0 : Option Addr) (c0 : Nat) (l0 : List ByteArray) (r : List Int) (w : World) (hr0 : Kd.C Kd.string w A0 l0.length l0) (hc0 : l0.length ≤ c0) (h : shardlogref11_Make.f k l0 = some r) :
  Calls Try.prog 26 #[.slice A0 l0.length c0] w fun e w' => ∃ v0_ : Value, e = .returned (v0_) ∧ Kd.R (Kd.int .u8) 5 w' w.heap.size (fun _ => True) v0_ r ∧ Below w.heap.size w w' := by
 have HR0 := aS hr0; have HC0 := aS hc0; clear hr0 hc0; have HB := aS (Below.refl w.heap.size w); have H : (if (l0.length : Int) = 0 then (shardlogref11_Make.j0 k l0 1) else (shardlogref11_Make.j0 k l0 (l0.length : Int))) = some r := h; clear h; have HC2 := aS H; clear H
 go_enter Try.func26, Try.ntmps26
 go_upto_if 15 with (fail)
 go_cut [3] (fun v3 wc => ∃ (kq : Nat) (x3_1 : Int), v3 = .int .i64 x3_1 ∧ Aside0 (shardlogref11_Make.j0 kq l0 x3_1 = some r) ∧ Aside0 (kq ≤ k) ∧ Aside0 (Below w.heap.size w wc))
 case first =>
  have H := HC2.out; clear HC2
  by_cases c3 : (l0.length : Int) = 0
  ·
   rw [if_pos c3] at H; obtain ⟨c3b0, c3b1⟩ := eqT c3; clear c3
   (first | rw [c3b0] | (simp only [i64_w, i32_w]; rw [c3b0]) | skip)
   have H' := aS H
   clear H
   go_wp2
   go_meet
   case rel => exact ⟨_, (1), srf, H', ⟨by first | omega | exact Nat.le_refl _⟩, ⟨bel⟩⟩
  ·
   rw [if_neg c3] at H; obtain ⟨c3b0, c3b1⟩ := eqF c3
   have c3b2 : ¬ (l0 = []) := fun h_ => c3 (by rw [h_]; rfl)
   (first | rw [c3b0] | (simp only [i64_w, i32_w]; rw [c3b0]) | skip)
   have H' := aS H
   clear H
   go_wp2
   go_meet
   case rel => exact ⟨_, ((l0.length : Int)), srf, H', ⟨by first | omega | exact Nat.le_refl _⟩, ⟨bel⟩⟩
 case rest =>
  clear HC2; obtain ⟨kq, x3_1, rfl, HA, HJ1, HB⟩ := hcut
  cases kq with
  | zero => exact absurd HA.out (by simp [shardlogref11_Make.j0])
  | succ kj1 =>
   have H := HA.out; clear HA
   simp only [shardlogref11_Make.j0] at H
   obtain ⟨ji4, hji4⟩ : ∃ j_ : Int, (wrap64 (8 * x3_1)) = j_ := ⟨_, rfl⟩
   replace H : (if 0 ≤ (ji4) then (if (ji4 : Int).toNat ≤ 281474976710656 then (shardlogref11_Make.l0 kj1 l0 x3_1 (List.replicate (ji4 : Int).toNat false) 0) else (none)) else (none)) = some r := by first | (rw [hji4] at H; exact H) | (simp only [hji4] at H ⊢; exact H)
   have hji4w : (IntKind.i64.wrap (8 * x3_1)) = ji4 := (i64_w _).trans hji4
   by_cases c5 : 0 ≤ (ji4)
   ·
    rw [if_pos c5] at H; have c5b0 := eq_true c5; have c5b1 : decide (0 ≤ (ji4)) = true := decide_eq_true c5; clear c5
    by_cases c6 : (ji4 : Int).toNat ≤ 281474976710656
    ·
     rw [if_pos c6] at H; have c6b0 := eq_true c6; have c6b1 : decide ((ji4 : Int).toNat ≤ 281474976710656) = true := decide_eq_true c6; clear c6
     obtain ⟨y643, hy643⟩ : ∃ y_ : List Bool, y_ = (List.replicate (ji4 : Int).toNat false) := ⟨_, rfl⟩
     replace H : (shardlogref11_Make.l0 kj1 l0 x3_1 y643 0) = some r := hyr hy643 H; have Ny643 := aS hy643; clear hy643
     have H' := aS H
     clear H
     go_wp2_with (first | ((with_reducible refine gate_dst (N := 18) rfl ?_); refine Kd.R_make Kd.bool _ 4 rfl (N := 18) rfl 79 _ _ rfl ji4 rfl rfl Try.underlying79 (.bool false) 1 info4 rfl (by decide) (by omega) false (ok := fun _ => True) (okp := fun _ => True) rfl (fun _ hk => hk) trivial (oda) (Nat.le_trans (Nat.mul_le_mul_right _ (oda : ji4.toNat ≤ 281474976710656)) (by omega)) (Below.refl _ _) (Nat.le_refl _) ?_; intro v644 w7 ho8 hb hg_ hnew_; clear hg_ hnew_; (first | rw [← Ny643.out] at ho8 | (simp only [Int.reduceToNat] at ho8; rw [← Ny643.out] at ho8)); have HO645 := aS (Kd.R_lower ho8 (below_size bel)); replace HB := bstep hb; clear hb ho8))
     have HJ_ := aS hji4; clear hji4w hji4
     go_loopg [5] kj1 (fun kq v5 w' => ∃ (x4_2 : List Bool) (x5_2 : Int), v5 = .int .i64 x5_2 ∧ Aside0 (shardlogref11_Make.l0 kq l0 x3_1 x4_2 x5_2 = some r) ∧ Aside0 (kq ≤ kj1) ∧ Aside0 (Kd.R Kd.bool 4 w' w.heap.size (fun _ => True) v644 x4_2) ∧ Aside0 (Below w.heap.size w w'))
     case atStart => exact ⟨(y643), (0), srf, H', ⟨Nat.le_refl _⟩, ⟨by (with_reducible repeat (first | apply Kd.R_alloc | apply Kd.R_drewN | apply Kd.R_drew)); exact HO645.out⟩, ⟨bel⟩⟩
     case round =>
      clear H'; (try clear c5); (try clear c5b0); (try clear c5b1); (try clear c6); (try clear c6b0); (try clear c6b1); obtain ⟨x4_2, x5_2, rfl, HA, HK2, HO_4, HB⟩ := hrel
      cases gk with
      | zero => exact absurd HA.out (by simp [shardlogref11_Make.l0])
      | succ k2 =>
       have H := HA.out; clear HA
       simp only [shardlogref11_Make.l0] at H
       by_cases c9 : x5_2 < (l0.length : Int)
       ·
        rw [if_pos c9] at H; have c9b0 : decide (x5_2 < (l0.length : Int)) = true := decide_eq_true c9; clear c9
        by_cases c10 : 0 ≤ x5_2
        ·
         rw [if_pos c10] at H; have c10b0 : decide (0 ≤ x5_2) = true := decide_eq_true c10; clear c10; replace H := obm H; obtain ⟨t647, A110, H⟩ := H; have A11 := aS A110; clear A110
         have H' := aS H
         clear H; have p646 : 0 ≤ (x5_2 : Int) := oda; have q646 : x5_2 < (l0.length : Int) := oda; obtain ⟨ad646, e646, hx646_0⟩ := Kd.at_string HR0.out x5_2 p646 q646; cases e646; replace hx646_0 := bx bel hx646_0; replace p646 := eq_true p646; replace q646 := eq_true q646
         go_wp2_with (first | ((with_reducible refine gate_callee (f := 50) rfl ?_); refine goesL_ (some 31) rfl rfl Try.func50 (by kernel_rfl) rfl #[.string (rdOf ByteArray.empty l0 x5_2), .int .i64 (wrap64 (8 * x3_1))] rfl agn ?_; (with_reducible refine (shardlogref11_Bits.calls k2 (rdOf ByteArray.empty l0 x5_2) (wrap64 (8 * x3_1)) t647 _ A11.out).mono ?_); rintro e w12 ⟨v648, rfl, ho0, hb⟩; refine ⟨_, rfl, ?_⟩; replace HO_4 := aS (Kd.R_below (rel HO_4.out) hb); have HO649 := aS (Kd.R_lower ho0 (below_size bel)); replace HB := bstep hb; (try clear hb); (try clear hk); (try clear hi); (try clear ho0)))
         go_loopg [7] k2 (fun kq v7 w' => ∃ (x4_3 : List Bool) (x7_3 : Int), v7 = .int .i64 x7_3 ∧ Aside0 (shardlogref11_Make.l1 kq l0 x3_1 x4_3 x5_2 t647 x7_3 = some r) ∧ Aside0 (kq ≤ k2) ∧ Aside0 (Kd.R Kd.bool 4 w' w.heap.size (fun _ => True) v644 x4_3) ∧ Aside0 (Kd.R (Kd.int .i64) 3 w' w.heap.size (fun _ => True) v648 t647) ∧ Aside0 (Below w.heap.size w w'))
         case atStart => exact ⟨(x4_2), (0), srf, H', ⟨Nat.le_refl _⟩, ⟨by (with_reducible repeat (first | apply Kd.R_alloc | apply Kd.R_drewN | apply Kd.R_drew)); exact HO_4.out⟩, ⟨by (with_reducible repeat (first | apply Kd.R_alloc | apply Kd.R_drewN | apply Kd.R_drew)); exact HO649.out⟩, ⟨bel⟩⟩
         case round =>
          clear H'; (try clear c5); (try clear c5b0); (try clear c5b1); (try clear c6); (try clear c6b0); (try clear c6b1); (try clear c9); (try clear c9b0); (try clear c10); (try clear c10b0); (try clear hx646_0); (try clear p646); (try clear q646); obtain ⟨x4_3, x7_3, rfl, HA, HK3, HO_4, HO_6, HB⟩ := hrel
          cases gk with
          | zero => exact absurd HA.out (by simp [shardlogref11_Make.l1])
          | succ k3 =>
           have H := HA.out; clear HA
           simp only [shardlogref11_Make.l1] at H
           by_cases c13 : x7_3 < (t647.length : Int)
           ·
            rw [if_pos c13] at H; have c13b0 : decide (x7_3 < (t647.length : Int)) = true := decide_eq_true c13; clear c13
            by_cases c14 : 0 ≤ x7_3
            ·
             rw [if_pos c14] at H; have c14b0 : decide (0 ≤ x7_3) = true := decide_eq_true c14; clear c14
             by_cases c15 : 0 ≤ (rd t647 x7_3)
             ·
              rw [if_pos c15] at H; have c15b0 : decide (0 ≤ (rd t647 x7_3)) = true := decide_eq_true c15; clear c15
              by_cases c16 : (rd t647 x7_3) < (x4_3.length : Int)
              ·
               rw [if_pos c16] at H; have c16b0 : decide ((rd t647 x7_3) < (x4_3.length : Int)) = true := decide_eq_true c16; clear c16
               obtain ⟨y651, hy651⟩ : ∃ y_ : List Bool, y_ = (x4_3.set ((rd t647 x7_3) : Int).toNat true) := ⟨_, rfl⟩
               (first | replace H := hyn hy651 H | rw [← hy651] at H); have Ny651 := aS hy651; clear hy651
               have H' := aS H
               clear H; obtain ⟨Ao18, co18, eo18⟩ := Kd.R_slice HO_6.out; subst eo18; have p650 : 0 ≤ (x7_3 : Int) := oda; have q650 : x7_3 < (t647.length : Int) := oda; obtain ⟨ad650, e650, hx650_0⟩ := Kd.at_int (Kd.R_reads' HO_6.out).2.2 x7_3 p650 q650; cases e650; replace p650 := eq_true p650; replace q650 := eq_true q650; have p17 : 0 ≤ ((rd t647 x7_3) : Int) := oda; have q17 : ((rd t647 x7_3) : Int) < ((x4_3.length : Int) : Int) := oda; obtain ⟨go17, co17, eo17, gb17, gl17, cl17, HG17⟩ := Kd.R_form HO_4.out (by omega)
               (first | cases eo17 | (injection eo17 with ea_ en_ ec_; (first | subst ea_ | (injection ea_ with ea_; subst ea_)); subst ec_; clear en_))
               have GB17 := aS gb17; have GG17 := aS HG17; clear gb17 gl17 HG17; obtain ⟨hx17_0, hf17_0⟩ := Kd.R_celln false HO_4.out ((rd t647 x7_3) : Int) p17 q17; replace p17 := eq_true p17; replace q17 := eq_true q17; have HP19 := Kd.R_putg HO_4.out ((rd t647 x7_3) : Int) true
               go_wp2_with (first | ((with_reducible refine gate_store (t := 4) (p := 43) rfl ?_); refine store_event (t := 4) (p := 43) (v := ?vo_w20) (w1 := (wr.setCell ⟨go17, ((rd t647 x7_3) : Int).toNat, none⟩ (.bool true))) ?hg ?ho ?hn ?hr ?_; (case ho => rfl); (case hg => rfl); (case hn => rfl); (case hr => first | (go_simp; done) | (go_simp; rfl)); intro w20 hw; have hg : wr.grownBy w20 (some go17) := (by rw [hw]; exact HP19.2); have hp_ : Kd.R Kd.bool 4 w20 w.heap.size (fun _ => True) (.slice (some ⟨go17, 0, none⟩) x4_3.length co17) y651 := (by rw [hw, Ny651.out]; exact HP19.1); clear HP19; replace HO_6 := aS (Kd.R_over' (v := (.slice (some ⟨go17, 0, none⟩) x4_3.length co17)) (rel HO_6.out) (Kd.R_typed HO_4.out) (by decide) hg); replace HO_4 := aS (hp_); replace HB := aS ((by rw [hw]; exact below_set (HB.out) GB17.out : Below w.heap.size w w20)); clear hg hw hp_))
               go_roundg k3
               case measure => have := HJ1.out; have := HK2.out; have := HK3.out; omega
               case rel => exact ⟨(y651), (wrap64 (x7_3 + 1)), srf, H', ⟨by have := HJ1.out; have := HK2.out; have := HK3.out; omega⟩, ⟨by (with_reducible repeat (first | apply Kd.R_alloc | apply Kd.R_drewN | apply Kd.R_drew)); exact HO_4.out⟩, ⟨by (with_reducible repeat (first | apply Kd.R_alloc | apply Kd.R_drewN | apply Kd.R_drew)); exact HO_6.out⟩, ⟨bel⟩⟩
              ·
               rw [if_neg c16] at H; exact absurd H (by simp)
             ·
              rw [if_neg c15] at H; exact absurd H (by simp)
            ·
             rw [if_neg c14] at H; exact absurd H (by simp)
           ·
            rw [if_neg c13] at H; have c13b0 : decide (x7_3 < (t647.length : Int)) = false := decide_eq_false c13; clear c13
            have H' := aS H
            clear H; obtain ⟨Ao21, co21, eo21⟩ := Kd.R_slice HO_6.out; subst eo21
            go_wp2
            go_roundg k3
            case measure => have := HJ1.out; have := HK2.out; have := HK3.out; omega
            case rel => exact ⟨(x4_3), (wrap64 (x5_2 + 1)), srf, H', ⟨by have := HJ1.out; have := HK2.out; have := HK3.out; omega⟩, ⟨by (with_reducible repeat (first | apply Kd.R_alloc | apply Kd.R_drewN | apply Kd.R_drew)); exact HO_4.out⟩, ⟨bel⟩⟩
        ·
         rw [if_neg c10] at H; exact absurd H (by simp)
       ·
        rw [if_neg c9] at H; have c9b0 : decide (x5_2 < (l0.length : Int)) = false := decide_eq_false c9; clear c9
        have H' := aS H
        clear H
        go_wp2
        go_loopg [8, 9] k2 (fun kq v8 v9 w' => ∃ (x8_3 : List Int) (x9_3 : Int), v9 = .int .i64 x9_3 ∧ Aside0 (shardlogref11_Make.l2 kq x3_1 x4_2 x8_3 x9_3 = some r) ∧ Aside0 (kq ≤ k2) ∧ Aside0 (Kd.R Kd.bool 4 w' w.heap.size (fun _ => True) v644 x4_2) ∧ Aside0 (Kd.R (Kd.int .u8) 5 w' w.heap.size (fun _ => True) v8 x8_3) ∧ Aside0 (Below w.heap.size w w'))
        case atStart => exact ⟨(([] : List Int)), (0), srf, H', ⟨Nat.le_refl _⟩, ⟨by (with_reducible repeat (first | apply Kd.R_alloc | apply Kd.R_drewN | apply Kd.R_drew)); exact HO_4.out⟩, ⟨by first | exact Kd.R_nil _ _ _ _ _ | exact Kd.N_nil _ _ _ _ _ | exact Kd.V_nil _ _ _ _ _ | exact Kd.Q_nil _ _ _ _ _ | exact Kd.S_nil _ _ _ _ _⟩, ⟨bel⟩⟩
        case round =>
         clear H'; (try clear c5); (try clear c5b0); (try clear c5b1); (try clear c6); (try clear c6b0); (try clear c6b1); (try clear c9); (try clear c9b0); obtain ⟨x8_3, x9_3, rfl, HA, HK3, HO_4, HO_8, HB⟩ := hrel
         cases gk with
         | zero => exact absurd HA.out (by simp [shardlogref11_Make.l2])
         | succ k3 =>
          have H := HA.out; clear HA
          simp only [shardlogref11_Make.l2] at H
          by_cases c22 : x9_3 < x3_1
          ·
           rw [if_pos c22] at H; have c22b0 : decide (x9_3 < x3_1) = true := decide_eq_true c22; clear c22
           have H' := aS H
           clear H
           go_wp2
           go_loopg [10, 11] k3 (fun kq v10 v11 w' => ∃ (x10_4 : Int) (x11_4 : Int), v10 = .int .i64 x10_4 ∧ v11 = .int .i64 x11_4 ∧ Aside0 (shardlogref11_Make.l3 kq x3_1 x4_2 x8_3 x9_3 x10_4 x11_4 = some r) ∧ Aside0 (kq ≤ k3) ∧ Aside0 (Kd.R Kd.bool 4 w' w.heap.size (fun _ => True) v644 x4_2) ∧ Aside0 (Kd.R (Kd.int .u8) 5 w' w.heap.size (fun _ => True) u8 x8_3) ∧ Aside0 (Below w.heap.size w w'))
           case atStart => exact ⟨(0), (7), srf, srf, H', ⟨Nat.le_refl _⟩, ⟨by (with_reducible repeat (first | apply Kd.R_alloc | apply Kd.R_drewN | apply Kd.R_drew)); exact HO_4.out⟩, ⟨by (with_reducible repeat (first | apply Kd.R_alloc | apply Kd.R_drewN | apply Kd.R_drew)); exact HO_8.out⟩, ⟨bel⟩⟩
           case round =>
            clear H'; (try clear c5); (try clear c5b0); (try clear c5b1); (try clear c6); (try clear c6b0); (try clear c6b1); (try clear c9); (try clear c9b0); (try clear c22); (try clear c22b0); obtain ⟨x10_4, x11_4, rfl, rfl, HA, HK4, HO_4, HO_8, HB⟩ := hrel
            cases gk with
            | zero => exact absurd HA.out (by simp [shardlogref11_Make.l3])
            | succ k4 =>
             have H := HA.out; clear HA
             simp only [shardlogref11_Make.l3] at H
             by_cases c23 : x11_4 ≥ 0
             ·
              rw [if_pos c23] at H; have c23b0 : decide (0 ≤ x11_4) = true := decide_eq_true c23; clear c23
              obtain ⟨ji24, hji24⟩ : ∃ j_ : Int, (wrap64 ((wrap64 (8 * x9_3)) + x11_4)) = j_ := ⟨_, rfl⟩
              replace H : (if 0 ≤ (ji24) then (if (ji24) < (x4_2.length : Int) then (if rdOf false x4_2 (ji24) = true then (shardlogref11_Make.l3 k4 x3_1 x4_2 x8_3 x9_3 (wrap64 ((wrap64 (2 * x10_4)) + 1)) (wrap64 (x11_4 - 1))) else (shardlogref11_Make.l3 k4 x3_1 x4_2 x8_3 x9_3 (wrap64 (2 * x10_4)) (wrap64 (x11_4 - 1)))) else (none)) else (none)) = some r := by first | (rw [hji24] at H; exact H) | (simp only [hji24] at H ⊢; exact H)
              have hji24w : (IntKind.i64.wrap ((wrap64 (8 * x9_3)) + x11_4)) = ji24 := (i64_w _).trans hji24
              by_cases c25 : 0 ≤ (ji24)
              ·
               rw [if_pos c25] at H; have c25b0 : decide (0 ≤ (ji24)) = true := decide_eq_true c25; clear c25
               by_cases c26 : (ji24) < (x4_2.length : Int)
               ·
                rw [if_pos c26] at H; have c26b0 : decide ((ji24) < (x4_2.length : Int)) = true := decide_eq_true c26; clear c26
                obtain ⟨bq27, hbq27⟩ : ∃ b_ : Bool, b_ = (rdOf false x4_2 (ji24)) := ⟨_, rfl⟩
                replace H : (if bq27 = true then (shardlogref11_Make.l3 k4 x3_1 x4_2 x8_3 x9_3 (wrap64 ((wrap64 (2 * x10_4)) + 1)) (wrap64 (x11_4 - 1))) else (shardlogref11_Make.l3 k4 x3_1 x4_2 x8_3 x9_3 (wrap64 (2 * x10_4)) (wrap64 (x11_4 - 1)))) = some r := by rw [← hbq27] at H; exact H
                have Nbq27 := aS hbq27; clear hbq27
                by_cases c28 : bq27 = true
                ·
                 subst c28
                 replace H := ifT H
                 have H' := aS H
                 clear H; obtain ⟨Ao29, co29, eo29⟩ := Kd.R_slice HO_4.out; subst eo29; have p652 : 0 ≤ ((ji24) : Int) := oda; have q652 : (ji24) < (x4_2.length : Int) := oda; obtain ⟨ad652, e652, hx652_0⟩ := Kd.at_bool (Kd.R_reads' HO_4.out).2.2 (ji24) p652 q652
                 (try rw [← Nbq27.out] at hx652_0)
                 cases e652; replace p652 := eq_true p652; replace q652 := eq_true q652
                 go_wp2
                 go_roundg k4
                 case measure => have := HJ1.out; have := HK2.out; have := HK3.out; have := HK4.out; omega
                 case rel => exact ⟨(wrap64 ((wrap64 (2 * x10_4)) + 1)), (wrap64 (x11_4 - 1)), srf, srf, H', ⟨by have := HJ1.out; have := HK2.out; have := HK3.out; have := HK4.out; omega⟩, ⟨by (with_reducible repeat (first | apply Kd.R_alloc | apply Kd.R_drewN | apply Kd.R_drew)); exact HO_4.out⟩, ⟨by (with_reducible repeat (first | apply Kd.R_alloc | apply Kd.R_drewN | apply Kd.R_drew)); exact HO_8.out⟩, ⟨bel⟩⟩
                ·
                 replace c28 := Bool.eq_false_iff.mpr c28; subst c28
                 replace H := ifF H
                 have H' := aS H
                 clear H; obtain ⟨Ao30, co30, eo30⟩ := Kd.R_slice HO_4.out; subst eo30; have p652 : 0 ≤ ((ji24) : Int) := oda; have q652 : (ji24) < (x4_2.length : Int) := oda; obtain ⟨ad652, e652, hx652_0⟩ := Kd.at_bool (Kd.R_reads' HO_4.out).2.2 (ji24) p652 q652
                 (try rw [← Nbq27.out] at hx652_0)
                 cases e652; replace p652 := eq_true p652; replace q652 := eq_true q652
                 go_wp2
                 go_roundg k4
                 case measure => have := HJ1.out; have := HK2.out; have := HK3.out; have := HK4.out; omega
                 case rel => exact ⟨(wrap64 (2 * x10_4)), (wrap64 (x11_4 - 1)), srf, srf, H', ⟨by have := HJ1.out; have := HK2.out; have := HK3.out; have := HK4.out; omega⟩, ⟨by (with_reducible repeat (first | apply Kd.R_alloc | apply Kd.R_drewN | apply Kd.R_drew)); exact HO_4.out⟩, ⟨by (with_reducible repeat (first | apply Kd.R_alloc | apply Kd.R_drewN | apply Kd.R_drew)); exact HO_8.out⟩, ⟨bel⟩⟩
               ·
                rw [if_neg c26] at H; exact absurd H (by simp)
              ·
               rw [if_neg c25] at H; exact absurd H (by simp)
             ·
              rw [if_neg c23] at H; have c23b0 : decide (0 ≤ x11_4) = false := decide_eq_false c23; clear c23
              by_cases c31 : x8_3.length < 140737488355328
              ·
               rw [if_pos c31] at H; have LMc31 := aS c31; clear c31
               obtain ⟨y653, hy653⟩ : ∃ y_ : List Int, y_ = (x8_3 ++ [(x10_4) % 256]) := ⟨_, rfl⟩
               (first | replace H := hyn hy653 H | rw [← hy653] at H); have Ny653 := aS hy653; clear hy653
               have H' := aS H
               clear H
               go_wp2_with (first | ((with_reducible refine gate_builtin (b := .append) (xs := #[.tmp 64, .tmp 67]) rfl ?_); at_builtin; refine Kd.R_append (Kd.int .u8) (w0 := w) w.heap.size rfl (.tmp 64) (.tmp 67) 26 5 (.int .u8 0) 1 rfl Try.underlying26 info5 rfl (by decide) (by omega) u8 x8_3 ((x10_4) % 256) [.int .u8 ((x10_4) % 256)] (fun _ => True) (fun _ => False) rfl rfl ?aP (fun _ hk => hk.elim) ?aF ?aO ?aB ?aS ?aL ?_; (case aP => exact rfl); (case aB => exact bel); (case aF => exact (fun _ _ => trivial)); (case aO => exact (rel HO_8.out)); (case aS => exact (below_size bel)); (case aL => have := LMc31.out; omega); intro v654 w32 ho hb hg hat; rw [← Ny653.out] at ho; have n0_ := aS (Kd.R_over' (rel HO_4.out) (Kd.R_typed (rel HO_8.out)) (by decide) hg); have n1_ := aS (hb); have n2_ := aS (ho); clear HO_4; clear HB; clear HO_8; have HO_4 := n0_; have HB := n1_; have HO655 := n2_; clear n0_ n1_ n2_; clear ho hb hg hat))
               go_roundg k4
               case measure => have := HJ1.out; have := HK2.out; have := HK3.out; have := HK4.out; omega
               case rel => exact ⟨(y653), (wrap64 (x9_3 + 1)), srf, H', ⟨by have := HJ1.out; have := HK2.out; have := HK3.out; have := HK4.out; omega⟩, ⟨by (with_reducible repeat (first | apply Kd.R_alloc | apply Kd.R_drewN | apply Kd.R_drew)); exact HO_4.out⟩, ⟨by (with_reducible repeat (first | apply Kd.R_alloc | apply Kd.R_drewN | apply Kd.R_drew)); exact HO655.out⟩, ⟨bel⟩⟩
              ·
               rw [if_neg c31] at H; exact absurd H (by simp)
          ·
           rw [if_neg c22] at H; have c22b0 : decide (x9_3 < x3_1) = false := decide_eq_false c22; clear c22
           obtain rfl := Option.some.inj H
           go_wp2
           go_ret
           exact ⟨_, by first | rfl | (simp [errW_none, errW_some] <;> rfl) | (simp only [← HJ_.out]; first | rfl | (simp [errW_none, errW_some] <;> rfl)) | (simp [*, errW_none, errW_some] <;> rfl), by (with_reducible repeat (first | apply Kd.R_alloc | apply Kd.R_drewN | apply Kd.R_drew)); exact HO_8.out, bel⟩
    ·
     rw [if_neg c6] at H; exact absurd H (by simp)
   ·
    rw [if_neg c5] at H; exact absurd H (by simp)

/-! ### shardlogref06_Put: function 36 -/
def shardlogref06_Put.f (k : Nat) (l0 : List Int) : Option (List Int) := (shardlogref01_Num.f (l0.length : Int)).bind fun t656 => ((some (([] : List Int) : List Int)).bind fun y659 => (if y659.length + t656.length < 140737488355328 then ((some (y659 ++ t656 : List Int)).bind fun y662 => ((shardlogref02_Sum.f k t656).bind fun t665 => ((shardlogref01_Num.f (wrap64 (t665))).bind fun t666 => (if y662.length + t666.length < 140737488355328 then ((some (y662 ++ t666 : List Int)).bind fun y669 => ((shardlogref02_Sum.f k l0).bind fun t672 => ((shardlogref01_Num.f (wrap64 (t672))).bind fun t673 => (if y669.length + t673.length < 140737488355328 then ((some (y669 ++ t673 : List Int)).bind fun y676 => (if y676.length + l0.length < 140737488355328 then (some (y676 ++ l0)) else (none))) else (none))))) else (none))))) else (none)))
theorem shardlogref06_Put.mono : ∀ a0 k, LeO (shardlogref06_Put.f k a0) (shardlogref06_Put.f (k + 1) a0) := by
 intro a0 k
 unfold shardlogref06_Put.f
 have m0 := @shardlogref02_Sum.mono; exact lmo
set_option maxHeartbeats 8000000 in
set_option maxRecDepth 100000 in
theorem shardlogref06_Put.calls (k : Nat) (A0 : Option Addr) (c0 : Nat) (l0 : List Int) (r : List Int) (w : World) (hr0 : Kd.C (Kd.int .u8) w A0 l0.length l0) (hc0 : l0.length ≤ c0) (h : shardlogref06_Put.f k l0 = some r) :
  Calls Try.prog 36 #[.slice A0 l0.length c0] w fun e w' => ∃ v0_ : Value, e = .returned (v0_) ∧ Kd.R (Kd.int .u8) 5 w' w.heap.size (fun _ => True) v0_ r ∧ Below w.heap.size w w' := by
 have HR0 := aS hr0; have HC0 := aS hc0; clear hr0 hc0; have HB := aS (Below.refl w.heap.size w); have H : ((shardlogref01_Num.f (l0.length : Int)).bind fun t656 => ((some (([] : List Int) : List Int)).bind fun y659 => (if y659.length + t656.length < 140737488355328 then ((some (y659 ++ t656 : List Int)).bind fun y662 => ((shardlogref02_Sum.f k t656).bind fun t665 => ((shardlogref01_Num.f (wrap64 (t665))).bind fun t666 => (if y662.length + t666.length < 140737488355328 then ((some (y662 ++ t666 : List Int)).bind fun y669 => ((shardlogref02_Sum.f k l0).bind fun t672 => ((shardlogref01_Num.f (wrap64 (t672))).bind fun t673 => (if y669.length + t673.length < 140737488355328 then ((some (y669 ++ t673 : List Int)).bind fun y676 => (if y676.length + l0.length < 140737488355328 then (some (y676 ++ l0)) else (none))) else (none))))) else (none))))) else (none)))) = some r := h; clear h; replace H := obm H; obtain ⟨t656, A20, H⟩ := H; have A2 := aS A20; clear A20
 obtain ⟨y659, hy659⟩ : ∃ y_ : List Int, y_ = (([] : List Int)) := ⟨_, rfl⟩
 (first | replace H := hyn hy659 H | rw [← hy659] at H); have Ny659 := aS hy659; clear hy659
 by_cases c3 : y659.length + t656.length < 140737488355328
 ·
  rw [if_pos c3] at H; have LMc3 := aS c3; clear c3
  obtain ⟨y662, hy662⟩ : ∃ y_ : List Int, y_ = (y659 ++ t656) := ⟨_, rfl⟩
  (first | replace H := hyn hy662 H | rw [← hy662] at H); have Ny662 := aS hy662; clear hy662; replace H := obm H; obtain ⟨t665, A40, H⟩ := H; have A4 := aS A40; clear A40; replace H := obm H; obtain ⟨t666, A50, H⟩ := H; have A5 := aS A50; clear A50
  by_cases c6 : y662.length + t666.length < 140737488355328
  ·
   rw [if_pos c6] at H; have LMc6 := aS c6; clear c6
   obtain ⟨y669, hy669⟩ : ∃ y_ : List Int, y_ = (y662 ++ t666) := ⟨_, rfl⟩
   (first | replace H := hyn hy669 H | rw [← hy669] at H); have Ny669 := aS hy669; clear hy669; replace H := obm H; obtain ⟨t672, A70, H⟩ := H; have A7 := aS A70; clear A70; replace H := obm H; obtain ⟨t673, A80, H⟩ := H; have A8 := aS A80; clear A80
   by_cases c9 : y669.length + t673.length < 140737488355328
   ·
    rw [if_pos c9] at H; have LMc9 := aS c9; clear c9
    obtain ⟨y676, hy676⟩ : ∃ y_ : List Int, y_ = (y669 ++ t673) := ⟨_, rfl⟩
    (first | replace H := hyn hy676 H | rw [← hy676] at H); have Ny676 := aS hy676; clear hy676
    by_cases c10 : y676.length + l0.length < 140737488355328
    ·
     rw [if_pos c10] at H; have LMc10 := aS c10; clear c10
     obtain ⟨y679, hy679⟩ : ∃ y_ : List Int, y_ = (y676 ++ l0) := ⟨_, rfl⟩
     replace H : (some y679) = some r := hyr hy679 H; have Ny679 := aS hy679; clear hy679
     obtain rfl := Option.some.inj H
     go_enter Try.func36, Try.ntmps36
     go_wp2_with (first | ((with_reducible refine gate_callee (f := 33) rfl ?_); refine goesL_ (some 7) rfl rfl Try.func33 (by kernel_rfl) rfl #[.int .i64 (l0.length : Int)] rfl agn ?_; (with_reducible refine (shardlogref01_Num.calls (l0.length : Int) t656 _ A2.out).mono ?_); rintro e w11 ⟨v657, rfl, ho0, hb⟩; refine ⟨_, rfl, ?_⟩; have HO658 := aS (Kd.R_lower ho0 (below_size bel)); replace HB := bstep hb; (try clear hb); (try clear hk); (try clear hi); (try clear ho0)) | ((with_reducible refine gate_dst (N := 8) rfl ?_); refine Kd.R_lit (Kd.int .u8) _ 5 ?hg (N := 8) ?hd (xs := ([] : List Int)) (inner := []) (ok := fun _ => True) (okp := fun _ => True) ?hr ?hp (fun _ hk => hk) trivial (Below.refl _ _) (Nat.le_refl _) (by simp) ?_; (case hd => rfl); (case hg => rfl); (case hr => first | (go_simp; done) | (go_simp; rfl)); (case hp => exact (Reps.none _ _)); intro v660 w12 ho13 hb hg_ hnew_; clear hg_ hnew_; (first | rw [← Ny659.out] at ho13 | (simp only [Int.reduceToNat] at ho13; rw [← Ny659.out] at ho13)); have HO661 := aS (Kd.R_lower (Kd.R_new' ho13 (Kd.R_lt (rel HO658.out))) (below_size bel)); replace HO658 := aS (Kd.R_elder' (rel HO658.out) (ebs ho13) hb); replace HB := bstep hb; clear hb ho13; obtain ⟨Ao15, co15, eo15⟩ := Kd.R_slice HO658.out; subst eo15) | ((with_reducible refine gate_builtin (b := .append) (xs := #[.tmp 8, .tmp 9]) rfl ?_); at_builtin; refine Kd.R_append_rows (Kd.int .u8) (w0 := w) w.heap.size rfl (.tmp 8) (.tmp 9) 26 5 (.int .u8 0) 1 rfl Try.underlying26 info5 rfl (by decide) (by omega) v660 y659 t656 _ _ _ (fun k_ => some k_ ≠ (.slice Ao15 t656.length co15 : Value).ownBlock) (fun _ => False) rfl rfl ?aO ?aR (fun _ _ h => h) (fun _ h => h.elim) ?aF ?aB ?aS ?aL ?_; (case aR => exact cel ((Kd.R_reads' HO658.out).2.2)); (case aB => exact bel); (case aF => exact (fun k_ hk => Kd.fresh' (Kd.R_lt (rel HO658.out)) k_ hk)); (case aO => exact (rel (Kd.R_mono HO661.out (fun _ hk => hk.2)))); (case aS => exact (below_size bel)); (case aL => have := LMc3.out; omega); intro v663 w14 ho hb hg hat; rw [← Ny662.out] at ho; have n0_ := aS (Kd.R_after (ok := (fun _ => True)) (rel HO658.out) hg hat); have n1_ := aS (hb); have n2_ := aS (ho); clear HO658; clear HB; clear HO661; have HO658 := n0_; have HB := n1_; have HO664 := n2_; clear n0_ n1_ n2_; clear ho hb hg hat) | ((with_reducible refine gate_callee (f := 57) rfl ?_); refine goesL_ (some 12) rfl rfl Try.func57 (by kernel_rfl) rfl #[.slice Ao15 t656.length co15] rfl agn ?_; (with_reducible refine (shardlogref02_Sum.calls k _ _ t656 t665 _ ?side1 ?side2 A4.out).mono ?_); (case side1 => exact cel ((Kd.R_reads' HO658.out).2.2)); (case side2 => exact (Kd.R_reads' HO658.out).2.1); rintro e w' ⟨rfl, ⟨nd, rfl⟩⟩; refine ⟨_, rfl, ?_⟩) | ((with_reducible refine gate_callee (f := 33) rfl ?_); refine goesL_ (some 14) rfl rfl Try.func33 (by kernel_rfl) rfl #[.int .i64 (wrap64 (t665))] rfl agn ?_; (with_reducible refine (shardlogref01_Num.calls (wrap64 (t665)) t666 _ A5.out).mono ?_); rintro e w16 ⟨v667, rfl, ho0, hb⟩; refine ⟨_, rfl, ?_⟩; have HO668 := aS (Kd.R_lower (Kd.R_new' (Kd.R_new' ho0 (Kd.R_lt (rel HO658.out))) (Kd.R_lt (rel HO664.out))) (below_size bel)); replace HO658 := aS (Kd.R_elder' (rel HO658.out) (ebs ho0) hb); replace HO664 := aS (Kd.R_elder' (rel HO664.out) (ebs ho0) hb); replace HB := bstep hb; (try clear hb); (try clear hk); (try clear hi); (try clear ho0); obtain ⟨Ao18, co18, eo18⟩ := Kd.R_slice HO668.out; subst eo18) | ((with_reducible refine gate_builtin (b := .append) (xs := #[.tmp 10, .tmp 14]) rfl ?_); at_builtin; refine Kd.R_append_rows (Kd.int .u8) (w0 := w) w.heap.size rfl (.tmp 10) (.tmp 14) 26 5 (.int .u8 0) 1 rfl Try.underlying26 info5 rfl (by decide) (by omega) v663 y662 t666 _ _ _ (fun k_ => some k_ ≠ (.slice Ao15 t656.length co15 : Value).ownBlock ∧ some k_ ≠ (.slice Ao18 t666.length co18 : Value).ownBlock) (fun _ => False) rfl rfl ?aO ?aR (fun _ _ h => h) (fun _ h => h.elim) ?aF ?aB ?aS ?aL ?_; (case aR => exact cel ((Kd.R_reads' HO668.out).2.2)); (case aB => exact bel); (case aF => exact (fun k_ hk => ⟨Kd.fresh' (Kd.R_lt (rel HO658.out)) k_ hk, Kd.fresh' (Kd.R_lt (rel HO668.out)) k_ hk⟩)); (case aO => exact (rel HO664.out)); (case aS => exact (below_size bel)); (case aL => have := LMc6.out; omega); intro v670 w17 ho hb hg hat; rw [← Ny669.out] at ho; have n0_ := aS (Kd.R_after (ok := (fun k_ => some k_ ≠ (.slice Ao18 t666.length co18 : Value).ownBlock)) (by (with_reducible repeat (first | apply Kd.R_alloc | apply Kd.R_drewN | apply Kd.R_drew)); exact Kd.R_mono HO658.out (fun _ hk => ⟨hk.2, hk.1.2⟩)) hg hat); have n1_ := aS (Kd.R_after (ok := (fun k_ => some k_ ≠ (.slice Ao15 t656.length co15 : Value).ownBlock)) (by (with_reducible repeat (first | apply Kd.R_alloc | apply Kd.R_drewN | apply Kd.R_drew)); exact Kd.R_mono HO668.out (fun _ hk => ⟨hk.1.2, hk.2⟩)) hg hat); have n2_ := aS (hb); have n3_ := aS (ho); clear HO658; clear HO668; clear HB; clear HO664; have HO658 := n0_; have HO668 := n1_; have HB := n2_; have HO671 := n3_; clear n0_ n1_ n2_ n3_; clear ho hb hg hat) | ((with_reducible refine gate_callee (f := 57) rfl ?_); refine goesL_ (some 18) rfl rfl Try.func57 (by kernel_rfl) rfl #[.slice A0 l0.length c0] rfl agn ?_; (with_reducible refine (shardlogref02_Sum.calls k _ _ l0 t672 _ ?side1 ?side2 A7.out).mono ?_); (case side1 => exact cel (Kd.C_below HR0.out HB.out)); (case side2 => exact HC0.out); rintro e w' ⟨rfl, ⟨nd, rfl⟩⟩; refine ⟨_, rfl, ?_⟩) | ((with_reducible refine gate_callee (f := 33) rfl ?_); refine goesL_ (some 20) rfl rfl Try.func33 (by kernel_rfl) rfl #[.int .i64 (wrap64 (t672))] rfl agn ?_; (with_reducible refine (shardlogref01_Num.calls (wrap64 (t672)) t673 _ A8.out).mono ?_); rintro e w19 ⟨v674, rfl, ho0, hb⟩; refine ⟨_, rfl, ?_⟩; have HO675 := aS (Kd.R_lower (Kd.R_new' (Kd.R_new' (Kd.R_new' ho0 (Kd.R_lt (rel HO658.out))) (Kd.R_lt (rel HO668.out))) (Kd.R_lt (rel HO671.out))) (below_size bel)); replace HO658 := aS (Kd.R_elder' (rel HO658.out) (ebs ho0) hb); replace HO668 := aS (Kd.R_elder' (rel HO668.out) (ebs ho0) hb); replace HO671 := aS (Kd.R_elder' (rel HO671.out) (ebs ho0) hb); replace HB := bstep hb; (try clear hb); (try clear hk); (try clear hi); (try clear ho0); obtain ⟨Ao21, co21, eo21⟩ := Kd.R_slice HO675.out; subst eo21) | ((with_reducible refine gate_builtin (b := .append) (xs := #[.tmp 16, .tmp 20]) rfl ?_); at_builtin; refine Kd.R_append_rows (Kd.int .u8) (w0 := w) w.heap.size rfl (.tmp 16) (.tmp 20) 26 5 (.int .u8 0) 1 rfl Try.underlying26 info5 rfl (by decide) (by omega) v670 y669 t673 _ _ _ (fun k_ => some k_ ≠ (.slice Ao15 t656.length co15 : Value).ownBlock ∧ some k_ ≠ (.slice Ao18 t666.length co18 : Value).ownBlock ∧ some k_ ≠ (.slice Ao21 t673.length co21 : Value).ownBlock) (fun _ => False) rfl rfl ?aO ?aR (fun _ _ h => h) (fun _ h => h.elim) ?aF ?aB ?aS ?aL ?_; (case aR => exact cel ((Kd.R_reads' HO675.out).2.2)); (case aB => exact bel); (case aF => exact (fun k_ hk => ⟨Kd.fresh' (Kd.R_lt (rel HO658.out)) k_ hk, Kd.fresh' (Kd.R_lt (rel HO668.out)) k_ hk, Kd.fresh' (Kd.R_lt (rel HO675.out)) k_ hk⟩)); (case aO => exact (by (with_reducible repeat (first | apply Kd.R_alloc | apply Kd.R_drewN | apply Kd.R_drew)); exact Kd.R_mono HO671.out (fun _ hk => ⟨hk.1.1, ⟨hk.1.2, hk.2⟩⟩))); (case aS => exact (below_size bel)); (case aL => have := LMc9.out; omega); intro v677 w20 ho hb hg hat; rw [← Ny676.out] at ho; have n0_ := aS (Kd.R_after (ok := (fun k_ => some k_ ≠ (.slice Ao18 t666.length co18 : Value).ownBlock ∧ some k_ ≠ (.slice Ao21 t673.length co21 : Value).ownBlock)) (by (with_reducible repeat (first | apply Kd.R_alloc | apply Kd.R_drewN | apply Kd.R_drew)); exact Kd.R_mono HO658.out (fun _ hk => ⟨⟨hk.1.1, hk.2⟩, hk.1.2⟩)) hg hat); have n1_ := aS (Kd.R_after (ok := (fun k_ => some k_ ≠ (.slice Ao15 t656.length co15 : Value).ownBlock ∧ some k_ ≠ (.slice Ao21 t673.length co21 : Value).ownBlock)) (by (with_reducible repeat (first | apply Kd.R_alloc | apply Kd.R_drewN | apply Kd.R_drew)); exact Kd.R_mono HO668.out (fun _ hk => ⟨⟨hk.1.1, hk.2⟩, hk.1.2⟩)) hg hat); have n2_ := aS (Kd.R_after (ok := (fun k_ => some k_ ≠ (.slice Ao15 t656.length co15 : Value).ownBlock ∧ some k_ ≠ (.slice Ao18 t666.length co18 : Value).ownBlock)) (by (with_reducible repeat (first | apply Kd.R_alloc | apply Kd.R_drewN | apply Kd.R_drew)); exact Kd.R_mono HO675.out (fun _ hk => ⟨⟨hk.1.1.2, hk.1.2⟩, hk.2⟩)) hg hat); have n3_ := aS (hb); have n4_ := aS (ho); clear HO658; clear HO668; clear HO675; clear HB; clear HO671; have HO658 := n0_; have HO668 := n1_; have HO675 := n2_; have HB := n3_; have HO678 := n4_; clear n0_ n1_ n2_ n3_ n4_; clear ho hb hg hat) | ((with_reducible refine gate_builtin (b := .append) (xs := #[.tmp 22, .tmp 23]) rfl ?_); at_builtin; refine Kd.R_append_rows (Kd.int .u8) (w0 := w) w.heap.size rfl (.tmp 22) (.tmp 23) 26 5 (.int .u8 0) 1 rfl Try.underlying26 info5 rfl (by decide) (by omega) v677 y676 l0 _ _ _ (fun k_ => some k_ ≠ (.slice Ao15 t656.length co15 : Value).ownBlock ∧ some k_ ≠ (.slice Ao18 t666.length co18 : Value).ownBlock ∧ some k_ ≠ (.slice Ao21 t673.length co21 : Value).ownBlock) (fun _ => False) rfl rfl ?aO ?aR (fun _ _ h => h) (fun _ h => h.elim) ?aF ?aB ?aS ?aL ?_; (case aR => exact cel (Kd.C_below HR0.out HB.out)); (case aB => exact bel); (case aF => exact (fun k_ hk => ⟨Kd.fresh' (Kd.R_lt (rel HO658.out)) k_ hk, Kd.fresh' (Kd.R_lt (rel HO668.out)) k_ hk, Kd.fresh' (Kd.R_lt (rel HO675.out)) k_ hk⟩)); (case aO => exact (rel HO678.out)); (case aS => exact (below_size bel)); (case aL => have := LMc10.out; omega); intro v680 w22 ho hb hg hat; rw [← Ny679.out] at ho; have n0_ := aS (Kd.R_after (ok := (fun k_ => some k_ ≠ (.slice Ao18 t666.length co18 : Value).ownBlock ∧ some k_ ≠ (.slice Ao21 t673.length co21 : Value).ownBlock)) (rel HO658.out) hg hat); have n1_ := aS (Kd.R_after (ok := (fun k_ => some k_ ≠ (.slice Ao15 t656.length co15 : Value).ownBlock ∧ some k_ ≠ (.slice Ao21 t673.length co21 : Value).ownBlock)) (rel HO668.out) hg hat); have n2_ := aS (Kd.R_after (ok := (fun k_ => some k_ ≠ (.slice Ao15 t656.length co15 : Value).ownBlock ∧ some k_ ≠ (.slice Ao18 t666.length co18 : Value).ownBlock)) (rel HO675.out) hg hat); have n3_ := aS (hb); have n4_ := aS (ho); clear HO658; clear HO668; clear HO675; clear HB; clear HO678; have HO658 := n0_; have HO668 := n1_; have HO675 := n2_; have HB := n3_; have HO681 := n4_; clear n0_ n1_ n2_ n3_ n4_; clear ho hb hg hat))
     go_ret
     exact ⟨_, rf3, by (with_reducible repeat (first | apply Kd.R_alloc | apply Kd.R_drewN | apply Kd.R_drew)); exact Kd.R_mono HO681.out (fun _ hk => trivial), bel⟩
    ·
     rw [if_neg c10] at H; exact absurd H (by simp)
   ·
    rw [if_neg c9] at H; exact absurd H (by simp)
  ·
   rw [if_neg c6] at H; exact absurd H (by simp)
 ·
  rw [if_neg c3] at H; exact absurd H (by simp)

/-! ### shardlogref10_Put: function 35 -/
def shardlogref10_Put.l0 : Nat → List (S42) → List Int → Int → Option (List Int)
 | 0, _, _, _ => none
 | k + 1, x0, x3, x4 => if x4 < (x0.length : Int) then (if 0 ≤ x4 then ((shardlogref08_Put.f k ((rd_T42 x0 x4).f0) ((rd_T42 x0 x4).f1) ((rd_T42 x0 x4).f2) ((rd_T42 x0 x4).f3) ((rd_T42 x0 x4).f4)).bind fun t686 => (if x3.length + t686.length < 140737488355328 then (shardlogref10_Put.l0 k x0 (x3 ++ t686) (wrap64 (x4 + 1))) else (none))) else (none)) else ((shardlogref06_Put.f k x3).bind fun t692 => (some t692))
def shardlogref10_Put.f (k : Nat) (l0 : List (S42)) : Option (List Int) := (shardlogref01_Num.f (l0.length : Int)).bind fun t682 => (shardlogref10_Put.l0 k l0 t682 0)
theorem shardlogref10_Put.mono_l : ∀ k, (∀ y0 y1 y2, LeO (shardlogref10_Put.l0 k y0 y1 y2) (shardlogref10_Put.l0 (k + 1) y0 y1 y2))
 | 0 => fun _ _ _ r h => by simp [shardlogref10_Put.l0] at h
 | k + 1 => by
  have ih0 := shardlogref10_Put.mono_l k
  ·
   intro y0 y1 y2
   unfold shardlogref10_Put.l0
   have m0 := @shardlogref06_Put.mono; have m1 := @shardlogref08_Put.mono; exact lmo
theorem shardlogref10_Put.mono : ∀ a0 k, LeO (shardlogref10_Put.f k a0) (shardlogref10_Put.f (k + 1) a0) := by
 intro a0 k
 have ih0 := shardlogref10_Put.mono_l k
 unfold shardlogref10_Put.f
 have m0 := @shardlogref06_Put.mono; have m1 := @shardlogref08_Put.mono; exact lmo
set_option maxHeartbeats 8000000 in
set_option maxRecDepth 100000 in
theorem shardlogref10_Put.calls (k : Nat) (A0 : Option Addr) (c0 : Nat) (l0 : List (S42)) (r : List Int) (w : World) (hr0 : Kd.C k42 w A0 l0.length l0) (hc0 : l0.length ≤ c0) (h : shardlogref10_Put.f k l0 = some r) :
  Calls Try.prog 35 #[.slice A0 l0.length c0] w fun e w' => ∃ v0_ : Value, e = .returned (v0_) ∧ Kd.R (Kd.int .u8) 5 w' w.heap.size (fun _ => True) v0_ r ∧ Below w.heap.size w w' := by
 have hu42 := Try.underlying42; have HR0 := aS hr0; have HC0 := aS hc0; clear hr0 hc0; have HB := aS (Below.refl w.heap.size w); have H : ((shardlogref01_Num.f (l0.length : Int)).bind fun t682 => (shardlogref10_Put.l0 k l0 t682 0)) = some r := h; clear h; replace H := obm H; obtain ⟨t682, A20, H⟩ := H; have A2 := aS A20; clear A20
 have H' := aS H
 clear H
 go_enter Try.func35, Try.ntmps35
 go_wp2_with (first | ((with_reducible refine gate_callee (f := 33) rfl ?_); refine goesL_ (some 7) rfl rfl Try.func33 (by kernel_rfl) rfl #[.int .i64 (l0.length : Int)] rfl agn ?_; (with_reducible refine (shardlogref01_Num.calls (l0.length : Int) t682 _ A2.out).mono ?_); rintro e w3 ⟨v683, rfl, ho0, hb⟩; refine ⟨_, rfl, ?_⟩; have HO684 := aS (Kd.R_lower ho0 (below_size bel)); replace HB := bstep hb; (try clear hb); (try clear hk); (try clear hi); (try clear ho0)))
 go_loopg [3, 4] k (fun kq v3 v4 w' => ∃ (x3_1 : List Int) (x4_1 : Int), v4 = .int .i64 x4_1 ∧ Aside0 (shardlogref10_Put.l0 kq l0 x3_1 x4_1 = some r) ∧ Aside0 (kq ≤ k) ∧ Aside0 (Kd.R (Kd.int .u8) 5 w' w.heap.size (fun _ => True) v3 x3_1) ∧ Aside0 (Below w.heap.size w w'))
 case atStart => exact ⟨(t682), (0), srf, H', ⟨Nat.le_refl _⟩, ⟨by (with_reducible repeat (first | apply Kd.R_alloc | apply Kd.R_drewN | apply Kd.R_drew)); exact HO684.out⟩, ⟨bel⟩⟩
 case round =>
  clear H'; obtain ⟨x3_1, x4_1, rfl, HA, HK1, HO_3, HB⟩ := hrel
  cases gk with
  | zero => exact absurd HA.out (by simp [shardlogref10_Put.l0])
  | succ k1 =>
   have H := HA.out; clear HA
   simp only [shardlogref10_Put.l0] at H
   by_cases c4 : x4_1 < (l0.length : Int)
   ·
    rw [if_pos c4] at H; have c4b0 : decide (x4_1 < (l0.length : Int)) = true := decide_eq_true c4; clear c4
    by_cases c5 : 0 ≤ x4_1
    ·
     rw [if_pos c5] at H; have c5b0 : decide (0 ≤ x4_1) = true := decide_eq_true c5; clear c5; replace H := obm H; obtain ⟨t686, A60, H⟩ := H; have A6 := aS A60; clear A60
     by_cases c7 : x3_1.length + t686.length < 140737488355328
     ·
      rw [if_pos c7] at H; have LMc7 := aS c7; clear c7
      obtain ⟨y689, hy689⟩ : ∃ y_ : List Int, y_ = (x3_1 ++ t686) := ⟨_, rfl⟩
      (first | replace H := hyn hy689 H | rw [← hy689] at H); have Ny689 := aS hy689; clear hy689
      have H' := aS H
      clear H; have p685 : 0 ≤ (x4_1 : Int) := oda; have q685 : x4_1 < (l0.length : Int) := oda; obtain ⟨ad685, e685, hx685_0, hx685_1, hx685_2, hx685_3, hx685_4⟩ := at_T42 HR0.out x4_1 p685 q685; cases e685; replace hx685_0 := bx bel hx685_0; replace hx685_1 := bx bel hx685_1; replace hx685_2 := bx bel hx685_2; replace hx685_3 := bx bel hx685_3; replace hx685_4 := bx bel hx685_4; replace p685 := eq_true p685; replace q685 := eq_true q685
      go_wp2_with (first | ((with_reducible refine gate_callee (f := 34) rfl ?_); refine goesL_ (some 19) rfl rfl Try.func34 (by kernel_rfl) rfl #[.agg #[.string ((rd_T42 l0 x4_1).f0), .string ((rd_T42 l0 x4_1).f1), .int .i64 ((rd_T42 l0 x4_1).f2), .string ((rd_T42 l0 x4_1).f3), .bool ((rd_T42 l0 x4_1).f4)]] rfl agn ?_; (with_reducible refine (shardlogref08_Put.calls k1 ((rd_T42 l0 x4_1).f0) ((rd_T42 l0 x4_1).f1) ((rd_T42 l0 x4_1).f2) ((rd_T42 l0 x4_1).f3) ((rd_T42 l0 x4_1).f4) t686 _ A6.out).mono ?_); rintro e w8 ⟨v687, rfl, ho0, hb⟩; refine ⟨_, rfl, ?_⟩; have HO688 := aS (Kd.R_lower (Kd.R_new' ho0 (Kd.R_lt (rel HO_3.out))) (below_size bel)); replace HO_3 := aS (Kd.R_elder' (rel HO_3.out) (ebs ho0) hb); replace HB := bstep hb; (try clear hb); (try clear hk); (try clear hi); (try clear ho0); obtain ⟨Ao10, co10, eo10⟩ := Kd.R_slice HO688.out; subst eo10) | ((with_reducible refine gate_builtin (b := .append) (xs := #[.tmp 14, .tmp 19]) rfl ?_); at_builtin; refine Kd.R_append_rows (Kd.int .u8) (w0 := w) w.heap.size rfl (.tmp 14) (.tmp 19) 26 5 (.int .u8 0) 1 rfl Try.underlying26 info5 rfl (by decide) (by omega) u3 x3_1 t686 _ _ _ (fun k_ => some k_ ≠ (.slice Ao10 t686.length co10 : Value).ownBlock) (fun _ => False) rfl rfl ?aO ?aR (fun _ _ h => h) (fun _ h => h.elim) ?aF ?aB ?aS ?aL ?_; (case aR => exact cel ((Kd.R_reads' HO688.out).2.2)); (case aB => exact bel); (case aF => exact (fun k_ hk => Kd.fresh' (Kd.R_lt (rel HO688.out)) k_ hk)); (case aO => exact (rel (Kd.R_mono HO_3.out (fun _ hk => hk.2)))); (case aS => exact (below_size bel)); (case aL => have := LMc7.out; omega); intro v690 w9 ho hb hg hat; rw [← Ny689.out] at ho; have n0_ := aS (Kd.R_after (ok := (fun _ => True)) (rel HO688.out) hg hat); have n1_ := aS (hb); have n2_ := aS (ho); clear HO688; clear HB; clear HO_3; have HO688 := n0_; have HB := n1_; have HO691 := n2_; clear n0_ n1_ n2_; clear ho hb hg hat))
      go_roundg k1
      case measure => have := HK1.out; omega
      case rel => exact ⟨(y689), (wrap64 (x4_1 + 1)), srf, H', ⟨by have := HK1.out; omega⟩, ⟨by (with_reducible repeat (first | apply Kd.R_alloc | apply Kd.R_drewN | apply Kd.R_drew)); exact Kd.R_mono HO691.out (fun _ hk => trivial)⟩, ⟨bel⟩⟩
     ·
      rw [if_neg c7] at H; exact absurd H (by simp)
    ·
     rw [if_neg c5] at H; exact absurd H (by simp)
   ·
    rw [if_neg c4] at H; have c4b0 : decide (x4_1 < (l0.length : Int)) = false := decide_eq_false c4; clear c4; replace H := obm H; obtain ⟨t692, A110, H⟩ := H; have A11 := aS A110; clear A110
    obtain rfl := Option.some.inj H
    obtain ⟨Ao12, co12, eo12⟩ := Kd.R_slice HO_3.out; subst eo12
    go_wp2_with (first | ((with_reducible refine gate_callee (f := 36) rfl ?_); refine goesL_ (some 22) rfl rfl Try.func36 (by kernel_rfl) rfl #[.slice Ao12 x3_1.length co12] rfl agn ?_; (with_reducible refine (shardlogref06_Put.calls k1 _ _ x3_1 t692 _ ?side1 ?side2 A11.out).mono ?_); (case side1 => exact cel ((Kd.R_reads' HO_3.out).2.2)); (case side2 => exact (Kd.R_reads' HO_3.out).2.1); rintro e w13 ⟨v693, rfl, ho0, hb⟩; refine ⟨_, rfl, ?_⟩; have HO694 := aS (Kd.R_lower (Kd.R_new' ho0 (Kd.R_lt (rel HO_3.out))) (below_size bel)); replace HO_3 := aS (Kd.R_elder' (rel HO_3.out) (ebs ho0) hb); replace HB := bstep hb; (try clear hb); (try clear hk); (try clear hi); (try clear ho0)))
    go_ret
    exact ⟨_, rf3, by (with_reducible repeat (first | apply Kd.R_alloc | apply Kd.R_drewN | apply Kd.R_drew)); exact Kd.R_mono HO694.out (fun _ hk => trivial), bel⟩

end Go.Proofs.Ytinhpolmanccgaa.X
