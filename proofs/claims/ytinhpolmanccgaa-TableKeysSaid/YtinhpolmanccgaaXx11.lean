-- written by a program of this session's, over the kit's print
import Derived.Test.YtinhpolmanccgaaXx0
import Derived.Test.YtinhpolmanccgaaXx4
import Derived.Test.YtinhpolmanccgaaXx6
import Derived.Test.YtinhpolmanccgaaXx9
import Derived.Test.YtinhpolmanccgaaXx10
namespace Go.Proofs.Ytinhpolmanccgaa.X
open Go.RowKit Go.Proofs.YtinhpolmanccgaaW.PrintWords Go.Proofs.YtinhpolmanccgaaW.PrintLast Go.Proofs.YtinhpolmanccgaaW.PrintMore
attribute [local go_sem] max2_int min2_int max_two min_two max_three min_three max_four min_four gtr_str   -- for this text's walks alone
set_option linter.unusedVariables false
set_option linter.unusedSimpArgs false

/-! ### cell_Newest: function 47 -/
def cell_Newest.j0 : Nat → List (S42) → Int → Bool → Option (ByteArray × ByteArray × Int × ByteArray × Bool × Bool)
 | 0, _, _, _ => none
 | k + 1, x0, x10, x42 => if x42 = true then (some ((⟨#[]⟩ : ByteArray), (⟨#[]⟩ : ByteArray), 0, (⟨#[]⟩ : ByteArray), false, false)) else (if 0 ≤ x10 then (if x10 < (x0.length : Int) then (some ((rd_T42 x0 x10).f0, (rd_T42 x0 x10).f1, (rd_T42 x0 x10).f2, (rd_T42 x0 x10).f3, (rd_T42 x0 x10).f4, true)) else (none)) else (none))
def cell_Newest.f (k : Nat) (l0 : List (S42)) (a1 : ByteArray) (a2 : ByteArray) (a3 : Int) : Option (ByteArray × ByteArray × Int × ByteArray × Bool × Bool) := (api_Cell_65.f k l0 a1 a2 a3 (⟨#[]⟩ : ByteArray) false).bind fun bt495 => (if bt495.1 = (l0.length : Int) then (cell_Newest.j0 k l0 bt495.1 true) else (if 0 ≤ bt495.1 then (if bt495.1 < (l0.length : Int) then (if ((rd_T42 l0 bt495.1).f0).toList = a1.toList then (cell_Newest.j0 k l0 bt495.1 (((rd_T42 l0 bt495.1).f1).toList != a2.toList)) else (cell_Newest.j0 k l0 bt495.1 true)) else (none)) else (none)))
theorem cell_Newest.mono_l : ∀ k, (∀ y0 y1 y2, LeO (cell_Newest.j0 k y0 y1 y2) (cell_Newest.j0 (k + 1) y0 y1 y2))
 | 0 => fun _ _ _ r h => by simp [cell_Newest.j0] at h
 | k + 1 => by
  have ih0 := cell_Newest.mono_l k
  ·
   intro y0 y1 y2
   unfold cell_Newest.j0
   have m0 := @api_Cell_65.mono; exact lmo
theorem cell_Newest.mono : ∀ a0 a1 a2 a3 k, LeO (cell_Newest.f k a0 a1 a2 a3) (cell_Newest.f (k + 1) a0 a1 a2 a3) := by
 intro a0 a1 a2 a3 k
 have ih0 := cell_Newest.mono_l k
 unfold cell_Newest.f
 have m0 := @api_Cell_65.mono; exact lmo
set_option maxHeartbeats 8000000 in
set_option maxRecDepth 100000 in
theorem cell_Newest.calls (k : Nat) (A0 : Option Addr) (c0 : Nat) (l0 : List (S42)) (a1 : ByteArray) (a2 : ByteArray) (a3 : Int) (r1 : ByteArray) (r2 : ByteArray) (r3 : Int) (r4 : ByteArray) (r5 : Bool) (r6 : Bool) (w : World) (hr0 : Kd.C k42 w A0 l0.length l0) (hc0 : l0.length ≤ c0) (h : cell_Newest.f k l0 a1 a2 a3 = some (r1, r2, r3, r4, r5, r6)) :
  Calls Try.prog 47 #[.slice A0 l0.length c0, .string a1, .string a2, .int .i64 a3] w fun e w' => e = .returned (.tuple #[.agg #[.string r1, .string r2, .int .i64 r3, .string r4, .bool r5], .bool r6]) ∧ Below w.heap.size w w' := by
 have hu42 := Try.underlying42; have HR0 := aS hr0; have HC0 := aS hc0; clear hr0 hc0; have HB := aS (Below.refl w.heap.size w); have H : ((api_Cell_65.f k l0 a1 a2 a3 (⟨#[]⟩ : ByteArray) false).bind fun bt495 => (if bt495.1 = (l0.length : Int) then (cell_Newest.j0 k l0 bt495.1 true) else (if 0 ≤ bt495.1 then (if bt495.1 < (l0.length : Int) then (if ((rd_T42 l0 bt495.1).f0).toList = a1.toList then (cell_Newest.j0 k l0 bt495.1 (((rd_T42 l0 bt495.1).f1).toList != a2.toList)) else (cell_Newest.j0 k l0 bt495.1 true)) else (none)) else (none)))) = some (r1, r2, r3, r4, r5, r6) := h; clear h; replace H := obm H; obtain ⟨⟨t495, t496⟩, A50, H⟩ := H; (try dsimp only at H); have A5 := aS A50; clear A50; have HC6 := aS H; clear H
 go_enter Try.func47, Try.ntmps47
 go_upto_region 2 with (first | ((with_reducible refine gate_dst (N := 8) rfl ?_); refine box_event ?hg (N := 8) ?hd (cs := #[.string (⟨#[]⟩ : ByteArray), .string (⟨#[]⟩ : ByteArray), .int .i64 0, .string (⟨#[]⟩ : ByteArray), .bool false]) (t := 42) ?hr ?_; (case hd => rfl); (case hg => rfl); (case hr => first | (go_simp; done) | (go_simp; rfl)); intro gb494 hg w7 hbox hb; have BK494 := aS (hbox); have GW494 := bsize hg; have GE494 := bsize hg; replace HB := bstep hb; clear hb hbox hg) | ((with_reducible refine gate_callee (f := 65) rfl ?_); refine goesL_ (some 18) rfl rfl Try.func65 (by kernel_rfl) rfl #[.slice A0 l0.length c0, .agg #[.string a1, .string a2, .int .i64 a3, .string (⟨#[]⟩ : ByteArray), .bool false], .func (.func 46) #[] #[]] rfl agn ?_; (with_reducible refine (api_Cell_65.calls k _ _ l0 a1 a2 a3 (⟨#[]⟩ : ByteArray) false  t495 t496 _ ?side1 ?side2 A5.out).mono ?_); (case side1 => exact cel (Kd.C_below HR0.out HB.out)); (case side2 => exact HC0.out); rintro e w8 ⟨rfl, hb⟩; refine ⟨_, rfl, ?_⟩; replace BK494 := bbl BK494 hb; replace HB := bstep hb; (try clear hb); (try clear hk); (try clear hi)))
 (try simp only [Act.put, lsa, lsz, lss])
 go_cut [42] (fun v42 wc => ∃ (kq : Nat) (x42_5 : Bool), v42 = .bool x42_5 ∧ Aside0 (cell_Newest.j0 kq l0 t495 x42_5 = some (r1, r2, r3, r4, r5, r6)) ∧ Aside0 (kq ≤ k) ∧ Aside0 (wc.heap[gb494]? = some (.cells #[.string (⟨#[]⟩ : ByteArray), .string (⟨#[]⟩ : ByteArray), .int .i64 0, .string (⟨#[]⟩ : ByteArray), .bool false] 42 (0, 0))) ∧ Aside0 (Below w.heap.size w wc))
 case first =>
  have H := HC6.out; clear HC6
  by_cases c9 : t495 = (l0.length : Int)
  ·
   rw [if_pos c9] at H; obtain ⟨c9b0, c9b1⟩ := eqT c9; clear c9
   (first | rw [c9b0] | (simp only [i64_w, i32_w]; rw [c9b0]) | skip)
   have H' := aS H
   clear H
   go_wp2
   go_meet
   case rel => exact ⟨_, (true), srf, H', ⟨by first | omega | exact Nat.le_refl _⟩, ⟨bkl BK494.out⟩, ⟨bel⟩⟩
  ·
   rw [if_neg c9] at H; obtain ⟨c9b0, c9b1⟩ := eqF c9
   (first | rw [c9b0] | (simp only [i64_w, i32_w]; rw [c9b0]) | skip)
   by_cases c10 : 0 ≤ t495
   ·
    rw [if_pos c10] at H; have c10b0 : decide (0 ≤ t495) = true := decide_eq_true c10; clear c10
    by_cases c11 : t495 < (l0.length : Int)
    ·
     rw [if_pos c11] at H; have c11b0 : decide (t495 < (l0.length : Int)) = true := decide_eq_true c11; clear c11
     by_cases c12 : ((rd_T42 l0 t495).f0).toList = a1.toList
     ·
      rw [if_pos c12] at H; obtain ⟨c12b0, c12b1⟩ := eqT c12; clear c12
      have H' := aS H
      clear H; have p497 : 0 ≤ (t495 : Int) := oda; have q497 : t495 < (l0.length : Int) := oda; obtain ⟨ad497, e497, hx497_0, hx497_1, hx497_2, hx497_3, hx497_4⟩ := at_T42 HR0.out t495 p497 q497; cases e497; replace hx497_0 := bx bel hx497_0; replace hx497_1 := bx bel hx497_1; replace hx497_2 := bx bel hx497_2; replace hx497_3 := bx bel hx497_3; replace hx497_4 := bx bel hx497_4; replace p497 := eq_true p497; replace q497 := eq_true q497; have p498 : 0 ≤ (t495 : Int) := oda; have q498 : t495 < (l0.length : Int) := oda; obtain ⟨ad498, e498, hx498_0, hx498_1, hx498_2, hx498_3, hx498_4⟩ := at_T42 HR0.out t495 p498 q498
      obtain rfl : ad497 = ad498 := (by injection e498)
      replace hx498_0 := bx bel hx498_0; replace hx498_1 := bx bel hx498_1; replace hx498_2 := bx bel hx498_2; replace hx498_3 := bx bel hx498_3; replace hx498_4 := bx bel hx498_4; replace p498 := eq_true p498; replace q498 := eq_true q498
      go_wp2
      go_meet
      case rel => exact ⟨_, ((((rd_T42 l0 t495).f1).toList != a2.toList)), srf, H', ⟨by first | omega | exact Nat.le_refl _⟩, ⟨bkl BK494.out⟩, ⟨bel⟩⟩
     ·
      rw [if_neg c12] at H; obtain ⟨c12b0, c12b1⟩ := eqF c12
      have H' := aS H
      clear H; have p497 : 0 ≤ (t495 : Int) := oda; have q497 : t495 < (l0.length : Int) := oda; obtain ⟨ad497, e497, hx497_0, hx497_1, hx497_2, hx497_3, hx497_4⟩ := at_T42 HR0.out t495 p497 q497; cases e497; replace hx497_0 := bx bel hx497_0; replace hx497_1 := bx bel hx497_1; replace hx497_2 := bx bel hx497_2; replace hx497_3 := bx bel hx497_3; replace hx497_4 := bx bel hx497_4; replace p497 := eq_true p497; replace q497 := eq_true q497
      go_wp2
      go_meet
      case rel => exact ⟨_, (true), srf, H', ⟨by first | omega | exact Nat.le_refl _⟩, ⟨bkl BK494.out⟩, ⟨bel⟩⟩
    ·
     rw [if_neg c11] at H; exact absurd H (by simp)
   ·
    rw [if_neg c10] at H; exact absurd H (by simp)
 case rest =>
  clear HC6; obtain ⟨kq, x42_5, rfl, HA, HJ5, BK494, HB⟩ := hcut
  cases kq with
  | zero => exact absurd HA.out (by simp [cell_Newest.j0])
  | succ kj5 =>
   have H := HA.out; clear HA
   simp only [cell_Newest.j0] at H
   by_cases c13 : x42_5 = true
   ·
    subst c13
    replace H := ifT H
    simp only [Option.some.injEq, Prod.mk.injEq] at H
    obtain ⟨rfl, rfl, rfl, rfl, rfl, rfl⟩ := H; have hcz14 := cK5 BK494
    go_wp2
    refine bodyPost_ret (results_ct rfl _ _ gb494 42 #[.string (⟨#[]⟩ : ByteArray), .string (⟨#[]⟩ : ByteArray), .int .i64 0, .string (⟨#[]⟩ : ByteArray), .bool false] (0, 0) _ rfl (by (with_reducible repeat (first | refine blk_drewN ?_ _ | refine blk_drew ?_ | refine blk_alloc ?_ _)); refine blk_put (cs := #[.string (⟨#[]⟩ : ByteArray), .string (⟨#[]⟩ : ByteArray), .int .i64 0, .string (⟨#[]⟩ : ByteArray), .bool false]) ?_ 4 _ rfl; (with_reducible repeat (first | refine blk_drewN ?_ _ | refine blk_drew ?_ | refine blk_alloc ?_ _)); refine blk_put (cs := #[.string (⟨#[]⟩ : ByteArray), .string (⟨#[]⟩ : ByteArray), .int .i64 0, .string (⟨#[]⟩ : ByteArray), .bool false]) ?_ 3 _ rfl; (with_reducible repeat (first | refine blk_drewN ?_ _ | refine blk_drew ?_ | refine blk_alloc ?_ _)); refine blk_put (cs := #[.string (⟨#[]⟩ : ByteArray), .string (⟨#[]⟩ : ByteArray), .int .i64 0, .string (⟨#[]⟩ : ByteArray), .bool false]) ?_ 2 _ rfl; (with_reducible repeat (first | refine blk_drewN ?_ _ | refine blk_drew ?_ | refine blk_alloc ?_ _)); refine blk_put (cs := #[.string (⟨#[]⟩ : ByteArray), .string (⟨#[]⟩ : ByteArray), .int .i64 0, .string (⟨#[]⟩ : ByteArray), .bool false]) ?_ 1 _ rfl; (with_reducible repeat (first | refine blk_drewN ?_ _ | refine blk_drew ?_ | refine blk_alloc ?_ _)); refine blk_put (cs := #[.string (⟨#[]⟩ : ByteArray), .string (⟨#[]⟩ : ByteArray), .int .i64 0, .string (⟨#[]⟩ : ByteArray), .bool false]) ?_ 0 _ rfl; (with_reducible repeat (first | refine blk_drewN ?_ _ | refine blk_drew ?_ | refine blk_alloc ?_ _)); exact BK494.out) Try.underlying42 rfl (by kernel_rfl)) rfl ?_; exact ⟨rf3, bel⟩
   ·
    replace c13 := Bool.eq_false_iff.mpr c13; subst c13
    replace H := ifF H
    by_cases c15 : 0 ≤ t495
    ·
     rw [if_pos c15] at H; have c15b0 : decide (0 ≤ t495) = true := decide_eq_true c15; clear c15
     by_cases c16 : t495 < (l0.length : Int)
     ·
      rw [if_pos c16] at H; have c16b0 : decide (t495 < (l0.length : Int)) = true := decide_eq_true c16; clear c16
      simp only [Option.some.injEq, Prod.mk.injEq] at H
      obtain ⟨rfl, rfl, rfl, rfl, rfl, rfl⟩ := H; have p499 : 0 ≤ (t495 : Int) := oda; have q499 : t495 < (l0.length : Int) := oda; obtain ⟨ad499, e499, hx499_0, hx499_1, hx499_2, hx499_3, hx499_4⟩ := at_T42 HR0.out t495 p499 q499; cases e499; replace hx499_0 := bx bel hx499_0; replace hx499_1 := bx bel hx499_1; replace hx499_2 := bx bel hx499_2; replace hx499_3 := bx bel hx499_3; replace hx499_4 := bx bel hx499_4; replace p499 := eq_true p499; replace q499 := eq_true q499; have hcz17 := cK5 BK494
      go_wp2
      refine bodyPost_ret (results_ct rfl _ _ gb494 42 #[.string ((rd_T42 l0 t495).f0), .string ((rd_T42 l0 t495).f1), .int .i64 ((rd_T42 l0 t495).f2), .string ((rd_T42 l0 t495).f3), .bool ((rd_T42 l0 t495).f4)] (0, 0) _ rfl (by (with_reducible repeat (first | refine blk_drewN ?_ _ | refine blk_drew ?_ | refine blk_alloc ?_ _)); refine blk_put (cs := #[.string ((rd_T42 l0 t495).f0), .string ((rd_T42 l0 t495).f1), .int .i64 ((rd_T42 l0 t495).f2), .string ((rd_T42 l0 t495).f3), .bool false]) ?_ 4 _ rfl; (with_reducible repeat (first | refine blk_drewN ?_ _ | refine blk_drew ?_ | refine blk_alloc ?_ _)); refine blk_put (cs := #[.string ((rd_T42 l0 t495).f0), .string ((rd_T42 l0 t495).f1), .int .i64 ((rd_T42 l0 t495).f2), .string (⟨#[]⟩ : ByteArray), .bool false]) ?_ 3 _ rfl; (with_reducible repeat (first | refine blk_drewN ?_ _ | refine blk_drew ?_ | refine blk_alloc ?_ _)); refine blk_put (cs := #[.string ((rd_T42 l0 t495).f0), .string ((rd_T42 l0 t495).f1), .int .i64 0, .string (⟨#[]⟩ : ByteArray), .bool false]) ?_ 2 _ rfl; (with_reducible repeat (first | refine blk_drewN ?_ _ | refine blk_drew ?_ | refine blk_alloc ?_ _)); refine blk_put (cs := #[.string ((rd_T42 l0 t495).f0), .string (⟨#[]⟩ : ByteArray), .int .i64 0, .string (⟨#[]⟩ : ByteArray), .bool false]) ?_ 1 _ rfl; (with_reducible repeat (first | refine blk_drewN ?_ _ | refine blk_drew ?_ | refine blk_alloc ?_ _)); refine blk_put (cs := #[.string (⟨#[]⟩ : ByteArray), .string (⟨#[]⟩ : ByteArray), .int .i64 0, .string (⟨#[]⟩ : ByteArray), .bool false]) ?_ 0 _ rfl; (with_reducible repeat (first | refine blk_drewN ?_ _ | refine blk_drew ?_ | refine blk_alloc ?_ _)); exact BK494.out) Try.underlying42 rfl (by kernel_rfl)) rfl ?_; exact ⟨rf3, bel⟩
     ·
      rw [if_neg c16] at H; exact absurd H (by simp)
    ·
     rw [if_neg c15] at H; exact absurd H (by simp)

/-! ### table_Table_Get: function 21 -/
def table_Table_Get.f (k : Nat) (bs : List (List S42)) (fl : List Int) (a b : ByteArray) (t : Int) : Option (ByteArray × ByteArray × Int × ByteArray × Bool × Bool) :=
 (table_Table_May.f k fl a b).bind fun m => if m = true then (api_Cell_44.f k bs a b t ⟨#[]⟩ false).bind fun q => if q.1 = (bs.length : Int) then some (⟨#[]⟩, ⟨#[]⟩, 0, ⟨#[]⟩, false, false) else if 0 ≤ q.1 ∧ q.1 < (bs.length : Int) then cell_Newest.f k (bs.getD q.1.toNat []) a b t else none else some (⟨#[]⟩, ⟨#[]⟩, 0, ⟨#[]⟩, false, false)
theorem table_Table_Get.mono : ∀ a0 a1 a2 a3 a4 k, LeO (table_Table_Get.f k a0 a1 a2 a3 a4) (table_Table_Get.f (k + 1) a0 a1 a2 a3 a4) := fun _ _ _ _ _ _ =>
 LeO.bind (table_Table_May.mono _ _ _ _) fun _ => LeO.ite (LeO.bind (api_Cell_44.mono _ _ _ _ _ _ _) fun _ => LeO.ite (LeO.refl _) (LeO.ite (cell_Newest.mono _ _ _ _ _) (LeO.refl _))) (LeO.refl _)
theorem table_Table_Get.at {w : World} {A : Option Addr} {n : Nat} {bs : List (List S42)} (h : Kd.C (Kd.slice 42 k42) w A n bs) (i : Nat) (h1 : i < n) : ∃ ad A0 c0, A = some ad ∧ w.cell? (ad.add i) = some (.slice A0 (bs.getD i []).length c0) ∧ (bs.getD i []).length ≤ c0 ∧ Kd.C k42 w A0 (bs.getD i []).length (bs.getD i []) := by
 obtain ⟨ad, c, e, _, hK, hc0⟩ := Kd.C_get h ([] : List S42) (i : Int) (by omega) (by omega); rw [Int.toNat_natCast] at hK hc0
 have hc : ∀ j u, c[j]? = some u → w.cell? (ad.add (i * 1 + j)) = some u := hc0
 obtain ⟨A0, c0, rfl, l0, g0⟩ := hK; exact ⟨ad, A0, c0, e, by have hq := hc 0 _ rfl; rwa [Nat.mul_one, Nat.add_zero] at hq, l0, g0⟩
set_option maxHeartbeats 8000000 in
set_option maxRecDepth 100000 in
theorem table_Table_Get.calls (k : Nat) (g base : Nat) (l : List S42) (bs : List (List S42)) (fl : List Int) (a b : ByteArray) (t : Int) (r1 r2 : ByteArray) (r3 : Int) (r4 : ByteArray) (r5 r6 : Bool) (w : World) (hA : table_Open.At w base g l bs fl) (h : table_Table_Get.f k bs fl a b t = some (r1, r2, r3, r4, r5, r6)) :
  Calls Try.prog 21 #[.pointer (some ⟨g, 0, none⟩), .string a, .string b, .int .i64 t] w fun e w' => e = .returned (.tuple #[.agg #[.string r1, .string r2, .int .i64 r3, .string r4, .bool r5], .bool r6]) ∧ Below w.heap.size w w' := by
 have hu26 := Try.underlying26; have hu22 := Try.underlying22; have hu39 := Try.underlying39; have hu70 := Try.underlying70; have hu42 := Try.underlying42
 have hsz : (Try.prog.info? 42).map (·.size) = some 5 := by
  obtain ⟨i0, hi0, hz⟩ := Option.map_eq_some_iff.1 info42
  simp only [Prod.mk.injEq] at hz
  rw [hi0]; simp [hz.2.1]
 obtain ⟨vl, vb, vf, hA⟩ := hA; obtain ⟨Al, cl, rfl⟩ := Kd.R_slice hA.hl; obtain ⟨Ab, cb, rfl⟩ := Kd.R_slice hA.hb; obtain ⟨Af, cf, rfl⟩ := Kd.R_slice hA.hf; have HV := aS hA; clear hA
 unfold table_Table_Get.f at h
 replace h := obm h; obtain ⟨m, x1, h⟩ := h; have X1 := aS x1; clear x1
 cases m with
 | false =>
  rw [if_neg Bool.false_ne_true] at h
  obtain h := Option.some.inj h
  simp only [Prod.mk.injEq] at h
  obtain ⟨rfl, rfl, rfl, rfl, rfl, rfl⟩ := h
  go_enter Try.func21, Try.ntmps21
  go_wp2_with (first | ((with_reducible refine gate_dst (N := 8) rfl ?_); refine box_event ?hg (N := 8) ?hd (cs := #[.string ⟨#[]⟩, .string ⟨#[]⟩, .int .i64 0, .string ⟨#[]⟩, .bool false]) (t := 42) ?hr ?_; (case hd => rfl); (case hg => rfl); (case hr => (first | (go_simp; done) | (go_simp; rfl))); intro g8 hg w1 hb hbl; have B8 := aS hb; have G8 : Aside0 (w.heap.size ≤ g8) := aS (by rw [hg]; exact Nat.le_refl _); have HV1 := aS (HV.out.below hbl); have HB1 := aS hbl; clear hg hb hbl HV) | (go_at_call 22; (with_reducible refine (table_Table_May.calls k g base l bs fl a b false _ HV1.out.up X1.out).mono ?_); rintro e_ w2 ⟨rfl, hb⟩; have B82 := aS (blk_below B8.out hb); have HV2 := aS (HV1.out.below hb); have HB2 := aS (below_step HB1.out hb); clear hb B8 HV1 HB1) | ((with_reducible refine gate_store (t := 42) (p := 8) rfl ?_); refine wpList_store_row rfl 42 _ _ rfl g8 #[.string ⟨#[]⟩, .string ⟨#[]⟩, .int .i64 0, .string ⟨#[]⟩, .bool false] rfl rfl 42 _ B82.out (by kernel_rfl) rfl (by kernel_rfl) ?_; have BZ := aS (setRow_heap w2 g8 _ #[.string ⟨#[]⟩, .string ⟨#[]⟩, .int .i64 0, .string ⟨#[]⟩, .bool false] _ _ B82.out); have HZ := aS (below_setRow HB2.out G8.out #[.string ⟨#[]⟩, .string ⟨#[]⟩, .int .i64 0, .string ⟨#[]⟩, .bool false]); clear B82 HB2; generalize World.setRow w2 g8 #[.string ⟨#[]⟩, .string ⟨#[]⟩, .int .i64 0, .string ⟨#[]⟩, .bool false] = wz at BZ HZ ⊢))
  try simp only [Exit.inBlock, Exit.then]
  refine bodyPost_ret (results_ct rfl _ _ g8 42 #[.string ⟨#[]⟩, .string ⟨#[]⟩, .int .i64 0, .string ⟨#[]⟩, .bool false] (0, 0) _ rfl BZ.out hu42 rfl (by kernel_rfl)) rfl ?_; exact ⟨rfl, HZ.out⟩
 | true =>
 rw [if_pos rfl] at h; replace h := obm h; obtain ⟨⟨q1, q2⟩, x2, h⟩ := h; have X2 := aS x2; have H := aS h; clear x2 h
 go_enter Try.func21, Try.ntmps21
 go_upto_region 4 with (first | ((with_reducible refine gate_dst (N := 8) rfl ?_); refine box_event ?hg (N := 8) ?hd (cs := #[.string ⟨#[]⟩, .string ⟨#[]⟩, .int .i64 0, .string ⟨#[]⟩, .bool false]) (t := 42) ?hr ?_; (case hd => rfl); (case hg => rfl); (case hr => (first | (go_simp; done) | (go_simp; rfl))); intro g8 hg w1 hb hbl; have B8 := aS hb; have G8 : Aside0 (w.heap.size ≤ g8) := aS (by rw [hg]; exact Nat.le_refl _); have HV1 := aS (HV.out.below hbl); have HB1 := aS hbl; clear hg hb hbl HV) | (go_at_call 22; (with_reducible refine (table_Table_May.calls k g base l bs fl a b true _ HV1.out.up X1.out).mono ?_); rintro e_ w2 ⟨rfl, hb⟩; have B82 := aS (blk_below B8.out hb); have HV2 := aS (HV1.out.below hb); have HB2 := aS (below_step HB1.out hb); clear hb B8 HV1 HB1) | ((with_reducible refine gate_dst (N := 10) rfl ?_); refine box_event ?hg (N := 10) ?hd (cs := #[.string ⟨#[]⟩, .string ⟨#[]⟩, .int .i64 0, .string ⟨#[]⟩, .bool false]) (t := 42) ?hr ?_; (case hd => rfl); (case hg => rfl); (case hr => (first | (go_simp; done) | (go_simp; rfl))); intro g10 hg w3 hb hbl; have B10 := aS hb; have G10 : Aside0 (w2.heap.size ≤ g10) := aS (by rw [hg]; exact Nat.le_refl _); have HL3 := aS hbl; clear hg hb hbl) | ((with_reducible refine gate_store (t := 42) (p := 10) rfl ?_); refine wpList_store_row rfl 42 _ _ rfl g10 #[.string a, .string b, .int .i64 t, .string ⟨#[]⟩, .bool false] rfl rfl 42 _ B10.out (by kernel_rfl) rfl (by kernel_rfl) ?_; have BW := aS (setRow_heap w3 g10 _ #[.string a, .string b, .int .i64 t, .string ⟨#[]⟩, .bool false] _ _ B10.out); have HS := aS (below_setRow HL3.out G10.out #[.string a, .string b, .int .i64 t, .string ⟨#[]⟩, .bool false]); have B83 := aS (blk_below B82.out HS.out); have HV3 := aS (HV2.out.below HS.out); have HB3 := aS (below_step HB2.out HS.out); clear B10 HL3 HS G10 B82 HV2 HB2; generalize World.setRow w3 g10 #[.string a, .string b, .int .i64 t, .string ⟨#[]⟩, .bool false] = w4 at BW B83 HV3 HB3 ⊢))
 refine start_ (n := 11) (ds := []) (S := fun w' => w'.cell? ⟨g, 1, none⟩ = some (.slice Ab bs.length cb) ∧ w'.rangeAt g10 0 [.string a, .string b, .int .i64 t, .string ⟨#[]⟩, .bool false]) (bA 11 0) (by kernel_rfl) rfl rfl ⟨(blk_cell (blk_drew HV3.out.blk) 1).trans rfl, range_of (blk_drew BW.out)⟩ (fun hHeld => ?_)
 generalize hw_ : World.drew _ = wd at hHeld ⊢
 have HVd : Aside0 (table_Open.AtV wd base g _ _ _ l bs fl) := aS (hw_ ▸ HV3.out.below (below_drew (Below.refl _ _))); have HBd : Aside0 (Below w.heap.size w wd) := aS (hw_ ▸ below_step HB3.out (below_drew (Below.refl _ _))); have B8d : Aside0 (wd.heap[g8]? = _) := aS (hw_ ▸ blk_drew B83.out); have BWd : Aside0 (wd.heap[g10]? = _) := aS (hw_ ▸ blk_drew BW.out); clear hw_ HV3 HB3 B83 BW; refine with_tabW (T := (true, [([], []), ([0], [0]), ([1], [1]), ([2], [2]), ([], []), ([3, 4], [3, 4]), ([5], [5]), ([6], [6]), ([6], [6]), ([7, 5, 0, 1, 2, 3, 4, 5, 6, 7], [7]), ([8, 9, 0, 1, 2, 3, 4, 5, 6, 7, 8, 9], [8])])) (B := [0, 1, 3, 7, 0, 31, 63, 127, 127, 255, 1023]) (by kernel_rfl) (by kernel_rfl) (fun HT_ HW_ => ?_); refine along_ [(0, 24), (1, 25), (2, 26)] ?_
 iterate 3 (refine pure3 HT_ ?_)
 refine lay_ (bA 11 7) (by kernel_rfl) ?_; refine along_ [(3, 27)] ?_
 iterate 1 (refine take3 HT_ HW_ hHeld ?_)
 refine lay_ (bA 11 15) (by kernel_rfl) ?_; refine take_ (i := 4) (N := (some 28)) (v := .agg #[.string a, .string b, .int .i64 t, .string ⟨#[]⟩, .bool false]) (a' := ?_) (bA 11 31) rfl rfl (take_ofW HT_.out HW_.out (by kernel_rfl)) (fun _ _ _ h => h) (yieldsIf_load_mid (by rfl) 42 _ rfl g10 0 (by go_simp) _ _ (fun w' hw' => hw'.2) hu42 rfl hsz) hHeld ?_ ?_
 rotate_left
 ·
  simp only [Act.put, lsa, lsz, lss, i64_w, i32_w]
  rfl
 refine one3 5 (N := some 29) (bA 11 63) HT_ (fun K hK => ?_); refine goes_ Try.func44 (by kernel_rfl) rfl #[.slice Ab bs.length cb, .agg #[.string a, .string b, .int .i64 t, .string ⟨#[]⟩, .bool false], .func (.func 45) #[] #[]] (by rfl) rfl rfl agn ?_
 with_reducible refine (api_Cell_44.calls k Ab cb bs a b t ⟨#[]⟩ false q1 q2 _ (Kd.R_reads' HVd.out.hb).2.2 (Kd.R_reads' HVd.out.hb).2.1 X2.out).mono ?_
 rintro e_ w5 ⟨rfl, hb⟩
 refine ⟨_, rfl, ?_⟩; have HV5 := aS (HVd.out.below hb); have HB5 := aS (below_step HBd.out hb); have B85 := aS (blk_below B8d.out hb); have BW5 := aS (blk_below BWd.out hb); clear hb HVd HBd B8d BWd; refine hK.out _ _ ⟨(blk_cell HV5.out.blk 1).trans rfl, range_of BW5.out⟩ (fun hHeld => ?_); clear hK K; refine nm 29 ?_; refine along_ [(6, 23), (7, 30), (8, 31), (9, 11), (10, 12)] ?_
 iterate 5 (refine pure3 HT_ ?_)
 refine lay_ (bA 11 2047) (by kernel_rfl) ?_; refine done_ (done_of HT_.out (by kernel_rfl)) ?_; clear HT_ HW_ hHeld BW5; have h := H.out; clear H; have q3 := cK3 (aS HV5.out.blk)
 by_cases he : q1 = (bs.length : Int)
 ·
  rw [if_pos he] at h; obtain ⟨he1, he2⟩ := eqT he
  obtain h := Option.some.inj h
  simp only [Prod.mk.injEq] at h
  obtain ⟨rfl, rfl, rfl, rfl, rfl, rfl⟩ := h; clear he
  go_wp2_with (first | ((with_reducible refine gate_store (t := 42) (p := 8) rfl ?_); refine wpList_store_row rfl 42 _ _ rfl g8 #[.string ⟨#[]⟩, .string ⟨#[]⟩, .int .i64 0, .string ⟨#[]⟩, .bool false] rfl rfl 42 _ B85.out (by kernel_rfl) rfl (by kernel_rfl) ?_; have BZ := aS (setRow_heap w5 g8 _ #[.string ⟨#[]⟩, .string ⟨#[]⟩, .int .i64 0, .string ⟨#[]⟩, .bool false] _ _ B85.out); have HZ := aS (below_setRow HB5.out G8.out #[.string ⟨#[]⟩, .string ⟨#[]⟩, .int .i64 0, .string ⟨#[]⟩, .bool false]); clear B85 HB5; generalize World.setRow w5 g8 #[.string ⟨#[]⟩, .string ⟨#[]⟩, .int .i64 0, .string ⟨#[]⟩, .bool false] = wz at BZ HZ ⊢))
  try simp only [Exit.inBlock, Exit.then]
  refine bodyPost_ret (results_ct rfl _ _ g8 42 #[.string ⟨#[]⟩, .string ⟨#[]⟩, .int .i64 0, .string ⟨#[]⟩, .bool false] (0, 0) _ rfl BZ.out hu42 rfl (by kernel_rfl)) rfl ?_; exact ⟨rfl, HZ.out⟩
 rw [if_neg he] at h; obtain ⟨he1, he2⟩ := eqF he; clear he
 by_cases hlim : 0 ≤ q1 ∧ q1 < (bs.length : Int)
 case neg => rw [if_neg hlim] at h; cases h
 replace h : (if 0 ≤ q1 ∧ q1 < (bs.length : Int) then cell_Newest.f k (bs.getD q1.toNat []) a b t else none) = some (r1, r2, r3, r4, r5, r6) := h; rw [if_pos hlim] at h
 obtain ⟨i, rfl⟩ : ∃ i : Nat, q1 = (i : Int) := ⟨q1.toNat, by omega⟩
 rw [Int.toNat_natCast] at h; have X3 := aS h; have hq0 := hlim.1; have hq1 := hlim.2; clear h hlim; obtain ⟨ad, An, cn, e_, hx, hnc, hn⟩ := table_Table_Get.at (Kd.R_reads' HV5.out.hb).2.2 i (by omega); subst e_
 obtain ⟨bi, hbi⟩ : ∃ x, x = bs.getD i [] := ⟨_, rfl⟩
 rw [← hbi] at hx hnc hn X3; clear hbi
 have hix : ∀ W : World, (Instr.indexAt 39 (.slice (some ad) bs.length cb) (.int .i64 (i : Int))).run Try.prog W = .ok (.pointer (some (ad.add i))) W := by
  obtain ⟨i0, hi0, hz⟩ := Option.map_eq_some_iff.1 info22
  simp only [Prod.mk.injEq] at hz
  have := index_ad 39 22 hu39 hi0 1 hz.2.1 ad bs.length cb (i : Int) hq0 hq1
  intro W
  have h1 := this W; rw [Nat.mul_one, Int.toNat_natCast] at h1; exact h1
 have HN := aS hn; have HNc := aS hnc; clear hn hnc hq0 HV5
 go_wp2_with (first | (go_at_call 47; (with_reducible refine (cell_Newest.calls k An cn bi a b t r1 r2 r3 r4 r5 r6 _ HN.out HNc.out X3.out).mono ?_); rintro e_ w7 ⟨rfl, hb⟩; have B87 := aS (blk_below B85.out hb); have HB7 := aS (below_step HB5.out hb); clear hb B85 HB5) | ((with_reducible refine gate_store (t := 42) (p := 8) rfl ?_); refine wpList_store_row rfl 42 _ _ rfl g8 #[.string r1, .string r2, .int .i64 r3, .string r4, .bool r5] rfl rfl 42 _ B87.out (by kernel_rfl) rfl (by kernel_rfl) ?_; have BZ := aS (setRow_heap w7 g8 _ #[.string r1, .string r2, .int .i64 r3, .string r4, .bool r5] _ _ B87.out); have HZ := aS (below_setRow HB7.out G8.out #[.string r1, .string r2, .int .i64 r3, .string r4, .bool r5]); clear B87 HB7; generalize World.setRow w7 g8 #[.string r1, .string r2, .int .i64 r3, .string r4, .bool r5] = wz at BZ HZ ⊢))
 try simp only [Exit.inBlock, Exit.then]
 refine bodyPost_ret (results_ct rfl _ _ g8 42 #[.string r1, .string r2, .int .i64 r3, .string r4, .bool r5] (0, 0) _ rfl BZ.out hu42 rfl (by kernel_rfl)) rfl ?_; exact ⟨rfl, HZ.out⟩

/-! ### shardloglaw12_awake: function 9 -/
def shardloglaw12_awake.ab : List S42 := [⟨⟨#[97]⟩, ⟨#[120]⟩, 5, ⟨#[53]⟩, false⟩, ⟨⟨#[98]⟩, ⟨#[120]⟩, 1, ⟨#[49]⟩, false⟩]
def shardloglaw12_awake.tail (k : Nat) (l : List S42) (bs : List (List S42)) (fl : List Int) : Option Bool :=
 (table_Table_Get.f k bs fl ⟨#[97]⟩ ⟨#[120]⟩ 7).bind fun c => (api_Cell_43.f l).bind fun cl => (shardlogref08_Same.f k cl shardloglaw12_awake.ab).bind fun s => (table_Table_May.f k fl ⟨#[98]⟩ ⟨#[120]⟩).bind fun m => if c = (⟨#[97]⟩, ⟨#[120]⟩, 5, ⟨#[53]⟩, false, true) ∧ bs.length = 2 ∧ s = true ∧ m = true then some true else none
def shardloglaw12_awake.both (k : Nat) : Option (List S42 × List (List S42) × List Int) → Option (List S42 × List (List S42) × List Int) → Option Bool
 | some (l, bs, fl), none => shardloglaw12_awake.tail k l bs fl
 | _, _ => none
/-- The one way that is true (every other is `none`). -/
def shardloglaw12_awake.f (k : Nat) : Option Bool :=
 (table_Build.f k shardloglaw12_awake.ab 1).bind fun b => if b.2 = 0 then (table_Open.f k b.1).bind fun o => (table_Open.f k []).bind fun o2 => shardloglaw12_awake.both k o o2 else none
theorem shardloglaw12_awake.mono_both (k : Nat) : ∀ o o2, LeO (shardloglaw12_awake.both k o o2) (shardloglaw12_awake.both (k + 1) o o2)
 | some (l, bs, fl), none => LeO.bind (table_Table_Get.mono _ _ _ _ _ _) fun _ => LeO.bind (LeO.refl _) fun _ => LeO.bind (shardlogref08_Same.mono _ _ _) fun _ => LeO.bind (table_Table_May.mono _ _ _ _) fun _ => LeO.refl _
 | none, none => LeO.refl _
 | none, some _ => LeO.refl _
 | some _, some _ => LeO.refl _
theorem shardloglaw12_awake.mono : ∀ k, LeO (shardloglaw12_awake.f k) (shardloglaw12_awake.f (k + 1)) := fun k =>
 LeO.bind (table_Build.mono _ _ _) fun _ => LeO.ite (LeO.bind (table_Open.mono _ _) fun _ => LeO.bind (table_Open.mono _ _) fun _ => shardloglaw12_awake.mono_both _ _ _) (LeO.refl _)
set_option maxHeartbeats 8000000 in
set_option maxRecDepth 100000 in
theorem shardloglaw12_awake.calls (k : Nat) (r : Bool) (w : World) (h : shardloglaw12_awake.f k = some r) : Calls Try.prog 9 #[] w fun e w' => e = .returned (.bool r) ∧ Below w.heap.size w w' := by
 have hu42 := Try.underlying42; have hu22 := Try.underlying22
 have hsz : (Try.prog.info? 42).map (·.size) = some 5 := by
  obtain ⟨i0, hi0, hz⟩ := Option.map_eq_some_iff.1 info42
  simp only [Prod.mk.injEq] at hz
  rw [hi0]; simp [hz.2.1]
 unfold shardloglaw12_awake.f at h
 replace h := obm h; obtain ⟨⟨b1, b2⟩, x1, h⟩ := h
 by_cases he : b2 = 0
 case neg => rw [if_neg he] at h; cases h
 rw [if_pos he] at h; replace he : b2 = 0 := he; subst he; replace h := obm h; obtain ⟨o, x2, h⟩ := h; replace h := obm h; obtain ⟨o2, x3, h⟩ := h
 cases o with
 | none => cases o2 <;> cases h
 | some o =>
 cases o2 with
 | some _ => cases h
 | none =>
 obtain ⟨l, bs, fl⟩ := o; replace h : shardloglaw12_awake.tail k l bs fl = some r := h
 unfold shardloglaw12_awake.tail at h
 replace h := obm h; obtain ⟨c, x4, h⟩ := h; replace h := obm h; obtain ⟨ca, x5, h⟩ := h; replace h := obm h; obtain ⟨s, x6, h⟩ := h; replace h := obm h; obtain ⟨m, x7, h⟩ := h
 split at h
 case isFalse => cases h
 rename_i hc
 obtain ⟨rfl, hc2, rfl, rfl⟩ := hc
 obtain rfl := Option.some.inj h
 have X1 := aS x1; have X2 := aS x2; have X3 := aS x3; have X4 := aS x4; have X5 := aS x5; have X6 := aS x6; have X7 := aS x7; have C2 := aS hc2; clear x1 x2 x3 x4 x5 x6 x7 hc2 h
 go_enter Try.func9, Try.ntmps9
 go_upto_region 5 with (first | ((with_reducible refine gate_dst (N := 12) rfl ?_); refine Kd.R_lit k42 _ 42 ?hg (N := 12) ?hd (xs := shardloglaw12_awake.ab) (inner := [.string ⟨#[97]⟩, .string ⟨#[120]⟩, .int .i64 5, .string ⟨#[53]⟩, .bool false] ++ [.string ⟨#[98]⟩, .string ⟨#[120]⟩, .int .i64 1, .string ⟨#[49]⟩, .bool false]) (ok := fun _ => True) (okp := fun _ => True) ?hr ?hp (fun _ hk => hk) trivial (Below.refl _ _) (Nat.le_refl _) (by decide) ?_; (case hd => rfl); (case hg => rfl); (case hr => (first | (go_simp; done) | (go_simp; rfl))); (case hp => exact Reps.c5 (k42_mkM _ _ _ (⟨⟨#[97]⟩, ⟨#[120]⟩, 5, ⟨#[53]⟩, false⟩ : S42)) (Reps.c5 (k42_mkM _ _ _ (⟨⟨#[98]⟩, ⟨#[120]⟩, 1, ⟨#[49]⟩, false⟩ : S42)) (Reps.none _ _))); intro v12 w1 ho hb hg_ hnew; obtain ⟨gx, cx, rfl, _, _, _⟩ := Kd.R_form ho (by decide); have HX := aS ho; have HB := aS hb; clear ho hb hg_ hnew) | (go_at_call 12; (with_reducible refine (table_Build.calls k (some ⟨gx, 0, none⟩) cx shardloglaw12_awake.ab 1 b1 0 _ (Kd.R_reads' HX.out).2.2 (Kd.R_reads' HX.out).2.1 X1.out).mono ?_); rintro e_ w2 ⟨v2, rfl, ho, hb⟩; obtain ⟨Ab, cb, rfl, hcl, hC⟩ := Kd.R_reads ho; have HLb := aS hcl; have HCb := aS hC; have HX2 := aS (Kd.R_below HX.out hb); have HB2 := aS (below_step HB.out hb); clear ho hb hcl hC HX HB) | (go_at_call 16; (with_reducible refine (table_Open.calls k Ab cb b1 (some (l, bs, fl)) _ HCb.out HLb.out X2.out).mono ?_); rintro e_ w3 ⟨g, rfl, ha, hb⟩; have HA3 := aS (ha.lower HB2.out.size); have HX3 := aS (Kd.R_below HX2.out hb); have HB3 := aS (below_step HB2.out hb); clear ha hb HX2 HB2 HCb HLb) | (go_at_call 16; refine calls_of_args (args' := #[.slice none ([] : List Int).length 0]) (by rfl) ?_; (with_reducible refine (table_Open.calls k none 0 [] none _ (Kd.C_nil _ _) (Nat.le_refl _) X3.out).mono ?_); rintro e_ w4 ⟨rfl, hb⟩; have HA4 := aS (HA3.out.below hb); have HX4 := aS (Kd.R_below HX3.out hb); have HB4 := aS (below_step HB3.out hb); clear hb HA3 HX3 HB3))
 go_upto_region 8 with (first | (go_at_call 21; (with_reducible refine (table_Table_Get.calls k g _ l bs fl ⟨#[97]⟩ ⟨#[120]⟩ 7 _ _ _ _ _ _ _ HA4.out X4.out).mono ?_); rintro e_ w5 ⟨rfl, hb⟩; have HA5 := aS (HA4.out.below hb); have HX5 := aS (Kd.R_below HX4.out hb); have HB5 := aS (below_step HB4.out hb); clear hb HA4 HX4 HB4) | ((with_reducible refine gate_dst (N := 8) rfl ?_); refine box_event ?hg (N := 8) ?hd (cs := #[.string ⟨#[]⟩, .string ⟨#[]⟩, .int .i64 0, .string ⟨#[]⟩, .bool false]) (t := 42) ?hr ?_; (case hd => rfl); (case hg => rfl); (case hr => (first | (go_simp; done) | (go_simp; rfl))); intro g8 hg w6 hb hbl; have B6 := aS hb; have G8 : Aside0 (w5.heap.size ≤ g8) := aS (by rw [hg]; exact Nat.le_refl _); have HL6 := aS hbl; clear hg hb hbl) | ((with_reducible refine gate_store (t := 42) (p := 8) rfl ?_); refine wpList_store_row rfl 42 _ _ rfl g8 #[.string ⟨#[97]⟩, .string ⟨#[120]⟩, .int .i64 5, .string ⟨#[53]⟩, .bool false] rfl rfl 42 _ B6.out (by kernel_rfl) rfl (by kernel_rfl) ?_; have B7 := aS (setRow_heap w6 g8 _ #[.string ⟨#[97]⟩, .string ⟨#[120]⟩, .int .i64 5, .string ⟨#[53]⟩, .bool false] _ _ B6.out); have HS := aS (below_setRow HL6.out G8.out #[.string ⟨#[97]⟩, .string ⟨#[120]⟩, .int .i64 5, .string ⟨#[53]⟩, .bool false]); have HA7 := aS (HA5.out.below HS.out); have HX7 := aS (Kd.R_below HX5.out HS.out); have HB7 := aS (below_step HB5.out HS.out); clear B6 HL6 HS G8 HA5 HX5 HB5; generalize World.setRow w6 g8 #[.string ⟨#[97]⟩, .string ⟨#[120]⟩, .int .i64 5, .string ⟨#[53]⟩, .bool false] = w7 at B7 HA7 HX7 HB7 ⊢))
 have hix : ∀ W : World, (Instr.indexAt 22 (.slice (some ⟨gx, 0, none⟩) shardloglaw12_awake.ab.length cx) (.int .i64 0)).run Try.prog W = .ok (.pointer (some ⟨gx, 0, none⟩)) W := by
  obtain ⟨i0, hi0, hz⟩ := Option.map_eq_some_iff.1 info42
  simp only [Prod.mk.injEq] at hz
  have := index_at 22 42 hu22 hi0 5 hz.2.1 gx shardloglaw12_awake.ab.length cx 0 (by decide) (by decide)
  simpa using this
 have XR : Aside0 (∀ (W : World) (base : Nat), Kd.R k42 42 W base (fun _ => True) (.slice (some ⟨gx, 0, none⟩) shardloglaw12_awake.ab.length cx) shardloglaw12_awake.ab → W.rangeAt gx 0 [.string ⟨#[97]⟩, .string ⟨#[120]⟩, .int .i64 5, .string ⟨#[53]⟩, .bool false]) := aS (fun W base hR j u hj => by
  obtain ⟨ce, hcel, hK, hcc, hM⟩ := Kd.R_elem hR z42 0 (by decide) (by decide)
  have hK2 : Kd.K k42 W (rd_T42 shardloglaw12_awake.ab 0) ce := by first | exact hK | exact (k42).K_of_M hK | exact (k42).K_of_M hM
  obtain rfl := k42_open hK2
  have := hcc j u hj
  simpa using this)
 refine start_ (n := 24) (ds := []) (S := fun w' => w'.rangeAt g8 0 [.string ⟨#[97]⟩, .string ⟨#[120]⟩, .int .i64 5, .string ⟨#[53]⟩, .bool false] ∧ w'.rangeAt gx 0 [.string ⟨#[97]⟩, .string ⟨#[120]⟩, .int .i64 5, .string ⟨#[53]⟩, .bool false]) (bA 24 0) (by kernel_rfl) rfl rfl ⟨range_of (blk_drew B7.out), XR.out _ _ (Kd.R_drew HX7.out)⟩ (fun hHeld => ?_)
 generalize hw_ : World.drew _ = w8 at hHeld ⊢
 have B8 : Aside0 (w8.heap[g8]? = _) := aS (hw_ ▸ blk_drew B7.out); have HA8 : Aside0 (table_Open.At w8 w.heap.size g l bs fl) := aS (hw_ ▸ HA7.out.below (below_drew (Below.refl _ _))); have HX8 : Aside0 (Kd.R k42 42 w8 w.heap.size (fun _ => True) (.slice (some ⟨gx, 0, none⟩) shardloglaw12_awake.ab.length cx) shardloglaw12_awake.ab) := aS (hw_ ▸ Kd.R_drew HX7.out); have HB8 : Aside0 (Below w.heap.size w w8) := aS (hw_ ▸ below_step HB7.out (below_drew (Below.refl _ _))); clear hw_ B7 HA7 HX7 HB7; refine with_tabW (T := (true, [([], []), ([0], [0]), ([1], [1]), ([1], [1]), ([3, 1], [1, 3]), ([4, 1], [1, 4]), ([2, 5, 1], [1, 2, 5]), ([1, 6], [1, 6]), ([7, 1], [7]), ([8], [8]), ([9, 8, 8], [8, 9]), ([10, 8], [8, 10]), ([8, 11], [8, 11]), ([12, 10], [12]), ([13], [13]), ([14, 13, 13], [13, 14]), ([13], [13]), ([15, 16, 15, 13], [13, 15, 16]), ([13, 17], [13, 17]), ([18, 17], [18]), ([19], [19]), ([20, 19, 19], [19, 20]), ([19, 21], [19, 21]), ([22, 21, 0, 1, 2, 3, 4, 5, 6, 7, 8, 9, 10, 11, 12, 13, 14, 15, 16, 17, 18, 19, 20, 21, 22], [22])])) (B := [0, 1, 3, 3, 11, 27, 63, 127, 255, 511, 1023, 2047, 4095, 8191, 16383, 32767, 16383, 131071, 262143, 524287, 1048575, 2097151, 4194303, 8388607]) (by kernel_rfl) (by kernel_rfl) (fun HT_ HW_ => ?_); refine along_ [(0, 50), (1, 51)] ?_
 iterate 2 (refine pure3 HT_ ?_)
 refine lay_ (bA 24 3) (by kernel_rfl) ?_; refine take_ (i := 2) (N := (some 52)) (v := .agg #[.string ⟨#[97]⟩, .string ⟨#[120]⟩, .int .i64 5, .string ⟨#[53]⟩, .bool false]) (a' := ?_) (bA 24 7) rfl rfl (take_ofW HT_.out HW_.out (by kernel_rfl)) (fun _ _ _ h => h) (yieldsIf_load_mid (by rfl) 42 _ rfl g8 0 (by go_simp) _ _ (fun w' hw' => hw'.1) hu42 rfl hsz) hHeld ?_ ?_
 rotate_left
 ·
  simp only [Act.put, lsa, lsz, lss, i64_w, i32_w]
  rfl
 refine along_ [(3, 53), (4, 54)] ?_
 iterate 2 (refine pure3 HT_ ?_)
 refine lay_ (bA 24 31) (by kernel_rfl) ?_; refine take_ (i := 5) (N := (some 55)) (v := .agg #[.string ⟨#[97]⟩, .string ⟨#[120]⟩, .int .i64 5, .string ⟨#[53]⟩, .bool false]) (a' := ?_) (bA 24 63) rfl rfl (take_ofW HT_.out HW_.out (by kernel_rfl)) (fun _ _ _ h => h) (yieldsIf_load_mid (by rfl) 42 _ rfl gx 0 (by go_simp) _ _ (fun w' hw' => hw'.2) hu42 rfl hsz) hHeld ?_ ?_
 rotate_left
 ·
  simp only [Act.put, lsa, lsz, lss, i64_w, i32_w]
  rfl
 refine along_ [(6, 56), (7, 57), (8, 58), (9, 59)] ?_
 iterate 4 (refine pure3 HT_ ?_)
 refine lay_ (bA 24 1023) (by kernel_rfl) ?_; refine one3 10 (N := some 60) (bA 24 2047) HT_ (fun K hK => ?_); refine goes_ Try.func19 (by kernel_rfl) rfl #[.pointer (some ⟨g, 0, none⟩)] (by rfl) rfl rfl agn ?_
 with_reducible refine (table_Table_Blocks.calls g _ l bs fl _ HA8.out).mono ?_
 rintro e_ w9 ⟨he, hb⟩
 obtain rfl : e_ = .returned (.int .i64 2) := he.trans (by rw [C2.out]; rfl)
 clear he; refine ⟨_, rfl, ?_⟩; have B9 := aS (blk_below B8.out hb); have HA9 := aS (HA8.out.below hb); have HX9 := aS (Kd.R_below HX8.out hb); have HB9 := aS (below_step HB8.out hb); clear hb B8 HA8 HX8 HB8; refine hK.out _ _ ⟨range_of B9.out, XR.out _ _ HX9.out⟩ (fun hHeld => ?_); clear hK K; refine nm 60 ?_; refine along_ [(11, 61), (12, 62), (13, 63), (14, 64), (16, 66)] ?_
 iterate 5 (refine pure3 HT_ ?_)
 refine lay_ (bA 24 98303) (by kernel_rfl) ?_; refine one3 15 (N := some 65) (bA 24 131071) HT_ (fun K hK => ?_); refine goes_ Try.func18 (by kernel_rfl) rfl #[.pointer (some ⟨g, 0, none⟩)] (by rfl) rfl rfl agn ?_
 with_reducible refine (table_Table_Cells.calls g _ l bs fl ca _ HA9.out X5.out).mono ?_
 rintro e_ w10 ⟨u, rfl, ho, hb⟩
 obtain ⟨Ac, cc, rfl, hcl, hC⟩ := Kd.R_reads ho; have HLc := aS hcl; have HCc := aS hC; clear ho hcl hC; refine ⟨_, rfl, ?_⟩; have Ba := aS (blk_below B9.out hb); have HAa := aS (HA9.out.below hb); have HXa := aS (Kd.R_below HX9.out hb); have HBa := aS (below_step HB9.out hb); clear hb B9 HA9 HX9 HB9; refine hK.out _ _ ⟨range_of Ba.out, XR.out _ _ HXa.out⟩ (fun hHeld => ?_); clear hK K; refine nm 65 ?_; refine one3 17 (N := some 67) (bA 24 262143) HT_ (fun K hK => ?_); refine goes_ Try.func17 (by kernel_rfl) rfl #[.slice Ac ca.length cc, .slice (some ⟨gx, 0, none⟩) shardloglaw12_awake.ab.length cx] (by rfl) rfl rfl agn ?_
 with_reducible refine (shardlogref08_Same.calls k Ac cc ca (some ⟨gx, 0, none⟩) cx shardloglaw12_awake.ab true _ HCc.out HLc.out (Kd.R_reads' HXa.out).2.2 (Kd.R_reads' HXa.out).2.1 X6.out).mono ?_
 rintro e_ w11 ⟨rfl, hb'⟩
 have hb := hb'.below; clear hb'; refine ⟨_, rfl, ?_⟩; have Bb := aS (blk_below Ba.out hb); have HAb := aS (HAa.out.below hb); have HXb := aS (Kd.R_below HXa.out hb); have HBb := aS (below_step HBa.out hb); clear hb Ba HAa HXa HBa; refine hK.out _ _ ⟨range_of Bb.out, XR.out _ _ HXb.out⟩ (fun hHeld => ?_); clear hK K; refine nm 67 ?_; refine along_ [(18, 68), (19, 69), (20, 70)] ?_
 iterate 3 (refine pure3 HT_ ?_)
 refine lay_ (bA 24 2097151) (by kernel_rfl) ?_; refine one3 21 (N := some 71) (bA 24 4194303) HT_ (fun K hK => ?_); refine goes_ Try.func22 (by kernel_rfl) rfl #[.pointer (some ⟨g, 0, none⟩), .string ⟨#[98]⟩, .string ⟨#[120]⟩] (by rfl) rfl rfl agn ?_
 with_reducible refine (table_Table_May.calls k g _ l bs fl ⟨#[98]⟩ ⟨#[120]⟩ true _ HAb.out X7.out).mono ?_
 rintro e_ w12 ⟨rfl, hb⟩
 refine ⟨_, rfl, ?_⟩; have Bz := aS (blk_below Bb.out hb); have HAz := aS (HAb.out.below hb); have HXz := aS (Kd.R_below HXb.out hb); have HBz := aS (below_step HBb.out hb); clear hb Bb HAb HXb HBb; refine hK.out _ _ ⟨range_of Bz.out, XR.out _ _ HXz.out⟩ (fun hHeld => ?_); clear hK K; refine nm 71 ?_; refine along_ [(22, 72), (23, 0)] ?_
 iterate 2 (refine pure3 HT_ ?_)
 refine lay_ (bA 24 16777215) (by kernel_rfl) ?_; refine done_ (done_of HT_.out (by kernel_rfl)) ?_; clear HT_ HW_ hHeld
 try go_wp2
 go_ret
 exact ⟨rfl, HBz.out⟩

/-! ### shardlogref08_Right: function 27 -/
def shardlogref08_Right.f (a0_0 : ByteArray) (a0_1 : ByteArray) (a0_2 : Int) (a0_3 : ByteArray) (a0_4 : Bool) : Option (Bool) := if (a0_0.size : Int) < 1 then (some false) else (if (a0_0.size : Int) > 64 then (some false) else (if (a0_1.size : Int) < 1 then (some false) else (if (a0_1.size : Int) > 64 then (some false) else (if a0_2 < 0 then (some false) else (if a0_2 > 4294967295 then (some false) else (if (a0_3.size : Int) ≤ 256 then (if a0_4 = true then (some (a0_3.toList == ([] : List UInt8))) else (some true)) else (some false)))))))
set_option maxHeartbeats 8000000 in
set_option maxRecDepth 100000 in
theorem shardlogref08_Right.calls (a0_0 : ByteArray) (a0_1 : ByteArray) (a0_2 : Int) (a0_3 : ByteArray) (a0_4 : Bool) (r : Bool) (w : World) (h : shardlogref08_Right.f a0_0 a0_1 a0_2 a0_3 a0_4 = some r) :
  Calls Try.prog 27 #[.agg #[.string a0_0, .string a0_1, .int .i64 a0_2, .string a0_3, .bool a0_4]] w fun e w' => e = .returned (.bool r) ∧ Below w.heap.size w w' := by
 have hu42 := Try.underlying42; have HB := aS (Below.refl w.heap.size w); have H : (if (a0_0.size : Int) < 1 then (some false) else (if (a0_0.size : Int) > 64 then (some false) else (if (a0_1.size : Int) < 1 then (some false) else (if (a0_1.size : Int) > 64 then (some false) else (if a0_2 < 0 then (some false) else (if a0_2 > 4294967295 then (some false) else (if (a0_3.size : Int) ≤ 256 then (if a0_4 = true then (some (a0_3.toList == ([] : List UInt8))) else (some true)) else (some false)))))))) = some r := h; clear h
 by_cases c2 : (a0_0.size : Int) < 1
 ·
  rw [if_pos c2] at H; have c2b0 : decide ((a0_0.size : Int) < 1) = true := decide_eq_true c2; have c2b1 : decide (a0_0.size < 1) = true := decide_eq_true (by omega); clear c2
  obtain rfl := Option.some.inj H
  go_enter Try.func27, Try.ntmps27
  go_wp2_with (first | ((with_reducible refine gate_dst (N := 1) rfl ?_); (try (refine gate_guard (by rfl) ?_; dsimp only)); refine box_event ?hg (N := 1) ?hd (cs := #[.string a0_0, .string a0_1, .int .i64 a0_2, .string a0_3, .bool a0_4]) (t := 42) ?hr ?_; (case hd => rfl); (case hg => rfl); (case hr => first | (go_simp; done) | (go_simp; rfl)); intro gb500 hg w3 hbox hb; have BK500 := aS (hbox); have GW500 := bsize hg; have GE500 := bsize hg; replace HB := bstep hb; clear hb hbox hg; have hcz4 := cK5 BK500))
  go_ret
  exact ⟨rf3, bel⟩
 ·
  rw [if_neg c2] at H; have c2b0 : decide ((a0_0.size : Int) < 1) = false := decide_eq_false c2; have c2b1 : decide (a0_0.size < 1) = false := decide_eq_false (by omega); clear c2
  by_cases c5 : (a0_0.size : Int) > 64
  ·
   rw [if_pos c5] at H; have c5b0 : decide (64 < (a0_0.size : Int)) = true := decide_eq_true c5; have c5b1 : decide (64 < a0_0.size) = true := decide_eq_true (by omega); clear c5
   obtain rfl := Option.some.inj H
   go_enter Try.func27, Try.ntmps27
   go_wp2_with (first | ((with_reducible refine gate_dst (N := 1) rfl ?_); (try (refine gate_guard (by rfl) ?_; dsimp only)); refine box_event ?hg (N := 1) ?hd (cs := #[.string a0_0, .string a0_1, .int .i64 a0_2, .string a0_3, .bool a0_4]) (t := 42) ?hr ?_; (case hd => rfl); (case hg => rfl); (case hr => first | (go_simp; done) | (go_simp; rfl)); intro gb500 hg w6 hbox hb; have BK500 := aS (hbox); have GW500 := bsize hg; have GE500 := bsize hg; replace HB := bstep hb; clear hb hbox hg; have hcz7 := cK5 BK500))
   go_ret
   exact ⟨rf3, bel⟩
  ·
   rw [if_neg c5] at H; have c5b0 : decide (64 < (a0_0.size : Int)) = false := decide_eq_false c5; have c5b1 : decide (64 < a0_0.size) = false := decide_eq_false (by omega); clear c5
   by_cases c8 : (a0_1.size : Int) < 1
   ·
    rw [if_pos c8] at H; have c8b0 : decide ((a0_1.size : Int) < 1) = true := decide_eq_true c8; have c8b1 : decide (a0_1.size < 1) = true := decide_eq_true (by omega); clear c8
    obtain rfl := Option.some.inj H
    go_enter Try.func27, Try.ntmps27
    go_wp2_with (first | ((with_reducible refine gate_dst (N := 1) rfl ?_); (try (refine gate_guard (by rfl) ?_; dsimp only)); refine box_event ?hg (N := 1) ?hd (cs := #[.string a0_0, .string a0_1, .int .i64 a0_2, .string a0_3, .bool a0_4]) (t := 42) ?hr ?_; (case hd => rfl); (case hg => rfl); (case hr => first | (go_simp; done) | (go_simp; rfl)); intro gb500 hg w9 hbox hb; have BK500 := aS (hbox); have GW500 := bsize hg; have GE500 := bsize hg; replace HB := bstep hb; clear hb hbox hg; have hcz10 := cK5 BK500))
    go_ret
    exact ⟨rf3, bel⟩
   ·
    rw [if_neg c8] at H; have c8b0 : decide ((a0_1.size : Int) < 1) = false := decide_eq_false c8; have c8b1 : decide (a0_1.size < 1) = false := decide_eq_false (by omega); clear c8
    by_cases c11 : (a0_1.size : Int) > 64
    ·
     rw [if_pos c11] at H; have c11b0 : decide (64 < (a0_1.size : Int)) = true := decide_eq_true c11; have c11b1 : decide (64 < a0_1.size) = true := decide_eq_true (by omega); clear c11
     obtain rfl := Option.some.inj H
     go_enter Try.func27, Try.ntmps27
     go_wp2_with (first | ((with_reducible refine gate_dst (N := 1) rfl ?_); (try (refine gate_guard (by rfl) ?_; dsimp only)); refine box_event ?hg (N := 1) ?hd (cs := #[.string a0_0, .string a0_1, .int .i64 a0_2, .string a0_3, .bool a0_4]) (t := 42) ?hr ?_; (case hd => rfl); (case hg => rfl); (case hr => first | (go_simp; done) | (go_simp; rfl)); intro gb500 hg w12 hbox hb; have BK500 := aS (hbox); have GW500 := bsize hg; have GE500 := bsize hg; replace HB := bstep hb; clear hb hbox hg; have hcz13 := cK5 BK500))
     go_ret
     exact ⟨rf3, bel⟩
    ·
     rw [if_neg c11] at H; have c11b0 : decide (64 < (a0_1.size : Int)) = false := decide_eq_false c11; have c11b1 : decide (64 < a0_1.size) = false := decide_eq_false (by omega); clear c11
     by_cases c14 : a0_2 < 0
     ·
      rw [if_pos c14] at H; have c14b0 : decide (a0_2 < 0) = true := decide_eq_true c14; clear c14
      obtain rfl := Option.some.inj H
      go_enter Try.func27, Try.ntmps27
      go_wp2_with (first | ((with_reducible refine gate_dst (N := 1) rfl ?_); (try (refine gate_guard (by rfl) ?_; dsimp only)); refine box_event ?hg (N := 1) ?hd (cs := #[.string a0_0, .string a0_1, .int .i64 a0_2, .string a0_3, .bool a0_4]) (t := 42) ?hr ?_; (case hd => rfl); (case hg => rfl); (case hr => first | (go_simp; done) | (go_simp; rfl)); intro gb500 hg w15 hbox hb; have BK500 := aS (hbox); have GW500 := bsize hg; have GE500 := bsize hg; replace HB := bstep hb; clear hb hbox hg; have hcz16 := cK5 BK500))
      go_ret
      exact ⟨rf3, bel⟩
     ·
      rw [if_neg c14] at H; have c14b0 : decide (a0_2 < 0) = false := decide_eq_false c14; clear c14
      by_cases c17 : a0_2 > 4294967295
      ·
       rw [if_pos c17] at H; have c17b0 : decide (4294967295 < a0_2) = true := decide_eq_true c17; clear c17
       obtain rfl := Option.some.inj H
       go_enter Try.func27, Try.ntmps27
       go_wp2_with (first | ((with_reducible refine gate_dst (N := 1) rfl ?_); (try (refine gate_guard (by rfl) ?_; dsimp only)); refine box_event ?hg (N := 1) ?hd (cs := #[.string a0_0, .string a0_1, .int .i64 a0_2, .string a0_3, .bool a0_4]) (t := 42) ?hr ?_; (case hd => rfl); (case hg => rfl); (case hr => first | (go_simp; done) | (go_simp; rfl)); intro gb500 hg w18 hbox hb; have BK500 := aS (hbox); have GW500 := bsize hg; have GE500 := bsize hg; replace HB := bstep hb; clear hb hbox hg; have hcz19 := cK5 BK500))
       go_ret
       exact ⟨rf3, bel⟩
      ·
       rw [if_neg c17] at H; have c17b0 : decide (4294967295 < a0_2) = false := decide_eq_false c17; clear c17
       by_cases c20 : (a0_3.size : Int) ≤ 256
       ·
        rw [if_pos c20] at H; have c20b0 : decide ((a0_3.size : Int) ≤ 256) = true := decide_eq_true c20; have c20b1 : decide (a0_3.size ≤ 256) = true := decide_eq_true (by omega); clear c20
        by_cases c21 : a0_4 = true
        ·
         subst c21
         replace H := ifT H
         obtain rfl := Option.some.inj H
         go_enter Try.func27, Try.ntmps27
         go_wp2_with (first | ((with_reducible refine gate_dst (N := 1) rfl ?_); (try (refine gate_guard (by rfl) ?_; dsimp only)); refine box_event ?hg (N := 1) ?hd (cs := #[.string a0_0, .string a0_1, .int .i64 a0_2, .string a0_3, .bool true]) (t := 42) ?hr ?_; (case hd => rfl); (case hg => rfl); (case hr => first | (go_simp; done) | (go_simp; rfl)); intro gb500 hg w22 hbox hb; have BK500 := aS (hbox); have GW500 := bsize hg; have GE500 := bsize hg; replace HB := bstep hb; clear hb hbox hg; have hcz23 := cK5 BK500))
         go_ret
         exact ⟨rf3, bel⟩
        ·
         replace c21 := Bool.eq_false_iff.mpr c21; subst c21
         replace H := ifF H
         obtain rfl := Option.some.inj H
         go_enter Try.func27, Try.ntmps27
         go_wp2_with (first | ((with_reducible refine gate_dst (N := 1) rfl ?_); (try (refine gate_guard (by rfl) ?_; dsimp only)); refine box_event ?hg (N := 1) ?hd (cs := #[.string a0_0, .string a0_1, .int .i64 a0_2, .string a0_3, .bool false]) (t := 42) ?hr ?_; (case hd => rfl); (case hg => rfl); (case hr => first | (go_simp; done) | (go_simp; rfl)); intro gb500 hg w24 hbox hb; have BK500 := aS (hbox); have GW500 := bsize hg; have GE500 := bsize hg; replace HB := bstep hb; clear hb hbox hg; have hcz25 := cK5 BK500))
         go_ret
         exact ⟨rf3, bel⟩
       ·
        rw [if_neg c20] at H; have c20b0 : decide ((a0_3.size : Int) ≤ 256) = false := decide_eq_false c20; have c20b1 : decide (a0_3.size ≤ 256) = false := decide_eq_false (by omega); clear c20
        obtain rfl := Option.some.inj H
        go_enter Try.func27, Try.ntmps27
        go_wp2_with (first | ((with_reducible refine gate_dst (N := 1) rfl ?_); (try (refine gate_guard (by rfl) ?_; dsimp only)); refine box_event ?hg (N := 1) ?hd (cs := #[.string a0_0, .string a0_1, .int .i64 a0_2, .string a0_3, .bool a0_4]) (t := 42) ?hr ?_; (case hd => rfl); (case hg => rfl); (case hr => first | (go_simp; done) | (go_simp; rfl)); intro gb500 hg w26 hbox hb; have BK500 := aS (hbox); have GW500 := bsize hg; have GE500 := bsize hg; replace HB := bstep hb; clear hb hbox hg; have hcz27 := cK5 BK500))
        go_ret
        exact ⟨rf3, bel⟩

/-! ### shardlogref08_Few: function 10 -/
def shardlogref08_Few.l0 : Nat → List (S42) → Int → Option (Bool)
 | 0, _, _ => none
 | k + 1, x0, x3 => if x3 < (x0.length : Int) then (if 0 ≤ x3 then ((shardlogref08_Right.f ((rd_T42 x0 x3).f0) ((rd_T42 x0 x3).f1) ((rd_T42 x0 x3).f2) ((rd_T42 x0 x3).f3) ((rd_T42 x0 x3).f4)).bind fun t502 => (if t502 = true then (shardlogref08_Few.l0 k x0 (wrap64 (x3 + 1))) else (some false))) else (none)) else (some true)
def shardlogref08_Few.f (k : Nat) (l0 : List (S42)) : Option (Bool) := if (l0.length : Int) > 80 then (some false) else (shardlogref08_Few.l0 k l0 0)
theorem shardlogref08_Few.mono_l : ∀ k, (∀ y0 y1, LeO (shardlogref08_Few.l0 k y0 y1) (shardlogref08_Few.l0 (k + 1) y0 y1))
 | 0 => fun _ _ r h => by simp [shardlogref08_Few.l0] at h
 | k + 1 => by
  have ih0 := shardlogref08_Few.mono_l k
  ·
   intro y0 y1
   unfold shardlogref08_Few.l0
   exact lmo
theorem shardlogref08_Few.mono : ∀ a0 k, LeO (shardlogref08_Few.f k a0) (shardlogref08_Few.f (k + 1) a0) := by
 intro a0 k
 have ih0 := shardlogref08_Few.mono_l k
 unfold shardlogref08_Few.f
 exact lmo
set_option maxHeartbeats 8000000 in
set_option maxRecDepth 100000 in
theorem shardlogref08_Few.calls (k : Nat) (A0 : Option Addr) (c0 : Nat) (l0 : List (S42)) (r : Bool) (w : World) (hr0 : Kd.C k42 w A0 l0.length l0) (hc0 : l0.length ≤ c0) (h : shardlogref08_Few.f k l0 = some r) :
  Calls Try.prog 10 #[.slice A0 l0.length c0] w fun e w' => e = .returned (.bool r) ∧ Below w.heap.size w w' := by
 have hu42 := Try.underlying42; have HR0 := aS hr0; have HC0 := aS hc0; clear hr0 hc0; have HB := aS (Below.refl w.heap.size w); have H : (if (l0.length : Int) > 80 then (some false) else (shardlogref08_Few.l0 k l0 0)) = some r := h; clear h
 by_cases c2 : (l0.length : Int) > 80
 ·
  rw [if_pos c2] at H; have c2b0 : decide (80 < (l0.length : Int)) = true := decide_eq_true c2; have c2b1 : decide (80 < l0.length) = true := decide_eq_true (by omega); clear c2
  obtain rfl := Option.some.inj H
  go_enter Try.func10, Try.ntmps10
  go_wp2
  go_ret
  exact ⟨rf3, bel⟩
 ·
  rw [if_neg c2] at H; have c2b0 : decide (80 < (l0.length : Int)) = false := decide_eq_false c2; have c2b1 : decide (80 < l0.length) = false := decide_eq_false (by omega); clear c2
  have H' := aS H
  clear H
  go_enter Try.func10, Try.ntmps10
  go_wp2
  go_loopg [3] k (fun kq v3 w' => ∃ (x3_1 : Int), v3 = .int .i64 x3_1 ∧ Aside0 (shardlogref08_Few.l0 kq l0 x3_1 = some r) ∧ Aside0 (kq ≤ k) ∧ Aside0 (Below w.heap.size w w'))
  case atStart => exact ⟨(0), srf, H', ⟨Nat.le_refl _⟩, ⟨bel⟩⟩
  case round =>
   clear H'; (try clear c2); (try clear c2b0); (try clear c2b1); obtain ⟨x3_1, rfl, HA, HK1, HB⟩ := hrel
   cases gk with
   | zero => exact absurd HA.out (by simp [shardlogref08_Few.l0])
   | succ k1 =>
    have H := HA.out; clear HA
    simp only [shardlogref08_Few.l0] at H
    by_cases c3 : x3_1 < (l0.length : Int)
    ·
     rw [if_pos c3] at H; have c3b0 : decide (x3_1 < (l0.length : Int)) = true := decide_eq_true c3; clear c3
     by_cases c4 : 0 ≤ x3_1
     ·
      rw [if_pos c4] at H; have c4b0 : decide (0 ≤ x3_1) = true := decide_eq_true c4; clear c4; replace H := obm H; obtain ⟨t502, A50, H⟩ := H; have A5 := aS A50; clear A50
      by_cases c6 : t502 = true
      ·
       subst c6
       replace H := ifT H
       have H' := aS H
       clear H; have p501 : 0 ≤ (x3_1 : Int) := oda; have q501 : x3_1 < (l0.length : Int) := oda; obtain ⟨ad501, e501, hx501_0, hx501_1, hx501_2, hx501_3, hx501_4⟩ := at_T42 HR0.out x3_1 p501 q501; cases e501; replace hx501_0 := bx bel hx501_0; replace hx501_1 := bx bel hx501_1; replace hx501_2 := bx bel hx501_2; replace hx501_3 := bx bel hx501_3; replace hx501_4 := bx bel hx501_4; replace p501 := eq_true p501; replace q501 := eq_true q501
       go_wp2_with (first | ((with_reducible refine gate_callee (f := 27) rfl ?_); refine goesL_ (some 17) rfl rfl Try.func27 (by kernel_rfl) rfl #[.agg #[.string ((rd_T42 l0 x3_1).f0), .string ((rd_T42 l0 x3_1).f1), .int .i64 ((rd_T42 l0 x3_1).f2), .string ((rd_T42 l0 x3_1).f3), .bool ((rd_T42 l0 x3_1).f4)]] rfl agn ?_; (with_reducible refine (shardlogref08_Right.calls ((rd_T42 l0 x3_1).f0) ((rd_T42 l0 x3_1).f1) ((rd_T42 l0 x3_1).f2) ((rd_T42 l0 x3_1).f3) ((rd_T42 l0 x3_1).f4) true _ A5.out).mono ?_); rintro e w7 ⟨rfl, hb⟩; refine ⟨_, rfl, ?_⟩; replace HB := bstep hb; (try clear hb); (try clear hk); (try clear hi)))
       go_roundg k1
       case measure => have := HK1.out; omega
       case rel => exact ⟨(wrap64 (x3_1 + 1)), srf, H', ⟨by have := HK1.out; omega⟩, ⟨bel⟩⟩
      ·
       replace c6 := Bool.eq_false_iff.mpr c6; subst c6
       replace H := ifF H
       obtain rfl := Option.some.inj H
       have p501 : 0 ≤ (x3_1 : Int) := oda; have q501 : x3_1 < (l0.length : Int) := oda; obtain ⟨ad501, e501, hx501_0, hx501_1, hx501_2, hx501_3, hx501_4⟩ := at_T42 HR0.out x3_1 p501 q501; cases e501; replace hx501_0 := bx bel hx501_0; replace hx501_1 := bx bel hx501_1; replace hx501_2 := bx bel hx501_2; replace hx501_3 := bx bel hx501_3; replace hx501_4 := bx bel hx501_4; replace p501 := eq_true p501; replace q501 := eq_true q501
       go_wp2_with (first | ((with_reducible refine gate_callee (f := 27) rfl ?_); refine goesL_ (some 17) rfl rfl Try.func27 (by kernel_rfl) rfl #[.agg #[.string ((rd_T42 l0 x3_1).f0), .string ((rd_T42 l0 x3_1).f1), .int .i64 ((rd_T42 l0 x3_1).f2), .string ((rd_T42 l0 x3_1).f3), .bool ((rd_T42 l0 x3_1).f4)]] rfl agn ?_; (with_reducible refine (shardlogref08_Right.calls ((rd_T42 l0 x3_1).f0) ((rd_T42 l0 x3_1).f1) ((rd_T42 l0 x3_1).f2) ((rd_T42 l0 x3_1).f3) ((rd_T42 l0 x3_1).f4) false _ A5.out).mono ?_); rintro e w8 ⟨rfl, hb⟩; refine ⟨_, rfl, ?_⟩; replace HB := bstep hb; (try clear hb); (try clear hk); (try clear hi)))
       go_ret
       exact ⟨rf3, bel⟩
     ·
      rw [if_neg c4] at H; exact absurd H (by simp)
    ·
     rw [if_neg c3] at H; have c3b0 : decide (x3_1 < (l0.length : Int)) = false := decide_eq_false c3; clear c3
     obtain rfl := Option.some.inj H
     go_wp2
     go_ret
     exact ⟨rf3, bel⟩

/-! ### shardlogref08_Text: function 56 -/
mutual
def shardlogref08_Text.l0 : Nat → ByteArray → ByteArray → Int → Option (Int)
 | 0, _, _, _ => none
 | k + 1, x0, x1, x5 => if x5 < (x0.size : Int) then (shardlogref08_Text.j1 k x0 x1 x5 (decide (x5 < (x1.size : Int)))) else (shardlogref08_Text.j1 k x0 x1 x5 false)
def shardlogref08_Text.j1 : Nat → ByteArray → ByteArray → Int → Bool → Option (Int)
 | 0, _, _, _, _ => none
 | k + 1, x0, x1, x5, x15 => if x15 = true then (if 0 ≤ x5 then (if x5 < (x0.size : Int) then (if x5 < (x1.size : Int) then (if (bt x0 x5) < (bt x1 x5) then (some (-1)) else (if (bt x0 x5) > (bt x1 x5) then (some 1) else (shardlogref08_Text.l0 k x0 x1 (wrap64 (x5 + 1))))) else (none)) else (none)) else (none)) else (if (x0.size : Int) < (x1.size : Int) then (some (-1)) else (if (x0.size : Int) > (x1.size : Int) then (some 1) else (some 0)))
end
def shardlogref08_Text.f (k : Nat) (a0 : ByteArray) (a1 : ByteArray) : Option (Int) := shardlogref08_Text.l0 k a0 a1 0
theorem shardlogref08_Text.mono_l : ∀ k, (∀ y0 y1 y2, LeO (shardlogref08_Text.l0 k y0 y1 y2) (shardlogref08_Text.l0 (k + 1) y0 y1 y2)) ∧ (∀ y0 y1 y2 y3, LeO (shardlogref08_Text.j1 k y0 y1 y2 y3) (shardlogref08_Text.j1 (k + 1) y0 y1 y2 y3))
 | 0 => ⟨fun _ _ _ r h => by simp [shardlogref08_Text.l0] at h, fun _ _ _ _ r h => by simp [shardlogref08_Text.j1] at h⟩
 | k + 1 => by
  obtain ⟨ih0, ih1⟩ := shardlogref08_Text.mono_l k; refine ⟨?_, ?_⟩
  ·
   intro y0 y1 y2
   unfold shardlogref08_Text.l0
   exact lmo
  ·
   intro y0 y1 y2 y3
   unfold shardlogref08_Text.j1
   exact lmo
theorem shardlogref08_Text.mono : ∀ a0 a1 k, LeO (shardlogref08_Text.f k a0 a1) (shardlogref08_Text.f (k + 1) a0 a1) := by
 intro a0 a1 k
 obtain ⟨ih0, ih1⟩ := shardlogref08_Text.mono_l k
 unfold shardlogref08_Text.f
 exact lmo
set_option maxHeartbeats 8000000 in
set_option maxRecDepth 100000 in
theorem shardlogref08_Text.calls (k : Nat) (a0 : ByteArray) (a1 : ByteArray) (r : Int) (w : World) (h : shardlogref08_Text.f k a0 a1 = some r) :
  Calls Try.prog 56 #[.string a0, .string a1] w fun e w' => e = .returned (.int .i64 r) ∧ Drawn0 w w' := by
 have H : (shardlogref08_Text.l0 k a0 a1 0) = some r := h; clear h
 have H' := aS H
 clear H
 go_enter Try.func56, Try.ntmps56
 go_wp2
 repeat (go_quiet (fail); try go_wp2)
 go_loopg [5] k (fun kq v5 w' => ∃ (x5_1 : Int), v5 = .int .i64 x5_1 ∧ Aside0 (shardlogref08_Text.l0 kq a0 a1 x5_1 = some r) ∧ Aside0 (kq ≤ k) ∧ Drawn0 w w')
 case atStart => exact ⟨(0), srf, H', ⟨Nat.le_refl _⟩, by repeat (first | exact Drawn0.refl _ | apply Drawn0.step)⟩
 case round =>
  clear H'; obtain ⟨x5_1, rfl, HA, HK1, ⟨m1, rfl⟩⟩ := hrel
  cases gk with
  | zero => exact absurd HA.out (by simp [shardlogref08_Text.l0])
  | succ k1 =>
   have H := HA.out; clear HA
   simp only [shardlogref08_Text.l0] at H
   have HC3 := aS H; clear H
   go_upto_region 2 with (fail)
   repeat (go_quiet (fail); go_upto_region 2 with (fail))
   go_cut [15] (fun v15 wc => ∃ (kq : Nat) (x15_2 : Bool), v15 = .bool x15_2 ∧ Aside0 (shardlogref08_Text.j1 kq a0 a1 x5_1 x15_2 = some r) ∧ Aside0 (kq ≤ k1) ∧ Drawn0 w wc)
   case first =>
    have H := HC3.out; clear HC3
    by_cases c4 : x5_1 < (a0.size : Int)
    ·
     rw [if_pos c4] at H; have c4b0 : decide (x5_1 < (a0.size : Int)) = true := decide_eq_true c4; clear c4
     (first | rw [c4b0] | (simp only [i64_w, i32_w]; rw [c4b0]) | skip)
     have H' := aS H
     clear H
     go_wp2
     repeat (go_quiet (fail); try go_wp2)
     go_meet
     case rel => exact ⟨_, (decide (x5_1 < (a1.size : Int))), srf, H', ⟨by have := HK1.out; first | omega | exact Nat.le_refl _⟩, by repeat (first | exact Drawn0.refl _ | apply Drawn0.step)⟩
    ·
     rw [if_neg c4] at H; have c4b0 : decide (x5_1 < (a0.size : Int)) = false := decide_eq_false c4; clear c4
     (first | rw [c4b0] | (simp only [i64_w, i32_w]; rw [c4b0]) | skip)
     have H' := aS H
     clear H
     go_wp2
     repeat (go_quiet (fail); try go_wp2)
     go_meet
     case rel => exact ⟨_, (false), srf, H', ⟨by have := HK1.out; first | omega | exact Nat.le_refl _⟩, by repeat (first | exact Drawn0.refl _ | apply Drawn0.step)⟩
   case rest =>
    clear HC3; obtain ⟨kq, x15_2, rfl, HA, HJ2, ⟨mc2, rfl⟩⟩ := hcut
    cases kq with
    | zero => exact absurd HA.out (by simp [shardlogref08_Text.j1])
    | succ kj2 =>
     have H := HA.out; clear HA
     simp only [shardlogref08_Text.j1] at H
     by_cases c5 : x15_2 = true
     ·
      subst c5
      replace H := ifT H
      by_cases c6 : 0 ≤ x5_1
      ·
       rw [if_pos c6] at H; have c6b0 : decide (0 ≤ x5_1) = true := decide_eq_true c6; clear c6
       by_cases c7 : x5_1 < (a0.size : Int)
       ·
        rw [if_pos c7] at H; have c7b0 : decide (x5_1 < (a0.size : Int)) = true := decide_eq_true c7; clear c7
        by_cases c9 : x5_1 < (a1.size : Int)
        ·
         rw [if_pos c9] at H; have c9b0 : decide (x5_1 < (a1.size : Int)) = true := decide_eq_true c9; clear c9
         by_cases c11 : (bt a0 x5_1) < (bt a1 x5_1)
         ·
          rw [if_pos c11] at H; have c11b0 : decide ((bt a0 x5_1) < (bt a1 x5_1)) = true := decide_eq_true c11; clear c11
          obtain rfl := Option.some.inj H
          have p8 : 0 ≤ (x5_1 : Int) := oda; have q8 : x5_1 < (a0.size : Int) := oda; have hx8 := bt_at a0 x5_1; replace p8 := eq_true p8; replace q8 := eq_true q8; have p10 : 0 ≤ (x5_1 : Int) := oda; have q10 : x5_1 < (a1.size : Int) := oda; have hx10 := bt_at a1 x5_1; replace p10 := eq_true p10; replace q10 := eq_true q10
          go_wp2
          repeat (go_quiet (fail); try go_wp2)
          go_ret
          exact ⟨by first | rfl | (simp; done) | (simp [*]; done) | (simp; exact (by decide : ∀ a_ b_ : Bool, (a_ == b_) = (!a_ != b_)) _ _), by repeat (first | exact Drawn0.refl _ | apply Drawn0.step)⟩
         ·
          rw [if_neg c11] at H; have c11b0 : decide ((bt a0 x5_1) < (bt a1 x5_1)) = false := decide_eq_false c11; clear c11
          by_cases c14 : (bt a0 x5_1) > (bt a1 x5_1)
          ·
           rw [if_pos c14] at H; have c14b0 : decide ((bt a1 x5_1) < (bt a0 x5_1)) = true := decide_eq_true c14; clear c14
           obtain rfl := Option.some.inj H
           have p8 : 0 ≤ (x5_1 : Int) := oda; have q8 : x5_1 < (a0.size : Int) := oda; have hx8 := bt_at a0 x5_1; replace p8 := eq_true p8; replace q8 := eq_true q8; have p10 : 0 ≤ (x5_1 : Int) := oda; have q10 : x5_1 < (a1.size : Int) := oda; have hx10 := bt_at a1 x5_1; replace p10 := eq_true p10; replace q10 := eq_true q10; have p12 : 0 ≤ (x5_1 : Int) := oda; have q12 : x5_1 < (a0.size : Int) := oda; have hx12 := bt_at a0 x5_1; replace p12 := eq_true p12; replace q12 := eq_true q12; have p13 : 0 ≤ (x5_1 : Int) := oda; have q13 : x5_1 < (a1.size : Int) := oda; have hx13 := bt_at a1 x5_1; replace p13 := eq_true p13; replace q13 := eq_true q13
           go_wp2
           repeat (go_quiet (fail); try go_wp2)
           go_ret
           exact ⟨by first | rfl | (simp; done) | (simp [*]; done) | (simp; exact (by decide : ∀ a_ b_ : Bool, (a_ == b_) = (!a_ != b_)) _ _), by repeat (first | exact Drawn0.refl _ | apply Drawn0.step)⟩
          ·
           rw [if_neg c14] at H; have c14b0 : decide ((bt a1 x5_1) < (bt a0 x5_1)) = false := decide_eq_false c14; clear c14
           have H' := aS H
           clear H; have p8 : 0 ≤ (x5_1 : Int) := oda; have q8 : x5_1 < (a0.size : Int) := oda; have hx8 := bt_at a0 x5_1; replace p8 := eq_true p8; replace q8 := eq_true q8; have p10 : 0 ≤ (x5_1 : Int) := oda; have q10 : x5_1 < (a1.size : Int) := oda; have hx10 := bt_at a1 x5_1; replace p10 := eq_true p10; replace q10 := eq_true q10; have p12 : 0 ≤ (x5_1 : Int) := oda; have q12 : x5_1 < (a0.size : Int) := oda; have hx12 := bt_at a0 x5_1; replace p12 := eq_true p12; replace q12 := eq_true q12; have p13 : 0 ≤ (x5_1 : Int) := oda; have q13 : x5_1 < (a1.size : Int) := oda; have hx13 := bt_at a1 x5_1; replace p13 := eq_true p13; replace q13 := eq_true q13
           go_wp2
           repeat (go_quiet (fail); try go_wp2)
           go_roundg kj2
           case measure => have := HK1.out; have := HJ2.out; omega
           case rel => exact ⟨(wrap64 (x5_1 + 1)), srf, H', ⟨by have := HK1.out; have := HJ2.out; omega⟩, by repeat (first | exact Drawn0.refl _ | apply Drawn0.step)⟩
        ·
         rw [if_neg c9] at H; exact absurd H (by simp)
       ·
        rw [if_neg c7] at H; exact absurd H (by simp)
      ·
       rw [if_neg c6] at H; exact absurd H (by simp)
     ·
      replace c5 := Bool.eq_false_iff.mpr c5; subst c5
      replace H := ifF H
      by_cases c15 : (a0.size : Int) < (a1.size : Int)
      ·
       rw [if_pos c15] at H; have c15b0 : decide ((a0.size : Int) < (a1.size : Int)) = true := decide_eq_true c15; have c15b1 : decide (a0.size < a1.size) = true := decide_eq_true (Int.ofNat_lt.mp c15); clear c15
       obtain rfl := Option.some.inj H
       go_wp2
       repeat (go_quiet (fail); try go_wp2)
       go_ret
       exact ⟨by first | rfl | (simp; done) | (simp [*]; done) | (simp; exact (by decide : ∀ a_ b_ : Bool, (a_ == b_) = (!a_ != b_)) _ _), by repeat (first | exact Drawn0.refl _ | apply Drawn0.step)⟩
      ·
       rw [if_neg c15] at H; have c15b0 : decide ((a0.size : Int) < (a1.size : Int)) = false := decide_eq_false c15; have c15b1 : decide (a0.size < a1.size) = false := decide_eq_false (fun h => c15 (Int.ofNat_lt.mpr h)); clear c15
       by_cases c16 : (a0.size : Int) > (a1.size : Int)
       ·
        rw [if_pos c16] at H; have c16b0 : decide ((a1.size : Int) < (a0.size : Int)) = true := decide_eq_true c16; have c16b1 : decide (a1.size < a0.size) = true := decide_eq_true (Int.ofNat_lt.mp c16); clear c16
        obtain rfl := Option.some.inj H
        go_wp2
        repeat (go_quiet (fail); try go_wp2)
        go_ret
        exact ⟨by first | rfl | (simp; done) | (simp [*]; done) | (simp; exact (by decide : ∀ a_ b_ : Bool, (a_ == b_) = (!a_ != b_)) _ _), by repeat (first | exact Drawn0.refl _ | apply Drawn0.step)⟩
       ·
        rw [if_neg c16] at H; have c16b0 : decide ((a1.size : Int) < (a0.size : Int)) = false := decide_eq_false c16; have c16b1 : decide (a1.size < a0.size) = false := decide_eq_false (fun h => c16 (Int.ofNat_lt.mpr h)); clear c16
        obtain rfl := Option.some.inj H
        go_wp2
        repeat (go_quiet (fail); try go_wp2)
        go_ret
        exact ⟨by first | rfl | (simp; done) | (simp [*]; done) | (simp; exact (by decide : ∀ a_ b_ : Bool, (a_ == b_) = (!a_ != b_)) _ _), by repeat (first | exact Drawn0.refl _ | apply Drawn0.step)⟩

/-! ### shardlogref08_Compare: function 32 -/
def shardlogref08_Compare.f (k : Nat) (a0_0 : ByteArray) (a0_1 : ByteArray) (a0_2 : Int) (a0_3 : ByteArray) (a0_4 : Bool) (a1_0 : ByteArray) (a1_1 : ByteArray) (a1_2 : Int) (a1_3 : ByteArray) (a1_4 : Bool) : Option (Int) := if a0_0.toList = a1_0.toList then (if a0_1.toList = a1_1.toList then (if a0_2 > a1_2 then (some (-1)) else (if a0_2 < a1_2 then (some 1) else (some 0))) else ((shardlogref08_Text.f k a0_1 a1_1).bind fun t506 => (some t506))) else ((shardlogref08_Text.f k a0_0 a1_0).bind fun t505 => (some t505))
theorem shardlogref08_Compare.mono : ∀ a0 a1 a2 a3 a4 a5 a6 a7 a8 a9 k, LeO (shardlogref08_Compare.f k a0 a1 a2 a3 a4 a5 a6 a7 a8 a9) (shardlogref08_Compare.f (k + 1) a0 a1 a2 a3 a4 a5 a6 a7 a8 a9) := by
 intro a0 a1 a2 a3 a4 a5 a6 a7 a8 a9 k
 unfold shardlogref08_Compare.f
 have m0 := @shardlogref08_Text.mono; exact lmo
set_option maxHeartbeats 8000000 in
set_option maxRecDepth 100000 in
theorem shardlogref08_Compare.calls (k : Nat) (a0_0 : ByteArray) (a0_1 : ByteArray) (a0_2 : Int) (a0_3 : ByteArray) (a0_4 : Bool) (a1_0 : ByteArray) (a1_1 : ByteArray) (a1_2 : Int) (a1_3 : ByteArray) (a1_4 : Bool) (r : Int) (w : World) (h : shardlogref08_Compare.f k a0_0 a0_1 a0_2 a0_3 a0_4 a1_0 a1_1 a1_2 a1_3 a1_4 = some r) :
  Calls Try.prog 32 #[.agg #[.string a0_0, .string a0_1, .int .i64 a0_2, .string a0_3, .bool a0_4], .agg #[.string a1_0, .string a1_1, .int .i64 a1_2, .string a1_3, .bool a1_4]] w fun e w' => e = .returned (.int .i64 r) ∧ Below w.heap.size w w' := by
 have hu42 := Try.underlying42; have HB := aS (Below.refl w.heap.size w); have H : (if a0_0.toList = a1_0.toList then (if a0_1.toList = a1_1.toList then (if a0_2 > a1_2 then (some (-1)) else (if a0_2 < a1_2 then (some 1) else (some 0))) else ((shardlogref08_Text.f k a0_1 a1_1).bind fun t506 => (some t506))) else ((shardlogref08_Text.f k a0_0 a1_0).bind fun t505 => (some t505))) = some r := h; clear h
 by_cases c3 : a0_0.toList = a1_0.toList
 ·
  rw [if_pos c3] at H; obtain ⟨c3b0, c3b1⟩ := eqT c3; clear c3
  by_cases c4 : a0_1.toList = a1_1.toList
  ·
   rw [if_pos c4] at H; obtain ⟨c4b0, c4b1⟩ := eqT c4; clear c4
   by_cases c5 : a0_2 > a1_2
   ·
    rw [if_pos c5] at H; have c5b0 : decide (a1_2 < a0_2) = true := decide_eq_true c5; clear c5
    obtain rfl := Option.some.inj H
    go_enter Try.func32, Try.ntmps32
    go_wp2_with (first | ((with_reducible refine gate_dst (N := 2) rfl ?_); refine box_event ?hg (N := 2) ?hd (cs := #[.string a0_0, .string a0_1, .int .i64 a0_2, .string a0_3, .bool a0_4]) (t := 42) ?hr ?_; (case hd => rfl); (case hg => rfl); (case hr => first | (go_simp; done) | (go_simp; rfl)); intro gb503 hg w6 hbox hb; have BK503 := aS (hbox); have GW503 := bsize hg; have GE503 := bsize hg; replace HB := bstep hb; clear hb hbox hg) | ((with_reducible refine gate_dst (N := 3) rfl ?_); refine box_event ?hg (N := 3) ?hd (cs := #[.string a1_0, .string a1_1, .int .i64 a1_2, .string a1_3, .bool a1_4]) (t := 42) ?hr ?_; (case hd => rfl); (case hg => rfl); (case hr => first | (go_simp; done) | (go_simp; rfl)); intro gb504 hg w7 hbox hb; have BK504 := aS (hbox); have GW504 := bsize hg; have GE504 := bsize hg; replace HB := bstep hb; have NB503_504 := aS ((by rw [hg]; exact Nat.ne_of_lt (blk_lt (g := gb503) (o := .cells #[.string a0_0, .string a0_1, .int .i64 a0_2, .string a0_3, .bool a0_4] 42 (0, 0)) (bkl BK503.out)) : gb503 ≠ gb504)); have NB504_503 := aS ((by rw [hg]; exact Nat.ne_of_gt (blk_lt (g := gb503) (o := .cells #[.string a0_0, .string a0_1, .int .i64 a0_2, .string a0_3, .bool a0_4] 42 (0, 0)) (bkl BK503.out)) : gb504 ≠ gb503)); replace BK503 := bbl BK503 hb; clear hb hbox hg; have hnb8 := NB503_504.out; have hnc8 := NB504_503.out; have hcz9 := cK5 BK503; have hcz10 := cK5 BK504))
    go_ret
    exact ⟨rf3, bel⟩
   ·
    rw [if_neg c5] at H; have c5b0 : decide (a1_2 < a0_2) = false := decide_eq_false c5; clear c5
    by_cases c11 : a0_2 < a1_2
    ·
     rw [if_pos c11] at H; have c11b0 : decide (a0_2 < a1_2) = true := decide_eq_true c11; clear c11
     obtain rfl := Option.some.inj H
     go_enter Try.func32, Try.ntmps32
     go_wp2_with (first | ((with_reducible refine gate_dst (N := 2) rfl ?_); refine box_event ?hg (N := 2) ?hd (cs := #[.string a0_0, .string a0_1, .int .i64 a0_2, .string a0_3, .bool a0_4]) (t := 42) ?hr ?_; (case hd => rfl); (case hg => rfl); (case hr => first | (go_simp; done) | (go_simp; rfl)); intro gb503 hg w12 hbox hb; have BK503 := aS (hbox); have GW503 := bsize hg; have GE503 := bsize hg; replace HB := bstep hb; clear hb hbox hg) | ((with_reducible refine gate_dst (N := 3) rfl ?_); refine box_event ?hg (N := 3) ?hd (cs := #[.string a1_0, .string a1_1, .int .i64 a1_2, .string a1_3, .bool a1_4]) (t := 42) ?hr ?_; (case hd => rfl); (case hg => rfl); (case hr => first | (go_simp; done) | (go_simp; rfl)); intro gb504 hg w13 hbox hb; have BK504 := aS (hbox); have GW504 := bsize hg; have GE504 := bsize hg; replace HB := bstep hb; have NB503_504 := aS ((by rw [hg]; exact Nat.ne_of_lt (blk_lt (g := gb503) (o := .cells #[.string a0_0, .string a0_1, .int .i64 a0_2, .string a0_3, .bool a0_4] 42 (0, 0)) (bkl BK503.out)) : gb503 ≠ gb504)); have NB504_503 := aS ((by rw [hg]; exact Nat.ne_of_gt (blk_lt (g := gb503) (o := .cells #[.string a0_0, .string a0_1, .int .i64 a0_2, .string a0_3, .bool a0_4] 42 (0, 0)) (bkl BK503.out)) : gb504 ≠ gb503)); replace BK503 := bbl BK503 hb; clear hb hbox hg; have hnb14 := NB503_504.out; have hnc14 := NB504_503.out; have hcz15 := cK5 BK503; have hcz16 := cK5 BK504))
     go_ret
     exact ⟨rf3, bel⟩
    ·
     rw [if_neg c11] at H; have c11b0 : decide (a0_2 < a1_2) = false := decide_eq_false c11; clear c11
     obtain rfl := Option.some.inj H
     go_enter Try.func32, Try.ntmps32
     go_wp2_with (first | ((with_reducible refine gate_dst (N := 2) rfl ?_); refine box_event ?hg (N := 2) ?hd (cs := #[.string a0_0, .string a0_1, .int .i64 a0_2, .string a0_3, .bool a0_4]) (t := 42) ?hr ?_; (case hd => rfl); (case hg => rfl); (case hr => first | (go_simp; done) | (go_simp; rfl)); intro gb503 hg w17 hbox hb; have BK503 := aS (hbox); have GW503 := bsize hg; have GE503 := bsize hg; replace HB := bstep hb; clear hb hbox hg) | ((with_reducible refine gate_dst (N := 3) rfl ?_); refine box_event ?hg (N := 3) ?hd (cs := #[.string a1_0, .string a1_1, .int .i64 a1_2, .string a1_3, .bool a1_4]) (t := 42) ?hr ?_; (case hd => rfl); (case hg => rfl); (case hr => first | (go_simp; done) | (go_simp; rfl)); intro gb504 hg w18 hbox hb; have BK504 := aS (hbox); have GW504 := bsize hg; have GE504 := bsize hg; replace HB := bstep hb; have NB503_504 := aS ((by rw [hg]; exact Nat.ne_of_lt (blk_lt (g := gb503) (o := .cells #[.string a0_0, .string a0_1, .int .i64 a0_2, .string a0_3, .bool a0_4] 42 (0, 0)) (bkl BK503.out)) : gb503 ≠ gb504)); have NB504_503 := aS ((by rw [hg]; exact Nat.ne_of_gt (blk_lt (g := gb503) (o := .cells #[.string a0_0, .string a0_1, .int .i64 a0_2, .string a0_3, .bool a0_4] 42 (0, 0)) (bkl BK503.out)) : gb504 ≠ gb503)); replace BK503 := bbl BK503 hb; clear hb hbox hg; have hnb19 := NB503_504.out; have hnc19 := NB504_503.out; have hcz20 := cK5 BK503; have hcz21 := cK5 BK504))
     go_ret
     exact ⟨rf3, bel⟩
  ·
   rw [if_neg c4] at H; obtain ⟨c4b0, c4b1⟩ := eqF c4; replace H := obm H; obtain ⟨t506, A220, H⟩ := H; have A22 := aS A220; clear A220
   obtain rfl := Option.some.inj H
   go_enter Try.func32, Try.ntmps32
   go_wp2_with (first | ((with_reducible refine gate_dst (N := 2) rfl ?_); refine box_event ?hg (N := 2) ?hd (cs := #[.string a0_0, .string a0_1, .int .i64 a0_2, .string a0_3, .bool a0_4]) (t := 42) ?hr ?_; (case hd => rfl); (case hg => rfl); (case hr => first | (go_simp; done) | (go_simp; rfl)); intro gb503 hg w23 hbox hb; have BK503 := aS (hbox); have GW503 := bsize hg; have GE503 := bsize hg; replace HB := bstep hb; clear hb hbox hg) | ((with_reducible refine gate_dst (N := 3) rfl ?_); refine box_event ?hg (N := 3) ?hd (cs := #[.string a1_0, .string a1_1, .int .i64 a1_2, .string a1_3, .bool a1_4]) (t := 42) ?hr ?_; (case hd => rfl); (case hg => rfl); (case hr => first | (go_simp; done) | (go_simp; rfl)); intro gb504 hg w24 hbox hb; have BK504 := aS (hbox); have GW504 := bsize hg; have GE504 := bsize hg; replace HB := bstep hb; have NB503_504 := aS ((by rw [hg]; exact Nat.ne_of_lt (blk_lt (g := gb503) (o := .cells #[.string a0_0, .string a0_1, .int .i64 a0_2, .string a0_3, .bool a0_4] 42 (0, 0)) (bkl BK503.out)) : gb503 ≠ gb504)); have NB504_503 := aS ((by rw [hg]; exact Nat.ne_of_gt (blk_lt (g := gb503) (o := .cells #[.string a0_0, .string a0_1, .int .i64 a0_2, .string a0_3, .bool a0_4] 42 (0, 0)) (bkl BK503.out)) : gb504 ≠ gb503)); replace BK503 := bbl BK503 hb; clear hb hbox hg; have hnb25 := NB503_504.out; have hnc25 := NB504_503.out; have hcz26 := cK5 BK503; have hcz27 := cK5 BK504) | ((with_reducible refine gate_callee (f := 56) rfl ?_); refine goesL_ (some 24) rfl rfl Try.func56 (by kernel_rfl) rfl #[.string a0_1, .string a1_1] rfl agn ?_; (with_reducible refine (shardlogref08_Text.calls k a0_1 a1_1 t506 _ A22.out).mono ?_); rintro e w' ⟨rfl, ⟨nd, rfl⟩⟩; refine ⟨_, rfl, ?_⟩))
   go_ret
   exact ⟨rf3, bel⟩
 ·
  rw [if_neg c3] at H; obtain ⟨c3b0, c3b1⟩ := eqF c3; replace H := obm H; obtain ⟨t505, A280, H⟩ := H; have A28 := aS A280; clear A280
  obtain rfl := Option.some.inj H
  go_enter Try.func32, Try.ntmps32
  go_wp2_with (first | ((with_reducible refine gate_dst (N := 2) rfl ?_); refine box_event ?hg (N := 2) ?hd (cs := #[.string a0_0, .string a0_1, .int .i64 a0_2, .string a0_3, .bool a0_4]) (t := 42) ?hr ?_; (case hd => rfl); (case hg => rfl); (case hr => first | (go_simp; done) | (go_simp; rfl)); intro gb503 hg w29 hbox hb; have BK503 := aS (hbox); have GW503 := bsize hg; have GE503 := bsize hg; replace HB := bstep hb; clear hb hbox hg) | ((with_reducible refine gate_dst (N := 3) rfl ?_); refine box_event ?hg (N := 3) ?hd (cs := #[.string a1_0, .string a1_1, .int .i64 a1_2, .string a1_3, .bool a1_4]) (t := 42) ?hr ?_; (case hd => rfl); (case hg => rfl); (case hr => first | (go_simp; done) | (go_simp; rfl)); intro gb504 hg w30 hbox hb; have BK504 := aS (hbox); have GW504 := bsize hg; have GE504 := bsize hg; replace HB := bstep hb; have NB503_504 := aS ((by rw [hg]; exact Nat.ne_of_lt (blk_lt (g := gb503) (o := .cells #[.string a0_0, .string a0_1, .int .i64 a0_2, .string a0_3, .bool a0_4] 42 (0, 0)) (bkl BK503.out)) : gb503 ≠ gb504)); have NB504_503 := aS ((by rw [hg]; exact Nat.ne_of_gt (blk_lt (g := gb503) (o := .cells #[.string a0_0, .string a0_1, .int .i64 a0_2, .string a0_3, .bool a0_4] 42 (0, 0)) (bkl BK503.out)) : gb504 ≠ gb503)); replace BK503 := bbl BK503 hb; clear hb hbox hg; have hnb31 := NB503_504.out; have hnc31 := NB504_503.out; have hcz32 := cK5 BK503; have hcz33 := cK5 BK504) | ((with_reducible refine gate_callee (f := 56) rfl ?_); refine goesL_ (some 14) rfl rfl Try.func56 (by kernel_rfl) rfl #[.string a0_0, .string a1_0] rfl agn ?_; (with_reducible refine (shardlogref08_Text.calls k a0_0 a1_0 t505 _ A28.out).mono ?_); rintro e w' ⟨rfl, ⟨nd, rfl⟩⟩; refine ⟨_, rfl, ?_⟩))
  go_ret
  exact ⟨rf3, bel⟩

end Go.Proofs.Ytinhpolmanccgaa.X
