-- written by a program of this session's, over the kit's print
import Derived.Test.YtclmooadpoojeaaXx0
import Derived.Test.YtclmooadpoojeaaXx7
namespace Go.Proofs.Ytclmooadpoojeaa.X
open Go.RowKit Go.Proofs.YtclmooadpoojeaaW.PrintWords Go.Proofs.YtclmooadpoojeaaW.PrintLast Go.Proofs.YtclmooadpoojeaaW.PrintMore
attribute [local go_sem] max2_int min2_int max_two min_two max_three min_three max_four min_four gtr_str   -- for this text's walks alone
set_option linter.unusedVariables false
set_option linter.unusedSimpArgs false

/-! ### shardlogref08_Sorted: function 12 -/
mutual
def shardlogref08_Sorted.l0 : Nat → List (S46) → Int → Option (Bool)
 | 0, _, _ => none
 | k + 1, x0, x3 => if x3 < (x0.length : Int) then (if 0 ≤ x3 then ((shardlogref08_Right.f ((rd_T46 x0 x3).f0) ((rd_T46 x0 x3).f1) ((rd_T46 x0 x3).f2) ((rd_T46 x0 x3).f3) ((rd_T46 x0 x3).f4)).bind fun t400 => (if t400 = true then (if x3 > 0 then (if 0 ≤ (wrap64 (x3 - 1)) then (if (wrap64 (x3 - 1)) < (x0.length : Int) then ((shardlogref08_Compare.f k ((rd_T46 x0 (wrap64 (x3 - 1))).f0) ((rd_T46 x0 (wrap64 (x3 - 1))).f1) ((rd_T46 x0 (wrap64 (x3 - 1))).f2) ((rd_T46 x0 (wrap64 (x3 - 1))).f3) ((rd_T46 x0 (wrap64 (x3 - 1))).f4) ((rd_T46 x0 x3).f0) ((rd_T46 x0 x3).f1) ((rd_T46 x0 x3).f2) ((rd_T46 x0 x3).f3) ((rd_T46 x0 x3).f4)).bind fun t403 => (shardlogref08_Sorted.j1 k x0 x3 (t403 != (-1)))) else (none)) else (none)) else (shardlogref08_Sorted.j1 k x0 x3 false)) else (shardlogref08_Sorted.j1 k x0 x3 true))) else (none)) else (some true)
def shardlogref08_Sorted.j1 : Nat → List (S46) → Int → Bool → Option (Bool)
 | 0, _, _, _ => none
 | k + 1, x0, x3, x32 => if x32 = true then (some false) else (shardlogref08_Sorted.l0 k x0 (wrap64 (x3 + 1)))
end
def shardlogref08_Sorted.f (k : Nat) (l0 : List (S46)) : Option (Bool) := shardlogref08_Sorted.l0 k l0 0
theorem shardlogref08_Sorted.mono_l : ∀ k, (∀ y0 y1, LeO (shardlogref08_Sorted.l0 k y0 y1) (shardlogref08_Sorted.l0 (k + 1) y0 y1)) ∧ (∀ y0 y1 y2, LeO (shardlogref08_Sorted.j1 k y0 y1 y2) (shardlogref08_Sorted.j1 (k + 1) y0 y1 y2))
 | 0 => ⟨fun _ _ r h => by simp [shardlogref08_Sorted.l0] at h, fun _ _ _ r h => by simp [shardlogref08_Sorted.j1] at h⟩
 | k + 1 => by
  obtain ⟨ih0, ih1⟩ := shardlogref08_Sorted.mono_l k
  refine ⟨?_, ?_⟩
  ·
   intro y0 y1
   unfold shardlogref08_Sorted.l0
   repeat' first
   | (with_reducible exact ih0 _ _)
   | (with_reducible exact ih1 _ _ _)
   | (with_reducible exact shardlogref08_Compare.mono _ _ _ _ _ _ _ _ _ _ _)
   | (with_reducible exact LeO.refl _)
   | (with_reducible exact LeO.none _)
   | (with_reducible refine LeO.ite ?_ ?_)
   | (with_reducible refine LeO.bind ?_ (fun _ => ?_))
   | exact ih0 _ _
   | exact ih1 _ _ _
   | exact shardlogref08_Compare.mono _ _ _ _ _ _ _ _ _ _ _
   | exact LeO.none _
   | refine LeO.ite ?_ ?_
   | refine LeO.bind ?_ (fun _ => ?_)
  ·
   intro y0 y1 y2
   unfold shardlogref08_Sorted.j1
   repeat' first
   | (with_reducible exact ih0 _ _)
   | (with_reducible exact ih1 _ _ _)
   | (with_reducible exact shardlogref08_Compare.mono _ _ _ _ _ _ _ _ _ _ _)
   | (with_reducible exact LeO.refl _)
   | (with_reducible exact LeO.none _)
   | (with_reducible refine LeO.ite ?_ ?_)
   | (with_reducible refine LeO.bind ?_ (fun _ => ?_))
   | exact ih0 _ _
   | exact ih1 _ _ _
   | exact shardlogref08_Compare.mono _ _ _ _ _ _ _ _ _ _ _
   | exact LeO.none _
   | refine LeO.ite ?_ ?_
   | refine LeO.bind ?_ (fun _ => ?_)
theorem shardlogref08_Sorted.mono : ∀ a0 k, LeO (shardlogref08_Sorted.f k a0) (shardlogref08_Sorted.f (k + 1) a0) := by
 intro a0 k
 obtain ⟨ih0, ih1⟩ := shardlogref08_Sorted.mono_l k
 unfold shardlogref08_Sorted.f
 repeat' first
   | (with_reducible exact ih0 _ _)
   | (with_reducible exact ih1 _ _ _)
   | (with_reducible exact shardlogref08_Compare.mono _ _ _ _ _ _ _ _ _ _ _)
   | (with_reducible exact LeO.refl _)
   | (with_reducible exact LeO.none _)
   | (with_reducible refine LeO.ite ?_ ?_)
   | (with_reducible refine LeO.bind ?_ (fun _ => ?_))
   | exact ih0 _ _
   | exact ih1 _ _ _
   | exact shardlogref08_Compare.mono _ _ _ _ _ _ _ _ _ _ _
   | exact LeO.none _
   | refine LeO.ite ?_ ?_
   | refine LeO.bind ?_ (fun _ => ?_)
def shardlogref08_Sorted.T4 : Bool × List (List Nat × List Nat) := (true, [([], []), ([], []), ([0, 1], [0, 1]), ([2], [2]), ([3], [3]), ([4], [4]), ([5, 4], [5]), ([6], [6]), ([7, 6], [6, 7]), ([8, 6, 6], [6, 8]), ([9], [9]), ([9], [9]), ([11, 9], [9, 11]), ([10, 12, 9], [9, 10, 12]), ([13, 9], [9, 13]), ([9], [9]), ([9], [9]), ([15, 16, 9], [9, 15, 16]), ([17, 9], [9, 17]), ([14, 18, 9, 9], [9, 14, 18]), ([19, 9], [9, 19]), ([9, 20, 6], [6, 9, 20]), ([6, 21], [6, 21])])
def shardlogref08_Sorted.B4 : List Nat := [0, 0, 3, 7, 15, 31, 63, 127, 255, 511, 1023, 1023, 3071, 8191, 16383, 1023, 1023, 99327, 230399, 524287, 1048575, 2097151, 4194303]
theorem shardlogref08_Sorted.tab4 : rtab .any (opsOf Try.f12 4) = shardlogref08_Sorted.T4 := by kernel_rfl
theorem shardlogref08_Sorted.bits4 : waitsOk shardlogref08_Sorted.T4.2 shardlogref08_Sorted.B4 = true := by kernel_rfl
set_option maxHeartbeats 8000000 in
set_option maxRecDepth 100000 in
theorem shardlogref08_Sorted.calls (k : Nat) (A0 : Option Addr) (c0 : Nat) (l0 : List (S46)) (r : Bool) (w : World) (hr0 : Kd.C k46 w A0 l0.length l0) (hc0 : l0.length ≤ c0) (h : shardlogref08_Sorted.f k l0 = some r) :
  Calls Try.prog 12 #[.slice A0 l0.length c0] w fun e w' => e = .returned (.bool r) ∧ Below w.heap.size w w' := by
 have hu46 := Try.underlying46
 have HR0 := aS hr0
 have HC0 := aS hc0
 clear hr0 hc0
 have HB := aS (Below.refl w.heap.size w)
 have H : (shardlogref08_Sorted.l0 k l0 0) = some r := h
 clear h
 have H' := aS H
 clear H
 go_enter Try.func12, Try.ntmps12
 go_wp2
 go_loopg [3] k (fun kq v3 w' => ∃ (x3_1 : Int), v3 = .int .i64 x3_1 ∧ Aside0 (shardlogref08_Sorted.l0 kq l0 x3_1 = some r) ∧ Aside0 (kq ≤ k) ∧ Aside0 (Below w.heap.size w w'))
 case atStart => exact ⟨(0), (by first | rfl | (simp; done) | (simp [*]; done) | (simp; exact (by decide : ∀ a_ b_ : Bool, (a_ == b_) = (!a_ != b_)) _ _)), H', ⟨Nat.le_refl _⟩, ⟨by repeat (first | (with_reducible first | exact HB.out | apply bal | apply bdN | apply bdo) | exact HB.out)⟩⟩
 case round =>
  clear H'; (try clear c1)
  obtain ⟨x3_1, rfl, HA, HK1, HB⟩ := hrel
  cases gk with
  | zero => exact absurd HA.out (by simp [shardlogref08_Sorted.l0])
  | succ k1 =>
   have H := HA.out; clear HA
   simp only [shardlogref08_Sorted.l0] at H
   by_cases c2 : x3_1 < (l0.length : Int)
   ·
    rw [if_pos c2] at H
    have c2b0 : decide (x3_1 < (l0.length : Int)) = true := decide_eq_true c2
    clear c2
    have HC3 := aS H
    clear H
    go_upto_region 4 with (fail)
    go_cut [32] (fun v32 wc => ∃ (kq : Nat) (x32_2 : Bool), v32 = .bool x32_2 ∧ Aside0 (shardlogref08_Sorted.j1 kq l0 x3_1 x32_2 = some r) ∧ Aside0 (kq ≤ k1) ∧ Aside0 (Below w.heap.size w wc))
    case first =>
     have H := HC3.out; clear HC3
     by_cases c4 : 0 ≤ x3_1
     ·
      rw [if_pos c4] at H
      have c4b0 : decide (0 ≤ x3_1) = true := decide_eq_true c4
      clear c4
      (first | rw [c4b0] | (simp only [i64_w, i32_w]; rw [c4b0]) | skip)
      replace H := obm H
      obtain ⟨t400, A50, H⟩ := H
      replace H : (if t400 = true then (if x3_1 > 0 then (if 0 ≤ (wrap64 (x3_1 - 1)) then (if (wrap64 (x3_1 - 1)) < (l0.length : Int) then ((shardlogref08_Compare.f k1 ((rd_T46 l0 (wrap64 (x3_1 - 1))).f0) ((rd_T46 l0 (wrap64 (x3_1 - 1))).f1) ((rd_T46 l0 (wrap64 (x3_1 - 1))).f2) ((rd_T46 l0 (wrap64 (x3_1 - 1))).f3) ((rd_T46 l0 (wrap64 (x3_1 - 1))).f4) ((rd_T46 l0 x3_1).f0) ((rd_T46 l0 x3_1).f1) ((rd_T46 l0 x3_1).f2) ((rd_T46 l0 x3_1).f3) ((rd_T46 l0 x3_1).f4)).bind fun t403 => (shardlogref08_Sorted.j1 k1 l0 x3_1 (t403 != (-1)))) else (none)) else (none)) else (shardlogref08_Sorted.j1 k1 l0 x3_1 false)) else (shardlogref08_Sorted.j1 k1 l0 x3_1 true)) = some r := H
      have A5 := aS A50
      clear A50
      by_cases c6 : t400 = true
      ·
       subst c6
       have H1 : (if x3_1 > 0 then (if 0 ≤ (wrap64 (x3_1 - 1)) then (if (wrap64 (x3_1 - 1)) < (l0.length : Int) then ((shardlogref08_Compare.f k1 ((rd_T46 l0 (wrap64 (x3_1 - 1))).f0) ((rd_T46 l0 (wrap64 (x3_1 - 1))).f1) ((rd_T46 l0 (wrap64 (x3_1 - 1))).f2) ((rd_T46 l0 (wrap64 (x3_1 - 1))).f3) ((rd_T46 l0 (wrap64 (x3_1 - 1))).f4) ((rd_T46 l0 x3_1).f0) ((rd_T46 l0 x3_1).f1) ((rd_T46 l0 x3_1).f2) ((rd_T46 l0 x3_1).f3) ((rd_T46 l0 x3_1).f4)).bind fun t403 => (shardlogref08_Sorted.j1 k1 l0 x3_1 (t403 != (-1)))) else (none)) else (none)) else (shardlogref08_Sorted.j1 k1 l0 x3_1 false)) = some r := by rw [if_pos rfl] at H; exact H
       clear H; have H := H1; clear H1
       by_cases c7 : x3_1 > 0
       ·
        rw [if_pos c7] at H
        have c7b0 : decide (0 < x3_1) = true := decide_eq_true c7
        clear c7
        obtain ⟨ji8, hji8⟩ : ∃ j_ : Int, (wrap64 (x3_1 - 1)) = j_ := ⟨_, rfl⟩
        replace H : (if 0 ≤ (ji8) then (if (ji8) < (l0.length : Int) then ((shardlogref08_Compare.f k1 ((rd_T46 l0 (ji8)).f0) ((rd_T46 l0 (ji8)).f1) ((rd_T46 l0 (ji8)).f2) ((rd_T46 l0 (ji8)).f3) ((rd_T46 l0 (ji8)).f4) ((rd_T46 l0 x3_1).f0) ((rd_T46 l0 x3_1).f1) ((rd_T46 l0 x3_1).f2) ((rd_T46 l0 x3_1).f3) ((rd_T46 l0 x3_1).f4)).bind fun t403 => (shardlogref08_Sorted.j1 k1 l0 x3_1 (t403 != (-1)))) else (none)) else (none)) = some r := by first | (rw [hji8] at H; exact H) | (simp only [hji8] at H ⊢; exact H)
        (try rw [hji8] at A5)
        have hji8w : (IntKind.i64.wrap (x3_1 - 1)) = ji8 := (i64_w _).trans hji8
        by_cases c9 : 0 ≤ (ji8)
        ·
         rw [if_pos c9] at H
         have c9b0 : decide (0 ≤ (ji8)) = true := decide_eq_true c9
         clear c9
         by_cases c10 : (ji8) < (l0.length : Int)
         ·
          rw [if_pos c10] at H
          have c10b0 : decide ((ji8) < (l0.length : Int)) = true := decide_eq_true c10
          clear c10
          replace H := obm H
          obtain ⟨t403, A110, H⟩ := H
          replace H : (shardlogref08_Sorted.j1 k1 l0 x3_1 (t403 != (-1))) = some r := H
          have A11 := aS A110
          clear A110
          have H' := aS H
          clear H
          try go_wp2
          have n0_ := aS (bdo HB.out)
          clear HB
          have HB := n0_
          clear n0_
          have p399 : 0 ≤ (x3_1 : Int) := odt (by first | (with_reducible assumption) | assumption)
          have q399 : x3_1 < (l0.length : Int) := odt (by first | (with_reducible assumption) | assumption)
          obtain ⟨ad399, e399, hx399_0, hx399_1, hx399_2, hx399_3, hx399_4⟩ := at_T46 HR0.out x3_1 p399 q399
          have hw399_4 := hx399_4
          have hw399_3 := hx399_3
          have hw399_2 := hx399_2
          have hw399_1 := hx399_1
          have hw399_0 := hx399_0
          cases e399
          replace hx399_0 := (HB.out.cell (wbl w _ hx399_0)).trans hx399_0
          replace hx399_1 := (HB.out.cell (wbl w _ hx399_1)).trans hx399_1
          replace hx399_2 := (HB.out.cell (wbl w _ hx399_2)).trans hx399_2
          replace hx399_3 := (HB.out.cell (wbl w _ hx399_3)).trans hx399_3
          replace hx399_4 := (HB.out.cell (wbl w _ hx399_4)).trans hx399_4
          replace p399 := eq_true p399
          replace q399 := eq_true q399
          have p401 : 0 ≤ ((ji8) : Int) := odt (by first | (with_reducible assumption) | assumption)
          have q401 : (ji8) < (l0.length : Int) := odt (by first | (with_reducible assumption) | assumption)
          obtain ⟨ad401, e401, hx401_0, hx401_1, hx401_2, hx401_3, hx401_4⟩ := at_T46 HR0.out (ji8) p401 q401
          have hw401_4 := hx401_4
          have hw401_3 := hx401_3
          have hw401_2 := hx401_2
          have hw401_1 := hx401_1
          have hw401_0 := hx401_0
          obtain rfl : ad399 = ad401 := (by injection e401)
          replace hx401_0 := (HB.out.cell (wbl w _ hx401_0)).trans hx401_0
          replace hx401_1 := (HB.out.cell (wbl w _ hx401_1)).trans hx401_1
          replace hx401_2 := (HB.out.cell (wbl w _ hx401_2)).trans hx401_2
          replace hx401_3 := (HB.out.cell (wbl w _ hx401_3)).trans hx401_3
          replace hx401_4 := (HB.out.cell (wbl w _ hx401_4)).trans hx401_4
          replace p401 := eq_true p401
          replace q401 := eq_true q401
          have p402 : 0 ≤ (x3_1 : Int) := odt (by first | (with_reducible assumption) | assumption)
          have q402 : x3_1 < (l0.length : Int) := odt (by first | (with_reducible assumption) | assumption)
          obtain ⟨ad402, e402, hx402_0, hx402_1, hx402_2, hx402_3, hx402_4⟩ := at_T46 HR0.out x3_1 p402 q402
          have hw402_4 := hx402_4
          have hw402_3 := hx402_3
          have hw402_2 := hx402_2
          have hw402_1 := hx402_1
          have hw402_0 := hx402_0
          obtain rfl : ad399 = ad402 := (by injection e402)
          replace hx402_0 := (HB.out.cell (wbl w _ hx402_0)).trans hx402_0
          replace hx402_1 := (HB.out.cell (wbl w _ hx402_1)).trans hx402_1
          replace hx402_2 := (HB.out.cell (wbl w _ hx402_2)).trans hx402_2
          replace hx402_3 := (HB.out.cell (wbl w _ hx402_3)).trans hx402_3
          replace hx402_4 := (HB.out.cell (wbl w _ hx402_4)).trans hx402_4
          replace p402 := eq_true p402
          replace q402 := eq_true q402
          refine start_ (n := 23) (S := fun w' => w'.cell? (ad399.add ((x3_1).toNat * 5)) = some (.string ((rd_T46 l0 x3_1).f0)) ∧ w'.cell? ⟨(ad399.add ((x3_1).toNat * 5)).block, (ad399.add ((x3_1).toNat * 5)).off + 1, none⟩ = some (.string ((rd_T46 l0 x3_1).f1)) ∧ w'.cell? ⟨(ad399.add ((x3_1).toNat * 5)).block, (ad399.add ((x3_1).toNat * 5)).off + 2, none⟩ = some (.int .i64 ((rd_T46 l0 x3_1).f2)) ∧ w'.cell? ⟨(ad399.add ((x3_1).toNat * 5)).block, (ad399.add ((x3_1).toNat * 5)).off + 3, none⟩ = some (.string ((rd_T46 l0 x3_1).f3)) ∧ w'.cell? ⟨(ad399.add ((x3_1).toNat * 5)).block, (ad399.add ((x3_1).toNat * 5)).off + 4, none⟩ = some (.bool ((rd_T46 l0 x3_1).f4)) ∧ w'.cell? (ad399.add (((ji8)).toNat * 5)) = some (.string ((rd_T46 l0 (ji8)).f0)) ∧ w'.cell? ⟨(ad399.add (((ji8)).toNat * 5)).block, (ad399.add (((ji8)).toNat * 5)).off + 1, none⟩ = some (.string ((rd_T46 l0 (ji8)).f1)) ∧ w'.cell? ⟨(ad399.add (((ji8)).toNat * 5)).block, (ad399.add (((ji8)).toNat * 5)).off + 2, none⟩ = some (.int .i64 ((rd_T46 l0 (ji8)).f2)) ∧ w'.cell? ⟨(ad399.add (((ji8)).toNat * 5)).block, (ad399.add (((ji8)).toNat * 5)).off + 3, none⟩ = some (.string ((rd_T46 l0 (ji8)).f3)) ∧ w'.cell? ⟨(ad399.add (((ji8)).toNat * 5)).block, (ad399.add (((ji8)).toNat * 5)).off + 4, none⟩ = some (.bool ((rd_T46 l0 (ji8)).f4)) ∧ w'.cell? (ad399.add ((x3_1).toNat * 5)) = some (.string ((rd_T46 l0 x3_1).f0)) ∧ w'.cell? ⟨(ad399.add ((x3_1).toNat * 5)).block, (ad399.add ((x3_1).toNat * 5)).off + 1, none⟩ = some (.string ((rd_T46 l0 x3_1).f1)) ∧ w'.cell? ⟨(ad399.add ((x3_1).toNat * 5)).block, (ad399.add ((x3_1).toNat * 5)).off + 2, none⟩ = some (.int .i64 ((rd_T46 l0 x3_1).f2)) ∧ w'.cell? ⟨(ad399.add ((x3_1).toNat * 5)).block, (ad399.add ((x3_1).toNat * 5)).off + 3, none⟩ = some (.string ((rd_T46 l0 x3_1).f3)) ∧ w'.cell? ⟨(ad399.add ((x3_1).toNat * 5)).block, (ad399.add ((x3_1).toNat * 5)).off + 4, none⟩ = some (.bool ((rd_T46 l0 x3_1).f4))) (ds := []) #[false, false, false, false, false, false, false, false, false, false, false, false, false, false, false, false, false, false, false, false, false, false, false] (by kernel_rfl) rfl rfl ⟨((HB.out.cell (wbl w _ hw399_0)).trans hw399_0), ((HB.out.cell (wbl w _ hw399_1)).trans hw399_1), ((HB.out.cell (wbl w _ hw399_2)).trans hw399_2), ((HB.out.cell (wbl w _ hw399_3)).trans hw399_3), ((HB.out.cell (wbl w _ hw399_4)).trans hw399_4), ((HB.out.cell (wbl w _ hw401_0)).trans hw401_0), ((HB.out.cell (wbl w _ hw401_1)).trans hw401_1), ((HB.out.cell (wbl w _ hw401_2)).trans hw401_2), ((HB.out.cell (wbl w _ hw401_3)).trans hw401_3), ((HB.out.cell (wbl w _ hw401_4)).trans hw401_4), ((HB.out.cell (wbl w _ hw402_0)).trans hw402_0), ((HB.out.cell (wbl w _ hw402_1)).trans hw402_1), ((HB.out.cell (wbl w _ hw402_2)).trans hw402_2), ((HB.out.cell (wbl w _ hw402_3)).trans hw402_3), ((HB.out.cell (wbl w _ hw402_4)).trans hw402_4)⟩ (fun hHeld => ?_); refine with_tabW shardlogref08_Sorted.tab4 shardlogref08_Sorted.bits4 (fun HT_ HW_ => ?_)
          generalize wr.drew = w12 at HB hx399_0 hx399_1 hx399_2 hx399_3 hx399_4 hx401_0 hx401_1 hx401_2 hx401_3 hx401_4 hx402_0 hx402_1 hx402_2 hx402_3 hx402_4 hHeld ⊢
          refine pure_ (i := 0) (N := some 10) (v := ?_) (a' := ?_) #[true, false, false, false, false, false, false, false, false, false, false, false, false, false, false, false, false, false, false, false, false, false, false] rfl rfl (any_of HT_.out (by kernel_rfl)) (fun _ _ _ h => h) (Or.inl ⟨by rfl, ?_⟩) ?_ ?_
          rotate_left
          ·
           intro w'
           go_simp
           with_reducible rfl
          rotate_left
          ·
           simp only [Act.put, lsa, lsz, lss, i64_w, i32_w]
           rfl
          refine pure_ (i := 1) (N := some 11) (v := ?_) (a' := ?_) #[true, true, false, false, false, false, false, false, false, false, false, false, false, false, false, false, false, false, false, false, false, false, false] rfl rfl (any_of HT_.out (by kernel_rfl)) (fun _ _ _ h => h) (Or.inl ⟨by rfl, ?_⟩) ?_ ?_
          rotate_left
          ·
           intro w'
           go_simp
           with_reducible rfl
          rotate_left
          ·
           simp only [Act.put, lsa, lsz, lss, i64_w, i32_w]
           rfl
          refine pure_ (i := 2) (N := some 12) (v := ?_) (a' := ?_) #[true, true, true, false, false, false, false, false, false, false, false, false, false, false, false, false, false, false, false, false, false, false, false] rfl rfl (any_of HT_.out (by kernel_rfl)) (fun _ _ _ h => h) (Or.inl ⟨by rfl, ?_⟩) ?_ ?_
          rotate_left
          ·
           intro w'
           go_simp
           with_reducible rfl
          rotate_left
          ·
           simp only [Act.put, lsa, lsz, lss, i64_w, i32_w]
           rfl
          refine take_ (i := 3) (N := some 13) (v := ?_) (a' := ?_) #[true, true, true, true, false, false, false, false, false, false, false, false, false, false, false, false, false, false, false, false, false, false, false] rfl rfl (take_ofW HT_.out HW_.out (by kernel_rfl)) (fun _ _ _ h => h) (Or.inl ⟨by rfl, ?_⟩) hHeld ?_ ?_
          rotate_left
          ·
           rintro w' ⟨s0, s1, s2, s3, s4, s5, s6, s7, s8, s9, s10, s11, s12, s13, s14⟩
           go_simp
           with_reducible rfl
          rotate_left
          ·
           simp only [Act.put, lsa, lsz, lss, i64_w, i32_w]
           rfl
          refine one_ (i := 4) (N := some 14) #[true, true, true, true, true, false, false, false, false, false, false, false, false, false, false, false, false, false, false, false, false, false, false] rfl rfl (one_of HT_.out (by kernel_rfl)) (by decide) (fun K hK => ?_)
          refine goes_ Try.func21 (by kernel_rfl) rfl #[.agg #[.string ((rd_T46 l0 x3_1).f0), .string ((rd_T46 l0 x3_1).f1), .int .i64 ((rd_T46 l0 x3_1).f2), .string ((rd_T46 l0 x3_1).f3), .bool ((rd_T46 l0 x3_1).f4)]] (by rfl) rfl rfl (by (try simp only [List.map_toArray, List.map_cons, List.map_nil]); first | done | rfl | (simp only [lld, llt]; rfl)) ?_
          with_reducible refine (shardlogref08_Right.calls ((rd_T46 l0 x3_1).f0) ((rd_T46 l0 x3_1).f1) ((rd_T46 l0 x3_1).f2) ((rd_T46 l0 x3_1).f3) ((rd_T46 l0 x3_1).f4) true _ A5.out).mono ?_
          rintro e w13 ⟨rfl, hb⟩
          refine ⟨_, rfl, ?_⟩
          have n0_ := aS (below_step (by repeat (first | (with_reducible first | exact HB.out | apply bal | apply bdN | apply bdo) | exact HB.out)) hb)
          clear HB
          have HB := n0_
          clear n0_; (try clear hb); (try clear hb2); (try clear hk); (try clear hi)
          refine hK.out _ _ ⟨((HB.out.cell (wbl w _ hw399_0)).trans hw399_0), ((HB.out.cell (wbl w _ hw399_1)).trans hw399_1), ((HB.out.cell (wbl w _ hw399_2)).trans hw399_2), ((HB.out.cell (wbl w _ hw399_3)).trans hw399_3), ((HB.out.cell (wbl w _ hw399_4)).trans hw399_4), ((HB.out.cell (wbl w _ hw401_0)).trans hw401_0), ((HB.out.cell (wbl w _ hw401_1)).trans hw401_1), ((HB.out.cell (wbl w _ hw401_2)).trans hw401_2), ((HB.out.cell (wbl w _ hw401_3)).trans hw401_3), ((HB.out.cell (wbl w _ hw401_4)).trans hw401_4), ((HB.out.cell (wbl w _ hw402_0)).trans hw402_0), ((HB.out.cell (wbl w _ hw402_1)).trans hw402_1), ((HB.out.cell (wbl w _ hw402_2)).trans hw402_2), ((HB.out.cell (wbl w _ hw402_3)).trans hw402_3), ((HB.out.cell (wbl w _ hw402_4)).trans hw402_4)⟩ (fun hHeld => ?_)
          clear hK K
          refine norm_ (a' := ?_) ?_ ?_
          rotate_left
          ·
           show Act.put _ (some 14) _ = _
           simp only [Act.put, lsa, lsz, lss, i64_w, i32_w]
           rfl
          refine pure_ (i := 5) (N := some 15) (v := ?_) (a' := ?_) #[true, true, true, true, true, true, false, false, false, false, false, false, false, false, false, false, false, false, false, false, false, false, false] rfl rfl (any_of HT_.out (by kernel_rfl)) (fun _ _ _ h => h) (Or.inl ⟨by rfl, ?_⟩) ?_ ?_
          rotate_left
          ·
           intro w'
           go_simp
           with_reducible rfl
          rotate_left
          ·
           simp only [Act.put, lsa, lsz, lss, i64_w, i32_w]
           rfl
          refine pure_ (i := 6) (N := some 16) (v := ?_) (a' := ?_) #[true, true, true, true, true, true, true, false, false, false, false, false, false, false, false, false, false, false, false, false, false, false, false] rfl rfl (any_of HT_.out (by kernel_rfl)) (fun _ _ _ h => h) (Or.inl ⟨by rfl, ?_⟩) ?_ ?_
          rotate_left
          ·
           intro w'
           go_simp
           with_reducible rfl
          rotate_left
          ·
           simp only [Act.put, lsa, lsz, lss, i64_w, i32_w]
           rfl
          refine pure_ (i := 7) (N := some 17) (v := ?_) (a' := ?_) #[true, true, true, true, true, true, true, true, false, false, false, false, false, false, false, false, false, false, false, false, false, false, false] rfl rfl (any_of HT_.out (by kernel_rfl)) (fun _ _ _ h => h) (Or.inl ⟨by rfl, ?_⟩) ?_ ?_
          rotate_left
          ·
           intro w'
           go_simp
           with_reducible rfl
          rotate_left
          ·
           simp only [Act.put, lsa, lsz, lss, i64_w, i32_w]
           rfl
          refine pure_ (i := 8) (N := some 18) (v := ?_) (a' := ?_) #[true, true, true, true, true, true, true, true, true, false, false, false, false, false, false, false, false, false, false, false, false, false, false] rfl rfl (any_of HT_.out (by kernel_rfl)) (fun _ _ _ h => h) (Or.inl ⟨by rfl, ?_⟩) ?_ ?_
          rotate_left
          ·
           intro w'
           go_simp
           with_reducible rfl
          rotate_left
          ·
           simp only [Act.put, lsa, lsz, lss, i64_w, i32_w]
           rfl
          refine pure_ (i := 9) (N := some 19) (v := ?_) (a' := ?_) #[true, true, true, true, true, true, true, true, true, true, false, false, false, false, false, false, false, false, false, false, false, false, false] rfl rfl (any_of HT_.out (by kernel_rfl)) (fun _ _ _ h => h) (Or.inl ⟨by rfl, ?_⟩) ?_ ?_
          rotate_left
          ·
           intro w'
           go_simp
           with_reducible rfl
          rotate_left
          ·
           simp only [Act.put, lsa, lsz, lss, i64_w, i32_w]
           rfl
          refine pure_ (i := 10) (N := some 20) (v := ?_) (a' := ?_) #[true, true, true, true, true, true, true, true, true, true, true, false, false, false, false, false, false, false, false, false, false, false, false] rfl rfl (any_of HT_.out (by kernel_rfl)) (fun _ _ _ h => h) (Or.inl ⟨by rfl, ?_⟩) ?_ ?_
          rotate_left
          ·
           intro w'
           go_simp
           with_reducible rfl
          rotate_left
          ·
           simp only [Act.put, lsa, lsz, lss, i64_w, i32_w]
           rfl
          refine pure_ (i := 11) (N := some 21) (v := ?_) (a' := ?_) #[true, true, true, true, true, true, true, true, true, true, true, true, false, false, false, false, false, false, false, false, false, false, false] rfl rfl (any_of HT_.out (by kernel_rfl)) (fun _ _ _ h => h) (Or.inl ⟨by rfl, ?_⟩) ?_ ?_
          rotate_left
          ·
           intro w'
           go_simp
           with_reducible rfl
          rotate_left
          ·
           simp only [Act.put, lsa, lsz, lss, i64_w, i32_w]
           rfl
          refine pure_ (i := 12) (N := some 22) (v := ?_) (a' := ?_) #[true, true, true, true, true, true, true, true, true, true, true, true, true, false, false, false, false, false, false, false, false, false, false] rfl rfl (any_of HT_.out (by kernel_rfl)) (fun _ _ _ h => h) (Or.inl ⟨by rfl, ?_⟩) ?_ ?_
          rotate_left
          ·
           intro w'
           go_simp
           with_reducible rfl
          rotate_left
          ·
           simp only [Act.put, lsa, lsz, lss, i64_w, i32_w]
           rfl
          refine pure_ (i := 13) (N := some 23) (v := ?_) (a' := ?_) #[true, true, true, true, true, true, true, true, true, true, true, true, true, true, false, false, false, false, false, false, false, false, false] rfl rfl (any_of HT_.out (by kernel_rfl)) (fun _ _ _ h => h) (Or.inl ⟨by rfl, ?_⟩) ?_ ?_
          rotate_left
          ·
           intro w'
           go_simp
           with_reducible rfl
          rotate_left
          ·
           simp only [Act.put, lsa, lsz, lss, i64_w, i32_w]
           rfl
          refine pure_ (i := 15) (N := some 25) (v := ?_) (a' := ?_) #[true, true, true, true, true, true, true, true, true, true, true, true, true, true, false, true, false, false, false, false, false, false, false] rfl rfl (any_of HT_.out (by kernel_rfl)) (fun _ _ _ h => h) (Or.inl ⟨by rfl, ?_⟩) ?_ ?_
          rotate_left
          ·
           intro w'
           go_simp
           with_reducible rfl
          rotate_left
          ·
           simp only [Act.put, lsa, lsz, lss, i64_w, i32_w]
           rfl
          refine pure_ (i := 16) (N := some 26) (v := ?_) (a' := ?_) #[true, true, true, true, true, true, true, true, true, true, true, true, true, true, false, true, true, false, false, false, false, false, false] rfl rfl (any_of HT_.out (by kernel_rfl)) (fun _ _ _ h => h) (Or.inl ⟨by rfl, ?_⟩) ?_ ?_
          rotate_left
          ·
           intro w'
           go_simp
           with_reducible rfl
          rotate_left
          ·
           simp only [Act.put, lsa, lsz, lss, i64_w, i32_w]
           rfl
          refine pure_ (i := 17) (N := some 27) (v := ?_) (a' := ?_) #[true, true, true, true, true, true, true, true, true, true, true, true, true, true, false, true, true, true, false, false, false, false, false] rfl rfl (any_of HT_.out (by kernel_rfl)) (fun _ _ _ h => h) (Or.inl ⟨by rfl, ?_⟩) ?_ ?_
          rotate_left
          ·
           intro w'
           go_simp
           with_reducible rfl
          rotate_left
          ·
           simp only [Act.put, lsa, lsz, lss, i64_w, i32_w]
           rfl
          refine take_ (i := 14) (N := some 24) (v := ?_) (a' := ?_) #[true, true, true, true, true, true, true, true, true, true, true, true, true, true, true, true, true, true, false, false, false, false, false] rfl rfl (take_ofW HT_.out HW_.out (by kernel_rfl)) (fun _ _ _ h => h) (Or.inl ⟨by rfl, ?_⟩) hHeld ?_ ?_
          rotate_left
          ·
           rintro w' ⟨s0, s1, s2, s3, s4, s5, s6, s7, s8, s9, s10, s11, s12, s13, s14⟩
           go_simp
           with_reducible rfl
          rotate_left
          ·
           simp only [Act.put, lsa, lsz, lss, i64_w, i32_w]
           rfl
          refine take_ (i := 18) (N := some 28) (v := ?_) (a' := ?_) #[true, true, true, true, true, true, true, true, true, true, true, true, true, true, true, true, true, true, true, false, false, false, false] rfl rfl (take_ofW HT_.out HW_.out (by kernel_rfl)) (fun _ _ _ h => h) (Or.inl ⟨by rfl, ?_⟩) hHeld ?_ ?_
          rotate_left
          ·
           rintro w' ⟨s0, s1, s2, s3, s4, s5, s6, s7, s8, s9, s10, s11, s12, s13, s14⟩
           go_simp
           with_reducible rfl
          rotate_left
          ·
           simp only [Act.put, lsa, lsz, lss, i64_w, i32_w]
           rfl
          refine one_ (i := 19) (N := some 29) #[true, true, true, true, true, true, true, true, true, true, true, true, true, true, true, true, true, true, true, true, false, false, false] rfl rfl (one_of HT_.out (by kernel_rfl)) (by decide) (fun K hK => ?_)
          refine goes_ Try.func26 (by kernel_rfl) rfl #[.agg #[.string ((rd_T46 l0 (ji8)).f0), .string ((rd_T46 l0 (ji8)).f1), .int .i64 ((rd_T46 l0 (ji8)).f2), .string ((rd_T46 l0 (ji8)).f3), .bool ((rd_T46 l0 (ji8)).f4)], .agg #[.string ((rd_T46 l0 x3_1).f0), .string ((rd_T46 l0 x3_1).f1), .int .i64 ((rd_T46 l0 x3_1).f2), .string ((rd_T46 l0 x3_1).f3), .bool ((rd_T46 l0 x3_1).f4)]] (by rfl) rfl rfl (by (try simp only [List.map_toArray, List.map_cons, List.map_nil]); first | done | (simp only [hji8]; rfl) | rfl | (simp only [lld, llt]; rfl)) ?_
          with_reducible refine (shardlogref08_Compare.calls k1 ((rd_T46 l0 (ji8)).f0) ((rd_T46 l0 (ji8)).f1) ((rd_T46 l0 (ji8)).f2) ((rd_T46 l0 (ji8)).f3) ((rd_T46 l0 (ji8)).f4) ((rd_T46 l0 x3_1).f0) ((rd_T46 l0 x3_1).f1) ((rd_T46 l0 x3_1).f2) ((rd_T46 l0 x3_1).f3) ((rd_T46 l0 x3_1).f4) t403 _ A11.out).mono ?_
          rintro e w14 ⟨rfl, hb⟩
          refine ⟨_, rfl, ?_⟩
          have n0_ := aS (below_step (by repeat (first | (with_reducible first | exact HB.out | apply bal | apply bdN | apply bdo) | exact HB.out)) hb)
          clear HB
          have HB := n0_
          clear n0_; (try clear hb); (try clear hb2); (try clear hk); (try clear hi)
          refine hK.out _ _ ⟨((HB.out.cell (wbl w _ hw399_0)).trans hw399_0), ((HB.out.cell (wbl w _ hw399_1)).trans hw399_1), ((HB.out.cell (wbl w _ hw399_2)).trans hw399_2), ((HB.out.cell (wbl w _ hw399_3)).trans hw399_3), ((HB.out.cell (wbl w _ hw399_4)).trans hw399_4), ((HB.out.cell (wbl w _ hw401_0)).trans hw401_0), ((HB.out.cell (wbl w _ hw401_1)).trans hw401_1), ((HB.out.cell (wbl w _ hw401_2)).trans hw401_2), ((HB.out.cell (wbl w _ hw401_3)).trans hw401_3), ((HB.out.cell (wbl w _ hw401_4)).trans hw401_4), ((HB.out.cell (wbl w _ hw402_0)).trans hw402_0), ((HB.out.cell (wbl w _ hw402_1)).trans hw402_1), ((HB.out.cell (wbl w _ hw402_2)).trans hw402_2), ((HB.out.cell (wbl w _ hw402_3)).trans hw402_3), ((HB.out.cell (wbl w _ hw402_4)).trans hw402_4)⟩ (fun hHeld => ?_)
          clear hK K
          refine norm_ (a' := ?_) ?_ ?_
          rotate_left
          ·
           show Act.put _ (some 29) _ = _
           simp only [Act.put, lsa, lsz, lss, i64_w, i32_w]
           rfl
          refine pure_ (i := 20) (N := some 30) (v := ?_) (a' := ?_) #[true, true, true, true, true, true, true, true, true, true, true, true, true, true, true, true, true, true, true, true, true, false, false] rfl rfl (any_of HT_.out (by kernel_rfl)) (fun _ _ _ h => h) (Or.inl ⟨by rfl, ?_⟩) ?_ ?_
          rotate_left
          ·
           intro w'
           go_simp
           with_reducible rfl
          rotate_left
          ·
           simp only [Act.put, lsa, lsz, lss, i64_w, i32_w]
           rfl
          refine pure_ (i := 21) (N := some 31) (v := ?_) (a' := ?_) #[true, true, true, true, true, true, true, true, true, true, true, true, true, true, true, true, true, true, true, true, true, true, false] rfl rfl (any_of HT_.out (by kernel_rfl)) (fun _ _ _ h => h) (Or.inl ⟨by rfl, ?_⟩) ?_ ?_
          rotate_left
          ·
           intro w'
           go_simp
           with_reducible rfl
          rotate_left
          ·
           simp only [Act.put, lsa, lsz, lss, i64_w, i32_w]
           rfl
          refine pure_ (i := 22) (N := some 32) (v := ?_) (a' := ?_) #[true, true, true, true, true, true, true, true, true, true, true, true, true, true, true, true, true, true, true, true, true, true, true] rfl rfl (any_of HT_.out (by kernel_rfl)) (fun _ _ _ h => h) (Or.inl ⟨by rfl, ?_⟩) ?_ ?_
          rotate_left
          ·
           intro w'
           go_simp
           with_reducible rfl
          rotate_left
          ·
           simp only [Act.put, lsa, lsz, lss, i64_w, i32_w]
           rfl
          refine done_ (done_of HT_.out (by kernel_rfl)) ?_
          try go_wp2
          go_meet
          case rel => exact ⟨_, ((t403 != (-1))), (by first | rfl | (simp; done) | (simp [*]; done) | (simp; exact (by decide : ∀ a_ b_ : Bool, (a_ == b_) = (!a_ != b_)) _ _)), H', ⟨by have := HK1.out; first | omega | exact Nat.le_refl _⟩, ⟨by repeat (first | (with_reducible first | exact HB.out | apply bal | apply bdN | apply bdo) | exact HB.out)⟩⟩
         ·
          rw [if_neg c10] at H
          exact absurd H (by simp)
        ·
         rw [if_neg c9] at H
         exact absurd H (by simp)
       ·
        rw [if_neg c7] at H
        have c7b0 : decide (0 < x3_1) = false := decide_eq_false c7
        clear c7
        have H' := aS H
        clear H
        try go_wp2
        have n0_ := aS (bdo HB.out)
        clear HB
        have HB := n0_
        clear n0_
        have p399 : 0 ≤ (x3_1 : Int) := odt (by first | (with_reducible assumption) | assumption)
        have q399 : x3_1 < (l0.length : Int) := odt (by first | (with_reducible assumption) | assumption)
        obtain ⟨ad399, e399, hx399_0, hx399_1, hx399_2, hx399_3, hx399_4⟩ := at_T46 HR0.out x3_1 p399 q399
        have hw399_4 := hx399_4
        have hw399_3 := hx399_3
        have hw399_2 := hx399_2
        have hw399_1 := hx399_1
        have hw399_0 := hx399_0
        cases e399
        replace hx399_0 := (HB.out.cell (wbl w _ hx399_0)).trans hx399_0
        replace hx399_1 := (HB.out.cell (wbl w _ hx399_1)).trans hx399_1
        replace hx399_2 := (HB.out.cell (wbl w _ hx399_2)).trans hx399_2
        replace hx399_3 := (HB.out.cell (wbl w _ hx399_3)).trans hx399_3
        replace hx399_4 := (HB.out.cell (wbl w _ hx399_4)).trans hx399_4
        replace p399 := eq_true p399
        replace q399 := eq_true q399
        refine start_ (n := 23) (S := fun w' => w'.cell? (ad399.add ((x3_1).toNat * 5)) = some (.string ((rd_T46 l0 x3_1).f0)) ∧ w'.cell? ⟨(ad399.add ((x3_1).toNat * 5)).block, (ad399.add ((x3_1).toNat * 5)).off + 1, none⟩ = some (.string ((rd_T46 l0 x3_1).f1)) ∧ w'.cell? ⟨(ad399.add ((x3_1).toNat * 5)).block, (ad399.add ((x3_1).toNat * 5)).off + 2, none⟩ = some (.int .i64 ((rd_T46 l0 x3_1).f2)) ∧ w'.cell? ⟨(ad399.add ((x3_1).toNat * 5)).block, (ad399.add ((x3_1).toNat * 5)).off + 3, none⟩ = some (.string ((rd_T46 l0 x3_1).f3)) ∧ w'.cell? ⟨(ad399.add ((x3_1).toNat * 5)).block, (ad399.add ((x3_1).toNat * 5)).off + 4, none⟩ = some (.bool ((rd_T46 l0 x3_1).f4))) (ds := []) #[false, false, false, false, false, false, false, false, false, false, false, false, false, false, false, false, false, false, false, false, false, false, false] (by kernel_rfl) rfl rfl ⟨((HB.out.cell (wbl w _ hw399_0)).trans hw399_0), ((HB.out.cell (wbl w _ hw399_1)).trans hw399_1), ((HB.out.cell (wbl w _ hw399_2)).trans hw399_2), ((HB.out.cell (wbl w _ hw399_3)).trans hw399_3), ((HB.out.cell (wbl w _ hw399_4)).trans hw399_4)⟩ (fun hHeld => ?_); refine with_tabW shardlogref08_Sorted.tab4 shardlogref08_Sorted.bits4 (fun HT_ HW_ => ?_)
        generalize wr.drew = w15 at HB hx399_0 hx399_1 hx399_2 hx399_3 hx399_4 hHeld ⊢
        refine pure_ (i := 0) (N := some 10) (v := ?_) (a' := ?_) #[true, false, false, false, false, false, false, false, false, false, false, false, false, false, false, false, false, false, false, false, false, false, false] rfl rfl (any_of HT_.out (by kernel_rfl)) (fun _ _ _ h => h) (Or.inl ⟨by rfl, ?_⟩) ?_ ?_
        rotate_left
        ·
         intro w'
         go_simp
         with_reducible rfl
        rotate_left
        ·
         simp only [Act.put, lsa, lsz, lss, i64_w, i32_w]
         rfl
        refine pure_ (i := 1) (N := some 11) (v := ?_) (a' := ?_) #[true, true, false, false, false, false, false, false, false, false, false, false, false, false, false, false, false, false, false, false, false, false, false] rfl rfl (any_of HT_.out (by kernel_rfl)) (fun _ _ _ h => h) (Or.inl ⟨by rfl, ?_⟩) ?_ ?_
        rotate_left
        ·
         intro w'
         go_simp
         with_reducible rfl
        rotate_left
        ·
         simp only [Act.put, lsa, lsz, lss, i64_w, i32_w]
         rfl
        refine pure_ (i := 2) (N := some 12) (v := ?_) (a' := ?_) #[true, true, true, false, false, false, false, false, false, false, false, false, false, false, false, false, false, false, false, false, false, false, false] rfl rfl (any_of HT_.out (by kernel_rfl)) (fun _ _ _ h => h) (Or.inl ⟨by rfl, ?_⟩) ?_ ?_
        rotate_left
        ·
         intro w'
         go_simp
         with_reducible rfl
        rotate_left
        ·
         simp only [Act.put, lsa, lsz, lss, i64_w, i32_w]
         rfl
        refine take_ (i := 3) (N := some 13) (v := ?_) (a' := ?_) #[true, true, true, true, false, false, false, false, false, false, false, false, false, false, false, false, false, false, false, false, false, false, false] rfl rfl (take_ofW HT_.out HW_.out (by kernel_rfl)) (fun _ _ _ h => h) (Or.inl ⟨by rfl, ?_⟩) hHeld ?_ ?_
        rotate_left
        ·
         rintro w' ⟨s0, s1, s2, s3, s4⟩
         go_simp
         with_reducible rfl
        rotate_left
        ·
         simp only [Act.put, lsa, lsz, lss, i64_w, i32_w]
         rfl
        refine one_ (i := 4) (N := some 14) #[true, true, true, true, true, false, false, false, false, false, false, false, false, false, false, false, false, false, false, false, false, false, false] rfl rfl (one_of HT_.out (by kernel_rfl)) (by decide) (fun K hK => ?_)
        refine goes_ Try.func21 (by kernel_rfl) rfl #[.agg #[.string ((rd_T46 l0 x3_1).f0), .string ((rd_T46 l0 x3_1).f1), .int .i64 ((rd_T46 l0 x3_1).f2), .string ((rd_T46 l0 x3_1).f3), .bool ((rd_T46 l0 x3_1).f4)]] (by rfl) rfl rfl (by (try simp only [List.map_toArray, List.map_cons, List.map_nil]); first | done | rfl | (simp only [lld, llt]; rfl)) ?_
        with_reducible refine (shardlogref08_Right.calls ((rd_T46 l0 x3_1).f0) ((rd_T46 l0 x3_1).f1) ((rd_T46 l0 x3_1).f2) ((rd_T46 l0 x3_1).f3) ((rd_T46 l0 x3_1).f4) true _ A5.out).mono ?_
        rintro e w16 ⟨rfl, hb⟩
        refine ⟨_, rfl, ?_⟩
        have n0_ := aS (below_step (by repeat (first | (with_reducible first | exact HB.out | apply bal | apply bdN | apply bdo) | exact HB.out)) hb)
        clear HB
        have HB := n0_
        clear n0_; (try clear hb); (try clear hb2); (try clear hk); (try clear hi)
        refine hK.out _ _ ⟨((HB.out.cell (wbl w _ hw399_0)).trans hw399_0), ((HB.out.cell (wbl w _ hw399_1)).trans hw399_1), ((HB.out.cell (wbl w _ hw399_2)).trans hw399_2), ((HB.out.cell (wbl w _ hw399_3)).trans hw399_3), ((HB.out.cell (wbl w _ hw399_4)).trans hw399_4)⟩ (fun hHeld => ?_)
        clear hK K
        refine norm_ (a' := ?_) ?_ ?_
        rotate_left
        ·
         show Act.put _ (some 14) _ = _
         simp only [Act.put, lsa, lsz, lss, i64_w, i32_w]
         rfl
        refine pure_ (i := 5) (N := some 15) (v := ?_) (a' := ?_) #[true, true, true, true, true, true, false, false, false, false, false, false, false, false, false, false, false, false, false, false, false, false, false] rfl rfl (any_of HT_.out (by kernel_rfl)) (fun _ _ _ h => h) (Or.inl ⟨by rfl, ?_⟩) ?_ ?_
        rotate_left
        ·
         intro w'
         go_simp
         with_reducible rfl
        rotate_left
        ·
         simp only [Act.put, lsa, lsz, lss, i64_w, i32_w]
         rfl
        refine pure_ (i := 6) (N := some 16) (v := ?_) (a' := ?_) #[true, true, true, true, true, true, true, false, false, false, false, false, false, false, false, false, false, false, false, false, false, false, false] rfl rfl (any_of HT_.out (by kernel_rfl)) (fun _ _ _ h => h) (Or.inl ⟨by rfl, ?_⟩) ?_ ?_
        rotate_left
        ·
         intro w'
         go_simp
         with_reducible rfl
        rotate_left
        ·
         simp only [Act.put, lsa, lsz, lss, i64_w, i32_w]
         rfl
        refine pure_ (i := 7) (N := some 17) (v := ?_) (a' := ?_) #[true, true, true, true, true, true, true, true, false, false, false, false, false, false, false, false, false, false, false, false, false, false, false] rfl rfl (any_of HT_.out (by kernel_rfl)) (fun _ _ _ h => h) (Or.inl ⟨by rfl, ?_⟩) ?_ ?_
        rotate_left
        ·
         intro w'
         go_simp
         with_reducible rfl
        rotate_left
        ·
         simp only [Act.put, lsa, lsz, lss, i64_w, i32_w]
         rfl
        refine pure_ (i := 8) (N := some 18) (v := ?_) (a' := ?_) #[true, true, true, true, true, true, true, true, true, false, false, false, false, false, false, false, false, false, false, false, false, false, false] rfl rfl (any_of HT_.out (by kernel_rfl)) (fun _ _ _ h => h) (Or.inl ⟨by rfl, ?_⟩) ?_ ?_
        rotate_left
        ·
         intro w'
         go_simp
         with_reducible rfl
        rotate_left
        ·
         simp only [Act.put, lsa, lsz, lss, i64_w, i32_w]
         rfl
        refine pure_ (i := 9) (N := some 19) (v := ?_) (a' := ?_) #[true, true, true, true, true, true, true, true, true, true, false, false, false, false, false, false, false, false, false, false, false, false, false] rfl rfl (any_of HT_.out (by kernel_rfl)) (fun _ _ _ h => h) (Or.inl ⟨by rfl, ?_⟩) ?_ ?_
        rotate_left
        ·
         intro w'
         go_simp
         with_reducible rfl
        rotate_left
        ·
         simp only [Act.put, lsa, lsz, lss, i64_w, i32_w]
         rfl
        refine pure_ (i := 10) (N := some 20) (v := undef) (a' := ?_) #[true, true, true, true, true, true, true, true, true, true, true, false, false, false, false, false, false, false, false, false, false, false, false] rfl rfl (any_of HT_.out (by kernel_rfl)) (fun _ _ _ h => h) (Or.inr ⟨by rfl, rfl⟩) ?_ ?_
        rotate_left
        ·
         simp only [Act.put, lsa, lsz, lss, i64_w, i32_w]
         rfl
        refine pure_ (i := 11) (N := some 21) (v := undef) (a' := ?_) #[true, true, true, true, true, true, true, true, true, true, true, true, false, false, false, false, false, false, false, false, false, false, false] rfl rfl (any_of HT_.out (by kernel_rfl)) (fun _ _ _ h => h) (Or.inr ⟨by rfl, rfl⟩) ?_ ?_
        rotate_left
        ·
         simp only [Act.put, lsa, lsz, lss, i64_w, i32_w]
         rfl
        refine pure_ (i := 12) (N := some 22) (v := undef) (a' := ?_) #[true, true, true, true, true, true, true, true, true, true, true, true, true, false, false, false, false, false, false, false, false, false, false] rfl rfl (any_of HT_.out (by kernel_rfl)) (fun _ _ _ h => h) (Or.inr ⟨by rfl, rfl⟩) ?_ ?_
        rotate_left
        ·
         simp only [Act.put, lsa, lsz, lss, i64_w, i32_w]
         rfl
        refine pure_ (i := 13) (N := some 23) (v := undef) (a' := ?_) #[true, true, true, true, true, true, true, true, true, true, true, true, true, true, false, false, false, false, false, false, false, false, false] rfl rfl (any_of HT_.out (by kernel_rfl)) (fun _ _ _ h => h) (Or.inr ⟨by rfl, rfl⟩) ?_ ?_
        rotate_left
        ·
         simp only [Act.put, lsa, lsz, lss, i64_w, i32_w]
         rfl
        refine pure_ (i := 14) (N := some 24) (v := undef) (a' := ?_) #[true, true, true, true, true, true, true, true, true, true, true, true, true, true, true, false, false, false, false, false, false, false, false] rfl rfl (any_of HT_.out (by kernel_rfl)) (fun _ _ _ h => h) (Or.inr ⟨by rfl, rfl⟩) ?_ ?_
        rotate_left
        ·
         simp only [Act.put, lsa, lsz, lss, i64_w, i32_w]
         rfl
        refine pure_ (i := 15) (N := some 25) (v := undef) (a' := ?_) #[true, true, true, true, true, true, true, true, true, true, true, true, true, true, true, true, false, false, false, false, false, false, false] rfl rfl (any_of HT_.out (by kernel_rfl)) (fun _ _ _ h => h) (Or.inr ⟨by rfl, rfl⟩) ?_ ?_
        rotate_left
        ·
         simp only [Act.put, lsa, lsz, lss, i64_w, i32_w]
         rfl
        refine pure_ (i := 16) (N := some 26) (v := undef) (a' := ?_) #[true, true, true, true, true, true, true, true, true, true, true, true, true, true, true, true, true, false, false, false, false, false, false] rfl rfl (any_of HT_.out (by kernel_rfl)) (fun _ _ _ h => h) (Or.inr ⟨by rfl, rfl⟩) ?_ ?_
        rotate_left
        ·
         simp only [Act.put, lsa, lsz, lss, i64_w, i32_w]
         rfl
        refine pure_ (i := 17) (N := some 27) (v := undef) (a' := ?_) #[true, true, true, true, true, true, true, true, true, true, true, true, true, true, true, true, true, true, false, false, false, false, false] rfl rfl (any_of HT_.out (by kernel_rfl)) (fun _ _ _ h => h) (Or.inr ⟨by rfl, rfl⟩) ?_ ?_
        rotate_left
        ·
         simp only [Act.put, lsa, lsz, lss, i64_w, i32_w]
         rfl
        refine pure_ (i := 18) (N := some 28) (v := undef) (a' := ?_) #[true, true, true, true, true, true, true, true, true, true, true, true, true, true, true, true, true, true, true, false, false, false, false] rfl rfl (any_of HT_.out (by kernel_rfl)) (fun _ _ _ h => h) (Or.inr ⟨by rfl, rfl⟩) ?_ ?_
        rotate_left
        ·
         simp only [Act.put, lsa, lsz, lss, i64_w, i32_w]
         rfl
        refine pure_ (i := 19) (N := some 29) (v := undef) (a' := ?_) #[true, true, true, true, true, true, true, true, true, true, true, true, true, true, true, true, true, true, true, true, false, false, false] rfl rfl (any_of HT_.out (by kernel_rfl)) (fun _ _ _ h => h) (Or.inr ⟨by rfl, rfl⟩) ?_ ?_
        rotate_left
        ·
         simp only [Act.put, lsa, lsz, lss, i64_w, i32_w]
         rfl
        refine pure_ (i := 20) (N := some 30) (v := undef) (a' := ?_) #[true, true, true, true, true, true, true, true, true, true, true, true, true, true, true, true, true, true, true, true, true, false, false] rfl rfl (any_of HT_.out (by kernel_rfl)) (fun _ _ _ h => h) (Or.inr ⟨by rfl, rfl⟩) ?_ ?_
        rotate_left
        ·
         simp only [Act.put, lsa, lsz, lss, i64_w, i32_w]
         rfl
        refine pure_ (i := 21) (N := some 31) (v := ?_) (a' := ?_) #[true, true, true, true, true, true, true, true, true, true, true, true, true, true, true, true, true, true, true, true, true, true, false] rfl rfl (any_of HT_.out (by kernel_rfl)) (fun _ _ _ h => h) (Or.inl ⟨by rfl, ?_⟩) ?_ ?_
        rotate_left
        ·
         intro w'
         go_simp
         with_reducible rfl
        rotate_left
        ·
         simp only [Act.put, lsa, lsz, lss, i64_w, i32_w]
         rfl
        refine pure_ (i := 22) (N := some 32) (v := ?_) (a' := ?_) #[true, true, true, true, true, true, true, true, true, true, true, true, true, true, true, true, true, true, true, true, true, true, true] rfl rfl (any_of HT_.out (by kernel_rfl)) (fun _ _ _ h => h) (Or.inl ⟨by rfl, ?_⟩) ?_ ?_
        rotate_left
        ·
         intro w'
         go_simp
         with_reducible rfl
        rotate_left
        ·
         simp only [Act.put, lsa, lsz, lss, i64_w, i32_w]
         rfl
        refine done_ (done_of HT_.out (by kernel_rfl)) ?_
        try go_wp2
        go_meet
        case rel => exact ⟨_, (false), (by first | rfl | (simp; done) | (simp [*]; done) | (simp; exact (by decide : ∀ a_ b_ : Bool, (a_ == b_) = (!a_ != b_)) _ _)), H', ⟨by have := HK1.out; first | omega | exact Nat.le_refl _⟩, ⟨by repeat (first | (with_reducible first | exact HB.out | apply bal | apply bdN | apply bdo) | exact HB.out)⟩⟩
      ·
       replace c6 := Bool.eq_false_iff.mpr c6
       subst c6
       have H1 : (shardlogref08_Sorted.j1 k1 l0 x3_1 true) = some r := by rw [if_neg (show ¬ (false = true) by decide)] at H; exact H
       clear H; have H := H1; clear H1
       have H' := aS H
       clear H
       try go_wp2
       have n0_ := aS (bdo HB.out)
       clear HB
       have HB := n0_
       clear n0_
       have p399 : 0 ≤ (x3_1 : Int) := odt (by first | (with_reducible assumption) | assumption)
       have q399 : x3_1 < (l0.length : Int) := odt (by first | (with_reducible assumption) | assumption)
       obtain ⟨ad399, e399, hx399_0, hx399_1, hx399_2, hx399_3, hx399_4⟩ := at_T46 HR0.out x3_1 p399 q399
       have hw399_4 := hx399_4
       have hw399_3 := hx399_3
       have hw399_2 := hx399_2
       have hw399_1 := hx399_1
       have hw399_0 := hx399_0
       cases e399
       replace hx399_0 := (HB.out.cell (wbl w _ hx399_0)).trans hx399_0
       replace hx399_1 := (HB.out.cell (wbl w _ hx399_1)).trans hx399_1
       replace hx399_2 := (HB.out.cell (wbl w _ hx399_2)).trans hx399_2
       replace hx399_3 := (HB.out.cell (wbl w _ hx399_3)).trans hx399_3
       replace hx399_4 := (HB.out.cell (wbl w _ hx399_4)).trans hx399_4
       replace p399 := eq_true p399
       replace q399 := eq_true q399
       refine start_ (n := 23) (S := fun w' => w'.cell? (ad399.add ((x3_1).toNat * 5)) = some (.string ((rd_T46 l0 x3_1).f0)) ∧ w'.cell? ⟨(ad399.add ((x3_1).toNat * 5)).block, (ad399.add ((x3_1).toNat * 5)).off + 1, none⟩ = some (.string ((rd_T46 l0 x3_1).f1)) ∧ w'.cell? ⟨(ad399.add ((x3_1).toNat * 5)).block, (ad399.add ((x3_1).toNat * 5)).off + 2, none⟩ = some (.int .i64 ((rd_T46 l0 x3_1).f2)) ∧ w'.cell? ⟨(ad399.add ((x3_1).toNat * 5)).block, (ad399.add ((x3_1).toNat * 5)).off + 3, none⟩ = some (.string ((rd_T46 l0 x3_1).f3)) ∧ w'.cell? ⟨(ad399.add ((x3_1).toNat * 5)).block, (ad399.add ((x3_1).toNat * 5)).off + 4, none⟩ = some (.bool ((rd_T46 l0 x3_1).f4))) (ds := []) #[false, false, false, false, false, false, false, false, false, false, false, false, false, false, false, false, false, false, false, false, false, false, false] (by kernel_rfl) rfl rfl ⟨((HB.out.cell (wbl w _ hw399_0)).trans hw399_0), ((HB.out.cell (wbl w _ hw399_1)).trans hw399_1), ((HB.out.cell (wbl w _ hw399_2)).trans hw399_2), ((HB.out.cell (wbl w _ hw399_3)).trans hw399_3), ((HB.out.cell (wbl w _ hw399_4)).trans hw399_4)⟩ (fun hHeld => ?_); refine with_tabW shardlogref08_Sorted.tab4 shardlogref08_Sorted.bits4 (fun HT_ HW_ => ?_)
       generalize wr.drew = w17 at HB hx399_0 hx399_1 hx399_2 hx399_3 hx399_4 hHeld ⊢
       refine pure_ (i := 0) (N := some 10) (v := ?_) (a' := ?_) #[true, false, false, false, false, false, false, false, false, false, false, false, false, false, false, false, false, false, false, false, false, false, false] rfl rfl (any_of HT_.out (by kernel_rfl)) (fun _ _ _ h => h) (Or.inl ⟨by rfl, ?_⟩) ?_ ?_
       rotate_left
       ·
        intro w'
        go_simp
        with_reducible rfl
       rotate_left
       ·
        simp only [Act.put, lsa, lsz, lss, i64_w, i32_w]
        rfl
       refine pure_ (i := 1) (N := some 11) (v := ?_) (a' := ?_) #[true, true, false, false, false, false, false, false, false, false, false, false, false, false, false, false, false, false, false, false, false, false, false] rfl rfl (any_of HT_.out (by kernel_rfl)) (fun _ _ _ h => h) (Or.inl ⟨by rfl, ?_⟩) ?_ ?_
       rotate_left
       ·
        intro w'
        go_simp
        with_reducible rfl
       rotate_left
       ·
        simp only [Act.put, lsa, lsz, lss, i64_w, i32_w]
        rfl
       refine pure_ (i := 2) (N := some 12) (v := ?_) (a' := ?_) #[true, true, true, false, false, false, false, false, false, false, false, false, false, false, false, false, false, false, false, false, false, false, false] rfl rfl (any_of HT_.out (by kernel_rfl)) (fun _ _ _ h => h) (Or.inl ⟨by rfl, ?_⟩) ?_ ?_
       rotate_left
       ·
        intro w'
        go_simp
        with_reducible rfl
       rotate_left
       ·
        simp only [Act.put, lsa, lsz, lss, i64_w, i32_w]
        rfl
       refine take_ (i := 3) (N := some 13) (v := ?_) (a' := ?_) #[true, true, true, true, false, false, false, false, false, false, false, false, false, false, false, false, false, false, false, false, false, false, false] rfl rfl (take_ofW HT_.out HW_.out (by kernel_rfl)) (fun _ _ _ h => h) (Or.inl ⟨by rfl, ?_⟩) hHeld ?_ ?_
       rotate_left
       ·
        rintro w' ⟨s0, s1, s2, s3, s4⟩
        go_simp
        with_reducible rfl
       rotate_left
       ·
        simp only [Act.put, lsa, lsz, lss, i64_w, i32_w]
        rfl
       refine one_ (i := 4) (N := some 14) #[true, true, true, true, true, false, false, false, false, false, false, false, false, false, false, false, false, false, false, false, false, false, false] rfl rfl (one_of HT_.out (by kernel_rfl)) (by decide) (fun K hK => ?_)
       refine goes_ Try.func21 (by kernel_rfl) rfl #[.agg #[.string ((rd_T46 l0 x3_1).f0), .string ((rd_T46 l0 x3_1).f1), .int .i64 ((rd_T46 l0 x3_1).f2), .string ((rd_T46 l0 x3_1).f3), .bool ((rd_T46 l0 x3_1).f4)]] (by rfl) rfl rfl (by (try simp only [List.map_toArray, List.map_cons, List.map_nil]); first | done | rfl | (simp only [lld, llt]; rfl)) ?_
       with_reducible refine (shardlogref08_Right.calls ((rd_T46 l0 x3_1).f0) ((rd_T46 l0 x3_1).f1) ((rd_T46 l0 x3_1).f2) ((rd_T46 l0 x3_1).f3) ((rd_T46 l0 x3_1).f4) false _ A5.out).mono ?_
       rintro e w18 ⟨rfl, hb⟩
       refine ⟨_, rfl, ?_⟩
       have n0_ := aS (below_step (by repeat (first | (with_reducible first | exact HB.out | apply bal | apply bdN | apply bdo) | exact HB.out)) hb)
       clear HB
       have HB := n0_
       clear n0_; (try clear hb); (try clear hb2); (try clear hk); (try clear hi)
       refine hK.out _ _ ⟨((HB.out.cell (wbl w _ hw399_0)).trans hw399_0), ((HB.out.cell (wbl w _ hw399_1)).trans hw399_1), ((HB.out.cell (wbl w _ hw399_2)).trans hw399_2), ((HB.out.cell (wbl w _ hw399_3)).trans hw399_3), ((HB.out.cell (wbl w _ hw399_4)).trans hw399_4)⟩ (fun hHeld => ?_)
       clear hK K
       refine norm_ (a' := ?_) ?_ ?_
       rotate_left
       ·
        show Act.put _ (some 14) _ = _
        simp only [Act.put, lsa, lsz, lss, i64_w, i32_w]
        rfl
       refine pure_ (i := 5) (N := some 15) (v := ?_) (a' := ?_) #[true, true, true, true, true, true, false, false, false, false, false, false, false, false, false, false, false, false, false, false, false, false, false] rfl rfl (any_of HT_.out (by kernel_rfl)) (fun _ _ _ h => h) (Or.inl ⟨by rfl, ?_⟩) ?_ ?_
       rotate_left
       ·
        intro w'
        go_simp
        with_reducible rfl
       rotate_left
       ·
        simp only [Act.put, lsa, lsz, lss, i64_w, i32_w]
        rfl
       refine pure_ (i := 6) (N := some 16) (v := ?_) (a' := ?_) #[true, true, true, true, true, true, true, false, false, false, false, false, false, false, false, false, false, false, false, false, false, false, false] rfl rfl (any_of HT_.out (by kernel_rfl)) (fun _ _ _ h => h) (Or.inl ⟨by rfl, ?_⟩) ?_ ?_
       rotate_left
       ·
        intro w'
        go_simp
        with_reducible rfl
       rotate_left
       ·
        simp only [Act.put, lsa, lsz, lss, i64_w, i32_w]
        rfl
       refine pure_ (i := 7) (N := some 17) (v := undef) (a' := ?_) #[true, true, true, true, true, true, true, true, false, false, false, false, false, false, false, false, false, false, false, false, false, false, false] rfl rfl (any_of HT_.out (by kernel_rfl)) (fun _ _ _ h => h) (Or.inr ⟨by rfl, rfl⟩) ?_ ?_
       rotate_left
       ·
        simp only [Act.put, lsa, lsz, lss, i64_w, i32_w]
        rfl
       refine pure_ (i := 8) (N := some 18) (v := undef) (a' := ?_) #[true, true, true, true, true, true, true, true, true, false, false, false, false, false, false, false, false, false, false, false, false, false, false] rfl rfl (any_of HT_.out (by kernel_rfl)) (fun _ _ _ h => h) (Or.inr ⟨by rfl, rfl⟩) ?_ ?_
       rotate_left
       ·
        simp only [Act.put, lsa, lsz, lss, i64_w, i32_w]
        rfl
       refine pure_ (i := 9) (N := some 19) (v := undef) (a' := ?_) #[true, true, true, true, true, true, true, true, true, true, false, false, false, false, false, false, false, false, false, false, false, false, false] rfl rfl (any_of HT_.out (by kernel_rfl)) (fun _ _ _ h => h) (Or.inr ⟨by rfl, rfl⟩) ?_ ?_
       rotate_left
       ·
        simp only [Act.put, lsa, lsz, lss, i64_w, i32_w]
        rfl
       refine pure_ (i := 10) (N := some 20) (v := undef) (a' := ?_) #[true, true, true, true, true, true, true, true, true, true, true, false, false, false, false, false, false, false, false, false, false, false, false] rfl rfl (any_of HT_.out (by kernel_rfl)) (fun _ _ _ h => h) (Or.inr ⟨by rfl, rfl⟩) ?_ ?_
       rotate_left
       ·
        simp only [Act.put, lsa, lsz, lss, i64_w, i32_w]
        rfl
       refine pure_ (i := 11) (N := some 21) (v := undef) (a' := ?_) #[true, true, true, true, true, true, true, true, true, true, true, true, false, false, false, false, false, false, false, false, false, false, false] rfl rfl (any_of HT_.out (by kernel_rfl)) (fun _ _ _ h => h) (Or.inr ⟨by rfl, rfl⟩) ?_ ?_
       rotate_left
       ·
        simp only [Act.put, lsa, lsz, lss, i64_w, i32_w]
        rfl
       refine pure_ (i := 12) (N := some 22) (v := undef) (a' := ?_) #[true, true, true, true, true, true, true, true, true, true, true, true, true, false, false, false, false, false, false, false, false, false, false] rfl rfl (any_of HT_.out (by kernel_rfl)) (fun _ _ _ h => h) (Or.inr ⟨by rfl, rfl⟩) ?_ ?_
       rotate_left
       ·
        simp only [Act.put, lsa, lsz, lss, i64_w, i32_w]
        rfl
       refine pure_ (i := 13) (N := some 23) (v := undef) (a' := ?_) #[true, true, true, true, true, true, true, true, true, true, true, true, true, true, false, false, false, false, false, false, false, false, false] rfl rfl (any_of HT_.out (by kernel_rfl)) (fun _ _ _ h => h) (Or.inr ⟨by rfl, rfl⟩) ?_ ?_
       rotate_left
       ·
        simp only [Act.put, lsa, lsz, lss, i64_w, i32_w]
        rfl
       refine pure_ (i := 14) (N := some 24) (v := undef) (a' := ?_) #[true, true, true, true, true, true, true, true, true, true, true, true, true, true, true, false, false, false, false, false, false, false, false] rfl rfl (any_of HT_.out (by kernel_rfl)) (fun _ _ _ h => h) (Or.inr ⟨by rfl, rfl⟩) ?_ ?_
       rotate_left
       ·
        simp only [Act.put, lsa, lsz, lss, i64_w, i32_w]
        rfl
       refine pure_ (i := 15) (N := some 25) (v := undef) (a' := ?_) #[true, true, true, true, true, true, true, true, true, true, true, true, true, true, true, true, false, false, false, false, false, false, false] rfl rfl (any_of HT_.out (by kernel_rfl)) (fun _ _ _ h => h) (Or.inr ⟨by rfl, rfl⟩) ?_ ?_
       rotate_left
       ·
        simp only [Act.put, lsa, lsz, lss, i64_w, i32_w]
        rfl
       refine pure_ (i := 16) (N := some 26) (v := undef) (a' := ?_) #[true, true, true, true, true, true, true, true, true, true, true, true, true, true, true, true, true, false, false, false, false, false, false] rfl rfl (any_of HT_.out (by kernel_rfl)) (fun _ _ _ h => h) (Or.inr ⟨by rfl, rfl⟩) ?_ ?_
       rotate_left
       ·
        simp only [Act.put, lsa, lsz, lss, i64_w, i32_w]
        rfl
       refine pure_ (i := 17) (N := some 27) (v := undef) (a' := ?_) #[true, true, true, true, true, true, true, true, true, true, true, true, true, true, true, true, true, true, false, false, false, false, false] rfl rfl (any_of HT_.out (by kernel_rfl)) (fun _ _ _ h => h) (Or.inr ⟨by rfl, rfl⟩) ?_ ?_
       rotate_left
       ·
        simp only [Act.put, lsa, lsz, lss, i64_w, i32_w]
        rfl
       refine pure_ (i := 18) (N := some 28) (v := undef) (a' := ?_) #[true, true, true, true, true, true, true, true, true, true, true, true, true, true, true, true, true, true, true, false, false, false, false] rfl rfl (any_of HT_.out (by kernel_rfl)) (fun _ _ _ h => h) (Or.inr ⟨by rfl, rfl⟩) ?_ ?_
       rotate_left
       ·
        simp only [Act.put, lsa, lsz, lss, i64_w, i32_w]
        rfl
       refine pure_ (i := 19) (N := some 29) (v := undef) (a' := ?_) #[true, true, true, true, true, true, true, true, true, true, true, true, true, true, true, true, true, true, true, true, false, false, false] rfl rfl (any_of HT_.out (by kernel_rfl)) (fun _ _ _ h => h) (Or.inr ⟨by rfl, rfl⟩) ?_ ?_
       rotate_left
       ·
        simp only [Act.put, lsa, lsz, lss, i64_w, i32_w]
        rfl
       refine pure_ (i := 20) (N := some 30) (v := undef) (a' := ?_) #[true, true, true, true, true, true, true, true, true, true, true, true, true, true, true, true, true, true, true, true, true, false, false] rfl rfl (any_of HT_.out (by kernel_rfl)) (fun _ _ _ h => h) (Or.inr ⟨by rfl, rfl⟩) ?_ ?_
       rotate_left
       ·
        simp only [Act.put, lsa, lsz, lss, i64_w, i32_w]
        rfl
       refine pure_ (i := 21) (N := some 31) (v := undef) (a' := ?_) #[true, true, true, true, true, true, true, true, true, true, true, true, true, true, true, true, true, true, true, true, true, true, false] rfl rfl (any_of HT_.out (by kernel_rfl)) (fun _ _ _ h => h) (Or.inr ⟨by rfl, rfl⟩) ?_ ?_
       rotate_left
       ·
        simp only [Act.put, lsa, lsz, lss, i64_w, i32_w]
        rfl
       refine pure_ (i := 22) (N := some 32) (v := ?_) (a' := ?_) #[true, true, true, true, true, true, true, true, true, true, true, true, true, true, true, true, true, true, true, true, true, true, true] rfl rfl (any_of HT_.out (by kernel_rfl)) (fun _ _ _ h => h) (Or.inl ⟨by rfl, ?_⟩) ?_ ?_
       rotate_left
       ·
        intro w'
        go_simp
        with_reducible rfl
       rotate_left
       ·
        simp only [Act.put, lsa, lsz, lss, i64_w, i32_w]
        rfl
       refine done_ (done_of HT_.out (by kernel_rfl)) ?_
       try go_wp2
       go_meet
       case rel => exact ⟨_, (true), (by first | rfl | (simp; done) | (simp [*]; done) | (simp; exact (by decide : ∀ a_ b_ : Bool, (a_ == b_) = (!a_ != b_)) _ _)), H', ⟨by have := HK1.out; first | omega | exact Nat.le_refl _⟩, ⟨by repeat (first | (with_reducible first | exact HB.out | apply bal | apply bdN | apply bdo) | exact HB.out)⟩⟩
     ·
      rw [if_neg c4] at H
      exact absurd H (by simp)
    case rest =>
     clear HC3; (try clear c1); (try clear c2); (try clear p2); (try clear p3); (try clear q3); (try clear hx3); (try clear c4); (try clear p4); (try clear q4); (try clear hx4); (try clear c6); (try clear c7); (try clear c7b0); (try clear c9); (try clear c10); (try clear hx399_0); (try clear hx399_1); (try clear hx399_2); (try clear hx399_3); (try clear hx399_4); (try clear hx401_0); (try clear hx401_1); (try clear hx401_2); (try clear hx401_3); (try clear hx401_4); (try clear hx402_0); (try clear hx402_1); (try clear hx402_2); (try clear hx402_3); (try clear hx402_4); (try clear p399); (try clear p401); (try clear p402); (try clear q399); (try clear q401); (try clear q402)
     obtain ⟨kq, x32_2, rfl, HA, HJ2, HB⟩ := hcut
     cases kq with
     | zero => exact absurd HA.out (by simp [shardlogref08_Sorted.j1])
     | succ kj2 =>
      have H := HA.out; clear HA
      simp only [shardlogref08_Sorted.j1] at H
      by_cases c19 : x32_2 = true
      ·
       subst c19
       have H1 : (some false) = some r := by rw [if_pos rfl] at H; exact H
       clear H; have H := H1; clear H1
       obtain rfl := Option.some.inj H
       go_wp2
       go_ret
       exact ⟨by first | rfl | (simp [errW_none, errW_some] <;> rfl) | (simp [*, errW_none, errW_some] <;> rfl), by repeat (first | (with_reducible first | exact HB.out | apply bal | apply bdN | apply bdo) | exact HB.out)⟩
      ·
       replace c19 := Bool.eq_false_iff.mpr c19
       subst c19
       have H1 : (shardlogref08_Sorted.l0 kj2 l0 (wrap64 (x3_1 + 1))) = some r := by rw [if_neg (show ¬ (false = true) by decide)] at H; exact H
       clear H; have H := H1; clear H1
       have H' := aS H
       clear H
       go_wp2
       go_roundg kj2
       case measure => have := HK1.out; have := HJ2.out; omega
       case rel => exact ⟨(wrap64 (x3_1 + 1)), (by first | rfl | (simp; done) | (simp [*]; done) | (simp; exact (by decide : ∀ a_ b_ : Bool, (a_ == b_) = (!a_ != b_)) _ _)), H', ⟨by have := HK1.out; have := HJ2.out; omega⟩, ⟨by repeat (first | (with_reducible first | exact HB.out | apply bal | apply bdN | apply bdo) | exact HB.out)⟩⟩
   ·
    rw [if_neg c2] at H
    have c2b0 : decide (x3_1 < (l0.length : Int)) = false := decide_eq_false c2
    clear c2
    obtain rfl := Option.some.inj H
    go_wp2
    go_ret
    exact ⟨by first | rfl | (simp [errW_none, errW_some] <;> rfl) | (simp [*, errW_none, errW_some] <;> rfl), by repeat (first | (with_reducible first | exact HB.out | apply bal | apply bdN | apply bdo) | exact HB.out)⟩

/-! ### shardlogref01_At: function 35 -/
def shardlogref01_At.f (l0 : List Int) (a1 : Int) : Option (Int) := if (wrap64 (a1 + 4)) > (l0.length : Int) then (some (-1)) else (if 0 ≤ a1 then (if a1 < (l0.length : Int) then (if 0 ≤ (wrap64 (a1 + 1)) then (if (wrap64 (a1 + 1)) < (l0.length : Int) then (if 0 ≤ (wrap64 (a1 + 2)) then (if (wrap64 (a1 + 2)) < (l0.length : Int) then (if 0 ≤ (wrap64 (a1 + 3)) then (if (wrap64 (a1 + 3)) < (l0.length : Int) then (some (wrap64 ((wrap64 ((wrap64 ((wrap64 (16777216 * (wrap64 (rd l0 a1)))) + (wrap64 (65536 * (wrap64 (rd l0 (wrap64 (a1 + 1)))))))) + (wrap64 (256 * (wrap64 (rd l0 (wrap64 (a1 + 2)))))))) + (wrap64 (rd l0 (wrap64 (a1 + 3))))))) else (none)) else (none)) else (none)) else (none)) else (none)) else (none)) else (none)) else (none))
set_option maxHeartbeats 8000000 in
set_option maxRecDepth 100000 in
theorem shardlogref01_At.calls (A0 : Option Addr) (c0 : Nat) (l0 : List Int) (a1 : Int) (r : Int) (w : World) (hr0 : Kd.C (Kd.int .u8) w A0 l0.length l0) (hc0 : l0.length ≤ c0) (h : shardlogref01_At.f l0 a1 = some r) :
  Calls Try.prog 35 #[.slice A0 l0.length c0, .int .i64 a1] w fun e w' => e = .returned (.int .i64 r) ∧ Drawn0 w w' := by
 have HR0 := aS hr0
 have HC0 := aS hc0
 clear hr0 hc0
 have H : (if (wrap64 (a1 + 4)) > (l0.length : Int) then (some (-1)) else (if 0 ≤ a1 then (if a1 < (l0.length : Int) then (if 0 ≤ (wrap64 (a1 + 1)) then (if (wrap64 (a1 + 1)) < (l0.length : Int) then (if 0 ≤ (wrap64 (a1 + 2)) then (if (wrap64 (a1 + 2)) < (l0.length : Int) then (if 0 ≤ (wrap64 (a1 + 3)) then (if (wrap64 (a1 + 3)) < (l0.length : Int) then (some (wrap64 ((wrap64 ((wrap64 ((wrap64 (16777216 * (wrap64 (rd l0 a1)))) + (wrap64 (65536 * (wrap64 (rd l0 (wrap64 (a1 + 1)))))))) + (wrap64 (256 * (wrap64 (rd l0 (wrap64 (a1 + 2)))))))) + (wrap64 (rd l0 (wrap64 (a1 + 3))))))) else (none)) else (none)) else (none)) else (none)) else (none)) else (none)) else (none)) else (none))) = some r := h
 clear h
 by_cases c3 : (wrap64 (a1 + 4)) > (l0.length : Int)
 ·
  rw [if_pos c3] at H
  have c3b0 : decide ((l0.length : Int) < (wrap64 (a1 + 4))) = true := decide_eq_true c3
  clear c3
  obtain rfl := Option.some.inj H
  go_enter Try.func35, Try.ntmps35
  go_wp2
  repeat (go_quiet (fail); try go_wp2)
  go_ret
  exact ⟨by first | rfl | (simp; done) | (simp [*]; done) | (simp; exact (by decide : ∀ a_ b_ : Bool, (a_ == b_) = (!a_ != b_)) _ _), by repeat (first | exact Drawn0.refl _ | apply Drawn0.step)⟩
 ·
  rw [if_neg c3] at H
  have c3b0 : decide ((l0.length : Int) < (wrap64 (a1 + 4))) = false := decide_eq_false c3
  clear c3
  by_cases c4 : 0 ≤ a1
  ·
   rw [if_pos c4] at H
   have c4b0 : decide (0 ≤ a1) = true := decide_eq_true c4
   clear c4
   by_cases c5 : a1 < (l0.length : Int)
   ·
    rw [if_pos c5] at H
    have c5b0 : decide (a1 < (l0.length : Int)) = true := decide_eq_true c5
    clear c5
    obtain ⟨ji6, hji6⟩ : ∃ j_ : Int, (wrap64 (a1 + 1)) = j_ := ⟨_, rfl⟩
    replace H : (if 0 ≤ (ji6) then (if (ji6) < (l0.length : Int) then (if 0 ≤ (wrap64 (a1 + 2)) then (if (wrap64 (a1 + 2)) < (l0.length : Int) then (if 0 ≤ (wrap64 (a1 + 3)) then (if (wrap64 (a1 + 3)) < (l0.length : Int) then (some (wrap64 ((wrap64 ((wrap64 ((wrap64 (16777216 * (wrap64 (rd l0 a1)))) + (wrap64 (65536 * (wrap64 (rd l0 (ji6))))))) + (wrap64 (256 * (wrap64 (rd l0 (wrap64 (a1 + 2)))))))) + (wrap64 (rd l0 (wrap64 (a1 + 3))))))) else (none)) else (none)) else (none)) else (none)) else (none)) else (none)) = some r := by first | (rw [hji6] at H; exact H) | (simp only [hji6] at H ⊢; exact H)
    have hji6w : (IntKind.i64.wrap (a1 + 1)) = ji6 := (i64_w _).trans hji6
    by_cases c7 : 0 ≤ (ji6)
    ·
     rw [if_pos c7] at H
     have c7b0 : decide (0 ≤ (ji6)) = true := decide_eq_true c7
     clear c7
     by_cases c8 : (ji6) < (l0.length : Int)
     ·
      rw [if_pos c8] at H
      have c8b0 : decide ((ji6) < (l0.length : Int)) = true := decide_eq_true c8
      clear c8
      obtain ⟨ji9, hji9⟩ : ∃ j_ : Int, (wrap64 (a1 + 2)) = j_ := ⟨_, rfl⟩
      replace H : (if 0 ≤ (ji9) then (if (ji9) < (l0.length : Int) then (if 0 ≤ (wrap64 (a1 + 3)) then (if (wrap64 (a1 + 3)) < (l0.length : Int) then (some (wrap64 ((wrap64 ((wrap64 ((wrap64 (16777216 * (wrap64 (rd l0 a1)))) + (wrap64 (65536 * (wrap64 (rd l0 (ji6))))))) + (wrap64 (256 * (wrap64 (rd l0 (ji9))))))) + (wrap64 (rd l0 (wrap64 (a1 + 3))))))) else (none)) else (none)) else (none)) else (none)) = some r := by first | (rw [hji9] at H; exact H) | (simp only [hji9] at H ⊢; exact H)
      have hji9w : (IntKind.i64.wrap (a1 + 2)) = ji9 := (i64_w _).trans hji9
      by_cases c10 : 0 ≤ (ji9)
      ·
       rw [if_pos c10] at H
       have c10b0 : decide (0 ≤ (ji9)) = true := decide_eq_true c10
       clear c10
       by_cases c11 : (ji9) < (l0.length : Int)
       ·
        rw [if_pos c11] at H
        have c11b0 : decide ((ji9) < (l0.length : Int)) = true := decide_eq_true c11
        clear c11
        obtain ⟨ji12, hji12⟩ : ∃ j_ : Int, (wrap64 (a1 + 3)) = j_ := ⟨_, rfl⟩
        replace H : (if 0 ≤ (ji12) then (if (ji12) < (l0.length : Int) then (some (wrap64 ((wrap64 ((wrap64 ((wrap64 (16777216 * (wrap64 (rd l0 a1)))) + (wrap64 (65536 * (wrap64 (rd l0 (ji6))))))) + (wrap64 (256 * (wrap64 (rd l0 (ji9))))))) + (wrap64 (rd l0 (ji12)))))) else (none)) else (none)) = some r := by first | (rw [hji12] at H; exact H) | (simp only [hji12] at H ⊢; exact H)
        have hji12w : (IntKind.i64.wrap (a1 + 3)) = ji12 := (i64_w _).trans hji12
        by_cases c13 : 0 ≤ (ji12)
        ·
         rw [if_pos c13] at H
         have c13b0 : decide (0 ≤ (ji12)) = true := decide_eq_true c13
         clear c13
         by_cases c14 : (ji12) < (l0.length : Int)
         ·
          rw [if_pos c14] at H
          have c14b0 : decide ((ji12) < (l0.length : Int)) = true := decide_eq_true c14
          clear c14
          obtain rfl := Option.some.inj H
          have p404 : 0 ≤ (a1 : Int) := odt (by first | (with_reducible assumption) | assumption)
          have q404 : a1 < (l0.length : Int) := odt (by first | (with_reducible assumption) | assumption)
          obtain ⟨ad404, e404, hx404_0⟩ := Kd.at_int HR0.out a1 p404 q404
          cases e404
          replace p404 := eq_true p404
          replace q404 := eq_true q404
          have p405 : 0 ≤ ((ji6) : Int) := odt (by first | (with_reducible assumption) | assumption)
          have q405 : (ji6) < (l0.length : Int) := odt (by first | (with_reducible assumption) | assumption)
          obtain ⟨ad405, e405, hx405_0⟩ := Kd.at_int HR0.out (ji6) p405 q405
          obtain rfl : ad404 = ad405 := (by injection e405)
          replace p405 := eq_true p405
          replace q405 := eq_true q405
          have p406 : 0 ≤ ((ji9) : Int) := odt (by first | (with_reducible assumption) | assumption)
          have q406 : (ji9) < (l0.length : Int) := odt (by first | (with_reducible assumption) | assumption)
          obtain ⟨ad406, e406, hx406_0⟩ := Kd.at_int HR0.out (ji9) p406 q406
          obtain rfl : ad404 = ad406 := (by injection e406)
          replace p406 := eq_true p406
          replace q406 := eq_true q406
          have p407 : 0 ≤ ((ji12) : Int) := odt (by first | (with_reducible assumption) | assumption)
          have q407 : (ji12) < (l0.length : Int) := odt (by first | (with_reducible assumption) | assumption)
          obtain ⟨ad407, e407, hx407_0⟩ := Kd.at_int HR0.out (ji12) p407 q407
          obtain rfl : ad404 = ad407 := (by injection e407)
          replace p407 := eq_true p407
          replace q407 := eq_true q407
          go_enter Try.func35, Try.ntmps35
          go_wp2
          repeat (go_quiet (fail); try go_wp2)
          go_ret
          exact ⟨by first | rfl | (simp; done) | (simp only [← hji6, ← hji9, ← hji12] <;> (first | rfl | simp)) | (simp [*]; done), by repeat (first | exact Drawn0.refl _ | apply Drawn0.step)⟩
         ·
          rw [if_neg c14] at H
          exact absurd H (by simp)
        ·
         rw [if_neg c13] at H
         exact absurd H (by simp)
       ·
        rw [if_neg c11] at H
        exact absurd H (by simp)
      ·
       rw [if_neg c10] at H
       exact absurd H (by simp)
     ·
      rw [if_neg c8] at H
      exact absurd H (by simp)
    ·
     rw [if_neg c7] at H
     exact absurd H (by simp)
   ·
    rw [if_neg c5] at H
    exact absurd H (by simp)
  ·
   rw [if_neg c4] at H
   exact absurd H (by simp)

/-! ### shardlogref02_Sum: function 45 -/
mutual
def shardlogref02_Sum.l0 : Nat → List Int → Int → Int → Option (Int)
 | 0, _, _, _ => none
 | k + 1, x0, x3, x4 => if x4 < (x0.length : Int) then (if 0 ≤ x4 then (shardlogref02_Sum.l1 k x0 (Go.bits .xor .u32 x3 ((rd x0 x4) % 4294967296)) x4 0) else (none)) else (some ((4294967295 - x3) % 4294967296))
def shardlogref02_Sum.l1 : Nat → List Int → Int → Int → Int → Option (Int)
 | 0, _, _, _, _ => none
 | k + 1, x0, x3, x4, x5 => if x5 < 8 then (if (Int.tmod x3 2) = 1 then (shardlogref02_Sum.l1 k x0 (Go.bits .xor .u32 ((Int.tdiv x3 2) % 4294967296) 2197175160) x4 (wrap64 (x5 + 1))) else (shardlogref02_Sum.l1 k x0 ((Int.tdiv x3 2) % 4294967296) x4 (wrap64 (x5 + 1)))) else (shardlogref02_Sum.l0 k x0 x3 (wrap64 (x4 + 1)))
end
def shardlogref02_Sum.f (k : Nat) (l0 : List Int) : Option (Int) := shardlogref02_Sum.l0 k l0 4294967295 0
theorem shardlogref02_Sum.mono_l : ∀ k, (∀ y0 y1 y2, LeO (shardlogref02_Sum.l0 k y0 y1 y2) (shardlogref02_Sum.l0 (k + 1) y0 y1 y2)) ∧ (∀ y0 y1 y2 y3, LeO (shardlogref02_Sum.l1 k y0 y1 y2 y3) (shardlogref02_Sum.l1 (k + 1) y0 y1 y2 y3))
 | 0 => ⟨fun _ _ _ r h => by simp [shardlogref02_Sum.l0] at h, fun _ _ _ _ r h => by simp [shardlogref02_Sum.l1] at h⟩
 | k + 1 => by
  obtain ⟨ih0, ih1⟩ := shardlogref02_Sum.mono_l k
  refine ⟨?_, ?_⟩
  ·
   intro y0 y1 y2
   unfold shardlogref02_Sum.l0
   repeat' first
   | (with_reducible exact ih0 _ _ _)
   | (with_reducible exact ih1 _ _ _ _)
   | (with_reducible exact LeO.refl _)
   | (with_reducible exact LeO.none _)
   | (with_reducible refine LeO.ite ?_ ?_)
   | (with_reducible refine LeO.bind ?_ (fun _ => ?_))
   | exact ih0 _ _ _
   | exact ih1 _ _ _ _
   | exact LeO.none _
   | refine LeO.ite ?_ ?_
   | refine LeO.bind ?_ (fun _ => ?_)
  ·
   intro y0 y1 y2 y3
   unfold shardlogref02_Sum.l1
   repeat' first
   | (with_reducible exact ih0 _ _ _)
   | (with_reducible exact ih1 _ _ _ _)
   | (with_reducible exact LeO.refl _)
   | (with_reducible exact LeO.none _)
   | (with_reducible refine LeO.ite ?_ ?_)
   | (with_reducible refine LeO.bind ?_ (fun _ => ?_))
   | exact ih0 _ _ _
   | exact ih1 _ _ _ _
   | exact LeO.none _
   | refine LeO.ite ?_ ?_
   | refine LeO.bind ?_ (fun _ => ?_)
theorem shardlogref02_Sum.mono : ∀ a0 k, LeO (shardlogref02_Sum.f k a0) (shardlogref02_Sum.f (k + 1) a0) := by
 intro a0 k
 obtain ⟨ih0, ih1⟩ := shardlogref02_Sum.mono_l k
 unfold shardlogref02_Sum.f
 repeat' first
   | (with_reducible exact ih0 _ _ _)
   | (with_reducible exact ih1 _ _ _ _)
   | (with_reducible exact LeO.refl _)
   | (with_reducible exact LeO.none _)
   | (with_reducible refine LeO.ite ?_ ?_)
   | (with_reducible refine LeO.bind ?_ (fun _ => ?_))
   | exact ih0 _ _ _
   | exact ih1 _ _ _ _
   | exact LeO.none _
   | refine LeO.ite ?_ ?_
   | refine LeO.bind ?_ (fun _ => ?_)
set_option maxHeartbeats 8000000 in
set_option maxRecDepth 100000 in
theorem shardlogref02_Sum.calls (k : Nat) (A0 : Option Addr) (c0 : Nat) (l0 : List Int) (r : Int) (w : World) (hr0 : Kd.C (Kd.int .u8) w A0 l0.length l0) (hc0 : l0.length ≤ c0) (h : shardlogref02_Sum.f k l0 = some r) :
  Calls Try.prog 45 #[.slice A0 l0.length c0] w fun e w' => e = .returned (.int .u32 r) ∧ Drawn0 w w' := by
 have HR0 := aS hr0
 have HC0 := aS hc0
 clear hr0 hc0
 have H : (shardlogref02_Sum.l0 k l0 4294967295 0) = some r := h
 clear h
 have H' := aS H
 clear H
 go_enter Try.func45, Try.ntmps45
 go_wp2
 go_loopg [3, 4] k (fun kq v3 v4 w' => ∃ (x3_1 : Int) (x4_1 : Int), v3 = .int .u32 x3_1 ∧ v4 = .int .i64 x4_1 ∧ Aside0 (shardlogref02_Sum.l0 kq l0 x3_1 x4_1 = some r) ∧ Aside0 (kq ≤ k) ∧ Drawn0 w w')
 case atStart => exact ⟨(4294967295), (0), (by first | rfl | (simp; done) | (simp [*]; done) | (simp; exact (by decide : ∀ a_ b_ : Bool, (a_ == b_) = (!a_ != b_)) _ _)), (by first | rfl | (simp; done) | (simp [*]; done) | (simp; exact (by decide : ∀ a_ b_ : Bool, (a_ == b_) = (!a_ != b_)) _ _)), H', ⟨Nat.le_refl _⟩, by repeat (first | exact Drawn0.refl _ | apply Drawn0.step)⟩
 case round =>
  clear H'
  obtain ⟨x3_1, x4_1, rfl, rfl, HA, HK1, ⟨m1, rfl⟩⟩ := hrel
  cases gk with
  | zero => exact absurd HA.out (by simp [shardlogref02_Sum.l0])
  | succ k1 =>
   have H := HA.out; clear HA
   simp only [shardlogref02_Sum.l0] at H
   by_cases c2 : x4_1 < (l0.length : Int)
   ·
    rw [if_pos c2] at H
    have c2b0 : decide (x4_1 < (l0.length : Int)) = true := decide_eq_true c2
    clear c2
    by_cases c3 : 0 ≤ x4_1
    ·
     rw [if_pos c3] at H
     have c3b0 : decide (0 ≤ x4_1) = true := decide_eq_true c3
     clear c3
     have H' := aS H
     clear H
     have p408 : 0 ≤ (x4_1 : Int) := odt (by first | (with_reducible assumption) | assumption)
     have q408 : x4_1 < (l0.length : Int) := odt (by first | (with_reducible assumption) | assumption)
     obtain ⟨ad408, e408, hx408_0⟩ := Kd.at_int HR0.out x4_1 p408 q408
     cases e408
     replace p408 := eq_true p408
     replace q408 := eq_true q408
     go_wp2
     go_loopg [3, 5] k1 (fun kq v3 v5 w' => ∃ (x3_2 : Int) (x5_2 : Int), v3 = .int .u32 x3_2 ∧ v5 = .int .i64 x5_2 ∧ Aside0 (shardlogref02_Sum.l1 kq l0 x3_2 x4_1 x5_2 = some r) ∧ Aside0 (kq ≤ k1) ∧ Drawn0 w w')
     case atStart => exact ⟨(Go.bits .xor .u32 x3_1 ((rd l0 x4_1) % 4294967296)), (0), (by first | rfl | (simp; done) | (simp [*]; done) | (simp; exact (by decide : ∀ a_ b_ : Bool, (a_ == b_) = (!a_ != b_)) _ _)), (by first | rfl | (simp; done) | (simp [*]; done) | (simp; exact (by decide : ∀ a_ b_ : Bool, (a_ == b_) = (!a_ != b_)) _ _)), H', ⟨Nat.le_refl _⟩, by repeat (first | exact Drawn0.refl _ | apply Drawn0.step)⟩
     case round =>
      clear H'; (try clear c2); (try clear c2b0); (try clear p2); (try clear c3); (try clear c3b0); (try clear hx408_0); (try clear p408); (try clear q408)
      obtain ⟨x3_2, x5_2, rfl, rfl, HA, HK2, ⟨m2, rfl⟩⟩ := hrel
      cases gk with
      | zero => exact absurd HA.out (by simp [shardlogref02_Sum.l1])
      | succ k2 =>
       have H := HA.out; clear HA
       simp only [shardlogref02_Sum.l1] at H
       by_cases c4 : x5_2 < 8
       ·
        rw [if_pos c4] at H
        have c4b0 : decide (x5_2 < 8) = true := decide_eq_true c4
        clear c4
        by_cases c5 : (Int.tmod x3_2 2) = 1
        ·
         rw [if_pos c5] at H
         have c5b0 : ((Int.tmod x3_2 2) == 1) = true := beq_iff_eq.mpr c5
         have c5b1 : ((Int.tmod x3_2 2) != 1) = false := bne_eq_false_iff_eq.mpr c5
         clear c5
         have H' := aS H
         clear H
         go_wp2
         go_roundg k2
         case measure => have := HK1.out; have := HK2.out; omega
         case rel => exact ⟨(Go.bits .xor .u32 ((Int.tdiv x3_2 2) % 4294967296) 2197175160), (wrap64 (x5_2 + 1)), (by first | rfl | (simp; done) | (simp [*]; done) | (simp; exact (by decide : ∀ a_ b_ : Bool, (a_ == b_) = (!a_ != b_)) _ _)), (by first | rfl | (simp; done) | (simp [*]; done) | (simp; exact (by decide : ∀ a_ b_ : Bool, (a_ == b_) = (!a_ != b_)) _ _)), H', ⟨by have := HK1.out; have := HK2.out; omega⟩, by repeat (first | exact Drawn0.refl _ | apply Drawn0.step)⟩
        ·
         rw [if_neg c5] at H
         have c5b0 : ((Int.tmod x3_2 2) == 1) = false := beq_eq_false_iff_ne.mpr c5
         have c5b1 : ((Int.tmod x3_2 2) != 1) = true := bne_iff_ne.mpr c5
         have H' := aS H
         clear H
         go_wp2
         go_roundg k2
         case measure => have := HK1.out; have := HK2.out; omega
         case rel => exact ⟨((Int.tdiv x3_2 2) % 4294967296), (wrap64 (x5_2 + 1)), (by first | rfl | (simp; done) | (simp [*]; done) | (simp; exact (by decide : ∀ a_ b_ : Bool, (a_ == b_) = (!a_ != b_)) _ _)), (by first | rfl | (simp; done) | (simp [*]; done) | (simp; exact (by decide : ∀ a_ b_ : Bool, (a_ == b_) = (!a_ != b_)) _ _)), H', ⟨by have := HK1.out; have := HK2.out; omega⟩, by repeat (first | exact Drawn0.refl _ | apply Drawn0.step)⟩
       ·
        rw [if_neg c4] at H
        have c4b0 : decide (x5_2 < 8) = false := decide_eq_false c4
        clear c4
        have H' := aS H
        clear H
        go_wp2
        go_roundg k2
        case measure => have := HK1.out; have := HK2.out; omega
        case rel => exact ⟨(x3_2), (wrap64 (x4_1 + 1)), (by first | rfl | (simp; done) | (simp [*]; done) | (simp; exact (by decide : ∀ a_ b_ : Bool, (a_ == b_) = (!a_ != b_)) _ _)), (by first | rfl | (simp; done) | (simp [*]; done) | (simp; exact (by decide : ∀ a_ b_ : Bool, (a_ == b_) = (!a_ != b_)) _ _)), H', ⟨by have := HK1.out; have := HK2.out; omega⟩, by repeat (first | exact Drawn0.refl _ | apply Drawn0.step)⟩
    ·
     rw [if_neg c3] at H
     exact absurd H (by simp)
   ·
    rw [if_neg c2] at H
    have c2b0 : decide (x4_1 < (l0.length : Int)) = false := decide_eq_false c2
    clear c2
    obtain rfl := Option.some.inj H
    go_wp2
    go_ret
    exact ⟨by first | rfl | (simp; done) | (simp [*]; done) | (simp; exact (by decide : ∀ a_ b_ : Bool, (a_ == b_) = (!a_ != b_)) _ _), by repeat (first | exact Drawn0.refl _ | apply Drawn0.step)⟩

end Go.Proofs.Ytclmooadpoojeaa.X
