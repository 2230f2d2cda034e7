-- written by a program of this session's, over the kit's print
import Derived.Test.YtclmooadpoojeaaXx0
import Derived.Test.YtclmooadpoojeaaXx4
import Derived.Test.YtclmooadpoojeaaXx7
import Derived.Test.YtclmooadpoojeaaXx8
namespace Go.Proofs.Ytclmooadpoojeaa.X
open Go.RowKit Go.Proofs.YtclmooadpoojeaaW.PrintWords Go.Proofs.YtclmooadpoojeaaW.PrintLast Go.Proofs.YtclmooadpoojeaaW.PrintMore
attribute [local go_sem] max2_int min2_int max_two min_two max_three min_three max_four min_four gtr_str   -- for this text's walks alone
set_option linter.unusedVariables false
set_option linter.unusedSimpArgs false

/-! ### shardlogref06_Scan: function 34 -/
mutual
def shardlogref06_Scan.l0 : Nat → List Int → List (List Int) → Int → Option ((List (List Int)) × Int)
 | 0, _, _, _ => none
 | k + 1, x0, x4, x5 => (shardlogref01_At.f x0 x5).bind fun t409 => (if t409 < 0 then (shardlogref06_Scan.j1 k x0 x4 x5 t409 true) else (if t409 > 65535 then (shardlogref06_Scan.j1 k x0 x4 x5 t409 true) else (shardlogref06_Scan.j1 k x0 x4 x5 t409 (decide ((wrap64 ((wrap64 (x5 + 12)) + t409)) > (x0.length : Int))))))
def shardlogref06_Scan.j1 : Nat → List Int → List (List Int) → Int → Int → Bool → Option ((List (List Int)) × Int)
 | 0, _, _, _, _, _ => none
 | k + 1, x0, x4, x5, x6, x25 => if x25 = true then (some (x4, x5)) else (if 0 ≤ (wrap64 (x5 + 12)) then (if (wrap64 (x5 + 12)) ≤ (wrap64 ((wrap64 (x5 + 12)) + x6)) then (if (wrap64 ((wrap64 (x5 + 12)) + x6)) ≤ (x0.length : Int) then ((some ((x0.take ((wrap64 ((wrap64 (x5 + 12)) + x6)) : Int).toNat).drop ((wrap64 (x5 + 12)) : Int).toNat : List Int)).bind fun y410 => ((shardlogref01_At.f x0 (wrap64 (x5 + 4))).bind fun t414 => (if 0 ≤ x5 then (if x5 ≤ (wrap64 (x5 + 4)) then (if (wrap64 (x5 + 4)) ≤ (x0.length : Int) then ((shardlogref02_Sum.f k ((x0.take ((wrap64 (x5 + 4)) : Int).toNat).drop (x5 : Int).toNat)).bind fun t419 => (if t414 = (wrap64 (t419)) then ((shardlogref01_At.f x0 (wrap64 (x5 + 8))).bind fun t420 => ((shardlogref02_Sum.f k y410).bind fun t421 => (if t420 = (wrap64 (t421)) then ((some (([] : List Int) : List Int)).bind fun y422 => (if y422.length + y410.length < 140737488355328 then (if x4.length < 5864062014805 then (shardlogref06_Scan.l0 k x0 (x4 ++ [(y422 ++ y410)]) (wrap64 ((wrap64 (x5 + 12)) + x6))) else (none)) else (none))) else (some (x4, x5))))) else (some (x4, x5)))) else (none)) else (none)) else (none)))) else (none)) else (none)) else (none))
end
def shardlogref06_Scan.f (k : Nat) (l0 : List Int) : Option ((List (List Int)) × Int) := shardlogref06_Scan.l0 k l0 ([] : List (List Int)) 0
theorem shardlogref06_Scan.mono_l : ∀ k, (∀ y0 y1 y2, LeO (shardlogref06_Scan.l0 k y0 y1 y2) (shardlogref06_Scan.l0 (k + 1) y0 y1 y2)) ∧ (∀ y0 y1 y2 y3 y4, LeO (shardlogref06_Scan.j1 k y0 y1 y2 y3 y4) (shardlogref06_Scan.j1 (k + 1) y0 y1 y2 y3 y4))
 | 0 => ⟨fun _ _ _ r h => by simp [shardlogref06_Scan.l0] at h, fun _ _ _ _ _ r h => by simp [shardlogref06_Scan.j1] at h⟩
 | k + 1 => by
  obtain ⟨ih0, ih1⟩ := shardlogref06_Scan.mono_l k
  refine ⟨?_, ?_⟩
  ·
   intro y0 y1 y2
   unfold shardlogref06_Scan.l0
   repeat' first
   | (with_reducible exact ih0 _ _ _)
   | (with_reducible exact ih1 _ _ _ _ _)
   | (with_reducible exact shardlogref02_Sum.mono _ _)
   | (with_reducible exact LeO.refl _)
   | (with_reducible exact LeO.none _)
   | (with_reducible refine LeO.ite ?_ ?_)
   | (with_reducible refine LeO.bind ?_ (fun _ => ?_))
   | exact ih0 _ _ _
   | exact ih1 _ _ _ _ _
   | exact shardlogref02_Sum.mono _ _
   | exact LeO.none _
   | refine LeO.ite ?_ ?_
   | refine LeO.bind ?_ (fun _ => ?_)
  ·
   intro y0 y1 y2 y3 y4
   unfold shardlogref06_Scan.j1
   repeat' first
   | (with_reducible exact ih0 _ _ _)
   | (with_reducible exact ih1 _ _ _ _ _)
   | (with_reducible exact shardlogref02_Sum.mono _ _)
   | (with_reducible exact LeO.refl _)
   | (with_reducible exact LeO.none _)
   | (with_reducible refine LeO.ite ?_ ?_)
   | (with_reducible refine LeO.bind ?_ (fun _ => ?_))
   | exact ih0 _ _ _
   | exact ih1 _ _ _ _ _
   | exact shardlogref02_Sum.mono _ _
   | exact LeO.none _
   | refine LeO.ite ?_ ?_
   | refine LeO.bind ?_ (fun _ => ?_)
theorem shardlogref06_Scan.mono : ∀ a0 k, LeO (shardlogref06_Scan.f k a0) (shardlogref06_Scan.f (k + 1) a0) := by
 intro a0 k
 obtain ⟨ih0, ih1⟩ := shardlogref06_Scan.mono_l k
 unfold shardlogref06_Scan.f
 repeat' first
   | (with_reducible exact ih0 _ _ _)
   | (with_reducible exact ih1 _ _ _ _ _)
   | (with_reducible exact shardlogref02_Sum.mono _ _)
   | (with_reducible exact LeO.refl _)
   | (with_reducible exact LeO.none _)
   | (with_reducible refine LeO.ite ?_ ?_)
   | (with_reducible refine LeO.bind ?_ (fun _ => ?_))
   | exact ih0 _ _ _
   | exact ih1 _ _ _ _ _
   | exact shardlogref02_Sum.mono _ _
   | exact LeO.none _
   | refine LeO.ite ?_ ?_
   | refine LeO.bind ?_ (fun _ => ?_)
set_option maxHeartbeats 8000000 in
set_option maxRecDepth 100000 in
theorem shardlogref06_Scan.calls (k : Nat) (A0 : Option Addr) (c0 : Nat) (l0 : List Int) (r1 : List (List Int)) (r2 : Int) (w : World) (hr0 : Kd.C (Kd.int .u8) w A0 l0.length l0) (hc0 : l0.length ≤ c0) (h : shardlogref06_Scan.f k l0 = some (r1, r2)) :
  Calls Try.prog 34 #[.slice A0 l0.length c0] w fun e w' => ∃ v0_ : Value, e = .returned (.tuple #[v0_, .int .i64 r2]) ∧ Kd.S (Kd.slice 5 (Kd.int .u8)) 33 w' w.heap.size (fun _ => True) v0_ r1 ∧ Below w.heap.size w w' := by
 have HR0 := aS hr0
 have HC0 := aS hc0
 clear hr0 hc0
 have HB := aS (Below.refl w.heap.size w)
 have H : (shardlogref06_Scan.l0 k l0 ([] : List (List Int)) 0) = some (r1, r2) := h
 clear h
 have H' := aS H
 clear H
 go_enter Try.func34, Try.ntmps34
 go_wp2
 repeat (go_quiet (fail); try go_wp2)
 go_loopg [4, 5] k (fun kq v4 v5 w' => ∃ (x4_1 : List (List Int)) (x5_1 : Int), v5 = .int .i64 x5_1 ∧ Aside0 (shardlogref06_Scan.l0 kq l0 x4_1 x5_1 = some (r1, r2)) ∧ Aside0 (kq ≤ k) ∧ Aside0 (Kd.S (Kd.slice 5 (Kd.int .u8)) 33 w' w.heap.size (fun _ => True) v4 x4_1) ∧ Aside0 (Below w.heap.size w w'))
 case atStart => exact ⟨(([] : List (List Int))), (0), (by first | rfl | (simp; done) | (simp [*]; done) | (simp; exact (by decide : ∀ a_ b_ : Bool, (a_ == b_) = (!a_ != b_)) _ _)), H', ⟨Nat.le_refl _⟩, ⟨by first | exact Kd.S_nil _ _ _ _ _ | exact Kd.N_nil _ _ _ _ _ | exact Kd.V_nil _ _ _ _ _ | exact Kd.Q_nil _ _ _ _ _ | exact Kd.R_nil _ _ _ _ _⟩, ⟨by repeat (first | (with_reducible first | exact HB.out | apply bal | apply bdN | apply bdo) | exact HB.out)⟩⟩
 case round =>
  clear H'
  obtain ⟨x4_1, x5_1, rfl, HA, HK1, HO_4, HB⟩ := hrel
  cases gk with
  | zero => exact absurd HA.out (by simp [shardlogref06_Scan.l0])
  | succ k1 =>
   have H := HA.out; clear HA
   simp only [shardlogref06_Scan.l0] at H
   replace H := obm H
   obtain ⟨t409, A20, H⟩ := H
   replace H : (if t409 < 0 then (shardlogref06_Scan.j1 k1 l0 x4_1 x5_1 t409 true) else (if t409 > 65535 then (shardlogref06_Scan.j1 k1 l0 x4_1 x5_1 t409 true) else (shardlogref06_Scan.j1 k1 l0 x4_1 x5_1 t409 (decide ((wrap64 ((wrap64 (x5_1 + 12)) + t409)) > (l0.length : Int)))))) = some (r1, r2) := H
   have A2 := aS A20
   clear A20
   have HC3 := aS H
   clear H
   go_upto_region 4 with (first | (go_at_call 35; (with_reducible refine (shardlogref01_At.calls _ _ l0 x5_1 t409 _ ?side1 ?side2 A2.out).mono ?_); (case side1 => repeat (first | exact (Kd.C_below HR0.out HB.out) | (with_reducible refine Kd.C_alloc ?_ _) | (with_reducible refine Kd.C_drewN ?_ _) | (with_reducible refine Kd.C_drew ?_))); (case side2 => exact HC0.out); rintro e w' ⟨rfl, ⟨nd, rfl⟩⟩; (try first | exact ⟨rfl, _, World.drewN_drewN _ _ _⟩ | exact ⟨rfl, _, Eq.trans (World.drewN_drewN _ _ _) (congrArg (World.drewN _) (Nat.add_assoc _ _ _))⟩)))
   repeat (go_quiet (first | (go_at_call 35; (with_reducible refine (shardlogref01_At.calls _ _ l0 x5_1 t409 _ ?side1 ?side2 A2.out).mono ?_); (case side1 => repeat (first | exact (Kd.C_below HR0.out HB.out) | (with_reducible refine Kd.C_alloc ?_ _) | (with_reducible refine Kd.C_drewN ?_ _) | (with_reducible refine Kd.C_drew ?_))); (case side2 => exact HC0.out); rintro e w' ⟨rfl, ⟨nd, rfl⟩⟩; (try first | exact ⟨rfl, _, World.drewN_drewN _ _ _⟩ | exact ⟨rfl, _, Eq.trans (World.drewN_drewN _ _ _) (congrArg (World.drewN _) (Nat.add_assoc _ _ _))⟩))); go_upto_region 4 with (first | (go_at_call 35; (with_reducible refine (shardlogref01_At.calls _ _ l0 x5_1 t409 _ ?side1 ?side2 A2.out).mono ?_); (case side1 => repeat (first | exact (Kd.C_below HR0.out HB.out) | (with_reducible refine Kd.C_alloc ?_ _) | (with_reducible refine Kd.C_drewN ?_ _) | (with_reducible refine Kd.C_drew ?_))); (case side2 => exact HC0.out); rintro e w' ⟨rfl, ⟨nd, rfl⟩⟩; (try first | exact ⟨rfl, _, World.drewN_drewN _ _ _⟩ | exact ⟨rfl, _, Eq.trans (World.drewN_drewN _ _ _) (congrArg (World.drewN _) (Nat.add_assoc _ _ _))⟩))))
   (try simp only [Act.put, lsa, lsz, lss])
   go_cut [25] (fun v25 wc => ∃ (kq : Nat) (x25_2 : Bool), v25 = .bool x25_2 ∧ Aside0 (shardlogref06_Scan.j1 kq l0 x4_1 x5_1 t409 x25_2 = some (r1, r2)) ∧ Aside0 (kq ≤ k1) ∧ Aside0 (Kd.S (Kd.slice 5 (Kd.int .u8)) 33 wc w.heap.size (fun _ => True) u4 x4_1) ∧ Aside0 (Below w.heap.size w wc))
   case first =>
    have H := HC3.out; clear HC3
    by_cases c4 : t409 < 0
    ·
     rw [if_pos c4] at H
     have c4b0 : decide (t409 < 0) = true := decide_eq_true c4
     clear c4
     (first | rw [c4b0] | (simp only [i64_w, i32_w]; rw [c4b0]) | skip)
     have H' := aS H
     clear H
     go_wp2
     repeat (go_quiet (fail); try go_wp2)
     go_meet
     case rel => exact ⟨_, (true), (by first | rfl | (simp; done) | (simp [*]; done) | (simp; exact (by decide : ∀ a_ b_ : Bool, (a_ == b_) = (!a_ != b_)) _ _)), H', ⟨by have := HK1.out; first | omega | exact Nat.le_refl _⟩, ⟨by (with_reducible repeat (first | apply Kd.S_alloc | apply Kd.S_drewN | apply Kd.S_drew)); exact HO_4.out⟩, ⟨by repeat (first | (with_reducible first | exact HB.out | apply bal | apply bdN | apply bdo) | exact HB.out)⟩⟩
    ·
     rw [if_neg c4] at H
     have c4b0 : decide (t409 < 0) = false := decide_eq_false c4
     clear c4
     (first | rw [c4b0] | (simp only [i64_w, i32_w]; rw [c4b0]) | skip)
     by_cases c5 : t409 > 65535
     ·
      rw [if_pos c5] at H
      have c5b0 : decide (65535 < t409) = true := decide_eq_true c5
      clear c5
      have H' := aS H
      clear H
      go_wp2
      repeat (go_quiet (fail); try go_wp2)
      go_meet
      case rel => exact ⟨_, (true), (by first | rfl | (simp; done) | (simp [*]; done) | (simp; exact (by decide : ∀ a_ b_ : Bool, (a_ == b_) = (!a_ != b_)) _ _)), H', ⟨by have := HK1.out; first | omega | exact Nat.le_refl _⟩, ⟨by (with_reducible repeat (first | apply Kd.S_alloc | apply Kd.S_drewN | apply Kd.S_drew)); exact HO_4.out⟩, ⟨by repeat (first | (with_reducible first | exact HB.out | apply bal | apply bdN | apply bdo) | exact HB.out)⟩⟩
     ·
      rw [if_neg c5] at H
      have c5b0 : decide (65535 < t409) = false := decide_eq_false c5
      clear c5
      have H' := aS H
      clear H
      go_wp2
      repeat (go_quiet (fail); try go_wp2)
      go_meet
      case rel => exact ⟨_, (decide ((wrap64 ((wrap64 (x5_1 + 12)) + t409)) > (l0.length : Int))), (by first | rfl | (simp; done) | (simp [*]; done) | (simp; exact (by decide : ∀ a_ b_ : Bool, (a_ == b_) = (!a_ != b_)) _ _)), H', ⟨by have := HK1.out; first | omega | exact Nat.le_refl _⟩, ⟨by (with_reducible repeat (first | apply Kd.S_alloc | apply Kd.S_drewN | apply Kd.S_drew)); exact HO_4.out⟩, ⟨by repeat (first | (with_reducible first | exact HB.out | apply bal | apply bdN | apply bdo) | exact HB.out)⟩⟩
   case rest =>
    clear HC3; (try clear p2); (try clear c3); (try clear c4); (try clear c4b0); (try clear c5); (try clear c5b0)
    obtain ⟨kq, x25_2, rfl, HA, HJ2, HO_4, HB⟩ := hcut
    cases kq with
    | zero => exact absurd HA.out (by simp [shardlogref06_Scan.j1])
    | succ kj2 =>
     have H := HA.out; clear HA
     simp only [shardlogref06_Scan.j1] at H
     by_cases c6 : x25_2 = true
     ·
      subst c6
      have H1 : (some (x4_1, x5_1)) = some (r1, r2) := by rw [if_pos rfl] at H; exact H
      clear H; have H := H1; clear H1
      simp only [Option.some.injEq, Prod.mk.injEq] at H
      obtain ⟨rfl, rfl⟩ := H
      go_wp2
      repeat (go_quiet (fail); try go_wp2)
      go_ret2
      exact ⟨_, by first | rfl | (simp [errW_none, errW_some] <;> rfl) | (simp [*, errW_none, errW_some] <;> rfl), by (with_reducible repeat (first | apply Kd.S_alloc | apply Kd.S_drewN | apply Kd.S_drew)); exact HO_4.out, by repeat (first | (with_reducible first | exact HB.out | apply bal | apply bdN | apply bdo) | exact HB.out)⟩
     ·
      replace c6 := Bool.eq_false_iff.mpr c6
      subst c6
      have H1 : (if 0 ≤ (wrap64 (x5_1 + 12)) then (if (wrap64 (x5_1 + 12)) ≤ (wrap64 ((wrap64 (x5_1 + 12)) + t409)) then (if (wrap64 ((wrap64 (x5_1 + 12)) + t409)) ≤ (l0.length : Int) then ((some ((l0.take ((wrap64 ((wrap64 (x5_1 + 12)) + t409)) : Int).toNat).drop ((wrap64 (x5_1 + 12)) : Int).toNat : List Int)).bind fun y410 => ((shardlogref01_At.f l0 (wrap64 (x5_1 + 4))).bind fun t414 => (if 0 ≤ x5_1 then (if x5_1 ≤ (wrap64 (x5_1 + 4)) then (if (wrap64 (x5_1 + 4)) ≤ (l0.length : Int) then ((shardlogref02_Sum.f kj2 ((l0.take ((wrap64 (x5_1 + 4)) : Int).toNat).drop (x5_1 : Int).toNat)).bind fun t419 => (if t414 = (wrap64 (t419)) then ((shardlogref01_At.f l0 (wrap64 (x5_1 + 8))).bind fun t420 => ((shardlogref02_Sum.f kj2 y410).bind fun t421 => (if t420 = (wrap64 (t421)) then ((some (([] : List Int) : List Int)).bind fun y422 => (if y422.length + y410.length < 140737488355328 then (if x4_1.length < 5864062014805 then (shardlogref06_Scan.l0 kj2 l0 (x4_1 ++ [(y422 ++ y410)]) (wrap64 ((wrap64 (x5_1 + 12)) + t409))) else (none)) else (none))) else (some (x4_1, x5_1))))) else (some (x4_1, x5_1)))) else (none)) else (none)) else (none)))) else (none)) else (none)) else (none)) = some (r1, r2) := by rw [if_neg (show ¬ (false = true) by decide)] at H; exact H
      clear H; have H := H1; clear H1
      obtain ⟨ji7, hji7⟩ : ∃ j_ : Int, (wrap64 (x5_1 + 12)) = j_ := ⟨_, rfl⟩
      replace H : (if 0 ≤ (ji7) then (if (ji7) ≤ (wrap64 ((ji7) + t409)) then (if (wrap64 ((ji7) + t409)) ≤ (l0.length : Int) then ((some ((l0.take ((wrap64 ((ji7) + t409)) : Int).toNat).drop ((ji7) : Int).toNat : List Int)).bind fun y410 => ((shardlogref01_At.f l0 (wrap64 (x5_1 + 4))).bind fun t414 => (if 0 ≤ x5_1 then (if x5_1 ≤ (wrap64 (x5_1 + 4)) then (if (wrap64 (x5_1 + 4)) ≤ (l0.length : Int) then ((shardlogref02_Sum.f kj2 ((l0.take ((wrap64 (x5_1 + 4)) : Int).toNat).drop (x5_1 : Int).toNat)).bind fun t419 => (if t414 = (wrap64 (t419)) then ((shardlogref01_At.f l0 (wrap64 (x5_1 + 8))).bind fun t420 => ((shardlogref02_Sum.f kj2 y410).bind fun t421 => (if t420 = (wrap64 (t421)) then ((some (([] : List Int) : List Int)).bind fun y422 => (if y422.length + y410.length < 140737488355328 then (if x4_1.length < 5864062014805 then (shardlogref06_Scan.l0 kj2 l0 (x4_1 ++ [(y422 ++ y410)]) (wrap64 ((ji7) + t409))) else (none)) else (none))) else (some (x4_1, x5_1))))) else (some (x4_1, x5_1)))) else (none)) else (none)) else (none)))) else (none)) else (none)) else (none)) = some (r1, r2) := by first | (rw [hji7] at H; exact H) | (simp only [hji7] at H ⊢; exact H)
      have hji7w : (IntKind.i64.wrap (x5_1 + 12)) = ji7 := (i64_w _).trans hji7
      by_cases c8 : 0 ≤ (ji7)
      ·
       rw [if_pos c8] at H
       have c8b0 := eq_true c8
       have c8b1 : decide (0 ≤ (ji7)) = true := decide_eq_true c8
       clear c8
       by_cases c9 : (ji7) ≤ (wrap64 ((ji7) + t409))
       ·
        rw [if_pos c9] at H
        have c9b0 := eq_true c9
        have c9b1 : decide ((ji7) ≤ (wrap64 ((ji7) + t409))) = true := decide_eq_true c9
        by_cases c10 : (wrap64 ((ji7) + t409)) ≤ (l0.length : Int)
        ·
         rw [if_pos c10] at H
         have c10b0 := eq_true c10
         have c10b1 : decide ((wrap64 ((ji7) + t409)) ≤ (l0.length : Int)) = true := decide_eq_true c10
         obtain ⟨y410, hy410⟩ : ∃ y_ : List Int, y_ = ((l0.take ((wrap64 ((ji7) + t409)) : Int).toNat).drop ((ji7) : Int).toNat) := ⟨_, rfl⟩
         replace H : ((shardlogref01_At.f l0 (wrap64 (x5_1 + 4))).bind fun t414 => (if 0 ≤ x5_1 then (if x5_1 ≤ (wrap64 (x5_1 + 4)) then (if (wrap64 (x5_1 + 4)) ≤ (l0.length : Int) then ((shardlogref02_Sum.f kj2 ((l0.take ((wrap64 (x5_1 + 4)) : Int).toNat).drop (x5_1 : Int).toNat)).bind fun t419 => (if t414 = (wrap64 (t419)) then ((shardlogref01_At.f l0 (wrap64 (x5_1 + 8))).bind fun t420 => ((shardlogref02_Sum.f kj2 y410).bind fun t421 => (if t420 = (wrap64 (t421)) then ((some (([] : List Int) : List Int)).bind fun y422 => (if y422.length + y410.length < 140737488355328 then (if x4_1.length < 5864062014805 then (shardlogref06_Scan.l0 kj2 l0 (x4_1 ++ [(y422 ++ y410)]) (wrap64 ((ji7) + t409))) else (none)) else (none))) else (some (x4_1, x5_1))))) else (some (x4_1, x5_1)))) else (none)) else (none)) else (none))) = some (r1, r2) := by first | (rw [hy410]; with_reducible exact H) | (have H2_ := (Option.bind_some _ _).symm.trans H; rw [hy410]; with_reducible exact H2_) | (have H2_ := (Option.bind_some _ _).symm.trans H; with_reducible exact H2_) | with_reducible exact H | (rw [hy410]; exact H) | exact H
         have Ny410 := aS hy410
         clear hy410
         replace H := obm H
         obtain ⟨t414, A110, H⟩ := H
         replace H : (if 0 ≤ x5_1 then (if x5_1 ≤ (wrap64 (x5_1 + 4)) then (if (wrap64 (x5_1 + 4)) ≤ (l0.length : Int) then ((shardlogref02_Sum.f kj2 ((l0.take ((wrap64 (x5_1 + 4)) : Int).toNat).drop (x5_1 : Int).toNat)).bind fun t419 => (if t414 = (wrap64 (t419)) then ((shardlogref01_At.f l0 (wrap64 (x5_1 + 8))).bind fun t420 => ((shardlogref02_Sum.f kj2 y410).bind fun t421 => (if t420 = (wrap64 (t421)) then ((some (([] : List Int) : List Int)).bind fun y422 => (if y422.length + y410.length < 140737488355328 then (if x4_1.length < 5864062014805 then (shardlogref06_Scan.l0 kj2 l0 (x4_1 ++ [(y422 ++ y410)]) (wrap64 ((ji7) + t409))) else (none)) else (none))) else (some (x4_1, x5_1))))) else (some (x4_1, x5_1)))) else (none)) else (none)) else (none)) = some (r1, r2) := H
         have A11 := aS A110
         clear A110
         by_cases c12 : 0 ≤ x5_1
         ·
          rw [if_pos c12] at H
          have c12b0 := eq_true c12
          have c12b1 : decide (0 ≤ x5_1) = true := decide_eq_true c12
          clear c12
          by_cases c13 : x5_1 ≤ (wrap64 (x5_1 + 4))
          ·
           rw [if_pos c13] at H
           have c13b0 := eq_true c13
           have c13b1 : decide (x5_1 ≤ (wrap64 (x5_1 + 4))) = true := decide_eq_true c13
           by_cases c14 : (wrap64 (x5_1 + 4)) ≤ (l0.length : Int)
           ·
            rw [if_pos c14] at H
            have c14b0 := eq_true c14
            have c14b1 : decide ((wrap64 (x5_1 + 4)) ≤ (l0.length : Int)) = true := decide_eq_true c14
            obtain ⟨y415, hy415⟩ : ∃ y_ : List Int, y_ = ((l0.take ((wrap64 (x5_1 + 4)) : Int).toNat).drop (x5_1 : Int).toNat) := ⟨_, rfl⟩
            replace H : ((shardlogref02_Sum.f kj2 y415).bind fun t419 => (if t414 = (wrap64 (t419)) then ((shardlogref01_At.f l0 (wrap64 (x5_1 + 8))).bind fun t420 => ((shardlogref02_Sum.f kj2 y410).bind fun t421 => (if t420 = (wrap64 (t421)) then ((some (([] : List Int) : List Int)).bind fun y422 => (if y422.length + y410.length < 140737488355328 then (if x4_1.length < 5864062014805 then (shardlogref06_Scan.l0 kj2 l0 (x4_1 ++ [(y422 ++ y410)]) (wrap64 ((ji7) + t409))) else (none)) else (none))) else (some (x4_1, x5_1))))) else (some (x4_1, x5_1)))) = some (r1, r2) := by first | (rw [hy415]; with_reducible exact H) | (have H2_ := (Option.bind_some _ _).symm.trans H; rw [hy415]; with_reducible exact H2_) | (have H2_ := (Option.bind_some _ _).symm.trans H; with_reducible exact H2_) | with_reducible exact H | (rw [hy415]; exact H) | exact H
            have Ny415 := aS hy415
            clear hy415
            replace H := obm H
            obtain ⟨t419, A150, H⟩ := H
            replace H : (if t414 = (wrap64 (t419)) then ((shardlogref01_At.f l0 (wrap64 (x5_1 + 8))).bind fun t420 => ((shardlogref02_Sum.f kj2 y410).bind fun t421 => (if t420 = (wrap64 (t421)) then ((some (([] : List Int) : List Int)).bind fun y422 => (if y422.length + y410.length < 140737488355328 then (if x4_1.length < 5864062014805 then (shardlogref06_Scan.l0 kj2 l0 (x4_1 ++ [(y422 ++ y410)]) (wrap64 ((ji7) + t409))) else (none)) else (none))) else (some (x4_1, x5_1))))) else (some (x4_1, x5_1))) = some (r1, r2) := H
            have A15 := aS A150
            clear A150
            by_cases c16 : t414 = (wrap64 (t419))
            ·
             rw [if_pos c16] at H
             have c16b0 : (t414 == (wrap64 (t419))) = true := beq_iff_eq.mpr c16
             have c16b1 : (t414 != (wrap64 (t419))) = false := bne_eq_false_iff_eq.mpr c16
             clear c16
             replace H := obm H
             obtain ⟨t420, A170, H⟩ := H
             replace H : ((shardlogref02_Sum.f kj2 y410).bind fun t421 => (if t420 = (wrap64 (t421)) then ((some (([] : List Int) : List Int)).bind fun y422 => (if y422.length + y410.length < 140737488355328 then (if x4_1.length < 5864062014805 then (shardlogref06_Scan.l0 kj2 l0 (x4_1 ++ [(y422 ++ y410)]) (wrap64 ((ji7) + t409))) else (none)) else (none))) else (some (x4_1, x5_1)))) = some (r1, r2) := H
             have A17 := aS A170
             clear A170
             replace H := obm H
             obtain ⟨t421, A180, H⟩ := H
             replace H : (if t420 = (wrap64 (t421)) then ((some (([] : List Int) : List Int)).bind fun y422 => (if y422.length + y410.length < 140737488355328 then (if x4_1.length < 5864062014805 then (shardlogref06_Scan.l0 kj2 l0 (x4_1 ++ [(y422 ++ y410)]) (wrap64 ((ji7) + t409))) else (none)) else (none))) else (some (x4_1, x5_1))) = some (r1, r2) := H
             have A18 := aS A180
             clear A180
             by_cases c19 : t420 = (wrap64 (t421))
             ·
              rw [if_pos c19] at H
              have c19b0 : (t420 == (wrap64 (t421))) = true := beq_iff_eq.mpr c19
              have c19b1 : (t420 != (wrap64 (t421))) = false := bne_eq_false_iff_eq.mpr c19
              clear c19
              obtain ⟨y422, hy422⟩ : ∃ y_ : List Int, y_ = (([] : List Int)) := ⟨_, rfl⟩
              replace H : (if y422.length + y410.length < 140737488355328 then (if x4_1.length < 5864062014805 then (shardlogref06_Scan.l0 kj2 l0 (x4_1 ++ [(y422 ++ y410)]) (wrap64 ((ji7) + t409))) else (none)) else (none)) = some (r1, r2) := by first | (rw [hy422]; with_reducible exact H) | (have H2_ := (Option.bind_some _ _).symm.trans H; rw [hy422]; with_reducible exact H2_) | (have H2_ := (Option.bind_some _ _).symm.trans H; with_reducible exact H2_) | with_reducible exact H | (rw [hy422]; exact H) | exact H
              have Ny422 := aS hy422
              clear hy422
              by_cases c20 : y422.length + y410.length < 140737488355328
              ·
               rw [if_pos c20] at H
               have LMc20 := aS c20
               clear c20
               obtain ⟨y425, hy425⟩ : ∃ y_ : List Int, y_ = (y422 ++ y410) := ⟨_, rfl⟩
               replace H : (if x4_1.length < 5864062014805 then (shardlogref06_Scan.l0 kj2 l0 (x4_1 ++ [y425]) (wrap64 ((ji7) + t409))) else (none)) = some (r1, r2) := by first | (rw [hy425]; with_reducible exact H) | (have H2_ := (Option.bind_some _ _).symm.trans H; rw [hy425]; with_reducible exact H2_) | (have H2_ := (Option.bind_some _ _).symm.trans H; with_reducible exact H2_) | with_reducible exact H | (rw [hy425]; exact H) | exact H
               have Ny425 := aS hy425
               clear hy425
               by_cases c21 : x4_1.length < 5864062014805
               ·
                rw [if_pos c21] at H
                have LMc21 := aS c21
                clear c21
                obtain ⟨y428, hy428⟩ : ∃ y_ : List (List Int), y_ = (x4_1 ++ [y425]) := ⟨_, rfl⟩
                replace H : (shardlogref06_Scan.l0 kj2 l0 y428 (wrap64 ((ji7) + t409))) = some (r1, r2) := by first | (rw [hy428]; with_reducible exact H) | (have H2_ := (Option.bind_some _ _).symm.trans H; rw [hy428]; with_reducible exact H2_) | (have H2_ := (Option.bind_some _ _).symm.trans H; with_reducible exact H2_) | with_reducible exact H | (rw [hy428]; exact H) | exact H
                have Ny428 := aS hy428
                clear hy428
                have H' := aS H
                clear H
                have q22 : ((wrap64 ((ji7) + t409)) : Int) ≤ ((l0.length : Int) : Int) := odt (by first | (with_reducible assumption) | assumption)
                obtain ⟨i022, hi022, _, hsz22, _⟩ := info_parts info5
                have hroom22 : l0.length ≤ c0 := HC0.out
                have hC22 : Kd.C (Kd.int .u8) _ A0 l0.length l0 := HR0.out
                have ql22 : ((ji7) : Int) ≤ ((wrap64 ((ji7) + t409)) : Int) := odt (by first | (with_reducible assumption) | assumption)
                have q022 : (0 : Int) ≤ ((ji7) : Int) := odt (by first | (with_reducible assumption) | assumption)
                have hcut22 := cut_mid (P := Try.prog) 33 5 .i64 .i64 Try.underlying33 hi022 1 hsz22 A0 l0.length c0 (ji7) (wrap64 ((ji7) + t409)) q022 ql22 q22 hroom22
                have hr22 := Kd.C_mid (lo := ((ji7) : Int).toNat) (hi := ((wrap64 ((ji7) + t409)) : Int).toNat) (c := c0) hC22 (by omega) (by omega) hroom22
                obtain ⟨A22, hA22⟩ : ∃ A1_, A1_ = (if c0 = ((ji7) : Int).toNat then A0 else (A0 : Option Addr).map (·.add (((ji7) : Int).toNat * 1))) := ⟨_, rfl⟩
                obtain ⟨c22, hc22⟩ : ∃ c1_, c1_ = c0 - ((ji7) : Int).toNat := ⟨_, rfl⟩
                have hy22 : y410.length = ((wrap64 ((ji7) + t409)) : Int).toNat - ((ji7) : Int).toNat := (by rw [Ny410.out, lld, llt] <;> omega)
                rw [show ((l0).take ((wrap64 ((ji7) + t409)) : Int).toNat).drop ((ji7) : Int).toNat = y410 from Ny410.out.symm] at hr22
                replace hr22 : Kd.C (Kd.int .u8) _ A22 y410.length y410 := (by rw [hA22]; exact hr22)
                rw [← hy22, ← hA22, ← hc22] at hcut22
                have HR413 := aS hr22
                have HC413 := aS (show y410.length ≤ c22 from by rw [hy22, hc22]; exact Nat.sub_le_sub_right (Nat.le_trans (by omega) hroom22) _)
                clear hr22 hC22 hroom22 hi022 hsz22 hc22
                have KY22 := aS hy22
                have KA22 := aS hA22
                clear hy22 hA22
                replace q22 := eq_true q22
                have q23 : ((wrap64 (x5_1 + 4)) : Int) ≤ ((l0.length : Int) : Int) := odt (by first | (with_reducible assumption) | assumption)
                obtain ⟨i023, hi023, _, hsz23, _⟩ := info_parts info5
                have hroom23 : l0.length ≤ c0 := HC0.out
                have hC23 : Kd.C (Kd.int .u8) _ A0 l0.length l0 := HR0.out
                have ql23 : (x5_1 : Int) ≤ ((wrap64 (x5_1 + 4)) : Int) := odt (by first | (with_reducible assumption) | assumption)
                have q023 : (0 : Int) ≤ (x5_1 : Int) := odt (by first | (with_reducible assumption) | assumption)
                have hcut23 := cut_mid (P := Try.prog) 33 5 .i64 .i64 Try.underlying33 hi023 1 hsz23 A0 l0.length c0 x5_1 (wrap64 (x5_1 + 4)) q023 ql23 q23 hroom23
                have hr23 := Kd.C_mid (lo := (x5_1 : Int).toNat) (hi := ((wrap64 (x5_1 + 4)) : Int).toNat) (c := c0) hC23 (by omega) (by omega) hroom23
                obtain ⟨A23, hA23⟩ : ∃ A1_, A1_ = (if c0 = (x5_1 : Int).toNat then A0 else (A0 : Option Addr).map (·.add ((x5_1 : Int).toNat * 1))) := ⟨_, rfl⟩
                obtain ⟨c23, hc23⟩ : ∃ c1_, c1_ = c0 - (x5_1 : Int).toNat := ⟨_, rfl⟩
                have hy23 : y415.length = ((wrap64 (x5_1 + 4)) : Int).toNat - (x5_1 : Int).toNat := (by rw [Ny415.out, lld, llt] <;> omega)
                rw [show ((l0).take ((wrap64 (x5_1 + 4)) : Int).toNat).drop (x5_1 : Int).toNat = y415 from Ny415.out.symm] at hr23
                replace hr23 : Kd.C (Kd.int .u8) _ A23 y415.length y415 := (by rw [hA23]; exact hr23)
                rw [← hy23, ← hA23, ← hc23] at hcut23
                have HR418 := aS hr23
                have HC418 := aS (show y415.length ≤ c23 from by rw [hy23, hc23]; exact Nat.sub_le_sub_right (Nat.le_trans (by omega) hroom23) _)
                clear hr23 hC23 hroom23 hi023 hsz23 hc23
                have KY23 := aS hy23
                have KA23 := aS hA23
                clear hy23 hA23
                replace q23 := eq_true q23
                go_wp2_with (first | (go_at_call 35; (with_reducible refine (shardlogref01_At.calls _ _ l0 (wrap64 (x5_1 + 4)) t414 _ ?side1 ?side2 A11.out).mono ?_); (case side1 => repeat (first | exact (Kd.C_below HR0.out HB.out) | (with_reducible refine Kd.C_alloc ?_ _) | (with_reducible refine Kd.C_drewN ?_ _) | (with_reducible refine Kd.C_drew ?_))); (case side2 => exact HC0.out); rintro e w' ⟨rfl, ⟨nd, rfl⟩⟩; (try first | exact ⟨rfl, _, World.drewN_drewN _ _ _⟩ | exact ⟨rfl, _, Eq.trans (World.drewN_drewN _ _ _) (congrArg (World.drewN _) (Nat.add_assoc _ _ _))⟩)) | (go_at_call 45; (with_reducible refine (shardlogref02_Sum.calls kj2 _ _ y415 t419 _ ?side1 ?side2 A15.out).mono ?_); (case side1 => repeat (first | exact (Kd.C_below HR418.out (by repeat (first | (with_reducible first | exact HB.out | apply bal | apply bdN | apply bdo) | exact HB.out))) | (with_reducible refine Kd.C_alloc ?_ _) | (with_reducible refine Kd.C_drewN ?_ _) | (with_reducible refine Kd.C_drew ?_))); (case side2 => exact HC418.out); rintro e w' ⟨rfl, ⟨nd, rfl⟩⟩; (try first | exact ⟨rfl, _, World.drewN_drewN _ _ _⟩ | exact ⟨rfl, _, Eq.trans (World.drewN_drewN _ _ _) (congrArg (World.drewN _) (Nat.add_assoc _ _ _))⟩)) | (go_at_call 35; (with_reducible refine (shardlogref01_At.calls _ _ l0 (wrap64 (x5_1 + 8)) t420 _ ?side1 ?side2 A17.out).mono ?_); (case side1 => repeat (first | exact (Kd.C_below HR0.out (by repeat (first | (with_reducible first | exact HB.out | apply bal | apply bdN | apply bdo) | exact HB.out))) | (with_reducible refine Kd.C_alloc ?_ _) | (with_reducible refine Kd.C_drewN ?_ _) | (with_reducible refine Kd.C_drew ?_))); (case side2 => exact HC0.out); rintro e w' ⟨rfl, ⟨nd, rfl⟩⟩; (try first | exact ⟨rfl, _, World.drewN_drewN _ _ _⟩ | exact ⟨rfl, _, Eq.trans (World.drewN_drewN _ _ _) (congrArg (World.drewN _) (Nat.add_assoc _ _ _))⟩)) | (go_at_call 45; (with_reducible refine (shardlogref02_Sum.calls kj2 _ _ y410 t421 _ ?side1 ?side2 A18.out).mono ?_); (case side1 => repeat (first | exact (Kd.C_below HR413.out (by repeat (first | (with_reducible first | exact HB.out | apply bal | apply bdN | apply bdo) | exact HB.out))) | (with_reducible refine Kd.C_alloc ?_ _) | (with_reducible refine Kd.C_drewN ?_ _) | (with_reducible refine Kd.C_drew ?_))); (case side2 => exact HC413.out); rintro e w' ⟨rfl, ⟨nd, rfl⟩⟩; (try first | exact ⟨rfl, _, World.drewN_drewN _ _ _⟩ | exact ⟨rfl, _, Eq.trans (World.drewN_drewN _ _ _) (congrArg (World.drewN _) (Nat.add_assoc _ _ _))⟩)) | ((with_reducible refine gate_dst (N := 61) rfl ?_); (try (refine gate_guard (by rfl) ?_; dsimp only)); refine Kd.R_lit (Kd.int .u8) _ 5 ?hg (N := 61) ?hd (xs := ([] : List Int)) (inner := []) (ok := fun _ => True) (okp := fun _ => True) ?hr ?hp (fun _ hk => hk) trivial (Below.refl _ _) (Nat.le_refl _) (by simp) ?_; (case hd => rfl); (case hg => rfl); (case hr => first | (go_simp; done) | (go_simp; rfl)); (case hp => exact (Reps.none _ _)); intro v423 w24 ho25 hb hg_ hnew_; clear hg_ hnew_; (first | rw [← Ny422.out] at ho25 | (simp only [Int.reduceToNat] at ho25; rw [← Ny422.out] at ho25)); have n0_ := aS (Kd.S_elder' (by (with_reducible repeat (first | apply Kd.S_alloc | apply Kd.S_drewN | apply Kd.S_drew)); exact HO_4.out) (by first | exact Kd.R_base ho25 | exact Kd.S_base ho25 | exact Kd.R_base ho25 | exact Kd.V_base ho25) hb); have n1_ := aS (Kd.R_lower ho25 (below_size (by repeat (first | (with_reducible first | exact HB.out | apply bal | apply bdN | apply bdo) | exact HB.out)))); have n2_ := aS (below_step (by repeat (first | (with_reducible first | exact HB.out | apply bal | apply bdN | apply bdo) | exact HB.out)) hb); clear HO_4; clear HB; have HO_4 := n0_; have HO424 := n1_; have HB := n2_; clear n0_ n1_ n2_; clear hb ho25) | ((with_reducible refine gate_builtin (b := .append) (xs := #[.tmp 61, .tmp 62]) rfl ?_); (try (refine gate_guard (by rfl) ?_; dsimp only)); at_builtin; refine Kd.R_append_rows (Kd.int .u8) (w0 := w) w.heap.size rfl (.tmp 61) (.tmp 62) 33 5 (.int .u8 0) 1 rfl Try.underlying33 info5 rfl (by decide) (by omega) v423 y422 y410 _ _ _ (fun _ => True) (fun _ => False) rfl rfl ?aO ?aR (fun _ _ h => h) (fun _ h => h.elim) ?aF ?aB ?aS ?aL ?_; (case aR => repeat (first | exact (Kd.C_below HR413.out HB.out) | (with_reducible refine Kd.C_alloc ?_ _) | (with_reducible refine Kd.C_drewN ?_ _) | (with_reducible refine Kd.C_drew ?_))); (case aB => exact (by repeat (first | (with_reducible first | exact HB.out | apply bal | apply bdN | apply bdo) | exact HB.out))); (case aF => exact (fun _ _ => trivial)); (case aO => exact (by (with_reducible repeat (first | apply Kd.R_alloc | apply Kd.R_drewN | apply Kd.R_drew)); exact HO424.out)); (case aS => exact (below_size (by repeat (first | (with_reducible first | exact HB.out | apply bal | apply bdN | apply bdo) | exact HB.out)))); (case aL => have := LMc20.out; omega); intro v426 w26 ho hb hg hat; rw [← Ny425.out] at ho; have n0_ := aS (Kd.S_after (ok := (fun _ => True)) (by (with_reducible repeat (first | apply Kd.S_alloc | apply Kd.S_drewN | apply Kd.S_drew)); exact HO_4.out) hg hat); have n1_ := aS (hb); have n2_ := aS (ho); clear HO_4; clear HB; clear HO424; have HO_4 := n0_; have HB := n1_; have HO427 := n2_; clear n0_ n1_ n2_; clear ho hb hg hat; obtain ⟨Ao28, co28, eo28⟩ := Kd.R_slice HO427.out; subst eo28) | ((with_reducible refine gate_builtin (b := .append) (xs := #[.tmp 60, .tmp 64]) rfl ?_); (try (refine gate_guard (by rfl) ?_; dsimp only)); at_builtin; refine Kd.S_append (Kd.slice 5 (Kd.int .u8)) (w0 := w) w.heap.size rfl (.tmp 60) (.tmp 64) 57 33 (.slice none 0 0) 24 rfl Try.underlying57 info33 rfl (by decide) (by omega) u4 x4_1 y425 [.slice Ao28 y425.length co28] (fun _ => True) (fun k_ => some k_ = (.slice Ao28 y425.length co28 : Value).ownBlock) rfl rfl ?aP (fun k_ hk_ => ((Kd.R_mono (ok' := fun k_ => ((fun _ => True)) k_ ∧ some k_ ≠ (u4 : Value).ownBlock) (Kd.R_apart' (HO427.out) (Kd.S_typed HO_4.out) (by decide)) (fun k_ hk => ⟨trivial, hk.2⟩))).1 k_ hk_.symm) ?aF ?aO ?aB ?aS ?aL ?_; (case aP => exact Kd.M_row (Kd.R_mono (Kd.R_tight rfl (Kd.R_mono (ok' := fun k_ => ((fun _ => True)) k_ ∧ some k_ ≠ (u4 : Value).ownBlock) (Kd.R_apart' (HO427.out) (Kd.S_typed HO_4.out) (by decide)) (fun k_ hk => ⟨trivial, hk.2⟩))) (fun _ h_ => h_))); (case aB => exact (by repeat (first | (with_reducible first | exact HB.out | apply bal | apply bdN | apply bdo) | exact HB.out))); (case aF => exact (fun _ _ => trivial)); (case aO => exact (by (with_reducible repeat (first | apply Kd.S_alloc | apply Kd.S_drewN | apply Kd.S_drew)); exact Kd.S_mono HO_4.out (fun k_ hk => ⟨trivial, fun e_ => hk.2 e_⟩))); (case aS => exact (below_size (by repeat (first | (with_reducible first | exact HB.out | apply bal | apply bdN | apply bdo) | exact HB.out)))); (case aL => have := LMc21.out; omega); intro v429 w27 ho hb hg hat; rw [← Ny428.out] at ho; have n0_ := aS (hb); have n1_ := aS (ho); clear HB; clear HO_4; clear HO427; have HB := n0_; have HO430 := n1_; clear n0_ n1_; clear ho hb hg hat))
                repeat (go_quiet (first | (go_at_call 35; (with_reducible refine (shardlogref01_At.calls _ _ l0 (wrap64 (x5_1 + 4)) t414 _ ?side1 ?side2 A11.out).mono ?_); (case side1 => repeat (first | exact (Kd.C_below HR0.out HB.out) | (with_reducible refine Kd.C_alloc ?_ _) | (with_reducible refine Kd.C_drewN ?_ _) | (with_reducible refine Kd.C_drew ?_))); (case side2 => exact HC0.out); rintro e w' ⟨rfl, ⟨nd, rfl⟩⟩; (try first | exact ⟨rfl, _, World.drewN_drewN _ _ _⟩ | exact ⟨rfl, _, Eq.trans (World.drewN_drewN _ _ _) (congrArg (World.drewN _) (Nat.add_assoc _ _ _))⟩)) | (go_at_call 45; (with_reducible refine (shardlogref02_Sum.calls kj2 _ _ y415 t419 _ ?side1 ?side2 A15.out).mono ?_); (case side1 => repeat (first | exact (Kd.C_below HR418.out (by repeat (first | (with_reducible first | exact HB.out | apply bal | apply bdN | apply bdo) | exact HB.out))) | (with_reducible refine Kd.C_alloc ?_ _) | (with_reducible refine Kd.C_drewN ?_ _) | (with_reducible refine Kd.C_drew ?_))); (case side2 => exact HC418.out); rintro e w' ⟨rfl, ⟨nd, rfl⟩⟩; (try first | exact ⟨rfl, _, World.drewN_drewN _ _ _⟩ | exact ⟨rfl, _, Eq.trans (World.drewN_drewN _ _ _) (congrArg (World.drewN _) (Nat.add_assoc _ _ _))⟩)) | (go_at_call 35; (with_reducible refine (shardlogref01_At.calls _ _ l0 (wrap64 (x5_1 + 8)) t420 _ ?side1 ?side2 A17.out).mono ?_); (case side1 => repeat (first | exact (Kd.C_below HR0.out (by repeat (first | (with_reducible first | exact HB.out | apply bal | apply bdN | apply bdo) | exact HB.out))) | (with_reducible refine Kd.C_alloc ?_ _) | (with_reducible refine Kd.C_drewN ?_ _) | (with_reducible refine Kd.C_drew ?_))); (case side2 => exact HC0.out); rintro e w' ⟨rfl, ⟨nd, rfl⟩⟩; (try first | exact ⟨rfl, _, World.drewN_drewN _ _ _⟩ | exact ⟨rfl, _, Eq.trans (World.drewN_drewN _ _ _) (congrArg (World.drewN _) (Nat.add_assoc _ _ _))⟩)) | (go_at_call 45; (with_reducible refine (shardlogref02_Sum.calls kj2 _ _ y410 t421 _ ?side1 ?side2 A18.out).mono ?_); (case side1 => repeat (first | exact (Kd.C_below HR413.out (by repeat (first | (with_reducible first | exact HB.out | apply bal | apply bdN | apply bdo) | exact HB.out))) | (with_reducible refine Kd.C_alloc ?_ _) | (with_reducible refine Kd.C_drewN ?_ _) | (with_reducible refine Kd.C_drew ?_))); (case side2 => exact HC413.out); rintro e w' ⟨rfl, ⟨nd, rfl⟩⟩; (try first | exact ⟨rfl, _, World.drewN_drewN _ _ _⟩ | exact ⟨rfl, _, Eq.trans (World.drewN_drewN _ _ _) (congrArg (World.drewN _) (Nat.add_assoc _ _ _))⟩)) | ((with_reducible refine gate_dst (N := 61) rfl ?_); (try (refine gate_guard (by rfl) ?_; dsimp only)); refine Kd.R_lit (Kd.int .u8) _ 5 ?hg (N := 61) ?hd (xs := ([] : List Int)) (inner := []) (ok := fun _ => True) (okp := fun _ => True) ?hr ?hp (fun _ hk => hk) trivial (Below.refl _ _) (Nat.le_refl _) (by simp) ?_; (case hd => rfl); (case hg => rfl); (case hr => first | (go_simp; done) | (go_simp; rfl)); (case hp => exact (Reps.none _ _)); intro v423 w24 ho25 hb hg_ hnew_; clear hg_ hnew_; (first | rw [← Ny422.out] at ho25 | (simp only [Int.reduceToNat] at ho25; rw [← Ny422.out] at ho25)); have n0_ := aS (Kd.S_elder' (by (with_reducible repeat (first | apply Kd.S_alloc | apply Kd.S_drewN | apply Kd.S_drew)); exact HO_4.out) (by first | exact Kd.R_base ho25 | exact Kd.S_base ho25 | exact Kd.R_base ho25 | exact Kd.V_base ho25) hb); have n1_ := aS (Kd.R_lower ho25 (below_size (by repeat (first | (with_reducible first | exact HB.out | apply bal | apply bdN | apply bdo) | exact HB.out)))); have n2_ := aS (below_step (by repeat (first | (with_reducible first | exact HB.out | apply bal | apply bdN | apply bdo) | exact HB.out)) hb); clear HO_4; clear HB; have HO_4 := n0_; have HO424 := n1_; have HB := n2_; clear n0_ n1_ n2_; clear hb ho25) | ((with_reducible refine gate_builtin (b := .append) (xs := #[.tmp 61, .tmp 62]) rfl ?_); (try (refine gate_guard (by rfl) ?_; dsimp only)); at_builtin; refine Kd.R_append_rows (Kd.int .u8) (w0 := w) w.heap.size rfl (.tmp 61) (.tmp 62) 33 5 (.int .u8 0) 1 rfl Try.underlying33 info5 rfl (by decide) (by omega) v423 y422 y410 _ _ _ (fun _ => True) (fun _ => False) rfl rfl ?aO ?aR (fun _ _ h => h) (fun _ h => h.elim) ?aF ?aB ?aS ?aL ?_; (case aR => repeat (first | exact (Kd.C_below HR413.out HB.out) | (with_reducible refine Kd.C_alloc ?_ _) | (with_reducible refine Kd.C_drewN ?_ _) | (with_reducible refine Kd.C_drew ?_))); (case aB => exact (by repeat (first | (with_reducible first | exact HB.out | apply bal | apply bdN | apply bdo) | exact HB.out))); (case aF => exact (fun _ _ => trivial)); (case aO => exact (by (with_reducible repeat (first | apply Kd.R_alloc | apply Kd.R_drewN | apply Kd.R_drew)); exact HO424.out)); (case aS => exact (below_size (by repeat (first | (with_reducible first | exact HB.out | apply bal | apply bdN | apply bdo) | exact HB.out)))); (case aL => have := LMc20.out; omega); intro v426 w26 ho hb hg hat; rw [← Ny425.out] at ho; have n0_ := aS (Kd.S_after (ok := (fun _ => True)) (by (with_reducible repeat (first | apply Kd.S_alloc | apply Kd.S_drewN | apply Kd.S_drew)); exact HO_4.out) hg hat); have n1_ := aS (hb); have n2_ := aS (ho); clear HO_4; clear HB; clear HO424; have HO_4 := n0_; have HB := n1_; have HO427 := n2_; clear n0_ n1_ n2_; clear ho hb hg hat; obtain ⟨Ao28, co28, eo28⟩ := Kd.R_slice HO427.out; subst eo28) | ((with_reducible refine gate_builtin (b := .append) (xs := #[.tmp 60, .tmp 64]) rfl ?_); (try (refine gate_guard (by rfl) ?_; dsimp only)); at_builtin; refine Kd.S_append (Kd.slice 5 (Kd.int .u8)) (w0 := w) w.heap.size rfl (.tmp 60) (.tmp 64) 57 33 (.slice none 0 0) 24 rfl Try.underlying57 info33 rfl (by decide) (by omega) u4 x4_1 y425 [.slice Ao28 y425.length co28] (fun _ => True) (fun k_ => some k_ = (.slice Ao28 y425.length co28 : Value).ownBlock) rfl rfl ?aP (fun k_ hk_ => ((Kd.R_mono (ok' := fun k_ => ((fun _ => True)) k_ ∧ some k_ ≠ (u4 : Value).ownBlock) (Kd.R_apart' (HO427.out) (Kd.S_typed HO_4.out) (by decide)) (fun k_ hk => ⟨trivial, hk.2⟩))).1 k_ hk_.symm) ?aF ?aO ?aB ?aS ?aL ?_; (case aP => exact Kd.M_row (Kd.R_mono (Kd.R_tight rfl (Kd.R_mono (ok' := fun k_ => ((fun _ => True)) k_ ∧ some k_ ≠ (u4 : Value).ownBlock) (Kd.R_apart' (HO427.out) (Kd.S_typed HO_4.out) (by decide)) (fun k_ hk => ⟨trivial, hk.2⟩))) (fun _ h_ => h_))); (case aB => exact (by repeat (first | (with_reducible first | exact HB.out | apply bal | apply bdN | apply bdo) | exact HB.out))); (case aF => exact (fun _ _ => trivial)); (case aO => exact (by (with_reducible repeat (first | apply Kd.S_alloc | apply Kd.S_drewN | apply Kd.S_drew)); exact Kd.S_mono HO_4.out (fun k_ hk => ⟨trivial, fun e_ => hk.2 e_⟩))); (case aS => exact (below_size (by repeat (first | (with_reducible first | exact HB.out | apply bal | apply bdN | apply bdo) | exact HB.out)))); (case aL => have := LMc21.out; omega); intro v429 w27 ho hb hg hat; rw [← Ny428.out] at ho; have n0_ := aS (hb); have n1_ := aS (ho); clear HB; clear HO_4; clear HO427; have HB := n0_; have HO430 := n1_; clear n0_ n1_; clear ho hb hg hat)); try go_wp2_with (first | (go_at_call 35; (with_reducible refine (shardlogref01_At.calls _ _ l0 (wrap64 (x5_1 + 4)) t414 _ ?side1 ?side2 A11.out).mono ?_); (case side1 => repeat (first | exact (Kd.C_below HR0.out HB.out) | (with_reducible refine Kd.C_alloc ?_ _) | (with_reducible refine Kd.C_drewN ?_ _) | (with_reducible refine Kd.C_drew ?_))); (case side2 => exact HC0.out); rintro e w' ⟨rfl, ⟨nd, rfl⟩⟩; (try first | exact ⟨rfl, _, World.drewN_drewN _ _ _⟩ | exact ⟨rfl, _, Eq.trans (World.drewN_drewN _ _ _) (congrArg (World.drewN _) (Nat.add_assoc _ _ _))⟩)) | (go_at_call 45; (with_reducible refine (shardlogref02_Sum.calls kj2 _ _ y415 t419 _ ?side1 ?side2 A15.out).mono ?_); (case side1 => repeat (first | exact (Kd.C_below HR418.out (by repeat (first | (with_reducible first | exact HB.out | apply bal | apply bdN | apply bdo) | exact HB.out))) | (with_reducible refine Kd.C_alloc ?_ _) | (with_reducible refine Kd.C_drewN ?_ _) | (with_reducible refine Kd.C_drew ?_))); (case side2 => exact HC418.out); rintro e w' ⟨rfl, ⟨nd, rfl⟩⟩; (try first | exact ⟨rfl, _, World.drewN_drewN _ _ _⟩ | exact ⟨rfl, _, Eq.trans (World.drewN_drewN _ _ _) (congrArg (World.drewN _) (Nat.add_assoc _ _ _))⟩)) | (go_at_call 35; (with_reducible refine (shardlogref01_At.calls _ _ l0 (wrap64 (x5_1 + 8)) t420 _ ?side1 ?side2 A17.out).mono ?_); (case side1 => repeat (first | exact (Kd.C_below HR0.out (by repeat (first | (with_reducible first | exact HB.out | apply bal | apply bdN | apply bdo) | exact HB.out))) | (with_reducible refine Kd.C_alloc ?_ _) | (with_reducible refine Kd.C_drewN ?_ _) | (with_reducible refine Kd.C_drew ?_))); (case side2 => exact HC0.out); rintro e w' ⟨rfl, ⟨nd, rfl⟩⟩; (try first | exact ⟨rfl, _, World.drewN_drewN _ _ _⟩ | exact ⟨rfl, _, Eq.trans (World.drewN_drewN _ _ _) (congrArg (World.drewN _) (Nat.add_assoc _ _ _))⟩)) | (go_at_call 45; (with_reducible refine (shardlogref02_Sum.calls kj2 _ _ y410 t421 _ ?side1 ?side2 A18.out).mono ?_); (case side1 => repeat (first | exact (Kd.C_below HR413.out (by repeat (first | (with_reducible first | exact HB.out | apply bal | apply bdN | apply bdo) | exact HB.out))) | (with_reducible refine Kd.C_alloc ?_ _) | (with_reducible refine Kd.C_drewN ?_ _) | (with_reducible refine Kd.C_drew ?_))); (case side2 => exact HC413.out); rintro e w' ⟨rfl, ⟨nd, rfl⟩⟩; (try first | exact ⟨rfl, _, World.drewN_drewN _ _ _⟩ | exact ⟨rfl, _, Eq.trans (World.drewN_drewN _ _ _) (congrArg (World.drewN _) (Nat.add_assoc _ _ _))⟩)) | ((with_reducible refine gate_dst (N := 61) rfl ?_); (try (refine gate_guard (by rfl) ?_; dsimp only)); refine Kd.R_lit (Kd.int .u8) _ 5 ?hg (N := 61) ?hd (xs := ([] : List Int)) (inner := []) (ok := fun _ => True) (okp := fun _ => True) ?hr ?hp (fun _ hk => hk) trivial (Below.refl _ _) (Nat.le_refl _) (by simp) ?_; (case hd => rfl); (case hg => rfl); (case hr => first | (go_simp; done) | (go_simp; rfl)); (case hp => exact (Reps.none _ _)); intro v423 w24 ho25 hb hg_ hnew_; clear hg_ hnew_; (first | rw [← Ny422.out] at ho25 | (simp only [Int.reduceToNat] at ho25; rw [← Ny422.out] at ho25)); have n0_ := aS (Kd.S_elder' (by (with_reducible repeat (first | apply Kd.S_alloc | apply Kd.S_drewN | apply Kd.S_drew)); exact HO_4.out) (by first | exact Kd.R_base ho25 | exact Kd.S_base ho25 | exact Kd.R_base ho25 | exact Kd.V_base ho25) hb); have n1_ := aS (Kd.R_lower ho25 (below_size (by repeat (first | (with_reducible first | exact HB.out | apply bal | apply bdN | apply bdo) | exact HB.out)))); have n2_ := aS (below_step (by repeat (first | (with_reducible first | exact HB.out | apply bal | apply bdN | apply bdo) | exact HB.out)) hb); clear HO_4; clear HB; have HO_4 := n0_; have HO424 := n1_; have HB := n2_; clear n0_ n1_ n2_; clear hb ho25) | ((with_reducible refine gate_builtin (b := .append) (xs := #[.tmp 61, .tmp 62]) rfl ?_); (try (refine gate_guard (by rfl) ?_; dsimp only)); at_builtin; refine Kd.R_append_rows (Kd.int .u8) (w0 := w) w.heap.size rfl (.tmp 61) (.tmp 62) 33 5 (.int .u8 0) 1 rfl Try.underlying33 info5 rfl (by decide) (by omega) v423 y422 y410 _ _ _ (fun _ => True) (fun _ => False) rfl rfl ?aO ?aR (fun _ _ h => h) (fun _ h => h.elim) ?aF ?aB ?aS ?aL ?_; (case aR => repeat (first | exact (Kd.C_below HR413.out HB.out) | (with_reducible refine Kd.C_alloc ?_ _) | (with_reducible refine Kd.C_drewN ?_ _) | (with_reducible refine Kd.C_drew ?_))); (case aB => exact (by repeat (first | (with_reducible first | exact HB.out | apply bal | apply bdN | apply bdo) | exact HB.out))); (case aF => exact (fun _ _ => trivial)); (case aO => exact (by (with_reducible repeat (first | apply Kd.R_alloc | apply Kd.R_drewN | apply Kd.R_drew)); exact HO424.out)); (case aS => exact (below_size (by repeat (first | (with_reducible first | exact HB.out | apply bal | apply bdN | apply bdo) | exact HB.out)))); (case aL => have := LMc20.out; omega); intro v426 w26 ho hb hg hat; rw [← Ny425.out] at ho; have n0_ := aS (Kd.S_after (ok := (fun _ => True)) (by (with_reducible repeat (first | apply Kd.S_alloc | apply Kd.S_drewN | apply Kd.S_drew)); exact HO_4.out) hg hat); have n1_ := aS (hb); have n2_ := aS (ho); clear HO_4; clear HB; clear HO424; have HO_4 := n0_; have HB := n1_; have HO427 := n2_; clear n0_ n1_ n2_; clear ho hb hg hat; obtain ⟨Ao28, co28, eo28⟩ := Kd.R_slice HO427.out; subst eo28) | ((with_reducible refine gate_builtin (b := .append) (xs := #[.tmp 60, .tmp 64]) rfl ?_); (try (refine gate_guard (by rfl) ?_; dsimp only)); at_builtin; refine Kd.S_append (Kd.slice 5 (Kd.int .u8)) (w0 := w) w.heap.size rfl (.tmp 60) (.tmp 64) 57 33 (.slice none 0 0) 24 rfl Try.underlying57 info33 rfl (by decide) (by omega) u4 x4_1 y425 [.slice Ao28 y425.length co28] (fun _ => True) (fun k_ => some k_ = (.slice Ao28 y425.length co28 : Value).ownBlock) rfl rfl ?aP (fun k_ hk_ => ((Kd.R_mono (ok' := fun k_ => ((fun _ => True)) k_ ∧ some k_ ≠ (u4 : Value).ownBlock) (Kd.R_apart' (HO427.out) (Kd.S_typed HO_4.out) (by decide)) (fun k_ hk => ⟨trivial, hk.2⟩))).1 k_ hk_.symm) ?aF ?aO ?aB ?aS ?aL ?_; (case aP => exact Kd.M_row (Kd.R_mono (Kd.R_tight rfl (Kd.R_mono (ok' := fun k_ => ((fun _ => True)) k_ ∧ some k_ ≠ (u4 : Value).ownBlock) (Kd.R_apart' (HO427.out) (Kd.S_typed HO_4.out) (by decide)) (fun k_ hk => ⟨trivial, hk.2⟩))) (fun _ h_ => h_))); (case aB => exact (by repeat (first | (with_reducible first | exact HB.out | apply bal | apply bdN | apply bdo) | exact HB.out))); (case aF => exact (fun _ _ => trivial)); (case aO => exact (by (with_reducible repeat (first | apply Kd.S_alloc | apply Kd.S_drewN | apply Kd.S_drew)); exact Kd.S_mono HO_4.out (fun k_ hk => ⟨trivial, fun e_ => hk.2 e_⟩))); (case aS => exact (below_size (by repeat (first | (with_reducible first | exact HB.out | apply bal | apply bdN | apply bdo) | exact HB.out)))); (case aL => have := LMc21.out; omega); intro v429 w27 ho hb hg hat; rw [← Ny428.out] at ho; have n0_ := aS (hb); have n1_ := aS (ho); clear HB; clear HO_4; clear HO427; have HB := n0_; have HO430 := n1_; clear n0_ n1_; clear ho hb hg hat)))
                go_roundg kj2
                case measure => have := HK1.out; have := HJ2.out; omega
                case rel => exact ⟨(y428), (wrap64 ((ji7) + t409)), (by first | rfl | (simp; done) | (simp only [← hji7] <;> (first | rfl | simp)) | (simp [*]; done)), H', ⟨by have := HK1.out; have := HJ2.out; omega⟩, ⟨by (with_reducible repeat (first | apply Kd.S_alloc | apply Kd.S_drewN | apply Kd.S_drew)); exact HO430.out⟩, ⟨by repeat (first | (with_reducible first | exact HB.out | apply bal | apply bdN | apply bdo) | exact HB.out)⟩⟩
               ·
                rw [if_neg c21] at H
                exact absurd H (by simp)
              ·
               rw [if_neg c20] at H
               exact absurd H (by simp)
             ·
              rw [if_neg c19] at H
              have c19b0 : (t420 == (wrap64 (t421))) = false := beq_eq_false_iff_ne.mpr c19
              have c19b1 : (t420 != (wrap64 (t421))) = true := bne_iff_ne.mpr c19
              simp only [Option.some.injEq, Prod.mk.injEq] at H
              obtain ⟨rfl, rfl⟩ := H
              have q29 : ((wrap64 ((ji7) + t409)) : Int) ≤ ((l0.length : Int) : Int) := odt (by first | (with_reducible assumption) | assumption)
              obtain ⟨i029, hi029, _, hsz29, _⟩ := info_parts info5
              have hroom29 : l0.length ≤ c0 := HC0.out
              have hC29 : Kd.C (Kd.int .u8) _ A0 l0.length l0 := HR0.out
              have ql29 : ((ji7) : Int) ≤ ((wrap64 ((ji7) + t409)) : Int) := odt (by first | (with_reducible assumption) | assumption)
              have q029 : (0 : Int) ≤ ((ji7) : Int) := odt (by first | (with_reducible assumption) | assumption)
              have hcut29 := cut_mid (P := Try.prog) 33 5 .i64 .i64 Try.underlying33 hi029 1 hsz29 A0 l0.length c0 (ji7) (wrap64 ((ji7) + t409)) q029 ql29 q29 hroom29
              have hr29 := Kd.C_mid (lo := ((ji7) : Int).toNat) (hi := ((wrap64 ((ji7) + t409)) : Int).toNat) (c := c0) hC29 (by omega) (by omega) hroom29
              obtain ⟨A29, hA29⟩ : ∃ A1_, A1_ = (if c0 = ((ji7) : Int).toNat then A0 else (A0 : Option Addr).map (·.add (((ji7) : Int).toNat * 1))) := ⟨_, rfl⟩
              obtain ⟨c29, hc29⟩ : ∃ c1_, c1_ = c0 - ((ji7) : Int).toNat := ⟨_, rfl⟩
              have hy29 : y410.length = ((wrap64 ((ji7) + t409)) : Int).toNat - ((ji7) : Int).toNat := (by rw [Ny410.out, lld, llt] <;> omega)
              rw [show ((l0).take ((wrap64 ((ji7) + t409)) : Int).toNat).drop ((ji7) : Int).toNat = y410 from Ny410.out.symm] at hr29
              replace hr29 : Kd.C (Kd.int .u8) _ A29 y410.length y410 := (by rw [hA29]; exact hr29)
              rw [← hy29, ← hA29, ← hc29] at hcut29
              have HR413 := aS hr29
              have HC413 := aS (show y410.length ≤ c29 from by rw [hy29, hc29]; exact Nat.sub_le_sub_right (Nat.le_trans (by omega) hroom29) _)
              clear hr29 hC29 hroom29 hi029 hsz29 hc29
              have KY29 := aS hy29
              have KA29 := aS hA29
              clear hy29 hA29
              replace q29 := eq_true q29
              have q30 : ((wrap64 (x5_1 + 4)) : Int) ≤ ((l0.length : Int) : Int) := odt (by first | (with_reducible assumption) | assumption)
              obtain ⟨i030, hi030, _, hsz30, _⟩ := info_parts info5
              have hroom30 : l0.length ≤ c0 := HC0.out
              have hC30 : Kd.C (Kd.int .u8) _ A0 l0.length l0 := HR0.out
              have ql30 : (x5_1 : Int) ≤ ((wrap64 (x5_1 + 4)) : Int) := odt (by first | (with_reducible assumption) | assumption)
              have q030 : (0 : Int) ≤ (x5_1 : Int) := odt (by first | (with_reducible assumption) | assumption)
              have hcut30 := cut_mid (P := Try.prog) 33 5 .i64 .i64 Try.underlying33 hi030 1 hsz30 A0 l0.length c0 x5_1 (wrap64 (x5_1 + 4)) q030 ql30 q30 hroom30
              have hr30 := Kd.C_mid (lo := (x5_1 : Int).toNat) (hi := ((wrap64 (x5_1 + 4)) : Int).toNat) (c := c0) hC30 (by omega) (by omega) hroom30
              obtain ⟨A30, hA30⟩ : ∃ A1_, A1_ = (if c0 = (x5_1 : Int).toNat then A0 else (A0 : Option Addr).map (·.add ((x5_1 : Int).toNat * 1))) := ⟨_, rfl⟩
              obtain ⟨c30, hc30⟩ : ∃ c1_, c1_ = c0 - (x5_1 : Int).toNat := ⟨_, rfl⟩
              have hy30 : y415.length = ((wrap64 (x5_1 + 4)) : Int).toNat - (x5_1 : Int).toNat := (by rw [Ny415.out, lld, llt] <;> omega)
              rw [show ((l0).take ((wrap64 (x5_1 + 4)) : Int).toNat).drop (x5_1 : Int).toNat = y415 from Ny415.out.symm] at hr30
              replace hr30 : Kd.C (Kd.int .u8) _ A30 y415.length y415 := (by rw [hA30]; exact hr30)
              rw [← hy30, ← hA30, ← hc30] at hcut30
              have HR418 := aS hr30
              have HC418 := aS (show y415.length ≤ c30 from by rw [hy30, hc30]; exact Nat.sub_le_sub_right (Nat.le_trans (by omega) hroom30) _)
              clear hr30 hC30 hroom30 hi030 hsz30 hc30
              have KY30 := aS hy30
              have KA30 := aS hA30
              clear hy30 hA30
              replace q30 := eq_true q30
              go_wp2_with (first | (go_at_call 35; (with_reducible refine (shardlogref01_At.calls _ _ l0 (wrap64 (x5_1 + 4)) t414 _ ?side1 ?side2 A11.out).mono ?_); (case side1 => repeat (first | exact (Kd.C_below HR0.out HB.out) | (with_reducible refine Kd.C_alloc ?_ _) | (with_reducible refine Kd.C_drewN ?_ _) | (with_reducible refine Kd.C_drew ?_))); (case side2 => exact HC0.out); rintro e w' ⟨rfl, ⟨nd, rfl⟩⟩; (try first | exact ⟨rfl, _, World.drewN_drewN _ _ _⟩ | exact ⟨rfl, _, Eq.trans (World.drewN_drewN _ _ _) (congrArg (World.drewN _) (Nat.add_assoc _ _ _))⟩)) | (go_at_call 45; (with_reducible refine (shardlogref02_Sum.calls kj2 _ _ y415 t419 _ ?side1 ?side2 A15.out).mono ?_); (case side1 => repeat (first | exact (Kd.C_below HR418.out (by repeat (first | (with_reducible first | exact HB.out | apply bal | apply bdN | apply bdo) | exact HB.out))) | (with_reducible refine Kd.C_alloc ?_ _) | (with_reducible refine Kd.C_drewN ?_ _) | (with_reducible refine Kd.C_drew ?_))); (case side2 => exact HC418.out); rintro e w' ⟨rfl, ⟨nd, rfl⟩⟩; (try first | exact ⟨rfl, _, World.drewN_drewN _ _ _⟩ | exact ⟨rfl, _, Eq.trans (World.drewN_drewN _ _ _) (congrArg (World.drewN _) (Nat.add_assoc _ _ _))⟩)) | (go_at_call 35; (with_reducible refine (shardlogref01_At.calls _ _ l0 (wrap64 (x5_1 + 8)) t420 _ ?side1 ?side2 A17.out).mono ?_); (case side1 => repeat (first | exact (Kd.C_below HR0.out (by repeat (first | (with_reducible first | exact HB.out | apply bal | apply bdN | apply bdo) | exact HB.out))) | (with_reducible refine Kd.C_alloc ?_ _) | (with_reducible refine Kd.C_drewN ?_ _) | (with_reducible refine Kd.C_drew ?_))); (case side2 => exact HC0.out); rintro e w' ⟨rfl, ⟨nd, rfl⟩⟩; (try first | exact ⟨rfl, _, World.drewN_drewN _ _ _⟩ | exact ⟨rfl, _, Eq.trans (World.drewN_drewN _ _ _) (congrArg (World.drewN _) (Nat.add_assoc _ _ _))⟩)) | (go_at_call 45; (with_reducible refine (shardlogref02_Sum.calls kj2 _ _ y410 t421 _ ?side1 ?side2 A18.out).mono ?_); (case side1 => repeat (first | exact (Kd.C_below HR413.out (by repeat (first | (with_reducible first | exact HB.out | apply bal | apply bdN | apply bdo) | exact HB.out))) | (with_reducible refine Kd.C_alloc ?_ _) | (with_reducible refine Kd.C_drewN ?_ _) | (with_reducible refine Kd.C_drew ?_))); (case side2 => exact HC413.out); rintro e w' ⟨rfl, ⟨nd, rfl⟩⟩; (try first | exact ⟨rfl, _, World.drewN_drewN _ _ _⟩ | exact ⟨rfl, _, Eq.trans (World.drewN_drewN _ _ _) (congrArg (World.drewN _) (Nat.add_assoc _ _ _))⟩)))
              repeat (go_quiet (first | (go_at_call 35; (with_reducible refine (shardlogref01_At.calls _ _ l0 (wrap64 (x5_1 + 4)) t414 _ ?side1 ?side2 A11.out).mono ?_); (case side1 => repeat (first | exact (Kd.C_below HR0.out HB.out) | (with_reducible refine Kd.C_alloc ?_ _) | (with_reducible refine Kd.C_drewN ?_ _) | (with_reducible refine Kd.C_drew ?_))); (case side2 => exact HC0.out); rintro e w' ⟨rfl, ⟨nd, rfl⟩⟩; (try first | exact ⟨rfl, _, World.drewN_drewN _ _ _⟩ | exact ⟨rfl, _, Eq.trans (World.drewN_drewN _ _ _) (congrArg (World.drewN _) (Nat.add_assoc _ _ _))⟩)) | (go_at_call 45; (with_reducible refine (shardlogref02_Sum.calls kj2 _ _ y415 t419 _ ?side1 ?side2 A15.out).mono ?_); (case side1 => repeat (first | exact (Kd.C_below HR418.out (by repeat (first | (with_reducible first | exact HB.out | apply bal | apply bdN | apply bdo) | exact HB.out))) | (with_reducible refine Kd.C_alloc ?_ _) | (with_reducible refine Kd.C_drewN ?_ _) | (with_reducible refine Kd.C_drew ?_))); (case side2 => exact HC418.out); rintro e w' ⟨rfl, ⟨nd, rfl⟩⟩; (try first | exact ⟨rfl, _, World.drewN_drewN _ _ _⟩ | exact ⟨rfl, _, Eq.trans (World.drewN_drewN _ _ _) (congrArg (World.drewN _) (Nat.add_assoc _ _ _))⟩)) | (go_at_call 35; (with_reducible refine (shardlogref01_At.calls _ _ l0 (wrap64 (x5_1 + 8)) t420 _ ?side1 ?side2 A17.out).mono ?_); (case side1 => repeat (first | exact (Kd.C_below HR0.out (by repeat (first | (with_reducible first | exact HB.out | apply bal | apply bdN | apply bdo) | exact HB.out))) | (with_reducible refine Kd.C_alloc ?_ _) | (with_reducible refine Kd.C_drewN ?_ _) | (with_reducible refine Kd.C_drew ?_))); (case side2 => exact HC0.out); rintro e w' ⟨rfl, ⟨nd, rfl⟩⟩; (try first | exact ⟨rfl, _, World.drewN_drewN _ _ _⟩ | exact ⟨rfl, _, Eq.trans (World.drewN_drewN _ _ _) (congrArg (World.drewN _) (Nat.add_assoc _ _ _))⟩)) | (go_at_call 45; (with_reducible refine (shardlogref02_Sum.calls kj2 _ _ y410 t421 _ ?side1 ?side2 A18.out).mono ?_); (case side1 => repeat (first | exact (Kd.C_below HR413.out (by repeat (first | (with_reducible first | exact HB.out | apply bal | apply bdN | apply bdo) | exact HB.out))) | (with_reducible refine Kd.C_alloc ?_ _) | (with_reducible refine Kd.C_drewN ?_ _) | (with_reducible refine Kd.C_drew ?_))); (case side2 => exact HC413.out); rintro e w' ⟨rfl, ⟨nd, rfl⟩⟩; (try first | exact ⟨rfl, _, World.drewN_drewN _ _ _⟩ | exact ⟨rfl, _, Eq.trans (World.drewN_drewN _ _ _) (congrArg (World.drewN _) (Nat.add_assoc _ _ _))⟩))); try go_wp2_with (first | (go_at_call 35; (with_reducible refine (shardlogref01_At.calls _ _ l0 (wrap64 (x5_1 + 4)) t414 _ ?side1 ?side2 A11.out).mono ?_); (case side1 => repeat (first | exact (Kd.C_below HR0.out HB.out) | (with_reducible refine Kd.C_alloc ?_ _) | (with_reducible refine Kd.C_drewN ?_ _) | (with_reducible refine Kd.C_drew ?_))); (case side2 => exact HC0.out); rintro e w' ⟨rfl, ⟨nd, rfl⟩⟩; (try first | exact ⟨rfl, _, World.drewN_drewN _ _ _⟩ | exact ⟨rfl, _, Eq.trans (World.drewN_drewN _ _ _) (congrArg (World.drewN _) (Nat.add_assoc _ _ _))⟩)) | (go_at_call 45; (with_reducible refine (shardlogref02_Sum.calls kj2 _ _ y415 t419 _ ?side1 ?side2 A15.out).mono ?_); (case side1 => repeat (first | exact (Kd.C_below HR418.out (by repeat (first | (with_reducible first | exact HB.out | apply bal | apply bdN | apply bdo) | exact HB.out))) | (with_reducible refine Kd.C_alloc ?_ _) | (with_reducible refine Kd.C_drewN ?_ _) | (with_reducible refine Kd.C_drew ?_))); (case side2 => exact HC418.out); rintro e w' ⟨rfl, ⟨nd, rfl⟩⟩; (try first | exact ⟨rfl, _, World.drewN_drewN _ _ _⟩ | exact ⟨rfl, _, Eq.trans (World.drewN_drewN _ _ _) (congrArg (World.drewN _) (Nat.add_assoc _ _ _))⟩)) | (go_at_call 35; (with_reducible refine (shardlogref01_At.calls _ _ l0 (wrap64 (x5_1 + 8)) t420 _ ?side1 ?side2 A17.out).mono ?_); (case side1 => repeat (first | exact (Kd.C_below HR0.out (by repeat (first | (with_reducible first | exact HB.out | apply bal | apply bdN | apply bdo) | exact HB.out))) | (with_reducible refine Kd.C_alloc ?_ _) | (with_reducible refine Kd.C_drewN ?_ _) | (with_reducible refine Kd.C_drew ?_))); (case side2 => exact HC0.out); rintro e w' ⟨rfl, ⟨nd, rfl⟩⟩; (try first | exact ⟨rfl, _, World.drewN_drewN _ _ _⟩ | exact ⟨rfl, _, Eq.trans (World.drewN_drewN _ _ _) (congrArg (World.drewN _) (Nat.add_assoc _ _ _))⟩)) | (go_at_call 45; (with_reducible refine (shardlogref02_Sum.calls kj2 _ _ y410 t421 _ ?side1 ?side2 A18.out).mono ?_); (case side1 => repeat (first | exact (Kd.C_below HR413.out (by repeat (first | (with_reducible first | exact HB.out | apply bal | apply bdN | apply bdo) | exact HB.out))) | (with_reducible refine Kd.C_alloc ?_ _) | (with_reducible refine Kd.C_drewN ?_ _) | (with_reducible refine Kd.C_drew ?_))); (case side2 => exact HC413.out); rintro e w' ⟨rfl, ⟨nd, rfl⟩⟩; (try first | exact ⟨rfl, _, World.drewN_drewN _ _ _⟩ | exact ⟨rfl, _, Eq.trans (World.drewN_drewN _ _ _) (congrArg (World.drewN _) (Nat.add_assoc _ _ _))⟩))))
              go_ret2
              exact ⟨_, by first | rfl | (simp [errW_none, errW_some] <;> rfl) | (simp only [← hji7]; first | rfl | (simp [errW_none, errW_some] <;> rfl)) | (simp [*, errW_none, errW_some] <;> rfl), by (with_reducible repeat (first | apply Kd.S_alloc | apply Kd.S_drewN | apply Kd.S_drew)); exact HO_4.out, by repeat (first | (with_reducible first | exact HB.out | apply bal | apply bdN | apply bdo) | exact HB.out)⟩
            ·
             rw [if_neg c16] at H
             have c16b0 : (t414 == (wrap64 (t419))) = false := beq_eq_false_iff_ne.mpr c16
             have c16b1 : (t414 != (wrap64 (t419))) = true := bne_iff_ne.mpr c16
             simp only [Option.some.injEq, Prod.mk.injEq] at H
             obtain ⟨rfl, rfl⟩ := H
             have q31 : ((wrap64 ((ji7) + t409)) : Int) ≤ ((l0.length : Int) : Int) := odt (by first | (with_reducible assumption) | assumption)
             obtain ⟨i031, hi031, _, hsz31, _⟩ := info_parts info5
             have hroom31 : l0.length ≤ c0 := HC0.out
             have hC31 : Kd.C (Kd.int .u8) _ A0 l0.length l0 := HR0.out
             have ql31 : ((ji7) : Int) ≤ ((wrap64 ((ji7) + t409)) : Int) := odt (by first | (with_reducible assumption) | assumption)
             have q031 : (0 : Int) ≤ ((ji7) : Int) := odt (by first | (with_reducible assumption) | assumption)
             have hcut31 := cut_mid (P := Try.prog) 33 5 .i64 .i64 Try.underlying33 hi031 1 hsz31 A0 l0.length c0 (ji7) (wrap64 ((ji7) + t409)) q031 ql31 q31 hroom31
             have hr31 := Kd.C_mid (lo := ((ji7) : Int).toNat) (hi := ((wrap64 ((ji7) + t409)) : Int).toNat) (c := c0) hC31 (by omega) (by omega) hroom31
             obtain ⟨A31, hA31⟩ : ∃ A1_, A1_ = (if c0 = ((ji7) : Int).toNat then A0 else (A0 : Option Addr).map (·.add (((ji7) : Int).toNat * 1))) := ⟨_, rfl⟩
             obtain ⟨c31, hc31⟩ : ∃ c1_, c1_ = c0 - ((ji7) : Int).toNat := ⟨_, rfl⟩
             have hy31 : y410.length = ((wrap64 ((ji7) + t409)) : Int).toNat - ((ji7) : Int).toNat := (by rw [Ny410.out, lld, llt] <;> omega)
             rw [show ((l0).take ((wrap64 ((ji7) + t409)) : Int).toNat).drop ((ji7) : Int).toNat = y410 from Ny410.out.symm] at hr31
             replace hr31 : Kd.C (Kd.int .u8) _ A31 y410.length y410 := (by rw [hA31]; exact hr31)
             rw [← hy31, ← hA31, ← hc31] at hcut31
             have HR413 := aS hr31
             have HC413 := aS (show y410.length ≤ c31 from by rw [hy31, hc31]; exact Nat.sub_le_sub_right (Nat.le_trans (by omega) hroom31) _)
             clear hr31 hC31 hroom31 hi031 hsz31 hc31
             have KY31 := aS hy31
             have KA31 := aS hA31
             clear hy31 hA31
             replace q31 := eq_true q31
             have q32 : ((wrap64 (x5_1 + 4)) : Int) ≤ ((l0.length : Int) : Int) := odt (by first | (with_reducible assumption) | assumption)
             obtain ⟨i032, hi032, _, hsz32, _⟩ := info_parts info5
             have hroom32 : l0.length ≤ c0 := HC0.out
             have hC32 : Kd.C (Kd.int .u8) _ A0 l0.length l0 := HR0.out
             have ql32 : (x5_1 : Int) ≤ ((wrap64 (x5_1 + 4)) : Int) := odt (by first | (with_reducible assumption) | assumption)
             have q032 : (0 : Int) ≤ (x5_1 : Int) := odt (by first | (with_reducible assumption) | assumption)
             have hcut32 := cut_mid (P := Try.prog) 33 5 .i64 .i64 Try.underlying33 hi032 1 hsz32 A0 l0.length c0 x5_1 (wrap64 (x5_1 + 4)) q032 ql32 q32 hroom32
             have hr32 := Kd.C_mid (lo := (x5_1 : Int).toNat) (hi := ((wrap64 (x5_1 + 4)) : Int).toNat) (c := c0) hC32 (by omega) (by omega) hroom32
             obtain ⟨A32, hA32⟩ : ∃ A1_, A1_ = (if c0 = (x5_1 : Int).toNat then A0 else (A0 : Option Addr).map (·.add ((x5_1 : Int).toNat * 1))) := ⟨_, rfl⟩
             obtain ⟨c32, hc32⟩ : ∃ c1_, c1_ = c0 - (x5_1 : Int).toNat := ⟨_, rfl⟩
             have hy32 : y415.length = ((wrap64 (x5_1 + 4)) : Int).toNat - (x5_1 : Int).toNat := (by rw [Ny415.out, lld, llt] <;> omega)
             rw [show ((l0).take ((wrap64 (x5_1 + 4)) : Int).toNat).drop (x5_1 : Int).toNat = y415 from Ny415.out.symm] at hr32
             replace hr32 : Kd.C (Kd.int .u8) _ A32 y415.length y415 := (by rw [hA32]; exact hr32)
             rw [← hy32, ← hA32, ← hc32] at hcut32
             have HR418 := aS hr32
             have HC418 := aS (show y415.length ≤ c32 from by rw [hy32, hc32]; exact Nat.sub_le_sub_right (Nat.le_trans (by omega) hroom32) _)
             clear hr32 hC32 hroom32 hi032 hsz32 hc32
             have KY32 := aS hy32
             have KA32 := aS hA32
             clear hy32 hA32
             replace q32 := eq_true q32
             go_wp2_with (first | (go_at_call 35; (with_reducible refine (shardlogref01_At.calls _ _ l0 (wrap64 (x5_1 + 4)) t414 _ ?side1 ?side2 A11.out).mono ?_); (case side1 => repeat (first | exact (Kd.C_below HR0.out HB.out) | (with_reducible refine Kd.C_alloc ?_ _) | (with_reducible refine Kd.C_drewN ?_ _) | (with_reducible refine Kd.C_drew ?_))); (case side2 => exact HC0.out); rintro e w' ⟨rfl, ⟨nd, rfl⟩⟩; (try first | exact ⟨rfl, _, World.drewN_drewN _ _ _⟩ | exact ⟨rfl, _, Eq.trans (World.drewN_drewN _ _ _) (congrArg (World.drewN _) (Nat.add_assoc _ _ _))⟩)) | (go_at_call 45; (with_reducible refine (shardlogref02_Sum.calls kj2 _ _ y415 t419 _ ?side1 ?side2 A15.out).mono ?_); (case side1 => repeat (first | exact (Kd.C_below HR418.out (by repeat (first | (with_reducible first | exact HB.out | apply bal | apply bdN | apply bdo) | exact HB.out))) | (with_reducible refine Kd.C_alloc ?_ _) | (with_reducible refine Kd.C_drewN ?_ _) | (with_reducible refine Kd.C_drew ?_))); (case side2 => exact HC418.out); rintro e w' ⟨rfl, ⟨nd, rfl⟩⟩; (try first | exact ⟨rfl, _, World.drewN_drewN _ _ _⟩ | exact ⟨rfl, _, Eq.trans (World.drewN_drewN _ _ _) (congrArg (World.drewN _) (Nat.add_assoc _ _ _))⟩)))
             repeat (go_quiet (first | (go_at_call 35; (with_reducible refine (shardlogref01_At.calls _ _ l0 (wrap64 (x5_1 + 4)) t414 _ ?side1 ?side2 A11.out).mono ?_); (case side1 => repeat (first | exact (Kd.C_below HR0.out HB.out) | (with_reducible refine Kd.C_alloc ?_ _) | (with_reducible refine Kd.C_drewN ?_ _) | (with_reducible refine Kd.C_drew ?_))); (case side2 => exact HC0.out); rintro e w' ⟨rfl, ⟨nd, rfl⟩⟩; (try first | exact ⟨rfl, _, World.drewN_drewN _ _ _⟩ | exact ⟨rfl, _, Eq.trans (World.drewN_drewN _ _ _) (congrArg (World.drewN _) (Nat.add_assoc _ _ _))⟩)) | (go_at_call 45; (with_reducible refine (shardlogref02_Sum.calls kj2 _ _ y415 t419 _ ?side1 ?side2 A15.out).mono ?_); (case side1 => repeat (first | exact (Kd.C_below HR418.out (by repeat (first | (with_reducible first | exact HB.out | apply bal | apply bdN | apply bdo) | exact HB.out))) | (with_reducible refine Kd.C_alloc ?_ _) | (with_reducible refine Kd.C_drewN ?_ _) | (with_reducible refine Kd.C_drew ?_))); (case side2 => exact HC418.out); rintro e w' ⟨rfl, ⟨nd, rfl⟩⟩; (try first | exact ⟨rfl, _, World.drewN_drewN _ _ _⟩ | exact ⟨rfl, _, Eq.trans (World.drewN_drewN _ _ _) (congrArg (World.drewN _) (Nat.add_assoc _ _ _))⟩))); try go_wp2_with (first | (go_at_call 35; (with_reducible refine (shardlogref01_At.calls _ _ l0 (wrap64 (x5_1 + 4)) t414 _ ?side1 ?side2 A11.out).mono ?_); (case side1 => repeat (first | exact (Kd.C_below HR0.out HB.out) | (with_reducible refine Kd.C_alloc ?_ _) | (with_reducible refine Kd.C_drewN ?_ _) | (with_reducible refine Kd.C_drew ?_))); (case side2 => exact HC0.out); rintro e w' ⟨rfl, ⟨nd, rfl⟩⟩; (try first | exact ⟨rfl, _, World.drewN_drewN _ _ _⟩ | exact ⟨rfl, _, Eq.trans (World.drewN_drewN _ _ _) (congrArg (World.drewN _) (Nat.add_assoc _ _ _))⟩)) | (go_at_call 45; (with_reducible refine (shardlogref02_Sum.calls kj2 _ _ y415 t419 _ ?side1 ?side2 A15.out).mono ?_); (case side1 => repeat (first | exact (Kd.C_below HR418.out (by repeat (first | (with_reducible first | exact HB.out | apply bal | apply bdN | apply bdo) | exact HB.out))) | (with_reducible refine Kd.C_alloc ?_ _) | (with_reducible refine Kd.C_drewN ?_ _) | (with_reducible refine Kd.C_drew ?_))); (case side2 => exact HC418.out); rintro e w' ⟨rfl, ⟨nd, rfl⟩⟩; (try first | exact ⟨rfl, _, World.drewN_drewN _ _ _⟩ | exact ⟨rfl, _, Eq.trans (World.drewN_drewN _ _ _) (congrArg (World.drewN _) (Nat.add_assoc _ _ _))⟩))))
             go_ret2
             exact ⟨_, by first | rfl | (simp [errW_none, errW_some] <;> rfl) | (simp only [← hji7]; first | rfl | (simp [errW_none, errW_some] <;> rfl)) | (simp [*, errW_none, errW_some] <;> rfl), by (with_reducible repeat (first | apply Kd.S_alloc | apply Kd.S_drewN | apply Kd.S_drew)); exact HO_4.out, by repeat (first | (with_reducible first | exact HB.out | apply bal | apply bdN | apply bdo) | exact HB.out)⟩
           ·
            rw [if_neg c14] at H
            exact absurd H (by simp)
          ·
           rw [if_neg c13] at H
           exact absurd H (by simp)
         ·
          rw [if_neg c12] at H
          exact absurd H (by simp)
        ·
         rw [if_neg c10] at H
         exact absurd H (by simp)
       ·
        rw [if_neg c9] at H
        exact absurd H (by simp)
      ·
       rw [if_neg c8] at H
       exact absurd H (by simp)

/-! ### shardlogref01_TextAt: function 49 -/
def shardlogref01_TextAt.f (l0 : List Int) (a1 : Int) : Option (ByteArray × Int) := (shardlogref01_At.f l0 a1).bind fun t431 => (if t431 < 0 then (some ((⟨#[]⟩ : ByteArray), 0)) else (if (wrap64 ((wrap64 (a1 + 4)) + t431)) > (l0.length : Int) then (some ((⟨#[]⟩ : ByteArray), 0)) else (if 0 ≤ (wrap64 (a1 + 4)) then (if (wrap64 (a1 + 4)) ≤ (wrap64 ((wrap64 (a1 + 4)) + t431)) then (if (wrap64 ((wrap64 (a1 + 4)) + t431)) ≤ (l0.length : Int) then (some (strOfNums ((l0.take ((wrap64 ((wrap64 (a1 + 4)) + t431)) : Int).toNat).drop ((wrap64 (a1 + 4)) : Int).toNat), wrap64 (4 + t431))) else (none)) else (none)) else (none))))
set_option maxHeartbeats 8000000 in
set_option maxRecDepth 100000 in
theorem shardlogref01_TextAt.calls (A0 : Option Addr) (c0 : Nat) (l0 : List Int) (a1 : Int) (r1 : ByteArray) (r2 : Int) (w : World) (hr0 : Kd.C (Kd.int .u8) w A0 l0.length l0) (hc0 : l0.length ≤ c0) (h : shardlogref01_TextAt.f l0 a1 = some (r1, r2)) :
  Calls Try.prog 49 #[.slice A0 l0.length c0, .int .i64 a1] w fun e w' => e = .returned (.tuple #[.string r1, .int .i64 r2]) ∧ Drawn0 w w' := by
 have HR0 := aS hr0
 have HC0 := aS hc0
 clear hr0 hc0
 have H : ((shardlogref01_At.f l0 a1).bind fun t431 => (if t431 < 0 then (some ((⟨#[]⟩ : ByteArray), 0)) else (if (wrap64 ((wrap64 (a1 + 4)) + t431)) > (l0.length : Int) then (some ((⟨#[]⟩ : ByteArray), 0)) else (if 0 ≤ (wrap64 (a1 + 4)) then (if (wrap64 (a1 + 4)) ≤ (wrap64 ((wrap64 (a1 + 4)) + t431)) then (if (wrap64 ((wrap64 (a1 + 4)) + t431)) ≤ (l0.length : Int) then (some (strOfNums ((l0.take ((wrap64 ((wrap64 (a1 + 4)) + t431)) : Int).toNat).drop ((wrap64 (a1 + 4)) : Int).toNat), wrap64 (4 + t431))) else (none)) else (none)) else (none))))) = some (r1, r2) := h
 clear h
 replace H := obm H
 obtain ⟨t431, A30, H⟩ := H
 replace H : (if t431 < 0 then (some ((⟨#[]⟩ : ByteArray), 0)) else (if (wrap64 ((wrap64 (a1 + 4)) + t431)) > (l0.length : Int) then (some ((⟨#[]⟩ : ByteArray), 0)) else (if 0 ≤ (wrap64 (a1 + 4)) then (if (wrap64 (a1 + 4)) ≤ (wrap64 ((wrap64 (a1 + 4)) + t431)) then (if (wrap64 ((wrap64 (a1 + 4)) + t431)) ≤ (l0.length : Int) then (some (strOfNums ((l0.take ((wrap64 ((wrap64 (a1 + 4)) + t431)) : Int).toNat).drop ((wrap64 (a1 + 4)) : Int).toNat), wrap64 (4 + t431))) else (none)) else (none)) else (none)))) = some (r1, r2) := H
 have A3 := aS A30
 clear A30
 by_cases c4 : t431 < 0
 ·
  rw [if_pos c4] at H
  have c4b0 : decide (t431 < 0) = true := decide_eq_true c4
  clear c4
  simp only [Option.some.injEq, Prod.mk.injEq] at H
  obtain ⟨rfl, rfl⟩ := H
  go_enter Try.func49, Try.ntmps49
  go_wp2_with (first | ((with_reducible refine gate_callee (f := 35) rfl ?_); refine goesL_ (some 9) rfl rfl Try.func35 (by kernel_rfl) rfl #[.slice A0 l0.length c0, .int .i64 a1] rfl (by (try simp only [List.map_toArray, List.map_cons, List.map_nil]); first | done | rfl | (simp only [lld, llt]; rfl)) ?_; (with_reducible refine (shardlogref01_At.calls _ _ l0 a1 t431 _ ?side1 ?side2 A3.out).mono ?_); (case side1 => repeat (first | exact HR0.out | (with_reducible refine Kd.C_alloc ?_ _) | (with_reducible refine Kd.C_drewN ?_ _) | (with_reducible refine Kd.C_drew ?_))); (case side2 => exact HC0.out); rintro e w' ⟨rfl, ⟨nd, rfl⟩⟩; refine ⟨_, rfl, ?_⟩))
  go_ret2
  exact ⟨by first | rfl | (simp; done) | (simp [*]; done) | (simp; exact (by decide : ∀ a_ b_ : Bool, (a_ == b_) = (!a_ != b_)) _ _), by repeat (first | exact Drawn0.refl _ | apply Drawn0.step)⟩
 ·
  rw [if_neg c4] at H
  have c4b0 : decide (t431 < 0) = false := decide_eq_false c4
  clear c4
  by_cases c5 : (wrap64 ((wrap64 (a1 + 4)) + t431)) > (l0.length : Int)
  ·
   rw [if_pos c5] at H
   have c5b0 : decide ((l0.length : Int) < (wrap64 ((wrap64 (a1 + 4)) + t431))) = true := decide_eq_true c5
   clear c5
   simp only [Option.some.injEq, Prod.mk.injEq] at H
   obtain ⟨rfl, rfl⟩ := H
   go_enter Try.func49, Try.ntmps49
   go_wp2_with (first | ((with_reducible refine gate_callee (f := 35) rfl ?_); refine goesL_ (some 9) rfl rfl Try.func35 (by kernel_rfl) rfl #[.slice A0 l0.length c0, .int .i64 a1] rfl (by (try simp only [List.map_toArray, List.map_cons, List.map_nil]); first | done | rfl | (simp only [lld, llt]; rfl)) ?_; (with_reducible refine (shardlogref01_At.calls _ _ l0 a1 t431 _ ?side1 ?side2 A3.out).mono ?_); (case side1 => repeat (first | exact HR0.out | (with_reducible refine Kd.C_alloc ?_ _) | (with_reducible refine Kd.C_drewN ?_ _) | (with_reducible refine Kd.C_drew ?_))); (case side2 => exact HC0.out); rintro e w' ⟨rfl, ⟨nd, rfl⟩⟩; refine ⟨_, rfl, ?_⟩))
   go_ret2
   exact ⟨by first | rfl | (simp; done) | (simp [*]; done) | (simp; exact (by decide : ∀ a_ b_ : Bool, (a_ == b_) = (!a_ != b_)) _ _), by repeat (first | exact Drawn0.refl _ | apply Drawn0.step)⟩
  ·
   rw [if_neg c5] at H
   have c5b0 : decide ((l0.length : Int) < (wrap64 ((wrap64 (a1 + 4)) + t431))) = false := decide_eq_false c5
   clear c5
   obtain ⟨ji6, hji6⟩ : ∃ j_ : Int, (wrap64 (a1 + 4)) = j_ := ⟨_, rfl⟩
   replace H : (if 0 ≤ (ji6) then (if (ji6) ≤ (wrap64 ((ji6) + t431)) then (if (wrap64 ((ji6) + t431)) ≤ (l0.length : Int) then (some (strOfNums ((l0.take ((wrap64 ((ji6) + t431)) : Int).toNat).drop ((ji6) : Int).toNat), wrap64 (4 + t431))) else (none)) else (none)) else (none)) = some (r1, r2) := by first | (rw [hji6] at H; exact H) | (simp only [hji6] at H ⊢; exact H)
   (try rw [hji6] at c5b0)
   (try rw [hji6] at A3)
   have hji6w : (IntKind.i64.wrap (a1 + 4)) = ji6 := (i64_w _).trans hji6
   by_cases c7 : 0 ≤ (ji6)
   ·
    rw [if_pos c7] at H
    have c7b0 := eq_true c7
    have c7b1 : decide (0 ≤ (ji6)) = true := decide_eq_true c7
    clear c7
    by_cases c8 : (ji6) ≤ (wrap64 ((ji6) + t431))
    ·
     rw [if_pos c8] at H
     have c8b0 := eq_true c8
     have c8b1 : decide ((ji6) ≤ (wrap64 ((ji6) + t431))) = true := decide_eq_true c8
     by_cases c9 : (wrap64 ((ji6) + t431)) ≤ (l0.length : Int)
     ·
      rw [if_pos c9] at H
      have c9b0 := eq_true c9
      have c9b1 : decide ((wrap64 ((ji6) + t431)) ≤ (l0.length : Int)) = true := decide_eq_true c9
      obtain ⟨y432, hy432⟩ : ∃ y_ : List Int, y_ = ((l0.take ((wrap64 ((ji6) + t431)) : Int).toNat).drop ((ji6) : Int).toNat) := ⟨_, rfl⟩
      replace H : (some (strOfNums y432, wrap64 (4 + t431))) = some (r1, r2) := by first | (rw [hy432]; with_reducible exact H) | (have H2_ := (Option.bind_some _ _).symm.trans H; rw [hy432]; with_reducible exact H2_) | (have H2_ := (Option.bind_some _ _).symm.trans H; with_reducible exact H2_) | with_reducible exact H | (rw [hy432]; exact H) | exact H
      have Ny432 := aS hy432
      clear hy432
      simp only [Option.some.injEq, Prod.mk.injEq] at H
      obtain ⟨rfl, rfl⟩ := H
      go_enter Try.func49, Try.ntmps49
      go_wp2_with (first | ((with_reducible refine gate_callee (f := 35) rfl ?_); refine goesL_ (some 9) rfl rfl Try.func35 (by kernel_rfl) rfl #[.slice A0 l0.length c0, .int .i64 a1] rfl (by (try simp only [List.map_toArray, List.map_cons, List.map_nil]); first | done | rfl | (simp only [lld, llt]; rfl)) ?_; (with_reducible refine (shardlogref01_At.calls _ _ l0 a1 t431 _ ?side1 ?side2 A3.out).mono ?_); (case side1 => repeat (first | exact HR0.out | (with_reducible refine Kd.C_alloc ?_ _) | (with_reducible refine Kd.C_drewN ?_ _) | (with_reducible refine Kd.C_drew ?_))); (case side2 => exact HC0.out); rintro e w' ⟨rfl, ⟨nd, rfl⟩⟩; refine ⟨_, rfl, ?_⟩; have q10 : ((wrap64 ((ji6) + t431)) : Int) ≤ ((l0.length : Int) : Int) := odt (by first | (with_reducible assumption) | assumption); obtain ⟨i010, hi010, _, hsz10, _⟩ := info_parts info5; have hroom10 : l0.length ≤ c0 := HC0.out; have hC10 : Kd.C (Kd.int .u8) _ A0 l0.length l0 := HR0.out; have ql10 : ((ji6) : Int) ≤ ((wrap64 ((ji6) + t431)) : Int) := odt (by first | (with_reducible assumption) | assumption); have q010 : (0 : Int) ≤ ((ji6) : Int) := odt (by first | (with_reducible assumption) | assumption); have hcut10 := cut_mid (P := Try.prog) 33 5 .i64 .i64 Try.underlying33 hi010 1 hsz10 A0 l0.length c0 (ji6) (wrap64 ((ji6) + t431)) q010 ql10 q10 hroom10; have hr10 := Kd.C_mid (lo := ((ji6) : Int).toNat) (hi := ((wrap64 ((ji6) + t431)) : Int).toNat) (c := c0) hC10 (by omega) (by omega) hroom10; obtain ⟨A10, hA10⟩ : ∃ A1_, A1_ = (if c0 = ((ji6) : Int).toNat then A0 else (A0 : Option Addr).map (·.add (((ji6) : Int).toNat * 1))) := ⟨_, rfl⟩; obtain ⟨c10, hc10⟩ : ∃ c1_, c1_ = c0 - ((ji6) : Int).toNat := ⟨_, rfl⟩; have hy10 : y432.length = ((wrap64 ((ji6) + t431)) : Int).toNat - ((ji6) : Int).toNat := (by rw [Ny432.out, lld, llt] <;> omega); rw [show ((l0).take ((wrap64 ((ji6) + t431)) : Int).toNat).drop ((ji6) : Int).toNat = y432 from Ny432.out.symm] at hr10; replace hr10 : Kd.C (Kd.int .u8) _ A10 y432.length y432 := (by rw [hA10]; exact hr10); rw [← hy10, ← hA10, ← hc10] at hcut10; have HR435 := aS hr10; have HC435 := aS (show y432.length ≤ c10 from by rw [hy10, hc10]; exact Nat.sub_le_sub_right (Nat.le_trans (by omega) hroom10) _); clear hr10 hC10 hroom10 hi010 hsz10 hc10; have KY10 := aS hy10; have KA10 := aS hA10; clear hy10 hA10; replace q10 := eq_true q10; have hcv11 := Kd.C_string (P := Try.prog) (A := A10) (c := c10) Try.underlying33 Try.underlying5 Try.underlying9 HR435.out; have hcv12 := fun (m_ : Nat) => Kd.C_string (P := Try.prog) (A := A10) (c := c10) Try.underlying33 Try.underlying5 Try.underlying9 (Kd.C_drewN (HR435.out) m_)))
      go_ret2
      exact ⟨by first | rfl | (simp; done) | (simp only [← hji6] <;> (first | rfl | simp)) | (simp [*]; done), by repeat (first | exact Drawn0.refl _ | apply Drawn0.step)⟩
     ·
      rw [if_neg c9] at H
      exact absurd H (by simp)
    ·
     rw [if_neg c8] at H
     exact absurd H (by simp)
   ·
    rw [if_neg c7] at H
    exact absurd H (by simp)

/-! ### shardlogref08_Cut: function 36 -/
def shardlogref08_Cut.j0 : Nat → List Int → ByteArray → Int → ByteArray → Int → Int → Int → Bool → Option (ByteArray × ByteArray × Int × ByteArray × Bool × Int)
 | 0, _, _, _, _, _, _, _, _ => none
 | k + 1, x0, x6, x7, x8, x9, x10, x11, x59 => if x59 = true then (some ((⟨#[]⟩ : ByteArray), (⟨#[]⟩ : ByteArray), 0, (⟨#[]⟩ : ByteArray), false, 0)) else ((shardlogref01_TextAt.f x0 (wrap64 (x10 + 5))).bind fun bt443 => (if 0 ≤ (wrap64 (x10 + 4)) then (if (wrap64 (x10 + 4)) < (x0.length : Int) then (if bt443.2 = 0 then (some ((⟨#[]⟩ : ByteArray), (⟨#[]⟩ : ByteArray), 0, (⟨#[]⟩ : ByteArray), false, 0)) else ((shardlogref08_Right.f x6 x8 x11 bt443.1 ((rd x0 (wrap64 (x10 + 4))) == 1)).bind fun t447 => (if t447 = true then (some (x6, x8, x11, bt443.1, ((rd x0 (wrap64 (x10 + 4))) == 1), wrap64 ((wrap64 ((wrap64 (x7 + x9)) + 5)) + bt443.2))) else (some ((⟨#[]⟩ : ByteArray), (⟨#[]⟩ : ByteArray), 0, (⟨#[]⟩ : ByteArray), false, 0))))) else (none)) else (none)))
def shardlogref08_Cut.f (k : Nat) (l0 : List Int) (a1 : Int) : Option (ByteArray × ByteArray × Int × ByteArray × Bool × Int) := (shardlogref01_TextAt.f l0 a1).bind fun bt437 => (if bt437.2 = 0 then (some ((⟨#[]⟩ : ByteArray), (⟨#[]⟩ : ByteArray), 0, (⟨#[]⟩ : ByteArray), false, 0)) else ((shardlogref01_TextAt.f l0 (wrap64 (a1 + bt437.2))).bind fun bt439 => (if bt439.2 = 0 then (some ((⟨#[]⟩ : ByteArray), (⟨#[]⟩ : ByteArray), 0, (⟨#[]⟩ : ByteArray), false, 0)) else ((shardlogref01_At.f l0 (wrap64 ((wrap64 (a1 + bt437.2)) + bt439.2))).bind fun t441 => (if t441 < 0 then (shardlogref08_Cut.j0 k l0 bt437.1 bt437.2 bt439.1 bt439.2 (wrap64 ((wrap64 (a1 + bt437.2)) + bt439.2)) t441 true) else (if (wrap64 ((wrap64 ((wrap64 (a1 + bt437.2)) + bt439.2)) + 4)) ≥ (l0.length : Int) then (shardlogref08_Cut.j0 k l0 bt437.1 bt437.2 bt439.1 bt439.2 (wrap64 ((wrap64 (a1 + bt437.2)) + bt439.2)) t441 true) else (if 0 ≤ (wrap64 ((wrap64 ((wrap64 (a1 + bt437.2)) + bt439.2)) + 4)) then (if (wrap64 ((wrap64 ((wrap64 (a1 + bt437.2)) + bt439.2)) + 4)) < (l0.length : Int) then (shardlogref08_Cut.j0 k l0 bt437.1 bt437.2 bt439.1 bt439.2 (wrap64 ((wrap64 (a1 + bt437.2)) + bt439.2)) t441 (decide ((rd l0 (wrap64 ((wrap64 ((wrap64 (a1 + bt437.2)) + bt439.2)) + 4))) > 1))) else (none)) else (none))))))))
theorem shardlogref08_Cut.mono_l : ∀ k, (∀ y0 y1 y2 y3 y4 y5 y6 y7, LeO (shardlogref08_Cut.j0 k y0 y1 y2 y3 y4 y5 y6 y7) (shardlogref08_Cut.j0 (k + 1) y0 y1 y2 y3 y4 y5 y6 y7))
 | 0 => fun _ _ _ _ _ _ _ _ r h => by simp [shardlogref08_Cut.j0] at h
 | k + 1 => by
  have ih0 := shardlogref08_Cut.mono_l k
  ·
   intro y0 y1 y2 y3 y4 y5 y6 y7
   unfold shardlogref08_Cut.j0
   repeat' first
   | (with_reducible exact ih0 _ _ _ _ _ _ _ _)
   | (with_reducible exact LeO.refl _)
   | (with_reducible exact LeO.none _)
   | (with_reducible refine LeO.ite ?_ ?_)
   | (with_reducible refine LeO.bind ?_ (fun _ => ?_))
   | exact ih0 _ _ _ _ _ _ _ _
   | exact LeO.none _
   | refine LeO.ite ?_ ?_
   | refine LeO.bind ?_ (fun _ => ?_)
theorem shardlogref08_Cut.mono : ∀ a0 a1 k, LeO (shardlogref08_Cut.f k a0 a1) (shardlogref08_Cut.f (k + 1) a0 a1) := by
 intro a0 a1 k
 have ih0 := shardlogref08_Cut.mono_l k
 unfold shardlogref08_Cut.f
 repeat' first
   | (with_reducible exact ih0 _ _ _ _ _ _ _ _)
   | (with_reducible exact LeO.refl _)
   | (with_reducible exact LeO.none _)
   | (with_reducible refine LeO.ite ?_ ?_)
   | (with_reducible refine LeO.bind ?_ (fun _ => ?_))
   | exact ih0 _ _ _ _ _ _ _ _
   | exact LeO.none _
   | refine LeO.ite ?_ ?_
   | refine LeO.bind ?_ (fun _ => ?_)
set_option maxHeartbeats 8000000 in
set_option maxRecDepth 100000 in
theorem shardlogref08_Cut.calls (k : Nat) (A0 : Option Addr) (c0 : Nat) (l0 : List Int) (a1 : Int) (r1 : ByteArray) (r2 : ByteArray) (r3 : Int) (r4 : ByteArray) (r5 : Bool) (r6 : Int) (w : World) (hr0 : Kd.C (Kd.int .u8) w A0 l0.length l0) (hc0 : l0.length ≤ c0) (h : shardlogref08_Cut.f k l0 a1 = some (r1, r2, r3, r4, r5, r6)) :
  Calls Try.prog 36 #[.slice A0 l0.length c0, .int .i64 a1] w fun e w' => e = .returned (.tuple #[.agg #[.string r1, .string r2, .int .i64 r3, .string r4, .bool r5], .int .i64 r6]) ∧ Below w.heap.size w w' := by
 have hu46 := Try.underlying46
 have HR0 := aS hr0
 have HC0 := aS hc0
 clear hr0 hc0
 have HB := aS (Below.refl w.heap.size w)
 have H : ((shardlogref01_TextAt.f l0 a1).bind fun bt437 => (if bt437.2 = 0 then (some ((⟨#[]⟩ : ByteArray), (⟨#[]⟩ : ByteArray), 0, (⟨#[]⟩ : ByteArray), false, 0)) else ((shardlogref01_TextAt.f l0 (wrap64 (a1 + bt437.2))).bind fun bt439 => (if bt439.2 = 0 then (some ((⟨#[]⟩ : ByteArray), (⟨#[]⟩ : ByteArray), 0, (⟨#[]⟩ : ByteArray), false, 0)) else ((shardlogref01_At.f l0 (wrap64 ((wrap64 (a1 + bt437.2)) + bt439.2))).bind fun t441 => (if t441 < 0 then (shardlogref08_Cut.j0 k l0 bt437.1 bt437.2 bt439.1 bt439.2 (wrap64 ((wrap64 (a1 + bt437.2)) + bt439.2)) t441 true) else (if (wrap64 ((wrap64 ((wrap64 (a1 + bt437.2)) + bt439.2)) + 4)) ≥ (l0.length : Int) then (shardlogref08_Cut.j0 k l0 bt437.1 bt437.2 bt439.1 bt439.2 (wrap64 ((wrap64 (a1 + bt437.2)) + bt439.2)) t441 true) else (if 0 ≤ (wrap64 ((wrap64 ((wrap64 (a1 + bt437.2)) + bt439.2)) + 4)) then (if (wrap64 ((wrap64 ((wrap64 (a1 + bt437.2)) + bt439.2)) + 4)) < (l0.length : Int) then (shardlogref08_Cut.j0 k l0 bt437.1 bt437.2 bt439.1 bt439.2 (wrap64 ((wrap64 (a1 + bt437.2)) + bt439.2)) t441 (decide ((rd l0 (wrap64 ((wrap64 ((wrap64 (a1 + bt437.2)) + bt439.2)) + 4))) > 1))) else (none)) else (none))))))))) = some (r1, r2, r3, r4, r5, r6) := h
 clear h
 replace H := obm H
 obtain ⟨⟨t437, t438⟩, A30, H⟩ := H
 replace H : (if t438 = 0 then (some ((⟨#[]⟩ : ByteArray), (⟨#[]⟩ : ByteArray), 0, (⟨#[]⟩ : ByteArray), false, 0)) else ((shardlogref01_TextAt.f l0 (wrap64 (a1 + t438))).bind fun bt439 => (if bt439.2 = 0 then (some ((⟨#[]⟩ : ByteArray), (⟨#[]⟩ : ByteArray), 0, (⟨#[]⟩ : ByteArray), false, 0)) else ((shardlogref01_At.f l0 (wrap64 ((wrap64 (a1 + t438)) + bt439.2))).bind fun t441 => (if t441 < 0 then (shardlogref08_Cut.j0 k l0 t437 t438 bt439.1 bt439.2 (wrap64 ((wrap64 (a1 + t438)) + bt439.2)) t441 true) else (if (wrap64 ((wrap64 ((wrap64 (a1 + t438)) + bt439.2)) + 4)) ≥ (l0.length : Int) then (shardlogref08_Cut.j0 k l0 t437 t438 bt439.1 bt439.2 (wrap64 ((wrap64 (a1 + t438)) + bt439.2)) t441 true) else (if 0 ≤ (wrap64 ((wrap64 ((wrap64 (a1 + t438)) + bt439.2)) + 4)) then (if (wrap64 ((wrap64 ((wrap64 (a1 + t438)) + bt439.2)) + 4)) < (l0.length : Int) then (shardlogref08_Cut.j0 k l0 t437 t438 bt439.1 bt439.2 (wrap64 ((wrap64 (a1 + t438)) + bt439.2)) t441 (decide ((rd l0 (wrap64 ((wrap64 ((wrap64 (a1 + t438)) + bt439.2)) + 4))) > 1))) else (none)) else (none)))))))) = some (r1, r2, r3, r4, r5, r6) := H
 have A3 := aS A30
 clear A30
 by_cases c4 : t438 = 0
 ·
  rw [if_pos c4] at H
  have c4b0 : (t438 == 0) = true := beq_iff_eq.mpr c4
  have c4b1 : (t438 != 0) = false := bne_eq_false_iff_eq.mpr c4
  clear c4
  simp only [Option.some.injEq, Prod.mk.injEq] at H
  obtain ⟨rfl, rfl, rfl, rfl, rfl, rfl⟩ := H
  go_enter Try.func36, Try.ntmps36
  go_wp2_with (first | ((with_reducible refine gate_dst (N := 4) rfl ?_); (try (refine gate_guard (by rfl) ?_; dsimp only)); refine box_event ?hg (N := 4) ?hd (cs := #[.string (⟨#[]⟩ : ByteArray), .string (⟨#[]⟩ : ByteArray), .int .i64 0, .string (⟨#[]⟩ : ByteArray), .bool false]) (t := 46) ?hr ?_; (case hd => rfl); (case hg => rfl); (case hr => first | (go_simp; done) | (go_simp; rfl)); intro gb436 hg w5 hbox hb; have n0_ := aS (below_step (by repeat (first | (with_reducible first | exact HB.out | apply bal | apply bdN | apply bdo) | exact HB.out)) hb); have n1_ := aS (hbox); have n2_ := aS ((by rw [hg]; exact (below_size (by repeat (first | (with_reducible first | exact HB.out | apply bal | apply bdN | apply bdo) | exact HB.out))) : w.heap.size ≤ gb436)); have n3_ := aS ((by rw [hg]; exact (below_size (by repeat (first | (with_reducible first | exact HB.out | apply bal | apply bdN | apply bdo) | exact HB.out))) : w.heap.size ≤ gb436)); clear HB; have HB := n0_; have BK436 := n1_; have GW436 := n2_; have GE436 := n3_; clear n0_ n1_ n2_ n3_; clear hb hbox hg) | ((with_reducible refine gate_callee (f := 49) rfl ?_); refine goesL_ (some 18) rfl rfl Try.func49 (by kernel_rfl) rfl #[.slice A0 l0.length c0, .int .i64 a1] rfl (by (try simp only [List.map_toArray, List.map_cons, List.map_nil]); first | done | rfl | (simp only [lld, llt]; rfl)) ?_; (with_reducible refine (shardlogref01_TextAt.calls _ _ l0 a1 t437 t438 _ ?side1 ?side2 A3.out).mono ?_); (case side1 => repeat (first | exact (Kd.C_below HR0.out HB.out) | (with_reducible refine Kd.C_alloc ?_ _) | (with_reducible refine Kd.C_drewN ?_ _) | (with_reducible refine Kd.C_drew ?_))); (case side2 => exact HC0.out); rintro e w' ⟨rfl, ⟨nd, rfl⟩⟩; refine ⟨_, rfl, ?_⟩; (try (rw [drewN_self w5]; generalize hq_ : World.drewN w5 _ = w5; have n0_ : Aside0 (w5.heap[gb436]? = some (.cells #[.string (⟨#[]⟩ : ByteArray), .string (⟨#[]⟩ : ByteArray), .int .i64 0, .string (⟨#[]⟩ : ByteArray), .bool false] 46 (0, 0))) := ⟨by rw [← hq_]; exact (by (with_reducible repeat (first | refine blk_drewN ?_ _ | refine blk_drew ?_ | refine blk_alloc ?_ _)); exact BK436.out)⟩; have n1_ : Aside0 (Below w.heap.size w w5) := ⟨by rw [← hq_]; exact (by repeat (first | (with_reducible first | exact HB.out | apply bal | apply bdN | apply bdo | refine below_set ?_ GE436.out) | exact HB.out))⟩; clear BK436 HB hq_; have BK436 := n0_; have HB := n1_; clear n0_ n1_)); have hcz6_0 : w5.cell? ⟨gb436, 0, none⟩ = some (.string (⟨#[]⟩ : ByteArray)) := (blk_cell BK436.out 0).trans rfl; have hcz6_1 : w5.cell? ⟨gb436, 1, none⟩ = some (.string (⟨#[]⟩ : ByteArray)) := (blk_cell BK436.out 1).trans rfl; have hcz6_2 : w5.cell? ⟨gb436, 2, none⟩ = some (.int .i64 0) := (blk_cell BK436.out 2).trans rfl; have hcz6_3 : w5.cell? ⟨gb436, 3, none⟩ = some (.string (⟨#[]⟩ : ByteArray)) := (blk_cell BK436.out 3).trans rfl; have hcz6_4 : w5.cell? ⟨gb436, 4, none⟩ = some (.bool false) := (blk_cell BK436.out 4).trans rfl; have hfz6_0 := blk_frozen BK436.out 0; have hfz6_1 := blk_frozen BK436.out 1; have hfz6_2 := blk_frozen BK436.out 2; have hfz6_3 := blk_frozen BK436.out 3; have hfz6_4 := blk_frozen BK436.out 4))
  refine bodyPost_ret (results_ct rfl _ _ gb436 46 #[.string (⟨#[]⟩ : ByteArray), .string (⟨#[]⟩ : ByteArray), .int .i64 0, .string (⟨#[]⟩ : ByteArray), .bool false] (0, 0) _ rfl (by (with_reducible repeat (first | refine blk_drewN ?_ _ | refine blk_drew ?_ | refine blk_alloc ?_ _)); refine blk_put (cs := #[.string (⟨#[]⟩ : ByteArray), .string (⟨#[]⟩ : ByteArray), .int .i64 0, .string (⟨#[]⟩ : ByteArray), .bool false]) ?_ 4 _ rfl; (with_reducible repeat (first | refine blk_drewN ?_ _ | refine blk_drew ?_ | refine blk_alloc ?_ _)); refine blk_put (cs := #[.string (⟨#[]⟩ : ByteArray), .string (⟨#[]⟩ : ByteArray), .int .i64 0, .string (⟨#[]⟩ : ByteArray), .bool false]) ?_ 3 _ rfl; (with_reducible repeat (first | refine blk_drewN ?_ _ | refine blk_drew ?_ | refine blk_alloc ?_ _)); refine blk_put (cs := #[.string (⟨#[]⟩ : ByteArray), .string (⟨#[]⟩ : ByteArray), .int .i64 0, .string (⟨#[]⟩ : ByteArray), .bool false]) ?_ 2 _ rfl; (with_reducible repeat (first | refine blk_drewN ?_ _ | refine blk_drew ?_ | refine blk_alloc ?_ _)); refine blk_put (cs := #[.string (⟨#[]⟩ : ByteArray), .string (⟨#[]⟩ : ByteArray), .int .i64 0, .string (⟨#[]⟩ : ByteArray), .bool false]) ?_ 1 _ rfl; (with_reducible repeat (first | refine blk_drewN ?_ _ | refine blk_drew ?_ | refine blk_alloc ?_ _)); refine blk_put (cs := #[.string (⟨#[]⟩ : ByteArray), .string (⟨#[]⟩ : ByteArray), .int .i64 0, .string (⟨#[]⟩ : ByteArray), .bool false]) ?_ 0 _ rfl; (with_reducible repeat (first | refine blk_drewN ?_ _ | refine blk_drew ?_ | refine blk_alloc ?_ _)); exact BK436.out) Try.underlying46 rfl (by kernel_rfl)) rfl ?_
  exact ⟨by first | rfl | (simp [errW_none, errW_some] <;> rfl) | (simp [*, errW_none, errW_some] <;> rfl), by repeat (first | (with_reducible first | exact HB.out | apply bal | apply bdN | apply bdo | refine below_set ?_ GE436.out) | exact HB.out)⟩
 ·
  rw [if_neg c4] at H
  have c4b0 : (t438 == 0) = false := beq_eq_false_iff_ne.mpr c4
  have c4b1 : (t438 != 0) = true := bne_iff_ne.mpr c4
  replace H := obm H
  obtain ⟨⟨t439, t440⟩, A70, H⟩ := H
  replace H : (if t440 = 0 then (some ((⟨#[]⟩ : ByteArray), (⟨#[]⟩ : ByteArray), 0, (⟨#[]⟩ : ByteArray), false, 0)) else ((shardlogref01_At.f l0 (wrap64 ((wrap64 (a1 + t438)) + t440))).bind fun t441 => (if t441 < 0 then (shardlogref08_Cut.j0 k l0 t437 t438 t439 t440 (wrap64 ((wrap64 (a1 + t438)) + t440)) t441 true) else (if (wrap64 ((wrap64 ((wrap64 (a1 + t438)) + t440)) + 4)) ≥ (l0.length : Int) then (shardlogref08_Cut.j0 k l0 t437 t438 t439 t440 (wrap64 ((wrap64 (a1 + t438)) + t440)) t441 true) else (if 0 ≤ (wrap64 ((wrap64 ((wrap64 (a1 + t438)) + t440)) + 4)) then (if (wrap64 ((wrap64 ((wrap64 (a1 + t438)) + t440)) + 4)) < (l0.length : Int) then (shardlogref08_Cut.j0 k l0 t437 t438 t439 t440 (wrap64 ((wrap64 (a1 + t438)) + t440)) t441 (decide ((rd l0 (wrap64 ((wrap64 ((wrap64 (a1 + t438)) + t440)) + 4))) > 1))) else (none)) else (none)))))) = some (r1, r2, r3, r4, r5, r6) := H
  have A7 := aS A70
  clear A70
  by_cases c8 : t440 = 0
  ·
   rw [if_pos c8] at H
   have c8b0 : (t440 == 0) = true := beq_iff_eq.mpr c8
   have c8b1 : (t440 != 0) = false := bne_eq_false_iff_eq.mpr c8
   clear c8
   simp only [Option.some.injEq, Prod.mk.injEq] at H
   obtain ⟨rfl, rfl, rfl, rfl, rfl, rfl⟩ := H
   go_enter Try.func36, Try.ntmps36
   go_wp2_with (first | ((with_reducible refine gate_dst (N := 4) rfl ?_); (try (refine gate_guard (by rfl) ?_; dsimp only)); refine box_event ?hg (N := 4) ?hd (cs := #[.string (⟨#[]⟩ : ByteArray), .string (⟨#[]⟩ : ByteArray), .int .i64 0, .string (⟨#[]⟩ : ByteArray), .bool false]) (t := 46) ?hr ?_; (case hd => rfl); (case hg => rfl); (case hr => first | (go_simp; done) | (go_simp; rfl)); intro gb436 hg w9 hbox hb; have n0_ := aS (below_step (by repeat (first | (with_reducible first | exact HB.out | apply bal | apply bdN | apply bdo) | exact HB.out)) hb); have n1_ := aS (hbox); have n2_ := aS ((by rw [hg]; exact (below_size (by repeat (first | (with_reducible first | exact HB.out | apply bal | apply bdN | apply bdo) | exact HB.out))) : w.heap.size ≤ gb436)); have n3_ := aS ((by rw [hg]; exact (below_size (by repeat (first | (with_reducible first | exact HB.out | apply bal | apply bdN | apply bdo) | exact HB.out))) : w.heap.size ≤ gb436)); clear HB; have HB := n0_; have BK436 := n1_; have GW436 := n2_; have GE436 := n3_; clear n0_ n1_ n2_ n3_; clear hb hbox hg) | ((with_reducible refine gate_callee (f := 49) rfl ?_); refine goesL_ (some 18) rfl rfl Try.func49 (by kernel_rfl) rfl #[.slice A0 l0.length c0, .int .i64 a1] rfl (by (try simp only [List.map_toArray, List.map_cons, List.map_nil]); first | done | rfl | (simp only [lld, llt]; rfl)) ?_; (with_reducible refine (shardlogref01_TextAt.calls _ _ l0 a1 t437 t438 _ ?side1 ?side2 A3.out).mono ?_); (case side1 => repeat (first | exact (Kd.C_below HR0.out HB.out) | (with_reducible refine Kd.C_alloc ?_ _) | (with_reducible refine Kd.C_drewN ?_ _) | (with_reducible refine Kd.C_drew ?_))); (case side2 => exact HC0.out); rintro e w' ⟨rfl, ⟨nd, rfl⟩⟩; refine ⟨_, rfl, ?_⟩; (try (rw [drewN_self w9]; generalize hq_ : World.drewN w9 _ = w9; have n0_ : Aside0 (w9.heap[gb436]? = some (.cells #[.string (⟨#[]⟩ : ByteArray), .string (⟨#[]⟩ : ByteArray), .int .i64 0, .string (⟨#[]⟩ : ByteArray), .bool false] 46 (0, 0))) := ⟨by rw [← hq_]; exact (by (with_reducible repeat (first | refine blk_drewN ?_ _ | refine blk_drew ?_ | refine blk_alloc ?_ _)); exact BK436.out)⟩; have n1_ : Aside0 (Below w.heap.size w w9) := ⟨by rw [← hq_]; exact (by repeat (first | (with_reducible first | exact HB.out | apply bal | apply bdN | apply bdo | refine below_set ?_ GE436.out) | exact HB.out))⟩; clear BK436 HB hq_; have BK436 := n0_; have HB := n1_; clear n0_ n1_))) | ((with_reducible refine gate_callee (f := 49) rfl ?_); refine goesL_ (some 29) rfl rfl Try.func49 (by kernel_rfl) rfl #[.slice A0 l0.length c0, .int .i64 (wrap64 (a1 + t438))] rfl (by (try simp only [List.map_toArray, List.map_cons, List.map_nil]); first | done | rfl | (simp only [lld, llt]; rfl)) ?_; (with_reducible refine (shardlogref01_TextAt.calls _ _ l0 (wrap64 (a1 + t438)) t439 t440 _ ?side1 ?side2 A7.out).mono ?_); (case side1 => repeat (first | exact (Kd.C_below HR0.out HB.out) | (with_reducible refine Kd.C_alloc ?_ _) | (with_reducible refine Kd.C_drewN ?_ _) | (with_reducible refine Kd.C_drew ?_))); (case side2 => exact HC0.out); rintro e w' ⟨rfl, ⟨nd, rfl⟩⟩; refine ⟨_, rfl, ?_⟩; (try (rw [drewN_self w9]; generalize hq_ : World.drewN w9 _ = w9; have n0_ : Aside0 (w9.heap[gb436]? = some (.cells #[.string (⟨#[]⟩ : ByteArray), .string (⟨#[]⟩ : ByteArray), .int .i64 0, .string (⟨#[]⟩ : ByteArray), .bool false] 46 (0, 0))) := ⟨by rw [← hq_]; exact (by (with_reducible repeat (first | refine blk_drewN ?_ _ | refine blk_drew ?_ | refine blk_alloc ?_ _)); exact BK436.out)⟩; have n1_ : Aside0 (Below w.heap.size w w9) := ⟨by rw [← hq_]; exact (by repeat (first | (with_reducible first | exact HB.out | apply bal | apply bdN | apply bdo | refine below_set ?_ GE436.out) | exact HB.out))⟩; clear BK436 HB hq_; have BK436 := n0_; have HB := n1_; clear n0_ n1_)); have hcz10_0 : w9.cell? ⟨gb436, 0, none⟩ = some (.string (⟨#[]⟩ : ByteArray)) := (blk_cell BK436.out 0).trans rfl; have hcz10_1 : w9.cell? ⟨gb436, 1, none⟩ = some (.string (⟨#[]⟩ : ByteArray)) := (blk_cell BK436.out 1).trans rfl; have hcz10_2 : w9.cell? ⟨gb436, 2, none⟩ = some (.int .i64 0) := (blk_cell BK436.out 2).trans rfl; have hcz10_3 : w9.cell? ⟨gb436, 3, none⟩ = some (.string (⟨#[]⟩ : ByteArray)) := (blk_cell BK436.out 3).trans rfl; have hcz10_4 : w9.cell? ⟨gb436, 4, none⟩ = some (.bool false) := (blk_cell BK436.out 4).trans rfl; have hfz10_0 := blk_frozen BK436.out 0; have hfz10_1 := blk_frozen BK436.out 1; have hfz10_2 := blk_frozen BK436.out 2; have hfz10_3 := blk_frozen BK436.out 3; have hfz10_4 := blk_frozen BK436.out 4))
   refine bodyPost_ret (results_ct rfl _ _ gb436 46 #[.string (⟨#[]⟩ : ByteArray), .string (⟨#[]⟩ : ByteArray), .int .i64 0, .string (⟨#[]⟩ : ByteArray), .bool false] (0, 0) _ rfl (by (with_reducible repeat (first | refine blk_drewN ?_ _ | refine blk_drew ?_ | refine blk_alloc ?_ _)); refine blk_put (cs := #[.string (⟨#[]⟩ : ByteArray), .string (⟨#[]⟩ : ByteArray), .int .i64 0, .string (⟨#[]⟩ : ByteArray), .bool false]) ?_ 4 _ rfl; (with_reducible repeat (first | refine blk_drewN ?_ _ | refine blk_drew ?_ | refine blk_alloc ?_ _)); refine blk_put (cs := #[.string (⟨#[]⟩ : ByteArray), .string (⟨#[]⟩ : ByteArray), .int .i64 0, .string (⟨#[]⟩ : ByteArray), .bool false]) ?_ 3 _ rfl; (with_reducible repeat (first | refine blk_drewN ?_ _ | refine blk_drew ?_ | refine blk_alloc ?_ _)); refine blk_put (cs := #[.string (⟨#[]⟩ : ByteArray), .string (⟨#[]⟩ : ByteArray), .int .i64 0, .string (⟨#[]⟩ : ByteArray), .bool false]) ?_ 2 _ rfl; (with_reducible repeat (first | refine blk_drewN ?_ _ | refine blk_drew ?_ | refine blk_alloc ?_ _)); refine blk_put (cs := #[.string (⟨#[]⟩ : ByteArray), .string (⟨#[]⟩ : ByteArray), .int .i64 0, .string (⟨#[]⟩ : ByteArray), .bool false]) ?_ 1 _ rfl; (with_reducible repeat (first | refine blk_drewN ?_ _ | refine blk_drew ?_ | refine blk_alloc ?_ _)); refine blk_put (cs := #[.string (⟨#[]⟩ : ByteArray), .string (⟨#[]⟩ : ByteArray), .int .i64 0, .string (⟨#[]⟩ : ByteArray), .bool false]) ?_ 0 _ rfl; (with_reducible repeat (first | refine blk_drewN ?_ _ | refine blk_drew ?_ | refine blk_alloc ?_ _)); exact BK436.out) Try.underlying46 rfl (by kernel_rfl)) rfl ?_
   exact ⟨by first | rfl | (simp [errW_none, errW_some] <;> rfl) | (simp [*, errW_none, errW_some] <;> rfl), by repeat (first | (with_reducible first | exact HB.out | apply bal | apply bdN | apply bdo | refine below_set ?_ GE436.out) | exact HB.out)⟩
  ·
   rw [if_neg c8] at H
   have c8b0 : (t440 == 0) = false := beq_eq_false_iff_ne.mpr c8
   have c8b1 : (t440 != 0) = true := bne_iff_ne.mpr c8
   replace H := obm H
   obtain ⟨t441, A110, H⟩ := H
   replace H : (if t441 < 0 then (shardlogref08_Cut.j0 k l0 t437 t438 t439 t440 (wrap64 ((wrap64 (a1 + t438)) + t440)) t441 true) else (if (wrap64 ((wrap64 ((wrap64 (a1 + t438)) + t440)) + 4)) ≥ (l0.length : Int) then (shardlogref08_Cut.j0 k l0 t437 t438 t439 t440 (wrap64 ((wrap64 (a1 + t438)) + t440)) t441 true) else (if 0 ≤ (wrap64 ((wrap64 ((wrap64 (a1 + t438)) + t440)) + 4)) then (if (wrap64 ((wrap64 ((wrap64 (a1 + t438)) + t440)) + 4)) < (l0.length : Int) then (shardlogref08_Cut.j0 k l0 t437 t438 t439 t440 (wrap64 ((wrap64 (a1 + t438)) + t440)) t441 (decide ((rd l0 (wrap64 ((wrap64 ((wrap64 (a1 + t438)) + t440)) + 4))) > 1))) else (none)) else (none)))) = some (r1, r2, r3, r4, r5, r6) := H
   have A11 := aS A110
   clear A110
   have HC12 := aS H
   clear H
   go_enter Try.func36, Try.ntmps36
   go_upto_region 9 with (first | ((with_reducible refine gate_dst (N := 4) rfl ?_); (try (refine gate_guard (by rfl) ?_; dsimp only)); refine box_event ?hg (N := 4) ?hd (cs := #[.string (⟨#[]⟩ : ByteArray), .string (⟨#[]⟩ : ByteArray), .int .i64 0, .string (⟨#[]⟩ : ByteArray), .bool false]) (t := 46) ?hr ?_; (case hd => rfl); (case hg => rfl); (case hr => first | (go_simp; done) | (go_simp; rfl)); intro gb436 hg w13 hbox hb; have n0_ := aS (below_step (by repeat (first | (with_reducible first | exact HB.out | apply bal | apply bdN | apply bdo) | exact HB.out)) hb); have n1_ := aS (hbox); have n2_ := aS ((by rw [hg]; exact (below_size (by repeat (first | (with_reducible first | exact HB.out | apply bal | apply bdN | apply bdo) | exact HB.out))) : w.heap.size ≤ gb436)); have n3_ := aS ((by rw [hg]; exact (below_size (by repeat (first | (with_reducible first | exact HB.out | apply bal | apply bdN | apply bdo) | exact HB.out))) : w.heap.size ≤ gb436)); clear HB; have HB := n0_; have BK436 := n1_; have GW436 := n2_; have GE436 := n3_; clear n0_ n1_ n2_ n3_; clear hb hbox hg) | ((with_reducible refine gate_callee (f := 49) rfl ?_); refine goesL_ (some 18) rfl rfl Try.func49 (by kernel_rfl) rfl #[.slice A0 l0.length c0, .int .i64 a1] rfl (by (try simp only [List.map_toArray, List.map_cons, List.map_nil]); first | done | rfl | (simp only [lld, llt]; rfl)) ?_; (with_reducible refine (shardlogref01_TextAt.calls _ _ l0 a1 t437 t438 _ ?side1 ?side2 A3.out).mono ?_); (case side1 => repeat (first | exact (Kd.C_below HR0.out HB.out) | (with_reducible refine Kd.C_alloc ?_ _) | (with_reducible refine Kd.C_drewN ?_ _) | (with_reducible refine Kd.C_drew ?_))); (case side2 => exact HC0.out); rintro e w' ⟨rfl, ⟨nd, rfl⟩⟩; refine ⟨_, rfl, ?_⟩) | ((with_reducible refine gate_callee (f := 49) rfl ?_); refine goesL_ (some 29) rfl rfl Try.func49 (by kernel_rfl) rfl #[.slice A0 l0.length c0, .int .i64 (wrap64 (a1 + t438))] rfl (by (try simp only [List.map_toArray, List.map_cons, List.map_nil]); first | done | rfl | (simp only [lld, llt]; rfl)) ?_; (with_reducible refine (shardlogref01_TextAt.calls _ _ l0 (wrap64 (a1 + t438)) t439 t440 _ ?side1 ?side2 A7.out).mono ?_); (case side1 => repeat (first | exact (Kd.C_below HR0.out (by repeat (first | (with_reducible first | exact HB.out | apply bal | apply bdN | apply bdo | refine below_set ?_ GE436.out) | exact HB.out))) | (with_reducible refine Kd.C_alloc ?_ _) | (with_reducible refine Kd.C_drewN ?_ _) | (with_reducible refine Kd.C_drew ?_))); (case side2 => exact HC0.out); rintro e w' ⟨rfl, ⟨nd, rfl⟩⟩; refine ⟨_, rfl, ?_⟩) | ((with_reducible refine gate_callee (f := 35) rfl ?_); refine goesL_ (some 42) rfl rfl Try.func35 (by kernel_rfl) rfl #[.slice A0 l0.length c0, .int .i64 (wrap64 ((wrap64 (a1 + t438)) + t440))] rfl (by (try simp only [List.map_toArray, List.map_cons, List.map_nil]); first | done | rfl | (simp only [lld, llt]; rfl)) ?_; (with_reducible refine (shardlogref01_At.calls _ _ l0 (wrap64 ((wrap64 (a1 + t438)) + t440)) t441 _ ?side1 ?side2 A11.out).mono ?_); (case side1 => repeat (first | exact (Kd.C_below HR0.out (by repeat (first | (with_reducible first | exact HB.out | apply bal | apply bdN | apply bdo | refine below_set ?_ GE436.out) | exact HB.out))) | (with_reducible refine Kd.C_alloc ?_ _) | (with_reducible refine Kd.C_drewN ?_ _) | (with_reducible refine Kd.C_drew ?_))); (case side2 => exact HC0.out); rintro e w' ⟨rfl, ⟨nd, rfl⟩⟩; refine ⟨_, rfl, ?_⟩))
   (try simp only [Act.put, lsa, lsz, lss])
   go_cut [59] (fun v59 wc => ∃ (kq : Nat) (x59_11 : Bool), v59 = .bool x59_11 ∧ Aside0 (shardlogref08_Cut.j0 kq l0 t437 t438 t439 t440 (wrap64 ((wrap64 (a1 + t438)) + t440)) t441 x59_11 = some (r1, r2, r3, r4, r5, r6)) ∧ Aside0 (kq ≤ k) ∧ Aside0 (wc.heap[gb436]? = some (.cells #[.string (⟨#[]⟩ : ByteArray), .string (⟨#[]⟩ : ByteArray), .int .i64 0, .string (⟨#[]⟩ : ByteArray), .bool false] 46 (0, 0))) ∧ Aside0 (Below w.heap.size w wc))
   case first =>
    have H := HC12.out; clear HC12
    by_cases c14 : t441 < 0
    ·
     rw [if_pos c14] at H
     have c14b0 : decide (t441 < 0) = true := decide_eq_true c14
     clear c14
     (first | rw [c14b0] | (simp only [i64_w, i32_w]; rw [c14b0]) | skip)
     have H' := aS H
     clear H
     go_wp2
     go_meet
     case rel => exact ⟨_, (true), (by first | rfl | (simp; done) | (simp [*]; done) | (simp; exact (by decide : ∀ a_ b_ : Bool, (a_ == b_) = (!a_ != b_)) _ _)), H', ⟨by first | omega | exact Nat.le_refl _⟩, ⟨by (with_reducible repeat (first | refine blk_drewN ?_ _ | refine blk_drew ?_ | refine blk_alloc ?_ _)); exact BK436.out⟩, ⟨by repeat (first | (with_reducible first | exact HB.out | apply bal | apply bdN | apply bdo | refine below_set ?_ GE436.out) | exact HB.out)⟩⟩
    ·
     rw [if_neg c14] at H
     have c14b0 : decide (t441 < 0) = false := decide_eq_false c14
     clear c14
     (first | rw [c14b0] | (simp only [i64_w, i32_w]; rw [c14b0]) | skip)
     by_cases c15 : (wrap64 ((wrap64 ((wrap64 (a1 + t438)) + t440)) + 4)) ≥ (l0.length : Int)
     ·
      rw [if_pos c15] at H
      have c15b0 : decide ((l0.length : Int) ≤ (wrap64 ((wrap64 ((wrap64 (a1 + t438)) + t440)) + 4))) = true := decide_eq_true c15
      clear c15
      have H' := aS H
      clear H
      go_wp2
      go_meet
      case rel => exact ⟨_, (true), (by first | rfl | (simp; done) | (simp [*]; done) | (simp; exact (by decide : ∀ a_ b_ : Bool, (a_ == b_) = (!a_ != b_)) _ _)), H', ⟨by first | omega | exact Nat.le_refl _⟩, ⟨by (with_reducible repeat (first | refine blk_drewN ?_ _ | refine blk_drew ?_ | refine blk_alloc ?_ _)); exact BK436.out⟩, ⟨by repeat (first | (with_reducible first | exact HB.out | apply bal | apply bdN | apply bdo | refine below_set ?_ GE436.out) | exact HB.out)⟩⟩
     ·
      rw [if_neg c15] at H
      have c15b0 : decide ((l0.length : Int) ≤ (wrap64 ((wrap64 ((wrap64 (a1 + t438)) + t440)) + 4))) = false := decide_eq_false c15
      clear c15
      obtain ⟨ji16, hji16⟩ : ∃ j_ : Int, (wrap64 ((wrap64 ((wrap64 (a1 + t438)) + t440)) + 4)) = j_ := ⟨_, rfl⟩
      replace H : (if 0 ≤ (ji16) then (if (ji16) < (l0.length : Int) then (shardlogref08_Cut.j0 k l0 t437 t438 t439 t440 (wrap64 ((wrap64 (a1 + t438)) + t440)) t441 (decide ((rd l0 (ji16)) > 1))) else (none)) else (none)) = some (r1, r2, r3, r4, r5, r6) := by first | (rw [hji16] at H; exact H) | (simp only [hji16] at H ⊢; exact H)
      (try rw [hji16] at c15b0)
      have hji16w : (IntKind.i64.wrap ((wrap64 ((wrap64 (a1 + t438)) + t440)) + 4)) = ji16 := (i64_w _).trans hji16
      by_cases c17 : 0 ≤ (ji16)
      ·
       rw [if_pos c17] at H
       have c17b0 : decide (0 ≤ (ji16)) = true := decide_eq_true c17
       clear c17
       by_cases c18 : (ji16) < (l0.length : Int)
       ·
        rw [if_pos c18] at H
        have c18b0 : decide ((ji16) < (l0.length : Int)) = true := decide_eq_true c18
        clear c18
        have H' := aS H
        clear H
        have p442 : 0 ≤ ((ji16) : Int) := odt (by first | (with_reducible assumption) | assumption)
        have q442 : (ji16) < (l0.length : Int) := odt (by first | (with_reducible assumption) | assumption)
        obtain ⟨ad442, e442, hx442_0⟩ := Kd.at_int HR0.out (ji16) p442 q442
        cases e442
        replace hx442_0 := (HB.out.cell (wbl w _ hx442_0)).trans hx442_0
        replace p442 := eq_true p442
        replace q442 := eq_true q442
        go_wp2
        go_meet
        case rel => exact ⟨_, (decide ((rd l0 (ji16)) > 1)), (by first | rfl | (simp; done) | (simp only [← hji16] <;> (first | rfl | simp)) | (simp [*]; done)), H', ⟨by first | omega | exact Nat.le_refl _⟩, ⟨by (with_reducible repeat (first | refine blk_drewN ?_ _ | refine blk_drew ?_ | refine blk_alloc ?_ _)); exact BK436.out⟩, ⟨by repeat (first | (with_reducible first | exact HB.out | apply bal | apply bdN | apply bdo | refine below_set ?_ GE436.out) | exact HB.out)⟩⟩
       ·
        rw [if_neg c18] at H
        exact absurd H (by simp)
      ·
       rw [if_neg c17] at H
       exact absurd H (by simp)
   case rest =>
    clear HC12; (try clear c1); (try clear p2); (try clear c3); (try clear c4); (try clear c4b0); (try clear c4b1); (try clear p4); (try clear q4); (try clear hx4); (try clear p6); (try clear c8); (try clear c8b0); (try clear c8b1); (try clear c14); (try clear c14b0); (try clear c15); (try clear c15b0); (try clear c17); (try clear c17b0); (try clear c18); (try clear c18b0); (try clear hcz10_0); (try clear hcz10_1); (try clear hcz10_2); (try clear hcz10_3); (try clear hcz10_4); (try clear hcz6_0); (try clear hcz6_1); (try clear hcz6_2); (try clear hcz6_3); (try clear hcz6_4); (try clear hfz10_0); (try clear hfz10_1); (try clear hfz10_2); (try clear hfz10_3); (try clear hfz10_4); (try clear hfz6_0); (try clear hfz6_1); (try clear hfz6_2); (try clear hfz6_3); (try clear hfz6_4); (try clear hx442_0); (try clear p442); (try clear q442)
    obtain ⟨kq, x59_11, rfl, HA, HJ11, BK436, HB⟩ := hcut
    cases kq with
    | zero => exact absurd HA.out (by simp [shardlogref08_Cut.j0])
    | succ kj11 =>
     have H := HA.out; clear HA
     simp only [shardlogref08_Cut.j0] at H
     by_cases c19 : x59_11 = true
     ·
      subst c19
      have H1 : (some ((⟨#[]⟩ : ByteArray), (⟨#[]⟩ : ByteArray), 0, (⟨#[]⟩ : ByteArray), false, 0)) = some (r1, r2, r3, r4, r5, r6) := by rw [if_pos rfl] at H; exact H
      clear H; have H := H1; clear H1
      simp only [Option.some.injEq, Prod.mk.injEq] at H
      obtain ⟨rfl, rfl, rfl, rfl, rfl, rfl⟩ := H
      have hcz20_0 : wc.cell? ⟨gb436, 0, none⟩ = some (.string (⟨#[]⟩ : ByteArray)) := (blk_cell BK436.out 0).trans rfl
      have hcz20_1 : wc.cell? ⟨gb436, 1, none⟩ = some (.string (⟨#[]⟩ : ByteArray)) := (blk_cell BK436.out 1).trans rfl
      have hcz20_2 : wc.cell? ⟨gb436, 2, none⟩ = some (.int .i64 0) := (blk_cell BK436.out 2).trans rfl
      have hcz20_3 : wc.cell? ⟨gb436, 3, none⟩ = some (.string (⟨#[]⟩ : ByteArray)) := (blk_cell BK436.out 3).trans rfl
      have hcz20_4 : wc.cell? ⟨gb436, 4, none⟩ = some (.bool false) := (blk_cell BK436.out 4).trans rfl
      have hfz20_0 := blk_frozen BK436.out 0
      have hfz20_1 := blk_frozen BK436.out 1
      have hfz20_2 := blk_frozen BK436.out 2
      have hfz20_3 := blk_frozen BK436.out 3
      have hfz20_4 := blk_frozen BK436.out 4
      go_wp2
      refine bodyPost_ret (results_ct rfl _ _ gb436 46 #[.string (⟨#[]⟩ : ByteArray), .string (⟨#[]⟩ : ByteArray), .int .i64 0, .string (⟨#[]⟩ : ByteArray), .bool false] (0, 0) _ rfl (by (with_reducible repeat (first | refine blk_drewN ?_ _ | refine blk_drew ?_ | refine blk_alloc ?_ _)); refine blk_put (cs := #[.string (⟨#[]⟩ : ByteArray), .string (⟨#[]⟩ : ByteArray), .int .i64 0, .string (⟨#[]⟩ : ByteArray), .bool false]) ?_ 4 _ rfl; (with_reducible repeat (first | refine blk_drewN ?_ _ | refine blk_drew ?_ | refine blk_alloc ?_ _)); refine blk_put (cs := #[.string (⟨#[]⟩ : ByteArray), .string (⟨#[]⟩ : ByteArray), .int .i64 0, .string (⟨#[]⟩ : ByteArray), .bool false]) ?_ 3 _ rfl; (with_reducible repeat (first | refine blk_drewN ?_ _ | refine blk_drew ?_ | refine blk_alloc ?_ _)); refine blk_put (cs := #[.string (⟨#[]⟩ : ByteArray), .string (⟨#[]⟩ : ByteArray), .int .i64 0, .string (⟨#[]⟩ : ByteArray), .bool false]) ?_ 2 _ rfl; (with_reducible repeat (first | refine blk_drewN ?_ _ | refine blk_drew ?_ | refine blk_alloc ?_ _)); refine blk_put (cs := #[.string (⟨#[]⟩ : ByteArray), .string (⟨#[]⟩ : ByteArray), .int .i64 0, .string (⟨#[]⟩ : ByteArray), .bool false]) ?_ 1 _ rfl; (with_reducible repeat (first | refine blk_drewN ?_ _ | refine blk_drew ?_ | refine blk_alloc ?_ _)); refine blk_put (cs := #[.string (⟨#[]⟩ : ByteArray), .string (⟨#[]⟩ : ByteArray), .int .i64 0, .string (⟨#[]⟩ : ByteArray), .bool false]) ?_ 0 _ rfl; (with_reducible repeat (first | refine blk_drewN ?_ _ | refine blk_drew ?_ | refine blk_alloc ?_ _)); exact BK436.out) Try.underlying46 rfl (by kernel_rfl)) rfl ?_
      exact ⟨by first | rfl | (simp [errW_none, errW_some] <;> rfl) | (simp [*, errW_none, errW_some] <;> rfl), by repeat (first | (with_reducible first | exact HB.out | apply bal | apply bdN | apply bdo | refine below_set ?_ GE436.out) | exact HB.out)⟩
     ·
      replace c19 := Bool.eq_false_iff.mpr c19
      subst c19
      have H1 : ((shardlogref01_TextAt.f l0 (wrap64 ((wrap64 ((wrap64 (a1 + t438)) + t440)) + 5))).bind fun bt443 => (if 0 ≤ (wrap64 ((wrap64 ((wrap64 (a1 + t438)) + t440)) + 4)) then (if (wrap64 ((wrap64 ((wrap64 (a1 + t438)) + t440)) + 4)) < (l0.length : Int) then (if bt443.2 = 0 then (some ((⟨#[]⟩ : ByteArray), (⟨#[]⟩ : ByteArray), 0, (⟨#[]⟩ : ByteArray), false, 0)) else ((shardlogref08_Right.f t437 t439 t441 bt443.1 ((rd l0 (wrap64 ((wrap64 ((wrap64 (a1 + t438)) + t440)) + 4))) == 1)).bind fun t447 => (if t447 = true then (some (t437, t439, t441, bt443.1, ((rd l0 (wrap64 ((wrap64 ((wrap64 (a1 + t438)) + t440)) + 4))) == 1), wrap64 ((wrap64 ((wrap64 (t438 + t440)) + 5)) + bt443.2))) else (some ((⟨#[]⟩ : ByteArray), (⟨#[]⟩ : ByteArray), 0, (⟨#[]⟩ : ByteArray), false, 0))))) else (none)) else (none))) = some (r1, r2, r3, r4, r5, r6) := by rw [if_neg (show ¬ (false = true) by decide)] at H; exact H
      clear H; have H := H1; clear H1
      replace H := obm H
      obtain ⟨⟨t443, t444⟩, A210, H⟩ := H
      replace H : (if 0 ≤ (wrap64 ((wrap64 ((wrap64 (a1 + t438)) + t440)) + 4)) then (if (wrap64 ((wrap64 ((wrap64 (a1 + t438)) + t440)) + 4)) < (l0.length : Int) then (if t444 = 0 then (some ((⟨#[]⟩ : ByteArray), (⟨#[]⟩ : ByteArray), 0, (⟨#[]⟩ : ByteArray), false, 0)) else ((shardlogref08_Right.f t437 t439 t441 t443 ((rd l0 (wrap64 ((wrap64 ((wrap64 (a1 + t438)) + t440)) + 4))) == 1)).bind fun t447 => (if t447 = true then (some (t437, t439, t441, t443, ((rd l0 (wrap64 ((wrap64 ((wrap64 (a1 + t438)) + t440)) + 4))) == 1), wrap64 ((wrap64 ((wrap64 (t438 + t440)) + 5)) + t444))) else (some ((⟨#[]⟩ : ByteArray), (⟨#[]⟩ : ByteArray), 0, (⟨#[]⟩ : ByteArray), false, 0))))) else (none)) else (none)) = some (r1, r2, r3, r4, r5, r6) := H
      have A21 := aS A210
      clear A210
      obtain ⟨ji22, hji22⟩ : ∃ j_ : Int, (wrap64 ((wrap64 ((wrap64 (a1 + t438)) + t440)) + 4)) = j_ := ⟨_, rfl⟩
      replace H : (if 0 ≤ (ji22) then (if (ji22) < (l0.length : Int) then (if t444 = 0 then (some ((⟨#[]⟩ : ByteArray), (⟨#[]⟩ : ByteArray), 0, (⟨#[]⟩ : ByteArray), false, 0)) else ((shardlogref08_Right.f t437 t439 t441 t443 ((rd l0 (ji22)) == 1)).bind fun t447 => (if t447 = true then (some (t437, t439, t441, t443, ((rd l0 (ji22)) == 1), wrap64 ((wrap64 ((wrap64 (t438 + t440)) + 5)) + t444))) else (some ((⟨#[]⟩ : ByteArray), (⟨#[]⟩ : ByteArray), 0, (⟨#[]⟩ : ByteArray), false, 0))))) else (none)) else (none)) = some (r1, r2, r3, r4, r5, r6) := by first | (rw [hji22] at H; exact H) | (simp only [hji22] at H ⊢; exact H)
      (try rw [hji22] at A21)
      have hji22w : (IntKind.i64.wrap ((wrap64 ((wrap64 (a1 + t438)) + t440)) + 4)) = ji22 := (i64_w _).trans hji22
      by_cases c23 : 0 ≤ (ji22)
      ·
       rw [if_pos c23] at H
       have c23b0 : decide (0 ≤ (ji22)) = true := decide_eq_true c23
       clear c23
       by_cases c24 : (ji22) < (l0.length : Int)
       ·
        rw [if_pos c24] at H
        have c24b0 : decide ((ji22) < (l0.length : Int)) = true := decide_eq_true c24
        clear c24
        by_cases c25 : t444 = 0
        ·
         rw [if_pos c25] at H
         have c25b0 : (t444 == 0) = true := beq_iff_eq.mpr c25
         have c25b1 : (t444 != 0) = false := bne_eq_false_iff_eq.mpr c25
         clear c25
         simp only [Option.some.injEq, Prod.mk.injEq] at H
         obtain ⟨rfl, rfl, rfl, rfl, rfl, rfl⟩ := H
         go_wp2_with (first | ((with_reducible refine gate_callee (f := 49) rfl ?_); refine goesL_ (some 65) rfl rfl Try.func49 (by kernel_rfl) rfl #[.slice A0 l0.length c0, .int .i64 (wrap64 ((wrap64 ((wrap64 (a1 + t438)) + t440)) + 5))] rfl (by (try simp only [List.map_toArray, List.map_cons, List.map_nil]); first | done | rfl | (simp only [lld, llt]; rfl)) ?_; (with_reducible refine (shardlogref01_TextAt.calls _ _ l0 (wrap64 ((wrap64 ((wrap64 (a1 + t438)) + t440)) + 5)) t443 t444 _ ?side1 ?side2 A21.out).mono ?_); (case side1 => repeat (first | exact (Kd.C_below HR0.out HB.out) | (with_reducible refine Kd.C_alloc ?_ _) | (with_reducible refine Kd.C_drewN ?_ _) | (with_reducible refine Kd.C_drew ?_))); (case side2 => exact HC0.out); rintro e w' ⟨rfl, ⟨nd, rfl⟩⟩; refine ⟨_, rfl, ?_⟩; (try (rw [drewN_self wc]; generalize hq_ : World.drewN wc _ = wc; have n0_ : Aside0 (wc.heap[gb436]? = some (.cells #[.string (⟨#[]⟩ : ByteArray), .string (⟨#[]⟩ : ByteArray), .int .i64 0, .string (⟨#[]⟩ : ByteArray), .bool false] 46 (0, 0))) := ⟨by rw [← hq_]; exact (by (with_reducible repeat (first | refine blk_drewN ?_ _ | refine blk_drew ?_ | refine blk_alloc ?_ _)); exact BK436.out)⟩; have n1_ : Aside0 (Below w.heap.size w wc) := ⟨by rw [← hq_]; exact (by repeat (first | (with_reducible first | exact HB.out | apply bal | apply bdN | apply bdo | refine below_set ?_ GE436.out) | exact HB.out))⟩; clear BK436 HB hq_; have BK436 := n0_; have HB := n1_; clear n0_ n1_)); have p445 : 0 ≤ ((ji22) : Int) := odt (by first | (with_reducible assumption) | assumption); have q445 : (ji22) < (l0.length : Int) := odt (by first | (with_reducible assumption) | assumption); obtain ⟨ad445, e445, hx445_0⟩ := Kd.at_int HR0.out (ji22) p445 q445; cases e445; replace hx445_0 := (HB.out.cell (wbl w _ hx445_0)).trans hx445_0; replace p445 := eq_true p445; replace q445 := eq_true q445) | ((with_reducible refine gate_dst (N := 14) rfl ?_); (try (refine gate_guard (by rfl) ?_; dsimp only)); refine box_event ?hg (N := 14) ?hd (cs := #[.string (⟨#[]⟩ : ByteArray), .string (⟨#[]⟩ : ByteArray), .int .i64 0, .string (⟨#[]⟩ : ByteArray), .bool false]) (t := 46) ?hr ?_; (case hd => rfl); (case hg => rfl); (case hr => first | (go_simp; done) | (go_simp; rfl)); intro gb446 hg w26 hbox hb; have n0_ := aS (blk_below (g := gb436) (o := .cells #[.string (⟨#[]⟩ : ByteArray), .string (⟨#[]⟩ : ByteArray), .int .i64 0, .string (⟨#[]⟩ : ByteArray), .bool false] 46 (0, 0)) (by (with_reducible repeat (first | refine blk_drewN ?_ _ | refine blk_drew ?_ | refine blk_alloc ?_ _)); exact BK436.out) hb); have n1_ := aS (below_step (by repeat (first | (with_reducible first | exact HB.out | apply bal | apply bdN | apply bdo | refine below_set ?_ GE436.out) | exact HB.out)) hb); have n2_ := aS (hbox); have n3_ := aS ((by rw [hg]; exact (below_size (by repeat (first | (with_reducible first | exact HB.out | apply bal | apply bdN | apply bdo | refine below_set ?_ GE436.out) | exact HB.out))) : w.heap.size ≤ gb446)); have n4_ := aS ((by rw [hg]; exact (below_size (by repeat (first | (with_reducible first | exact HB.out | apply bal | apply bdN | apply bdo | refine below_set ?_ GE436.out) | exact HB.out))) : w.heap.size ≤ gb446)); have n5_ := aS ((by rw [hg]; exact Nat.ne_of_lt (blk_lt (g := gb436) (o := .cells #[.string (⟨#[]⟩ : ByteArray), .string (⟨#[]⟩ : ByteArray), .int .i64 0, .string (⟨#[]⟩ : ByteArray), .bool false] 46 (0, 0)) (by (with_reducible repeat (first | refine blk_drewN ?_ _ | refine blk_drew ?_ | refine blk_alloc ?_ _)); exact BK436.out)) : gb436 ≠ gb446)); have n6_ := aS ((by rw [hg]; exact Nat.ne_of_gt (blk_lt (g := gb436) (o := .cells #[.string (⟨#[]⟩ : ByteArray), .string (⟨#[]⟩ : ByteArray), .int .i64 0, .string (⟨#[]⟩ : ByteArray), .bool false] 46 (0, 0)) (by (with_reducible repeat (first | refine blk_drewN ?_ _ | refine blk_drew ?_ | refine blk_alloc ?_ _)); exact BK436.out)) : gb446 ≠ gb436)); clear BK436; clear HB; have BK436 := n0_; have HB := n1_; have BK446 := n2_; have GW446 := n3_; have GE446 := n4_; have NB436_446 := n5_; have NB446_436 := n6_; clear n0_ n1_ n2_ n3_ n4_ n5_ n6_; clear hb hbox hg; have hnb27 := NB446_436.out; have hnc27 := NB436_446.out; have hcz28_0 : w26.cell? ⟨gb446, 0, none⟩ = some (.string (⟨#[]⟩ : ByteArray)) := (blk_cell BK446.out 0).trans rfl; have hcz28_1 : w26.cell? ⟨gb446, 1, none⟩ = some (.string (⟨#[]⟩ : ByteArray)) := (blk_cell BK446.out 1).trans rfl; have hcz28_2 : w26.cell? ⟨gb446, 2, none⟩ = some (.int .i64 0) := (blk_cell BK446.out 2).trans rfl; have hcz28_3 : w26.cell? ⟨gb446, 3, none⟩ = some (.string (⟨#[]⟩ : ByteArray)) := (blk_cell BK446.out 3).trans rfl; have hcz28_4 : w26.cell? ⟨gb446, 4, none⟩ = some (.bool false) := (blk_cell BK446.out 4).trans rfl; have hfz28_0 := blk_frozen BK446.out 0; have hfz28_1 := blk_frozen BK446.out 1; have hfz28_2 := blk_frozen BK446.out 2; have hfz28_3 := blk_frozen BK446.out 3; have hfz28_4 := blk_frozen BK446.out 4; have hcz29_0 : w26.cell? ⟨gb436, 0, none⟩ = some (.string (⟨#[]⟩ : ByteArray)) := (blk_cell BK436.out 0).trans rfl; have hcz29_1 : w26.cell? ⟨gb436, 1, none⟩ = some (.string (⟨#[]⟩ : ByteArray)) := (blk_cell BK436.out 1).trans rfl; have hcz29_2 : w26.cell? ⟨gb436, 2, none⟩ = some (.int .i64 0) := (blk_cell BK436.out 2).trans rfl; have hcz29_3 : w26.cell? ⟨gb436, 3, none⟩ = some (.string (⟨#[]⟩ : ByteArray)) := (blk_cell BK436.out 3).trans rfl; have hcz29_4 : w26.cell? ⟨gb436, 4, none⟩ = some (.bool false) := (blk_cell BK436.out 4).trans rfl; have hfz29_0 := blk_frozen BK436.out 0; have hfz29_1 := blk_frozen BK436.out 1; have hfz29_2 := blk_frozen BK436.out 2; have hfz29_3 := blk_frozen BK436.out 3; have hfz29_4 := blk_frozen BK436.out 4))
         refine bodyPost_ret (results_ct rfl _ _ gb436 46 #[.string (⟨#[]⟩ : ByteArray), .string (⟨#[]⟩ : ByteArray), .int .i64 0, .string (⟨#[]⟩ : ByteArray), .bool false] (0, 0) _ rfl (by (with_reducible repeat (first | refine blk_drewN ?_ _ | refine blk_drew ?_ | refine blk_alloc ?_ _)); refine blk_put (cs := #[.string (⟨#[]⟩ : ByteArray), .string (⟨#[]⟩ : ByteArray), .int .i64 0, .string (⟨#[]⟩ : ByteArray), .bool false]) ?_ 4 _ rfl; (with_reducible repeat (first | refine blk_drewN ?_ _ | refine blk_drew ?_ | refine blk_alloc ?_ _)); refine blk_put (cs := #[.string (⟨#[]⟩ : ByteArray), .string (⟨#[]⟩ : ByteArray), .int .i64 0, .string (⟨#[]⟩ : ByteArray), .bool false]) ?_ 3 _ rfl; (with_reducible repeat (first | refine blk_drewN ?_ _ | refine blk_drew ?_ | refine blk_alloc ?_ _)); refine blk_put (cs := #[.string (⟨#[]⟩ : ByteArray), .string (⟨#[]⟩ : ByteArray), .int .i64 0, .string (⟨#[]⟩ : ByteArray), .bool false]) ?_ 2 _ rfl; (with_reducible repeat (first | refine blk_drewN ?_ _ | refine blk_drew ?_ | refine blk_alloc ?_ _)); refine blk_put (cs := #[.string (⟨#[]⟩ : ByteArray), .string (⟨#[]⟩ : ByteArray), .int .i64 0, .string (⟨#[]⟩ : ByteArray), .bool false]) ?_ 1 _ rfl; (with_reducible repeat (first | refine blk_drewN ?_ _ | refine blk_drew ?_ | refine blk_alloc ?_ _)); refine blk_put (cs := #[.string (⟨#[]⟩ : ByteArray), .string (⟨#[]⟩ : ByteArray), .int .i64 0, .string (⟨#[]⟩ : ByteArray), .bool false]) ?_ 0 _ rfl; (with_reducible repeat (first | refine blk_drewN ?_ _ | refine blk_drew ?_ | refine blk_alloc ?_ _)); refine blk_far ?_ NB436_446.out _; (with_reducible repeat (first | refine blk_drewN ?_ _ | refine blk_drew ?_ | refine blk_alloc ?_ _)); refine blk_far ?_ NB436_446.out _; (with_reducible repeat (first | refine blk_drewN ?_ _ | refine blk_drew ?_ | refine blk_alloc ?_ _)); refine blk_far ?_ NB436_446.out _; (with_reducible repeat (first | refine blk_drewN ?_ _ | refine blk_drew ?_ | refine blk_alloc ?_ _)); refine blk_far ?_ NB436_446.out _; (with_reducible repeat (first | refine blk_drewN ?_ _ | refine blk_drew ?_ | refine blk_alloc ?_ _)); refine blk_far ?_ NB436_446.out _; (with_reducible repeat (first | refine blk_drewN ?_ _ | refine blk_drew ?_ | refine blk_alloc ?_ _)); exact BK436.out) Try.underlying46 rfl (by kernel_rfl)) rfl ?_
         exact ⟨by first | rfl | (simp [errW_none, errW_some] <;> rfl) | (simp only [← hji22]; first | rfl | (simp [errW_none, errW_some] <;> rfl)) | (simp [*, errW_none, errW_some] <;> rfl), by repeat (first | (with_reducible first | exact HB.out | apply bal | apply bdN | apply bdo | refine below_set ?_ GE436.out | refine below_set ?_ GE446.out) | exact HB.out)⟩
        ·
         rw [if_neg c25] at H
         have c25b0 : (t444 == 0) = false := beq_eq_false_iff_ne.mpr c25
         have c25b1 : (t444 != 0) = true := bne_iff_ne.mpr c25
         replace H := obm H
         obtain ⟨t447, A300, H⟩ := H
         replace H : (if t447 = true then (some (t437, t439, t441, t443, ((rd l0 (ji22)) == 1), wrap64 ((wrap64 ((wrap64 (t438 + t440)) + 5)) + t444))) else (some ((⟨#[]⟩ : ByteArray), (⟨#[]⟩ : ByteArray), 0, (⟨#[]⟩ : ByteArray), false, 0))) = some (r1, r2, r3, r4, r5, r6) := H
         have A30 := aS A300
         clear A300
         by_cases c31 : t447 = true
         ·
          subst c31
          have H1 : (some (t437, t439, t441, t443, ((rd l0 (ji22)) == 1), wrap64 ((wrap64 ((wrap64 (t438 + t440)) + 5)) + t444))) = some (r1, r2, r3, r4, r5, r6) := by rw [if_pos rfl] at H; exact H
          clear H; have H := H1; clear H1
          simp only [Option.some.injEq, Prod.mk.injEq] at H
          obtain ⟨rfl, rfl, rfl, rfl, rfl, rfl⟩ := H
          go_wp2_with (first | ((with_reducible refine gate_callee (f := 49) rfl ?_); refine goesL_ (some 65) rfl rfl Try.func49 (by kernel_rfl) rfl #[.slice A0 l0.length c0, .int .i64 (wrap64 ((wrap64 ((wrap64 (a1 + t438)) + t440)) + 5))] rfl (by (try simp only [List.map_toArray, List.map_cons, List.map_nil]); first | done | rfl | (simp only [lld, llt]; rfl)) ?_; (with_reducible refine (shardlogref01_TextAt.calls _ _ l0 (wrap64 ((wrap64 ((wrap64 (a1 + t438)) + t440)) + 5)) t443 t444 _ ?side1 ?side2 A21.out).mono ?_); (case side1 => repeat (first | exact (Kd.C_below HR0.out HB.out) | (with_reducible refine Kd.C_alloc ?_ _) | (with_reducible refine Kd.C_drewN ?_ _) | (with_reducible refine Kd.C_drew ?_))); (case side2 => exact HC0.out); rintro e w' ⟨rfl, ⟨nd, rfl⟩⟩; refine ⟨_, rfl, ?_⟩; (try (rw [drewN_self wc]; generalize hq_ : World.drewN wc _ = wc; have n0_ : Aside0 (wc.heap[gb436]? = some (.cells #[.string (⟨#[]⟩ : ByteArray), .string (⟨#[]⟩ : ByteArray), .int .i64 0, .string (⟨#[]⟩ : ByteArray), .bool false] 46 (0, 0))) := ⟨by rw [← hq_]; exact (by (with_reducible repeat (first | refine blk_drewN ?_ _ | refine blk_drew ?_ | refine blk_alloc ?_ _)); exact BK436.out)⟩; have n1_ : Aside0 (Below w.heap.size w wc) := ⟨by rw [← hq_]; exact (by repeat (first | (with_reducible first | exact HB.out | apply bal | apply bdN | apply bdo | refine below_set ?_ GE436.out) | exact HB.out))⟩; clear BK436 HB hq_; have BK436 := n0_; have HB := n1_; clear n0_ n1_)); have p445 : 0 ≤ ((ji22) : Int) := odt (by first | (with_reducible assumption) | assumption); have q445 : (ji22) < (l0.length : Int) := odt (by first | (with_reducible assumption) | assumption); obtain ⟨ad445, e445, hx445_0⟩ := Kd.at_int HR0.out (ji22) p445 q445; cases e445; replace hx445_0 := (HB.out.cell (wbl w _ hx445_0)).trans hx445_0; replace p445 := eq_true p445; replace q445 := eq_true q445) | ((with_reducible refine gate_dst (N := 14) rfl ?_); (try (refine gate_guard (by rfl) ?_; dsimp only)); refine box_event ?hg (N := 14) ?hd (cs := #[.string (⟨#[]⟩ : ByteArray), .string (⟨#[]⟩ : ByteArray), .int .i64 0, .string (⟨#[]⟩ : ByteArray), .bool false]) (t := 46) ?hr ?_; (case hd => rfl); (case hg => rfl); (case hr => first | (go_simp; done) | (go_simp; rfl)); intro gb446 hg w32 hbox hb; have n0_ := aS (blk_below (g := gb436) (o := .cells #[.string (⟨#[]⟩ : ByteArray), .string (⟨#[]⟩ : ByteArray), .int .i64 0, .string (⟨#[]⟩ : ByteArray), .bool false] 46 (0, 0)) (by (with_reducible repeat (first | refine blk_drewN ?_ _ | refine blk_drew ?_ | refine blk_alloc ?_ _)); exact BK436.out) hb); have n1_ := aS (below_step (by repeat (first | (with_reducible first | exact HB.out | apply bal | apply bdN | apply bdo | refine below_set ?_ GE436.out) | exact HB.out)) hb); have n2_ := aS (hbox); have n3_ := aS ((by rw [hg]; exact (below_size (by repeat (first | (with_reducible first | exact HB.out | apply bal | apply bdN | apply bdo | refine below_set ?_ GE436.out) | exact HB.out))) : w.heap.size ≤ gb446)); have n4_ := aS ((by rw [hg]; exact (below_size (by repeat (first | (with_reducible first | exact HB.out | apply bal | apply bdN | apply bdo | refine below_set ?_ GE436.out) | exact HB.out))) : w.heap.size ≤ gb446)); have n5_ := aS ((by rw [hg]; exact Nat.ne_of_lt (blk_lt (g := gb436) (o := .cells #[.string (⟨#[]⟩ : ByteArray), .string (⟨#[]⟩ : ByteArray), .int .i64 0, .string (⟨#[]⟩ : ByteArray), .bool false] 46 (0, 0)) (by (with_reducible repeat (first | refine blk_drewN ?_ _ | refine blk_drew ?_ | refine blk_alloc ?_ _)); exact BK436.out)) : gb436 ≠ gb446)); have n6_ := aS ((by rw [hg]; exact Nat.ne_of_gt (blk_lt (g := gb436) (o := .cells #[.string (⟨#[]⟩ : ByteArray), .string (⟨#[]⟩ : ByteArray), .int .i64 0, .string (⟨#[]⟩ : ByteArray), .bool false] 46 (0, 0)) (by (with_reducible repeat (first | refine blk_drewN ?_ _ | refine blk_drew ?_ | refine blk_alloc ?_ _)); exact BK436.out)) : gb446 ≠ gb436)); clear BK436; clear HB; have BK436 := n0_; have HB := n1_; have BK446 := n2_; have GW446 := n3_; have GE446 := n4_; have NB436_446 := n5_; have NB446_436 := n6_; clear n0_ n1_ n2_ n3_ n4_ n5_ n6_; clear hb hbox hg; have hnb33 := NB446_436.out; have hnc33 := NB436_446.out; have hcz34_0 : w32.cell? ⟨gb446, 0, none⟩ = some (.string (⟨#[]⟩ : ByteArray)) := (blk_cell BK446.out 0).trans rfl; have hcz34_1 : w32.cell? ⟨gb446, 1, none⟩ = some (.string (⟨#[]⟩ : ByteArray)) := (blk_cell BK446.out 1).trans rfl; have hcz34_2 : w32.cell? ⟨gb446, 2, none⟩ = some (.int .i64 0) := (blk_cell BK446.out 2).trans rfl; have hcz34_3 : w32.cell? ⟨gb446, 3, none⟩ = some (.string (⟨#[]⟩ : ByteArray)) := (blk_cell BK446.out 3).trans rfl; have hcz34_4 : w32.cell? ⟨gb446, 4, none⟩ = some (.bool false) := (blk_cell BK446.out 4).trans rfl; have hfz34_0 := blk_frozen BK446.out 0; have hfz34_1 := blk_frozen BK446.out 1; have hfz34_2 := blk_frozen BK446.out 2; have hfz34_3 := blk_frozen BK446.out 3; have hfz34_4 := blk_frozen BK446.out 4) | (go_at_call 21; (with_reducible refine (shardlogref08_Right.calls t437 t439 t441 t443 ((rd l0 (ji22)) == 1) true _ A30.out).mono ?_); rintro e w35 ⟨rfl, hb⟩; have n0_ := aS (blk_below (g := gb436) (o := .cells #[.string (⟨#[]⟩ : ByteArray), .string (⟨#[]⟩ : ByteArray), .int .i64 0, .string (⟨#[]⟩ : ByteArray), .bool false] 46 (0, 0)) (by (with_reducible repeat (first | refine blk_drewN ?_ _ | refine blk_drew ?_ | refine blk_alloc ?_ _)); refine blk_far ?_ NB436_446.out _; (with_reducible repeat (first | refine blk_drewN ?_ _ | refine blk_drew ?_ | refine blk_alloc ?_ _)); refine blk_far ?_ NB436_446.out _; (with_reducible repeat (first | refine blk_drewN ?_ _ | refine blk_drew ?_ | refine blk_alloc ?_ _)); refine blk_far ?_ NB436_446.out _; (with_reducible repeat (first | refine blk_drewN ?_ _ | refine blk_drew ?_ | refine blk_alloc ?_ _)); refine blk_far ?_ NB436_446.out _; (with_reducible repeat (first | refine blk_drewN ?_ _ | refine blk_drew ?_ | refine blk_alloc ?_ _)); refine blk_far ?_ NB436_446.out _; (with_reducible repeat (first | refine blk_drewN ?_ _ | refine blk_drew ?_ | refine blk_alloc ?_ _)); exact BK436.out) hb); have n1_ := aS (blk_below (g := gb446) (o := .cells #[.string t437, .string t439, .int .i64 t441, .string t443, .bool ((rd l0 (ji22)) == 1)] 46 (0, 0)) (by (with_reducible repeat (first | refine blk_drewN ?_ _ | refine blk_drew ?_ | refine blk_alloc ?_ _)); refine blk_put (cs := #[.string t437, .string t439, .int .i64 t441, .string t443, .bool false]) ?_ 4 _ rfl; (with_reducible repeat (first | refine blk_drewN ?_ _ | refine blk_drew ?_ | refine blk_alloc ?_ _)); refine blk_put (cs := #[.string t437, .string t439, .int .i64 t441, .string (⟨#[]⟩ : ByteArray), .bool false]) ?_ 3 _ rfl; (with_reducible repeat (first | refine blk_drewN ?_ _ | refine blk_drew ?_ | refine blk_alloc ?_ _)); refine blk_put (cs := #[.string t437, .string t439, .int .i64 0, .string (⟨#[]⟩ : ByteArray), .bool false]) ?_ 2 _ rfl; (with_reducible repeat (first | refine blk_drewN ?_ _ | refine blk_drew ?_ | refine blk_alloc ?_ _)); refine blk_put (cs := #[.string t437, .string (⟨#[]⟩ : ByteArray), .int .i64 0, .string (⟨#[]⟩ : ByteArray), .bool false]) ?_ 1 _ rfl; (with_reducible repeat (first | refine blk_drewN ?_ _ | refine blk_drew ?_ | refine blk_alloc ?_ _)); refine blk_put (cs := #[.string (⟨#[]⟩ : ByteArray), .string (⟨#[]⟩ : ByteArray), .int .i64 0, .string (⟨#[]⟩ : ByteArray), .bool false]) ?_ 0 _ rfl; (with_reducible repeat (first | refine blk_drewN ?_ _ | refine blk_drew ?_ | refine blk_alloc ?_ _)); exact BK446.out) hb); have n2_ := aS (below_step (by repeat (first | (with_reducible first | exact HB.out | apply bal | apply bdN | apply bdo | refine below_set ?_ GE436.out | refine below_set ?_ GE446.out) | exact HB.out)) hb); clear BK436; clear BK446; clear HB; have BK436 := n0_; have BK446 := n1_; have HB := n2_; clear n0_ n1_ n2_; (try clear hb); (try clear hb2); (try clear hk); (try clear hi); have hcz36_0 : w35.cell? ⟨gb446, 0, none⟩ = some (.string t437) := (blk_cell BK446.out 0).trans rfl; have hcz36_1 : w35.cell? ⟨gb446, 1, none⟩ = some (.string t439) := (blk_cell BK446.out 1).trans rfl; have hcz36_2 : w35.cell? ⟨gb446, 2, none⟩ = some (.int .i64 t441) := (blk_cell BK446.out 2).trans rfl; have hcz36_3 : w35.cell? ⟨gb446, 3, none⟩ = some (.string t443) := (blk_cell BK446.out 3).trans rfl; have hcz36_4 : w35.cell? ⟨gb446, 4, none⟩ = some (.bool ((rd l0 (ji22)) == 1)) := (blk_cell BK446.out 4).trans rfl; have hfz36_0 := blk_frozen BK446.out 0; have hfz36_1 := blk_frozen BK446.out 1; have hfz36_2 := blk_frozen BK446.out 2; have hfz36_3 := blk_frozen BK446.out 3; have hfz36_4 := blk_frozen BK446.out 4; have hcz37_0 : w35.cell? ⟨gb436, 0, none⟩ = some (.string (⟨#[]⟩ : ByteArray)) := (blk_cell BK436.out 0).trans rfl; have hcz37_1 : w35.cell? ⟨gb436, 1, none⟩ = some (.string (⟨#[]⟩ : ByteArray)) := (blk_cell BK436.out 1).trans rfl; have hcz37_2 : w35.cell? ⟨gb436, 2, none⟩ = some (.int .i64 0) := (blk_cell BK436.out 2).trans rfl; have hcz37_3 : w35.cell? ⟨gb436, 3, none⟩ = some (.string (⟨#[]⟩ : ByteArray)) := (blk_cell BK436.out 3).trans rfl; have hcz37_4 : w35.cell? ⟨gb436, 4, none⟩ = some (.bool false) := (blk_cell BK436.out 4).trans rfl; have hfz37_0 := blk_frozen BK436.out 0; have hfz37_1 := blk_frozen BK436.out 1; have hfz37_2 := blk_frozen BK436.out 2; have hfz37_3 := blk_frozen BK436.out 3; have hfz37_4 := blk_frozen BK436.out 4))
          refine bodyPost_ret (results_ct rfl _ _ gb436 46 #[.string t437, .string t439, .int .i64 t441, .string t443, .bool ((rd l0 (ji22)) == 1)] (0, 0) _ rfl (by (with_reducible repeat (first | refine blk_drewN ?_ _ | refine blk_drew ?_ | refine blk_alloc ?_ _)); refine blk_put (cs := #[.string t437, .string t439, .int .i64 t441, .string t443, .bool false]) ?_ 4 _ rfl; (with_reducible repeat (first | refine blk_drewN ?_ _ | refine blk_drew ?_ | refine blk_alloc ?_ _)); refine blk_put (cs := #[.string t437, .string t439, .int .i64 t441, .string (⟨#[]⟩ : ByteArray), .bool false]) ?_ 3 _ rfl; (with_reducible repeat (first | refine blk_drewN ?_ _ | refine blk_drew ?_ | refine blk_alloc ?_ _)); refine blk_put (cs := #[.string t437, .string t439, .int .i64 0, .string (⟨#[]⟩ : ByteArray), .bool false]) ?_ 2 _ rfl; (with_reducible repeat (first | refine blk_drewN ?_ _ | refine blk_drew ?_ | refine blk_alloc ?_ _)); refine blk_put (cs := #[.string t437, .string (⟨#[]⟩ : ByteArray), .int .i64 0, .string (⟨#[]⟩ : ByteArray), .bool false]) ?_ 1 _ rfl; (with_reducible repeat (first | refine blk_drewN ?_ _ | refine blk_drew ?_ | refine blk_alloc ?_ _)); refine blk_put (cs := #[.string (⟨#[]⟩ : ByteArray), .string (⟨#[]⟩ : ByteArray), .int .i64 0, .string (⟨#[]⟩ : ByteArray), .bool false]) ?_ 0 _ rfl; (with_reducible repeat (first | refine blk_drewN ?_ _ | refine blk_drew ?_ | refine blk_alloc ?_ _)); exact BK436.out) Try.underlying46 rfl (by kernel_rfl)) rfl ?_
          exact ⟨by first | rfl | (simp [errW_none, errW_some] <;> rfl) | (simp only [← hji22]; first | rfl | (simp [errW_none, errW_some] <;> rfl)) | (simp [*, errW_none, errW_some] <;> rfl), by repeat (first | (with_reducible first | exact HB.out | apply bal | apply bdN | apply bdo | refine below_set ?_ GE436.out | refine below_set ?_ GE446.out) | exact HB.out)⟩
         ·
          replace c31 := Bool.eq_false_iff.mpr c31
          subst c31
          have H1 : (some ((⟨#[]⟩ : ByteArray), (⟨#[]⟩ : ByteArray), 0, (⟨#[]⟩ : ByteArray), false, 0)) = some (r1, r2, r3, r4, r5, r6) := by rw [if_neg (show ¬ (false = true) by decide)] at H; exact H
          clear H; have H := H1; clear H1
          simp only [Option.some.injEq, Prod.mk.injEq] at H
          obtain ⟨rfl, rfl, rfl, rfl, rfl, rfl⟩ := H
          go_wp2_with (first | ((with_reducible refine gate_callee (f := 49) rfl ?_); refine goesL_ (some 65) rfl rfl Try.func49 (by kernel_rfl) rfl #[.slice A0 l0.length c0, .int .i64 (wrap64 ((wrap64 ((wrap64 (a1 + t438)) + t440)) + 5))] rfl (by (try simp only [List.map_toArray, List.map_cons, List.map_nil]); first | done | rfl | (simp only [lld, llt]; rfl)) ?_; (with_reducible refine (shardlogref01_TextAt.calls _ _ l0 (wrap64 ((wrap64 ((wrap64 (a1 + t438)) + t440)) + 5)) t443 t444 _ ?side1 ?side2 A21.out).mono ?_); (case side1 => repeat (first | exact (Kd.C_below HR0.out HB.out) | (with_reducible refine Kd.C_alloc ?_ _) | (with_reducible refine Kd.C_drewN ?_ _) | (with_reducible refine Kd.C_drew ?_))); (case side2 => exact HC0.out); rintro e w' ⟨rfl, ⟨nd, rfl⟩⟩; refine ⟨_, rfl, ?_⟩; (try (rw [drewN_self wc]; generalize hq_ : World.drewN wc _ = wc; have n0_ : Aside0 (wc.heap[gb436]? = some (.cells #[.string (⟨#[]⟩ : ByteArray), .string (⟨#[]⟩ : ByteArray), .int .i64 0, .string (⟨#[]⟩ : ByteArray), .bool false] 46 (0, 0))) := ⟨by rw [← hq_]; exact (by (with_reducible repeat (first | refine blk_drewN ?_ _ | refine blk_drew ?_ | refine blk_alloc ?_ _)); exact BK436.out)⟩; have n1_ : Aside0 (Below w.heap.size w wc) := ⟨by rw [← hq_]; exact (by repeat (first | (with_reducible first | exact HB.out | apply bal | apply bdN | apply bdo | refine below_set ?_ GE436.out) | exact HB.out))⟩; clear BK436 HB hq_; have BK436 := n0_; have HB := n1_; clear n0_ n1_)); have p445 : 0 ≤ ((ji22) : Int) := odt (by first | (with_reducible assumption) | assumption); have q445 : (ji22) < (l0.length : Int) := odt (by first | (with_reducible assumption) | assumption); obtain ⟨ad445, e445, hx445_0⟩ := Kd.at_int HR0.out (ji22) p445 q445; cases e445; replace hx445_0 := (HB.out.cell (wbl w _ hx445_0)).trans hx445_0; replace p445 := eq_true p445; replace q445 := eq_true q445) | ((with_reducible refine gate_dst (N := 14) rfl ?_); (try (refine gate_guard (by rfl) ?_; dsimp only)); refine box_event ?hg (N := 14) ?hd (cs := #[.string (⟨#[]⟩ : ByteArray), .string (⟨#[]⟩ : ByteArray), .int .i64 0, .string (⟨#[]⟩ : ByteArray), .bool false]) (t := 46) ?hr ?_; (case hd => rfl); (case hg => rfl); (case hr => first | (go_simp; done) | (go_simp; rfl)); intro gb446 hg w38 hbox hb; have n0_ := aS (blk_below (g := gb436) (o := .cells #[.string (⟨#[]⟩ : ByteArray), .string (⟨#[]⟩ : ByteArray), .int .i64 0, .string (⟨#[]⟩ : ByteArray), .bool false] 46 (0, 0)) (by (with_reducible repeat (first | refine blk_drewN ?_ _ | refine blk_drew ?_ | refine blk_alloc ?_ _)); exact BK436.out) hb); have n1_ := aS (below_step (by repeat (first | (with_reducible first | exact HB.out | apply bal | apply bdN | apply bdo | refine below_set ?_ GE436.out) | exact HB.out)) hb); have n2_ := aS (hbox); have n3_ := aS ((by rw [hg]; exact (below_size (by repeat (first | (with_reducible first | exact HB.out | apply bal | apply bdN | apply bdo | refine below_set ?_ GE436.out) | exact HB.out))) : w.heap.size ≤ gb446)); have n4_ := aS ((by rw [hg]; exact (below_size (by repeat (first | (with_reducible first | exact HB.out | apply bal | apply bdN | apply bdo | refine below_set ?_ GE436.out) | exact HB.out))) : w.heap.size ≤ gb446)); have n5_ := aS ((by rw [hg]; exact Nat.ne_of_lt (blk_lt (g := gb436) (o := .cells #[.string (⟨#[]⟩ : ByteArray), .string (⟨#[]⟩ : ByteArray), .int .i64 0, .string (⟨#[]⟩ : ByteArray), .bool false] 46 (0, 0)) (by (with_reducible repeat (first | refine blk_drewN ?_ _ | refine blk_drew ?_ | refine blk_alloc ?_ _)); exact BK436.out)) : gb436 ≠ gb446)); have n6_ := aS ((by rw [hg]; exact Nat.ne_of_gt (blk_lt (g := gb436) (o := .cells #[.string (⟨#[]⟩ : ByteArray), .string (⟨#[]⟩ : ByteArray), .int .i64 0, .string (⟨#[]⟩ : ByteArray), .bool false] 46 (0, 0)) (by (with_reducible repeat (first | refine blk_drewN ?_ _ | refine blk_drew ?_ | refine blk_alloc ?_ _)); exact BK436.out)) : gb446 ≠ gb436)); clear BK436; clear HB; have BK436 := n0_; have HB := n1_; have BK446 := n2_; have GW446 := n3_; have GE446 := n4_; have NB436_446 := n5_; have NB446_436 := n6_; clear n0_ n1_ n2_ n3_ n4_ n5_ n6_; clear hb hbox hg; have hnb39 := NB446_436.out; have hnc39 := NB436_446.out; have hcz40_0 : w38.cell? ⟨gb446, 0, none⟩ = some (.string (⟨#[]⟩ : ByteArray)) := (blk_cell BK446.out 0).trans rfl; have hcz40_1 : w38.cell? ⟨gb446, 1, none⟩ = some (.string (⟨#[]⟩ : ByteArray)) := (blk_cell BK446.out 1).trans rfl; have hcz40_2 : w38.cell? ⟨gb446, 2, none⟩ = some (.int .i64 0) := (blk_cell BK446.out 2).trans rfl; have hcz40_3 : w38.cell? ⟨gb446, 3, none⟩ = some (.string (⟨#[]⟩ : ByteArray)) := (blk_cell BK446.out 3).trans rfl; have hcz40_4 : w38.cell? ⟨gb446, 4, none⟩ = some (.bool false) := (blk_cell BK446.out 4).trans rfl; have hfz40_0 := blk_frozen BK446.out 0; have hfz40_1 := blk_frozen BK446.out 1; have hfz40_2 := blk_frozen BK446.out 2; have hfz40_3 := blk_frozen BK446.out 3; have hfz40_4 := blk_frozen BK446.out 4) | (go_at_call 21; (with_reducible refine (shardlogref08_Right.calls t437 t439 t441 t443 ((rd l0 (ji22)) == 1) false _ A30.out).mono ?_); rintro e w41 ⟨rfl, hb⟩; have n0_ := aS (blk_below (g := gb436) (o := .cells #[.string (⟨#[]⟩ : ByteArray), .string (⟨#[]⟩ : ByteArray), .int .i64 0, .string (⟨#[]⟩ : ByteArray), .bool false] 46 (0, 0)) (by (with_reducible repeat (first | refine blk_drewN ?_ _ | refine blk_drew ?_ | refine blk_alloc ?_ _)); refine blk_far ?_ NB436_446.out _; (with_reducible repeat (first | refine blk_drewN ?_ _ | refine blk_drew ?_ | refine blk_alloc ?_ _)); refine blk_far ?_ NB436_446.out _; (with_reducible repeat (first | refine blk_drewN ?_ _ | refine blk_drew ?_ | refine blk_alloc ?_ _)); refine blk_far ?_ NB436_446.out _; (with_reducible repeat (first | refine blk_drewN ?_ _ | refine blk_drew ?_ | refine blk_alloc ?_ _)); refine blk_far ?_ NB436_446.out _; (with_reducible repeat (first | refine blk_drewN ?_ _ | refine blk_drew ?_ | refine blk_alloc ?_ _)); refine blk_far ?_ NB436_446.out _; (with_reducible repeat (first | refine blk_drewN ?_ _ | refine blk_drew ?_ | refine blk_alloc ?_ _)); exact BK436.out) hb); have n1_ := aS (blk_below (g := gb446) (o := .cells #[.string t437, .string t439, .int .i64 t441, .string t443, .bool ((rd l0 (ji22)) == 1)] 46 (0, 0)) (by (with_reducible repeat (first | refine blk_drewN ?_ _ | refine blk_drew ?_ | refine blk_alloc ?_ _)); refine blk_put (cs := #[.string t437, .string t439, .int .i64 t441, .string t443, .bool false]) ?_ 4 _ rfl; (with_reducible repeat (first | refine blk_drewN ?_ _ | refine blk_drew ?_ | refine blk_alloc ?_ _)); refine blk_put (cs := #[.string t437, .string t439, .int .i64 t441, .string (⟨#[]⟩ : ByteArray), .bool false]) ?_ 3 _ rfl; (with_reducible repeat (first | refine blk_drewN ?_ _ | refine blk_drew ?_ | refine blk_alloc ?_ _)); refine blk_put (cs := #[.string t437, .string t439, .int .i64 0, .string (⟨#[]⟩ : ByteArray), .bool false]) ?_ 2 _ rfl; (with_reducible repeat (first | refine blk_drewN ?_ _ | refine blk_drew ?_ | refine blk_alloc ?_ _)); refine blk_put (cs := #[.string t437, .string (⟨#[]⟩ : ByteArray), .int .i64 0, .string (⟨#[]⟩ : ByteArray), .bool false]) ?_ 1 _ rfl; (with_reducible repeat (first | refine blk_drewN ?_ _ | refine blk_drew ?_ | refine blk_alloc ?_ _)); refine blk_put (cs := #[.string (⟨#[]⟩ : ByteArray), .string (⟨#[]⟩ : ByteArray), .int .i64 0, .string (⟨#[]⟩ : ByteArray), .bool false]) ?_ 0 _ rfl; (with_reducible repeat (first | refine blk_drewN ?_ _ | refine blk_drew ?_ | refine blk_alloc ?_ _)); exact BK446.out) hb); have n2_ := aS (below_step (by repeat (first | (with_reducible first | exact HB.out | apply bal | apply bdN | apply bdo | refine below_set ?_ GE436.out | refine below_set ?_ GE446.out) | exact HB.out)) hb); clear BK436; clear BK446; clear HB; have BK436 := n0_; have BK446 := n1_; have HB := n2_; clear n0_ n1_ n2_; (try clear hb); (try clear hb2); (try clear hk); (try clear hi); have hcz42_0 : w41.cell? ⟨gb436, 0, none⟩ = some (.string (⟨#[]⟩ : ByteArray)) := (blk_cell BK436.out 0).trans rfl; have hcz42_1 : w41.cell? ⟨gb436, 1, none⟩ = some (.string (⟨#[]⟩ : ByteArray)) := (blk_cell BK436.out 1).trans rfl; have hcz42_2 : w41.cell? ⟨gb436, 2, none⟩ = some (.int .i64 0) := (blk_cell BK436.out 2).trans rfl; have hcz42_3 : w41.cell? ⟨gb436, 3, none⟩ = some (.string (⟨#[]⟩ : ByteArray)) := (blk_cell BK436.out 3).trans rfl; have hcz42_4 : w41.cell? ⟨gb436, 4, none⟩ = some (.bool false) := (blk_cell BK436.out 4).trans rfl; have hfz42_0 := blk_frozen BK436.out 0; have hfz42_1 := blk_frozen BK436.out 1; have hfz42_2 := blk_frozen BK436.out 2; have hfz42_3 := blk_frozen BK436.out 3; have hfz42_4 := blk_frozen BK436.out 4))
          refine bodyPost_ret (results_ct rfl _ _ gb436 46 #[.string (⟨#[]⟩ : ByteArray), .string (⟨#[]⟩ : ByteArray), .int .i64 0, .string (⟨#[]⟩ : ByteArray), .bool false] (0, 0) _ rfl (by (with_reducible repeat (first | refine blk_drewN ?_ _ | refine blk_drew ?_ | refine blk_alloc ?_ _)); refine blk_put (cs := #[.string (⟨#[]⟩ : ByteArray), .string (⟨#[]⟩ : ByteArray), .int .i64 0, .string (⟨#[]⟩ : ByteArray), .bool false]) ?_ 4 _ rfl; (with_reducible repeat (first | refine blk_drewN ?_ _ | refine blk_drew ?_ | refine blk_alloc ?_ _)); refine blk_put (cs := #[.string (⟨#[]⟩ : ByteArray), .string (⟨#[]⟩ : ByteArray), .int .i64 0, .string (⟨#[]⟩ : ByteArray), .bool false]) ?_ 3 _ rfl; (with_reducible repeat (first | refine blk_drewN ?_ _ | refine blk_drew ?_ | refine blk_alloc ?_ _)); refine blk_put (cs := #[.string (⟨#[]⟩ : ByteArray), .string (⟨#[]⟩ : ByteArray), .int .i64 0, .string (⟨#[]⟩ : ByteArray), .bool false]) ?_ 2 _ rfl; (with_reducible repeat (first | refine blk_drewN ?_ _ | refine blk_drew ?_ | refine blk_alloc ?_ _)); refine blk_put (cs := #[.string (⟨#[]⟩ : ByteArray), .string (⟨#[]⟩ : ByteArray), .int .i64 0, .string (⟨#[]⟩ : ByteArray), .bool false]) ?_ 1 _ rfl; (with_reducible repeat (first | refine blk_drewN ?_ _ | refine blk_drew ?_ | refine blk_alloc ?_ _)); refine blk_put (cs := #[.string (⟨#[]⟩ : ByteArray), .string (⟨#[]⟩ : ByteArray), .int .i64 0, .string (⟨#[]⟩ : ByteArray), .bool false]) ?_ 0 _ rfl; (with_reducible repeat (first | refine blk_drewN ?_ _ | refine blk_drew ?_ | refine blk_alloc ?_ _)); exact BK436.out) Try.underlying46 rfl (by kernel_rfl)) rfl ?_
          exact ⟨by first | rfl | (simp [errW_none, errW_some] <;> rfl) | (simp only [← hji22]; first | rfl | (simp [errW_none, errW_some] <;> rfl)) | (simp [*, errW_none, errW_some] <;> rfl), by repeat (first | (with_reducible first | exact HB.out | apply bal | apply bdN | apply bdo | refine below_set ?_ GE436.out | refine below_set ?_ GE446.out) | exact HB.out)⟩
       ·
        rw [if_neg c24] at H
        exact absurd H (by simp)
      ·
       rw [if_neg c23] at H
       exact absurd H (by simp)

/-! ### shardlogref10_Get: function 19 -/
def shardlogref10_Get.l0 : Nat → List Int → Int → Int → List (S46) → Int → Option ((List (S46)) × Int)
 | 0, _, _, _, _, _ => none
 | k + 1, x6, x7, x8, x9, x10 => if x10 < x7 then ((shardlogref08_Cut.f k x6 x8).bind fun bt454 => (if bt454.2.2.2.2.2 = 0 then (some (([] : List (S46)), 0)) else (if x9.length < 2199023255552 then (shardlogref10_Get.l0 k x6 x7 (wrap64 (x8 + bt454.2.2.2.2.2)) (x9 ++ [(⟨bt454.1, bt454.2.1, bt454.2.2.1, bt454.2.2.2.1, bt454.2.2.2.2.1⟩ : S46)]) (wrap64 (x10 + 1))) else (none)))) else (if x7 < 1 then (some (([] : List (S46)), 0)) else (if x8 = (x6.length : Int) then ((shardlogref08_Sorted.f k x9).bind fun t464 => (if t464 = true then (some (x9, wrap64 (12 + (x6.length : Int)))) else (some (([] : List (S46)), 0)))) else (some (([] : List (S46)), 0))))
def shardlogref10_Get.f (k : Nat) (l0 : List Int) : Option ((List (S46)) × Int) := (shardlogref06_Scan.f k l0).bind fun bt448 => (if (bt448.1.length : Int) = 0 then (some (([] : List (S46)), 0)) else (if 0 < (bt448.1.length : Int) then ((shardlogref01_At.f (rd_L5 bt448.1 0) 0).bind fun t453 => (shardlogref10_Get.l0 k (rd_L5 bt448.1 0) t453 4 ([] : List (S46)) 0)) else (none)))
theorem shardlogref10_Get.mono_l : ∀ k, (∀ y0 y1 y2 y3 y4, LeO (shardlogref10_Get.l0 k y0 y1 y2 y3 y4) (shardlogref10_Get.l0 (k + 1) y0 y1 y2 y3 y4))
 | 0 => fun _ _ _ _ _ r h => by simp [shardlogref10_Get.l0] at h
 | k + 1 => by
  have ih0 := shardlogref10_Get.mono_l k
  ·
   intro y0 y1 y2 y3 y4
   unfold shardlogref10_Get.l0
   repeat' first
   | (with_reducible exact ih0 _ _ _ _ _)
   | (with_reducible exact shardlogref06_Scan.mono _ _)
   | (with_reducible exact shardlogref08_Cut.mono _ _ _)
   | (with_reducible exact shardlogref08_Sorted.mono _ _)
   | (with_reducible exact LeO.refl _)
   | (with_reducible exact LeO.none _)
   | (with_reducible refine LeO.ite ?_ ?_)
   | (with_reducible refine LeO.bind ?_ (fun _ => ?_))
   | exact ih0 _ _ _ _ _
   | exact shardlogref06_Scan.mono _ _
   | exact shardlogref08_Cut.mono _ _ _
   | exact shardlogref08_Sorted.mono _ _
   | exact LeO.none _
   | refine LeO.ite ?_ ?_
   | refine LeO.bind ?_ (fun _ => ?_)
theorem shardlogref10_Get.mono : ∀ a0 k, LeO (shardlogref10_Get.f k a0) (shardlogref10_Get.f (k + 1) a0) := by
 intro a0 k
 have ih0 := shardlogref10_Get.mono_l k
 unfold shardlogref10_Get.f
 repeat' first
   | (with_reducible exact ih0 _ _ _ _ _)
   | (with_reducible exact shardlogref06_Scan.mono _ _)
   | (with_reducible exact shardlogref08_Cut.mono _ _ _)
   | (with_reducible exact shardlogref08_Sorted.mono _ _)
   | (with_reducible exact LeO.refl _)
   | (with_reducible exact LeO.none _)
   | (with_reducible refine LeO.ite ?_ ?_)
   | (with_reducible refine LeO.bind ?_ (fun _ => ?_))
   | exact ih0 _ _ _ _ _
   | exact shardlogref06_Scan.mono _ _
   | exact shardlogref08_Cut.mono _ _ _
   | exact shardlogref08_Sorted.mono _ _
   | exact LeO.none _
   | refine LeO.ite ?_ ?_
   | refine LeO.bind ?_ (fun _ => ?_)
set_option maxHeartbeats 8000000 in
set_option maxRecDepth 100000 in
theorem shardlogref10_Get.calls (k : Nat) (A0 : Option Addr) (c0 : Nat) (l0 : List Int) (r1 : List (S46)) (r2 : Int) (w : World) (hr0 : Kd.C (Kd.int .u8) w A0 l0.length l0) (hc0 : l0.length ≤ c0) (h : shardlogref10_Get.f k l0 = some (r1, r2)) :
  Calls Try.prog 19 #[.slice A0 l0.length c0] w fun e w' => ∃ v0_ : Value, e = .returned (.tuple #[v0_, .int .i64 r2]) ∧ Kd.R k46 46 w' w.heap.size (fun _ => True) v0_ r1 ∧ Below w.heap.size w w' := by
 have hu46 := Try.underlying46
 have HR0 := aS hr0
 have HC0 := aS hc0
 clear hr0 hc0
 have HB := aS (Below.refl w.heap.size w)
 have H : ((shardlogref06_Scan.f k l0).bind fun bt448 => (if (bt448.1.length : Int) = 0 then (some (([] : List (S46)), 0)) else (if 0 < (bt448.1.length : Int) then ((shardlogref01_At.f (rd_L5 bt448.1 0) 0).bind fun t453 => (shardlogref10_Get.l0 k (rd_L5 bt448.1 0) t453 4 ([] : List (S46)) 0)) else (none)))) = some (r1, r2) := h
 clear h
 replace H := obm H
 obtain ⟨⟨t448, t449⟩, A20, H⟩ := H
 replace H : (if (t448.length : Int) = 0 then (some (([] : List (S46)), 0)) else (if 0 < (t448.length : Int) then ((shardlogref01_At.f (rd_L5 t448 0) 0).bind fun t453 => (shardlogref10_Get.l0 k (rd_L5 t448 0) t453 4 ([] : List (S46)) 0)) else (none))) = some (r1, r2) := H
 have A2 := aS A20
 clear A20
 by_cases c3 : (t448.length : Int) = 0
 ·
  rw [if_pos c3] at H
  have c3b0 : ((t448.length : Int) == 0) = true := beq_iff_eq.mpr c3
  have c3b1 : ((t448.length : Int) != 0) = false := bne_eq_false_iff_eq.mpr c3
  clear c3
  simp only [Option.some.injEq, Prod.mk.injEq] at H
  obtain ⟨rfl, rfl⟩ := H
  go_enter Try.func19, Try.ntmps19
  go_wp2_with (first | ((with_reducible refine gate_callee (f := 34) rfl ?_); refine goesL_ (some 15) rfl rfl Try.func34 (by kernel_rfl) rfl #[.slice A0 l0.length c0] rfl (by (try simp only [List.map_toArray, List.map_cons, List.map_nil]); first | done | rfl | (simp only [lld, llt]; rfl)) ?_; (with_reducible refine (shardlogref06_Scan.calls k _ _ l0 t448 t449 _ ?side1 ?side2 A2.out).mono ?_); (case side1 => repeat (first | exact HR0.out | (with_reducible refine Kd.C_alloc ?_ _) | (with_reducible refine Kd.C_drewN ?_ _) | (with_reducible refine Kd.C_drew ?_))); (case side2 => exact HC0.out); rintro e w4 ⟨v450, rfl, ho0, hb⟩; refine ⟨_, rfl, ?_⟩; have n0_ := aS (Kd.S_lower ho0 (below_size (by repeat (first | (with_reducible first | exact HB.out | apply bal | apply bdN | apply bdo) | exact HB.out)))); have n1_ := aS (below_step (by repeat (first | (with_reducible first | exact HB.out | apply bal | apply bdN | apply bdo) | exact HB.out)) hb); clear HB; have HO451 := n0_; have HB := n1_; clear n0_ n1_; (try clear hb); (try clear hb2); (try clear hk); (try clear hi); (try clear ho0); obtain ⟨Ao5, co5, eo5⟩ := Kd.S_slice HO451.out; subst eo5))
  go_ret2
  exact ⟨_, by first | rfl | (simp [errW_none, errW_some] <;> rfl) | (simp [*, errW_none, errW_some] <;> rfl), by first | exact Kd.R_nil _ _ _ _ _ | exact Kd.N_nil _ _ _ _ _ | exact Kd.V_nil _ _ _ _ _ | exact Kd.Q_nil _ _ _ _ _ | exact Kd.S_nil _ _ _ _ _, by repeat (first | (with_reducible first | exact HB.out | apply bal | apply bdN | apply bdo) | exact HB.out)⟩
 ·
  rw [if_neg c3] at H
  have c3b0 : ((t448.length : Int) == 0) = false := beq_eq_false_iff_ne.mpr c3
  have c3b1 : ((t448.length : Int) != 0) = true := bne_iff_ne.mpr c3
  have c3b2 : ¬ (t448 = []) := fun h_ => c3 (by rw [h_]; rfl)
  by_cases c6 : 0 < (t448.length : Int)
  ·
   rw [if_pos c6] at H
   have c6b0 : decide (0 < (t448.length : Int)) = true := decide_eq_true c6
   have c6b1 : decide (0 < t448.length) = true := decide_eq_true (by omega)
   clear c6
   replace H := obm H
   obtain ⟨t453, A70, H⟩ := H
   replace H : (shardlogref10_Get.l0 k (rd_L5 t448 0) t453 4 ([] : List (S46)) 0) = some (r1, r2) := H
   have A7 := aS A70
   clear A70
   have H' := aS H
   clear H
   go_enter Try.func19, Try.ntmps19
   go_wp2_with (first | ((with_reducible refine gate_callee (f := 34) rfl ?_); refine goesL_ (some 15) rfl rfl Try.func34 (by kernel_rfl) rfl #[.slice A0 l0.length c0] rfl (by (try simp only [List.map_toArray, List.map_cons, List.map_nil]); first | done | rfl | (simp only [lld, llt]; rfl)) ?_; (with_reducible refine (shardlogref06_Scan.calls k _ _ l0 t448 t449 _ ?side1 ?side2 A2.out).mono ?_); (case side1 => repeat (first | exact HR0.out | (with_reducible refine Kd.C_alloc ?_ _) | (with_reducible refine Kd.C_drewN ?_ _) | (with_reducible refine Kd.C_drew ?_))); (case side2 => exact HC0.out); rintro e w8 ⟨v450, rfl, ho0, hb⟩; refine ⟨_, rfl, ?_⟩; have n0_ := aS (Kd.S_lower ho0 (below_size (by repeat (first | (with_reducible first | exact HB.out | apply bal | apply bdN | apply bdo) | exact HB.out)))); have n1_ := aS (below_step (by repeat (first | (with_reducible first | exact HB.out | apply bal | apply bdN | apply bdo) | exact HB.out)) hb); clear HB; have HO451 := n0_; have HB := n1_; clear n0_ n1_; (try clear hb); (try clear hb2); (try clear hk); (try clear hi); (try clear ho0); obtain ⟨Ao9, co9, eo9⟩ := Kd.S_slice HO451.out; subst eo9; have p452 : 0 ≤ (0 : Int) := (by omega); have q452 : 0 < (t448.length : Int) := odt (by first | (with_reducible assumption) | assumption); obtain ⟨ad452, A452_0, c452_0, e452, hx452_0, hl452_0, hi452_0⟩ := at_L5 (Kd.S_reads' HO451.out).2.2 0 p452 q452; cases e452; obtain ⟨ce452, hce452, hMe452, hcc452⟩ := Kd.S_get HO451.out [] 0 p452 (by first | exact q452 | exact odt (by first | (with_reducible assumption) | assumption) | (have e_ := (Kd.S_reads' HO451.out).1; omega)); obtain ⟨ve452_0, rfl, ge452_0⟩ := hMe452; have hv452_0 := hcc452 0 _ rfl; rw [Nat.add_zero, show ((Kd.slice 5 (Kd.int .u8))).sz = 1 from rfl, Nat.mul_one] at hv452_0; replace hv452_0 := Option.some.inj (hv452_0.symm.trans hx452_0); rw [hv452_0] at ge452_0; have HL452_0 := aS (show Kd.R (Kd.int .u8) 5 _ _ _ _ (rd_L5 t448 0) from ge452_0); clear hv452_0 ge452_0; clear hcc452 hce452; have qi452 : (0 < t448.length) = True := eq_true (by omega); (try rw [show ((0 : Int)).toNat = 0 from rfl] at hx452_0); (try rw [Addr.add_zero'] at hx452_0); have HR452_0 := aS hi452_0; have HC452_0 := aS hl452_0; clear hi452_0 hl452_0; replace p452 := eq_true p452; replace q452 := eq_true q452) | ((with_reducible refine gate_callee (f := 35) rfl ?_); refine goesL_ (some 25) rfl rfl Try.func35 (by kernel_rfl) rfl #[.slice A452_0 (rd_L5 t448 0).length c452_0, .int .i64 0] rfl (by (try simp only [List.map_toArray, List.map_cons, List.map_nil]); first | done | rfl | (simp only [lld, llt]; rfl)) ?_; (with_reducible refine (shardlogref01_At.calls _ _ (rd_L5 t448 0) 0 t453 _ ?side1 ?side2 A7.out).mono ?_); (case side1 => repeat (first | exact (by repeat (first | (with_reducible exact HR452_0.out) | (with_reducible refine Kd.C_alloc ?_ _) | (with_reducible refine Kd.C_drewN ?_ _) | (with_reducible refine Kd.C_drew ?_) | exact HR452_0.out)) | (with_reducible refine Kd.C_alloc ?_ _) | (with_reducible refine Kd.C_drewN ?_ _) | (with_reducible refine Kd.C_drew ?_))); (case side2 => exact HC452_0.out); rintro e w' ⟨rfl, ⟨nd, rfl⟩⟩; refine ⟨_, rfl, ?_⟩))
   have HBo := HB; clear HB
   have HB := aS (Below.refl w8.heap.size w8)
   go_loopg [8, 9, 10] k (fun kq v8 v9 v10 w' => ∃ (x8_1 : Int) (x9_1 : List (S46)) (x10_1 : Int), v8 = .int .i64 x8_1 ∧ v10 = .int .i64 x10_1 ∧ Aside0 (shardlogref10_Get.l0 kq (rd_L5 t448 0) t453 x8_1 x9_1 x10_1 = some (r1, r2)) ∧ Aside0 (kq ≤ k) ∧ Aside0 (Kd.R k46 46 w' w8.heap.size (fun _ => True) v9 x9_1) ∧ Aside0 (Below w8.heap.size w8 w'))
   case atStart => exact ⟨(4), (([] : List (S46))), (0), (by first | rfl | (simp; done) | (simp [*]; done) | (simp; exact (by decide : ∀ a_ b_ : Bool, (a_ == b_) = (!a_ != b_)) _ _)), (by first | rfl | (simp; done) | (simp [*]; done) | (simp; exact (by decide : ∀ a_ b_ : Bool, (a_ == b_) = (!a_ != b_)) _ _)), H', ⟨Nat.le_refl _⟩, ⟨by first | exact Kd.R_nil _ _ _ _ _ | exact Kd.N_nil _ _ _ _ _ | exact Kd.V_nil _ _ _ _ _ | exact Kd.Q_nil _ _ _ _ _ | exact Kd.S_nil _ _ _ _ _⟩, ⟨by repeat (first | (with_reducible first | exact HB.out | apply bal | apply bdN | apply bdo) | exact HB.out)⟩⟩
   case round =>
    clear H'; (try clear c1); (try clear p2); (try clear c3); (try clear c3b0); (try clear c3b1); (try clear c3b2); (try clear c4); (try clear p4); (try clear q4); (try clear hx4); (try clear qi4); (try clear c6); (try clear c6b0); (try clear c6b1); (try clear hx452_0); (try clear p452); (try clear q452)
    obtain ⟨x8_1, x9_1, x10_1, rfl, rfl, HA, HK1, HO_9, HB⟩ := hrel
    cases gk with
    | zero => exact absurd HA.out (by simp [shardlogref10_Get.l0])
    | succ k1 =>
     have H := HA.out; clear HA
     simp only [shardlogref10_Get.l0] at H
     by_cases c10 : x10_1 < t453
     ·
      rw [if_pos c10] at H
      have c10b0 : decide (x10_1 < t453) = true := decide_eq_true c10
      clear c10
      replace H := obm H
      obtain ⟨⟨t454, t455, t456, t457, t458, t459⟩, A110, H⟩ := H
      replace H : (if t459 = 0 then (some (([] : List (S46)), 0)) else (if x9_1.length < 2199023255552 then (shardlogref10_Get.l0 k1 (rd_L5 t448 0) t453 (wrap64 (x8_1 + t459)) (x9_1 ++ [(⟨t454, t455, t456, t457, t458⟩ : S46)]) (wrap64 (x10_1 + 1))) else (none))) = some (r1, r2) := H
      have A11 := aS A110
      clear A110
      by_cases c12 : t459 = 0
      ·
       rw [if_pos c12] at H
       have c12b0 : (t459 == 0) = true := beq_iff_eq.mpr c12
       have c12b1 : (t459 != 0) = false := bne_eq_false_iff_eq.mpr c12
       clear c12
       simp only [Option.some.injEq, Prod.mk.injEq] at H
       obtain ⟨rfl, rfl⟩ := H
       go_wp2_with (first | ((with_reducible refine gate_callee (f := 36) rfl ?_); refine goesL_ (some 34) rfl rfl Try.func36 (by kernel_rfl) rfl #[.slice A452_0 (rd_L5 t448 0).length c452_0, .int .i64 x8_1] rfl (by (try simp only [List.map_toArray, List.map_cons, List.map_nil]); first | done | rfl | (simp only [lld, llt]; rfl)) ?_; (with_reducible refine (shardlogref08_Cut.calls k1 _ _ (rd_L5 t448 0) x8_1 t454 t455 t456 t457 t458 t459 _ ?side1 ?side2 A11.out).mono ?_); (case side1 => repeat (first | exact (Kd.C_below HR452_0.out HB.out) | (with_reducible refine Kd.C_alloc ?_ _) | (with_reducible refine Kd.C_drewN ?_ _) | (with_reducible refine Kd.C_drew ?_))); (case side2 => exact HC452_0.out); rintro e w13 ⟨rfl, hb⟩; refine ⟨_, rfl, ?_⟩; have n0_ := aS (Kd.R_below (by (with_reducible repeat (first | apply Kd.R_alloc | apply Kd.R_drewN | apply Kd.R_drew)); exact HO_9.out) hb); have n1_ := aS (below_step (by repeat (first | (with_reducible first | exact HB.out | apply bal | apply bdN | apply bdo) | exact HB.out)) hb); clear HO_9; clear HB; have HO_9 := n0_; have HB := n1_; clear n0_ n1_; (try clear hb); (try clear hb2); (try clear hk); (try clear hi)) | ((with_reducible refine gate_dst (N := 11) rfl ?_); (try (refine gate_guard (by rfl) ?_; dsimp only)); refine box_event ?hg (N := 11) ?hd (cs := #[.string (⟨#[]⟩ : ByteArray), .string (⟨#[]⟩ : ByteArray), .int .i64 0, .string (⟨#[]⟩ : ByteArray), .bool false]) (t := 46) ?hr ?_; (case hd => rfl); (case hg => rfl); (case hr => first | (go_simp; done) | (go_simp; rfl)); intro gb460 hg w14 hbox hb; have n0_ := aS (Kd.R_below (Kd.R_elderB (by (with_reducible repeat (first | apply Kd.R_alloc | apply Kd.R_drewN | apply Kd.R_drew)); exact HO_9.out) gb460 (Nat.le_of_eq hg.symm)) hb); have n1_ := aS (below_step (by repeat (first | (with_reducible first | exact HB.out | apply bal | apply bdN | apply bdo) | exact HB.out)) hb); have n2_ := aS (hbox); have n3_ := aS ((by rw [hg]; exact (below_size (by repeat (first | (with_reducible first | exact HB.out | apply bal | apply bdN | apply bdo) | exact HB.out))) : w8.heap.size ≤ gb460)); have n4_ := aS ((by rw [hg]; exact (below_size (by repeat (first | (with_reducible first | exact HB.out | apply bal | apply bdN | apply bdo) | exact HB.out))) : w8.heap.size ≤ gb460)); clear HO_9; clear HB; have HO_9 := n0_; have HB := n1_; have BK460 := n2_; have GW460 := n3_; have GE460 := n4_; clear n0_ n1_ n2_ n3_ n4_; clear hb hbox hg; have hcz15_0 : w14.cell? ⟨gb460, 0, none⟩ = some (.string (⟨#[]⟩ : ByteArray)) := (blk_cell BK460.out 0).trans rfl; have hcz15_1 : w14.cell? ⟨gb460, 1, none⟩ = some (.string (⟨#[]⟩ : ByteArray)) := (blk_cell BK460.out 1).trans rfl; have hcz15_2 : w14.cell? ⟨gb460, 2, none⟩ = some (.int .i64 0) := (blk_cell BK460.out 2).trans rfl; have hcz15_3 : w14.cell? ⟨gb460, 3, none⟩ = some (.string (⟨#[]⟩ : ByteArray)) := (blk_cell BK460.out 3).trans rfl; have hcz15_4 : w14.cell? ⟨gb460, 4, none⟩ = some (.bool false) := (blk_cell BK460.out 4).trans rfl; have hfz15_0 := blk_frozen BK460.out 0; have hfz15_1 := blk_frozen BK460.out 1; have hfz15_2 := blk_frozen BK460.out 2; have hfz15_3 := blk_frozen BK460.out 3; have hfz15_4 := blk_frozen BK460.out 4))
       go_ret2
       exact ⟨_, by first | rfl | (simp [errW_none, errW_some] <;> rfl) | (simp [*, errW_none, errW_some] <;> rfl), by first | exact Kd.R_nil _ _ _ _ _ | exact Kd.N_nil _ _ _ _ _ | exact Kd.V_nil _ _ _ _ _ | exact Kd.Q_nil _ _ _ _ _ | exact Kd.S_nil _ _ _ _ _, below_step HBo.out (by repeat (first | (with_reducible first | exact HB.out | apply bal | apply bdN | apply bdo | refine below_set ?_ GE460.out) | exact HB.out))⟩
      ·
       rw [if_neg c12] at H
       have c12b0 : (t459 == 0) = false := beq_eq_false_iff_ne.mpr c12
       have c12b1 : (t459 != 0) = true := bne_iff_ne.mpr c12
       by_cases c16 : x9_1.length < 2199023255552
       ·
        rw [if_pos c16] at H
        have LMc16 := aS c16
        clear c16
        obtain ⟨y461, hy461⟩ : ∃ y_ : List (S46), y_ = (x9_1 ++ [(⟨t454, t455, t456, t457, t458⟩ : S46)]) := ⟨_, rfl⟩
        replace H : (shardlogref10_Get.l0 k1 (rd_L5 t448 0) t453 (wrap64 (x8_1 + t459)) y461 (wrap64 (x10_1 + 1))) = some (r1, r2) := by first | (rw [hy461]; with_reducible exact H) | (have H2_ := (Option.bind_some _ _).symm.trans H; rw [hy461]; with_reducible exact H2_) | (have H2_ := (Option.bind_some _ _).symm.trans H; with_reducible exact H2_) | with_reducible exact H | (rw [hy461]; exact H) | exact H
        have Ny461 := aS hy461
        clear hy461
        have H' := aS H
        clear H
        go_wp2_with (first | ((with_reducible refine gate_callee (f := 36) rfl ?_); refine goesL_ (some 34) rfl rfl Try.func36 (by kernel_rfl) rfl #[.slice A452_0 (rd_L5 t448 0).length c452_0, .int .i64 x8_1] rfl (by (try simp only [List.map_toArray, List.map_cons, List.map_nil]); first | done | rfl | (simp only [lld, llt]; rfl)) ?_; (with_reducible refine (shardlogref08_Cut.calls k1 _ _ (rd_L5 t448 0) x8_1 t454 t455 t456 t457 t458 t459 _ ?side1 ?side2 A11.out).mono ?_); (case side1 => repeat (first | exact (Kd.C_below HR452_0.out HB.out) | (with_reducible refine Kd.C_alloc ?_ _) | (with_reducible refine Kd.C_drewN ?_ _) | (with_reducible refine Kd.C_drew ?_))); (case side2 => exact HC452_0.out); rintro e w17 ⟨rfl, hb⟩; refine ⟨_, rfl, ?_⟩; have n0_ := aS (Kd.R_below (by (with_reducible repeat (first | apply Kd.R_alloc | apply Kd.R_drewN | apply Kd.R_drew)); exact HO_9.out) hb); have n1_ := aS (below_step (by repeat (first | (with_reducible first | exact HB.out | apply bal | apply bdN | apply bdo) | exact HB.out)) hb); clear HO_9; clear HB; have HO_9 := n0_; have HB := n1_; clear n0_ n1_; (try clear hb); (try clear hb2); (try clear hk); (try clear hi)) | ((with_reducible refine gate_dst (N := 11) rfl ?_); (try (refine gate_guard (by rfl) ?_; dsimp only)); refine box_event ?hg (N := 11) ?hd (cs := #[.string (⟨#[]⟩ : ByteArray), .string (⟨#[]⟩ : ByteArray), .int .i64 0, .string (⟨#[]⟩ : ByteArray), .bool false]) (t := 46) ?hr ?_; (case hd => rfl); (case hg => rfl); (case hr => first | (go_simp; done) | (go_simp; rfl)); intro gb460 hg w18 hbox hb; have n0_ := aS (Kd.R_below (Kd.R_elderB (by (with_reducible repeat (first | apply Kd.R_alloc | apply Kd.R_drewN | apply Kd.R_drew)); exact HO_9.out) gb460 (Nat.le_of_eq hg.symm)) hb); have n1_ := aS (below_step (by repeat (first | (with_reducible first | exact HB.out | apply bal | apply bdN | apply bdo) | exact HB.out)) hb); have n2_ := aS (hbox); have n3_ := aS ((by rw [hg]; exact (below_size (by repeat (first | (with_reducible first | exact HB.out | apply bal | apply bdN | apply bdo) | exact HB.out))) : w8.heap.size ≤ gb460)); have n4_ := aS ((by rw [hg]; exact (below_size (by repeat (first | (with_reducible first | exact HB.out | apply bal | apply bdN | apply bdo) | exact HB.out))) : w8.heap.size ≤ gb460)); clear HO_9; clear HB; have HO_9 := n0_; have HB := n1_; have BK460 := n2_; have GW460 := n3_; have GE460 := n4_; clear n0_ n1_ n2_ n3_ n4_; clear hb hbox hg; have hcz19_0 : w18.cell? ⟨gb460, 0, none⟩ = some (.string (⟨#[]⟩ : ByteArray)) := (blk_cell BK460.out 0).trans rfl; have hcz19_1 : w18.cell? ⟨gb460, 1, none⟩ = some (.string (⟨#[]⟩ : ByteArray)) := (blk_cell BK460.out 1).trans rfl; have hcz19_2 : w18.cell? ⟨gb460, 2, none⟩ = some (.int .i64 0) := (blk_cell BK460.out 2).trans rfl; have hcz19_3 : w18.cell? ⟨gb460, 3, none⟩ = some (.string (⟨#[]⟩ : ByteArray)) := (blk_cell BK460.out 3).trans rfl; have hcz19_4 : w18.cell? ⟨gb460, 4, none⟩ = some (.bool false) := (blk_cell BK460.out 4).trans rfl; have hfz19_0 := blk_frozen BK460.out 0; have hfz19_1 := blk_frozen BK460.out 1; have hfz19_2 := blk_frozen BK460.out 2; have hfz19_3 := blk_frozen BK460.out 3; have hfz19_4 := blk_frozen BK460.out 4) | ((with_reducible refine gate_builtin (b := .append) (xs := #[.tmp 39, .tmp 41]) rfl ?_); (try (refine gate_guard (by rfl) ?_; dsimp only)); at_builtin; refine Kd.R_append k46 (w0 := w8) w8.heap.size rfl (.tmp 39) (.tmp 41) 22 46 (.agg #[(.string ⟨#[]⟩), (.string ⟨#[]⟩), (.int .i64 0), (.string ⟨#[]⟩), (.bool false)]) 64 rfl Try.underlying22 info46 rfl (by decide) (by omega) u9 x9_1 (⟨t454, t455, t456, t457, t458⟩ : S46) [.string t454, .string t455, .int .i64 t456, .string t457, .bool t458] (fun k_ => k_ ≠ gb460) (fun _ => False) rfl (by first | (go_simp; done) | (go_simp; rfl)) ?aP (fun _ hk => hk.elim) ?aF ?aO ?aB ?aS ?aL ?_; (case aP => exact k46_mkM _ _ _ (⟨t454, t455, t456, t457, t458⟩ : S46)); (case aB => exact (by repeat (first | (with_reducible first | exact HB.out | apply bal | apply bdN | apply bdo | refine below_set ?_ GE460.out) | exact HB.out))); (case aF => exact (fun k_ hk => Kd.freshB (g := gb460) (o := .cells #[.string t454, .string t455, .int .i64 t456, .string t457, .bool t458] 46 (0, 0)) (by (with_reducible repeat (first | refine blk_drewN ?_ _ | refine blk_drew ?_ | refine blk_alloc ?_ _)); refine blk_put (cs := #[.string t454, .string t455, .int .i64 t456, .string t457, .bool false]) ?_ 4 _ rfl; (with_reducible repeat (first | refine blk_drewN ?_ _ | refine blk_drew ?_ | refine blk_alloc ?_ _)); refine blk_put (cs := #[.string t454, .string t455, .int .i64 t456, .string (⟨#[]⟩ : ByteArray), .bool false]) ?_ 3 _ rfl; (with_reducible repeat (first | refine blk_drewN ?_ _ | refine blk_drew ?_ | refine blk_alloc ?_ _)); refine blk_put (cs := #[.string t454, .string t455, .int .i64 0, .string (⟨#[]⟩ : ByteArray), .bool false]) ?_ 2 _ rfl; (with_reducible repeat (first | refine blk_drewN ?_ _ | refine blk_drew ?_ | refine blk_alloc ?_ _)); refine blk_put (cs := #[.string t454, .string (⟨#[]⟩ : ByteArray), .int .i64 0, .string (⟨#[]⟩ : ByteArray), .bool false]) ?_ 1 _ rfl; (with_reducible repeat (first | refine blk_drewN ?_ _ | refine blk_drew ?_ | refine blk_alloc ?_ _)); refine blk_put (cs := #[.string (⟨#[]⟩ : ByteArray), .string (⟨#[]⟩ : ByteArray), .int .i64 0, .string (⟨#[]⟩ : ByteArray), .bool false]) ?_ 0 _ rfl; (with_reducible repeat (first | refine blk_drewN ?_ _ | refine blk_drew ?_ | refine blk_alloc ?_ _)); exact BK460.out) k_ hk)); (case aO => exact (by (with_reducible repeat (first | apply Kd.R_alloc | apply Kd.R_drewN | apply Kd.R_drew)); exact Kd.R_mono (Kd.R_far (p := ⟨gb460, 4, none⟩) (Kd.R_far (p := ⟨gb460, 3, none⟩) (Kd.R_far (p := ⟨gb460, 2, none⟩) (Kd.R_far (p := ⟨gb460, 1, none⟩) (Kd.R_far (p := ⟨gb460, 0, none⟩) (Kd.R_mono HO_9.out (fun k_ hk => (⟨hk, hk.2⟩ : _ ∧ k_ ≠ gb460))) (fun _ hk => hk.2) (.string t454)) (fun _ hk => hk.2) (.string t455)) (fun _ hk => hk.2) (.int .i64 t456)) (fun _ hk => hk.2) (.string t457)) (fun _ hk => hk.2) (.bool t458)) (fun _ hk => hk.1.2))); (case aS => exact (below_size (by repeat (first | (with_reducible first | exact HB.out | apply bal | apply bdN | apply bdo | refine below_set ?_ GE460.out) | exact HB.out)))); (case aL => have := LMc16.out; omega); intro v462 w20 ho hb hg hat; rw [← Ny461.out] at ho; have n0_ := aS (blk_grown (g := gb460) (o := .cells #[.string t454, .string t455, .int .i64 t456, .string t457, .bool t458] 46 (0, 0)) (by (with_reducible repeat (first | refine blk_drewN ?_ _ | refine blk_drew ?_ | refine blk_alloc ?_ _)); refine blk_put (cs := #[.string t454, .string t455, .int .i64 t456, .string t457, .bool false]) ?_ 4 _ rfl; (with_reducible repeat (first | refine blk_drewN ?_ _ | refine blk_drew ?_ | refine blk_alloc ?_ _)); refine blk_put (cs := #[.string t454, .string t455, .int .i64 t456, .string (⟨#[]⟩ : ByteArray), .bool false]) ?_ 3 _ rfl; (with_reducible repeat (first | refine blk_drewN ?_ _ | refine blk_drew ?_ | refine blk_alloc ?_ _)); refine blk_put (cs := #[.string t454, .string t455, .int .i64 0, .string (⟨#[]⟩ : ByteArray), .bool false]) ?_ 2 _ rfl; (with_reducible repeat (first | refine blk_drewN ?_ _ | refine blk_drew ?_ | refine blk_alloc ?_ _)); refine blk_put (cs := #[.string t454, .string (⟨#[]⟩ : ByteArray), .int .i64 0, .string (⟨#[]⟩ : ByteArray), .bool false]) ?_ 1 _ rfl; (with_reducible repeat (first | refine blk_drewN ?_ _ | refine blk_drew ?_ | refine blk_alloc ?_ _)); refine blk_put (cs := #[.string (⟨#[]⟩ : ByteArray), .string (⟨#[]⟩ : ByteArray), .int .i64 0, .string (⟨#[]⟩ : ByteArray), .bool false]) ?_ 0 _ rfl; (with_reducible repeat (first | refine blk_drewN ?_ _ | refine blk_drew ?_ | refine blk_alloc ?_ _)); exact BK460.out) hg (Kd.R_away HO_9.out (fun _ hk => hk.2))); have n1_ := aS (hb); have n2_ := aS (ho); clear BK460; clear HB; clear HO_9; have BK460 := n0_; have HB := n1_; have HO463 := n2_; clear n0_ n1_ n2_; clear ho hb hg hat))
        go_roundg k1
        case measure => have := HK1.out; omega
        case rel => exact ⟨(wrap64 (x8_1 + t459)), (y461), (wrap64 (x10_1 + 1)), (by first | rfl | (simp; done) | (simp [*]; done) | (simp; exact (by decide : ∀ a_ b_ : Bool, (a_ == b_) = (!a_ != b_)) _ _)), (by first | rfl | (simp; done) | (simp [*]; done) | (simp; exact (by decide : ∀ a_ b_ : Bool, (a_ == b_) = (!a_ != b_)) _ _)), H', ⟨by have := HK1.out; omega⟩, ⟨by (with_reducible repeat (first | apply Kd.R_alloc | apply Kd.R_drewN | apply Kd.R_drew)); exact Kd.R_mono HO463.out (fun _ hk => trivial)⟩, ⟨by repeat (first | (with_reducible first | exact HB.out | apply bal | apply bdN | apply bdo | refine below_set ?_ GE460.out) | exact HB.out)⟩⟩
       ·
        rw [if_neg c16] at H
        exact absurd H (by simp)
     ·
      rw [if_neg c10] at H
      have c10b0 : decide (x10_1 < t453) = false := decide_eq_false c10
      clear c10
      by_cases c21 : t453 < 1
      ·
       rw [if_pos c21] at H
       have c21b0 : decide (t453 < 1) = true := decide_eq_true c21
       clear c21
       simp only [Option.some.injEq, Prod.mk.injEq] at H
       obtain ⟨rfl, rfl⟩ := H
       go_wp2
       go_ret2
       exact ⟨_, by first | rfl | (simp [errW_none, errW_some] <;> rfl) | (simp [*, errW_none, errW_some] <;> rfl), by first | exact Kd.R_nil _ _ _ _ _ | exact Kd.N_nil _ _ _ _ _ | exact Kd.V_nil _ _ _ _ _ | exact Kd.Q_nil _ _ _ _ _ | exact Kd.S_nil _ _ _ _ _, below_step HBo.out (by repeat (first | (with_reducible first | exact HB.out | apply bal | apply bdN | apply bdo) | exact HB.out))⟩
      ·
       rw [if_neg c21] at H
       have c21b0 : decide (t453 < 1) = false := decide_eq_false c21
       clear c21
       by_cases c22 : x8_1 = ((rd_L5 t448 0).length : Int)
       ·
        rw [if_pos c22] at H
        have c22b0 : (x8_1 == ((rd_L5 t448 0).length : Int)) = true := beq_iff_eq.mpr c22
        have c22b1 : (x8_1 != ((rd_L5 t448 0).length : Int)) = false := bne_eq_false_iff_eq.mpr c22
        clear c22
        replace H := obm H
        obtain ⟨t464, A230, H⟩ := H
        replace H : (if t464 = true then (some (x9_1, wrap64 (12 + ((rd_L5 t448 0).length : Int)))) else (some (([] : List (S46)), 0))) = some (r1, r2) := H
        have A23 := aS A230
        clear A230
        by_cases c24 : t464 = true
        ·
         subst c24
         have H1 : (some (x9_1, wrap64 (12 + ((rd_L5 t448 0).length : Int)))) = some (r1, r2) := by rw [if_pos rfl] at H; exact H
         clear H; have H := H1; clear H1
         simp only [Option.some.injEq, Prod.mk.injEq] at H
         obtain ⟨rfl, rfl⟩ := H
         obtain ⟨Ao25, co25, eo25⟩ := Kd.R_slice HO_9.out
         subst eo25
         go_wp2_with (first | (go_at_call 12; (with_reducible refine (shardlogref08_Sorted.calls k1 _ _ x9_1 true _ ?side1 ?side2 A23.out).mono ?_); (case side1 => repeat (first | exact (Kd.R_reads' HO_9.out).2.2 | (with_reducible refine Kd.C_alloc ?_ _) | (with_reducible refine Kd.C_drewN ?_ _) | (with_reducible refine Kd.C_drew ?_))); (case side2 => exact (Kd.R_reads' HO_9.out).2.1); rintro e w26 ⟨rfl, hb⟩; have n0_ := aS (Kd.R_below (by (with_reducible repeat (first | apply Kd.R_alloc | apply Kd.R_drewN | apply Kd.R_drew)); exact HO_9.out) hb); have n1_ := aS (below_step (by repeat (first | (with_reducible first | exact HB.out | apply bal | apply bdN | apply bdo) | exact HB.out)) hb); clear HO_9; clear HB; have HO_9 := n0_; have HB := n1_; clear n0_ n1_; (try clear hb); (try clear hb2); (try clear hk); (try clear hi)))
         go_ret2
         exact ⟨_, by first | rfl | (simp [errW_none, errW_some] <;> rfl) | (simp [*, errW_none, errW_some] <;> rfl), Kd.R_lower (by (with_reducible repeat (first | apply Kd.R_alloc | apply Kd.R_drewN | apply Kd.R_drew)); exact HO_9.out) (below_size HBo.out), below_step HBo.out (by repeat (first | (with_reducible first | exact HB.out | apply bal | apply bdN | apply bdo) | exact HB.out))⟩
        ·
         replace c24 := Bool.eq_false_iff.mpr c24
         subst c24
         have H1 : (some (([] : List (S46)), 0)) = some (r1, r2) := by rw [if_neg (show ¬ (false = true) by decide)] at H; exact H
         clear H; have H := H1; clear H1
         simp only [Option.some.injEq, Prod.mk.injEq] at H
         obtain ⟨rfl, rfl⟩ := H
         obtain ⟨Ao27, co27, eo27⟩ := Kd.R_slice HO_9.out
         subst eo27
         go_wp2_with (first | (go_at_call 12; (with_reducible refine (shardlogref08_Sorted.calls k1 _ _ x9_1 false _ ?side1 ?side2 A23.out).mono ?_); (case side1 => repeat (first | exact (Kd.R_reads' HO_9.out).2.2 | (with_reducible refine Kd.C_alloc ?_ _) | (with_reducible refine Kd.C_drewN ?_ _) | (with_reducible refine Kd.C_drew ?_))); (case side2 => exact (Kd.R_reads' HO_9.out).2.1); rintro e w28 ⟨rfl, hb⟩; have n0_ := aS (Kd.R_below (by (with_reducible repeat (first | apply Kd.R_alloc | apply Kd.R_drewN | apply Kd.R_drew)); exact HO_9.out) hb); have n1_ := aS (below_step (by repeat (first | (with_reducible first | exact HB.out | apply bal | apply bdN | apply bdo) | exact HB.out)) hb); clear HO_9; clear HB; have HO_9 := n0_; have HB := n1_; clear n0_ n1_; (try clear hb); (try clear hb2); (try clear hk); (try clear hi)))
         go_ret2
         exact ⟨_, by first | rfl | (simp [errW_none, errW_some] <;> rfl) | (simp [*, errW_none, errW_some] <;> rfl), by first | exact Kd.R_nil _ _ _ _ _ | exact Kd.N_nil _ _ _ _ _ | exact Kd.V_nil _ _ _ _ _ | exact Kd.Q_nil _ _ _ _ _ | exact Kd.S_nil _ _ _ _ _, below_step HBo.out (by repeat (first | (with_reducible first | exact HB.out | apply bal | apply bdN | apply bdo) | exact HB.out))⟩
       ·
        rw [if_neg c22] at H
        have c22b0 : (x8_1 == ((rd_L5 t448 0).length : Int)) = false := beq_eq_false_iff_ne.mpr c22
        have c22b1 : (x8_1 != ((rd_L5 t448 0).length : Int)) = true := bne_iff_ne.mpr c22
        simp only [Option.some.injEq, Prod.mk.injEq] at H
        obtain ⟨rfl, rfl⟩ := H
        go_wp2
        go_ret2
        exact ⟨_, by first | rfl | (simp [errW_none, errW_some] <;> rfl) | (simp [*, errW_none, errW_some] <;> rfl), by first | exact Kd.R_nil _ _ _ _ _ | exact Kd.N_nil _ _ _ _ _ | exact Kd.V_nil _ _ _ _ _ | exact Kd.Q_nil _ _ _ _ _ | exact Kd.S_nil _ _ _ _ _, below_step HBo.out (by repeat (first | (with_reducible first | exact HB.out | apply bal | apply bdN | apply bdo) | exact HB.out))⟩
  ·
   rw [if_neg c6] at H
   exact absurd H (by simp)

/-! ### shardloglaw10_BlockGets: function 5 -/
def shardloglaw10_BlockGets.j0 : Nat → List Int → Bool → Option (Bool)
 | 0, _, _ => none
 | k + 1, x0, x14 => if x14 = true then ((shardloglaw10_awake.f k).bind fun t466 => (some t466)) else ((block_Get.f k x0).bind fun bt467 => ((shardlogref10_Get.f k x0).bind fun bt474 => (if bt474.2 = 0 then (if bt467.2.2 = 2 then (if (bt467.1.length : Int) = 0 then (some ((bt467.2.1.length : Int) == 0)) else (none)) else (none)) else (if bt467.2.2 = 0 then ((shardlogref08_Same.f k bt467.1 bt474.1).bind fun t478 => (if t478 = true then (if 0 ≤ bt474.2 then (if bt474.2 ≤ (x0.length : Int) then ((shardlogref01_Same.f bt467.2.1 (x0.drop (bt474.2 : Int).toNat)).bind fun t483 => (some t483)) else (none)) else (none)) else (none))) else (none)))))
def shardloglaw10_BlockGets.f (k : Nat) (l0 : List Int) : Option (Bool) := (shardloglaw10_awake.f k).bind fun t465 => (if t465 = true then (shardloglaw10_BlockGets.j0 k l0 (decide ((l0.length : Int) > 3000))) else (shardloglaw10_BlockGets.j0 k l0 true))
theorem shardloglaw10_BlockGets.mono_l : ∀ k, (∀ y0 y1, LeO (shardloglaw10_BlockGets.j0 k y0 y1) (shardloglaw10_BlockGets.j0 (k + 1) y0 y1))
 | 0 => fun _ _ r h => by simp [shardloglaw10_BlockGets.j0] at h
 | k + 1 => by
  have ih0 := shardloglaw10_BlockGets.mono_l k
  ·
   intro y0 y1
   unfold shardloglaw10_BlockGets.j0
   repeat' first
   | (with_reducible exact ih0 _ _)
   | (with_reducible exact block_Get.mono _ _)
   | (with_reducible exact shardloglaw10_awake.mono _)
   | (with_reducible exact shardlogref08_Same.mono _ _ _)
   | (with_reducible exact shardlogref10_Get.mono _ _)
   | (with_reducible exact LeO.refl _)
   | (with_reducible exact LeO.none _)
   | (with_reducible refine LeO.ite ?_ ?_)
   | (with_reducible refine LeO.bind ?_ (fun _ => ?_))
   | exact ih0 _ _
   | exact block_Get.mono _ _
   | exact shardloglaw10_awake.mono _
   | exact shardlogref08_Same.mono _ _ _
   | exact shardlogref10_Get.mono _ _
   | exact LeO.none _
   | refine LeO.ite ?_ ?_
   | refine LeO.bind ?_ (fun _ => ?_)
theorem shardloglaw10_BlockGets.mono : ∀ a0 k, LeO (shardloglaw10_BlockGets.f k a0) (shardloglaw10_BlockGets.f (k + 1) a0) := by
 intro a0 k
 have ih0 := shardloglaw10_BlockGets.mono_l k
 unfold shardloglaw10_BlockGets.f
 repeat' first
   | (with_reducible exact ih0 _ _)
   | (with_reducible exact block_Get.mono _ _)
   | (with_reducible exact shardloglaw10_awake.mono _)
   | (with_reducible exact shardlogref08_Same.mono _ _ _)
   | (with_reducible exact shardlogref10_Get.mono _ _)
   | (with_reducible exact LeO.refl _)
   | (with_reducible exact LeO.none _)
   | (with_reducible refine LeO.ite ?_ ?_)
   | (with_reducible refine LeO.bind ?_ (fun _ => ?_))
   | exact ih0 _ _
   | exact block_Get.mono _ _
   | exact shardloglaw10_awake.mono _
   | exact shardlogref08_Same.mono _ _ _
   | exact shardlogref10_Get.mono _ _
   | exact LeO.none _
   | refine LeO.ite ?_ ?_
   | refine LeO.bind ?_ (fun _ => ?_)
set_option maxHeartbeats 8000000 in
set_option maxRecDepth 100000 in
theorem shardloglaw10_BlockGets.calls (k : Nat) (A0 : Option Addr) (c0 : Nat) (l0 : List Int) (r : Bool) (w : World) (hr0 : Kd.C (Kd.int .u8) w A0 l0.length l0) (hc0 : l0.length ≤ c0) (h : shardloglaw10_BlockGets.f k l0 = some r) :
  Calls Try.prog 5 #[.slice A0 l0.length c0] w fun e w' => e = .returned (.bool r) ∧ Below w.heap.size w w' := by
 have HR0 := aS hr0
 have HC0 := aS hc0
 clear hr0 hc0
 have HB := aS (Below.refl w.heap.size w)
 have H : ((shardloglaw10_awake.f k).bind fun t465 => (if t465 = true then (shardloglaw10_BlockGets.j0 k l0 (decide ((l0.length : Int) > 3000))) else (shardloglaw10_BlockGets.j0 k l0 true))) = some r := h
 clear h
 have HC2 := aS H
 clear H
 go_enter Try.func5, Try.ntmps5
 go_upto_region 1 with (fail)
 go_cut [14] (fun v14 wc => ∃ (kq : Nat) (x14_1 : Bool), v14 = .bool x14_1 ∧ Aside0 (shardloglaw10_BlockGets.j0 kq l0 x14_1 = some r) ∧ Aside0 (kq ≤ k) ∧ Aside0 (Below w.heap.size w wc))
 case first =>
  have H := HC2.out; clear HC2
  replace H := obm H
  obtain ⟨t465, A30, H⟩ := H
  replace H : (if t465 = true then (shardloglaw10_BlockGets.j0 k l0 (decide ((l0.length : Int) > 3000))) else (shardloglaw10_BlockGets.j0 k l0 true)) = some r := H
  have A3 := aS A30
  clear A30
  by_cases c4 : t465 = true
  ·
   subst c4
   have H1 : (shardloglaw10_BlockGets.j0 k l0 (decide ((l0.length : Int) > 3000))) = some r := by rw [if_pos rfl] at H; exact H
   clear H; have H := H1; clear H1
   have H' := aS H
   clear H
   go_wp2_with (first | ((with_reducible refine gate_callee (f := 8) rfl ?_); refine goesL_ (some 8) rfl rfl Try.func8 (by kernel_rfl) rfl #[] rfl (by (try simp only [List.map_toArray, List.map_cons, List.map_nil]); first | done | rfl | (simp only [lld, llt]; rfl)) ?_; (with_reducible refine (shardloglaw10_awake.calls k  true _ A3.out).mono ?_); rintro e w5 ⟨rfl, hb⟩; refine ⟨_, rfl, ?_⟩; have n0_ := aS (below_step (by repeat (first | (with_reducible first | exact HB.out | apply bal | apply bdN | apply bdo) | exact HB.out)) hb); clear HB; have HB := n0_; clear n0_; (try clear hb); (try clear hb2); (try clear hk); (try clear hi)))
   go_meet
   case rel => exact ⟨_, (decide ((l0.length : Int) > 3000)), (by first | rfl | (simp; done) | (simp [*]; done) | (simp; exact (by decide : ∀ a_ b_ : Bool, (a_ == b_) = (!a_ != b_)) _ _)), H', ⟨by first | omega | exact Nat.le_refl _⟩, ⟨by repeat (first | (with_reducible first | exact HB.out | apply bal | apply bdN | apply bdo) | exact HB.out)⟩⟩
  ·
   replace c4 := Bool.eq_false_iff.mpr c4
   subst c4
   have H1 : (shardloglaw10_BlockGets.j0 k l0 true) = some r := by rw [if_neg (show ¬ (false = true) by decide)] at H; exact H
   clear H; have H := H1; clear H1
   have H' := aS H
   clear H
   go_wp2_with (first | ((with_reducible refine gate_callee (f := 8) rfl ?_); refine goesL_ (some 8) rfl rfl Try.func8 (by kernel_rfl) rfl #[] rfl (by (try simp only [List.map_toArray, List.map_cons, List.map_nil]); first | done | rfl | (simp only [lld, llt]; rfl)) ?_; (with_reducible refine (shardloglaw10_awake.calls k  false _ A3.out).mono ?_); rintro e w6 ⟨rfl, hb⟩; refine ⟨_, rfl, ?_⟩; have n0_ := aS (below_step (by repeat (first | (with_reducible first | exact HB.out | apply bal | apply bdN | apply bdo) | exact HB.out)) hb); clear HB; have HB := n0_; clear n0_; (try clear hb); (try clear hb2); (try clear hk); (try clear hi)))
   go_meet
   case rel => exact ⟨_, (true), (by first | rfl | (simp; done) | (simp [*]; done) | (simp; exact (by decide : ∀ a_ b_ : Bool, (a_ == b_) = (!a_ != b_)) _ _)), H', ⟨by first | omega | exact Nat.le_refl _⟩, ⟨by repeat (first | (with_reducible first | exact HB.out | apply bal | apply bdN | apply bdo) | exact HB.out)⟩⟩
 case rest =>
  clear HC2; (try clear p2); (try clear c4); (try clear c5)
  obtain ⟨kq, x14_1, rfl, HA, HJ1, HB⟩ := hcut
  cases kq with
  | zero => exact absurd HA.out (by simp [shardloglaw10_BlockGets.j0])
  | succ kj1 =>
   have H := HA.out; clear HA
   simp only [shardloglaw10_BlockGets.j0] at H
   by_cases c7 : x14_1 = true
   ·
    subst c7
    have H1 : ((shardloglaw10_awake.f kj1).bind fun t466 => (some t466)) = some r := by rw [if_pos rfl] at H; exact H
    clear H; have H := H1; clear H1
    replace H := obm H
    obtain ⟨t466, A80, H⟩ := H
    replace H : (some t466) = some r := H
    have A8 := aS A80
    clear A80
    obtain rfl := Option.some.inj H
    go_wp2_with (first | ((with_reducible refine gate_callee (f := 8) rfl ?_); refine goesL_ (some 15) rfl rfl Try.func8 (by kernel_rfl) rfl #[] rfl (by (try simp only [List.map_toArray, List.map_cons, List.map_nil]); first | done | rfl | (simp only [lld, llt]; rfl)) ?_; (with_reducible refine (shardloglaw10_awake.calls kj1  t466 _ A8.out).mono ?_); rintro e w9 ⟨rfl, hb⟩; refine ⟨_, rfl, ?_⟩; have n0_ := aS (below_step (by repeat (first | (with_reducible first | exact HB.out | apply bal | apply bdN | apply bdo) | exact HB.out)) hb); clear HB; have HB := n0_; clear n0_; (try clear hb); (try clear hb2); (try clear hk); (try clear hi)))
    go_ret
    exact ⟨by first | rfl | (simp [errW_none, errW_some] <;> rfl) | (simp [*, errW_none, errW_some] <;> rfl), by repeat (first | (with_reducible first | exact HB.out | apply bal | apply bdN | apply bdo) | exact HB.out)⟩
   ·
    replace c7 := Bool.eq_false_iff.mpr c7
    subst c7
    have H1 : ((block_Get.f kj1 l0).bind fun bt467 => ((shardlogref10_Get.f kj1 l0).bind fun bt474 => (if bt474.2 = 0 then (if bt467.2.2 = 2 then (if (bt467.1.length : Int) = 0 then (some ((bt467.2.1.length : Int) == 0)) else (none)) else (none)) else (if bt467.2.2 = 0 then ((shardlogref08_Same.f kj1 bt467.1 bt474.1).bind fun t478 => (if t478 = true then (if 0 ≤ bt474.2 then (if bt474.2 ≤ (l0.length : Int) then ((shardlogref01_Same.f bt467.2.1 (l0.drop (bt474.2 : Int).toNat)).bind fun t483 => (some t483)) else (none)) else (none)) else (none))) else (none))))) = some r := by rw [if_neg (show ¬ (false = true) by decide)] at H; exact H
    clear H; have H := H1; clear H1
    replace H := obm H
    obtain ⟨⟨t467, t468, t469⟩, A100, H⟩ := H
    replace H : ((shardlogref10_Get.f kj1 l0).bind fun bt474 => (if bt474.2 = 0 then (if t469 = 2 then (if (t467.length : Int) = 0 then (some ((t468.length : Int) == 0)) else (none)) else (none)) else (if t469 = 0 then ((shardlogref08_Same.f kj1 t467 bt474.1).bind fun t478 => (if t478 = true then (if 0 ≤ bt474.2 then (if bt474.2 ≤ (l0.length : Int) then ((shardlogref01_Same.f t468 (l0.drop (bt474.2 : Int).toNat)).bind fun t483 => (some t483)) else (none)) else (none)) else (none))) else (none)))) = some r := H
    have A10 := aS A100
    clear A100
    replace H := obm H
    obtain ⟨⟨t474, t475⟩, A110, H⟩ := H
    replace H : (if t475 = 0 then (if t469 = 2 then (if (t467.length : Int) = 0 then (some ((t468.length : Int) == 0)) else (none)) else (none)) else (if t469 = 0 then ((shardlogref08_Same.f kj1 t467 t474).bind fun t478 => (if t478 = true then (if 0 ≤ t475 then (if t475 ≤ (l0.length : Int) then ((shardlogref01_Same.f t468 (l0.drop (t475 : Int).toNat)).bind fun t483 => (some t483)) else (none)) else (none)) else (none))) else (none))) = some r := H
    have A11 := aS A110
    clear A110
    by_cases c12 : t475 = 0
    ·
     rw [if_pos c12] at H
     have c12b0 : (t475 == 0) = true := beq_iff_eq.mpr c12
     have c12b1 : (t475 != 0) = false := bne_eq_false_iff_eq.mpr c12
     clear c12
     by_cases c13 : t469 = 2
     ·
      rw [if_pos c13] at H
      have c13b0 : (t469 == 2) = true := beq_iff_eq.mpr c13
      have c13b1 : (t469 != 2) = false := bne_eq_false_iff_eq.mpr c13
      clear c13
      by_cases c14 : (t467.length : Int) = 0
      ·
       rw [if_pos c14] at H
       have c14b0 : ((t467.length : Int) == 0) = true := beq_iff_eq.mpr c14
       have c14b1 : ((t467.length : Int) != 0) = false := bne_eq_false_iff_eq.mpr c14
       clear c14
       obtain rfl := Option.some.inj H
       go_wp2_with (first | ((with_reducible refine gate_callee (f := 18) rfl ?_); refine goesL_ (some 18) rfl rfl Try.func18 (by kernel_rfl) rfl #[.slice A0 l0.length c0] rfl (by (try simp only [List.map_toArray, List.map_cons, List.map_nil]); first | done | rfl | (simp only [lld, llt]; rfl)) ?_; (with_reducible refine (block_Get.calls kj1 _ _ l0 t467 t468 t469 _ ?side1 ?side2 A10.out).mono ?_); (case side1 => repeat (first | exact (Kd.C_below HR0.out HB.out) | (with_reducible refine Kd.C_alloc ?_ _) | (with_reducible refine Kd.C_drewN ?_ _) | (with_reducible refine Kd.C_drew ?_))); (case side2 => exact HC0.out); rintro e w15 ⟨v470, v472, rfl, ho0, ho1, hb⟩; refine ⟨_, rfl, ?_⟩; have n0_ := aS (Kd.R_lower ho0 (below_size (by repeat (first | (with_reducible first | exact HB.out | apply bal | apply bdN | apply bdo) | exact HB.out)))); have n1_ := aS (Kd.R_lower ho1 (below_size (by repeat (first | (with_reducible first | exact HB.out | apply bal | apply bdN | apply bdo) | exact HB.out)))); have n2_ := aS (below_step (by repeat (first | (with_reducible first | exact HB.out | apply bal | apply bdN | apply bdo) | exact HB.out)) hb); clear HB; have HO471 := n0_; have HO473 := n1_; have HB := n2_; clear n0_ n1_ n2_; (try clear hb); (try clear hb2); (try clear hk); (try clear hi); (try clear ho0); (try clear ho1)) | ((with_reducible refine gate_callee (f := 19) rfl ?_); refine goesL_ (some 24) rfl rfl Try.func19 (by kernel_rfl) rfl #[.slice A0 l0.length c0] rfl (by (try simp only [List.map_toArray, List.map_cons, List.map_nil]); first | done | rfl | (simp only [lld, llt]; rfl)) ?_; (with_reducible refine (shardlogref10_Get.calls kj1 _ _ l0 t474 t475 _ ?side1 ?side2 A11.out).mono ?_); (case side1 => repeat (first | exact (Kd.C_below HR0.out HB.out) | (with_reducible refine Kd.C_alloc ?_ _) | (with_reducible refine Kd.C_drewN ?_ _) | (with_reducible refine Kd.C_drew ?_))); (case side2 => exact HC0.out); rintro e w16 ⟨v476, rfl, ho0, hb⟩; refine ⟨_, rfl, ?_⟩; have n0_ := aS (Kd.R_elder' (by (with_reducible repeat (first | apply Kd.R_alloc | apply Kd.R_drewN | apply Kd.R_drew)); exact HO471.out) (by first | exact Kd.R_base ho0 | exact Kd.S_base ho0 | exact Kd.R_base ho0 | exact Kd.V_base ho0) hb); have n1_ := aS (Kd.R_below (by (with_reducible repeat (first | apply Kd.R_alloc | apply Kd.R_drewN | apply Kd.R_drew)); exact HO473.out) hb); have n2_ := aS (Kd.R_lower (Kd.R_new' ho0 (Kd.R_lt (by (with_reducible repeat (first | apply Kd.R_alloc | apply Kd.R_drewN | apply Kd.R_drew)); exact HO471.out))) (below_size (by repeat (first | (with_reducible first | exact HB.out | apply bal | apply bdN | apply bdo) | exact HB.out)))); have n3_ := aS (below_step (by repeat (first | (with_reducible first | exact HB.out | apply bal | apply bdN | apply bdo) | exact HB.out)) hb); clear HO471; clear HO473; clear HB; have HO471 := n0_; have HO473 := n1_; have HO477 := n2_; have HB := n3_; clear n0_ n1_ n2_ n3_; (try clear hb); (try clear hb2); (try clear hk); (try clear hi); (try clear ho0); obtain ⟨Ao17, co17, eo17⟩ := Kd.R_slice HO471.out; subst eo17; obtain ⟨Ao18, co18, eo18⟩ := Kd.R_slice HO473.out; subst eo18))
       go_ret
       exact ⟨by first | rfl | (simp [errW_none, errW_some] <;> rfl) | (simp [*, errW_none, errW_some] <;> rfl), by repeat (first | (with_reducible first | exact HB.out | apply bal | apply bdN | apply bdo) | exact HB.out)⟩
      ·
       rw [if_neg c14] at H
       exact absurd H (by simp)
     ·
      rw [if_neg c13] at H
      exact absurd H (by simp)
    ·
     rw [if_neg c12] at H
     have c12b0 : (t475 == 0) = false := beq_eq_false_iff_ne.mpr c12
     have c12b1 : (t475 != 0) = true := bne_iff_ne.mpr c12
     by_cases c19 : t469 = 0
     ·
      rw [if_pos c19] at H
      have c19b0 : (t469 == 0) = true := beq_iff_eq.mpr c19
      have c19b1 : (t469 != 0) = false := bne_eq_false_iff_eq.mpr c19
      clear c19
      replace H := obm H
      obtain ⟨t478, A200, H⟩ := H
      replace H : (if t478 = true then (if 0 ≤ t475 then (if t475 ≤ (l0.length : Int) then ((shardlogref01_Same.f t468 (l0.drop (t475 : Int).toNat)).bind fun t483 => (some t483)) else (none)) else (none)) else (none)) = some r := H
      have A20 := aS A200
      clear A200
      by_cases c21 : t478 = true
      ·
       subst c21
       have H1 : (if 0 ≤ t475 then (if t475 ≤ (l0.length : Int) then ((shardlogref01_Same.f t468 (l0.drop (t475 : Int).toNat)).bind fun t483 => (some t483)) else (none)) else (none)) = some r := by rw [if_pos rfl] at H; exact H
       clear H; have H := H1; clear H1
       by_cases c22 : 0 ≤ t475
       ·
        rw [if_pos c22] at H
        have c22b0 := eq_true c22
        have c22b1 : decide (0 ≤ t475) = true := decide_eq_true c22
        clear c22
        by_cases c23 : t475 ≤ (l0.length : Int)
        ·
         rw [if_pos c23] at H
         have c23b0 := eq_true c23
         have c23b1 : decide (t475 ≤ (l0.length : Int)) = true := decide_eq_true c23
         clear c23
         obtain ⟨y479, hy479⟩ : ∃ y_ : List Int, y_ = (l0.drop (t475 : Int).toNat) := ⟨_, rfl⟩
         replace H : ((shardlogref01_Same.f t468 y479).bind fun t483 => (some t483)) = some r := by first | (rw [hy479]; with_reducible exact H) | (have H2_ := (Option.bind_some _ _).symm.trans H; rw [hy479]; with_reducible exact H2_) | (have H2_ := (Option.bind_some _ _).symm.trans H; with_reducible exact H2_) | with_reducible exact H | (rw [hy479]; exact H) | exact H
         have Ny479 := aS hy479
         clear hy479
         replace H := obm H
         obtain ⟨t483, A240, H⟩ := H
         replace H : (some t483) = some r := H
         have A24 := aS A240
         clear A240
         obtain rfl := Option.some.inj H
         go_wp2_with (first | ((with_reducible refine gate_callee (f := 18) rfl ?_); refine goesL_ (some 18) rfl rfl Try.func18 (by kernel_rfl) rfl #[.slice A0 l0.length c0] rfl (by (try simp only [List.map_toArray, List.map_cons, List.map_nil]); first | done | rfl | (simp only [lld, llt]; rfl)) ?_; (with_reducible refine (block_Get.calls kj1 _ _ l0 t467 t468 t469 _ ?side1 ?side2 A10.out).mono ?_); (case side1 => repeat (first | exact (Kd.C_below HR0.out HB.out) | (with_reducible refine Kd.C_alloc ?_ _) | (with_reducible refine Kd.C_drewN ?_ _) | (with_reducible refine Kd.C_drew ?_))); (case side2 => exact HC0.out); rintro e w25 ⟨v470, v472, rfl, ho0, ho1, hb⟩; refine ⟨_, rfl, ?_⟩; have n0_ := aS (Kd.R_lower ho0 (below_size (by repeat (first | (with_reducible first | exact HB.out | apply bal | apply bdN | apply bdo) | exact HB.out)))); have n1_ := aS (Kd.R_lower ho1 (below_size (by repeat (first | (with_reducible first | exact HB.out | apply bal | apply bdN | apply bdo) | exact HB.out)))); have n2_ := aS (below_step (by repeat (first | (with_reducible first | exact HB.out | apply bal | apply bdN | apply bdo) | exact HB.out)) hb); clear HB; have HO471 := n0_; have HO473 := n1_; have HB := n2_; clear n0_ n1_ n2_; (try clear hb); (try clear hb2); (try clear hk); (try clear hi); (try clear ho0); (try clear ho1)) | ((with_reducible refine gate_callee (f := 19) rfl ?_); refine goesL_ (some 24) rfl rfl Try.func19 (by kernel_rfl) rfl #[.slice A0 l0.length c0] rfl (by (try simp only [List.map_toArray, List.map_cons, List.map_nil]); first | done | rfl | (simp only [lld, llt]; rfl)) ?_; (with_reducible refine (shardlogref10_Get.calls kj1 _ _ l0 t474 t475 _ ?side1 ?side2 A11.out).mono ?_); (case side1 => repeat (first | exact (Kd.C_below HR0.out HB.out) | (with_reducible refine Kd.C_alloc ?_ _) | (with_reducible refine Kd.C_drewN ?_ _) | (with_reducible refine Kd.C_drew ?_))); (case side2 => exact HC0.out); rintro e w26 ⟨v476, rfl, ho0, hb⟩; refine ⟨_, rfl, ?_⟩; have n0_ := aS (Kd.R_elder' (by (with_reducible repeat (first | apply Kd.R_alloc | apply Kd.R_drewN | apply Kd.R_drew)); exact HO471.out) (by first | exact Kd.R_base ho0 | exact Kd.S_base ho0 | exact Kd.R_base ho0 | exact Kd.V_base ho0) hb); have n1_ := aS (Kd.R_below (by (with_reducible repeat (first | apply Kd.R_alloc | apply Kd.R_drewN | apply Kd.R_drew)); exact HO473.out) hb); have n2_ := aS (Kd.R_lower (Kd.R_new' ho0 (Kd.R_lt (by (with_reducible repeat (first | apply Kd.R_alloc | apply Kd.R_drewN | apply Kd.R_drew)); exact HO471.out))) (below_size (by repeat (first | (with_reducible first | exact HB.out | apply bal | apply bdN | apply bdo) | exact HB.out)))); have n3_ := aS (below_step (by repeat (first | (with_reducible first | exact HB.out | apply bal | apply bdN | apply bdo) | exact HB.out)) hb); clear HO471; clear HO473; clear HB; have HO471 := n0_; have HO473 := n1_; have HO477 := n2_; have HB := n3_; clear n0_ n1_ n2_ n3_; (try clear hb); (try clear hb2); (try clear hk); (try clear hi); (try clear ho0); have q27 : (t475 : Int) ≤ ((l0.length : Int) : Int) := odt (by first | (with_reducible assumption) | assumption); obtain ⟨i027, hi027, _, hsz27, _⟩ := info_parts info5; have hroom27 : l0.length ≤ c0 := HC0.out; have hC27 : Kd.C (Kd.int .u8) _ A0 l0.length l0 := HR0.out; have q027 : (0 : Int) ≤ (t475 : Int) := odt (by first | (with_reducible assumption) | assumption); have hcut27 := cut_from (P := Try.prog) 33 5 .i64 Try.underlying33 hi027 1 hsz27 A0 l0.length c0 t475 q027 q27; have hr27 := Kd.C_drop (m := (t475 : Int).toNat) (c := c0) hC27 (by omega) hroom27; obtain ⟨A27, hA27⟩ : ∃ A1_, A1_ = (if c0 = (t475 : Int).toNat then A0 else (A0 : Option Addr).map (·.add ((t475 : Int).toNat * 1))) := ⟨_, rfl⟩; obtain ⟨c27, hc27⟩ : ∃ c1_, c1_ = c0 - (t475 : Int).toNat := ⟨_, rfl⟩; have hy27 : y479.length = l0.length - (t475 : Int).toNat := (by rw [Ny479.out, lld] <;> omega); rw [show (l0).drop (t475 : Int).toNat = y479 from Ny479.out.symm] at hr27; replace hr27 : Kd.C (Kd.int .u8) _ A27 y479.length y479 := (by rw [hA27]; exact hr27); rw [← hy27, ← hA27, ← hc27] at hcut27; have HR482 := aS hr27; have HC482 := aS (show y479.length ≤ c27 from by rw [hy27, hc27]; exact Nat.sub_le_sub_right hroom27 _); clear hr27 hC27 hroom27 hi027 hsz27 hc27; have KY27 := aS hy27; have KA27 := aS hA27; clear hy27 hA27; replace q27 := eq_true q27; obtain ⟨Ao28, co28, eo28⟩ := Kd.R_slice HO471.out; subst eo28; obtain ⟨Ao29, co29, eo29⟩ := Kd.R_slice HO477.out; subst eo29) | (go_at_call 14; (with_reducible refine (shardlogref08_Same.calls kj1 _ _ t467 _ _ t474 true _ ?side1 ?side2 ?side3 ?side4 A20.out).mono ?_); (case side1 => repeat (first | exact (Kd.R_reads' HO471.out).2.2 | (with_reducible refine Kd.C_alloc ?_ _) | (with_reducible refine Kd.C_drewN ?_ _) | (with_reducible refine Kd.C_drew ?_))); (case side2 => exact (Kd.R_reads' HO471.out).2.1); (case side3 => repeat (first | exact (Kd.R_reads' HO477.out).2.2 | (with_reducible refine Kd.C_alloc ?_ _) | (with_reducible refine Kd.C_drewN ?_ _) | (with_reducible refine Kd.C_drew ?_))); (case side4 => exact (Kd.R_reads' HO477.out).2.1); rintro e w' ⟨rfl, ⟨nd, rfl⟩⟩; obtain ⟨Ao30, co30, eo30⟩ := Kd.R_slice HO473.out; subst eo30) | (go_at_call 16; (with_reducible refine (shardlogref01_Same.calls _ _ t468 _ _ y479 t483 _ ?side1 ?side2 ?side3 ?side4 A24.out).mono ?_); (case side1 => repeat (first | exact (Kd.R_reads' HO473.out).2.2 | (with_reducible refine Kd.C_alloc ?_ _) | (with_reducible refine Kd.C_drewN ?_ _) | (with_reducible refine Kd.C_drew ?_))); (case side2 => exact (Kd.R_reads' HO473.out).2.1); (case side3 => repeat (first | exact (Kd.C_below HR482.out (by repeat (first | (with_reducible first | exact HB.out | apply bal | apply bdN | apply bdo) | exact HB.out))) | (with_reducible refine Kd.C_alloc ?_ _) | (with_reducible refine Kd.C_drewN ?_ _) | (with_reducible refine Kd.C_drew ?_))); (case side4 => exact HC482.out); rintro e w' ⟨rfl, ⟨nd, rfl⟩⟩))
         go_ret
         exact ⟨by first | rfl | (simp [errW_none, errW_some] <;> rfl) | (simp [*, errW_none, errW_some] <;> rfl), by repeat (first | (with_reducible first | exact HB.out | apply bal | apply bdN | apply bdo) | exact HB.out)⟩
        ·
         rw [if_neg c23] at H
         exact absurd H (by simp)
       ·
        rw [if_neg c22] at H
        exact absurd H (by simp)
      ·
       replace c21 := Bool.eq_false_iff.mpr c21
       subst c21
       have H1 : (none) = some r := by rw [if_neg (show ¬ (false = true) by decide)] at H; exact H
       clear H; have H := H1; clear H1
       exact absurd H (by simp)
     ·
      rw [if_neg c19] at H
      exact absurd H (by simp)

/-- THE ONE PURE STATEMENT of shardloglaw10_BlockGets. -/
def shardloglaw10_BlockGets.Pure : Prop := ∀ (l0 : List Int), (l0.length ≤ maxLen ∧ l0.length * 1 ≤ 140737488351232 ∧ ∀ y0_ ∈ l0, (Lit.int .u8 y0_).wf = true) → ∃ k, shardloglaw10_BlockGets.f k l0 = some true
theorem shardloglaw10_BlockGets.walk (P : shardloglaw10_BlockGets.Pure) (A0 : Option Addr) (c0 : Nat) (l0 : List Int) (w : World) (wf0 : (l0.length ≤ maxLen ∧ l0.length * 1 ≤ 140737488351232 ∧ ∀ y0_ ∈ l0, (Lit.int .u8 y0_).wf = true)) (hr0 : Kd.C (Kd.int .u8) w A0 l0.length l0) (hc0 : l0.length ≤ c0) :
  Calls Try.prog 5 #[.slice A0 l0.length c0] w fun e w' => e = .returned (.bool true) ∧ Below w.heap.size w w' := by
 obtain ⟨k, h⟩ := P l0 wf0
 refine (shardloglaw10_BlockGets.calls k A0 c0 l0 true w hr0 hc0 h).mono ?_
 rintro e w' ⟨rfl, hd⟩
 exact ⟨rfl, hd⟩

end Go.Proofs.Ytclmooadpoojeaa.X
