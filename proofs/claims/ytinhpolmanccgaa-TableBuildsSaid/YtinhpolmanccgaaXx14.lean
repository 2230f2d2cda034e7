-- written by a program of this session's, over the kit's print
import Derived.Test.YtinhpolmanccgaaXx0
import Derived.Test.YtinhpolmanccgaaXx13
namespace Go.Proofs.Ytinhpolmanccgaa.X
open Go.RowKit Go.Proofs.YtinhpolmanccgaaW.PrintWords Go.Proofs.YtinhpolmanccgaaW.PrintLast Go.Proofs.YtinhpolmanccgaaW.PrintMore
attribute [local go_sem] max2_int min2_int max_two min_two max_three min_three max_four min_four gtr_str   -- for this text's walks alone
set_option linter.unusedVariables false
set_option linter.unusedSimpArgs false

/-! ### shardlogref10_Cut: function 20 -/
mutual
def shardlogref10_Cut.l0 : Nat → List (S42) → Int → List (List (S42)) → List (S42) → Int → Int → Option ((List (List (S42))))
 | 0, _, _, _, _, _, _ => none
 | k + 1, x0, x1, x5, x6, x7, x8 => if x8 < (x0.length : Int) then (if 0 ≤ x8 then (if x6.length < 2199023255552 then ((some (x6 ++ [(⟨(rd_T42 x0 x8).f0, (rd_T42 x0 x8).f1, (rd_T42 x0 x8).f2, (rd_T42 x0 x8).f3, (rd_T42 x0 x8).f4⟩ : S42)] : List (S42))).bind fun y614 => ((shardlogref08_Put.f k ((rd_T42 x0 x8).f0) ((rd_T42 x0 x8).f1) ((rd_T42 x0 x8).f2) ((rd_T42 x0 x8).f3) ((rd_T42 x0 x8).f4)).bind fun t618 => (if (wrap64 (x7 + (t618.length : Int))) ≥ x1 then (shardlogref10_Cut.j1 k x0 x1 x5 y614 (wrap64 (x7 + (t618.length : Int))) x8 true) else (shardlogref10_Cut.j1 k x0 x1 x5 y614 (wrap64 (x7 + (t618.length : Int))) x8 ((wrap64 (x8 + 1)) == (x0.length : Int)))))) else (none)) else (none)) else (some x5)
def shardlogref10_Cut.j1 : Nat → List (S42) → Int → List (List (S42)) → List (S42) → Int → Int → Bool → Option ((List (List (S42))))
 | 0, _, _, _, _, _, _, _ => none
 | k + 1, x0, x1, x5, x6, x7, x8, x39 => if x39 = true then (if x5.length < 5864062014805 then (shardlogref10_Cut.l0 k x0 x1 (x5 ++ [x6]) ([] : List (S42)) 0 (wrap64 (x8 + 1))) else (none)) else (shardlogref10_Cut.l0 k x0 x1 x5 x6 x7 (wrap64 (x8 + 1)))
end
def shardlogref10_Cut.f (k : Nat) (l0 : List (S42)) (a1 : Int) : Option ((List (List (S42)))) := shardlogref10_Cut.l0 k l0 a1 ([] : List (List (S42))) ([] : List (S42)) 0 0
theorem shardlogref10_Cut.mono_l : ∀ k, (∀ y0 y1 y2 y3 y4 y5, LeO (shardlogref10_Cut.l0 k y0 y1 y2 y3 y4 y5) (shardlogref10_Cut.l0 (k + 1) y0 y1 y2 y3 y4 y5)) ∧ (∀ y0 y1 y2 y3 y4 y5 y6, LeO (shardlogref10_Cut.j1 k y0 y1 y2 y3 y4 y5 y6) (shardlogref10_Cut.j1 (k + 1) y0 y1 y2 y3 y4 y5 y6))
 | 0 => ⟨fun _ _ _ _ _ _ r h => by simp [shardlogref10_Cut.l0] at h, fun _ _ _ _ _ _ _ r h => by simp [shardlogref10_Cut.j1] at h⟩
 | k + 1 => by
  obtain ⟨ih0, ih1⟩ := shardlogref10_Cut.mono_l k; refine ⟨?_, ?_⟩
  ·
   intro y0 y1 y2 y3 y4 y5
   unfold shardlogref10_Cut.l0
   repeat' first
   | (with_reducible exact ih0 _ _ _ _ _ _)
   | (with_reducible exact ih1 _ _ _ _ _ _ _)
   | (with_reducible exact shardlogref08_Put.mono _ _ _ _ _ _)
   | (with_reducible exact LeO.refl _)
   | (with_reducible exact LeO.none _)
   | (with_reducible refine LeO.ite ?_ ?_)
   | (with_reducible refine LeO.bind ?_ (fun _ => ?_))
   | exact LeO.none _
   | refine LeO.ite ?_ ?_
   | refine LeO.bind ?_ (fun _ => ?_)
  ·
   intro y0 y1 y2 y3 y4 y5 y6
   unfold shardlogref10_Cut.j1
   repeat' first
   | (with_reducible exact ih0 _ _ _ _ _ _)
   | (with_reducible exact ih1 _ _ _ _ _ _ _)
   | (with_reducible exact shardlogref08_Put.mono _ _ _ _ _ _)
   | (with_reducible exact LeO.refl _)
   | (with_reducible exact LeO.none _)
   | (with_reducible refine LeO.ite ?_ ?_)
   | (with_reducible refine LeO.bind ?_ (fun _ => ?_))
   | exact LeO.none _
   | refine LeO.ite ?_ ?_
   | refine LeO.bind ?_ (fun _ => ?_)
theorem shardlogref10_Cut.mono : ∀ a0 a1 k, LeO (shardlogref10_Cut.f k a0 a1) (shardlogref10_Cut.f (k + 1) a0 a1) := by
 intro a0 a1 k
 obtain ⟨ih0, ih1⟩ := shardlogref10_Cut.mono_l k
 unfold shardlogref10_Cut.f
 repeat' first
   | (with_reducible exact ih0 _ _ _ _ _ _)
   | (with_reducible exact ih1 _ _ _ _ _ _ _)
   | (with_reducible exact shardlogref08_Put.mono _ _ _ _ _ _)
   | (with_reducible exact LeO.refl _)
   | (with_reducible exact LeO.none _)
   | (with_reducible refine LeO.ite ?_ ?_)
   | (with_reducible refine LeO.bind ?_ (fun _ => ?_))
   | exact LeO.none _
   | refine LeO.ite ?_ ?_
   | refine LeO.bind ?_ (fun _ => ?_)
set_option maxHeartbeats 8000000 in
set_option maxRecDepth 100000 in
theorem shardlogref10_Cut.calls (k : Nat) (A0 : Option Addr) (c0 : Nat) (l0 : List (S42)) (a1 : Int) (r : List (List (S42))) (w : World) (hr0 : Kd.C k42 w A0 l0.length l0) (hc0 : l0.length ≤ c0) (h : shardlogref10_Cut.f k l0 a1 = some r) :
  Calls Try.prog 20 #[.slice A0 l0.length c0, .int .i64 a1] w fun e w' => ∃ v0_ : Value, e = .returned (v0_) ∧ Kd.S (Kd.slice 42 k42) 22 w' w.heap.size (fun _ => True) v0_ r ∧ Below w.heap.size w w' := by
 have hu42 := Try.underlying42; have HR0 := aS hr0; have HC0 := aS hc0; clear hr0 hc0; have HB := aS (Below.refl w.heap.size w); have H : (shardlogref10_Cut.l0 k l0 a1 ([] : List (List (S42))) ([] : List (S42)) 0 0) = some r := h; clear h
 have H' := aS H
 clear H
 go_enter Try.func20, Try.ntmps20
 go_wp2
 go_loopg [5, 6, 7, 8] k (fun kq v5 v6 v7 v8 w' => ∃ (x5_1 : List (List (S42))) (x6_1 : List (S42)) (x7_1 : Int) (x8_1 : Int), v7 = .int .i64 x7_1 ∧ v8 = .int .i64 x8_1 ∧ Aside0 (shardlogref10_Cut.l0 kq l0 a1 x5_1 x6_1 x7_1 x8_1 = some r) ∧ Aside0 (kq ≤ k) ∧ Aside0 (Kd.S (Kd.slice 42 k42) 22 w' w.heap.size (fun k_ => some k_ ≠ (v6 : Value).ownBlock) v5 x5_1) ∧ Aside0 (Kd.R k42 42 w' w.heap.size (fun _ => True) v6 x6_1) ∧ Aside0 (Below w.heap.size w w'))
 case atStart => exact ⟨(([] : List (List (S42)))), (([] : List (S42))), (0), (0), srf, srf, H', ⟨Nat.le_refl _⟩, ⟨by first | exact Kd.S_nil _ _ _ _ _ | exact Kd.N_nil _ _ _ _ _ | exact Kd.V_nil _ _ _ _ _ | exact Kd.Q_nil _ _ _ _ _ | exact Kd.R_nil _ _ _ _ _⟩, ⟨by first | exact Kd.R_nil _ _ _ _ _ | exact Kd.N_nil _ _ _ _ _ | exact Kd.V_nil _ _ _ _ _ | exact Kd.Q_nil _ _ _ _ _ | exact Kd.S_nil _ _ _ _ _⟩, ⟨bel⟩⟩
 case round =>
  clear H'; obtain ⟨x5_1, x6_1, x7_1, x8_1, rfl, rfl, HA, HK1, HO_5, HO_6, HB⟩ := hrel
  cases gk with
  | zero => exact absurd HA.out (by simp [shardlogref10_Cut.l0])
  | succ k1 =>
   have H := HA.out; clear HA
   simp only [shardlogref10_Cut.l0] at H
   by_cases c3 : x8_1 < (l0.length : Int)
   ·
    rw [if_pos c3] at H; have c3b0 : decide (x8_1 < (l0.length : Int)) = true := decide_eq_true c3; clear c3
    by_cases c4 : 0 ≤ x8_1
    ·
     rw [if_pos c4] at H; have c4b0 : decide (0 ≤ x8_1) = true := decide_eq_true c4; clear c4
     by_cases c5 : x6_1.length < 2199023255552
     ·
      rw [if_pos c5] at H; have LMc5 := aS c5; clear c5
      obtain ⟨y614, hy614⟩ : ∃ y_ : List (S42), y_ = (x6_1 ++ [(⟨(rd_T42 l0 x8_1).f0, (rd_T42 l0 x8_1).f1, (rd_T42 l0 x8_1).f2, (rd_T42 l0 x8_1).f3, (rd_T42 l0 x8_1).f4⟩ : S42)]) := ⟨_, rfl⟩
      replace H : ((shardlogref08_Put.f k1 ((rd_T42 l0 x8_1).f0) ((rd_T42 l0 x8_1).f1) ((rd_T42 l0 x8_1).f2) ((rd_T42 l0 x8_1).f3) ((rd_T42 l0 x8_1).f4)).bind fun t618 => (if (wrap64 (x7_1 + (t618.length : Int))) ≥ a1 then (shardlogref10_Cut.j1 k1 l0 a1 x5_1 y614 (wrap64 (x7_1 + (t618.length : Int))) x8_1 true) else (shardlogref10_Cut.j1 k1 l0 a1 x5_1 y614 (wrap64 (x7_1 + (t618.length : Int))) x8_1 ((wrap64 (x8_1 + 1)) == (l0.length : Int))))) = some r := hyr hy614 H; have Ny614 := aS hy614; clear hy614; replace H := obm H; obtain ⟨t618, A60, H⟩ := H; replace H : (if (wrap64 (x7_1 + (t618.length : Int))) ≥ a1 then (shardlogref10_Cut.j1 k1 l0 a1 x5_1 y614 (wrap64 (x7_1 + (t618.length : Int))) x8_1 true) else (shardlogref10_Cut.j1 k1 l0 a1 x5_1 y614 (wrap64 (x7_1 + (t618.length : Int))) x8_1 ((wrap64 (x8_1 + 1)) == (l0.length : Int)))) = some r := H; have A6 := aS A60; clear A60; have HC7 := aS H; clear H; have p613 : 0 ≤ (x8_1 : Int) := oda; have q613 : x8_1 < (l0.length : Int) := oda; obtain ⟨ad613, e613, hx613_0, hx613_1, hx613_2, hx613_3, hx613_4⟩ := at_T42 HR0.out x8_1 p613 q613; cases e613; replace hx613_0 := bx bel hx613_0; replace hx613_1 := bx bel hx613_1; replace hx613_2 := bx bel hx613_2; replace hx613_3 := bx bel hx613_3; replace hx613_4 := bx bel hx613_4; replace p613 := eq_true p613; replace q613 := eq_true q613
      go_upto_region 9 with (first | ((with_reducible refine gate_builtin (b := .append) (xs := #[.tmp 15, .tmp 20]) rfl ?_); (try (refine gate_guard (by rfl) ?_; dsimp only)); at_builtin; refine Kd.R_append k42 (w0 := w) w.heap.size rfl (.tmp 15) (.tmp 20) 22 42 (.agg #[(.string ⟨#[]⟩), (.string ⟨#[]⟩), (.int .i64 0), (.string ⟨#[]⟩), (.bool false)]) 64 rfl Try.underlying22 info42 rfl (by decide) (by omega) u6 x6_1 (⟨(rd_T42 l0 x8_1).f0, (rd_T42 l0 x8_1).f1, (rd_T42 l0 x8_1).f2, (rd_T42 l0 x8_1).f3, (rd_T42 l0 x8_1).f4⟩ : S42) [.string ((rd_T42 l0 x8_1).f0), .string ((rd_T42 l0 x8_1).f1), .int .i64 ((rd_T42 l0 x8_1).f2), .string ((rd_T42 l0 x8_1).f3), .bool ((rd_T42 l0 x8_1).f4)] (fun _ => True) (fun _ => False) rfl rfl ?aP (fun _ hk => hk.elim) ?aF ?aO ?aB ?aS ?aL ?_; (case aP => exact k42_mkM _ _ _ (⟨(rd_T42 l0 x8_1).f0, (rd_T42 l0 x8_1).f1, (rd_T42 l0 x8_1).f2, (rd_T42 l0 x8_1).f3, (rd_T42 l0 x8_1).f4⟩ : S42)); (case aB => exact bel); (case aF => exact (fun _ _ => trivial)); (case aO => exact (rel HO_6.out)); (case aS => exact (below_size bel)); (case aL => have := LMc5.out; omega); intro v615 w8 ho hb hg hat; rw [← Ny614.out] at ho; have n0_ := aS (Kd.S_after (ok := (fun _ => True)) (by (with_reducible repeat (first | apply Kd.S_alloc | apply Kd.S_drewN | apply Kd.S_drew)); exact Kd.S_mono HO_5.out (fun _ hk => ⟨trivial, hk⟩)) hg hat); have n1_ := aS (hb); have n2_ := aS (ho); clear HO_5; clear HB; clear HO_6; have HO_5 := n0_; have HB := n1_; have HO616 := n2_; clear n0_ n1_ n2_; clear ho hb hg hat; have p617 : 0 ≤ (x8_1 : Int) := oda; have q617 : x8_1 < (l0.length : Int) := oda; obtain ⟨ad617, e617, hx617_0, hx617_1, hx617_2, hx617_3, hx617_4⟩ := at_T42 HR0.out x8_1 p617 q617; obtain rfl : ad613 = ad617 := (by injection e617); replace hx617_0 := bx bel hx617_0; replace hx617_1 := bx bel hx617_1; replace hx617_2 := bx bel hx617_2; replace hx617_3 := bx bel hx617_3; replace hx617_4 := bx bel hx617_4; replace p617 := eq_true p617; replace q617 := eq_true q617) | ((with_reducible refine gate_callee (f := 34) rfl ?_); refine goesL_ (some 27) rfl rfl Try.func34 (by kernel_rfl) rfl #[.agg #[.string ((rd_T42 l0 x8_1).f0), .string ((rd_T42 l0 x8_1).f1), .int .i64 ((rd_T42 l0 x8_1).f2), .string ((rd_T42 l0 x8_1).f3), .bool ((rd_T42 l0 x8_1).f4)]] rfl agn ?_; (with_reducible refine (shardlogref08_Put.calls k1 ((rd_T42 l0 x8_1).f0) ((rd_T42 l0 x8_1).f1) ((rd_T42 l0 x8_1).f2) ((rd_T42 l0 x8_1).f3) ((rd_T42 l0 x8_1).f4) t618 _ A6.out).mono ?_); rintro e w9 ⟨v619, rfl, ho0, hb⟩; refine ⟨_, rfl, ?_⟩; replace HO_5 := aS (Kd.S_below (by (with_reducible repeat (first | apply Kd.S_alloc | apply Kd.S_drewN | apply Kd.S_drew)); exact HO_5.out) hb); replace HO616 := aS (Kd.R_below (rel HO616.out) hb); have HO620 := aS (Kd.R_lower ho0 (below_size bel)); replace HB := bstep hb; (try clear hb); (try clear hk); (try clear hi); (try clear ho0); obtain ⟨Ao10, co10, eo10⟩ := Kd.R_slice HO620.out; subst eo10))
      (try simp only [Act.put, lsa, lsz, lss])
      go_cut [39] (fun v39 wc => ∃ (kq : Nat) (x39_6 : Bool), v39 = .bool x39_6 ∧ Aside0 (shardlogref10_Cut.j1 kq l0 a1 x5_1 y614 (wrap64 (x7_1 + (t618.length : Int))) x8_1 x39_6 = some r) ∧ Aside0 (kq ≤ k1) ∧ Aside0 (Kd.S (Kd.slice 42 k42) 22 wc w.heap.size (fun k_ => some k_ ≠ (v615 : Value).ownBlock) u5 x5_1) ∧ Aside0 (Kd.R k42 42 wc w.heap.size (fun _ => True) v615 y614) ∧ Aside0 (Below w.heap.size w wc))
      case first =>
       have H := HC7.out; clear HC7
       by_cases c11 : (wrap64 (x7_1 + (t618.length : Int))) ≥ a1
       ·
        rw [if_pos c11] at H; have c11b0 : decide (a1 ≤ (wrap64 (x7_1 + (t618.length : Int)))) = true := decide_eq_true c11; clear c11
        (first | rw [c11b0] | (simp only [i64_w, i32_w]; rw [c11b0]) | skip)
        have H' := aS H
        clear H
        go_wp2
        go_meet
        case rel => exact ⟨_, (true), srf, H', ⟨by have := HK1.out; first | omega | exact Nat.le_refl _⟩, ⟨by (with_reducible repeat (first | apply Kd.S_alloc | apply Kd.S_drewN | apply Kd.S_drew)); exact Kd.S_mono HO_5.out (fun _ hk => hk.2)⟩, ⟨by (with_reducible repeat (first | apply Kd.R_alloc | apply Kd.R_drewN | apply Kd.R_drew)); exact HO616.out⟩, ⟨bel⟩⟩
       ·
        rw [if_neg c11] at H; have c11b0 : decide (a1 ≤ (wrap64 (x7_1 + (t618.length : Int)))) = false := decide_eq_false c11; clear c11
        (first | rw [c11b0] | (simp only [i64_w, i32_w]; rw [c11b0]) | skip)
        have H' := aS H
        clear H
        go_wp2
        go_meet
        case rel => exact ⟨_, (((wrap64 (x8_1 + 1)) == (l0.length : Int))), srf, H', ⟨by have := HK1.out; first | omega | exact Nat.le_refl _⟩, ⟨by (with_reducible repeat (first | apply Kd.S_alloc | apply Kd.S_drewN | apply Kd.S_drew)); exact Kd.S_mono HO_5.out (fun _ hk => hk.2)⟩, ⟨by (with_reducible repeat (first | apply Kd.R_alloc | apply Kd.R_drewN | apply Kd.R_drew)); exact HO616.out⟩, ⟨bel⟩⟩
      case rest =>
       clear HC7; (try clear c3); (try clear c3b0); (try clear c4); (try clear c4b0); (try clear c5); (try clear hx613_0); (try clear hx613_1); (try clear hx613_2); (try clear hx613_3); (try clear hx613_4); (try clear hx617_0); (try clear hx617_1); (try clear hx617_2); (try clear hx617_3); (try clear hx617_4); (try clear p613); (try clear p617); (try clear q613); (try clear q617); obtain ⟨kq, x39_6, rfl, HA, HJ6, HO_5, HO_6, HB⟩ := hcut
       cases kq with
       | zero => exact absurd HA.out (by simp [shardlogref10_Cut.j1])
       | succ kj6 =>
        have H := HA.out; clear HA
        simp only [shardlogref10_Cut.j1] at H
        by_cases c12 : x39_6 = true
        ·
         subst c12
         have H1 : (if x5_1.length < 5864062014805 then (shardlogref10_Cut.l0 kj6 l0 a1 (x5_1 ++ [y614]) ([] : List (S42)) 0 (wrap64 (x8_1 + 1))) else (none)) = some r := by rw [if_pos rfl] at H; exact H
         clear H; have H := H1; clear H1
         by_cases c13 : x5_1.length < 5864062014805
         ·
          rw [if_pos c13] at H; have LMc13 := aS c13; clear c13
          obtain ⟨y621, hy621⟩ : ∃ y_ : List (List (S42)), y_ = (x5_1 ++ [y614]) := ⟨_, rfl⟩
          replace H : (shardlogref10_Cut.l0 kj6 l0 a1 y621 ([] : List (S42)) 0 (wrap64 (x8_1 + 1))) = some r := hyr hy621 H; have Ny621 := aS hy621; clear hy621
          have H' := aS H
          clear H; obtain ⟨Ao15, co15, eo15⟩ := Kd.R_slice HO_6.out; subst eo15
          go_wp2_with (first | ((with_reducible refine gate_builtin (b := .append) (xs := #[.tmp 40, .tmp 42]) rfl ?_); (try (refine gate_guard (by rfl) ?_; dsimp only)); at_builtin; refine Kd.S_append (Kd.slice 42 k42) (w0 := w) w.heap.size rfl (.tmp 40) (.tmp 42) 39 22 (.slice none 0 0) 24 rfl Try.underlying39 info22 rfl (by decide) (by omega) u5 x5_1 y614 [.slice Ao15 y614.length co15] (fun _ => True) (fun k_ => some k_ = (.slice Ao15 y614.length co15 : Value).ownBlock) rfl rfl ?aP (fun k_ hk_ => ((Kd.R_mono (ok' := fun k_ => ((fun _ => True)) k_ ∧ some k_ ≠ (u5 : Value).ownBlock) (Kd.R_apart' (HO_6.out) (Kd.S_typed HO_5.out) (by decide)) (fun k_ hk => ⟨trivial, hk.2⟩))).1 k_ hk_.symm) ?aF ?aO ?aB ?aS ?aL ?_; (case aP => exact Kd.M_row (Kd.R_mono (Kd.R_tight rfl (Kd.R_mono (ok' := fun k_ => ((fun _ => True)) k_ ∧ some k_ ≠ (u5 : Value).ownBlock) (Kd.R_apart' (HO_6.out) (Kd.S_typed HO_5.out) (by decide)) (fun k_ hk => ⟨trivial, hk.2⟩))) (fun _ h_ => h_))); (case aB => exact bel); (case aF => exact (fun _ _ => trivial)); (case aO => exact (by (with_reducible repeat (first | apply Kd.S_alloc | apply Kd.S_drewN | apply Kd.S_drew)); exact Kd.S_mono HO_5.out (fun k_ hk => ⟨trivial, fun e_ => hk e_⟩))); (case aS => exact (below_size bel)); (case aL => have := LMc13.out; omega); intro v622 w14 ho hb hg hat; rw [← Ny621.out] at ho; have n0_ := aS (hb); have n1_ := aS (ho); clear HB; clear HO_5; clear HO_6; have HB := n0_; have HO623 := n1_; clear n0_ n1_; clear ho hb hg hat))
          go_roundg kj6
          case measure => have := HK1.out; have := HJ6.out; omega
          case rel => exact ⟨(y621), (([] : List (S42))), (0), (wrap64 (x8_1 + 1)), srf, srf, H', ⟨by have := HK1.out; have := HJ6.out; omega⟩, ⟨by (with_reducible repeat (first | apply Kd.S_alloc | apply Kd.S_drewN | apply Kd.S_drew)); exact Kd.S_mono HO623.out (fun _ hk => (by simp [Value.ownBlock]))⟩, ⟨by first | exact Kd.R_nil _ _ _ _ _ | exact Kd.N_nil _ _ _ _ _ | exact Kd.V_nil _ _ _ _ _ | exact Kd.Q_nil _ _ _ _ _ | exact Kd.S_nil _ _ _ _ _⟩, ⟨bel⟩⟩
         ·
          rw [if_neg c13] at H; exact absurd H (by simp)
        ·
         replace c12 := Bool.eq_false_iff.mpr c12; subst c12
         have H1 : (shardlogref10_Cut.l0 kj6 l0 a1 x5_1 y614 (wrap64 (x7_1 + (t618.length : Int))) (wrap64 (x8_1 + 1))) = some r := by rw [if_neg (show ¬ (false = true) by decide)] at H; exact H
         clear H; have H := H1; clear H1
         have H' := aS H
         clear H
         go_wp2
         go_roundg kj6
         case measure => have := HK1.out; have := HJ6.out; omega
         case rel => exact ⟨(x5_1), (y614), ((wrap64 (x7_1 + (t618.length : Int)))), (wrap64 (x8_1 + 1)), srf, srf, H', ⟨by have := HK1.out; have := HJ6.out; omega⟩, ⟨by (with_reducible repeat (first | apply Kd.S_alloc | apply Kd.S_drewN | apply Kd.S_drew)); exact HO_5.out⟩, ⟨by (with_reducible repeat (first | apply Kd.R_alloc | apply Kd.R_drewN | apply Kd.R_drew)); exact HO_6.out⟩, ⟨bel⟩⟩
     ·
      rw [if_neg c5] at H; exact absurd H (by simp)
    ·
     rw [if_neg c4] at H; exact absurd H (by simp)
   ·
    rw [if_neg c3] at H; have c3b0 : decide (x8_1 < (l0.length : Int)) = false := decide_eq_false c3; clear c3
    obtain rfl := Option.some.inj H
    go_wp2
    go_ret
    exact ⟨_, rf3, by (with_reducible repeat (first | apply Kd.S_alloc | apply Kd.S_drewN | apply Kd.S_drew)); exact Kd.S_mono HO_5.out (fun _ hk => trivial), bel⟩

/-! ### shardlogref12_Key: function 24 -/
def shardlogref12_Key.f (a0 : ByteArray) (a1 : ByteArray) : Option (ByteArray) := (shardlogref01_Text.f a0).bind fun t624 => ((shardlogref01_Text.f a1).bind fun t627 => (if (strOfNums t624).size + (strOfNums t627).size ≤ 9223372036854775807 then (some ((strOfNums t624) ++ (strOfNums t627))) else (none)))
def shardlogref12_Key.T1 : Bool × List (List Nat × List Nat) := (true, [([], []), ([0], [0]), ([1], [1]), ([], []), ([3, 1], [3]), ([4], [4]), ([2, 5], [2, 5]), ([6, 4, 0, 1, 2, 3, 4, 5, 6], [6])])
def shardlogref12_Key.B1 : List Nat := [0, 1, 3, 0, 11, 27, 63, 127]
theorem shardlogref12_Key.tab1 : rtab .any (opsOf Try.f24 1) = shardlogref12_Key.T1 := by kernel_rfl
theorem shardlogref12_Key.bits1 : waitsOk shardlogref12_Key.T1.2 shardlogref12_Key.B1 = true := by kernel_rfl
set_option maxHeartbeats 8000000 in
set_option maxRecDepth 100000 in
theorem shardlogref12_Key.calls (a0 : ByteArray) (a1 : ByteArray) (r : ByteArray) (w : World) (h : shardlogref12_Key.f a0 a1 = some r) :
  Calls Try.prog 24 #[.string a0, .string a1] w fun e w' => e = .returned (.string r) ∧ Below w.heap.size w w' := by
 have HB := aS (Below.refl w.heap.size w); have H : ((shardlogref01_Text.f a0).bind fun t624 => ((shardlogref01_Text.f a1).bind fun t627 => (if (strOfNums t624).size + (strOfNums t627).size ≤ 9223372036854775807 then (some ((strOfNums t624) ++ (strOfNums t627))) else (none)))) = some r := h; clear h; replace H := obm H; obtain ⟨t624, A30, H⟩ := H; replace H : ((shardlogref01_Text.f a1).bind fun t627 => (if (strOfNums t624).size + (strOfNums t627).size ≤ 9223372036854775807 then (some ((strOfNums t624) ++ (strOfNums t627))) else (none))) = some r := H; have A3 := aS A30; clear A30; replace H := obm H; obtain ⟨t627, A40, H⟩ := H; replace H : (if (strOfNums t624).size + (strOfNums t627).size ≤ 9223372036854775807 then (some ((strOfNums t624) ++ (strOfNums t627))) else (none)) = some r := H; have A4 := aS A40; clear A40
 by_cases c5 : (strOfNums t624).size + (strOfNums t627).size ≤ 9223372036854775807
 ·
  rw [if_pos c5] at H; have c5b0 := eq_true c5; have c5b1 : decide ((strOfNums t624).size + (strOfNums t627).size ≤ 9223372036854775807) = true := decide_eq_true c5
  try have c5b2 : (9223372036854775807 < (strOfNums t624).size + (strOfNums t627).size) = False := eq_false (Nat.not_lt.2 c5)
  obtain rfl := Option.some.inj H
  go_enter Try.func24, Try.ntmps24
  try go_wp2
  replace HB := aS (bdo HB.out); refine start_ (n := 8) (S := fun w' => True) (ds := []) (bA 8 0) (by kernel_rfl) rfl rfl trivial (fun hHeld => ?_); refine with_tabW shardlogref12_Key.tab1 shardlogref12_Key.bits1 (fun HT_ HW_ => ?_)
  generalize w.drew = w6 at HB hHeld ⊢
  refine along_ [(0, 5), (3, 8)] ?_
  iterate 2 (refine pure3 HT_ ?_)
  refine lay_ (bA 8 9) (by kernel_rfl) ?_; refine one3 1 (N := some 6) (bA 8 11) HT_ (fun K hK => ?_); refine goes_ Try.func37 (by kernel_rfl) rfl #[.string a0] (by rfl) rfl rfl agn ?_
  with_reducible refine (shardlogref01_Text.calls a0 t624 _ A3.out).mono ?_
  rintro e w7 ⟨v625, rfl, ho0, hb⟩
  refine ⟨_, rfl, ?_⟩; have HO626 := aS (Kd.R_lower ho0 (below_size bel)); replace HB := bstep hb; (try clear hb); (try clear hk); (try clear hi); (try clear ho0); refine hK.out _ _ trivial (fun hHeld => ?_); clear hK K; refine nm 6 ?_; refine join_ (σ := Value) 2 (bA 8 63) (fun s_ => [(7, .string (strOfNums t624)), (9, s_), (10, .string (strOfNums t627))]) (fun s_ w' => (Kd.R (Kd.int .u8) 5 w' w.heap.size (fun k_ => some k_ ≠ (s_ : Value).ownBlock) v625 t624) ∧ (Kd.R (Kd.int .u8) 5 w' w.heap.size (fun k_ => some k_ ≠ (v625 : Value).ownBlock) s_ t627) ∧ (Below w.heap.size w w')) ?_ ?_
  rotate_left
  ·
   intro hCont
   refine two_ (i := 2) (j := 4) (Ni := some 7) (Nj := some 9) (bA 8 15) (bA 8 27) rfl rfl rfl rfl (two_of HT_.out (by kernel_rfl)) (by decide) (by decide) (fun K hK => ?_) (fun K hK => ?_)
   ·
    skip
    have hcv8 := own_string (P := Try.prog) Try.underlying26 Try.underlying5 Try.underlying9 (Kd.own_of_R HO626.out); refine value_ (w1 := ?_) (v := ?_) (by rfl) rfl ?_ ?_
    rotate_left 2
    ·
     go_simp
     constructor
     ·
      rfl
     ·
      rfl
    clear hcv8; refine hK.out _ _ trivial (fun hHeld => ?_); clear hK K; refine nm 7 ?_; refine one3 4 (N := some 9) (bA 8 31) HT_ (fun K hK => ?_); refine goes_ Try.func37 (by kernel_rfl) rfl #[.string a1] (by rfl) rfl rfl agn ?_
    with_reducible refine (shardlogref01_Text.calls a1 t627 _ A4.out).mono ?_
    rintro e w9 ⟨v628, rfl, ho0, hb⟩
    refine ⟨_, rfl, ?_⟩; have HO629 := aS (Kd.R_lower (Kd.R_new' ho0 (Kd.R_lt (rel HO626.out))) (below_size bel)); replace HO626 := aS (Kd.R_elder' (rel HO626.out) (ebs ho0) hb); replace HB := bstep hb; (try clear hb); (try clear hk); (try clear hi); (try clear ho0); refine hK.out _ _ trivial (fun hHeld => ?_); clear hK K; refine nm 9 ?_; refine one3 5 (N := some 10) (bA 8 63) HT_ (fun K hK => ?_); have hcv10 := own_string (P := Try.prog) Try.underlying26 Try.underlying5 Try.underlying9 (Kd.own_of_R HO629.out); refine value_ (w1 := ?_) (v := ?_) (by rfl) rfl ?_ ?_
    rotate_left 2
    ·
     go_simp
     constructor
     ·
      rfl
     ·
      rfl
    clear hcv10; refine hK.out _ _ trivial (fun hHeld => ?_); clear hK K; refine nm 10 ?_; exact norm_ (by simp only [putAll, Act.put, lsa, lsz, lss]) (hCont (v628) _ ⟨(rel (Kd.R_mono HO626.out (fun _ hk => hk.2))), (rel (Kd.R_mono HO629.out (fun _ hk => hk.2))), bel⟩)
   ·
    skip
    refine goes_ Try.func37 (by kernel_rfl) rfl #[.string a1] (by rfl) rfl rfl agn ?_
    with_reducible refine (shardlogref01_Text.calls a1 t627 _ A4.out).mono ?_
    rintro e w8 ⟨v628, rfl, ho0, hb⟩
    refine ⟨_, rfl, ?_⟩; have HO629 := aS (Kd.R_lower (Kd.R_new' ho0 (Kd.R_lt (rel HO626.out))) (below_size bel)); replace HO626 := aS (Kd.R_elder' (rel HO626.out) (ebs ho0) hb); replace HB := bstep hb; (try clear hb); (try clear hk); (try clear hi); (try clear ho0); refine hK.out _ _ trivial (fun hHeld => ?_); clear hK K; refine nm 9 ?_; refine two_ (i := 2) (j := 5) (Ni := some 7) (Nj := some 10) (bA 8 31) (bA 8 59) rfl rfl rfl rfl (two_of HT_.out (by kernel_rfl)) (by decide) (by decide) (fun K hK => ?_) (fun K hK => ?_)
    ·
     skip
     have hcv9 := own_string (P := Try.prog) Try.underlying26 Try.underlying5 Try.underlying9 (Kd.own_of_R HO626.out); refine value_ (w1 := ?_) (v := ?_) (by rfl) rfl ?_ ?_
     rotate_left 2
     ·
      go_simp
      constructor
      ·
       rfl
      ·
       rfl
     clear hcv9; refine hK.out _ _ trivial (fun hHeld => ?_); clear hK K; refine nm 7 ?_; refine one3 5 (N := some 10) (bA 8 63) HT_ (fun K hK => ?_); have hcv10 := own_string (P := Try.prog) Try.underlying26 Try.underlying5 Try.underlying9 (Kd.own_of_R HO629.out); refine value_ (w1 := ?_) (v := ?_) (by rfl) rfl ?_ ?_
     rotate_left 2
     ·
      go_simp
      constructor
      ·
       rfl
      ·
       rfl
     clear hcv10; refine hK.out _ _ trivial (fun hHeld => ?_); clear hK K; refine nm 10 ?_; exact norm_ (by simp only [putAll, Act.put, lsa, lsz, lss]) (hCont (v628) _ ⟨(rel (Kd.R_mono HO626.out (fun _ hk => hk.2))), (rel (Kd.R_mono HO629.out (fun _ hk => hk.2))), bel⟩)
    ·
     skip
     have hcv9 := own_string (P := Try.prog) Try.underlying26 Try.underlying5 Try.underlying9 (Kd.own_of_R HO629.out); refine value_ (w1 := ?_) (v := ?_) (by rfl) rfl ?_ ?_
     rotate_left 2
     ·
      go_simp
      constructor
      ·
       rfl
      ·
       rfl
     clear hcv9; refine hK.out _ _ trivial (fun hHeld => ?_); clear hK K; refine nm 10 ?_; refine one3 2 (N := some 7) (bA 8 63) HT_ (fun K hK => ?_); have hcv10 := own_string (P := Try.prog) Try.underlying26 Try.underlying5 Try.underlying9 (Kd.own_of_R HO626.out); refine value_ (w1 := ?_) (v := ?_) (by rfl) rfl ?_ ?_
     rotate_left 2
     ·
      go_simp
      constructor
      ·
       rfl
      ·
       rfl
     clear hcv10; refine hK.out _ _ trivial (fun hHeld => ?_); clear hK K; refine nm 7 ?_; exact norm_ (by simp only [putAll, Act.put, lsa, lsz, lss]) (hCont (v628) _ ⟨(rel (Kd.R_mono HO626.out (fun _ hk => hk.2))), (rel (Kd.R_mono HO629.out (fun _ hk => hk.2))), bel⟩)
  rintro v628 w11 ⟨h0_, h1_, h2_⟩
  have n0_ : Aside0 (Kd.R (Kd.int .u8) 5 w11 w.heap.size (fun k_ => some k_ ≠ (v628 : Value).ownBlock) v625 t624) := ⟨h0_⟩; have n1_ : Aside0 (Kd.R (Kd.int .u8) 5 w11 w.heap.size (fun k_ => some k_ ≠ (v625 : Value).ownBlock) v628 t627) := ⟨h1_⟩; have n2_ : Aside0 (Below w.heap.size w w11) := ⟨h2_⟩; clear HB; clear h0_ h1_ h2_; have HO626 := n0_; have HO629 := n1_; have HB := n2_; clear n0_ n1_ n2_; have hHeld := trivial; refine norm_ (a' := ?_) ?_ ?_
  rotate_left
  ·
   simp only [putAll, Act.put, lsa, lsz, lss]
   rfl
  refine along_ [(6, 11), (7, 4)] ?_
  iterate 2 (refine pure3 HT_ ?_)
  refine lay_ (bA 8 255) (by kernel_rfl) ?_; refine done_ (done_of HT_.out (by kernel_rfl)) ?_
  try go_wp2
  go_ret
  exact ⟨rf3, bel⟩
 ·
  rw [if_neg c5] at H; exact absurd H (by simp)

/-! ### shardlogref02_Sum: function 57 -/
mutual
def shardlogref02_Sum.l0 : Nat → List Int → Int → Int → Option (Int)
 | 0, _, _, _ => none
 | k + 1, x0, x3, x4 => if x4 < (x0.length : Int) then (if 0 ≤ x4 then (shardlogref02_Sum.l1 k x0 (Go.bits .xor .u32 x3 ((rd x0 x4) % 4294967296)) x4 0) else (none)) else (some ((4294967295 - x3) % 4294967296))
def shardlogref02_Sum.l1 : Nat → List Int → Int → Int → Int → Option (Int)
 | 0, _, _, _, _ => none
 | k + 1, x0, x3, x4, x5 => if x5 < 8 then (if (Int.tmod x3 2) = 1 then (shardlogref02_Sum.l1 k x0 (Go.bits .xor .u32 ((Int.tdiv x3 2) % 4294967296) 2197175160) x4 (wrap64 (x5 + 1))) else (shardlogref02_Sum.l1 k x0 ((Int.tdiv x3 2) % 4294967296) x4 (wrap64 (x5 + 1)))) else (shardlogref02_Sum.l0 k x0 x3 (wrap64 (x4 + 1)))
end
def shardlogref02_Sum.f (k : Nat) (l0 : List Int) : Option (Int) := shardlogref02_Sum.l0 k l0 4294967295 0
theorem shardlogref02_Sum.mono_l : ∀ k, (∀ y0 y1 y2, LeO (shardlogref02_Sum.l0 k y0 y1 y2) (shardlogref02_Sum.l0 (k + 1) y0 y1 y2)) ∧ (∀ y0 y1 y2 y3, LeO (shardlogref02_Sum.l1 k y0 y1 y2 y3) (shardlogref02_Sum.l1 (k + 1) y0 y1 y2 y3))
 | 0 => ⟨fun _ _ _ r h => by simp [shardlogref02_Sum.l0] at h, fun _ _ _ _ r h => by simp [shardlogref02_Sum.l1] at h⟩
 | k + 1 => by
  obtain ⟨ih0, ih1⟩ := shardlogref02_Sum.mono_l k; refine ⟨?_, ?_⟩
  ·
   intro y0 y1 y2
   unfold shardlogref02_Sum.l0
   repeat' first
   | (with_reducible exact ih0 _ _ _)
   | (with_reducible exact ih1 _ _ _ _)
   | (with_reducible exact LeO.refl _)
   | (with_reducible exact LeO.none _)
   | (with_reducible refine LeO.ite ?_ ?_)
   | (with_reducible refine LeO.bind ?_ (fun _ => ?_))
   | exact LeO.none _
   | refine LeO.ite ?_ ?_
   | refine LeO.bind ?_ (fun _ => ?_)
  ·
   intro y0 y1 y2 y3
   unfold shardlogref02_Sum.l1
   repeat' first
   | (with_reducible exact ih0 _ _ _)
   | (with_reducible exact ih1 _ _ _ _)
   | (with_reducible exact LeO.refl _)
   | (with_reducible exact LeO.none _)
   | (with_reducible refine LeO.ite ?_ ?_)
   | (with_reducible refine LeO.bind ?_ (fun _ => ?_))
   | exact LeO.none _
   | refine LeO.ite ?_ ?_
   | refine LeO.bind ?_ (fun _ => ?_)
theorem shardlogref02_Sum.mono : ∀ a0 k, LeO (shardlogref02_Sum.f k a0) (shardlogref02_Sum.f (k + 1) a0) := by
 intro a0 k
 obtain ⟨ih0, ih1⟩ := shardlogref02_Sum.mono_l k
 unfold shardlogref02_Sum.f
 repeat' first
   | (with_reducible exact ih0 _ _ _)
   | (with_reducible exact ih1 _ _ _ _)
   | (with_reducible exact LeO.refl _)
   | (with_reducible exact LeO.none _)
   | (with_reducible refine LeO.ite ?_ ?_)
   | (with_reducible refine LeO.bind ?_ (fun _ => ?_))
   | exact LeO.none _
   | refine LeO.ite ?_ ?_
   | refine LeO.bind ?_ (fun _ => ?_)
set_option maxHeartbeats 8000000 in
set_option maxRecDepth 100000 in
theorem shardlogref02_Sum.calls (k : Nat) (A0 : Option Addr) (c0 : Nat) (l0 : List Int) (r : Int) (w : World) (hr0 : Kd.C (Kd.int .u8) w A0 l0.length l0) (hc0 : l0.length ≤ c0) (h : shardlogref02_Sum.f k l0 = some r) :
  Calls Try.prog 57 #[.slice A0 l0.length c0] w fun e w' => e = .returned (.int .u32 r) ∧ Drawn0 w w' := by
 have HR0 := aS hr0; have HC0 := aS hc0; clear hr0 hc0; have H : (shardlogref02_Sum.l0 k l0 4294967295 0) = some r := h; clear h
 have H' := aS H
 clear H
 go_enter Try.func57, Try.ntmps57
 go_wp2
 go_loopg [3, 4] k (fun kq v3 v4 w' => ∃ (x3_1 : Int) (x4_1 : Int), v3 = .int .u32 x3_1 ∧ v4 = .int .i64 x4_1 ∧ Aside0 (shardlogref02_Sum.l0 kq l0 x3_1 x4_1 = some r) ∧ Aside0 (kq ≤ k) ∧ Drawn0 w w')
 case atStart => exact ⟨(4294967295), (0), srf, srf, H', ⟨Nat.le_refl _⟩, by repeat (first | exact Drawn0.refl _ | apply Drawn0.step)⟩
 case round =>
  clear H'; obtain ⟨x3_1, x4_1, rfl, rfl, HA, HK1, ⟨m1, rfl⟩⟩ := hrel
  cases gk with
  | zero => exact absurd HA.out (by simp [shardlogref02_Sum.l0])
  | succ k1 =>
   have H := HA.out; clear HA
   simp only [shardlogref02_Sum.l0] at H
   by_cases c2 : x4_1 < (l0.length : Int)
   ·
    rw [if_pos c2] at H; have c2b0 : decide (x4_1 < (l0.length : Int)) = true := decide_eq_true c2; clear c2
    by_cases c3 : 0 ≤ x4_1
    ·
     rw [if_pos c3] at H; have c3b0 : decide (0 ≤ x4_1) = true := decide_eq_true c3; clear c3
     have H' := aS H
     clear H; have p630 : 0 ≤ (x4_1 : Int) := oda; have q630 : x4_1 < (l0.length : Int) := oda; obtain ⟨ad630, e630, hx630_0⟩ := Kd.at_int HR0.out x4_1 p630 q630; cases e630; replace p630 := eq_true p630; replace q630 := eq_true q630
     go_wp2
     go_loopg [3, 5] k1 (fun kq v3 v5 w' => ∃ (x3_2 : Int) (x5_2 : Int), v3 = .int .u32 x3_2 ∧ v5 = .int .i64 x5_2 ∧ Aside0 (shardlogref02_Sum.l1 kq l0 x3_2 x4_1 x5_2 = some r) ∧ Aside0 (kq ≤ k1) ∧ Drawn0 w w')
     case atStart => exact ⟨(Go.bits .xor .u32 x3_1 ((rd l0 x4_1) % 4294967296)), (0), srf, srf, H', ⟨Nat.le_refl _⟩, by repeat (first | exact Drawn0.refl _ | apply Drawn0.step)⟩
     case round =>
      clear H'; (try clear c2); (try clear c2b0); (try clear c3); (try clear c3b0); (try clear hx630_0); (try clear p630); (try clear q630); obtain ⟨x3_2, x5_2, rfl, rfl, HA, HK2, ⟨m2, rfl⟩⟩ := hrel
      cases gk with
      | zero => exact absurd HA.out (by simp [shardlogref02_Sum.l1])
      | succ k2 =>
       have H := HA.out; clear HA
       simp only [shardlogref02_Sum.l1] at H
       by_cases c4 : x5_2 < 8
       ·
        rw [if_pos c4] at H; have c4b0 : decide (x5_2 < 8) = true := decide_eq_true c4; clear c4
        by_cases c5 : (Int.tmod x3_2 2) = 1
        ·
         rw [if_pos c5] at H; obtain ⟨c5b0, c5b1⟩ := eqT c5; clear c5
         have H' := aS H
         clear H
         go_wp2
         go_roundg k2
         case measure => have := HK1.out; have := HK2.out; omega
         case rel => exact ⟨(Go.bits .xor .u32 ((Int.tdiv x3_2 2) % 4294967296) 2197175160), (wrap64 (x5_2 + 1)), srf, srf, H', ⟨by have := HK1.out; have := HK2.out; omega⟩, by repeat (first | exact Drawn0.refl _ | apply Drawn0.step)⟩
        ·
         rw [if_neg c5] at H; obtain ⟨c5b0, c5b1⟩ := eqF c5
         have H' := aS H
         clear H
         go_wp2
         go_roundg k2
         case measure => have := HK1.out; have := HK2.out; omega
         case rel => exact ⟨((Int.tdiv x3_2 2) % 4294967296), (wrap64 (x5_2 + 1)), srf, srf, H', ⟨by have := HK1.out; have := HK2.out; omega⟩, by repeat (first | exact Drawn0.refl _ | apply Drawn0.step)⟩
       ·
        rw [if_neg c4] at H; have c4b0 : decide (x5_2 < 8) = false := decide_eq_false c4; clear c4
        have H' := aS H
        clear H
        go_wp2
        go_roundg k2
        case measure => have := HK1.out; have := HK2.out; omega
        case rel => exact ⟨(x3_2), (wrap64 (x4_1 + 1)), srf, srf, H', ⟨by have := HK1.out; have := HK2.out; omega⟩, by repeat (first | exact Drawn0.refl _ | apply Drawn0.step)⟩
    ·
     rw [if_neg c3] at H; exact absurd H (by simp)
   ·
    rw [if_neg c2] at H; have c2b0 : decide (x4_1 < (l0.length : Int)) = false := decide_eq_false c2; clear c2
    obtain rfl := Option.some.inj H
    go_wp2
    go_ret
    exact ⟨by first | rfl | (simp; done) | (simp [*]; done) | (simp; exact (by decide : ∀ a_ b_ : Bool, (a_ == b_) = (!a_ != b_)) _ _), by repeat (first | exact Drawn0.refl _ | apply Drawn0.step)⟩

/-! ### shardlogref11_Bits: function 50 -/
def shardlogref11_Bits.f (k : Nat) (a0 : ByteArray) (a1 : Int) : Option (List Int) := if a0.size ≤ 9223372036854775807 then ((shardlogref02_Sum.f k (bytesOf a0)).bind fun t634 => ((some (([1] : List Int) : List Int)).bind fun y635 => ((some (bytesOf a0 : List Int)).bind fun y638 => (if y635.length + y638.length < 140737488355328 then ((shardlogref02_Sum.f k (y635 ++ y638)).bind fun t644 => (if a1 = 0 then (none) else (some (([Int.tmod (wrap64 (t634)) a1, Int.tmod (Int.tmod (wrap64 ((wrap64 (t634)) + (wrap64 (t644)))) 4294967296) a1, Int.tmod (Int.tmod (wrap64 ((wrap64 (t634)) + (wrap64 (2 * (wrap64 (t644)))))) 4294967296) a1] : List Int))))) else (none))))) else (none)
theorem shardlogref11_Bits.mono : ∀ a0 a1 k, LeO (shardlogref11_Bits.f k a0 a1) (shardlogref11_Bits.f (k + 1) a0 a1) := by
 intro a0 a1 k
 unfold shardlogref11_Bits.f
 repeat' first
   | (with_reducible exact shardlogref02_Sum.mono _ _)
   | (with_reducible exact LeO.refl _)
   | (with_reducible exact LeO.none _)
   | (with_reducible refine LeO.ite ?_ ?_)
   | (with_reducible refine LeO.bind ?_ (fun _ => ?_))
   | exact LeO.none _
   | refine LeO.ite ?_ ?_
   | refine LeO.bind ?_ (fun _ => ?_)
def shardlogref11_Bits.T3 : Bool × List (List Nat × List Nat) := (true, [([], []), ([], []), ([0, 1], [0, 1]), ([], []), ([], []), ([3, 4], [3, 4]), ([5], [5]), ([], []), ([6, 7], [6, 7]), ([], []), ([], []), ([10], [10]), ([9, 11], [9, 11]), ([12], [12]), ([], []), ([13, 14], [13, 14]), ([2, 8, 15], [2, 8, 15]), ([16, 0, 1, 2, 3, 4, 5, 6, 7, 8, 9, 10, 11, 12, 13, 14, 15, 16], [16])])
def shardlogref11_Bits.B3 : List Nat := [0, 0, 3, 0, 0, 24, 56, 0, 248, 0, 0, 1024, 3584, 7680, 0, 32256, 65535, 131071]
theorem shardlogref11_Bits.tab3 : rtab .any (opsOf Try.f50 3) = shardlogref11_Bits.T3 := by kernel_rfl
theorem shardlogref11_Bits.bits3 : waitsOk shardlogref11_Bits.T3.2 shardlogref11_Bits.B3 = true := by kernel_rfl
set_option maxHeartbeats 8000000 in
set_option maxRecDepth 100000 in
theorem shardlogref11_Bits.calls (k : Nat) (a0 : ByteArray) (a1 : Int) (r : List Int) (w : World) (h : shardlogref11_Bits.f k a0 a1 = some r) :
  Calls Try.prog 50 #[.string a0, .int .i64 a1] w fun e w' => ∃ v0_ : Value, e = .returned (v0_) ∧ Kd.R (Kd.int .i64) 3 w' w.heap.size (fun _ => True) v0_ r ∧ Below w.heap.size w w' := by
 have HB := aS (Below.refl w.heap.size w); have H : (if a0.size ≤ 9223372036854775807 then ((shardlogref02_Sum.f k (bytesOf a0)).bind fun t634 => ((some (([1] : List Int) : List Int)).bind fun y635 => ((some (bytesOf a0 : List Int)).bind fun y638 => (if y635.length + y638.length < 140737488355328 then ((shardlogref02_Sum.f k (y635 ++ y638)).bind fun t644 => (if a1 = 0 then (none) else (some (([Int.tmod (wrap64 (t634)) a1, Int.tmod (Int.tmod (wrap64 ((wrap64 (t634)) + (wrap64 (t644)))) 4294967296) a1, Int.tmod (Int.tmod (wrap64 ((wrap64 (t634)) + (wrap64 (2 * (wrap64 (t644)))))) 4294967296) a1] : List Int))))) else (none))))) else (none)) = some r := h; clear h
 by_cases c3 : a0.size ≤ 9223372036854775807
 ·
  rw [if_pos c3] at H; have c3b0 := eq_true c3; have c3b1 : decide (a0.size ≤ 9223372036854775807) = true := decide_eq_true c3
  try have c3b2 : (9223372036854775807 < a0.size) = False := eq_false (Nat.not_lt.2 c3)
  clear c3
  obtain ⟨y631, hy631⟩ : ∃ y_ : List Int, y_ = (bytesOf a0) := ⟨_, rfl⟩
  replace H : ((shardlogref02_Sum.f k y631).bind fun t634 => ((some (([1] : List Int) : List Int)).bind fun y635 => ((some (bytesOf a0 : List Int)).bind fun y638 => (if y635.length + y638.length < 140737488355328 then ((shardlogref02_Sum.f k (y635 ++ y638)).bind fun t644 => (if a1 = 0 then (none) else (some (([Int.tmod (wrap64 (t634)) a1, Int.tmod (Int.tmod (wrap64 ((wrap64 (t634)) + (wrap64 (t644)))) 4294967296) a1, Int.tmod (Int.tmod (wrap64 ((wrap64 (t634)) + (wrap64 (2 * (wrap64 (t644)))))) 4294967296) a1] : List Int))))) else (none))))) = some r := hyr hy631 H; have Ny631 := aS hy631; clear hy631; replace H := obm H; obtain ⟨t634, A40, H⟩ := H; replace H : ((some (([1] : List Int) : List Int)).bind fun y635 => ((some (bytesOf a0 : List Int)).bind fun y638 => (if y635.length + y638.length < 140737488355328 then ((shardlogref02_Sum.f k (y635 ++ y638)).bind fun t644 => (if a1 = 0 then (none) else (some (([Int.tmod (wrap64 (t634)) a1, Int.tmod (Int.tmod (wrap64 ((wrap64 (t634)) + (wrap64 (t644)))) 4294967296) a1, Int.tmod (Int.tmod (wrap64 ((wrap64 (t634)) + (wrap64 (2 * (wrap64 (t644)))))) 4294967296) a1] : List Int))))) else (none)))) = some r := H; have A4 := aS A40; clear A40
  obtain ⟨y635, hy635⟩ : ∃ y_ : List Int, y_ = (([1] : List Int)) := ⟨_, rfl⟩
  replace H : ((some (bytesOf a0 : List Int)).bind fun y638 => (if y635.length + y638.length < 140737488355328 then ((shardlogref02_Sum.f k (y635 ++ y638)).bind fun t644 => (if a1 = 0 then (none) else (some (([Int.tmod (wrap64 (t634)) a1, Int.tmod (Int.tmod (wrap64 ((wrap64 (t634)) + (wrap64 (t644)))) 4294967296) a1, Int.tmod (Int.tmod (wrap64 ((wrap64 (t634)) + (wrap64 (2 * (wrap64 (t644)))))) 4294967296) a1] : List Int))))) else (none))) = some r := hyr hy635 H; have Ny635 := aS hy635; clear hy635
  obtain ⟨y638, hy638⟩ : ∃ y_ : List Int, y_ = (bytesOf a0) := ⟨_, rfl⟩
  replace H : (if y635.length + y638.length < 140737488355328 then ((shardlogref02_Sum.f k (y635 ++ y638)).bind fun t644 => (if a1 = 0 then (none) else (some (([Int.tmod (wrap64 (t634)) a1, Int.tmod (Int.tmod (wrap64 ((wrap64 (t634)) + (wrap64 (t644)))) 4294967296) a1, Int.tmod (Int.tmod (wrap64 ((wrap64 (t634)) + (wrap64 (2 * (wrap64 (t644)))))) 4294967296) a1] : List Int))))) else (none)) = some r := hyr hy638 H; have Ny638 := aS hy638; clear hy638
  by_cases c5 : y635.length + y638.length < 140737488355328
  ·
   rw [if_pos c5] at H; have LMc5 := aS c5; clear c5
   obtain ⟨y641, hy641⟩ : ∃ y_ : List Int, y_ = (y635 ++ y638) := ⟨_, rfl⟩
   replace H : ((shardlogref02_Sum.f k y641).bind fun t644 => (if a1 = 0 then (none) else (some (([Int.tmod (wrap64 (t634)) a1, Int.tmod (Int.tmod (wrap64 ((wrap64 (t634)) + (wrap64 (t644)))) 4294967296) a1, Int.tmod (Int.tmod (wrap64 ((wrap64 (t634)) + (wrap64 (2 * (wrap64 (t644)))))) 4294967296) a1] : List Int))))) = some r := hyr hy641 H; have Ny641 := aS hy641; clear hy641; replace H := obm H; obtain ⟨t644, A60, H⟩ := H; replace H : (if a1 = 0 then (none) else (some (([Int.tmod (wrap64 (t634)) a1, Int.tmod (Int.tmod (wrap64 ((wrap64 (t634)) + (wrap64 (t644)))) 4294967296) a1, Int.tmod (Int.tmod (wrap64 ((wrap64 (t634)) + (wrap64 (2 * (wrap64 (t644)))))) 4294967296) a1] : List Int)))) = some r := H; have A6 := aS A60; clear A60
   by_cases c7 : a1 = 0
   ·
    rw [if_pos c7] at H; exact absurd H (by simp)
   ·
    rw [if_neg c7] at H; obtain ⟨c7b0, c7b1⟩ := eqF c7
    obtain ⟨y645, hy645⟩ : ∃ y_ : List Int, y_ = (([Int.tmod (wrap64 (t634)) a1, Int.tmod (Int.tmod (wrap64 ((wrap64 (t634)) + (wrap64 (t644)))) 4294967296) a1, Int.tmod (Int.tmod (wrap64 ((wrap64 (t634)) + (wrap64 (2 * (wrap64 (t644)))))) 4294967296) a1] : List Int)) := ⟨_, rfl⟩
    replace H : (some y645) = some r := hyr hy645 H; have Ny645 := aS hy645; clear hy645
    obtain rfl := Option.some.inj H
    go_enter Try.func50, Try.ntmps50
    try go_wp2_with (first | ((with_reducible refine gate_dst (N := 8) rfl ?_); refine Kd.V_bytes rfl (N := 8) rfl 9 26 5 _ a0 rfl rfl Try.underlying9 Try.underlying26 Try.underlying5 (oda) ?_; intro v632 w8 ho9 hb; rw [← Ny631.out] at ho9; have HO633 := aS (Kd.V_lower (Kd.V_mono (ok' := fun k_ => True) ho9 (fun k_ hk_ => trivial)) (below_size bel)); replace HB := bstep hb; clear hb ho9; obtain ⟨Ao10, co10, eo10⟩ := Kd.V_slice HO633.out; subst eo10) | ((with_reducible refine gate_callee (f := 57) rfl ?_); refine goesL_ (some 9) rfl rfl Try.func57 (by kernel_rfl) rfl #[.slice Ao10 y631.length co10] rfl agn ?_; (with_reducible refine (shardlogref02_Sum.calls k _ _ y631 t634 _ ?side1 ?side2 A4.out).mono ?_); (case side1 => exact cel ((Kd.V_reads' HO633.out).2.2)); (case side2 => exact (Kd.V_reads' HO633.out).2.1); rintro e w' ⟨rfl, ⟨nd, rfl⟩⟩; refine ⟨_, rfl, ?_⟩) | ((with_reducible refine gate_dst (N := 11) rfl ?_); refine Kd.R_lit (Kd.int .u8) _ 5 ?hg (N := 11) ?hd (xs := ([1] : List Int)) (inner := [.int .u8 1]) (ok := fun _ => True) (okp := fun _ => True) ?hr ?hp (fun _ hk => hk) trivial (Below.refl _ _) (Nat.le_refl _) (by simp) ?_; (case hd => rfl); (case hg => rfl); (case hr => first | (go_simp; done) | (go_simp; rfl)); (case hp => exact (Reps.one (show Kd.M (Kd.int .u8) _ _ _ 1 [.int .u8 1] from rfl) (Reps.none _ _))); intro v636 w11 ho12 hb hg_ hnew_; clear hg_ hnew_; (first | rw [← Ny635.out] at ho12 | (simp only [Int.reduceToNat] at ho12; rw [← Ny635.out] at ho12)); replace HO633 := aS (Kd.V_elder' (sel HO633.out) (ebs ho12) hb); have HO637 := aS (Kd.R_lower ho12 (below_size bel)); replace HB := bstep hb; clear hb ho12) | ((with_reducible refine gate_dst (N := 13) rfl ?_); refine Kd.V_bytes rfl (N := 13) rfl 9 26 5 _ a0 rfl rfl Try.underlying9 Try.underlying26 Try.underlying5 (oda) ?_; intro v639 w13 ho14 hb; rw [← Ny638.out] at ho14; replace HO633 := aS (Kd.V_below (sel HO633.out) hb); have HO640 := aS (Kd.V_lower (Kd.V_mono (ok' := fun k_ => some k_ ≠ (v636 : Value).ownBlock) ho14 (fun k_ hk_ => (Kd.fresh' (Kd.R_lt (rel HO637.out)) k_ hk_))) (below_size bel)); replace HO637 := aS (Kd.R_below (rel HO637.out) hb); replace HB := bstep hb; clear hb ho14; obtain ⟨Ao16, co16, eo16⟩ := Kd.V_slice HO640.out; subst eo16) | ((with_reducible refine gate_builtin (b := .append) (xs := #[.tmp 11, .tmp 13]) rfl ?_); at_builtin; refine Kd.R_append_rows (Kd.int .u8) (w0 := w) w.heap.size rfl (.tmp 11) (.tmp 13) 26 5 (.int .u8 0) 1 rfl Try.underlying26 info5 rfl (by decide) (by omega) v636 y635 y638 _ _ _ (fun _ => True) (fun _ => False) rfl rfl ?aO ?aR (fun _ _ h => h) (fun _ h => h.elim) ?aF ?aB ?aS ?aL ?_; (case aR => exact cel ((Kd.V_reads' HO640.out).2.2)); (case aB => exact bel); (case aF => exact (fun _ _ => trivial)); (case aO => exact (rel HO637.out)); (case aS => exact (below_size bel)); (case aL => have := LMc5.out; omega); intro v642 w15 ho hb hg hat; rw [← Ny641.out] at ho; have n0_ := aS (Kd.V_afterv (ok := (fun _ => True)) (sel HO633.out) hg hat); have n1_ := aS (Kd.V_afterv (ok := (fun _ => True)) (by (with_reducible repeat (first | apply Kd.V_alloc | apply Kd.V_drewN | apply Kd.V_drew)); exact Kd.V_mono HO640.out (fun _ hk => ⟨trivial, hk⟩)) hg hat); have n2_ := aS (hb); have n3_ := aS (ho); clear HO633; clear HO640; clear HB; clear HO637; have HO633 := n0_; have HO640 := n1_; have HB := n2_; have HO643 := n3_; clear n0_ n1_ n2_ n3_; clear ho hb hg hat; obtain ⟨Ao17, co17, eo17⟩ := Kd.R_slice HO643.out; subst eo17) | ((with_reducible refine gate_callee (f := 57) rfl ?_); refine goesL_ (some 15) rfl rfl Try.func57 (by kernel_rfl) rfl #[.slice Ao17 y641.length co17] rfl agn ?_; (with_reducible refine (shardlogref02_Sum.calls k _ _ y641 t644 _ ?side1 ?side2 A6.out).mono ?_); (case side1 => exact cel ((Kd.R_reads' HO643.out).2.2)); (case side2 => exact (Kd.R_reads' HO643.out).2.1); rintro e w' ⟨rfl, ⟨nd, rfl⟩⟩; refine ⟨_, rfl, ?_⟩))
    (try (rw [drewN_self w15]; generalize hq_ : World.drewN w15 _ = w15; have n0_ : Aside0 (Kd.V (Kd.int .u8) 5 w15 w.heap.size (fun k_ => some k_ ≠ (.slice Ao17 y641.length co17 : Value).ownBlock) (.slice Ao10 y631.length co10) y631) := ⟨by rw [← hq_]; exact (sel (Kd.V_mono HO633.out (fun _ hk => hk.2)))⟩; have n1_ : Aside0 (Kd.V (Kd.int .u8) 5 w15 w.heap.size (fun k_ => some k_ ≠ (.slice Ao17 y641.length co17 : Value).ownBlock) (.slice Ao16 y638.length co16) y638) := ⟨by rw [← hq_]; exact (sel (Kd.V_mono HO640.out (fun _ hk => hk.2)))⟩; have n2_ : Aside0 (Kd.R (Kd.int .u8) 5 w15 w.heap.size (fun _ => True) (.slice Ao17 y641.length co17) y641) := ⟨by rw [← hq_]; exact (rel HO643.out)⟩; have n3_ : Aside0 (Below w.heap.size w w15) := ⟨by rw [← hq_]; exact bel⟩; clear HO633 HO640 HO643 HB hq_; have HO633 := n0_; have HO640 := n1_; have HO643 := n2_; have HB := n3_; clear n0_ n1_ n2_ n3_))
    replace HO633 := aS (Kd.V_drew HO633.out); replace HO640 := aS (Kd.V_drew HO640.out); replace HO643 := aS (Kd.R_drew HO643.out); replace HB := aS (bdo HB.out); refine start_ (n := 18) (S := fun w' => True) (ds := []) (bA 18 0) (by kernel_rfl) rfl rfl trivial (fun hHeld => ?_); refine with_tabW shardlogref11_Bits.tab3 shardlogref11_Bits.bits3 (fun HT_ HW_ => ?_)
    generalize w15.drew = w18 at HO633 HO640 HO643 HB hHeld ⊢
    refine along_ [(0, 17), (1, 18), (2, 19), (3, 20), (4, 21), (5, 22), (6, 23), (7, 24), (8, 25), (9, 26), (10, 27), (11, 28), (12, 29), (13, 30), (14, 31), (15, 32)] ?_
    iterate 16 (refine pure3 HT_ ?_)
    refine lay_ (bA 18 65535) (by kernel_rfl) ?_; refine one3 16 (N := some 33) (bA 18 131071) HT_ (fun K hK => ?_)
    refine Kd.R_lit_step (Kd.int .i64) _ 3 ?hg (N := 33) ?hd (xs := ([Int.tmod (wrap64 (t634)) a1, Int.tmod (Int.tmod (wrap64 ((wrap64 (t634)) + (wrap64 (t644)))) 4294967296) a1, Int.tmod (Int.tmod (wrap64 ((wrap64 (t634)) + (wrap64 (2 * (wrap64 (t644)))))) 4294967296) a1] : List Int)) (inner := [.int .i64 (Int.tmod (wrap64 (t634)) a1), .int .i64 (Int.tmod (Int.tmod (wrap64 ((wrap64 (t634)) + (wrap64 (t644)))) 4294967296) a1), .int .i64 (Int.tmod (Int.tmod (wrap64 ((wrap64 (t634)) + (wrap64 (2 * (wrap64 (t644)))))) 4294967296) a1)]) (ok := fun _ => True) (okp := fun _ => True) ?hr ?hp (fun _ hk => hk) trivial (Below.refl _ _) (Nat.le_refl _) (by simp) ?_; (case hd => rfl); (case hg => rfl); (case hr => first | (go_simp; done) | (go_simp; rfl)); (case hp => exact (Reps.one (show Kd.M (Kd.int .i64) _ _ _ (Int.tmod (wrap64 (t634)) a1) [.int .i64 (Int.tmod (wrap64 (t634)) a1)] from rfl) (Reps.one (show Kd.M (Kd.int .i64) _ _ _ (Int.tmod (Int.tmod (wrap64 ((wrap64 (t634)) + (wrap64 (t644)))) 4294967296) a1) [.int .i64 (Int.tmod (Int.tmod (wrap64 ((wrap64 (t634)) + (wrap64 (t644)))) 4294967296) a1)] from rfl) (Reps.one (show Kd.M (Kd.int .i64) _ _ _ (Int.tmod (Int.tmod (wrap64 ((wrap64 (t634)) + (wrap64 (2 * (wrap64 (t644)))))) 4294967296) a1) [.int .i64 (Int.tmod (Int.tmod (wrap64 ((wrap64 (t634)) + (wrap64 (2 * (wrap64 (t644)))))) 4294967296) a1)] from rfl) (Reps.none _ _)))))
    intro v646 w19 ho20 hb hg_ hnew_
    clear hg_ hnew_
    (first | rw [← Ny645.out] at ho20 | (simp only [Int.reduceToNat] at ho20; rw [← Ny645.out] at ho20))
    replace HO633 := aS (Kd.V_elder' (sel HO633.out) (ebs ho20) hb); replace HO640 := aS (Kd.V_elder' (sel HO640.out) (ebs ho20) hb); replace HO643 := aS (Kd.R_below (rel HO643.out) hb); have HO647 := aS (Kd.R_lower ho20 (below_size bel)); replace HB := bstep hb; clear hb ho20; refine hK.out _ _ trivial (fun hHeld => ?_); clear hK K; refine nm 33 ?_; refine pure_ (i := 17) (N := some 4) (v := ?_) (a' := ?_) (bA 18 262143) rfl rfl (any_of HT_.out (by kernel_rfl)) (fun _ _ _ h => h) (Or.inl ⟨by rfl, ?_⟩) ?_ ?_
    rotate_left
    ·
     intro w'
     go_simp
     with_reducible rfl
    rotate_left
    ·
     simp only [Act.put, lsa, lsz, lss, i64_w, i32_w]
     rfl
    refine done_ (done_of HT_.out (by kernel_rfl)) ?_
    try go_wp2
    go_ret
    exact ⟨_, rf3, by (with_reducible repeat (first | apply Kd.R_alloc | apply Kd.R_drewN | apply Kd.R_drew)); exact HO647.out, bel⟩
  ·
   rw [if_neg c5] at H; exact absurd H (by simp)
 ·
  rw [if_neg c3] at H; exact absurd H (by simp)

end Go.Proofs.Ytinhpolmanccgaa.X
