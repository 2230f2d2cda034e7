-- written by a program of this session's, over the kit's print
import Derived.Test.YtclmooadpoojeaaXx0
import Derived.Test.YtclmooadpoojeaaXx4
import Derived.Test.YtclmooadpoojeaaXx7
import Derived.Test.YtclmooadpoojeaaXx9
namespace Go.Proofs.Ytclmooadpoojeaa.X
open Go.RowKit Go.Proofs.YtclmooadpoojeaaW.PrintWords Go.Proofs.YtclmooadpoojeaaW.PrintLast Go.Proofs.YtclmooadpoojeaaW.PrintMore
attribute [local go_sem] max2_int min2_int max_two min_two max_three min_three max_four min_four gtr_str   -- for this text's walks alone
set_option linter.unusedVariables false
set_option linter.unusedSimpArgs false

/-! ### shardlogref10_Cut: function 13 -/
mutual
def shardlogref10_Cut.l0 : Nat → List (S46) → Int → List (List (S46)) → List (S46) → Int → Int → Option ((List (List (S46))))
 | 0, _, _, _, _, _, _ => none
 | k + 1, x0, x1, x5, x6, x7, x8 => if x8 < (x0.length : Int) then (if 0 ≤ x8 then (if x6.length < 2199023255552 then ((some (x6 ++ [(⟨(rd_T46 x0 x8).f0, (rd_T46 x0 x8).f1, (rd_T46 x0 x8).f2, (rd_T46 x0 x8).f3, (rd_T46 x0 x8).f4⟩ : S46)] : List (S46))).bind fun y508 => ((shardlogref08_Put.f k ((rd_T46 x0 x8).f0) ((rd_T46 x0 x8).f1) ((rd_T46 x0 x8).f2) ((rd_T46 x0 x8).f3) ((rd_T46 x0 x8).f4)).bind fun t512 => (if (wrap64 (x7 + (t512.length : Int))) ≥ x1 then (shardlogref10_Cut.j1 k x0 x1 x5 y508 (wrap64 (x7 + (t512.length : Int))) x8 true) else (shardlogref10_Cut.j1 k x0 x1 x5 y508 (wrap64 (x7 + (t512.length : Int))) x8 ((wrap64 (x8 + 1)) == (x0.length : Int)))))) else (none)) else (none)) else (some x5)
def shardlogref10_Cut.j1 : Nat → List (S46) → Int → List (List (S46)) → List (S46) → Int → Int → Bool → Option ((List (List (S46))))
 | 0, _, _, _, _, _, _, _ => none
 | k + 1, x0, x1, x5, x6, x7, x8, x39 => if x39 = true then (if x5.length < 5864062014805 then (shardlogref10_Cut.l0 k x0 x1 (x5 ++ [x6]) ([] : List (S46)) 0 (wrap64 (x8 + 1))) else (none)) else (shardlogref10_Cut.l0 k x0 x1 x5 x6 x7 (wrap64 (x8 + 1)))
end
def shardlogref10_Cut.f (k : Nat) (l0 : List (S46)) (a1 : Int) : Option ((List (List (S46)))) := shardlogref10_Cut.l0 k l0 a1 ([] : List (List (S46))) ([] : List (S46)) 0 0
theorem shardlogref10_Cut.mono_l : ∀ k, (∀ y0 y1 y2 y3 y4 y5, LeO (shardlogref10_Cut.l0 k y0 y1 y2 y3 y4 y5) (shardlogref10_Cut.l0 (k + 1) y0 y1 y2 y3 y4 y5)) ∧ (∀ y0 y1 y2 y3 y4 y5 y6, LeO (shardlogref10_Cut.j1 k y0 y1 y2 y3 y4 y5 y6) (shardlogref10_Cut.j1 (k + 1) y0 y1 y2 y3 y4 y5 y6))
 | 0 => ⟨fun _ _ _ _ _ _ r h => by simp [shardlogref10_Cut.l0] at h, fun _ _ _ _ _ _ _ r h => by simp [shardlogref10_Cut.j1] at h⟩
 | k + 1 => by
  obtain ⟨ih0, ih1⟩ := shardlogref10_Cut.mono_l k
  refine ⟨?_, ?_⟩
  ·
   intro y0 y1 y2 y3 y4 y5
   unfold shardlogref10_Cut.l0
   repeat' first
   | (with_reducible exact ih0 _ _ _ _ _ _)
   | (with_reducible exact ih1 _ _ _ _ _ _ _)
   | (with_reducible exact shardlogref08_Put.mono _ _ _ _ _ _)
   | (with_reducible exact LeO.refl _)
   | (with_reducible exact LeO.none _)
   | (with_reducible refine LeO.ite ?_ ?_)
   | (with_reducible refine LeO.bind ?_ (fun _ => ?_))
   | exact ih0 _ _ _ _ _ _
   | exact ih1 _ _ _ _ _ _ _
   | exact shardlogref08_Put.mono _ _ _ _ _ _
   | exact LeO.none _
   | refine LeO.ite ?_ ?_
   | refine LeO.bind ?_ (fun _ => ?_)
  ·
   intro y0 y1 y2 y3 y4 y5 y6
   unfold shardlogref10_Cut.j1
   repeat' first
   | (with_reducible exact ih0 _ _ _ _ _ _)
   | (with_reducible exact ih1 _ _ _ _ _ _ _)
   | (with_reducible exact shardlogref08_Put.mono _ _ _ _ _ _)
   | (with_reducible exact LeO.refl _)
   | (with_reducible exact LeO.none _)
   | (with_reducible refine LeO.ite ?_ ?_)
   | (with_reducible refine LeO.bind ?_ (fun _ => ?_))
   | exact ih0 _ _ _ _ _ _
   | exact ih1 _ _ _ _ _ _ _
   | exact shardlogref08_Put.mono _ _ _ _ _ _
   | exact LeO.none _
   | refine LeO.ite ?_ ?_
   | refine LeO.bind ?_ (fun _ => ?_)
theorem shardlogref10_Cut.mono : ∀ a0 a1 k, LeO (shardlogref10_Cut.f k a0 a1) (shardlogref10_Cut.f (k + 1) a0 a1) := by
 intro a0 a1 k
 obtain ⟨ih0, ih1⟩ := shardlogref10_Cut.mono_l k
 unfold shardlogref10_Cut.f
 repeat' first
   | (with_reducible exact ih0 _ _ _ _ _ _)
   | (with_reducible exact ih1 _ _ _ _ _ _ _)
   | (with_reducible exact shardlogref08_Put.mono _ _ _ _ _ _)
   | (with_reducible exact LeO.refl _)
   | (with_reducible exact LeO.none _)
   | (with_reducible refine LeO.ite ?_ ?_)
   | (with_reducible refine LeO.bind ?_ (fun _ => ?_))
   | exact ih0 _ _ _ _ _ _
   | exact ih1 _ _ _ _ _ _ _
   | exact shardlogref08_Put.mono _ _ _ _ _ _
   | exact LeO.none _
   | refine LeO.ite ?_ ?_
   | refine LeO.bind ?_ (fun _ => ?_)
set_option maxHeartbeats 8000000 in
set_option maxRecDepth 100000 in
theorem shardlogref10_Cut.calls (k : Nat) (A0 : Option Addr) (c0 : Nat) (l0 : List (S46)) (a1 : Int) (r : List (List (S46))) (w : World) (hr0 : Kd.C k46 w A0 l0.length l0) (hc0 : l0.length ≤ c0) (h : shardlogref10_Cut.f k l0 a1 = some r) :
  Calls Try.prog 13 #[.slice A0 l0.length c0, .int .i64 a1] w fun e w' => ∃ v0_ : Value, e = .returned (v0_) ∧ Kd.S (Kd.slice 46 k46) 22 w' w.heap.size (fun _ => True) v0_ r ∧ Below w.heap.size w w' := by
 have hu46 := Try.underlying46
 have HR0 := aS hr0
 have HC0 := aS hc0
 clear hr0 hc0
 have HB := aS (Below.refl w.heap.size w)
 have H : (shardlogref10_Cut.l0 k l0 a1 ([] : List (List (S46))) ([] : List (S46)) 0 0) = some r := h
 clear h
 have H' := aS H
 clear H
 go_enter Try.func13, Try.ntmps13
 go_wp2
 go_loopg [5, 6, 7, 8] k (fun kq v5 v6 v7 v8 w' => ∃ (x5_1 : List (List (S46))) (x6_1 : List (S46)) (x7_1 : Int) (x8_1 : Int), v7 = .int .i64 x7_1 ∧ v8 = .int .i64 x8_1 ∧ Aside0 (shardlogref10_Cut.l0 kq l0 a1 x5_1 x6_1 x7_1 x8_1 = some r) ∧ Aside0 (kq ≤ k) ∧ Aside0 (Kd.S (Kd.slice 46 k46) 22 w' w.heap.size (fun k_ => some k_ ≠ (v6 : Value).ownBlock) v5 x5_1) ∧ Aside0 (Kd.R k46 46 w' w.heap.size (fun _ => True) v6 x6_1) ∧ Aside0 (Below w.heap.size w w'))
 case atStart => exact ⟨(([] : List (List (S46)))), (([] : List (S46))), (0), (0), (by first | rfl | (simp; done) | (simp [*]; done) | (simp; exact (by decide : ∀ a_ b_ : Bool, (a_ == b_) = (!a_ != b_)) _ _)), (by first | rfl | (simp; done) | (simp [*]; done) | (simp; exact (by decide : ∀ a_ b_ : Bool, (a_ == b_) = (!a_ != b_)) _ _)), H', ⟨Nat.le_refl _⟩, ⟨by first | exact Kd.S_nil _ _ _ _ _ | exact Kd.N_nil _ _ _ _ _ | exact Kd.V_nil _ _ _ _ _ | exact Kd.Q_nil _ _ _ _ _ | exact Kd.R_nil _ _ _ _ _⟩, ⟨by first | exact Kd.R_nil _ _ _ _ _ | exact Kd.N_nil _ _ _ _ _ | exact Kd.V_nil _ _ _ _ _ | exact Kd.Q_nil _ _ _ _ _ | exact Kd.S_nil _ _ _ _ _⟩, ⟨by repeat (first | (with_reducible first | exact HB.out | apply bal | apply bdN | apply bdo) | exact HB.out)⟩⟩
 case round =>
  clear H'; (try clear c1); (try clear p2)
  obtain ⟨x5_1, x6_1, x7_1, x8_1, rfl, rfl, HA, HK1, HO_5, HO_6, HB⟩ := hrel
  cases gk with
  | zero => exact absurd HA.out (by simp [shardlogref10_Cut.l0])
  | succ k1 =>
   have H := HA.out; clear HA
   simp only [shardlogref10_Cut.l0] at H
   by_cases c3 : x8_1 < (l0.length : Int)
   ·
    rw [if_pos c3] at H
    have c3b0 : decide (x8_1 < (l0.length : Int)) = true := decide_eq_true c3
    clear c3
    by_cases c4 : 0 ≤ x8_1
    ·
     rw [if_pos c4] at H
     have c4b0 : decide (0 ≤ x8_1) = true := decide_eq_true c4
     clear c4
     by_cases c5 : x6_1.length < 2199023255552
     ·
      rw [if_pos c5] at H
      have LMc5 := aS c5
      clear c5
      obtain ⟨y508, hy508⟩ : ∃ y_ : List (S46), y_ = (x6_1 ++ [(⟨(rd_T46 l0 x8_1).f0, (rd_T46 l0 x8_1).f1, (rd_T46 l0 x8_1).f2, (rd_T46 l0 x8_1).f3, (rd_T46 l0 x8_1).f4⟩ : S46)]) := ⟨_, rfl⟩
      replace H : ((shardlogref08_Put.f k1 ((rd_T46 l0 x8_1).f0) ((rd_T46 l0 x8_1).f1) ((rd_T46 l0 x8_1).f2) ((rd_T46 l0 x8_1).f3) ((rd_T46 l0 x8_1).f4)).bind fun t512 => (if (wrap64 (x7_1 + (t512.length : Int))) ≥ a1 then (shardlogref10_Cut.j1 k1 l0 a1 x5_1 y508 (wrap64 (x7_1 + (t512.length : Int))) x8_1 true) else (shardlogref10_Cut.j1 k1 l0 a1 x5_1 y508 (wrap64 (x7_1 + (t512.length : Int))) x8_1 ((wrap64 (x8_1 + 1)) == (l0.length : Int))))) = some r := by first | (rw [hy508]; with_reducible exact H) | (have H2_ := (Option.bind_some _ _).symm.trans H; rw [hy508]; with_reducible exact H2_) | (have H2_ := (Option.bind_some _ _).symm.trans H; with_reducible exact H2_) | with_reducible exact H | (rw [hy508]; exact H) | exact H
      have Ny508 := aS hy508
      clear hy508
      replace H := obm H
      obtain ⟨t512, A60, H⟩ := H
      replace H : (if (wrap64 (x7_1 + (t512.length : Int))) ≥ a1 then (shardlogref10_Cut.j1 k1 l0 a1 x5_1 y508 (wrap64 (x7_1 + (t512.length : Int))) x8_1 true) else (shardlogref10_Cut.j1 k1 l0 a1 x5_1 y508 (wrap64 (x7_1 + (t512.length : Int))) x8_1 ((wrap64 (x8_1 + 1)) == (l0.length : Int)))) = some r := H
      have A6 := aS A60
      clear A60
      have HC7 := aS H
      clear H
      have p507 : 0 ≤ (x8_1 : Int) := odt (by first | (with_reducible assumption) | assumption)
      have q507 : x8_1 < (l0.length : Int) := odt (by first | (with_reducible assumption) | assumption)
      obtain ⟨ad507, e507, hx507_0, hx507_1, hx507_2, hx507_3, hx507_4⟩ := at_T46 HR0.out x8_1 p507 q507
      cases e507
      replace hx507_0 := (HB.out.cell (wbl w _ hx507_0)).trans hx507_0
      replace hx507_1 := (HB.out.cell (wbl w _ hx507_1)).trans hx507_1
      replace hx507_2 := (HB.out.cell (wbl w _ hx507_2)).trans hx507_2
      replace hx507_3 := (HB.out.cell (wbl w _ hx507_3)).trans hx507_3
      replace hx507_4 := (HB.out.cell (wbl w _ hx507_4)).trans hx507_4
      replace p507 := eq_true p507
      replace q507 := eq_true q507
      go_upto_region 9 with (first | ((with_reducible refine gate_builtin (b := .append) (xs := #[.tmp 15, .tmp 20]) rfl ?_); (try (refine gate_guard (by rfl) ?_; dsimp only)); at_builtin; refine Kd.R_append k46 (w0 := w) w.heap.size rfl (.tmp 15) (.tmp 20) 22 46 (.agg #[(.string ⟨#[]⟩), (.string ⟨#[]⟩), (.int .i64 0), (.string ⟨#[]⟩), (.bool false)]) 64 rfl Try.underlying22 info46 rfl (by decide) (by omega) u6 x6_1 (⟨(rd_T46 l0 x8_1).f0, (rd_T46 l0 x8_1).f1, (rd_T46 l0 x8_1).f2, (rd_T46 l0 x8_1).f3, (rd_T46 l0 x8_1).f4⟩ : S46) [.string ((rd_T46 l0 x8_1).f0), .string ((rd_T46 l0 x8_1).f1), .int .i64 ((rd_T46 l0 x8_1).f2), .string ((rd_T46 l0 x8_1).f3), .bool ((rd_T46 l0 x8_1).f4)] (fun _ => True) (fun _ => False) rfl rfl ?aP (fun _ hk => hk.elim) ?aF ?aO ?aB ?aS ?aL ?_; (case aP => exact k46_mkM _ _ _ (⟨(rd_T46 l0 x8_1).f0, (rd_T46 l0 x8_1).f1, (rd_T46 l0 x8_1).f2, (rd_T46 l0 x8_1).f3, (rd_T46 l0 x8_1).f4⟩ : S46)); (case aB => exact (by repeat (first | (with_reducible first | exact HB.out | apply bal | apply bdN | apply bdo) | exact HB.out))); (case aF => exact (fun _ _ => trivial)); (case aO => exact (by (with_reducible repeat (first | apply Kd.R_alloc | apply Kd.R_drewN | apply Kd.R_drew)); exact HO_6.out)); (case aS => exact (below_size (by repeat (first | (with_reducible first | exact HB.out | apply bal | apply bdN | apply bdo) | exact HB.out)))); (case aL => have := LMc5.out; omega); intro v509 w8 ho hb hg hat; rw [← Ny508.out] at ho; have n0_ := aS (Kd.S_after (ok := (fun _ => True)) (by (with_reducible repeat (first | apply Kd.S_alloc | apply Kd.S_drewN | apply Kd.S_drew)); exact Kd.S_mono HO_5.out (fun _ hk => ⟨trivial, hk⟩)) hg hat); have n1_ := aS (hb); have n2_ := aS (ho); clear HO_5; clear HB; clear HO_6; have HO_5 := n0_; have HB := n1_; have HO510 := n2_; clear n0_ n1_ n2_; clear ho hb hg hat; have p511 : 0 ≤ (x8_1 : Int) := odt (by first | (with_reducible assumption) | assumption); have q511 : x8_1 < (l0.length : Int) := odt (by first | (with_reducible assumption) | assumption); obtain ⟨ad511, e511, hx511_0, hx511_1, hx511_2, hx511_3, hx511_4⟩ := at_T46 HR0.out x8_1 p511 q511; obtain rfl : ad507 = ad511 := (by injection e511); replace hx511_0 := (HB.out.cell (wbl w _ hx511_0)).trans hx511_0; replace hx511_1 := (HB.out.cell (wbl w _ hx511_1)).trans hx511_1; replace hx511_2 := (HB.out.cell (wbl w _ hx511_2)).trans hx511_2; replace hx511_3 := (HB.out.cell (wbl w _ hx511_3)).trans hx511_3; replace hx511_4 := (HB.out.cell (wbl w _ hx511_4)).trans hx511_4; replace p511 := eq_true p511; replace q511 := eq_true q511) | ((with_reducible refine gate_callee (f := 20) rfl ?_); refine goesL_ (some 27) rfl rfl Try.func20 (by kernel_rfl) rfl #[.agg #[.string ((rd_T46 l0 x8_1).f0), .string ((rd_T46 l0 x8_1).f1), .int .i64 ((rd_T46 l0 x8_1).f2), .string ((rd_T46 l0 x8_1).f3), .bool ((rd_T46 l0 x8_1).f4)]] rfl (by (try simp only [List.map_toArray, List.map_cons, List.map_nil]); first | done | rfl | (simp only [lld, llt]; rfl)) ?_; (with_reducible refine (shardlogref08_Put.calls k1 ((rd_T46 l0 x8_1).f0) ((rd_T46 l0 x8_1).f1) ((rd_T46 l0 x8_1).f2) ((rd_T46 l0 x8_1).f3) ((rd_T46 l0 x8_1).f4) t512 _ A6.out).mono ?_); rintro e w9 ⟨v513, rfl, ho0, hb⟩; refine ⟨_, rfl, ?_⟩; have n0_ := aS (Kd.S_below (by (with_reducible repeat (first | apply Kd.S_alloc | apply Kd.S_drewN | apply Kd.S_drew)); exact HO_5.out) hb); have n1_ := aS (Kd.R_below (by (with_reducible repeat (first | apply Kd.R_alloc | apply Kd.R_drewN | apply Kd.R_drew)); exact HO510.out) hb); have n2_ := aS (Kd.R_lower ho0 (below_size (by repeat (first | (with_reducible first | exact HB.out | apply bal | apply bdN | apply bdo) | exact HB.out)))); have n3_ := aS (below_step (by repeat (first | (with_reducible first | exact HB.out | apply bal | apply bdN | apply bdo) | exact HB.out)) hb); clear HO_5; clear HO510; clear HB; have HO_5 := n0_; have HO510 := n1_; have HO514 := n2_; have HB := n3_; clear n0_ n1_ n2_ n3_; (try clear hb); (try clear hb2); (try clear hk); (try clear hi); (try clear ho0); obtain ⟨Ao10, co10, eo10⟩ := Kd.R_slice HO514.out; subst eo10))
      (try simp only [Act.put, lsa, lsz, lss])
      go_cut [39] (fun v39 wc => ∃ (kq : Nat) (x39_6 : Bool), v39 = .bool x39_6 ∧ Aside0 (shardlogref10_Cut.j1 kq l0 a1 x5_1 y508 (wrap64 (x7_1 + (t512.length : Int))) x8_1 x39_6 = some r) ∧ Aside0 (kq ≤ k1) ∧ Aside0 (Kd.S (Kd.slice 46 k46) 22 wc w.heap.size (fun k_ => some k_ ≠ (v509 : Value).ownBlock) u5 x5_1) ∧ Aside0 (Kd.R k46 46 wc w.heap.size (fun _ => True) v509 y508) ∧ Aside0 (Below w.heap.size w wc))
      case first =>
       have H := HC7.out; clear HC7
       by_cases c11 : (wrap64 (x7_1 + (t512.length : Int))) ≥ a1
       ·
        rw [if_pos c11] at H
        have c11b0 : decide (a1 ≤ (wrap64 (x7_1 + (t512.length : Int)))) = true := decide_eq_true c11
        clear c11
        (first | rw [c11b0] | (simp only [i64_w, i32_w]; rw [c11b0]) | skip)
        have H' := aS H
        clear H
        go_wp2
        go_meet
        case rel => exact ⟨_, (true), (by first | rfl | (simp; done) | (simp [*]; done) | (simp; exact (by decide : ∀ a_ b_ : Bool, (a_ == b_) = (!a_ != b_)) _ _)), H', ⟨by have := HK1.out; first | omega | exact Nat.le_refl _⟩, ⟨by (with_reducible repeat (first | apply Kd.S_alloc | apply Kd.S_drewN | apply Kd.S_drew)); exact Kd.S_mono HO_5.out (fun _ hk => hk.2)⟩, ⟨by (with_reducible repeat (first | apply Kd.R_alloc | apply Kd.R_drewN | apply Kd.R_drew)); exact HO510.out⟩, ⟨by repeat (first | (with_reducible first | exact HB.out | apply bal | apply bdN | apply bdo) | exact HB.out)⟩⟩
       ·
        rw [if_neg c11] at H
        have c11b0 : decide (a1 ≤ (wrap64 (x7_1 + (t512.length : Int)))) = false := decide_eq_false c11
        clear c11
        (first | rw [c11b0] | (simp only [i64_w, i32_w]; rw [c11b0]) | skip)
        have H' := aS H
        clear H
        go_wp2
        go_meet
        case rel => exact ⟨_, (((wrap64 (x8_1 + 1)) == (l0.length : Int))), (by first | rfl | (simp; done) | (simp [*]; done) | (simp; exact (by decide : ∀ a_ b_ : Bool, (a_ == b_) = (!a_ != b_)) _ _)), H', ⟨by have := HK1.out; first | omega | exact Nat.le_refl _⟩, ⟨by (with_reducible repeat (first | apply Kd.S_alloc | apply Kd.S_drewN | apply Kd.S_drew)); exact Kd.S_mono HO_5.out (fun _ hk => hk.2)⟩, ⟨by (with_reducible repeat (first | apply Kd.R_alloc | apply Kd.R_drewN | apply Kd.R_drew)); exact HO510.out⟩, ⟨by repeat (first | (with_reducible first | exact HB.out | apply bal | apply bdN | apply bdo) | exact HB.out)⟩⟩
      case rest =>
       clear HC7; (try clear c1); (try clear c2); (try clear p2); (try clear c3); (try clear c3b0); (try clear c4); (try clear c4b0); (try clear c5); (try clear p5); (try clear q5); (try clear hx5); (try clear p6); (try clear c11); (try clear c11b0); (try clear hx507_0); (try clear hx507_1); (try clear hx507_2); (try clear hx507_3); (try clear hx507_4); (try clear hx511_0); (try clear hx511_1); (try clear hx511_2); (try clear hx511_3); (try clear hx511_4); (try clear p2); (try clear p507); (try clear p511); (try clear q507); (try clear q511)
       obtain ⟨kq, x39_6, rfl, HA, HJ6, HO_5, HO_6, HB⟩ := hcut
       cases kq with
       | zero => exact absurd HA.out (by simp [shardlogref10_Cut.j1])
       | succ kj6 =>
        have H := HA.out; clear HA
        simp only [shardlogref10_Cut.j1] at H
        by_cases c12 : x39_6 = true
        ·
         subst c12
         have H1 : (if x5_1.length < 5864062014805 then (shardlogref10_Cut.l0 kj6 l0 a1 (x5_1 ++ [y508]) ([] : List (S46)) 0 (wrap64 (x8_1 + 1))) else (none)) = some r := by rw [if_pos rfl] at H; exact H
         clear H; have H := H1; clear H1
         by_cases c13 : x5_1.length < 5864062014805
         ·
          rw [if_pos c13] at H
          have LMc13 := aS c13
          clear c13
          obtain ⟨y515, hy515⟩ : ∃ y_ : List (List (S46)), y_ = (x5_1 ++ [y508]) := ⟨_, rfl⟩
          replace H : (shardlogref10_Cut.l0 kj6 l0 a1 y515 ([] : List (S46)) 0 (wrap64 (x8_1 + 1))) = some r := by first | (rw [hy515]; with_reducible exact H) | (have H2_ := (Option.bind_some _ _).symm.trans H; rw [hy515]; with_reducible exact H2_) | (have H2_ := (Option.bind_some _ _).symm.trans H; with_reducible exact H2_) | with_reducible exact H | (rw [hy515]; exact H) | exact H
          have Ny515 := aS hy515
          clear hy515
          have H' := aS H
          clear H
          obtain ⟨Ao15, co15, eo15⟩ := Kd.R_slice HO_6.out
          subst eo15
          go_wp2_with (first | ((with_reducible refine gate_builtin (b := .append) (xs := #[.tmp 40, .tmp 42]) rfl ?_); (try (refine gate_guard (by rfl) ?_; dsimp only)); at_builtin; refine Kd.S_append (Kd.slice 46 k46) (w0 := w) w.heap.size rfl (.tmp 40) (.tmp 42) 26 22 (.slice none 0 0) 24 rfl Try.underlying26 info22 rfl (by decide) (by omega) u5 x5_1 y508 [.slice Ao15 y508.length co15] (fun _ => True) (fun k_ => some k_ = (.slice Ao15 y508.length co15 : Value).ownBlock) rfl rfl ?aP (fun k_ hk_ => ((Kd.R_mono (ok' := fun k_ => ((fun _ => True)) k_ ∧ some k_ ≠ (u5 : Value).ownBlock) (Kd.R_apart' (HO_6.out) (Kd.S_typed HO_5.out) (by decide)) (fun k_ hk => ⟨trivial, hk.2⟩))).1 k_ hk_.symm) ?aF ?aO ?aB ?aS ?aL ?_; (case aP => exact Kd.M_row (Kd.R_mono (Kd.R_tight rfl (Kd.R_mono (ok' := fun k_ => ((fun _ => True)) k_ ∧ some k_ ≠ (u5 : Value).ownBlock) (Kd.R_apart' (HO_6.out) (Kd.S_typed HO_5.out) (by decide)) (fun k_ hk => ⟨trivial, hk.2⟩))) (fun _ h_ => h_))); (case aB => exact (by repeat (first | (with_reducible first | exact HB.out | apply bal | apply bdN | apply bdo) | exact HB.out))); (case aF => exact (fun _ _ => trivial)); (case aO => exact (by (with_reducible repeat (first | apply Kd.S_alloc | apply Kd.S_drewN | apply Kd.S_drew)); exact Kd.S_mono HO_5.out (fun k_ hk => ⟨trivial, fun e_ => hk e_⟩))); (case aS => exact (below_size (by repeat (first | (with_reducible first | exact HB.out | apply bal | apply bdN | apply bdo) | exact HB.out)))); (case aL => have := LMc13.out; omega); intro v516 w14 ho hb hg hat; rw [← Ny515.out] at ho; have n0_ := aS (hb); have n1_ := aS (ho); clear HB; clear HO_5; clear HO_6; have HB := n0_; have HO517 := n1_; clear n0_ n1_; clear ho hb hg hat))
          go_roundg kj6
          case measure => have := HK1.out; have := HJ6.out; omega
          case rel => exact ⟨(y515), (([] : List (S46))), (0), (wrap64 (x8_1 + 1)), (by first | rfl | (simp; done) | (simp [*]; done) | (simp; exact (by decide : ∀ a_ b_ : Bool, (a_ == b_) = (!a_ != b_)) _ _)), (by first | rfl | (simp; done) | (simp [*]; done) | (simp; exact (by decide : ∀ a_ b_ : Bool, (a_ == b_) = (!a_ != b_)) _ _)), H', ⟨by have := HK1.out; have := HJ6.out; omega⟩, ⟨by (with_reducible repeat (first | apply Kd.S_alloc | apply Kd.S_drewN | apply Kd.S_drew)); exact Kd.S_mono HO517.out (fun _ hk => (by simp [Value.ownBlock]))⟩, ⟨by first | exact Kd.R_nil _ _ _ _ _ | exact Kd.N_nil _ _ _ _ _ | exact Kd.V_nil _ _ _ _ _ | exact Kd.Q_nil _ _ _ _ _ | exact Kd.S_nil _ _ _ _ _⟩, ⟨by repeat (first | (with_reducible first | exact HB.out | apply bal | apply bdN | apply bdo) | exact HB.out)⟩⟩
         ·
          rw [if_neg c13] at H
          exact absurd H (by simp)
        ·
         replace c12 := Bool.eq_false_iff.mpr c12
         subst c12
         have H1 : (shardlogref10_Cut.l0 kj6 l0 a1 x5_1 y508 (wrap64 (x7_1 + (t512.length : Int))) (wrap64 (x8_1 + 1))) = some r := by rw [if_neg (show ¬ (false = true) by decide)] at H; exact H
         clear H; have H := H1; clear H1
         have H' := aS H
         clear H
         go_wp2
         go_roundg kj6
         case measure => have := HK1.out; have := HJ6.out; omega
         case rel => exact ⟨(x5_1), (y508), ((wrap64 (x7_1 + (t512.length : Int)))), (wrap64 (x8_1 + 1)), (by first | rfl | (simp; done) | (simp [*]; done) | (simp; exact (by decide : ∀ a_ b_ : Bool, (a_ == b_) = (!a_ != b_)) _ _)), (by first | rfl | (simp; done) | (simp [*]; done) | (simp; exact (by decide : ∀ a_ b_ : Bool, (a_ == b_) = (!a_ != b_)) _ _)), H', ⟨by have := HK1.out; have := HJ6.out; omega⟩, ⟨by (with_reducible repeat (first | apply Kd.S_alloc | apply Kd.S_drewN | apply Kd.S_drew)); exact HO_5.out⟩, ⟨by (with_reducible repeat (first | apply Kd.R_alloc | apply Kd.R_drewN | apply Kd.R_drew)); exact HO_6.out⟩, ⟨by repeat (first | (with_reducible first | exact HB.out | apply bal | apply bdN | apply bdo) | exact HB.out)⟩⟩
     ·
      rw [if_neg c5] at H
      exact absurd H (by simp)
    ·
     rw [if_neg c4] at H
     exact absurd H (by simp)
   ·
    rw [if_neg c3] at H
    have c3b0 : decide (x8_1 < (l0.length : Int)) = false := decide_eq_false c3
    clear c3
    obtain rfl := Option.some.inj H
    go_wp2
    go_ret
    exact ⟨_, by first | rfl | (simp [errW_none, errW_some] <;> rfl) | (simp [*, errW_none, errW_some] <;> rfl), by (with_reducible repeat (first | apply Kd.S_alloc | apply Kd.S_drewN | apply Kd.S_drew)); exact Kd.S_mono HO_5.out (fun _ hk => trivial), by repeat (first | (with_reducible first | exact HB.out | apply bal | apply bdN | apply bdo) | exact HB.out)⟩

/-! ### shardloglaw10_BlockCuts: function 3 -/
mutual
def shardloglaw10_BlockCuts.j0 : Nat → List (S46) → Int → Bool → Bool → Option (Bool)
 | 0, _, _, _, _ => none
 | k + 1, x0, x1, x2, x17 => if x17 = true then ((shardloglaw10_awake.f k).bind fun t520 => (some t520)) else (if x2 = true then ((shardlogref08_Sort.f k x0).bind fun t521 => (shardloglaw10_BlockCuts.j1 k t521 x1)) else (shardloglaw10_BlockCuts.j1 k x0 x1))
def shardloglaw10_BlockCuts.j1 : Nat → List (S46) → Int → Option (Bool)
 | 0, _, _ => none
 | k + 1, x0, x1 => (block_Cut.f k x0 x1).bind fun bt524 => ((shardlogref08_Sorted.f k x0).bind fun t528 => (if t528 = true then (shardloglaw10_BlockCuts.j2 k x0 x1 bt524.1 bt524.2 (decide (x1 < 1))) else (shardloglaw10_BlockCuts.j2 k x0 x1 bt524.1 bt524.2 true)))
def shardloglaw10_BlockCuts.j2 : Nat → List (S46) → Int → List (List (S46)) → Int → Bool → Option (Bool)
 | 0, _, _, _, _, _ => none
 | k + 1, x0, x1, x7, x8, x34 => if x34 = true then (if x8 = 1 then (some ((x7.length : Int) == 0)) else (none)) else ((shardlogref10_Cut.f k x0 x1).bind fun t529 => (if x8 = 0 then (shardloglaw10_BlockCuts.j3 k x7 t529 ((x7.length : Int) != (t529.length : Int))) else (shardloglaw10_BlockCuts.j3 k x7 t529 true)))
def shardloglaw10_BlockCuts.j3 : Nat → List (List (S46)) → List (List (S46)) → Bool → Option (Bool)
 | 0, _, _, _ => none
 | k + 1, x7, x9, x53 => if x53 = true then (none) else (shardloglaw10_BlockCuts.l0 k x7 x9 0)
def shardloglaw10_BlockCuts.l0 : Nat → List (List (S46)) → List (List (S46)) → Int → Option (Bool)
 | 0, _, _, _ => none
 | k + 1, x7, x9, x10 => if x10 < (x7.length : Int) then (if 0 ≤ x10 then (if x10 < (x9.length : Int) then ((shardlogref08_Same.f k (rd_L7 x7 x10) (rd_L7 x9 x10)).bind fun t534 => (if t534 = true then (shardloglaw10_BlockCuts.l0 k x7 x9 (wrap64 (x10 + 1))) else (none))) else (none)) else (none)) else (some true)
end
def shardloglaw10_BlockCuts.f (k : Nat) (l0 : List (S46)) (a1 : Int) (a2 : Bool) : Option (Bool) := (shardloglaw10_awake.f k).bind fun t518 => (if t518 = true then ((shardlogref08_Few.f k l0).bind fun t519 => (shardloglaw10_BlockCuts.j0 k l0 a1 a2 (!t519))) else (shardloglaw10_BlockCuts.j0 k l0 a1 a2 true))
theorem shardloglaw10_BlockCuts.mono_l : ∀ k, (∀ y0 y1 y2 y3, LeO (shardloglaw10_BlockCuts.j0 k y0 y1 y2 y3) (shardloglaw10_BlockCuts.j0 (k + 1) y0 y1 y2 y3)) ∧ (∀ y0 y1, LeO (shardloglaw10_BlockCuts.j1 k y0 y1) (shardloglaw10_BlockCuts.j1 (k + 1) y0 y1)) ∧ (∀ y0 y1 y2 y3 y4, LeO (shardloglaw10_BlockCuts.j2 k y0 y1 y2 y3 y4) (shardloglaw10_BlockCuts.j2 (k + 1) y0 y1 y2 y3 y4)) ∧ (∀ y0 y1 y2, LeO (shardloglaw10_BlockCuts.j3 k y0 y1 y2) (shardloglaw10_BlockCuts.j3 (k + 1) y0 y1 y2)) ∧ (∀ y0 y1 y2, LeO (shardloglaw10_BlockCuts.l0 k y0 y1 y2) (shardloglaw10_BlockCuts.l0 (k + 1) y0 y1 y2))
 | 0 => ⟨fun _ _ _ _ r h => by simp [shardloglaw10_BlockCuts.j0] at h, fun _ _ r h => by simp [shardloglaw10_BlockCuts.j1] at h, fun _ _ _ _ _ r h => by simp [shardloglaw10_BlockCuts.j2] at h, fun _ _ _ r h => by simp [shardloglaw10_BlockCuts.j3] at h, fun _ _ _ r h => by simp [shardloglaw10_BlockCuts.l0] at h⟩
 | k + 1 => by
  obtain ⟨ih0, ih1, ih2, ih3, ih4⟩ := shardloglaw10_BlockCuts.mono_l k
  refine ⟨?_, ?_, ?_, ?_, ?_⟩
  ·
   intro y0 y1 y2 y3
   unfold shardloglaw10_BlockCuts.j0
   repeat' first
   | (with_reducible exact ih0 _ _ _ _)
   | (with_reducible exact ih1 _ _)
   | (with_reducible exact ih2 _ _ _ _ _)
   | (with_reducible exact ih3 _ _ _)
   | (with_reducible exact ih4 _ _ _)
   | (with_reducible exact block_Cut.mono _ _ _)
   | (with_reducible exact shardloglaw10_awake.mono _)
   | (with_reducible exact shardlogref08_Few.mono _ _)
   | (with_reducible exact shardlogref08_Same.mono _ _ _)
   | (with_reducible exact shardlogref08_Sort.mono _ _)
   | (with_reducible exact shardlogref08_Sorted.mono _ _)
   | (with_reducible exact shardlogref10_Cut.mono _ _ _)
   | (with_reducible exact LeO.refl _)
   | (with_reducible exact LeO.none _)
   | (with_reducible refine LeO.ite ?_ ?_)
   | (with_reducible refine LeO.bind ?_ (fun _ => ?_))
   | exact ih0 _ _ _ _
   | exact ih1 _ _
   | exact ih2 _ _ _ _ _
   | exact ih3 _ _ _
   | exact ih4 _ _ _
   | exact block_Cut.mono _ _ _
   | exact shardloglaw10_awake.mono _
   | exact shardlogref08_Few.mono _ _
   | exact shardlogref08_Same.mono _ _ _
   | exact shardlogref08_Sort.mono _ _
   | exact shardlogref08_Sorted.mono _ _
   | exact shardlogref10_Cut.mono _ _ _
   | exact LeO.none _
   | refine LeO.ite ?_ ?_
   | refine LeO.bind ?_ (fun _ => ?_)
  ·
   intro y0 y1
   unfold shardloglaw10_BlockCuts.j1
   repeat' first
   | (with_reducible exact ih0 _ _ _ _)
   | (with_reducible exact ih1 _ _)
   | (with_reducible exact ih2 _ _ _ _ _)
   | (with_reducible exact ih3 _ _ _)
   | (with_reducible exact ih4 _ _ _)
   | (with_reducible exact block_Cut.mono _ _ _)
   | (with_reducible exact shardloglaw10_awake.mono _)
   | (with_reducible exact shardlogref08_Few.mono _ _)
   | (with_reducible exact shardlogref08_Same.mono _ _ _)
   | (with_reducible exact shardlogref08_Sort.mono _ _)
   | (with_reducible exact shardlogref08_Sorted.mono _ _)
   | (with_reducible exact shardlogref10_Cut.mono _ _ _)
   | (with_reducible exact LeO.refl _)
   | (with_reducible exact LeO.none _)
   | (with_reducible refine LeO.ite ?_ ?_)
   | (with_reducible refine LeO.bind ?_ (fun _ => ?_))
   | exact ih0 _ _ _ _
   | exact ih1 _ _
   | exact ih2 _ _ _ _ _
   | exact ih3 _ _ _
   | exact ih4 _ _ _
   | exact block_Cut.mono _ _ _
   | exact shardloglaw10_awake.mono _
   | exact shardlogref08_Few.mono _ _
   | exact shardlogref08_Same.mono _ _ _
   | exact shardlogref08_Sort.mono _ _
   | exact shardlogref08_Sorted.mono _ _
   | exact shardlogref10_Cut.mono _ _ _
   | exact LeO.none _
   | refine LeO.ite ?_ ?_
   | refine LeO.bind ?_ (fun _ => ?_)
  ·
   intro y0 y1 y2 y3 y4
   unfold shardloglaw10_BlockCuts.j2
   repeat' first
   | (with_reducible exact ih0 _ _ _ _)
   | (with_reducible exact ih1 _ _)
   | (with_reducible exact ih2 _ _ _ _ _)
   | (with_reducible exact ih3 _ _ _)
   | (with_reducible exact ih4 _ _ _)
   | (with_reducible exact block_Cut.mono _ _ _)
   | (with_reducible exact shardloglaw10_awake.mono _)
   | (with_reducible exact shardlogref08_Few.mono _ _)
   | (with_reducible exact shardlogref08_Same.mono _ _ _)
   | (with_reducible exact shardlogref08_Sort.mono _ _)
   | (with_reducible exact shardlogref08_Sorted.mono _ _)
   | (with_reducible exact shardlogref10_Cut.mono _ _ _)
   | (with_reducible exact LeO.refl _)
   | (with_reducible exact LeO.none _)
   | (with_reducible refine LeO.ite ?_ ?_)
   | (with_reducible refine LeO.bind ?_ (fun _ => ?_))
   | exact ih0 _ _ _ _
   | exact ih1 _ _
   | exact ih2 _ _ _ _ _
   | exact ih3 _ _ _
   | exact ih4 _ _ _
   | exact block_Cut.mono _ _ _
   | exact shardloglaw10_awake.mono _
   | exact shardlogref08_Few.mono _ _
   | exact shardlogref08_Same.mono _ _ _
   | exact shardlogref08_Sort.mono _ _
   | exact shardlogref08_Sorted.mono _ _
   | exact shardlogref10_Cut.mono _ _ _
   | exact LeO.none _
   | refine LeO.ite ?_ ?_
   | refine LeO.bind ?_ (fun _ => ?_)
  ·
   intro y0 y1 y2
   unfold shardloglaw10_BlockCuts.j3
   repeat' first
   | (with_reducible exact ih0 _ _ _ _)
   | (with_reducible exact ih1 _ _)
   | (with_reducible exact ih2 _ _ _ _ _)
   | (with_reducible exact ih3 _ _ _)
   | (with_reducible exact ih4 _ _ _)
   | (with_reducible exact block_Cut.mono _ _ _)
   | (with_reducible exact shardloglaw10_awake.mono _)
   | (with_reducible exact shardlogref08_Few.mono _ _)
   | (with_reducible exact shardlogref08_Same.mono _ _ _)
   | (with_reducible exact shardlogref08_Sort.mono _ _)
   | (with_reducible exact shardlogref08_Sorted.mono _ _)
   | (with_reducible exact shardlogref10_Cut.mono _ _ _)
   | (with_reducible exact LeO.refl _)
   | (with_reducible exact LeO.none _)
   | (with_reducible refine LeO.ite ?_ ?_)
   | (with_reducible refine LeO.bind ?_ (fun _ => ?_))
   | exact ih0 _ _ _ _
   | exact ih1 _ _
   | exact ih2 _ _ _ _ _
   | exact ih3 _ _ _
   | exact ih4 _ _ _
   | exact block_Cut.mono _ _ _
   | exact shardloglaw10_awake.mono _
   | exact shardlogref08_Few.mono _ _
   | exact shardlogref08_Same.mono _ _ _
   | exact shardlogref08_Sort.mono _ _
   | exact shardlogref08_Sorted.mono _ _
   | exact shardlogref10_Cut.mono _ _ _
   | exact LeO.none _
   | refine LeO.ite ?_ ?_
   | refine LeO.bind ?_ (fun _ => ?_)
  ·
   intro y0 y1 y2
   unfold shardloglaw10_BlockCuts.l0
   repeat' first
   | (with_reducible exact ih0 _ _ _ _)
   | (with_reducible exact ih1 _ _)
   | (with_reducible exact ih2 _ _ _ _ _)
   | (with_reducible exact ih3 _ _ _)
   | (with_reducible exact ih4 _ _ _)
   | (with_reducible exact block_Cut.mono _ _ _)
   | (with_reducible exact shardloglaw10_awake.mono _)
   | (with_reducible exact shardlogref08_Few.mono _ _)
   | (with_reducible exact shardlogref08_Same.mono _ _ _)
   | (with_reducible exact shardlogref08_Sort.mono _ _)
   | (with_reducible exact shardlogref08_Sorted.mono _ _)
   | (with_reducible exact shardlogref10_Cut.mono _ _ _)
   | (with_reducible exact LeO.refl _)
   | (with_reducible exact LeO.none _)
   | (with_reducible refine LeO.ite ?_ ?_)
   | (with_reducible refine LeO.bind ?_ (fun _ => ?_))
   | exact ih0 _ _ _ _
   | exact ih1 _ _
   | exact ih2 _ _ _ _ _
   | exact ih3 _ _ _
   | exact ih4 _ _ _
   | exact block_Cut.mono _ _ _
   | exact shardloglaw10_awake.mono _
   | exact shardlogref08_Few.mono _ _
   | exact shardlogref08_Same.mono _ _ _
   | exact shardlogref08_Sort.mono _ _
   | exact shardlogref08_Sorted.mono _ _
   | exact shardlogref10_Cut.mono _ _ _
   | exact LeO.none _
   | refine LeO.ite ?_ ?_
   | refine LeO.bind ?_ (fun _ => ?_)
theorem shardloglaw10_BlockCuts.mono : ∀ a0 a1 a2 k, LeO (shardloglaw10_BlockCuts.f k a0 a1 a2) (shardloglaw10_BlockCuts.f (k + 1) a0 a1 a2) := by
 intro a0 a1 a2 k
 obtain ⟨ih0, ih1, ih2, ih3, ih4⟩ := shardloglaw10_BlockCuts.mono_l k
 unfold shardloglaw10_BlockCuts.f
 repeat' first
   | (with_reducible exact ih0 _ _ _ _)
   | (with_reducible exact ih1 _ _)
   | (with_reducible exact ih2 _ _ _ _ _)
   | (with_reducible exact ih3 _ _ _)
   | (with_reducible exact ih4 _ _ _)
   | (with_reducible exact block_Cut.mono _ _ _)
   | (with_reducible exact shardloglaw10_awake.mono _)
   | (with_reducible exact shardlogref08_Few.mono _ _)
   | (with_reducible exact shardlogref08_Same.mono _ _ _)
   | (with_reducible exact shardlogref08_Sort.mono _ _)
   | (with_reducible exact shardlogref08_Sorted.mono _ _)
   | (with_reducible exact shardlogref10_Cut.mono _ _ _)
   | (with_reducible exact LeO.refl _)
   | (with_reducible exact LeO.none _)
   | (with_reducible refine LeO.ite ?_ ?_)
   | (with_reducible refine LeO.bind ?_ (fun _ => ?_))
   | exact ih0 _ _ _ _
   | exact ih1 _ _
   | exact ih2 _ _ _ _ _
   | exact ih3 _ _ _
   | exact ih4 _ _ _
   | exact block_Cut.mono _ _ _
   | exact shardloglaw10_awake.mono _
   | exact shardlogref08_Few.mono _ _
   | exact shardlogref08_Same.mono _ _ _
   | exact shardlogref08_Sort.mono _ _
   | exact shardlogref08_Sorted.mono _ _
   | exact shardlogref10_Cut.mono _ _ _
   | exact LeO.none _
   | refine LeO.ite ?_ ?_
   | refine LeO.bind ?_ (fun _ => ?_)
set_option maxHeartbeats 8000000 in
set_option maxRecDepth 100000 in
theorem shardloglaw10_BlockCuts.calls (k : Nat) (P0_ : Nat → Prop) (A0 : Option Addr) (c0 : Nat) (l0 : List (S46)) (a1 : Int) (a2 : Bool) (r : Bool) (w : World) (hs0 : Kd.V k46 46 w w.heap.size (fun k_ => P0_ k_) (.slice A0 l0.length c0) l0) (h : shardloglaw10_BlockCuts.f k l0 a1 a2 = some r) :
  Calls Try.prog 3 #[.slice A0 l0.length c0, .int .i64 a1, .bool a2] w fun e w' => e = .returned (.bool r) ∧ Below w.heap.size w w' := by
 have HO0 := aS (show Kd.V k46 46 w w.heap.size (fun k_ => (P0_ k_ ∨ w.heap.size ≤ k_)) (.slice A0 l0.length c0) l0 from Kd.V_mono hs0 (fun k_ hk => .inl hk))
 have HB := aS (Below.refl w.heap.size w)
 have H : ((shardloglaw10_awake.f k).bind fun t518 => (if t518 = true then ((shardlogref08_Few.f k l0).bind fun t519 => (shardloglaw10_BlockCuts.j0 k l0 a1 a2 (!t519))) else (shardloglaw10_BlockCuts.j0 k l0 a1 a2 true))) = some r := h
 clear h
 have HC4 := aS H
 clear H
 go_enter Try.func3, Try.ntmps3
 go_upto_region 1 with (fail)
 repeat (go_quiet (fail); go_upto_region 1 with (fail))
 go_cut [17] (fun v17 wc => ∃ (kq : Nat) (x17_3 : Bool), v17 = .bool x17_3 ∧ Aside0 (shardloglaw10_BlockCuts.j0 kq l0 a1 a2 x17_3 = some r) ∧ Aside0 (kq ≤ k) ∧ Aside0 (Kd.V k46 46 wc w.heap.size (fun k_ => (P0_ k_ ∨ w.heap.size ≤ k_)) (.slice A0 l0.length c0) l0) ∧ Aside0 (Below w.heap.size w wc))
 case first =>
  have H := HC4.out; clear HC4
  replace H := obm H
  obtain ⟨t518, A50, H⟩ := H
  replace H : (if t518 = true then ((shardlogref08_Few.f k l0).bind fun t519 => (shardloglaw10_BlockCuts.j0 k l0 a1 a2 (!t519))) else (shardloglaw10_BlockCuts.j0 k l0 a1 a2 true)) = some r := H
  have A5 := aS A50
  clear A50
  by_cases c6 : t518 = true
  ·
   subst c6
   have H1 : ((shardlogref08_Few.f k l0).bind fun t519 => (shardloglaw10_BlockCuts.j0 k l0 a1 a2 (!t519))) = some r := by rw [if_pos rfl] at H; exact H
   clear H; have H := H1; clear H1
   replace H := obm H
   obtain ⟨t519, A70, H⟩ := H
   replace H : (shardloglaw10_BlockCuts.j0 k l0 a1 a2 (!t519)) = some r := H
   have A7 := aS A70
   clear A70
   have H' := aS H
   clear H
   go_wp2_with (first | (go_at_call 8; (with_reducible refine (shardloglaw10_awake.calls k  true _ A5.out).mono ?_); rintro e w8 ⟨rfl, hb⟩; have n0_ := aS (Kd.V_below (by (with_reducible repeat (first | apply Kd.V_alloc | apply Kd.V_drewN | apply Kd.V_drew)); exact HO0.out) hb); have n1_ := aS (below_step (by repeat (first | (with_reducible first | exact HB.out | apply bal | apply bdN | apply bdo) | exact HB.out)) hb); clear HO0; clear HB; have HO0 := n0_; have HB := n1_; clear n0_ n1_; (try clear hb); (try clear hb2); (try clear hk); (try clear hi)) | (go_at_call 9; (with_reducible refine (shardlogref08_Few.calls k _ _ l0 t519 _ ?side1 ?side2 A7.out).mono ?_); (case side1 => repeat (first | exact (Kd.V_reads' HO0.out).2.2 | (with_reducible refine Kd.C_alloc ?_ _) | (with_reducible refine Kd.C_drewN ?_ _) | (with_reducible refine Kd.C_drew ?_))); (case side2 => exact (Kd.V_reads' HO0.out).2.1); rintro e w9 ⟨rfl, hb⟩; have n0_ := aS (Kd.V_below (by (with_reducible repeat (first | apply Kd.V_alloc | apply Kd.V_drewN | apply Kd.V_drew)); exact HO0.out) hb); have n1_ := aS (below_step (by repeat (first | (with_reducible first | exact HB.out | apply bal | apply bdN | apply bdo) | exact HB.out)) hb); clear HO0; clear HB; have HO0 := n0_; have HB := n1_; clear n0_ n1_; (try clear hb); (try clear hb2); (try clear hk); (try clear hi)))
   repeat (go_quiet (first | (go_at_call 8; (with_reducible refine (shardloglaw10_awake.calls k  true _ A5.out).mono ?_); rintro e w8 ⟨rfl, hb⟩; have n0_ := aS (Kd.V_below (by (with_reducible repeat (first | apply Kd.V_alloc | apply Kd.V_drewN | apply Kd.V_drew)); exact HO0.out) hb); have n1_ := aS (below_step (by repeat (first | (with_reducible first | exact HB.out | apply bal | apply bdN | apply bdo) | exact HB.out)) hb); clear HO0; clear HB; have HO0 := n0_; have HB := n1_; clear n0_ n1_; (try clear hb); (try clear hb2); (try clear hk); (try clear hi)) | (go_at_call 9; (with_reducible refine (shardlogref08_Few.calls k _ _ l0 t519 _ ?side1 ?side2 A7.out).mono ?_); (case side1 => repeat (first | exact (Kd.V_reads' HO0.out).2.2 | (with_reducible refine Kd.C_alloc ?_ _) | (with_reducible refine Kd.C_drewN ?_ _) | (with_reducible refine Kd.C_drew ?_))); (case side2 => exact (Kd.V_reads' HO0.out).2.1); rintro e w9 ⟨rfl, hb⟩; have n0_ := aS (Kd.V_below (by (with_reducible repeat (first | apply Kd.V_alloc | apply Kd.V_drewN | apply Kd.V_drew)); exact HO0.out) hb); have n1_ := aS (below_step (by repeat (first | (with_reducible first | exact HB.out | apply bal | apply bdN | apply bdo) | exact HB.out)) hb); clear HO0; clear HB; have HO0 := n0_; have HB := n1_; clear n0_ n1_; (try clear hb); (try clear hb2); (try clear hk); (try clear hi))); try go_wp2_with (first | (go_at_call 8; (with_reducible refine (shardloglaw10_awake.calls k  true _ A5.out).mono ?_); rintro e w8 ⟨rfl, hb⟩; have n0_ := aS (Kd.V_below (by (with_reducible repeat (first | apply Kd.V_alloc | apply Kd.V_drewN | apply Kd.V_drew)); exact HO0.out) hb); have n1_ := aS (below_step (by repeat (first | (with_reducible first | exact HB.out | apply bal | apply bdN | apply bdo) | exact HB.out)) hb); clear HO0; clear HB; have HO0 := n0_; have HB := n1_; clear n0_ n1_; (try clear hb); (try clear hb2); (try clear hk); (try clear hi)) | (go_at_call 9; (with_reducible refine (shardlogref08_Few.calls k _ _ l0 t519 _ ?side1 ?side2 A7.out).mono ?_); (case side1 => repeat (first | exact (Kd.V_reads' HO0.out).2.2 | (with_reducible refine Kd.C_alloc ?_ _) | (with_reducible refine Kd.C_drewN ?_ _) | (with_reducible refine Kd.C_drew ?_))); (case side2 => exact (Kd.V_reads' HO0.out).2.1); rintro e w9 ⟨rfl, hb⟩; have n0_ := aS (Kd.V_below (by (with_reducible repeat (first | apply Kd.V_alloc | apply Kd.V_drewN | apply Kd.V_drew)); exact HO0.out) hb); have n1_ := aS (below_step (by repeat (first | (with_reducible first | exact HB.out | apply bal | apply bdN | apply bdo) | exact HB.out)) hb); clear HO0; clear HB; have HO0 := n0_; have HB := n1_; clear n0_ n1_; (try clear hb); (try clear hb2); (try clear hk); (try clear hi))))
   go_meet
   case rel => exact ⟨_, (!t519), (by first | rfl | (simp; done) | (simp [*]; done) | (simp; exact (by decide : ∀ a_ b_ : Bool, (a_ == b_) = (!a_ != b_)) _ _)), H', ⟨by first | omega | exact Nat.le_refl _⟩, ⟨by (with_reducible repeat (first | apply Kd.V_alloc | apply Kd.V_drewN | apply Kd.V_drew)); exact HO0.out⟩, ⟨by repeat (first | (with_reducible first | exact HB.out | apply bal | apply bdN | apply bdo) | exact HB.out)⟩⟩
  ·
   replace c6 := Bool.eq_false_iff.mpr c6
   subst c6
   have H1 : (shardloglaw10_BlockCuts.j0 k l0 a1 a2 true) = some r := by rw [if_neg (show ¬ (false = true) by decide)] at H; exact H
   clear H; have H := H1; clear H1
   have H' := aS H
   clear H
   go_wp2_with (first | (go_at_call 8; (with_reducible refine (shardloglaw10_awake.calls k  false _ A5.out).mono ?_); rintro e w10 ⟨rfl, hb⟩; have n0_ := aS (Kd.V_below (by (with_reducible repeat (first | apply Kd.V_alloc | apply Kd.V_drewN | apply Kd.V_drew)); exact HO0.out) hb); have n1_ := aS (below_step (by repeat (first | (with_reducible first | exact HB.out | apply bal | apply bdN | apply bdo) | exact HB.out)) hb); clear HO0; clear HB; have HO0 := n0_; have HB := n1_; clear n0_ n1_; (try clear hb); (try clear hb2); (try clear hk); (try clear hi)))
   repeat (go_quiet (first | (go_at_call 8; (with_reducible refine (shardloglaw10_awake.calls k  false _ A5.out).mono ?_); rintro e w10 ⟨rfl, hb⟩; have n0_ := aS (Kd.V_below (by (with_reducible repeat (first | apply Kd.V_alloc | apply Kd.V_drewN | apply Kd.V_drew)); exact HO0.out) hb); have n1_ := aS (below_step (by repeat (first | (with_reducible first | exact HB.out | apply bal | apply bdN | apply bdo) | exact HB.out)) hb); clear HO0; clear HB; have HO0 := n0_; have HB := n1_; clear n0_ n1_; (try clear hb); (try clear hb2); (try clear hk); (try clear hi))); try go_wp2_with (first | (go_at_call 8; (with_reducible refine (shardloglaw10_awake.calls k  false _ A5.out).mono ?_); rintro e w10 ⟨rfl, hb⟩; have n0_ := aS (Kd.V_below (by (with_reducible repeat (first | apply Kd.V_alloc | apply Kd.V_drewN | apply Kd.V_drew)); exact HO0.out) hb); have n1_ := aS (below_step (by repeat (first | (with_reducible first | exact HB.out | apply bal | apply bdN | apply bdo) | exact HB.out)) hb); clear HO0; clear HB; have HO0 := n0_; have HB := n1_; clear n0_ n1_; (try clear hb); (try clear hb2); (try clear hk); (try clear hi))))
   go_meet
   case rel => exact ⟨_, (true), (by first | rfl | (simp; done) | (simp [*]; done) | (simp; exact (by decide : ∀ a_ b_ : Bool, (a_ == b_) = (!a_ != b_)) _ _)), H', ⟨by first | omega | exact Nat.le_refl _⟩, ⟨by (with_reducible repeat (first | apply Kd.V_alloc | apply Kd.V_drewN | apply Kd.V_drew)); exact HO0.out⟩, ⟨by repeat (first | (with_reducible first | exact HB.out | apply bal | apply bdN | apply bdo) | exact HB.out)⟩⟩
 case rest =>
  clear HC4; (try clear p2); (try clear c3); (try clear c6)
  obtain ⟨kq, x17_3, rfl, HA, HJ3, HO_0, HB⟩ := hcut
  cases kq with
  | zero => exact absurd HA.out (by simp [shardloglaw10_BlockCuts.j0])
  | succ kj3 =>
   have H := HA.out; clear HA
   simp only [shardloglaw10_BlockCuts.j0] at H
   by_cases c11 : x17_3 = true
   ·
    subst c11
    have H1 : ((shardloglaw10_awake.f kj3).bind fun t520 => (some t520)) = some r := by rw [if_pos rfl] at H; exact H
    clear H; have H := H1; clear H1
    replace H := obm H
    obtain ⟨t520, A120, H⟩ := H
    replace H : (some t520) = some r := H
    have A12 := aS A120
    clear A120
    obtain rfl := Option.some.inj H
    go_wp2_with (first | (go_at_call 8; (with_reducible refine (shardloglaw10_awake.calls kj3  t520 _ A12.out).mono ?_); rintro e w13 ⟨rfl, hb⟩; have n0_ := aS (Kd.V_below (by (with_reducible repeat (first | apply Kd.V_alloc | apply Kd.V_drewN | apply Kd.V_drew)); exact HO_0.out) hb); have n1_ := aS (below_step (by repeat (first | (with_reducible first | exact HB.out | apply bal | apply bdN | apply bdo) | exact HB.out)) hb); clear HO_0; clear HB; have HO_0 := n0_; have HB := n1_; clear n0_ n1_; (try clear hb); (try clear hb2); (try clear hk); (try clear hi)))
    repeat (go_quiet (first | (go_at_call 8; (with_reducible refine (shardloglaw10_awake.calls kj3  t520 _ A12.out).mono ?_); rintro e w13 ⟨rfl, hb⟩; have n0_ := aS (Kd.V_below (by (with_reducible repeat (first | apply Kd.V_alloc | apply Kd.V_drewN | apply Kd.V_drew)); exact HO_0.out) hb); have n1_ := aS (below_step (by repeat (first | (with_reducible first | exact HB.out | apply bal | apply bdN | apply bdo) | exact HB.out)) hb); clear HO_0; clear HB; have HO_0 := n0_; have HB := n1_; clear n0_ n1_; (try clear hb); (try clear hb2); (try clear hk); (try clear hi))); try go_wp2_with (first | (go_at_call 8; (with_reducible refine (shardloglaw10_awake.calls kj3  t520 _ A12.out).mono ?_); rintro e w13 ⟨rfl, hb⟩; have n0_ := aS (Kd.V_below (by (with_reducible repeat (first | apply Kd.V_alloc | apply Kd.V_drewN | apply Kd.V_drew)); exact HO_0.out) hb); have n1_ := aS (below_step (by repeat (first | (with_reducible first | exact HB.out | apply bal | apply bdN | apply bdo) | exact HB.out)) hb); clear HO_0; clear HB; have HO_0 := n0_; have HB := n1_; clear n0_ n1_; (try clear hb); (try clear hb2); (try clear hk); (try clear hi))))
    go_ret
    exact ⟨by first | rfl | (simp [errW_none, errW_some] <;> rfl) | (simp [*, errW_none, errW_some] <;> rfl), by repeat (first | (with_reducible first | exact HB.out | apply bal | apply bdN | apply bdo) | exact HB.out)⟩
   ·
    replace c11 := Bool.eq_false_iff.mpr c11
    subst c11
    have H1 : (if a2 = true then ((shardlogref08_Sort.f kj3 l0).bind fun t521 => (shardloglaw10_BlockCuts.j1 kj3 t521 a1)) else (shardloglaw10_BlockCuts.j1 kj3 l0 a1)) = some r := by rw [if_neg (show ¬ (false = true) by decide)] at H; exact H
    clear H; have H := H1; clear H1
    have HC14 := aS H
    clear H
    go_upto_if 19 with (fail)
    repeat (go_quiet (fail); go_upto_if 19 with (fail))
    go_cut [0] (fun v0 wc => ∃ (kq : Nat) (x0_13 : List (S46)), Aside0 (shardloglaw10_BlockCuts.j1 kq x0_13 a1 = some r) ∧ Aside0 (kq ≤ kj3) ∧ Aside0 (Kd.V k46 46 wc w.heap.size (fun k_ => (P0_ k_ ∨ w.heap.size ≤ k_)) v0 x0_13) ∧ Aside0 (Below w.heap.size w wc))
    case first =>
     have H := HC14.out; clear HC14
     by_cases c15 : a2 = true
     ·
      subst c15
      have H1 : ((shardlogref08_Sort.f kj3 l0).bind fun t521 => (shardloglaw10_BlockCuts.j1 kj3 t521 a1)) = some r := by rw [if_pos rfl] at H; exact H
      clear H; have H := H1; clear H1
      replace H := obm H
      obtain ⟨t521, A160, H⟩ := H
      replace H : (shardloglaw10_BlockCuts.j1 kj3 t521 a1) = some r := H
      have A16 := aS A160
      clear A160
      have H' := aS H
      clear H
      go_wp2_with (first | (go_at_call 10; (with_reducible refine (shardlogref08_Sort.calls kj3 _ _ l0 t521 _ ?side1 ?side2 A16.out).mono ?_); (case side1 => repeat (first | exact (Kd.V_reads' HO_0.out).2.2 | (with_reducible refine Kd.C_alloc ?_ _) | (with_reducible refine Kd.C_drewN ?_ _) | (with_reducible refine Kd.C_drew ?_))); (case side2 => exact (Kd.V_reads' HO_0.out).2.1); rintro e w17 ⟨v522, rfl, ho0, hb⟩; have n0_ := aS (Kd.V_elder' (by (with_reducible repeat (first | apply Kd.V_alloc | apply Kd.V_drewN | apply Kd.V_drew)); exact HO_0.out) (by first | exact Kd.R_base ho0 | exact Kd.S_base ho0 | exact Kd.R_base ho0 | exact Kd.V_base ho0) hb); have n1_ := aS (Kd.R_lower (Kd.R_newM (M := fun k_ => (w.heap.size ≤ k_)) ho0 (below_size (by repeat (first | (with_reducible first | exact HB.out | apply bal | apply bdN | apply bdo) | exact HB.out))) (fun k_ h_ => h_)) (below_size (by repeat (first | (with_reducible first | exact HB.out | apply bal | apply bdN | apply bdo) | exact HB.out)))); have n2_ := aS (below_step (by repeat (first | (with_reducible first | exact HB.out | apply bal | apply bdN | apply bdo) | exact HB.out)) hb); clear HO_0; clear HB; have HO_0 := n0_; have HO523 := n1_; have HB := n2_; clear n0_ n1_ n2_; (try clear hb); (try clear hb2); (try clear hk); (try clear hi); (try clear ho0)))
      repeat (go_quiet (first | (go_at_call 10; (with_reducible refine (shardlogref08_Sort.calls kj3 _ _ l0 t521 _ ?side1 ?side2 A16.out).mono ?_); (case side1 => repeat (first | exact (Kd.V_reads' HO_0.out).2.2 | (with_reducible refine Kd.C_alloc ?_ _) | (with_reducible refine Kd.C_drewN ?_ _) | (with_reducible refine Kd.C_drew ?_))); (case side2 => exact (Kd.V_reads' HO_0.out).2.1); rintro e w17 ⟨v522, rfl, ho0, hb⟩; have n0_ := aS (Kd.V_elder' (by (with_reducible repeat (first | apply Kd.V_alloc | apply Kd.V_drewN | apply Kd.V_drew)); exact HO_0.out) (by first | exact Kd.R_base ho0 | exact Kd.S_base ho0 | exact Kd.R_base ho0 | exact Kd.V_base ho0) hb); have n1_ := aS (Kd.R_lower (Kd.R_newM (M := fun k_ => (w.heap.size ≤ k_)) ho0 (below_size (by repeat (first | (with_reducible first | exact HB.out | apply bal | apply bdN | apply bdo) | exact HB.out))) (fun k_ h_ => h_)) (below_size (by repeat (first | (with_reducible first | exact HB.out | apply bal | apply bdN | apply bdo) | exact HB.out)))); have n2_ := aS (below_step (by repeat (first | (with_reducible first | exact HB.out | apply bal | apply bdN | apply bdo) | exact HB.out)) hb); clear HO_0; clear HB; have HO_0 := n0_; have HO523 := n1_; have HB := n2_; clear n0_ n1_ n2_; (try clear hb); (try clear hb2); (try clear hk); (try clear hi); (try clear ho0))); try go_wp2_with (first | (go_at_call 10; (with_reducible refine (shardlogref08_Sort.calls kj3 _ _ l0 t521 _ ?side1 ?side2 A16.out).mono ?_); (case side1 => repeat (first | exact (Kd.V_reads' HO_0.out).2.2 | (with_reducible refine Kd.C_alloc ?_ _) | (with_reducible refine Kd.C_drewN ?_ _) | (with_reducible refine Kd.C_drew ?_))); (case side2 => exact (Kd.V_reads' HO_0.out).2.1); rintro e w17 ⟨v522, rfl, ho0, hb⟩; have n0_ := aS (Kd.V_elder' (by (with_reducible repeat (first | apply Kd.V_alloc | apply Kd.V_drewN | apply Kd.V_drew)); exact HO_0.out) (by first | exact Kd.R_base ho0 | exact Kd.S_base ho0 | exact Kd.R_base ho0 | exact Kd.V_base ho0) hb); have n1_ := aS (Kd.R_lower (Kd.R_newM (M := fun k_ => (w.heap.size ≤ k_)) ho0 (below_size (by repeat (first | (with_reducible first | exact HB.out | apply bal | apply bdN | apply bdo) | exact HB.out))) (fun k_ h_ => h_)) (below_size (by repeat (first | (with_reducible first | exact HB.out | apply bal | apply bdN | apply bdo) | exact HB.out)))); have n2_ := aS (below_step (by repeat (first | (with_reducible first | exact HB.out | apply bal | apply bdN | apply bdo) | exact HB.out)) hb); clear HO_0; clear HB; have HO_0 := n0_; have HO523 := n1_; have HB := n2_; clear n0_ n1_ n2_; (try clear hb); (try clear hb2); (try clear hk); (try clear hi); (try clear ho0))))
      go_meet
      case rel => exact ⟨_, (t521), H', ⟨by have := HJ3.out; first | omega | exact Nat.le_refl _⟩, ⟨Kd.V_mono (Kd.R_V (by (with_reducible repeat (first | apply Kd.R_alloc | apply Kd.R_drewN | apply Kd.R_drew)); exact Kd.R_mono HO523.out (fun _ hk => hk.1))) (fun k_ hk => by first | exact ⟨(.inr (hk.1)), hk.2⟩ | exact (.inr (hk)))⟩, ⟨by repeat (first | (with_reducible first | exact HB.out | apply bal | apply bdN | apply bdo) | exact HB.out)⟩⟩
     ·
      replace c15 := Bool.eq_false_iff.mpr c15
      subst c15
      have H1 : (shardloglaw10_BlockCuts.j1 kj3 l0 a1) = some r := by rw [if_neg (show ¬ (false = true) by decide)] at H; exact H
      clear H; have H := H1; clear H1
      have H' := aS H
      clear H
      go_wp2
      repeat (go_quiet (fail); try go_wp2)
      go_meet
      case rel => exact ⟨_, (l0), H', ⟨by have := HJ3.out; first | omega | exact Nat.le_refl _⟩, ⟨by (with_reducible repeat (first | apply Kd.V_alloc | apply Kd.V_drewN | apply Kd.V_drew)); exact HO_0.out⟩, ⟨by repeat (first | (with_reducible first | exact HB.out | apply bal | apply bdN | apply bdo) | exact HB.out)⟩⟩
    case rest =>
     clear HC14; (try clear c1); (try clear p2); (try clear c3); (try clear c6); (try clear c11); (try clear c15); (try clear p2)
     obtain ⟨kq, x0_13, HA, HJ13, HO_0, HB⟩ := hcut
     cases kq with
     | zero => exact absurd HA.out (by simp [shardloglaw10_BlockCuts.j1])
     | succ kj13 =>
      have H := HA.out; clear HA
      simp only [shardloglaw10_BlockCuts.j1] at H
      replace H := obm H
      obtain ⟨⟨t524, t527⟩, A180, H⟩ := H
      replace H : ((shardlogref08_Sorted.f kj13 x0_13).bind fun t528 => (if t528 = true then (shardloglaw10_BlockCuts.j2 kj13 x0_13 a1 t524 t527 (decide (a1 < 1))) else (shardloglaw10_BlockCuts.j2 kj13 x0_13 a1 t524 t527 true))) = some r := H
      have A18 := aS A180
      clear A180
      have HC19 := aS H
      clear H
      obtain ⟨Ao20, co20, eo20⟩ := Kd.V_slice HO_0.out
      subst eo20
      go_upto_region 6 with (first | (go_at_call 11; (with_reducible refine (block_Cut.calls kj13 (fun k_ => (P0_ k_ ∨ w.heap.size ≤ k_)) _ _ x0_13 a1 t524 t527 _ ?side1 A18.out).mono ?_); (case side1 => exact HO_0.out); rintro e w21 ⟨v525, rfl, ho0, hb⟩; have n0_ := aS (Kd.V_elder' (by (with_reducible repeat (first | apply Kd.V_alloc | apply Kd.V_drewN | apply Kd.V_drew)); exact HO_0.out) (by first | exact Kd.S_base ho0 | exact Kd.S_base ho0 | exact Kd.R_base ho0 | exact Kd.V_base ho0) hb); have n1_ := aS (Kd.S_lower (Kd.S_newM (M := fun k_ => (w.heap.size ≤ k_)) (Kd.S_mono (ok' := fun k_ => True) ho0 (fun _ hk_ => trivial)) (below_size (by repeat (first | (with_reducible first | exact HB.out | apply bal | apply bdN | apply bdo) | exact HB.out))) (fun k_ h_ => h_)) (below_size (by repeat (first | (with_reducible first | exact HB.out | apply bal | apply bdN | apply bdo) | exact HB.out)))); have n2_ := aS (below_step (by repeat (first | (with_reducible first | exact HB.out | apply bal | apply bdN | apply bdo) | exact HB.out)) hb); clear HO_0; clear HB; have HO_0 := n0_; have HO526 := n1_; have HB := n2_; clear n0_ n1_ n2_; (try clear hb); (try clear hb2); (try clear hk); (try clear hi); (try clear ho0)))
      repeat (go_quiet (first | (go_at_call 11; (with_reducible refine (block_Cut.calls kj13 (fun k_ => (P0_ k_ ∨ w.heap.size ≤ k_)) _ _ x0_13 a1 t524 t527 _ ?side1 A18.out).mono ?_); (case side1 => exact HO_0.out); rintro e w21 ⟨v525, rfl, ho0, hb⟩; have n0_ := aS (Kd.V_elder' (by (with_reducible repeat (first | apply Kd.V_alloc | apply Kd.V_drewN | apply Kd.V_drew)); exact HO_0.out) (by first | exact Kd.S_base ho0 | exact Kd.S_base ho0 | exact Kd.R_base ho0 | exact Kd.V_base ho0) hb); have n1_ := aS (Kd.S_lower (Kd.S_newM (M := fun k_ => (w.heap.size ≤ k_)) (Kd.S_mono (ok' := fun k_ => True) ho0 (fun _ hk_ => trivial)) (below_size (by repeat (first | (with_reducible first | exact HB.out | apply bal | apply bdN | apply bdo) | exact HB.out))) (fun k_ h_ => h_)) (below_size (by repeat (first | (with_reducible first | exact HB.out | apply bal | apply bdN | apply bdo) | exact HB.out)))); have n2_ := aS (below_step (by repeat (first | (with_reducible first | exact HB.out | apply bal | apply bdN | apply bdo) | exact HB.out)) hb); clear HO_0; clear HB; have HO_0 := n0_; have HO526 := n1_; have HB := n2_; clear n0_ n1_ n2_; (try clear hb); (try clear hb2); (try clear hk); (try clear hi); (try clear ho0))); go_upto_region 6 with (first | (go_at_call 11; (with_reducible refine (block_Cut.calls kj13 (fun k_ => (P0_ k_ ∨ w.heap.size ≤ k_)) _ _ x0_13 a1 t524 t527 _ ?side1 A18.out).mono ?_); (case side1 => exact HO_0.out); rintro e w21 ⟨v525, rfl, ho0, hb⟩; have n0_ := aS (Kd.V_elder' (by (with_reducible repeat (first | apply Kd.V_alloc | apply Kd.V_drewN | apply Kd.V_drew)); exact HO_0.out) (by first | exact Kd.S_base ho0 | exact Kd.S_base ho0 | exact Kd.R_base ho0 | exact Kd.V_base ho0) hb); have n1_ := aS (Kd.S_lower (Kd.S_newM (M := fun k_ => (w.heap.size ≤ k_)) (Kd.S_mono (ok' := fun k_ => True) ho0 (fun _ hk_ => trivial)) (below_size (by repeat (first | (with_reducible first | exact HB.out | apply bal | apply bdN | apply bdo) | exact HB.out))) (fun k_ h_ => h_)) (below_size (by repeat (first | (with_reducible first | exact HB.out | apply bal | apply bdN | apply bdo) | exact HB.out)))); have n2_ := aS (below_step (by repeat (first | (with_reducible first | exact HB.out | apply bal | apply bdN | apply bdo) | exact HB.out)) hb); clear HO_0; clear HB; have HO_0 := n0_; have HO526 := n1_; have HB := n2_; clear n0_ n1_ n2_; (try clear hb); (try clear hb2); (try clear hk); (try clear hi); (try clear ho0))))
      (try simp only [Act.put, lsa, lsz, lss])
      go_cut [34] (fun v34 wc => ∃ (kq : Nat) (x34_18 : Bool), v34 = .bool x34_18 ∧ Aside0 (shardloglaw10_BlockCuts.j2 kq x0_13 a1 t524 t527 x34_18 = some r) ∧ Aside0 (kq ≤ kj13) ∧ Aside0 (Kd.V k46 46 wc w.heap.size (fun k_ => (P0_ k_ ∨ w.heap.size ≤ k_) ∧ some k_ ≠ (v525 : Value).ownBlock) (.slice Ao20 x0_13.length co20) x0_13) ∧ Aside0 (Kd.S (Kd.slice 46 k46) 22 wc w.heap.size (fun k_ => (w.heap.size ≤ k_)) v525 t524) ∧ Aside0 (Below w.heap.size w wc))
      case first =>
       have H := HC19.out; clear HC19
       replace H := obm H
       obtain ⟨t528, A220, H⟩ := H
       replace H : (if t528 = true then (shardloglaw10_BlockCuts.j2 kj13 x0_13 a1 t524 t527 (decide (a1 < 1))) else (shardloglaw10_BlockCuts.j2 kj13 x0_13 a1 t524 t527 true)) = some r := H
       have A22 := aS A220
       clear A220
       by_cases c23 : t528 = true
       ·
        subst c23
        have H1 : (shardloglaw10_BlockCuts.j2 kj13 x0_13 a1 t524 t527 (decide (a1 < 1))) = some r := by rw [if_pos rfl] at H; exact H
        clear H; have H := H1; clear H1
        have H' := aS H
        clear H
        go_wp2_with (first | (go_at_call 12; (with_reducible refine (shardlogref08_Sorted.calls kj13 _ _ x0_13 true _ ?side1 ?side2 A22.out).mono ?_); (case side1 => repeat (first | exact (Kd.V_reads' HO_0.out).2.2 | (with_reducible refine Kd.C_alloc ?_ _) | (with_reducible refine Kd.C_drewN ?_ _) | (with_reducible refine Kd.C_drew ?_))); (case side2 => exact (Kd.V_reads' HO_0.out).2.1); rintro e w24 ⟨rfl, hb⟩; have n0_ := aS (Kd.V_below (by (with_reducible repeat (first | apply Kd.V_alloc | apply Kd.V_drewN | apply Kd.V_drew)); exact HO_0.out) hb); have n1_ := aS (Kd.S_below (by (with_reducible repeat (first | apply Kd.S_alloc | apply Kd.S_drewN | apply Kd.S_drew)); exact HO526.out) hb); have n2_ := aS (below_step (by repeat (first | (with_reducible first | exact HB.out | apply bal | apply bdN | apply bdo) | exact HB.out)) hb); clear HO_0; clear HO526; clear HB; have HO_0 := n0_; have HO526 := n1_; have HB := n2_; clear n0_ n1_ n2_; (try clear hb); (try clear hb2); (try clear hk); (try clear hi)))
        repeat (go_quiet (first | (go_at_call 12; (with_reducible refine (shardlogref08_Sorted.calls kj13 _ _ x0_13 true _ ?side1 ?side2 A22.out).mono ?_); (case side1 => repeat (first | exact (Kd.V_reads' HO_0.out).2.2 | (with_reducible refine Kd.C_alloc ?_ _) | (with_reducible refine Kd.C_drewN ?_ _) | (with_reducible refine Kd.C_drew ?_))); (case side2 => exact (Kd.V_reads' HO_0.out).2.1); rintro e w24 ⟨rfl, hb⟩; have n0_ := aS (Kd.V_below (by (with_reducible repeat (first | apply Kd.V_alloc | apply Kd.V_drewN | apply Kd.V_drew)); exact HO_0.out) hb); have n1_ := aS (Kd.S_below (by (with_reducible repeat (first | apply Kd.S_alloc | apply Kd.S_drewN | apply Kd.S_drew)); exact HO526.out) hb); have n2_ := aS (below_step (by repeat (first | (with_reducible first | exact HB.out | apply bal | apply bdN | apply bdo) | exact HB.out)) hb); clear HO_0; clear HO526; clear HB; have HO_0 := n0_; have HO526 := n1_; have HB := n2_; clear n0_ n1_ n2_; (try clear hb); (try clear hb2); (try clear hk); (try clear hi))); try go_wp2_with (first | (go_at_call 12; (with_reducible refine (shardlogref08_Sorted.calls kj13 _ _ x0_13 true _ ?side1 ?side2 A22.out).mono ?_); (case side1 => repeat (first | exact (Kd.V_reads' HO_0.out).2.2 | (with_reducible refine Kd.C_alloc ?_ _) | (with_reducible refine Kd.C_drewN ?_ _) | (with_reducible refine Kd.C_drew ?_))); (case side2 => exact (Kd.V_reads' HO_0.out).2.1); rintro e w24 ⟨rfl, hb⟩; have n0_ := aS (Kd.V_below (by (with_reducible repeat (first | apply Kd.V_alloc | apply Kd.V_drewN | apply Kd.V_drew)); exact HO_0.out) hb); have n1_ := aS (Kd.S_below (by (with_reducible repeat (first | apply Kd.S_alloc | apply Kd.S_drewN | apply Kd.S_drew)); exact HO526.out) hb); have n2_ := aS (below_step (by repeat (first | (with_reducible first | exact HB.out | apply bal | apply bdN | apply bdo) | exact HB.out)) hb); clear HO_0; clear HO526; clear HB; have HO_0 := n0_; have HO526 := n1_; have HB := n2_; clear n0_ n1_ n2_; (try clear hb); (try clear hb2); (try clear hk); (try clear hi))))
        go_meet
        case rel => exact ⟨_, (decide (a1 < 1)), (by first | rfl | (simp; done) | (simp [*]; done) | (simp; exact (by decide : ∀ a_ b_ : Bool, (a_ == b_) = (!a_ != b_)) _ _)), H', ⟨by have := HJ3.out; have := HJ13.out; first | omega | exact Nat.le_refl _⟩, ⟨by (with_reducible repeat (first | apply Kd.V_alloc | apply Kd.V_drewN | apply Kd.V_drew)); exact HO_0.out⟩, ⟨by (with_reducible repeat (first | apply Kd.S_alloc | apply Kd.S_drewN | apply Kd.S_drew)); exact Kd.S_mono HO526.out (fun _ hk => hk.1)⟩, ⟨by repeat (first | (with_reducible first | exact HB.out | apply bal | apply bdN | apply bdo) | exact HB.out)⟩⟩
       ·
        replace c23 := Bool.eq_false_iff.mpr c23
        subst c23
        have H1 : (shardloglaw10_BlockCuts.j2 kj13 x0_13 a1 t524 t527 true) = some r := by rw [if_neg (show ¬ (false = true) by decide)] at H; exact H
        clear H; have H := H1; clear H1
        have H' := aS H
        clear H
        go_wp2_with (first | (go_at_call 12; (with_reducible refine (shardlogref08_Sorted.calls kj13 _ _ x0_13 false _ ?side1 ?side2 A22.out).mono ?_); (case side1 => repeat (first | exact (Kd.V_reads' HO_0.out).2.2 | (with_reducible refine Kd.C_alloc ?_ _) | (with_reducible refine Kd.C_drewN ?_ _) | (with_reducible refine Kd.C_drew ?_))); (case side2 => exact (Kd.V_reads' HO_0.out).2.1); rintro e w25 ⟨rfl, hb⟩; have n0_ := aS (Kd.V_below (by (with_reducible repeat (first | apply Kd.V_alloc | apply Kd.V_drewN | apply Kd.V_drew)); exact HO_0.out) hb); have n1_ := aS (Kd.S_below (by (with_reducible repeat (first | apply Kd.S_alloc | apply Kd.S_drewN | apply Kd.S_drew)); exact HO526.out) hb); have n2_ := aS (below_step (by repeat (first | (with_reducible first | exact HB.out | apply bal | apply bdN | apply bdo) | exact HB.out)) hb); clear HO_0; clear HO526; clear HB; have HO_0 := n0_; have HO526 := n1_; have HB := n2_; clear n0_ n1_ n2_; (try clear hb); (try clear hb2); (try clear hk); (try clear hi)))
        repeat (go_quiet (first | (go_at_call 12; (with_reducible refine (shardlogref08_Sorted.calls kj13 _ _ x0_13 false _ ?side1 ?side2 A22.out).mono ?_); (case side1 => repeat (first | exact (Kd.V_reads' HO_0.out).2.2 | (with_reducible refine Kd.C_alloc ?_ _) | (with_reducible refine Kd.C_drewN ?_ _) | (with_reducible refine Kd.C_drew ?_))); (case side2 => exact (Kd.V_reads' HO_0.out).2.1); rintro e w25 ⟨rfl, hb⟩; have n0_ := aS (Kd.V_below (by (with_reducible repeat (first | apply Kd.V_alloc | apply Kd.V_drewN | apply Kd.V_drew)); exact HO_0.out) hb); have n1_ := aS (Kd.S_below (by (with_reducible repeat (first | apply Kd.S_alloc | apply Kd.S_drewN | apply Kd.S_drew)); exact HO526.out) hb); have n2_ := aS (below_step (by repeat (first | (with_reducible first | exact HB.out | apply bal | apply bdN | apply bdo) | exact HB.out)) hb); clear HO_0; clear HO526; clear HB; have HO_0 := n0_; have HO526 := n1_; have HB := n2_; clear n0_ n1_ n2_; (try clear hb); (try clear hb2); (try clear hk); (try clear hi))); try go_wp2_with (first | (go_at_call 12; (with_reducible refine (shardlogref08_Sorted.calls kj13 _ _ x0_13 false _ ?side1 ?side2 A22.out).mono ?_); (case side1 => repeat (first | exact (Kd.V_reads' HO_0.out).2.2 | (with_reducible refine Kd.C_alloc ?_ _) | (with_reducible refine Kd.C_drewN ?_ _) | (with_reducible refine Kd.C_drew ?_))); (case side2 => exact (Kd.V_reads' HO_0.out).2.1); rintro e w25 ⟨rfl, hb⟩; have n0_ := aS (Kd.V_below (by (with_reducible repeat (first | apply Kd.V_alloc | apply Kd.V_drewN | apply Kd.V_drew)); exact HO_0.out) hb); have n1_ := aS (Kd.S_below (by (with_reducible repeat (first | apply Kd.S_alloc | apply Kd.S_drewN | apply Kd.S_drew)); exact HO526.out) hb); have n2_ := aS (below_step (by repeat (first | (with_reducible first | exact HB.out | apply bal | apply bdN | apply bdo) | exact HB.out)) hb); clear HO_0; clear HO526; clear HB; have HO_0 := n0_; have HO526 := n1_; have HB := n2_; clear n0_ n1_ n2_; (try clear hb); (try clear hb2); (try clear hk); (try clear hi))))
        go_meet
        case rel => exact ⟨_, (true), (by first | rfl | (simp; done) | (simp [*]; done) | (simp; exact (by decide : ∀ a_ b_ : Bool, (a_ == b_) = (!a_ != b_)) _ _)), H', ⟨by have := HJ3.out; have := HJ13.out; first | omega | exact Nat.le_refl _⟩, ⟨by (with_reducible repeat (first | apply Kd.V_alloc | apply Kd.V_drewN | apply Kd.V_drew)); exact HO_0.out⟩, ⟨by (with_reducible repeat (first | apply Kd.S_alloc | apply Kd.S_drewN | apply Kd.S_drew)); exact Kd.S_mono HO526.out (fun _ hk => hk.1)⟩, ⟨by repeat (first | (with_reducible first | exact HB.out | apply bal | apply bdN | apply bdo) | exact HB.out)⟩⟩
      case rest =>
       clear HC19; (try clear c1); (try clear c2); (try clear p2); (try clear c3); (try clear c6); (try clear c11); (try clear c15); (try clear c23); (try clear p2)
       obtain ⟨kq, x34_18, rfl, HA, HJ18, HO_0, HO_7, HB⟩ := hcut
       cases kq with
       | zero => exact absurd HA.out (by simp [shardloglaw10_BlockCuts.j2])
       | succ kj18 =>
        have H := HA.out; clear HA
        simp only [shardloglaw10_BlockCuts.j2] at H
        by_cases c26 : x34_18 = true
        ·
         subst c26
         have H1 : (if t527 = 1 then (some ((t524.length : Int) == 0)) else (none)) = some r := by rw [if_pos rfl] at H; exact H
         clear H; have H := H1; clear H1
         by_cases c27 : t527 = 1
         ·
          rw [if_pos c27] at H
          have c27b0 : (t527 == 1) = true := beq_iff_eq.mpr c27
          have c27b1 : (t527 != 1) = false := bne_eq_false_iff_eq.mpr c27
          clear c27
          obtain rfl := Option.some.inj H
          obtain ⟨Ao28, co28, eo28⟩ := Kd.S_slice HO_7.out
          subst eo28
          go_wp2
          repeat (go_quiet (fail); try go_wp2)
          go_ret
          exact ⟨by first | rfl | (simp [errW_none, errW_some] <;> rfl) | (simp [*, errW_none, errW_some] <;> rfl), by repeat (first | (with_reducible first | exact HB.out | apply bal | apply bdN | apply bdo) | exact HB.out)⟩
         ·
          rw [if_neg c27] at H
          exact absurd H (by simp)
        ·
         replace c26 := Bool.eq_false_iff.mpr c26
         subst c26
         have H1 : ((shardlogref10_Cut.f kj18 x0_13 a1).bind fun t529 => (if t527 = 0 then (shardloglaw10_BlockCuts.j3 kj18 t524 t529 ((t524.length : Int) != (t529.length : Int))) else (shardloglaw10_BlockCuts.j3 kj18 t524 t529 true))) = some r := by rw [if_neg (show ¬ (false = true) by decide)] at H; exact H
         clear H; have H := H1; clear H1
         replace H := obm H
         obtain ⟨t529, A290, H⟩ := H
         replace H : (if t527 = 0 then (shardloglaw10_BlockCuts.j3 kj18 t524 t529 ((t524.length : Int) != (t529.length : Int))) else (shardloglaw10_BlockCuts.j3 kj18 t524 t529 true)) = some r := H
         have A29 := aS A290
         clear A290
         have HC30 := aS H
         clear H
         go_upto_region 9 with (first | (go_at_call 13; (with_reducible refine (shardlogref10_Cut.calls kj18 _ _ x0_13 a1 t529 _ ?side1 ?side2 A29.out).mono ?_); (case side1 => repeat (first | exact (Kd.V_reads' HO_0.out).2.2 | (with_reducible refine Kd.C_alloc ?_ _) | (with_reducible refine Kd.C_drewN ?_ _) | (with_reducible refine Kd.C_drew ?_))); (case side2 => exact (Kd.V_reads' HO_0.out).2.1); rintro e w31 ⟨v530, rfl, ho0, hb⟩; have n0_ := aS (Kd.V_elder' (by (with_reducible repeat (first | apply Kd.V_alloc | apply Kd.V_drewN | apply Kd.V_drew)); exact HO_0.out) (by first | exact Kd.S_base ho0 | exact Kd.S_base ho0 | exact Kd.R_base ho0 | exact Kd.V_base ho0) hb); have n1_ := aS (Kd.S_elder' (by (with_reducible repeat (first | apply Kd.S_alloc | apply Kd.S_drewN | apply Kd.S_drew)); exact HO_7.out) (by first | exact Kd.S_base ho0 | exact Kd.S_base ho0 | exact Kd.R_base ho0 | exact Kd.V_base ho0) hb); have n2_ := aS (Kd.S_lower (Kd.S_new' (Kd.S_newM (M := fun k_ => (w.heap.size ≤ k_)) ho0 (below_size (by repeat (first | (with_reducible first | exact HB.out | apply bal | apply bdN | apply bdo) | exact HB.out))) (fun k_ h_ => h_)) (Kd.S_lt (by (with_reducible repeat (first | apply Kd.S_alloc | apply Kd.S_drewN | apply Kd.S_drew)); exact HO_7.out))) (below_size (by repeat (first | (with_reducible first | exact HB.out | apply bal | apply bdN | apply bdo) | exact HB.out)))); have n3_ := aS (below_step (by repeat (first | (with_reducible first | exact HB.out | apply bal | apply bdN | apply bdo) | exact HB.out)) hb); clear HO_0; clear HO_7; clear HB; have HO_0 := n0_; have HO_7 := n1_; have HO531 := n2_; have HB := n3_; clear n0_ n1_ n2_ n3_; (try clear hb); (try clear hb2); (try clear hk); (try clear hi); (try clear ho0)))
         repeat (go_quiet (first | (go_at_call 13; (with_reducible refine (shardlogref10_Cut.calls kj18 _ _ x0_13 a1 t529 _ ?side1 ?side2 A29.out).mono ?_); (case side1 => repeat (first | exact (Kd.V_reads' HO_0.out).2.2 | (with_reducible refine Kd.C_alloc ?_ _) | (with_reducible refine Kd.C_drewN ?_ _) | (with_reducible refine Kd.C_drew ?_))); (case side2 => exact (Kd.V_reads' HO_0.out).2.1); rintro e w31 ⟨v530, rfl, ho0, hb⟩; have n0_ := aS (Kd.V_elder' (by (with_reducible repeat (first | apply Kd.V_alloc | apply Kd.V_drewN | apply Kd.V_drew)); exact HO_0.out) (by first | exact Kd.S_base ho0 | exact Kd.S_base ho0 | exact Kd.R_base ho0 | exact Kd.V_base ho0) hb); have n1_ := aS (Kd.S_elder' (by (with_reducible repeat (first | apply Kd.S_alloc | apply Kd.S_drewN | apply Kd.S_drew)); exact HO_7.out) (by first | exact Kd.S_base ho0 | exact Kd.S_base ho0 | exact Kd.R_base ho0 | exact Kd.V_base ho0) hb); have n2_ := aS (Kd.S_lower (Kd.S_new' (Kd.S_newM (M := fun k_ => (w.heap.size ≤ k_)) ho0 (below_size (by repeat (first | (with_reducible first | exact HB.out | apply bal | apply bdN | apply bdo) | exact HB.out))) (fun k_ h_ => h_)) (Kd.S_lt (by (with_reducible repeat (first | apply Kd.S_alloc | apply Kd.S_drewN | apply Kd.S_drew)); exact HO_7.out))) (below_size (by repeat (first | (with_reducible first | exact HB.out | apply bal | apply bdN | apply bdo) | exact HB.out)))); have n3_ := aS (below_step (by repeat (first | (with_reducible first | exact HB.out | apply bal | apply bdN | apply bdo) | exact HB.out)) hb); clear HO_0; clear HO_7; clear HB; have HO_0 := n0_; have HO_7 := n1_; have HO531 := n2_; have HB := n3_; clear n0_ n1_ n2_ n3_; (try clear hb); (try clear hb2); (try clear hk); (try clear hi); (try clear ho0))); go_upto_region 9 with (first | (go_at_call 13; (with_reducible refine (shardlogref10_Cut.calls kj18 _ _ x0_13 a1 t529 _ ?side1 ?side2 A29.out).mono ?_); (case side1 => repeat (first | exact (Kd.V_reads' HO_0.out).2.2 | (with_reducible refine Kd.C_alloc ?_ _) | (with_reducible refine Kd.C_drewN ?_ _) | (with_reducible refine Kd.C_drew ?_))); (case side2 => exact (Kd.V_reads' HO_0.out).2.1); rintro e w31 ⟨v530, rfl, ho0, hb⟩; have n0_ := aS (Kd.V_elder' (by (with_reducible repeat (first | apply Kd.V_alloc | apply Kd.V_drewN | apply Kd.V_drew)); exact HO_0.out) (by first | exact Kd.S_base ho0 | exact Kd.S_base ho0 | exact Kd.R_base ho0 | exact Kd.V_base ho0) hb); have n1_ := aS (Kd.S_elder' (by (with_reducible repeat (first | apply Kd.S_alloc | apply Kd.S_drewN | apply Kd.S_drew)); exact HO_7.out) (by first | exact Kd.S_base ho0 | exact Kd.S_base ho0 | exact Kd.R_base ho0 | exact Kd.V_base ho0) hb); have n2_ := aS (Kd.S_lower (Kd.S_new' (Kd.S_newM (M := fun k_ => (w.heap.size ≤ k_)) ho0 (below_size (by repeat (first | (with_reducible first | exact HB.out | apply bal | apply bdN | apply bdo) | exact HB.out))) (fun k_ h_ => h_)) (Kd.S_lt (by (with_reducible repeat (first | apply Kd.S_alloc | apply Kd.S_drewN | apply Kd.S_drew)); exact HO_7.out))) (below_size (by repeat (first | (with_reducible first | exact HB.out | apply bal | apply bdN | apply bdo) | exact HB.out)))); have n3_ := aS (below_step (by repeat (first | (with_reducible first | exact HB.out | apply bal | apply bdN | apply bdo) | exact HB.out)) hb); clear HO_0; clear HO_7; clear HB; have HO_0 := n0_; have HO_7 := n1_; have HO531 := n2_; have HB := n3_; clear n0_ n1_ n2_ n3_; (try clear hb); (try clear hb2); (try clear hk); (try clear hi); (try clear ho0))))
         (try simp only [Act.put, lsa, lsz, lss])
         go_cut [53] (fun v53 wc => ∃ (kq : Nat) (x53_29 : Bool), v53 = .bool x53_29 ∧ Aside0 (shardloglaw10_BlockCuts.j3 kq t524 t529 x53_29 = some r) ∧ Aside0 (kq ≤ kj18) ∧ Aside0 (Kd.S (Kd.slice 46 k46) 22 wc w.heap.size (fun k_ => (w.heap.size ≤ k_) ∧ some k_ ≠ (v530 : Value).ownBlock) v525 t524) ∧ Aside0 (Kd.S (Kd.slice 46 k46) 22 wc w.heap.size (fun k_ => (w.heap.size ≤ k_) ∧ some k_ ≠ (v525 : Value).ownBlock) v530 t529) ∧ Aside0 (Below w.heap.size w wc))
         case first =>
          have H := HC30.out; clear HC30
          by_cases c32 : t527 = 0
          ·
           rw [if_pos c32] at H
           have c32b0 : (t527 == 0) = true := beq_iff_eq.mpr c32
           have c32b1 : (t527 != 0) = false := bne_eq_false_iff_eq.mpr c32
           clear c32
           (first | rw [c32b0] | (simp only [i64_w, i32_w]; rw [c32b0]) | skip)
           have H' := aS H
           clear H
           obtain ⟨Ao33, co33, eo33⟩ := Kd.S_slice HO_7.out
           subst eo33
           obtain ⟨Ao34, co34, eo34⟩ := Kd.S_slice HO531.out
           subst eo34
           go_wp2
           repeat (go_quiet (fail); try go_wp2)
           go_meet
           case rel => exact ⟨_, (((t524.length : Int) != (t529.length : Int))), (by first | rfl | (simp; done) | (simp [*]; done) | (simp; exact (by decide : ∀ a_ b_ : Bool, (a_ == b_) = (!a_ != b_)) _ _)), H', ⟨by have := HJ3.out; have := HJ13.out; have := HJ18.out; first | omega | exact Nat.le_refl _⟩, ⟨by (with_reducible repeat (first | apply Kd.S_alloc | apply Kd.S_drewN | apply Kd.S_drew)); exact HO_7.out⟩, ⟨by (with_reducible repeat (first | apply Kd.S_alloc | apply Kd.S_drewN | apply Kd.S_drew)); exact Kd.S_mono HO531.out (fun _ hk => ⟨hk.1.1, hk.2⟩)⟩, ⟨by repeat (first | (with_reducible first | exact HB.out | apply bal | apply bdN | apply bdo) | exact HB.out)⟩⟩
          ·
           rw [if_neg c32] at H
           have c32b0 : (t527 == 0) = false := beq_eq_false_iff_ne.mpr c32
           have c32b1 : (t527 != 0) = true := bne_iff_ne.mpr c32
           (first | rw [c32b0] | (simp only [i64_w, i32_w]; rw [c32b0]) | skip)
           have H' := aS H
           clear H
           go_wp2
           repeat (go_quiet (fail); try go_wp2)
           go_meet
           case rel => exact ⟨_, (true), (by first | rfl | (simp; done) | (simp [*]; done) | (simp; exact (by decide : ∀ a_ b_ : Bool, (a_ == b_) = (!a_ != b_)) _ _)), H', ⟨by have := HJ3.out; have := HJ13.out; have := HJ18.out; first | omega | exact Nat.le_refl _⟩, ⟨by (with_reducible repeat (first | apply Kd.S_alloc | apply Kd.S_drewN | apply Kd.S_drew)); exact HO_7.out⟩, ⟨by (with_reducible repeat (first | apply Kd.S_alloc | apply Kd.S_drewN | apply Kd.S_drew)); exact Kd.S_mono HO531.out (fun _ hk => ⟨hk.1.1, hk.2⟩)⟩, ⟨by repeat (first | (with_reducible first | exact HB.out | apply bal | apply bdN | apply bdo) | exact HB.out)⟩⟩
         case rest =>
          clear HC30; (try clear c1); (try clear c2); (try clear p2); (try clear c3); (try clear c6); (try clear c11); (try clear c15); (try clear c23); (try clear c26); (try clear c27); (try clear c27b0); (try clear c27b1); (try clear c32); (try clear c32b0); (try clear c32b1); (try clear p2)
          obtain ⟨kq, x53_29, rfl, HA, HJ29, HO_7, HO_9, HB⟩ := hcut
          cases kq with
          | zero => exact absurd HA.out (by simp [shardloglaw10_BlockCuts.j3])
          | succ kj29 =>
           have H := HA.out; clear HA
           simp only [shardloglaw10_BlockCuts.j3] at H
           by_cases c35 : x53_29 = true
           ·
            subst c35
            have H1 : (none) = some r := by rw [if_pos rfl] at H; exact H
            clear H; have H := H1; clear H1
            exact absurd H (by simp)
           ·
            replace c35 := Bool.eq_false_iff.mpr c35
            subst c35
            have H1 : (shardloglaw10_BlockCuts.l0 kj29 t524 t529 0) = some r := by rw [if_neg (show ¬ (false = true) by decide)] at H; exact H
            clear H; have H := H1; clear H1
            have H' := aS H
            clear H
            go_wp2
            repeat (go_quiet (fail); try go_wp2)
            go_loopg [10] kj29 (fun kq v10 w' => ∃ (x10_5 : Int), v10 = .int .i64 x10_5 ∧ Aside0 (shardloglaw10_BlockCuts.l0 kq t524 t529 x10_5 = some r) ∧ Aside0 (kq ≤ kj29) ∧ Aside0 (Kd.S (Kd.slice 46 k46) 22 w' w.heap.size (fun k_ => (w.heap.size ≤ k_) ∧ some k_ ≠ (v530 : Value).ownBlock) v525 t524) ∧ Aside0 (Kd.S (Kd.slice 46 k46) 22 w' w.heap.size (fun k_ => (w.heap.size ≤ k_) ∧ some k_ ≠ (v525 : Value).ownBlock) v530 t529) ∧ Aside0 (Below w.heap.size w w'))
            case atStart => exact ⟨(0), (by first | rfl | (simp; done) | (simp [*]; done) | (simp; exact (by decide : ∀ a_ b_ : Bool, (a_ == b_) = (!a_ != b_)) _ _)), H', ⟨Nat.le_refl _⟩, ⟨by (with_reducible repeat (first | apply Kd.S_alloc | apply Kd.S_drewN | apply Kd.S_drew)); exact HO_7.out⟩, ⟨by (with_reducible repeat (first | apply Kd.S_alloc | apply Kd.S_drewN | apply Kd.S_drew)); exact HO_9.out⟩, ⟨by repeat (first | (with_reducible first | exact HB.out | apply bal | apply bdN | apply bdo) | exact HB.out)⟩⟩
            case round =>
             clear H'; (try clear c1); (try clear c2); (try clear p2); (try clear c3); (try clear c6); (try clear c11); (try clear c15); (try clear c23); (try clear c26); (try clear c27); (try clear c27b0); (try clear c27b1); (try clear c32); (try clear c32b0); (try clear c32b1); (try clear c35); (try clear p2)
             obtain ⟨x10_5, rfl, HA, HK5, HO_7, HO_9, HB⟩ := hrel
             cases gk with
             | zero => exact absurd HA.out (by simp [shardloglaw10_BlockCuts.l0])
             | succ k5 =>
              have H := HA.out; clear HA
              simp only [shardloglaw10_BlockCuts.l0] at H
              by_cases c36 : x10_5 < (t524.length : Int)
              ·
               rw [if_pos c36] at H
               have c36b0 : decide (x10_5 < (t524.length : Int)) = true := decide_eq_true c36
               clear c36
               by_cases c37 : 0 ≤ x10_5
               ·
                rw [if_pos c37] at H
                have c37b0 : decide (0 ≤ x10_5) = true := decide_eq_true c37
                clear c37
                by_cases c38 : x10_5 < (t529.length : Int)
                ·
                 rw [if_pos c38] at H
                 have c38b0 : decide (x10_5 < (t529.length : Int)) = true := decide_eq_true c38
                 clear c38
                 replace H := obm H
                 obtain ⟨t534, A390, H⟩ := H
                 replace H : (if t534 = true then (shardloglaw10_BlockCuts.l0 k5 t524 t529 (wrap64 (x10_5 + 1))) else (none)) = some r := H
                 have A39 := aS A390
                 clear A390
                 by_cases c40 : t534 = true
                 ·
                  subst c40
                  have H1 : (shardloglaw10_BlockCuts.l0 k5 t524 t529 (wrap64 (x10_5 + 1))) = some r := by rw [if_pos rfl] at H; exact H
                  clear H; have H := H1; clear H1
                  have H' := aS H
                  clear H
                  obtain ⟨Ao41, co41, eo41⟩ := Kd.S_slice HO_7.out
                  subst eo41
                  have p532 : 0 ≤ (x10_5 : Int) := odt (by first | (with_reducible assumption) | assumption)
                  have q532 : x10_5 < (t524.length : Int) := odt (by first | (with_reducible assumption) | assumption)
                  obtain ⟨ad532, A532_0, c532_0, e532, hx532_0, hl532_0, hi532_0⟩ := at_L7 (Kd.S_reads' HO_7.out).2.2 x10_5 p532 q532
                  cases e532
                  obtain ⟨ce532, hce532, hMe532, hcc532⟩ := Kd.S_get HO_7.out [] x10_5 p532 (by first | exact q532 | exact odt (by first | (with_reducible assumption) | assumption) | (have e_ := (Kd.S_reads' HO_7.out).1; omega))
                  obtain ⟨ve532_0, rfl, ge532_0⟩ := hMe532
                  have hv532_0 := hcc532 0 _ rfl
                  rw [Nat.add_zero, show ((Kd.slice 46 k46)).sz = 1 from rfl, Nat.mul_one] at hv532_0
                  replace hv532_0 := Option.some.inj (hv532_0.symm.trans hx532_0)
                  rw [hv532_0] at ge532_0
                  have HL532_0 := aS (show Kd.R k46 46 _ _ _ _ (rd_L7 t524 x10_5) from ge532_0)
                  clear hv532_0 ge532_0; clear hcc532 hce532
                  have HR532_0 := aS hi532_0
                  have HC532_0 := aS hl532_0
                  clear hi532_0 hl532_0
                  replace p532 := eq_true p532
                  replace q532 := eq_true q532
                  obtain ⟨Ao42, co42, eo42⟩ := Kd.S_slice HO_9.out
                  subst eo42
                  have p533 : 0 ≤ (x10_5 : Int) := odt (by first | (with_reducible assumption) | assumption)
                  have q533 : x10_5 < (t529.length : Int) := odt (by first | (with_reducible assumption) | assumption)
                  obtain ⟨ad533, A533_0, c533_0, e533, hx533_0, hl533_0, hi533_0⟩ := at_L7 (Kd.S_reads' HO_9.out).2.2 x10_5 p533 q533
                  cases e533
                  obtain ⟨ce533, hce533, hMe533, hcc533⟩ := Kd.S_get HO_9.out [] x10_5 p533 (by first | exact q533 | exact odt (by first | (with_reducible assumption) | assumption) | (have e_ := (Kd.S_reads' HO_9.out).1; omega))
                  obtain ⟨ve533_0, rfl, ge533_0⟩ := hMe533
                  have hv533_0 := hcc533 0 _ rfl
                  rw [Nat.add_zero, show ((Kd.slice 46 k46)).sz = 1 from rfl, Nat.mul_one] at hv533_0
                  replace hv533_0 := Option.some.inj (hv533_0.symm.trans hx533_0)
                  rw [hv533_0] at ge533_0
                  have HL533_0 := aS (show Kd.R k46 46 _ _ _ _ (rd_L7 t529 x10_5) from ge533_0)
                  clear hv533_0 ge533_0; clear hcc533 hce533
                  have HR533_0 := aS hi533_0
                  have HC533_0 := aS hl533_0
                  clear hi533_0 hl533_0
                  replace p533 := eq_true p533
                  replace q533 := eq_true q533
                  go_wp2_with (first | (go_at_call 14; (with_reducible refine (shardlogref08_Same.calls k5 _ _ (rd_L7 t524 x10_5) _ _ (rd_L7 t529 x10_5) true _ ?side1 ?side2 ?side3 ?side4 A39.out).mono ?_); (case side1 => repeat (first | exact (by repeat (first | (with_reducible exact HR532_0.out) | (with_reducible refine Kd.C_alloc ?_ _) | (with_reducible refine Kd.C_drewN ?_ _) | (with_reducible refine Kd.C_drew ?_) | exact HR532_0.out)) | (with_reducible refine Kd.C_alloc ?_ _) | (with_reducible refine Kd.C_drewN ?_ _) | (with_reducible refine Kd.C_drew ?_))); (case side2 => exact HC532_0.out); (case side3 => repeat (first | exact (by repeat (first | (with_reducible exact HR533_0.out) | (with_reducible refine Kd.C_alloc ?_ _) | (with_reducible refine Kd.C_drewN ?_ _) | (with_reducible refine Kd.C_drew ?_) | exact HR533_0.out)) | (with_reducible refine Kd.C_alloc ?_ _) | (with_reducible refine Kd.C_drewN ?_ _) | (with_reducible refine Kd.C_drew ?_))); (case side4 => exact HC533_0.out); rintro e w' ⟨rfl, ⟨nd, rfl⟩⟩; (try first | exact ⟨rfl, _, World.drewN_drewN _ _ _⟩ | exact ⟨rfl, _, Eq.trans (World.drewN_drewN _ _ _) (congrArg (World.drewN _) (Nat.add_assoc _ _ _))⟩)))
                  repeat (go_quiet (first | (go_at_call 14; (with_reducible refine (shardlogref08_Same.calls k5 _ _ (rd_L7 t524 x10_5) _ _ (rd_L7 t529 x10_5) true _ ?side1 ?side2 ?side3 ?side4 A39.out).mono ?_); (case side1 => repeat (first | exact (by repeat (first | (with_reducible exact HR532_0.out) | (with_reducible refine Kd.C_alloc ?_ _) | (with_reducible refine Kd.C_drewN ?_ _) | (with_reducible refine Kd.C_drew ?_) | exact HR532_0.out)) | (with_reducible refine Kd.C_alloc ?_ _) | (with_reducible refine Kd.C_drewN ?_ _) | (with_reducible refine Kd.C_drew ?_))); (case side2 => exact HC532_0.out); (case side3 => repeat (first | exact (by repeat (first | (with_reducible exact HR533_0.out) | (with_reducible refine Kd.C_alloc ?_ _) | (with_reducible refine Kd.C_drewN ?_ _) | (with_reducible refine Kd.C_drew ?_) | exact HR533_0.out)) | (with_reducible refine Kd.C_alloc ?_ _) | (with_reducible refine Kd.C_drewN ?_ _) | (with_reducible refine Kd.C_drew ?_))); (case side4 => exact HC533_0.out); rintro e w' ⟨rfl, ⟨nd, rfl⟩⟩; (try first | exact ⟨rfl, _, World.drewN_drewN _ _ _⟩ | exact ⟨rfl, _, Eq.trans (World.drewN_drewN _ _ _) (congrArg (World.drewN _) (Nat.add_assoc _ _ _))⟩))); try go_wp2_with (first | (go_at_call 14; (with_reducible refine (shardlogref08_Same.calls k5 _ _ (rd_L7 t524 x10_5) _ _ (rd_L7 t529 x10_5) true _ ?side1 ?side2 ?side3 ?side4 A39.out).mono ?_); (case side1 => repeat (first | exact (by repeat (first | (with_reducible exact HR532_0.out) | (with_reducible refine Kd.C_alloc ?_ _) | (with_reducible refine Kd.C_drewN ?_ _) | (with_reducible refine Kd.C_drew ?_) | exact HR532_0.out)) | (with_reducible refine Kd.C_alloc ?_ _) | (with_reducible refine Kd.C_drewN ?_ _) | (with_reducible refine Kd.C_drew ?_))); (case side2 => exact HC532_0.out); (case side3 => repeat (first | exact (by repeat (first | (with_reducible exact HR533_0.out) | (with_reducible refine Kd.C_alloc ?_ _) | (with_reducible refine Kd.C_drewN ?_ _) | (with_reducible refine Kd.C_drew ?_) | exact HR533_0.out)) | (with_reducible refine Kd.C_alloc ?_ _) | (with_reducible refine Kd.C_drewN ?_ _) | (with_reducible refine Kd.C_drew ?_))); (case side4 => exact HC533_0.out); rintro e w' ⟨rfl, ⟨nd, rfl⟩⟩; (try first | exact ⟨rfl, _, World.drewN_drewN _ _ _⟩ | exact ⟨rfl, _, Eq.trans (World.drewN_drewN _ _ _) (congrArg (World.drewN _) (Nat.add_assoc _ _ _))⟩))))
                  go_roundg k5
                  case measure => have := HJ3.out; have := HJ13.out; have := HJ18.out; have := HJ29.out; have := HK5.out; omega
                  case rel => exact ⟨(wrap64 (x10_5 + 1)), (by first | rfl | (simp; done) | (simp [*]; done) | (simp; exact (by decide : ∀ a_ b_ : Bool, (a_ == b_) = (!a_ != b_)) _ _)), H', ⟨by have := HJ3.out; have := HJ13.out; have := HJ18.out; have := HJ29.out; have := HK5.out; omega⟩, ⟨by (with_reducible repeat (first | apply Kd.S_alloc | apply Kd.S_drewN | apply Kd.S_drew)); exact HO_7.out⟩, ⟨by (with_reducible repeat (first | apply Kd.S_alloc | apply Kd.S_drewN | apply Kd.S_drew)); exact HO_9.out⟩, ⟨by repeat (first | (with_reducible first | exact HB.out | apply bal | apply bdN | apply bdo) | exact HB.out)⟩⟩
                 ·
                  replace c40 := Bool.eq_false_iff.mpr c40
                  subst c40
                  have H1 : (none) = some r := by rw [if_neg (show ¬ (false = true) by decide)] at H; exact H
                  clear H; have H := H1; clear H1
                  exact absurd H (by simp)
                ·
                 rw [if_neg c38] at H
                 exact absurd H (by simp)
               ·
                rw [if_neg c37] at H
                exact absurd H (by simp)
              ·
               rw [if_neg c36] at H
               have c36b0 : decide (x10_5 < (t524.length : Int)) = false := decide_eq_false c36
               clear c36
               obtain rfl := Option.some.inj H
               obtain ⟨Ao43, co43, eo43⟩ := Kd.S_slice HO_7.out
               subst eo43
               go_wp2
               repeat (go_quiet (fail); try go_wp2)
               go_ret
               exact ⟨by first | rfl | (simp [errW_none, errW_some] <;> rfl) | (simp [*, errW_none, errW_some] <;> rfl), by repeat (first | (with_reducible first | exact HB.out | apply bal | apply bdN | apply bdo) | exact HB.out)⟩

/-- THE ONE PURE STATEMENT of shardloglaw10_BlockCuts. -/
def shardloglaw10_BlockCuts.Pure : Prop := ∀ (l0 : List (S46)) (a1 : Int) (a2 : Bool), (l0.length ≤ maxLen ∧ l0.length * 64 ≤ 140737488351232 ∧ ∀ y0_ ∈ l0, (y0_.f0.size ≤ 140737488351232 ∧ y0_.f1.size ≤ 140737488351232 ∧ (Lit.int .i64 y0_.f2).wf = true ∧ y0_.f3.size ≤ 140737488351232 ∧ True)) → (Lit.int .i64 a1).wf = true → ∃ k, shardloglaw10_BlockCuts.f k l0 a1 a2 = some true
theorem shardloglaw10_BlockCuts.walk (P : shardloglaw10_BlockCuts.Pure) (A0 : Option Addr) (c0 : Nat) (l0 : List (S46)) (a1 : Int) (a2 : Bool) (w : World) (wf0 : (l0.length ≤ maxLen ∧ l0.length * 64 ≤ 140737488351232 ∧ ∀ y0_ ∈ l0, (y0_.f0.size ≤ 140737488351232 ∧ y0_.f1.size ≤ 140737488351232 ∧ (Lit.int .i64 y0_.f2).wf = true ∧ y0_.f3.size ≤ 140737488351232 ∧ True))) (hr0 : Kd.C k46 w A0 l0.length l0) (hc0 : l0.length ≤ c0) (wf1 : (Lit.int .i64 a1).wf = true) :
  Calls Try.prog 3 #[.slice A0 l0.length c0, .int .i64 a1, .bool a2] w fun e w' => e = .returned (.bool true) ∧ Below w.heap.size w w' := by
 obtain ⟨k, h⟩ := P l0 a1 a2 wf0 wf1
 refine (shardloglaw10_BlockCuts.calls k (fun _ => True) A0 c0 l0 a1 a2 true w (Kd.V_mk hc0 (fun W' hW => Kd.Heap.C k46_heap (fun k hk => hW k trivial hk) hr0)) h).mono ?_
 rintro e w' ⟨rfl, hd⟩
 exact ⟨rfl, hd⟩

/-! ### shardloglaw10_BlockKeeps: function 7 -/
mutual
def shardloglaw10_BlockKeeps.j0 : Nat → List (S46) → Bool → Option (Bool)
 | 0, _, _ => none
 | k + 1, x0, x15 => if x15 = true then ((shardloglaw10_awake.f k).bind fun t537 => (some t537)) else ((shardlogref08_Sort.f k x0).bind fun t538 => ((some (([] : List (S46)) : List (S46))).bind fun y541 => (if y541.length + t538.length < 2199023255552 then ((block_Cut.f k t538 40).bind fun bt547 => (shardloglaw10_BlockKeeps.l0 k t538 (y541 ++ t538) bt547.1 0)) else (none))))
def shardloglaw10_BlockKeeps.l0 : Nat → List (S46) → List (S46) → List (List (S46)) → Int → Option (Bool)
 | 0, _, _, _, _ => none
 | k + 1, x3, x4, x5, x7 => if x7 < (x5.length : Int) then (shardloglaw10_BlockKeeps.l1 k x3 x4 x5 x7 0) else ((shardlogref08_Same.f k x3 x4).bind fun t551 => (some t551))
def shardloglaw10_BlockKeeps.l1 : Nat → List (S46) → List (S46) → List (List (S46)) → Int → Int → Option (Bool)
 | 0, _, _, _, _, _ => none
 | k + 1, x3, x4, x5, x7, x8 => if 0 ≤ x7 then (if x7 < (x5.length : Int) then (if x8 < ((rd_L7 x5 x7).length : Int) then (if 0 ≤ x8 then (shardloglaw10_BlockKeeps.l1 k x3 x4 (x5.set (x7 : Int).toNat ((rd_L7 x5 x7).set (x8 : Int).toNat (⟨(⟨#[]⟩ : ByteArray), (⟨#[]⟩ : ByteArray), 0, (⟨#[]⟩ : ByteArray), false⟩ : S46))) x7 (wrap64 (x8 + 1))) else (none)) else (shardloglaw10_BlockKeeps.l0 k x3 x4 x5 (wrap64 (x7 + 1)))) else (none)) else (none)
end
def shardloglaw10_BlockKeeps.f (k : Nat) (l0 : List (S46)) : Option (Bool) := (shardloglaw10_awake.f k).bind fun t535 => (if t535 = true then ((shardlogref08_Few.f k l0).bind fun t536 => (shardloglaw10_BlockKeeps.j0 k l0 (!t536))) else (shardloglaw10_BlockKeeps.j0 k l0 true))
theorem shardloglaw10_BlockKeeps.mono_l : ∀ k, (∀ y0 y1, LeO (shardloglaw10_BlockKeeps.j0 k y0 y1) (shardloglaw10_BlockKeeps.j0 (k + 1) y0 y1)) ∧ (∀ y0 y1 y2 y3, LeO (shardloglaw10_BlockKeeps.l0 k y0 y1 y2 y3) (shardloglaw10_BlockKeeps.l0 (k + 1) y0 y1 y2 y3)) ∧ (∀ y0 y1 y2 y3 y4, LeO (shardloglaw10_BlockKeeps.l1 k y0 y1 y2 y3 y4) (shardloglaw10_BlockKeeps.l1 (k + 1) y0 y1 y2 y3 y4))
 | 0 => ⟨fun _ _ r h => by simp [shardloglaw10_BlockKeeps.j0] at h, fun _ _ _ _ r h => by simp [shardloglaw10_BlockKeeps.l0] at h, fun _ _ _ _ _ r h => by simp [shardloglaw10_BlockKeeps.l1] at h⟩
 | k + 1 => by
  obtain ⟨ih0, ih1, ih2⟩ := shardloglaw10_BlockKeeps.mono_l k
  refine ⟨?_, ?_, ?_⟩
  ·
   intro y0 y1
   unfold shardloglaw10_BlockKeeps.j0
   repeat' first
   | (with_reducible exact ih0 _ _)
   | (with_reducible exact ih1 _ _ _ _)
   | (with_reducible exact ih2 _ _ _ _ _)
   | (with_reducible exact block_Cut.mono _ _ _)
   | (with_reducible exact shardloglaw10_awake.mono _)
   | (with_reducible exact shardlogref08_Few.mono _ _)
   | (with_reducible exact shardlogref08_Same.mono _ _ _)
   | (with_reducible exact shardlogref08_Sort.mono _ _)
   | (with_reducible exact LeO.refl _)
   | (with_reducible exact LeO.none _)
   | (with_reducible refine LeO.ite ?_ ?_)
   | (with_reducible refine LeO.bind ?_ (fun _ => ?_))
   | exact ih0 _ _
   | exact ih1 _ _ _ _
   | exact ih2 _ _ _ _ _
   | exact block_Cut.mono _ _ _
   | exact shardloglaw10_awake.mono _
   | exact shardlogref08_Few.mono _ _
   | exact shardlogref08_Same.mono _ _ _
   | exact shardlogref08_Sort.mono _ _
   | exact LeO.none _
   | refine LeO.ite ?_ ?_
   | refine LeO.bind ?_ (fun _ => ?_)
  ·
   intro y0 y1 y2 y3
   unfold shardloglaw10_BlockKeeps.l0
   repeat' first
   | (with_reducible exact ih0 _ _)
   | (with_reducible exact ih1 _ _ _ _)
   | (with_reducible exact ih2 _ _ _ _ _)
   | (with_reducible exact block_Cut.mono _ _ _)
   | (with_reducible exact shardloglaw10_awake.mono _)
   | (with_reducible exact shardlogref08_Few.mono _ _)
   | (with_reducible exact shardlogref08_Same.mono _ _ _)
   | (with_reducible exact shardlogref08_Sort.mono _ _)
   | (with_reducible exact LeO.refl _)
   | (with_reducible exact LeO.none _)
   | (with_reducible refine LeO.ite ?_ ?_)
   | (with_reducible refine LeO.bind ?_ (fun _ => ?_))
   | exact ih0 _ _
   | exact ih1 _ _ _ _
   | exact ih2 _ _ _ _ _
   | exact block_Cut.mono _ _ _
   | exact shardloglaw10_awake.mono _
   | exact shardlogref08_Few.mono _ _
   | exact shardlogref08_Same.mono _ _ _
   | exact shardlogref08_Sort.mono _ _
   | exact LeO.none _
   | refine LeO.ite ?_ ?_
   | refine LeO.bind ?_ (fun _ => ?_)
  ·
   intro y0 y1 y2 y3 y4
   unfold shardloglaw10_BlockKeeps.l1
   repeat' first
   | (with_reducible exact ih0 _ _)
   | (with_reducible exact ih1 _ _ _ _)
   | (with_reducible exact ih2 _ _ _ _ _)
   | (with_reducible exact block_Cut.mono _ _ _)
   | (with_reducible exact shardloglaw10_awake.mono _)
   | (with_reducible exact shardlogref08_Few.mono _ _)
   | (with_reducible exact shardlogref08_Same.mono _ _ _)
   | (with_reducible exact shardlogref08_Sort.mono _ _)
   | (with_reducible exact LeO.refl _)
   | (with_reducible exact LeO.none _)
   | (with_reducible refine LeO.ite ?_ ?_)
   | (with_reducible refine LeO.bind ?_ (fun _ => ?_))
   | exact ih0 _ _
   | exact ih1 _ _ _ _
   | exact ih2 _ _ _ _ _
   | exact block_Cut.mono _ _ _
   | exact shardloglaw10_awake.mono _
   | exact shardlogref08_Few.mono _ _
   | exact shardlogref08_Same.mono _ _ _
   | exact shardlogref08_Sort.mono _ _
   | exact LeO.none _
   | refine LeO.ite ?_ ?_
   | refine LeO.bind ?_ (fun _ => ?_)
theorem shardloglaw10_BlockKeeps.mono : ∀ a0 k, LeO (shardloglaw10_BlockKeeps.f k a0) (shardloglaw10_BlockKeeps.f (k + 1) a0) := by
 intro a0 k
 obtain ⟨ih0, ih1, ih2⟩ := shardloglaw10_BlockKeeps.mono_l k
 unfold shardloglaw10_BlockKeeps.f
 repeat' first
   | (with_reducible exact ih0 _ _)
   | (with_reducible exact ih1 _ _ _ _)
   | (with_reducible exact ih2 _ _ _ _ _)
   | (with_reducible exact block_Cut.mono _ _ _)
   | (with_reducible exact shardloglaw10_awake.mono _)
   | (with_reducible exact shardlogref08_Few.mono _ _)
   | (with_reducible exact shardlogref08_Same.mono _ _ _)
   | (with_reducible exact shardlogref08_Sort.mono _ _)
   | (with_reducible exact LeO.refl _)
   | (with_reducible exact LeO.none _)
   | (with_reducible refine LeO.ite ?_ ?_)
   | (with_reducible refine LeO.bind ?_ (fun _ => ?_))
   | exact ih0 _ _
   | exact ih1 _ _ _ _
   | exact ih2 _ _ _ _ _
   | exact block_Cut.mono _ _ _
   | exact shardloglaw10_awake.mono _
   | exact shardlogref08_Few.mono _ _
   | exact shardlogref08_Same.mono _ _ _
   | exact shardlogref08_Sort.mono _ _
   | exact LeO.none _
   | refine LeO.ite ?_ ?_
   | refine LeO.bind ?_ (fun _ => ?_)
set_option maxHeartbeats 8000000 in
set_option maxRecDepth 100000 in
theorem shardloglaw10_BlockKeeps.calls (k : Nat) (A0 : Option Addr) (c0 : Nat) (l0 : List (S46)) (r : Bool) (w : World) (hr0 : Kd.C k46 w A0 l0.length l0) (hc0 : l0.length ≤ c0) (h : shardloglaw10_BlockKeeps.f k l0 = some r) :
  Calls Try.prog 7 #[.slice A0 l0.length c0] w fun e w' => e = .returned (.bool r) ∧ Below w.heap.size w w' := by
 have hu46 := Try.underlying46
 have HR0 := aS hr0
 have HC0 := aS hc0
 clear hr0 hc0
 have HB := aS (Below.refl w.heap.size w)
 have H : ((shardloglaw10_awake.f k).bind fun t535 => (if t535 = true then ((shardlogref08_Few.f k l0).bind fun t536 => (shardloglaw10_BlockKeeps.j0 k l0 (!t536))) else (shardloglaw10_BlockKeeps.j0 k l0 true))) = some r := h
 clear h
 have HC2 := aS H
 clear H
 go_enter Try.func7, Try.ntmps7
 go_upto_region 1 with (fail)
 go_cut [15] (fun v15 wc => ∃ (kq : Nat) (x15_1 : Bool), v15 = .bool x15_1 ∧ Aside0 (shardloglaw10_BlockKeeps.j0 kq l0 x15_1 = some r) ∧ Aside0 (kq ≤ k) ∧ Aside0 (Below w.heap.size w wc))
 case first =>
  have H := HC2.out; clear HC2
  replace H := obm H
  obtain ⟨t535, A30, H⟩ := H
  replace H : (if t535 = true then ((shardlogref08_Few.f k l0).bind fun t536 => (shardloglaw10_BlockKeeps.j0 k l0 (!t536))) else (shardloglaw10_BlockKeeps.j0 k l0 true)) = some r := H
  have A3 := aS A30
  clear A30
  by_cases c4 : t535 = true
  ·
   subst c4
   have H1 : ((shardlogref08_Few.f k l0).bind fun t536 => (shardloglaw10_BlockKeeps.j0 k l0 (!t536))) = some r := by rw [if_pos rfl] at H; exact H
   clear H; have H := H1; clear H1
   replace H := obm H
   obtain ⟨t536, A50, H⟩ := H
   replace H : (shardloglaw10_BlockKeeps.j0 k l0 (!t536)) = some r := H
   have A5 := aS A50
   clear A50
   have H' := aS H
   clear H
   go_wp2_with (first | ((with_reducible refine gate_callee (f := 8) rfl ?_); refine goesL_ (some 9) rfl rfl Try.func8 (by kernel_rfl) rfl #[] rfl (by (try simp only [List.map_toArray, List.map_cons, List.map_nil]); first | done | rfl | (simp only [lld, llt]; rfl)) ?_; (with_reducible refine (shardloglaw10_awake.calls k  true _ A3.out).mono ?_); rintro e w6 ⟨rfl, hb⟩; refine ⟨_, rfl, ?_⟩; have n0_ := aS (below_step (by repeat (first | (with_reducible first | exact HB.out | apply bal | apply bdN | apply bdo) | exact HB.out)) hb); clear HB; have HB := n0_; clear n0_; (try clear hb); (try clear hb2); (try clear hk); (try clear hi)) | (go_at_call 9; (with_reducible refine (shardlogref08_Few.calls k _ _ l0 t536 _ ?side1 ?side2 A5.out).mono ?_); (case side1 => repeat (first | exact (Kd.C_below HR0.out HB.out) | (with_reducible refine Kd.C_alloc ?_ _) | (with_reducible refine Kd.C_drewN ?_ _) | (with_reducible refine Kd.C_drew ?_))); (case side2 => exact HC0.out); rintro e w7 ⟨rfl, hb⟩; have n0_ := aS (below_step (by repeat (first | (with_reducible first | exact HB.out | apply bal | apply bdN | apply bdo) | exact HB.out)) hb); clear HB; have HB := n0_; clear n0_; (try clear hb); (try clear hb2); (try clear hk); (try clear hi)))
   go_meet
   case rel => exact ⟨_, (!t536), (by first | rfl | (simp; done) | (simp [*]; done) | (simp; exact (by decide : ∀ a_ b_ : Bool, (a_ == b_) = (!a_ != b_)) _ _)), H', ⟨by first | omega | exact Nat.le_refl _⟩, ⟨by repeat (first | (with_reducible first | exact HB.out | apply bal | apply bdN | apply bdo) | exact HB.out)⟩⟩
  ·
   replace c4 := Bool.eq_false_iff.mpr c4
   subst c4
   have H1 : (shardloglaw10_BlockKeeps.j0 k l0 true) = some r := by rw [if_neg (show ¬ (false = true) by decide)] at H; exact H
   clear H; have H := H1; clear H1
   have H' := aS H
   clear H
   go_wp2_with (first | ((with_reducible refine gate_callee (f := 8) rfl ?_); refine goesL_ (some 9) rfl rfl Try.func8 (by kernel_rfl) rfl #[] rfl (by (try simp only [List.map_toArray, List.map_cons, List.map_nil]); first | done | rfl | (simp only [lld, llt]; rfl)) ?_; (with_reducible refine (shardloglaw10_awake.calls k  false _ A3.out).mono ?_); rintro e w8 ⟨rfl, hb⟩; refine ⟨_, rfl, ?_⟩; have n0_ := aS (below_step (by repeat (first | (with_reducible first | exact HB.out | apply bal | apply bdN | apply bdo) | exact HB.out)) hb); clear HB; have HB := n0_; clear n0_; (try clear hb); (try clear hb2); (try clear hk); (try clear hi)))
   go_meet
   case rel => exact ⟨_, (true), (by first | rfl | (simp; done) | (simp [*]; done) | (simp; exact (by decide : ∀ a_ b_ : Bool, (a_ == b_) = (!a_ != b_)) _ _)), H', ⟨by first | omega | exact Nat.le_refl _⟩, ⟨by repeat (first | (with_reducible first | exact HB.out | apply bal | apply bdN | apply bdo) | exact HB.out)⟩⟩
 case rest =>
  clear HC2; (try clear p2); (try clear c4); (try clear c7); (try clear c8)
  obtain ⟨kq, x15_1, rfl, HA, HJ1, HB⟩ := hcut
  cases kq with
  | zero => exact absurd HA.out (by simp [shardloglaw10_BlockKeeps.j0])
  | succ kj1 =>
   have H := HA.out; clear HA
   simp only [shardloglaw10_BlockKeeps.j0] at H
   by_cases c9 : x15_1 = true
   ·
    subst c9
    have H1 : ((shardloglaw10_awake.f kj1).bind fun t537 => (some t537)) = some r := by rw [if_pos rfl] at H; exact H
    clear H; have H := H1; clear H1
    replace H := obm H
    obtain ⟨t537, A100, H⟩ := H
    replace H : (some t537) = some r := H
    have A10 := aS A100
    clear A100
    obtain rfl := Option.some.inj H
    go_wp2_with (first | ((with_reducible refine gate_callee (f := 8) rfl ?_); refine goesL_ (some 16) rfl rfl Try.func8 (by kernel_rfl) rfl #[] rfl (by (try simp only [List.map_toArray, List.map_cons, List.map_nil]); first | done | rfl | (simp only [lld, llt]; rfl)) ?_; (with_reducible refine (shardloglaw10_awake.calls kj1  t537 _ A10.out).mono ?_); rintro e w11 ⟨rfl, hb⟩; refine ⟨_, rfl, ?_⟩; have n0_ := aS (below_step (by repeat (first | (with_reducible first | exact HB.out | apply bal | apply bdN | apply bdo) | exact HB.out)) hb); clear HB; have HB := n0_; clear n0_; (try clear hb); (try clear hb2); (try clear hk); (try clear hi)))
    go_ret
    exact ⟨by first | rfl | (simp [errW_none, errW_some] <;> rfl) | (simp [*, errW_none, errW_some] <;> rfl), by repeat (first | (with_reducible first | exact HB.out | apply bal | apply bdN | apply bdo) | exact HB.out)⟩
   ·
    replace c9 := Bool.eq_false_iff.mpr c9
    subst c9
    have H1 : ((shardlogref08_Sort.f kj1 l0).bind fun t538 => ((some (([] : List (S46)) : List (S46))).bind fun y541 => (if y541.length + t538.length < 2199023255552 then ((block_Cut.f kj1 t538 40).bind fun bt547 => (shardloglaw10_BlockKeeps.l0 kj1 t538 (y541 ++ t538) bt547.1 0)) else (none)))) = some r := by rw [if_neg (show ¬ (false = true) by decide)] at H; exact H
    clear H; have H := H1; clear H1
    replace H := obm H
    obtain ⟨t538, A120, H⟩ := H
    replace H : ((some (([] : List (S46)) : List (S46))).bind fun y541 => (if y541.length + t538.length < 2199023255552 then ((block_Cut.f kj1 t538 40).bind fun bt547 => (shardloglaw10_BlockKeeps.l0 kj1 t538 (y541 ++ t538) bt547.1 0)) else (none))) = some r := H
    have A12 := aS A120
    clear A120
    obtain ⟨y541, hy541⟩ : ∃ y_ : List (S46), y_ = (([] : List (S46))) := ⟨_, rfl⟩
    replace H : (if y541.length + t538.length < 2199023255552 then ((block_Cut.f kj1 t538 40).bind fun bt547 => (shardloglaw10_BlockKeeps.l0 kj1 t538 (y541 ++ t538) bt547.1 0)) else (none)) = some r := by first | (rw [hy541]; with_reducible exact H) | (have H2_ := (Option.bind_some _ _).symm.trans H; rw [hy541]; with_reducible exact H2_) | (have H2_ := (Option.bind_some _ _).symm.trans H; with_reducible exact H2_) | with_reducible exact H | (rw [hy541]; exact H) | exact H
    have Ny541 := aS hy541
    clear hy541
    by_cases c13 : y541.length + t538.length < 2199023255552
    ·
     rw [if_pos c13] at H
     have LMc13 := aS c13
     clear c13
     obtain ⟨y544, hy544⟩ : ∃ y_ : List (S46), y_ = (y541 ++ t538) := ⟨_, rfl⟩
     replace H : ((block_Cut.f kj1 t538 40).bind fun bt547 => (shardloglaw10_BlockKeeps.l0 kj1 t538 y544 bt547.1 0)) = some r := by first | (rw [hy544]; with_reducible exact H) | (have H2_ := (Option.bind_some _ _).symm.trans H; rw [hy544]; with_reducible exact H2_) | (have H2_ := (Option.bind_some _ _).symm.trans H; with_reducible exact H2_) | with_reducible exact H | (rw [hy544]; exact H) | exact H
     have Ny544 := aS hy544
     clear hy544
     replace H := obm H
     obtain ⟨⟨t547, t550⟩, A140, H⟩ := H
     replace H : (shardloglaw10_BlockKeeps.l0 kj1 t538 y544 t547 0) = some r := H
     have A14 := aS A140
     clear A140
     have H' := aS H
     clear H
     go_wp2_with (first | ((with_reducible refine gate_callee (f := 10) rfl ?_); refine goesL_ (some 18) rfl rfl Try.func10 (by kernel_rfl) rfl #[.slice A0 l0.length c0] rfl (by (try simp only [List.map_toArray, List.map_cons, List.map_nil]); first | done | rfl | (simp only [lld, llt]; rfl)) ?_; (with_reducible refine (shardlogref08_Sort.calls kj1 _ _ l0 t538 _ ?side1 ?side2 A12.out).mono ?_); (case side1 => repeat (first | exact (Kd.C_below HR0.out HB.out) | (with_reducible refine Kd.C_alloc ?_ _) | (with_reducible refine Kd.C_drewN ?_ _) | (with_reducible refine Kd.C_drew ?_))); (case side2 => exact HC0.out); rintro e w15 ⟨v539, rfl, ho0, hb⟩; refine ⟨_, rfl, ?_⟩; have n0_ := aS (Kd.R_lower ho0 (below_size (by repeat (first | (with_reducible first | exact HB.out | apply bal | apply bdN | apply bdo) | exact HB.out)))); have n1_ := aS (below_step (by repeat (first | (with_reducible first | exact HB.out | apply bal | apply bdN | apply bdo) | exact HB.out)) hb); clear HB; have HO540 := n0_; have HB := n1_; clear n0_ n1_; (try clear hb); (try clear hb2); (try clear hk); (try clear hi); (try clear ho0)) | ((with_reducible refine gate_dst (N := 19) rfl ?_); refine Kd.R_lit k46 _ 46 ?hg (N := 19) ?hd (xs := ([] : List (S46))) (inner := []) (ok := fun _ => True) (okp := fun _ => True) ?hr ?hp (fun _ hk => hk) trivial (Below.refl _ _) (Nat.le_refl _) (by simp) ?_; (case hd => rfl); (case hg => rfl); (case hr => first | (go_simp; done) | (go_simp; rfl)); (case hp => exact (Reps.none _ _)); intro v542 w16 ho17 hb hg_ hnew_; clear hg_ hnew_; (first | rw [← Ny541.out] at ho17 | (simp only [Int.reduceToNat] at ho17; rw [← Ny541.out] at ho17)); have n0_ := aS (Kd.R_elder' (by (with_reducible repeat (first | apply Kd.R_alloc | apply Kd.R_drewN | apply Kd.R_drew)); exact HO540.out) (by first | exact Kd.R_base ho17 | exact Kd.S_base ho17 | exact Kd.R_base ho17 | exact Kd.V_base ho17) hb); have n1_ := aS (Kd.R_lower (Kd.R_new' ho17 (Kd.R_lt (by (with_reducible repeat (first | apply Kd.R_alloc | apply Kd.R_drewN | apply Kd.R_drew)); exact HO540.out))) (below_size (by repeat (first | (with_reducible first | exact HB.out | apply bal | apply bdN | apply bdo) | exact HB.out)))); have n2_ := aS (below_step (by repeat (first | (with_reducible first | exact HB.out | apply bal | apply bdN | apply bdo) | exact HB.out)) hb); clear HO540; clear HB; have HO540 := n0_; have HO543 := n1_; have HB := n2_; clear n0_ n1_ n2_; clear hb ho17; obtain ⟨Ao19, co19, eo19⟩ := Kd.R_slice HO540.out; subst eo19) | ((with_reducible refine gate_builtin (b := .append) (xs := #[.tmp 19, .tmp 20]) rfl ?_); at_builtin; refine Kd.R_append_rows k46 (w0 := w) w.heap.size rfl (.tmp 19) (.tmp 20) 22 46 (.agg #[(.string ⟨#[]⟩), (.string ⟨#[]⟩), (.int .i64 0), (.string ⟨#[]⟩), (.bool false)]) 64 rfl Try.underlying22 info46 rfl (by decide) (by omega) v542 y541 t538 _ _ _ (fun k_ => some k_ ≠ (.slice Ao19 t538.length co19 : Value).ownBlock) (fun _ => False) rfl rfl ?aO ?aR (fun _ _ h => h) (fun _ h => h.elim) ?aF ?aB ?aS ?aL ?_; (case aR => repeat (first | exact (Kd.R_reads' HO540.out).2.2 | (with_reducible refine Kd.C_alloc ?_ _) | (with_reducible refine Kd.C_drewN ?_ _) | (with_reducible refine Kd.C_drew ?_))); (case aB => exact (by repeat (first | (with_reducible first | exact HB.out | apply bal | apply bdN | apply bdo) | exact HB.out))); (case aF => exact (fun k_ hk => Kd.fresh' (Kd.R_lt (by (with_reducible repeat (first | apply Kd.R_alloc | apply Kd.R_drewN | apply Kd.R_drew)); exact HO540.out)) k_ hk)); (case aO => exact (by (with_reducible repeat (first | apply Kd.R_alloc | apply Kd.R_drewN | apply Kd.R_drew)); exact Kd.R_mono HO543.out (fun _ hk => hk.2))); (case aS => exact (below_size (by repeat (first | (with_reducible first | exact HB.out | apply bal | apply bdN | apply bdo) | exact HB.out)))); (case aL => have := LMc13.out; omega); intro v545 w18 ho hb hg hat; rw [← Ny544.out] at ho; have n0_ := aS (Kd.R_after (ok := (fun _ => True)) (by (with_reducible repeat (first | apply Kd.R_alloc | apply Kd.R_drewN | apply Kd.R_drew)); exact HO540.out) hg hat); have n1_ := aS (hb); have n2_ := aS (ho); clear HO540; clear HB; clear HO543; have HO540 := n0_; have HB := n1_; have HO546 := n2_; clear n0_ n1_ n2_; clear ho hb hg hat) | ((with_reducible refine gate_callee (f := 11) rfl ?_); refine goesL_ (some 24) rfl rfl Try.func11 (by kernel_rfl) rfl #[.slice Ao19 t538.length co19, .int .i64 40] rfl (by (try simp only [List.map_toArray, List.map_cons, List.map_nil]); first | done | rfl | (simp only [lld, llt]; rfl)) ?_; (with_reducible refine (block_Cut.calls kj1 (fun k_ => some k_ = (.slice Ao19 t538.length co19 : Value).ownBlock) _ _ t538 40 t547 t550 _ ?side1 A14.out).mono ?_); (case side1 => exact Kd.R_V (Kd.R_tight rfl (HO540.out))); rintro e w20 ⟨v548, rfl, ho0, hb⟩; refine ⟨_, rfl, ?_⟩; have n0_ := aS (Kd.R_below (by (with_reducible repeat (first | apply Kd.R_alloc | apply Kd.R_drewN | apply Kd.R_drew)); exact HO540.out) hb); have n1_ := aS (Kd.R_below (by (with_reducible repeat (first | apply Kd.R_alloc | apply Kd.R_drewN | apply Kd.R_drew)); exact HO546.out) hb); have n2_ := aS (Kd.S_lower (Kd.S_new' (Kd.S_new' (Kd.S_mono (ok' := fun k_ => True) ho0 (fun _ hk_ => trivial)) (Kd.R_lt (by (with_reducible repeat (first | apply Kd.R_alloc | apply Kd.R_drewN | apply Kd.R_drew)); exact HO540.out))) (Kd.R_lt (by (with_reducible repeat (first | apply Kd.R_alloc | apply Kd.R_drewN | apply Kd.R_drew)); exact HO546.out))) (below_size (by repeat (first | (with_reducible first | exact HB.out | apply bal | apply bdN | apply bdo) | exact HB.out)))); have n3_ := aS (below_step (by repeat (first | (with_reducible first | exact HB.out | apply bal | apply bdN | apply bdo) | exact HB.out)) hb); clear HO540; clear HO546; clear HB; have HO540 := n0_; have HO546 := n1_; have HO549 := n2_; have HB := n3_; clear n0_ n1_ n2_ n3_; (try clear hb); (try clear hb2); (try clear hk); (try clear hi); (try clear ho0)))
     go_loopg [7] kj1 (fun kq v7 w' => ∃ (x3_2 : List (S46)) (x4_2 : List (S46)) (x5_2 : List (List (S46))) (x7_2 : Int), v7 = .int .i64 x7_2 ∧ Aside0 (shardloglaw10_BlockKeeps.l0 kq x3_2 x4_2 x5_2 x7_2 = some r) ∧ Aside0 (kq ≤ kj1) ∧ Aside0 (Kd.R k46 46 w' w.heap.size (fun k_ => some k_ ≠ (v545 : Value).ownBlock) (.slice Ao19 t538.length co19) x3_2) ∧ Aside0 (Kd.R k46 46 w' w.heap.size (fun k_ => some k_ ≠ ((.slice Ao19 t538.length co19) : Value).ownBlock) v545 x4_2) ∧ Aside0 (Kd.S (Kd.slice 46 k46) 22 w' w.heap.size (fun k_ => some k_ ≠ ((.slice Ao19 t538.length co19) : Value).ownBlock ∧ some k_ ≠ (v545 : Value).ownBlock) v548 x5_2) ∧ Aside0 (Below w.heap.size w w'))
     case atStart => exact ⟨(t538), (y544), (t547), (0), (by first | rfl | (simp; done) | (simp [*]; done) | (simp; exact (by decide : ∀ a_ b_ : Bool, (a_ == b_) = (!a_ != b_)) _ _)), H', ⟨Nat.le_refl _⟩, ⟨by (with_reducible repeat (first | apply Kd.R_alloc | apply Kd.R_drewN | apply Kd.R_drew)); exact Kd.R_mono HO540.out (fun _ hk => hk.2)⟩, ⟨by (with_reducible repeat (first | apply Kd.R_alloc | apply Kd.R_drewN | apply Kd.R_drew)); exact HO546.out⟩, ⟨by (with_reducible repeat (first | apply Kd.S_alloc | apply Kd.S_drewN | apply Kd.S_drew)); exact Kd.S_mono HO549.out (fun _ hk => ⟨hk.1.2, hk.2⟩)⟩, ⟨by repeat (first | (with_reducible first | exact HB.out | apply bal | apply bdN | apply bdo) | exact HB.out)⟩⟩
     case round =>
      clear H'; (try clear c1); (try clear p2); (try clear c4); (try clear c7); (try clear c8); (try clear c9); (try clear c10); (try clear c11); (try clear c13); (try clear p2)
      obtain ⟨x3_2, x4_2, x5_2, x7_2, rfl, HA, HK2, HO_3, HO_4, HO_5, HB⟩ := hrel
      have hl3_2 := (Kd.R_reads' HO_3.out).1
      rw [hl3_2] at HO_3
      (try simp only [hl3_2])
      (try simp only [hl3_2] at HO_4)
      (try simp only [hl3_2] at HO_5)
      cases gk with
      | zero => exact absurd HA.out (by simp [shardloglaw10_BlockKeeps.l0])
      | succ k2 =>
       have H := HA.out; clear HA
       simp only [shardloglaw10_BlockKeeps.l0] at H
       by_cases c21 : x7_2 < (x5_2.length : Int)
       ·
        rw [if_pos c21] at H
        have c21b0 : decide (x7_2 < (x5_2.length : Int)) = true := decide_eq_true c21
        clear c21
        have H' := aS H
        clear H
        obtain ⟨Ao22, co22, eo22⟩ := Kd.S_slice HO_5.out
        subst eo22
        go_wp2
        go_loopg [8] k2 (fun kq v8 w' => ∃ (x3_3 : List (S46)) (x4_3 : List (S46)) (x5_3 : List (List (S46))) (x8_3 : Int), v8 = .int .i64 x8_3 ∧ Aside0 (shardloglaw10_BlockKeeps.l1 kq x3_3 x4_3 x5_3 x7_2 x8_3 = some r) ∧ Aside0 (kq ≤ k2) ∧ Aside0 (Kd.R k46 46 w' w.heap.size (fun k_ => some k_ ≠ (v545 : Value).ownBlock) (.slice Ao19 x3_2.length co19) x3_3) ∧ Aside0 (Kd.R k46 46 w' w.heap.size (fun k_ => some k_ ≠ ((.slice Ao19 x3_2.length co19) : Value).ownBlock) v545 x4_3) ∧ Aside0 (Kd.S (Kd.slice 46 k46) 22 w' w.heap.size (fun k_ => some k_ ≠ ((.slice Ao19 x3_2.length co19) : Value).ownBlock ∧ some k_ ≠ (v545 : Value).ownBlock) (.slice Ao22 x5_2.length co22) x5_3) ∧ Aside0 (Below w.heap.size w w'))
        case atStart => exact ⟨(x3_2), (x4_2), (x5_2), (0), (by first | rfl | (simp; done) | (simp [*]; done) | (simp; exact (by decide : ∀ a_ b_ : Bool, (a_ == b_) = (!a_ != b_)) _ _)), H', ⟨Nat.le_refl _⟩, ⟨by (try simp only [hl3_2]); (with_reducible repeat (first | apply Kd.R_alloc | apply Kd.R_drewN | apply Kd.R_drew)); exact HO_3.out⟩, ⟨by (try simp only [hl3_2]); (with_reducible repeat (first | apply Kd.R_alloc | apply Kd.R_drewN | apply Kd.R_drew)); exact HO_4.out⟩, ⟨by (try simp only [hl3_2]); (with_reducible repeat (first | apply Kd.S_alloc | apply Kd.S_drewN | apply Kd.S_drew)); exact HO_5.out⟩, ⟨by repeat (first | (with_reducible first | exact HB.out | apply bal | apply bdN | apply bdo) | exact HB.out)⟩⟩
        case round =>
         clear H'; (try clear c1); (try clear c2); (try clear p2); (try clear c4); (try clear c7); (try clear c8); (try clear c9); (try clear c10); (try clear c11); (try clear c13); (try clear c21); (try clear c21b0); (try clear p2)
         obtain ⟨x3_3, x4_3, x5_3, x8_3, rfl, HA, HK3, HO_3, HO_4, HO_5, HB⟩ := hrel
         have hl3_3 := (Kd.R_reads' HO_3.out).1
         rw [hl3_3] at HO_3
         (try simp only [hl3_3])
         (try simp only [hl3_3] at HO_4)
         (try simp only [hl3_3] at HO_5)
         have hl5_3 := (Kd.S_reads' HO_5.out).1
         rw [hl5_3] at HO_5
         (try simp only [hl5_3])
         (try simp only [hl5_3] at HO_3)
         (try simp only [hl5_3] at HO_4)
         cases gk with
         | zero => exact absurd HA.out (by simp [shardloglaw10_BlockKeeps.l1])
         | succ k3 =>
          have H := HA.out; clear HA
          simp only [shardloglaw10_BlockKeeps.l1] at H
          by_cases c23 : 0 ≤ x7_2
          ·
           rw [if_pos c23] at H
           have c23b0 : decide (0 ≤ x7_2) = true := decide_eq_true c23
           clear c23
           by_cases c24 : x7_2 < (x5_3.length : Int)
           ·
            rw [if_pos c24] at H
            have c24b0 : decide (x7_2 < (x5_3.length : Int)) = true := decide_eq_true c24
            clear c24
            by_cases c25 : x8_3 < ((rd_L7 x5_3 x7_2).length : Int)
            ·
             rw [if_pos c25] at H
             have c25b0 : decide (x8_3 < ((rd_L7 x5_3 x7_2).length : Int)) = true := decide_eq_true c25
             clear c25
             by_cases c26 : 0 ≤ x8_3
             ·
              rw [if_pos c26] at H
              have c26b0 : decide (0 ≤ x8_3) = true := decide_eq_true c26
              clear c26
              obtain ⟨y554, hy554⟩ : ∃ y_ : List (S46), y_ = ((rd_L7 x5_3 x7_2).set (x8_3 : Int).toNat (⟨(⟨#[]⟩ : ByteArray), (⟨#[]⟩ : ByteArray), 0, (⟨#[]⟩ : ByteArray), false⟩ : S46)) := ⟨_, rfl⟩
              replace H : (shardloglaw10_BlockKeeps.l1 k3 x3_3 x4_3 (x5_3.set (x7_2 : Int).toNat y554) x7_2 (wrap64 (x8_3 + 1))) = some r := by first | (rw [hy554]; with_reducible exact H) | (have H2_ := (Option.bind_some _ _).symm.trans H; rw [hy554]; with_reducible exact H2_) | (have H2_ := (Option.bind_some _ _).symm.trans H; with_reducible exact H2_) | with_reducible exact H | (rw [hy554]; exact H) | exact H
              have Ny554 := aS hy554
              clear hy554
              obtain ⟨y556, hy556⟩ : ∃ y_ : List (List (S46)), y_ = (x5_3.set (x7_2 : Int).toNat y554) := ⟨_, rfl⟩
              replace H : (shardloglaw10_BlockKeeps.l1 k3 x3_3 x4_3 y556 x7_2 (wrap64 (x8_3 + 1))) = some r := by first | (rw [hy556]; with_reducible exact H) | (have H2_ := (Option.bind_some _ _).symm.trans H; rw [hy556]; with_reducible exact H2_) | (have H2_ := (Option.bind_some _ _).symm.trans H; with_reducible exact H2_) | with_reducible exact H | (rw [hy556]; exact H) | exact H
              have Ny556 := aS hy556
              clear hy556
              have H' := aS H
              clear H
              have p552 : 0 ≤ (x7_2 : Int) := odt (by first | (with_reducible assumption) | assumption)
              have q552 : x7_2 < (x5_3.length : Int) := odt (by first | (with_reducible assumption) | assumption)
              obtain ⟨ad552, A552_0, c552_0, e552, hx552_0, hl552_0, hi552_0⟩ := at_L7 (Kd.S_reads' HO_5.out).2.2 x7_2 p552 q552
              cases e552
              obtain ⟨ce552, hce552, hMe552, hcc552⟩ := Kd.S_get HO_5.out [] x7_2 p552 (by first | exact q552 | exact odt (by first | (with_reducible assumption) | assumption) | (have e_ := (Kd.S_reads' HO_5.out).1; omega))
              obtain ⟨ve552_0, rfl, ge552_0⟩ := hMe552
              have hv552_0 := hcc552 0 _ rfl
              rw [Nat.add_zero, show ((Kd.slice 46 k46)).sz = 1 from rfl, Nat.mul_one] at hv552_0
              replace hv552_0 := Option.some.inj (hv552_0.symm.trans hx552_0)
              rw [hv552_0] at ge552_0
              have HL552_0 := aS (show Kd.R k46 46 _ _ _ _ (rd_L7 x5_3 x7_2) from ge552_0)
              clear hv552_0 ge552_0
              have HX552_0 := aS hx552_0
              clear hcc552 hce552
              have HR552_0 := aS hi552_0
              have HC552_0 := aS hl552_0
              clear hi552_0 hl552_0
              replace p552 := eq_true p552
              replace q552 := eq_true q552
              have p553 : 0 ≤ (x7_2 : Int) := odt (by first | (with_reducible assumption) | assumption)
              have q553 : x7_2 < (x5_3.length : Int) := odt (by first | (with_reducible assumption) | assumption)
              obtain ⟨ad553, A553_0, c553_0, e553, hx553_0, hl553_0, hi553_0⟩ := at_L7 (Kd.S_reads' HO_5.out).2.2 x7_2 p553 q553
              obtain rfl : ad552 = ad553 := (by injection e553)
              obtain ⟨ce553, hce553, hMe553, hcc553⟩ := Kd.S_get HO_5.out [] x7_2 p553 (by first | exact q553 | exact odt (by first | (with_reducible assumption) | assumption) | (have e_ := (Kd.S_reads' HO_5.out).1; omega))
              obtain ⟨ve553_0, rfl, ge553_0⟩ := hMe553
              have hv553_0 := hcc553 0 _ rfl
              rw [Nat.add_zero, show ((Kd.slice 46 k46)).sz = 1 from rfl, Nat.mul_one] at hv553_0
              replace hv553_0 := Option.some.inj (hv553_0.symm.trans hx553_0)
              rw [hv553_0] at ge553_0
              have HL553_0 := aS (show Kd.R k46 46 _ _ _ _ (rd_L7 x5_3 x7_2) from ge553_0)
              clear hv553_0 ge553_0
              have HX553_0 := aS hx553_0
              clear hcc553 hce553
              have HR553_0 := aS hi553_0
              have HC553_0 := aS hl553_0
              clear hi553_0 hl553_0
              replace p553 := eq_true p553
              replace q553 := eq_true q553
              have ea_ := Option.some.inj (hx552_0.symm.trans hx553_0)
              injection ea_ with ea_ en_ ec_
              subst ea_
              subst ec_
              clear en_
              have p27 : 0 ≤ (x8_3 : Int) := odt (by first | (with_reducible assumption) | assumption)
              have q27 : (x8_3 : Int) < (((rd_L7 x5_3 x7_2).length : Int) : Int) := odt (by first | (with_reducible assumption) | assumption)
              obtain ⟨go27, co27, eo27, gb27, gl27, cl27, HG27⟩ := Kd.R_form HL553_0.out (by omega)
              (first | cases eo27 | (injection eo27 with ea_ en_ ec_; (first | subst ea_ | (injection ea_ with ea_; subst ea_)); subst ec_; clear en_))
              have GB27 := aS gb27
              have GG27 := aS HG27
              clear gb27 gl27 HG27
              obtain ⟨ce27, hcl27, hM27, hcc27, hfr27⟩ := Kd.R_elem HL553_0.out z46 (x8_3 : Int) p27 q27
              obtain rfl := k46_openM hM27
              have hx27_0 : wr.cell? ⟨go27, (x8_3 : Int).toNat * 5, none⟩ = some (.string ((rd_T46 (rd_L7 x5_3 x7_2) x8_3).f0)) := hcc27 0 _ rfl
              have hx27_1 : wr.cell? ⟨go27, (x8_3 : Int).toNat * 5 + 1, none⟩ = some (.string ((rd_T46 (rd_L7 x5_3 x7_2) x8_3).f1)) := hcc27 1 _ rfl
              have hx27_2 : wr.cell? ⟨go27, (x8_3 : Int).toNat * 5 + 2, none⟩ = some (.int .i64 ((rd_T46 (rd_L7 x5_3 x7_2) x8_3).f2)) := hcc27 2 _ rfl
              have hx27_3 : wr.cell? ⟨go27, (x8_3 : Int).toNat * 5 + 3, none⟩ = some (.string ((rd_T46 (rd_L7 x5_3 x7_2) x8_3).f3)) := hcc27 3 _ rfl
              have hx27_4 : wr.cell? ⟨go27, (x8_3 : Int).toNat * 5 + 4, none⟩ = some (.bool ((rd_T46 (rd_L7 x5_3 x7_2) x8_3).f4)) := hcc27 4 _ rfl
              have hf27_0 : wr.frozen? ⟨go27, (x8_3 : Int).toNat * 5, none⟩ = false := hfr27 0
              have hf27_1 : wr.frozen? ⟨go27, (x8_3 : Int).toNat * 5 + 1, none⟩ = false := hfr27 1
              have hf27_2 : wr.frozen? ⟨go27, (x8_3 : Int).toNat * 5 + 2, none⟩ = false := hfr27 2
              have hf27_3 : wr.frozen? ⟨go27, (x8_3 : Int).toNat * 5 + 3, none⟩ = false := hfr27 3
              have hf27_4 : wr.frozen? ⟨go27, (x8_3 : Int).toNat * 5 + 4, none⟩ = false := hfr27 4
              clear hcl27 hcc27 hfr27 hM27
              replace p27 := eq_true p27
              replace q27 := eq_true q27
              have hq28 : (x7_2 : Int) < (x5_3.length : Int) := (by have h_ : (x7_2 : Int) < ((x5_3.length : Int) : Int) := odt (by first | (with_reducible assumption) | assumption); first | exact h_ | (have e_ := (Kd.S_reads' HO_5.out).1; omega) | simpa only [List.length_set, List.length_set] using h_)
              obtain ⟨oki28, ce28, hcl28, hM28, hcc28, hok28, hbk28⟩ := Kd.S_borrow HO_5.out [] (x7_2 : Int) (odt (by first | (with_reducible assumption) | assumption)) hq28
              obtain ⟨ve28_0, rfl, ge28_0⟩ := hM28
              have hv28 := hcc28 0 _ rfl
              rw [Nat.add_zero, show ((Kd.slice 46 k46)).sz = 1 from rfl, Nat.mul_one] at hv28
              replace hv28 := Option.some.inj (hv28.symm.trans HX553_0.out)
              subst hv28
              clear hcc28 hcl28
              replace ge28_0 := (show Kd.R k46 46 _ _ _ _ (rd_L7 x5_3 x7_2) from ge28_0)
              obtain ⟨cf28, hcl28, hN28, hcc28, hfr28⟩ := Kd.R_elem ge28_0 z46 (x8_3 : Int) (odt (by first | (with_reducible assumption) | assumption)) (by have h_ : (x8_3 : Int) < (((rd_L7 x5_3 x7_2).length : Int) : Int) := odt (by first | (with_reducible assumption) | assumption); first | exact h_ | (have e_ := (Kd.R_reads' HR553_0.out).1; omega) | simpa using h_)
              obtain rfl := k46_openM hN28
              have HP28 := Kd.R_seg ge28_0 (x8_3 : Int) (odt (by first | (with_reducible assumption) | assumption)) (by have h_ : (x8_3 : Int) < (((rd_L7 x5_3 x7_2).length : Int) : Int) := odt (by first | (with_reducible assumption) | assumption); first | exact h_ | (have e_ := (Kd.R_reads' HR553_0.out).1; omega) | simpa using h_) (seg := [.string (⟨#[]⟩ : ByteArray), .string (⟨#[]⟩ : ByteArray), .int .i64 0, .string (⟨#[]⟩ : ByteArray), .bool false]) (j := 0) hcl28 hcc28 (show 5 ≤ 5 from by decide) (x' := (⟨(⟨#[]⟩ : ByteArray), (⟨#[]⟩ : ByteArray), 0, (⟨#[]⟩ : ByteArray), false⟩ : S46)) (k46_mkM _ _ _ (⟨(⟨#[]⟩ : ByteArray), (⟨#[]⟩ : ByteArray), 0, (⟨#[]⟩ : ByteArray), false⟩ : S46)) (fun _ hk => hk); clear hcl28 hcc28 hfr28 hN28
              go_wp2_with (first | ((with_reducible refine gate_store (t := 46) (p := 48) rfl ?_); refine store_event (t := 46) (p := 48) (v := ?vo_w29) (w1 := (((((wr.setCell ⟨go27, (x8_3 : Int).toNat * 5, none⟩ (.string (⟨#[]⟩ : ByteArray))).setCell ⟨go27, (x8_3 : Int).toNat * 5 + 1, none⟩ (.string (⟨#[]⟩ : ByteArray))).setCell ⟨go27, (x8_3 : Int).toNat * 5 + 2, none⟩ (.int .i64 0)).setCell ⟨go27, (x8_3 : Int).toNat * 5 + 3, none⟩ (.string (⟨#[]⟩ : ByteArray))).setCell ⟨go27, (x8_3 : Int).toNat * 5 + 4, none⟩ (.bool false))) ?hg ?ho ?hn ?hr ?_; (case ho => rfl); (case hg => rfl); (case hn => rfl); (case hr => first | (go_simp; done) | (go_simp; rfl)); intro w29 hw; have hg : wr.grownBy w29 (some go27) := (by rw [hw]; exact HP28.2); have hz_ : Kd.R k46 46 w29 w.heap.size oki28 (.slice (some ⟨go27, 0, none⟩) (rd_L7 x5_3 x7_2).length c552_0) y554 := (by rw [hw, Ny554.out]; exact HP28.1); have hp_ : Kd.S (Kd.slice 46 k46) 22 w29 w.heap.size (fun k_ => some k_ ≠ (.slice Ao19 x3_3.length co19 : Value).ownBlock ∧ some k_ ≠ (v545 : Value).ownBlock) (.slice (some ad552) x5_3.length co22) y556 := (by rw [Ny556.out]; exact hbk28 hg (fun k_ e_ => by injection e_ with e_; subst e_; exact ge28_0.1 _ rfl) (Kd.M_row hz_)); have hm_ := Kd.R_mono hz_ hok28; clear HP28 hbk28; have n0_ := aS (Kd.R_grown1 (by (with_reducible repeat (first | apply Kd.R_alloc | apply Kd.R_drewN | apply Kd.R_drew)); exact HO_3.out) rfl hg ((HL553_0.out.1 _ rfl).1.1)); have n1_ := aS (Kd.R_grown1 (by (with_reducible repeat (first | apply Kd.R_alloc | apply Kd.R_drewN | apply Kd.R_drew)); exact HO_4.out) rfl hg ((HL553_0.out.1 _ rfl).1.2)); have n2_ := aS (hp_); have n3_ := aS ((by rw [hw]; exact below_set (below_set (below_set (below_set (below_set (HB.out) GB27.out) GB27.out) GB27.out) GB27.out) GB27.out : Below w.heap.size w w29)); have n4_ := aS (hm_); have n5_ := aS ((Kd.R_reads' hm_).2.1); clear HO_3; clear HO_4; clear HO_5; clear HB; clear HL552_0; clear HL553_0; have HO_3 := n0_; have HO_4 := n1_; have HO_5 := n2_; have HB := n3_; have HL557 := n4_; have HC555 := n5_; clear n0_ n1_ n2_ n3_ n4_ n5_; clear hg hw hp_ hz_ hm_ hok28))
              (try simp only [← hl3_3, ← hl5_3])
              go_roundg k3
              case measure => have := HJ1.out; have := HK2.out; have := HK3.out; omega
              case rel => exact ⟨(x3_3), (x4_3), (y556), (wrap64 (x8_3 + 1)), (by first | rfl | (simp; done) | (simp [*]; done) | (simp; exact (by decide : ∀ a_ b_ : Bool, (a_ == b_) = (!a_ != b_)) _ _)), H', ⟨by have := HJ1.out; have := HK2.out; have := HK3.out; omega⟩, ⟨by (try simp only [hl3_2]); (try simp only [hl3_3]); (try simp only [hl5_3]); (with_reducible repeat (first | apply Kd.R_alloc | apply Kd.R_drewN | apply Kd.R_drew)); exact HO_3.out⟩, ⟨by (try simp only [hl3_2]); (try simp only [hl3_3]); (try simp only [hl5_3]); (with_reducible repeat (first | apply Kd.R_alloc | apply Kd.R_drewN | apply Kd.R_drew)); exact HO_4.out⟩, ⟨by (try simp only [hl3_2]); (try simp only [hl3_3]); (try simp only [hl5_3]); (with_reducible repeat (first | apply Kd.S_alloc | apply Kd.S_drewN | apply Kd.S_drew)); exact HO_5.out⟩, ⟨by repeat (first | (with_reducible first | exact HB.out | apply bal | apply bdN | apply bdo) | exact HB.out)⟩⟩
             ·
              rw [if_neg c26] at H
              exact absurd H (by simp)
            ·
             rw [if_neg c25] at H
             have c25b0 : decide (x8_3 < ((rd_L7 x5_3 x7_2).length : Int)) = false := decide_eq_false c25
             clear c25
             have H' := aS H
             clear H
             have p552 : 0 ≤ (x7_2 : Int) := odt (by first | (with_reducible assumption) | assumption)
             have q552 : x7_2 < (x5_3.length : Int) := odt (by first | (with_reducible assumption) | assumption)
             obtain ⟨ad552, A552_0, c552_0, e552, hx552_0, hl552_0, hi552_0⟩ := at_L7 (Kd.S_reads' HO_5.out).2.2 x7_2 p552 q552
             cases e552
             obtain ⟨ce552, hce552, hMe552, hcc552⟩ := Kd.S_get HO_5.out [] x7_2 p552 (by first | exact q552 | exact odt (by first | (with_reducible assumption) | assumption) | (have e_ := (Kd.S_reads' HO_5.out).1; omega))
             obtain ⟨ve552_0, rfl, ge552_0⟩ := hMe552
             have hv552_0 := hcc552 0 _ rfl
             rw [Nat.add_zero, show ((Kd.slice 46 k46)).sz = 1 from rfl, Nat.mul_one] at hv552_0
             replace hv552_0 := Option.some.inj (hv552_0.symm.trans hx552_0)
             rw [hv552_0] at ge552_0
             have HL552_0 := aS (show Kd.R k46 46 _ _ _ _ (rd_L7 x5_3 x7_2) from ge552_0)
             clear hv552_0 ge552_0
             have HX552_0 := aS hx552_0
             clear hcc552 hce552
             have HR552_0 := aS hi552_0
             have HC552_0 := aS hl552_0
             clear hi552_0 hl552_0
             replace p552 := eq_true p552
             replace q552 := eq_true q552
             go_wp2
             (try simp only [← hl3_2, ← hl3_3, ← hl5_3])
             go_roundg k3
             case measure => have := HJ1.out; have := HK2.out; have := HK3.out; omega
             case rel => exact ⟨(x3_3), (x4_3), (x5_3), (wrap64 (x7_2 + 1)), (by first | rfl | (simp; done) | (simp [*]; done) | (simp; exact (by decide : ∀ a_ b_ : Bool, (a_ == b_) = (!a_ != b_)) _ _)), H', ⟨by have := HJ1.out; have := HK2.out; have := HK3.out; omega⟩, ⟨by (try simp only [hl3_2]); (try simp only [hl3_3]); (try simp only [hl5_3]); (with_reducible repeat (first | apply Kd.R_alloc | apply Kd.R_drewN | apply Kd.R_drew)); exact HO_3.out⟩, ⟨by (try simp only [hl3_2]); (try simp only [hl3_3]); (try simp only [hl5_3]); (with_reducible repeat (first | apply Kd.R_alloc | apply Kd.R_drewN | apply Kd.R_drew)); exact HO_4.out⟩, ⟨by (try simp only [hl3_2]); (try simp only [hl3_3]); (try simp only [hl5_3]); (with_reducible repeat (first | apply Kd.S_alloc | apply Kd.S_drewN | apply Kd.S_drew)); exact HO_5.out⟩, ⟨by repeat (first | (with_reducible first | exact HB.out | apply bal | apply bdN | apply bdo) | exact HB.out)⟩⟩
           ·
            rw [if_neg c24] at H
            exact absurd H (by simp)
          ·
           rw [if_neg c23] at H
           exact absurd H (by simp)
       ·
        rw [if_neg c21] at H
        have c21b0 : decide (x7_2 < (x5_2.length : Int)) = false := decide_eq_false c21
        clear c21
        replace H := obm H
        obtain ⟨t551, A300, H⟩ := H
        replace H : (some t551) = some r := H
        have A30 := aS A300
        clear A300
        obtain rfl := Option.some.inj H
        obtain ⟨Ao31, co31, eo31⟩ := Kd.S_slice HO_5.out
        subst eo31
        obtain ⟨Ao32, co32, eo32⟩ := Kd.R_slice HO_4.out
        subst eo32
        go_wp2_with (first | ((with_reducible refine gate_callee (f := 14) rfl ?_); refine goesL_ (some 51) rfl rfl Try.func14 (by kernel_rfl) rfl #[.slice Ao19 x3_2.length co19, .slice Ao32 x4_2.length co32] rfl (by (try simp only [List.map_toArray, List.map_cons, List.map_nil]); first | done | rfl | (simp only [lld, llt]; rfl)) ?_; (with_reducible refine (shardlogref08_Same.calls k2 _ _ x3_2 _ _ x4_2 t551 _ ?side1 ?side2 ?side3 ?side4 A30.out).mono ?_); (case side1 => repeat (first | exact (Kd.R_reads' HO_3.out).2.2 | (with_reducible refine Kd.C_alloc ?_ _) | (with_reducible refine Kd.C_drewN ?_ _) | (with_reducible refine Kd.C_drew ?_))); (case side2 => exact (Kd.R_reads' HO_3.out).2.1); (case side3 => repeat (first | exact (Kd.R_reads' HO_4.out).2.2 | (with_reducible refine Kd.C_alloc ?_ _) | (with_reducible refine Kd.C_drewN ?_ _) | (with_reducible refine Kd.C_drew ?_))); (case side4 => exact (Kd.R_reads' HO_4.out).2.1); rintro e w' ⟨rfl, ⟨nd, rfl⟩⟩; refine ⟨_, rfl, ?_⟩))
        go_ret
        exact ⟨by first | rfl | (simp [errW_none, errW_some] <;> rfl) | (simp [*, errW_none, errW_some] <;> rfl), by repeat (first | (with_reducible first | exact HB.out | apply bal | apply bdN | apply bdo) | exact HB.out)⟩
    ·
     rw [if_neg c13] at H
     exact absurd H (by simp)

/-- THE ONE PURE STATEMENT of shardloglaw10_BlockKeeps. -/
def shardloglaw10_BlockKeeps.Pure : Prop := ∀ (l0 : List (S46)), (l0.length ≤ maxLen ∧ l0.length * 64 ≤ 140737488351232 ∧ ∀ y0_ ∈ l0, (y0_.f0.size ≤ 140737488351232 ∧ y0_.f1.size ≤ 140737488351232 ∧ (Lit.int .i64 y0_.f2).wf = true ∧ y0_.f3.size ≤ 140737488351232 ∧ True)) → ∃ k, shardloglaw10_BlockKeeps.f k l0 = some true
theorem shardloglaw10_BlockKeeps.walk (P : shardloglaw10_BlockKeeps.Pure) (A0 : Option Addr) (c0 : Nat) (l0 : List (S46)) (w : World) (wf0 : (l0.length ≤ maxLen ∧ l0.length * 64 ≤ 140737488351232 ∧ ∀ y0_ ∈ l0, (y0_.f0.size ≤ 140737488351232 ∧ y0_.f1.size ≤ 140737488351232 ∧ (Lit.int .i64 y0_.f2).wf = true ∧ y0_.f3.size ≤ 140737488351232 ∧ True))) (hr0 : Kd.C k46 w A0 l0.length l0) (hc0 : l0.length ≤ c0) :
  Calls Try.prog 7 #[.slice A0 l0.length c0] w fun e w' => e = .returned (.bool true) ∧ Below w.heap.size w w' := by
 obtain ⟨k, h⟩ := P l0 wf0
 refine (shardloglaw10_BlockKeeps.calls k A0 c0 l0 true w hr0 hc0 h).mono ?_
 rintro e w' ⟨rfl, hd⟩
 exact ⟨rfl, hd⟩

/-! ### shardlogref01_Same: function 16 -/
def shardlogref01_Same.f (l0 : List Int) (l1 : List Int) : Option (Bool) := some ((strOfNums l0).toList == (strOfNums l1).toList)
set_option maxHeartbeats 8000000 in
set_option maxRecDepth 100000 in
theorem shardlogref01_Same.calls (A0 : Option Addr) (c0 : Nat) (l0 : List Int) (A1 : Option Addr) (c1 : Nat) (l1 : List Int) (r : Bool) (w : World) (hr0 : Kd.C (Kd.int .u8) w A0 l0.length l0) (hc0 : l0.length ≤ c0) (hr1 : Kd.C (Kd.int .u8) w A1 l1.length l1) (hc1 : l1.length ≤ c1) (h : shardlogref01_Same.f l0 l1 = some r) :
  Calls Try.prog 16 #[.slice A0 l0.length c0, .slice A1 l1.length c1] w fun e w' => e = .returned (.bool r) ∧ Drawn0 w w' := by
 have HR0 := aS hr0
 have HC0 := aS hc0
 clear hr0 hc0
 have HR1 := aS hr1
 have HC1 := aS hc1
 clear hr1 hc1
 have H : (some ((strOfNums l0).toList == (strOfNums l1).toList)) = some r := h
 clear h
 obtain rfl := Option.some.inj H
 have hcv3 := Kd.C_string (P := Try.prog) (A := A0) (c := c0) Try.underlying33 Try.underlying5 Try.underlying9 HR0.out
 have hcv4 := fun (m_ : Nat) => Kd.C_string (P := Try.prog) (A := A0) (c := c0) Try.underlying33 Try.underlying5 Try.underlying9 (Kd.C_drewN (HR0.out) m_)
 have hcv5 := Kd.C_string (P := Try.prog) (A := A1) (c := c1) Try.underlying33 Try.underlying5 Try.underlying9 HR1.out
 have hcv6 := fun (m_ : Nat) => Kd.C_string (P := Try.prog) (A := A1) (c := c1) Try.underlying33 Try.underlying5 Try.underlying9 (Kd.C_drewN (HR1.out) m_)
 go_enter Try.func16, Try.ntmps16
 go_wp2
 go_ret
 exact ⟨by first | rfl | (simp; done) | (simp [*]; done) | (simp; exact (by decide : ∀ a_ b_ : Bool, (a_ == b_) = (!a_ != b_)) _ _), by repeat (first | exact Drawn0.refl _ | apply Drawn0.step)⟩

end Go.Proofs.Ytclmooadpoojeaa.X
