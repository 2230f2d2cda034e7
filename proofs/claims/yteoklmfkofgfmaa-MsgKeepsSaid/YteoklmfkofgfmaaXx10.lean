-- written by a program of this session's, over the kit's print
import Derived.Test.YteoklmfkofgfmaaXx0
import Derived.Test.YteoklmfkofgfmaaXx9
namespace Go.Proofs.Yteoklmfkofgfmaa.X
open Go.RowKit Go.Proofs.YteoklmfkofgfmaaW.PrintWords Go.Proofs.YteoklmfkofgfmaaW.PrintLast Go.Proofs.YteoklmfkofgfmaaW.PrintMore
attribute [local go_sem] max2_int min2_int max_two min_two max_three min_three max_four min_four gtr_str   -- for this text's walks alone
set_option linter.unusedVariables false
set_option linter.unusedSimpArgs false

/-! ### shardlogref19_Put: function 15 -/
mutual
def shardlogref19_Put.l0 : Nat → List Int → List Int → Int → Int → Int → Int → Int → Int → Int → Int → Int → Bool → ByteArray → List (S23) → Option (List Int)
 | 0, _, _, _, _, _, _, _, _, _, _, _, _, _, _ => none
 | k + 1, x3, x4, x5, x491000, x491001, x491002, x491003, x491004, x491005, x491006, x491007, x491008, x491009, x491010 => if x5 < 5 then (if 0 ≤ x5 then (if x5 < (x3.length : Int) then ((shardlogref01_Num.f (rd x3 x5)).bind fun t495 => (if x4.length + t495.length < 140737488355328 then (shardlogref19_Put.l0 k x3 (x4 ++ t495) (wrap64 (x5 + 1)) x491000 x491001 x491002 x491003 x491004 x491005 x491006 x491007 x491008 x491009 x491010) else (none))) else (none)) else (none)) else (if x491000 = 3 then ((shardlogref17_Put.f k x491005 x491006 x491007 x491008 x491009).bind fun t501 => (shardlogref19_Put.j1 k x4 (strOfNums t501) x491000 x491001 x491002 x491003 x491004 x491005 x491006 x491007 x491008 x491009 x491010)) else (shardlogref19_Put.j1 k x4 (⟨#[]⟩ : ByteArray) x491000 x491001 x491002 x491003 x491004 x491005 x491006 x491007 x491008 x491009 x491010))
def shardlogref19_Put.j1 : Nat → List Int → ByteArray → Int → Int → Int → Int → Int → Int → Int → Int → Bool → ByteArray → List (S23) → Option (List Int)
 | 0, _, _, _, _, _, _, _, _, _, _, _, _, _ => none
 | k + 1, x4, x6, x491000, x491001, x491002, x491003, x491004, x491005, x491006, x491007, x491008, x491009, x491010 => (shardlogref01_Text.f x6).bind fun t504 => (if x4.length + t504.length < 140737488355328 then (shardlogref19_Put.l1 k (x4 ++ t504) ([] : List ByteArray) 0 x491000 x491001 x491002 x491003 x491004 x491005 x491006 x491007 x491008 x491009 x491010) else (none))
def shardlogref19_Put.l1 : Nat → List Int → List ByteArray → Int → Int → Int → Int → Int → Int → Int → Int → Int → Bool → ByteArray → List (S23) → Option (List Int)
 | 0, _, _, _, _, _, _, _, _, _, _, _, _, _, _ => none
 | k + 1, x4, x7, x8, x491000, x491001, x491002, x491003, x491004, x491005, x491006, x491007, x491008, x491009, x491010 => if x8 < (x491010.length : Int) then (if 0 ≤ x8 then ((shardlogref17_Put.f k ((rd_T23 x491010 x8).f0) ((rd_T23 x491010 x8).f1) ((rd_T23 x491010 x8).f2) ((rd_T23 x491010 x8).f3) ((rd_T23 x491010 x8).f4)).bind fun t511 => (if x7.length < 8796093022208 then (shardlogref19_Put.l1 k x4 (x7 ++ [strOfNums t511]) (wrap64 (x8 + 1)) x491000 x491001 x491002 x491003 x491004 x491005 x491006 x491007 x491008 x491009 x491010) else (none))) else (none)) else ((shardlogref01_Texts.f k x7).bind fun t517 => (if x4.length + t517.length < 140737488355328 then ((shardlogref06_Put.f k (x4 ++ t517)).bind fun t523 => (some t523)) else (none)))
end
def shardlogref19_Put.f (k : Nat) (a0_0 : Int) (a0_1 : Int) (a0_2 : Int) (a0_3 : Int) (a0_4 : Int) (a0_5 : Int) (a0_6 : Int) (a0_7 : Int) (a0_8 : Bool) (a0_9 : ByteArray) (l0_10 : List (S23)) : Option (List Int) := shardlogref19_Put.l0 k (([a0_0, a0_1, a0_2, a0_3, a0_4] : List Int)) ([] : List Int) 0 a0_0 a0_1 a0_2 a0_3 a0_4 a0_5 a0_6 a0_7 a0_8 a0_9 l0_10
theorem shardlogref19_Put.mono_l : ∀ k, (∀ y0 y1 y2 y3 y4 y5 y6 y7 y8 y9 y10 y11 y12 y13, LeO (shardlogref19_Put.l0 k y0 y1 y2 y3 y4 y5 y6 y7 y8 y9 y10 y11 y12 y13) (shardlogref19_Put.l0 (k + 1) y0 y1 y2 y3 y4 y5 y6 y7 y8 y9 y10 y11 y12 y13)) ∧ (∀ y0 y1 y2 y3 y4 y5 y6 y7 y8 y9 y10 y11 y12, LeO (shardlogref19_Put.j1 k y0 y1 y2 y3 y4 y5 y6 y7 y8 y9 y10 y11 y12) (shardlogref19_Put.j1 (k + 1) y0 y1 y2 y3 y4 y5 y6 y7 y8 y9 y10 y11 y12)) ∧ (∀ y0 y1 y2 y3 y4 y5 y6 y7 y8 y9 y10 y11 y12 y13, LeO (shardlogref19_Put.l1 k y0 y1 y2 y3 y4 y5 y6 y7 y8 y9 y10 y11 y12 y13) (shardlogref19_Put.l1 (k + 1) y0 y1 y2 y3 y4 y5 y6 y7 y8 y9 y10 y11 y12 y13))
 | 0 => ⟨fun _ _ _ _ _ _ _ _ _ _ _ _ _ _ r h => by simp [shardlogref19_Put.l0] at h, fun _ _ _ _ _ _ _ _ _ _ _ _ _ r h => by simp [shardlogref19_Put.j1] at h, fun _ _ _ _ _ _ _ _ _ _ _ _ _ _ r h => by simp [shardlogref19_Put.l1] at h⟩
 | k + 1 => by
  obtain ⟨ih0, ih1, ih2⟩ := shardlogref19_Put.mono_l k
  refine ⟨?_, ?_, ?_⟩
  ·
   intro y0 y1 y2 y3 y4 y5 y6 y7 y8 y9 y10 y11 y12 y13
   unfold shardlogref19_Put.l0
   repeat' first
   | (with_reducible exact ih0 _ _ _ _ _ _ _ _ _ _ _ _ _ _)
   | (with_reducible exact ih1 _ _ _ _ _ _ _ _ _ _ _ _ _)
   | (with_reducible exact ih2 _ _ _ _ _ _ _ _ _ _ _ _ _ _)
   | (with_reducible exact shardlogref01_Texts.mono _ _)
   | (with_reducible exact shardlogref06_Put.mono _ _)
   | (with_reducible exact shardlogref17_Put.mono _ _ _ _ _ _)
   | (with_reducible exact LeO.refl _)
   | (with_reducible exact LeO.none _)
   | (with_reducible refine LeO.ite ?_ ?_)
   | (with_reducible refine LeO.bind ?_ (fun _ => ?_))
   | exact LeO.none _
   | refine LeO.ite ?_ ?_
   | refine LeO.bind ?_ (fun _ => ?_)
  ·
   intro y0 y1 y2 y3 y4 y5 y6 y7 y8 y9 y10 y11 y12
   unfold shardlogref19_Put.j1
   repeat' first
   | (with_reducible exact ih0 _ _ _ _ _ _ _ _ _ _ _ _ _ _)
   | (with_reducible exact ih1 _ _ _ _ _ _ _ _ _ _ _ _ _)
   | (with_reducible exact ih2 _ _ _ _ _ _ _ _ _ _ _ _ _ _)
   | (with_reducible exact shardlogref01_Texts.mono _ _)
   | (with_reducible exact shardlogref06_Put.mono _ _)
   | (with_reducible exact shardlogref17_Put.mono _ _ _ _ _ _)
   | (with_reducible exact LeO.refl _)
   | (with_reducible exact LeO.none _)
   | (with_reducible refine LeO.ite ?_ ?_)
   | (with_reducible refine LeO.bind ?_ (fun _ => ?_))
   | exact LeO.none _
   | refine LeO.ite ?_ ?_
   | refine LeO.bind ?_ (fun _ => ?_)
  ·
   intro y0 y1 y2 y3 y4 y5 y6 y7 y8 y9 y10 y11 y12 y13
   unfold shardlogref19_Put.l1
   repeat' first
   | (with_reducible exact ih0 _ _ _ _ _ _ _ _ _ _ _ _ _ _)
   | (with_reducible exact ih1 _ _ _ _ _ _ _ _ _ _ _ _ _)
   | (with_reducible exact ih2 _ _ _ _ _ _ _ _ _ _ _ _ _ _)
   | (with_reducible exact shardlogref01_Texts.mono _ _)
   | (with_reducible exact shardlogref06_Put.mono _ _)
   | (with_reducible exact shardlogref17_Put.mono _ _ _ _ _ _)
   | (with_reducible exact LeO.refl _)
   | (with_reducible exact LeO.none _)
   | (with_reducible refine LeO.ite ?_ ?_)
   | (with_reducible refine LeO.bind ?_ (fun _ => ?_))
   | exact LeO.none _
   | refine LeO.ite ?_ ?_
   | refine LeO.bind ?_ (fun _ => ?_)
theorem shardlogref19_Put.mono : ∀ a0 a1 a2 a3 a4 a5 a6 a7 a8 a9 a10 k, LeO (shardlogref19_Put.f k a0 a1 a2 a3 a4 a5 a6 a7 a8 a9 a10) (shardlogref19_Put.f (k + 1) a0 a1 a2 a3 a4 a5 a6 a7 a8 a9 a10) := by
 intro a0 a1 a2 a3 a4 a5 a6 a7 a8 a9 a10 k
 obtain ⟨ih0, ih1, ih2⟩ := shardlogref19_Put.mono_l k
 unfold shardlogref19_Put.f
 repeat' first
   | (with_reducible exact ih0 _ _ _ _ _ _ _ _ _ _ _ _ _ _)
   | (with_reducible exact ih1 _ _ _ _ _ _ _ _ _ _ _ _ _)
   | (with_reducible exact ih2 _ _ _ _ _ _ _ _ _ _ _ _ _ _)
   | (with_reducible exact shardlogref01_Texts.mono _ _)
   | (with_reducible exact shardlogref06_Put.mono _ _)
   | (with_reducible exact shardlogref17_Put.mono _ _ _ _ _ _)
   | (with_reducible exact LeO.refl _)
   | (with_reducible exact LeO.none _)
   | (with_reducible refine LeO.ite ?_ ?_)
   | (with_reducible refine LeO.bind ?_ (fun _ => ?_))
   | exact LeO.none _
   | refine LeO.ite ?_ ?_
   | refine LeO.bind ?_ (fun _ => ?_)
set_option maxHeartbeats 8000000 in
set_option maxRecDepth 100000 in
theorem shardlogref19_Put.calls (k : Nat) (a0_0 : Int) (a0_1 : Int) (a0_2 : Int) (a0_3 : Int) (a0_4 : Int) (a0_5 : Int) (a0_6 : Int) (a0_7 : Int) (a0_8 : Bool) (a0_9 : ByteArray) (A0_10 : Option Addr) (c0_10 : Nat) (l0_10 : List (S23)) (r : List Int) (w : World) (hr0_10 : Kd.C k23 w A0_10 l0_10.length l0_10) (hc0_10 : l0_10.length ≤ c0_10) (h : shardlogref19_Put.f k a0_0 a0_1 a0_2 a0_3 a0_4 a0_5 a0_6 a0_7 a0_8 a0_9 l0_10 = some r) :
  Calls Try.prog 15 #[.agg #[.int .i64 a0_0, .int .i64 a0_1, .int .i64 a0_2, .int .i64 a0_3, .int .i64 a0_4, .int .i64 a0_5, .int .i64 a0_6, .int .i64 a0_7, .bool a0_8, .string a0_9, .slice A0_10 l0_10.length c0_10]] w fun e w' => ∃ v0_ : Value, e = .returned (v0_) ∧ Kd.R (Kd.int .u8) 5 w' w.heap.size (fun _ => True) v0_ r ∧ Below w.heap.size w w' := by
 have hu26 := Try.underlying26; have hu23 := Try.underlying23
 have HR0_10 := aS hr0_10
 have HC0_10 := aS hc0_10
 clear hr0_10 hc0_10
 have HB := aS (Below.refl w.heap.size w)
 have H : (shardlogref19_Put.l0 k (([a0_0, a0_1, a0_2, a0_3, a0_4] : List Int)) ([] : List Int) 0 a0_0 a0_1 a0_2 a0_3 a0_4 a0_5 a0_6 a0_7 a0_8 a0_9 l0_10) = some r := h
 clear h
 obtain ⟨y491, hy491⟩ : ∃ y_ : List Int, y_ = (([a0_0, a0_1, a0_2, a0_3, a0_4] : List Int)) := ⟨_, rfl⟩
 replace H : (shardlogref19_Put.l0 k y491 ([] : List Int) 0 a0_0 a0_1 a0_2 a0_3 a0_4 a0_5 a0_6 a0_7 a0_8 a0_9 l0_10) = some r := by first | (rw [hy491]; with_reducible exact H) | (have H2_ := (Option.bind_some _ _).symm.trans H; rw [hy491]; with_reducible exact H2_) | (have H2_ := (Option.bind_some _ _).symm.trans H; with_reducible exact H2_) | with_reducible exact H | (rw [hy491]; exact H) | exact H
 have Ny491 := aS hy491
 clear hy491
 have H' := aS H
 clear H
 go_enter Try.func15, Try.ntmps15
 go_wp2_with (first | ((with_reducible refine gate_dst (N := 1) rfl ?_); refine box_event ?hg (N := 1) ?hd (cs := #[.int .i64 a0_0, .int .i64 a0_1, .int .i64 a0_2, .int .i64 a0_3, .int .i64 a0_4, .int .i64 a0_5, .int .i64 a0_6, .int .i64 a0_7, .bool a0_8, .string a0_9, .slice A0_10 l0_10.length c0_10]) (t := 26) ?hr ?_; (case hd => rfl); (case hg => rfl); (case hr => first | (go_simp; done) | (go_simp; rfl)); intro gb490 hg w2 hbox hb; have n0_ := bstep hb; have n1_ := aS (hbox); have n2_ := bsize hg; have n3_ := bsize hg; clear HB; have HB := n0_; have BK490 := n1_; have GW490 := n2_; have GE490 := n3_; clear n0_ n1_ n2_ n3_; clear hb hbox hg; have hcz3 := cK11 BK490) | ((with_reducible refine gate_dst (N := 19) rfl ?_); refine Kd.R_lit (Kd.int .i64) _ 3 ?hg (N := 19) ?hd (xs := ([a0_0, a0_1, a0_2, a0_3, a0_4] : List Int)) (inner := [.int .i64 a0_0, .int .i64 a0_1, .int .i64 a0_2, .int .i64 a0_3, .int .i64 a0_4]) (ok := fun _ => True) (okp := fun _ => True) ?hr ?hp (fun _ hk => hk) trivial (Below.refl _ _) (Nat.le_refl _) (by simp) ?_; (case hd => rfl); (case hg => rfl); (case hr => first | (go_simp; done) | (go_simp; rfl)); (case hp => exact (Reps.one (show Kd.M (Kd.int .i64) _ _ _ a0_0 [.int .i64 a0_0] from rfl) (Reps.one (show Kd.M (Kd.int .i64) _ _ _ a0_1 [.int .i64 a0_1] from rfl) (Reps.one (show Kd.M (Kd.int .i64) _ _ _ a0_2 [.int .i64 a0_2] from rfl) (Reps.one (show Kd.M (Kd.int .i64) _ _ _ a0_3 [.int .i64 a0_3] from rfl) (Reps.one (show Kd.M (Kd.int .i64) _ _ _ a0_4 [.int .i64 a0_4] from rfl) (Reps.none _ _))))))); intro v492 w4 ho5 hb hg_ hnew_; clear hg_ hnew_; (first | rw [← Ny491.out] at ho5 | (simp only [Int.reduceToNat] at ho5; rw [← Ny491.out] at ho5)); have n0_ := aS (Kd.R_lower ho5 (below_size bel)); have n1_ := aS (blk_below (g := gb490) (o := .cells #[.int .i64 a0_0, .int .i64 a0_1, .int .i64 a0_2, .int .i64 a0_3, .int .i64 a0_4, .int .i64 a0_5, .int .i64 a0_6, .int .i64 a0_7, .bool a0_8, .string a0_9, .slice A0_10 l0_10.length c0_10] 26 (0, 0)) (bkl BK490.out) hb); have n2_ := bstep hb; clear BK490; clear HB; have HO493 := n0_; have BK490 := n1_; have HB := n2_; clear n0_ n1_ n2_; clear hb ho5))
 go_loopg [4, 5] k (fun kq v4 v5 w' => ∃ (x4_1 : List Int) (x5_1 : Int), v5 = .int .i64 x5_1 ∧ Aside0 (shardlogref19_Put.l0 kq y491 x4_1 x5_1 a0_0 a0_1 a0_2 a0_3 a0_4 a0_5 a0_6 a0_7 a0_8 a0_9 l0_10 = some r) ∧ Aside0 (kq ≤ k) ∧ Aside0 (Kd.R (Kd.int .i64) 3 w' w.heap.size (fun _ => True) v492 y491) ∧ Aside0 (Kd.R (Kd.int .u8) 5 w' w.heap.size (fun _ => True) v4 x4_1) ∧ Aside0 (w'.heap[gb490]? = some (.cells #[.int .i64 a0_0, .int .i64 a0_1, .int .i64 a0_2, .int .i64 a0_3, .int .i64 a0_4, .int .i64 a0_5, .int .i64 a0_6, .int .i64 a0_7, .bool a0_8, .string a0_9, (.slice A0_10 l0_10.length c0_10)] 26 (0, 0))) ∧ Aside0 (Below w.heap.size w w'))
 case atStart => exact ⟨(([] : List Int)), (0), (by first | rfl | (simp; done) | (simp [*]; done) | (simp; exact (by decide : ∀ a_ b_ : Bool, (a_ == b_) = (!a_ != b_)) _ _)), H', ⟨Nat.le_refl _⟩, ⟨by (with_reducible repeat (first | apply Kd.R_alloc | apply Kd.R_drewN | apply Kd.R_drew)); exact HO493.out⟩, ⟨by first | exact Kd.R_nil _ _ _ _ _ | exact Kd.N_nil _ _ _ _ _ | exact Kd.V_nil _ _ _ _ _ | exact Kd.Q_nil _ _ _ _ _ | exact Kd.S_nil _ _ _ _ _⟩, ⟨by (with_reducible repeat (first | refine blk_drewN ?_ _ | refine blk_drew ?_ | refine blk_alloc ?_ _)); exact BK490.out⟩, ⟨bel⟩⟩
 case round =>
  clear H'; (try clear c1); (try clear p2); (try clear hcz3)
  obtain ⟨x4_1, x5_1, rfl, HA, HK1, HO_3, HO_4, BK490, HB⟩ := hrel
  cases gk with
  | zero => exact absurd HA.out (by simp [shardlogref19_Put.l0])
  | succ k1 =>
   have H := HA.out; clear HA
   simp only [shardlogref19_Put.l0] at H
   by_cases c6 : x5_1 < 5
   ·
    rw [if_pos c6] at H
    have c6b0 : decide (x5_1 < 5) = true := decide_eq_true c6
    clear c6
    by_cases c7 : 0 ≤ x5_1
    ·
     rw [if_pos c7] at H
     have c7b0 : decide (0 ≤ x5_1) = true := decide_eq_true c7
     clear c7
     by_cases c8 : x5_1 < (y491.length : Int)
     ·
      rw [if_pos c8] at H
      have c8b0 : decide (x5_1 < (y491.length : Int)) = true := decide_eq_true c8
      clear c8
      replace H := obm H
      obtain ⟨t495, A90, H⟩ := H
      replace H : (if x4_1.length + t495.length < 140737488355328 then (shardlogref19_Put.l0 k1 y491 (x4_1 ++ t495) (wrap64 (x5_1 + 1)) a0_0 a0_1 a0_2 a0_3 a0_4 a0_5 a0_6 a0_7 a0_8 a0_9 l0_10) else (none)) = some r := H
      have A9 := aS A90
      clear A90
      by_cases c10 : x4_1.length + t495.length < 140737488355328
      ·
       rw [if_pos c10] at H
       have LMc10 := aS c10
       clear c10
       obtain ⟨y498, hy498⟩ : ∃ y_ : List Int, y_ = (x4_1 ++ t495) := ⟨_, rfl⟩
       replace H : (shardlogref19_Put.l0 k1 y491 y498 (wrap64 (x5_1 + 1)) a0_0 a0_1 a0_2 a0_3 a0_4 a0_5 a0_6 a0_7 a0_8 a0_9 l0_10) = some r := by first | (rw [hy498]; with_reducible exact H) | (have H2_ := (Option.bind_some _ _).symm.trans H; rw [hy498]; with_reducible exact H2_) | (have H2_ := (Option.bind_some _ _).symm.trans H; with_reducible exact H2_) | with_reducible exact H | (rw [hy498]; exact H) | exact H
       have Ny498 := aS hy498
       clear hy498
       have H' := aS H
       clear H
       obtain ⟨Ao11, co11, eo11⟩ := Kd.R_slice HO_3.out
       subst eo11
       have p494 : 0 ≤ (x5_1 : Int) := odt (by first | (with_reducible assumption) | assumption)
       have q494 : x5_1 < (y491.length : Int) := odt (by first | (with_reducible assumption) | assumption)
       obtain ⟨ad494, e494, hx494_0⟩ := Kd.at_int (Kd.R_reads' HO_3.out).2.2 x5_1 p494 q494
       cases e494
       replace p494 := eq_true p494
       replace q494 := eq_true q494
       go_wp2_with (first | ((with_reducible refine gate_callee (f := 29) rfl ?_); refine goesL_ (some 29) rfl rfl Try.func29 (by kernel_rfl) rfl #[.int .i64 (rd y491 x5_1)] rfl agn ?_; (with_reducible refine (shardlogref01_Num.calls (rd y491 x5_1) t495 _ A9.out).mono ?_); rintro e w12 ⟨v496, rfl, ho0, hb⟩; refine ⟨_, rfl, ?_⟩; have n0_ := aS (Kd.R_below (rel HO_3.out) hb); have n1_ := aS (Kd.R_elder' (rel HO_4.out) (by first | exact Kd.R_base ho0 | exact Kd.S_base ho0 | exact Kd.R_base ho0 | exact Kd.V_base ho0) hb); have n2_ := aS (Kd.R_lower (Kd.R_new' ho0 (Kd.R_lt (rel HO_4.out))) (below_size bel)); have n3_ := aS (blk_below (g := gb490) (o := .cells #[.int .i64 a0_0, .int .i64 a0_1, .int .i64 a0_2, .int .i64 a0_3, .int .i64 a0_4, .int .i64 a0_5, .int .i64 a0_6, .int .i64 a0_7, .bool a0_8, .string a0_9, .slice A0_10 l0_10.length c0_10] 26 (0, 0)) (bkl BK490.out) hb); have n4_ := bstep hb; clear HO_3; clear HO_4; clear BK490; clear HB; have HO_3 := n0_; have HO_4 := n1_; have HO497 := n2_; have BK490 := n3_; have HB := n4_; clear n0_ n1_ n2_ n3_ n4_; (try clear hb); (try clear hb2); (try clear hk); (try clear hi); (try clear ho0); obtain ⟨Ao14, co14, eo14⟩ := Kd.R_slice HO497.out; subst eo14) | ((with_reducible refine gate_builtin (b := .append) (xs := #[.tmp 24, .tmp 29]) rfl ?_); at_builtin; refine Kd.R_append_rows (Kd.int .u8) (w0 := w) w.heap.size rfl (.tmp 24) (.tmp 29) 29 5 (.int .u8 0) 1 rfl Try.underlying29 info5 rfl (by decide) (by omega) u4 x4_1 t495 _ _ _ (fun k_ => some k_ ≠ (.slice Ao14 t495.length co14 : Value).ownBlock) (fun _ => False) rfl rfl ?aO ?aR (fun _ _ h => h) (fun _ h => h.elim) ?aF ?aB ?aS ?aL ?_; (case aR => exact cel ((Kd.R_reads' HO497.out).2.2)); (case aB => exact bel); (case aF => exact (fun k_ hk => Kd.fresh' (Kd.R_lt (rel HO497.out)) k_ hk)); (case aO => exact (rel (Kd.R_mono HO_4.out (fun _ hk => hk.2)))); (case aS => exact (below_size bel)); (case aL => have := LMc10.out; omega); intro v499 w13 ho hb hg hat; rw [← Ny498.out] at ho; have n0_ := aS (Kd.R_over' (rel HO_3.out) (Kd.R_typed (rel HO_4.out)) (by decide) hg); have n1_ := aS (blk_grown (g := gb490) (o := .cells #[.int .i64 a0_0, .int .i64 a0_1, .int .i64 a0_2, .int .i64 a0_3, .int .i64 a0_4, .int .i64 a0_5, .int .i64 a0_6, .int .i64 a0_7, .bool a0_8, .string a0_9, .slice A0_10 l0_10.length c0_10] 26 (0, 0)) (bkl BK490.out) hg (Kd.R_ne HO_4.out BK490.out (by decide))); have n2_ := aS (Kd.R_after (ok := (fun _ => True)) (rel HO497.out) hg hat); have n3_ := aS (hb); have n4_ := aS (ho); clear HO_3; clear BK490; clear HO497; clear HB; clear HO_4; have HO_3 := n0_; have BK490 := n1_; have HO497 := n2_; have HB := n3_; have HO500 := n4_; clear n0_ n1_ n2_ n3_ n4_; clear ho hb hg hat))
       go_roundg k1
       case measure => have := HK1.out; omega
       case rel => exact ⟨(y498), (wrap64 (x5_1 + 1)), (by first | rfl | (simp; done) | (simp [*]; done) | (simp; exact (by decide : ∀ a_ b_ : Bool, (a_ == b_) = (!a_ != b_)) _ _)), H', ⟨by have := HK1.out; omega⟩, ⟨by (with_reducible repeat (first | apply Kd.R_alloc | apply Kd.R_drewN | apply Kd.R_drew)); exact HO_3.out⟩, ⟨by (with_reducible repeat (first | apply Kd.R_alloc | apply Kd.R_drewN | apply Kd.R_drew)); exact Kd.R_mono HO500.out (fun _ hk => trivial)⟩, ⟨by (with_reducible repeat (first | refine blk_drewN ?_ _ | refine blk_drew ?_ | refine blk_alloc ?_ _)); exact BK490.out⟩, ⟨bel⟩⟩
      ·
       rw [if_neg c10] at H
       exact absurd H (by simp)
     ·
      rw [if_neg c8] at H
      exact absurd H (by simp)
    ·
     rw [if_neg c7] at H
     exact absurd H (by simp)
   ·
    rw [if_neg c6] at H
    have c6b0 : decide (x5_1 < 5) = false := decide_eq_false c6
    clear c6
    have HC15 := aS H
    clear H
    have hcz16 := cK11 BK490
    go_upto_if 33 with (fail)
    go_cut [6] (fun v6 wc => ∃ (kq : Nat) (x6_14 : ByteArray), v6 = .string x6_14 ∧ Aside0 (shardlogref19_Put.j1 kq x4_1 x6_14 a0_0 a0_1 a0_2 a0_3 a0_4 a0_5 a0_6 a0_7 a0_8 a0_9 l0_10 = some r) ∧ Aside0 (kq ≤ k1) ∧ Aside0 (Kd.R (Kd.int .u8) 5 wc w.heap.size (fun _ => True) u4 x4_1) ∧ Aside0 (wc.heap[gb490]? = some (.cells #[.int .i64 a0_0, .int .i64 a0_1, .int .i64 a0_2, .int .i64 a0_3, .int .i64 a0_4, .int .i64 a0_5, .int .i64 a0_6, .int .i64 a0_7, .bool a0_8, .string a0_9, (.slice A0_10 l0_10.length c0_10)] 26 (0, 0))) ∧ Aside0 (Below w.heap.size w wc))
    case first =>
     have H := HC15.out; clear HC15
     by_cases c17 : a0_0 = 3
     ·
      rw [if_pos c17] at H
      obtain ⟨c17b0, c17b1⟩ := eqT c17
      clear c17
      (first | rw [c17b0] | (simp only [i64_w, i32_w]; rw [c17b0]) | skip)
      replace H := obm H
      obtain ⟨t501, A180, H⟩ := H
      replace H : (shardlogref19_Put.j1 k1 x4_1 (strOfNums t501) a0_0 a0_1 a0_2 a0_3 a0_4 a0_5 a0_6 a0_7 a0_8 a0_9 l0_10) = some r := H
      have A18 := aS A180
      clear A180
      have H' := aS H
      clear H
      have hcz19 := cK11 BK490
      go_wp2_with (first | ((with_reducible refine gate_callee (f := 30) rfl ?_); refine goesL_ (some 36) rfl rfl Try.func30 (by kernel_rfl) rfl #[.agg #[.int .i64 a0_5, .int .i64 a0_6, .int .i64 a0_7, .bool a0_8, .string a0_9]] rfl agn ?_; (with_reducible refine (shardlogref17_Put.calls k1 a0_5 a0_6 a0_7 a0_8 a0_9 t501 _ A18.out).mono ?_); rintro e w20 ⟨v502, rfl, ho0, hb⟩; refine ⟨_, rfl, ?_⟩; have n0_ := aS (Kd.R_below (rel HO_3.out) hb); have n1_ := aS (Kd.R_elder' (rel HO_4.out) (by first | exact Kd.R_base ho0 | exact Kd.S_base ho0 | exact Kd.R_base ho0 | exact Kd.V_base ho0) hb); have n2_ := aS (Kd.R_lower (Kd.R_new' ho0 (Kd.R_lt (rel HO_4.out))) (below_size bel)); have n3_ := aS (blk_below (g := gb490) (o := .cells #[.int .i64 a0_0, .int .i64 a0_1, .int .i64 a0_2, .int .i64 a0_3, .int .i64 a0_4, .int .i64 a0_5, .int .i64 a0_6, .int .i64 a0_7, .bool a0_8, .string a0_9, .slice A0_10 l0_10.length c0_10] 26 (0, 0)) (bkl BK490.out) hb); have n4_ := bstep hb; clear HO_3; clear HO_4; clear BK490; clear HB; have HO_3 := n0_; have HO_4 := n1_; have HO503 := n2_; have BK490 := n3_; have HB := n4_; clear n0_ n1_ n2_ n3_ n4_; (try clear hb); (try clear hb2); (try clear hk); (try clear hi); (try clear ho0); have hcv21 := own_string (P := Try.prog) Try.underlying29 Try.underlying5 Try.underlying9 (Kd.own_of_R HO503.out); have hcv22 := fun (m_ : Nat) => own_string (P := Try.prog) Try.underlying29 Try.underlying5 Try.underlying9 (pw_own_drewN (Kd.own_of_R HO503.out) m_)))
      go_meet
      case rel => exact ⟨_, (strOfNums t501), (by first | rfl | (simp; done) | (simp [*]; done) | (simp; exact (by decide : ∀ a_ b_ : Bool, (a_ == b_) = (!a_ != b_)) _ _)), H', ⟨by have := HK1.out; first | omega | exact Nat.le_refl _⟩, ⟨by (with_reducible repeat (first | apply Kd.R_alloc | apply Kd.R_drewN | apply Kd.R_drew)); exact Kd.R_mono HO_4.out (fun _ hk => trivial)⟩, ⟨by (with_reducible repeat (first | refine blk_drewN ?_ _ | refine blk_drew ?_ | refine blk_alloc ?_ _)); exact BK490.out⟩, ⟨bel⟩⟩
     ·
      rw [if_neg c17] at H
      obtain ⟨c17b0, c17b1⟩ := eqF c17
      (first | rw [c17b0] | (simp only [i64_w, i32_w]; rw [c17b0]) | skip)
      have H' := aS H
      clear H
      go_wp2
      go_meet
      case rel => exact ⟨_, ((⟨#[]⟩ : ByteArray)), (by first | rfl | (simp; done) | (simp [*]; done) | (simp; exact (by decide : ∀ a_ b_ : Bool, (a_ == b_) = (!a_ != b_)) _ _)), H', ⟨by have := HK1.out; first | omega | exact Nat.le_refl _⟩, ⟨by (with_reducible repeat (first | apply Kd.R_alloc | apply Kd.R_drewN | apply Kd.R_drew)); exact HO_4.out⟩, ⟨by (with_reducible repeat (first | refine blk_drewN ?_ _ | refine blk_drew ?_ | refine blk_alloc ?_ _)); exact BK490.out⟩, ⟨bel⟩⟩
    case rest =>
     clear HC15; (try clear c1); (try clear c2); (try clear p2); (try clear hcv2); (try clear c3); (try clear p4); (try clear q4); (try clear hx4); (try clear c6); (try clear c6b0); (try clear p6); (try clear c7); (try clear c7b0); (try clear c8); (try clear c8b0); (try clear c10); (try clear c15); (try clear c17); (try clear c17b0); (try clear c17b1); (try clear hcv21); (try clear hcv22); (try clear hcz16); (try clear hcz19); (try clear hcz3); (try clear hx494_0); (try clear p494); (try clear q494)
     obtain ⟨kq, x6_14, rfl, HA, HJ14, HO_4, BK490, HB⟩ := hcut
     cases kq with
     | zero => exact absurd HA.out (by simp [shardlogref19_Put.j1])
     | succ kj14 =>
      have H := HA.out; clear HA
      simp only [shardlogref19_Put.j1] at H
      replace H := obm H
      obtain ⟨t504, A230, H⟩ := H
      replace H : (if x4_1.length + t504.length < 140737488355328 then (shardlogref19_Put.l1 kj14 (x4_1 ++ t504) ([] : List ByteArray) 0 a0_0 a0_1 a0_2 a0_3 a0_4 a0_5 a0_6 a0_7 a0_8 a0_9 l0_10) else (none)) = some r := H
      have A23 := aS A230
      clear A230
      by_cases c24 : x4_1.length + t504.length < 140737488355328
      ·
       rw [if_pos c24] at H
       have LMc24 := aS c24
       clear c24
       obtain ⟨y507, hy507⟩ : ∃ y_ : List Int, y_ = (x4_1 ++ t504) := ⟨_, rfl⟩
       replace H : (shardlogref19_Put.l1 kj14 y507 ([] : List ByteArray) 0 a0_0 a0_1 a0_2 a0_3 a0_4 a0_5 a0_6 a0_7 a0_8 a0_9 l0_10) = some r := by first | (rw [hy507]; with_reducible exact H) | (have H2_ := (Option.bind_some _ _).symm.trans H; rw [hy507]; with_reducible exact H2_) | (have H2_ := (Option.bind_some _ _).symm.trans H; with_reducible exact H2_) | with_reducible exact H | (rw [hy507]; exact H) | exact H
       have Ny507 := aS hy507
       clear hy507
       have H' := aS H
       clear H
       go_wp2_with (first | ((with_reducible refine gate_callee (f := 31) rfl ?_); refine goesL_ (some 40) rfl rfl Try.func31 (by kernel_rfl) rfl #[.string x6_14] rfl agn ?_; (with_reducible refine (shardlogref01_Text.calls x6_14 t504 _ A23.out).mono ?_); rintro e w25 ⟨v505, rfl, ho0, hb⟩; refine ⟨_, rfl, ?_⟩; have n0_ := aS (Kd.R_elder' (rel HO_4.out) (by first | exact Kd.R_base ho0 | exact Kd.S_base ho0 | exact Kd.R_base ho0 | exact Kd.V_base ho0) hb); have n1_ := aS (Kd.R_lower (Kd.R_new' ho0 (Kd.R_lt (rel HO_4.out))) (below_size bel)); have n2_ := aS (blk_below (g := gb490) (o := .cells #[.int .i64 a0_0, .int .i64 a0_1, .int .i64 a0_2, .int .i64 a0_3, .int .i64 a0_4, .int .i64 a0_5, .int .i64 a0_6, .int .i64 a0_7, .bool a0_8, .string a0_9, .slice A0_10 l0_10.length c0_10] 26 (0, 0)) (bkl BK490.out) hb); have n3_ := bstep hb; clear HO_4; clear BK490; clear HB; have HO_4 := n0_; have HO506 := n1_; have BK490 := n2_; have HB := n3_; clear n0_ n1_ n2_ n3_; (try clear hb); (try clear hb2); (try clear hk); (try clear hi); (try clear ho0); obtain ⟨Ao27, co27, eo27⟩ := Kd.R_slice HO506.out; subst eo27) | ((with_reducible refine gate_builtin (b := .append) (xs := #[.tmp 38, .tmp 40]) rfl ?_); at_builtin; refine Kd.R_append_rows (Kd.int .u8) (w0 := w) w.heap.size rfl (.tmp 38) (.tmp 40) 29 5 (.int .u8 0) 1 rfl Try.underlying29 info5 rfl (by decide) (by omega) u4 x4_1 t504 _ _ _ (fun k_ => some k_ ≠ (.slice Ao27 t504.length co27 : Value).ownBlock) (fun _ => False) rfl rfl ?aO ?aR (fun _ _ h => h) (fun _ h => h.elim) ?aF ?aB ?aS ?aL ?_; (case aR => exact cel ((Kd.R_reads' HO506.out).2.2)); (case aB => exact bel); (case aF => exact (fun k_ hk => Kd.fresh' (Kd.R_lt (rel HO506.out)) k_ hk)); (case aO => exact (rel (Kd.R_mono HO_4.out (fun _ hk => hk.2)))); (case aS => exact (below_size bel)); (case aL => have := LMc24.out; omega); intro v508 w26 ho hb hg hat; rw [← Ny507.out] at ho; have n0_ := aS (blk_grown (g := gb490) (o := .cells #[.int .i64 a0_0, .int .i64 a0_1, .int .i64 a0_2, .int .i64 a0_3, .int .i64 a0_4, .int .i64 a0_5, .int .i64 a0_6, .int .i64 a0_7, .bool a0_8, .string a0_9, .slice A0_10 l0_10.length c0_10] 26 (0, 0)) (bkl BK490.out) hg (Kd.R_ne HO_4.out BK490.out (by decide))); have n1_ := aS (Kd.R_after (ok := (fun _ => True)) (rel HO506.out) hg hat); have n2_ := aS (hb); have n3_ := aS (ho); clear BK490; clear HO506; clear HB; clear HO_4; have BK490 := n0_; have HO506 := n1_; have HB := n2_; have HO509 := n3_; clear n0_ n1_ n2_ n3_; clear ho hb hg hat))
       go_loopg [7, 8] kj14 (fun kq v7 v8 w' => ∃ (x7_3 : List ByteArray) (x8_3 : Int), v8 = .int .i64 x8_3 ∧ Aside0 (shardlogref19_Put.l1 kq y507 x7_3 x8_3 a0_0 a0_1 a0_2 a0_3 a0_4 a0_5 a0_6 a0_7 a0_8 a0_9 l0_10 = some r) ∧ Aside0 (kq ≤ kj14) ∧ Aside0 (Kd.R (Kd.int .u8) 5 w' w.heap.size (fun _ => True) v508 y507) ∧ Aside0 (Kd.R Kd.string 9 w' w.heap.size (fun _ => True) v7 x7_3) ∧ Aside0 (w'.heap[gb490]? = some (.cells #[.int .i64 a0_0, .int .i64 a0_1, .int .i64 a0_2, .int .i64 a0_3, .int .i64 a0_4, .int .i64 a0_5, .int .i64 a0_6, .int .i64 a0_7, .bool a0_8, .string a0_9, (.slice A0_10 l0_10.length c0_10)] 26 (0, 0))) ∧ Aside0 (Below w.heap.size w w'))
       case atStart => exact ⟨(([] : List ByteArray)), (0), (by first | rfl | (simp; done) | (simp [*]; done) | (simp; exact (by decide : ∀ a_ b_ : Bool, (a_ == b_) = (!a_ != b_)) _ _)), H', ⟨Nat.le_refl _⟩, ⟨by (with_reducible repeat (first | apply Kd.R_alloc | apply Kd.R_drewN | apply Kd.R_drew)); exact Kd.R_mono HO509.out (fun _ hk => trivial)⟩, ⟨by first | exact Kd.R_nil _ _ _ _ _ | exact Kd.N_nil _ _ _ _ _ | exact Kd.V_nil _ _ _ _ _ | exact Kd.Q_nil _ _ _ _ _ | exact Kd.S_nil _ _ _ _ _⟩, ⟨by (with_reducible repeat (first | refine blk_drewN ?_ _ | refine blk_drew ?_ | refine blk_alloc ?_ _)); exact BK490.out⟩, ⟨bel⟩⟩
       case round =>
        clear H'; (try clear c1); (try clear c2); (try clear p2); (try clear hcv2); (try clear c3); (try clear p4); (try clear q4); (try clear hx4); (try clear c6); (try clear c6b0); (try clear p6); (try clear c7); (try clear c7b0); (try clear c8); (try clear c8b0); (try clear c10); (try clear c15); (try clear c17); (try clear c17b0); (try clear c17b1); (try clear hcv21); (try clear hcv22); (try clear c24); (try clear hcz16); (try clear hcz19); (try clear hcz3); (try clear hx494_0); (try clear p494); (try clear q494)
        obtain ⟨x7_3, x8_3, rfl, HA, HK3, HO_4, HO_7, BK490, HB⟩ := hrel
        cases gk with
        | zero => exact absurd HA.out (by simp [shardlogref19_Put.l1])
        | succ k3 =>
         have H := HA.out; clear HA
         simp only [shardlogref19_Put.l1] at H
         by_cases c28 : x8_3 < (l0_10.length : Int)
         ·
          rw [if_pos c28] at H
          have c28b0 : decide (x8_3 < (l0_10.length : Int)) = true := decide_eq_true c28
          clear c28
          by_cases c29 : 0 ≤ x8_3
          ·
           rw [if_pos c29] at H
           have c29b0 : decide (0 ≤ x8_3) = true := decide_eq_true c29
           clear c29
           replace H := obm H
           obtain ⟨t511, A300, H⟩ := H
           replace H : (if x7_3.length < 8796093022208 then (shardlogref19_Put.l1 k3 y507 (x7_3 ++ [strOfNums t511]) (wrap64 (x8_3 + 1)) a0_0 a0_1 a0_2 a0_3 a0_4 a0_5 a0_6 a0_7 a0_8 a0_9 l0_10) else (none)) = some r := H
           have A30 := aS A300
           clear A300
           by_cases c31 : x7_3.length < 8796093022208
           ·
            rw [if_pos c31] at H
            have LMc31 := aS c31
            clear c31
            obtain ⟨y514, hy514⟩ : ∃ y_ : List ByteArray, y_ = (x7_3 ++ [strOfNums t511]) := ⟨_, rfl⟩
            replace H : (shardlogref19_Put.l1 k3 y507 y514 (wrap64 (x8_3 + 1)) a0_0 a0_1 a0_2 a0_3 a0_4 a0_5 a0_6 a0_7 a0_8 a0_9 l0_10) = some r := by first | (rw [hy514]; with_reducible exact H) | (have H2_ := (Option.bind_some _ _).symm.trans H; rw [hy514]; with_reducible exact H2_) | (have H2_ := (Option.bind_some _ _).symm.trans H; with_reducible exact H2_) | with_reducible exact H | (rw [hy514]; exact H) | exact H
            have Ny514 := aS hy514
            clear hy514
            have H' := aS H
            clear H
            have hcz32 := cK11 BK490
            have p510 : 0 ≤ (x8_3 : Int) := odt (by first | (with_reducible assumption) | assumption)
            have q510 : x8_3 < (l0_10.length : Int) := odt (by first | (with_reducible assumption) | assumption)
            obtain ⟨ad510, e510, hx510_0, hx510_1, hx510_2, hx510_3, hx510_4⟩ := at_T23 HR0_10.out x8_3 p510 q510
            cases e510
            replace hx510_0 := (HB.out.cell (wbl w _ hx510_0)).trans hx510_0
            replace hx510_1 := (HB.out.cell (wbl w _ hx510_1)).trans hx510_1
            replace hx510_2 := (HB.out.cell (wbl w _ hx510_2)).trans hx510_2
            replace hx510_3 := (HB.out.cell (wbl w _ hx510_3)).trans hx510_3
            replace hx510_4 := (HB.out.cell (wbl w _ hx510_4)).trans hx510_4
            replace p510 := eq_true p510
            replace q510 := eq_true q510
            go_wp2_with (first | ((with_reducible refine gate_callee (f := 30) rfl ?_); refine goesL_ (some 55) rfl rfl Try.func30 (by kernel_rfl) rfl #[.agg #[.int .i64 ((rd_T23 l0_10 x8_3).f0), .int .i64 ((rd_T23 l0_10 x8_3).f1), .int .i64 ((rd_T23 l0_10 x8_3).f2), .bool ((rd_T23 l0_10 x8_3).f3), .string ((rd_T23 l0_10 x8_3).f4)]] rfl agn ?_; (with_reducible refine (shardlogref17_Put.calls k3 ((rd_T23 l0_10 x8_3).f0) ((rd_T23 l0_10 x8_3).f1) ((rd_T23 l0_10 x8_3).f2) ((rd_T23 l0_10 x8_3).f3) ((rd_T23 l0_10 x8_3).f4) t511 _ A30.out).mono ?_); rintro e w33 ⟨v512, rfl, ho0, hb⟩; refine ⟨_, rfl, ?_⟩; have n0_ := aS (Kd.R_elder' (rel HO_4.out) (by first | exact Kd.R_base ho0 | exact Kd.S_base ho0 | exact Kd.R_base ho0 | exact Kd.V_base ho0) hb); have n1_ := aS (Kd.R_below (rel HO_7.out) hb); have n2_ := aS (Kd.R_lower (Kd.R_new' ho0 (Kd.R_lt (rel HO_4.out))) (below_size bel)); have n3_ := aS (blk_below (g := gb490) (o := .cells #[.int .i64 a0_0, .int .i64 a0_1, .int .i64 a0_2, .int .i64 a0_3, .int .i64 a0_4, .int .i64 a0_5, .int .i64 a0_6, .int .i64 a0_7, .bool a0_8, .string a0_9, .slice (some ad510) l0_10.length c0_10] 26 (0, 0)) (bkl BK490.out) hb); have n4_ := bstep hb; clear HO_4; clear HO_7; clear BK490; clear HB; have HO_4 := n0_; have HO_7 := n1_; have HO513 := n2_; have BK490 := n3_; have HB := n4_; clear n0_ n1_ n2_ n3_ n4_; (try clear hb); (try clear hb2); (try clear hk); (try clear hi); (try clear ho0); have hcv34 := own_string (P := Try.prog) Try.underlying29 Try.underlying5 Try.underlying9 (Kd.own_of_R HO513.out); have hcv35 := fun (m_ : Nat) => own_string (P := Try.prog) Try.underlying29 Try.underlying5 Try.underlying9 (pw_own_drewN (Kd.own_of_R HO513.out) m_)) | ((with_reducible refine gate_builtin (b := .append) (xs := #[.tmp 49, .tmp 57]) rfl ?_); at_builtin; refine Kd.R_append Kd.string (w0 := w) w.heap.size rfl (.tmp 49) (.tmp 57) 45 9 (.string ⟨#[]⟩) 16 rfl Try.underlying45 info9 rfl (by decide) (by omega) u7 x7_3 (strOfNums t511) [.string (strOfNums t511)] (fun _ => True) (fun _ => False) rfl rfl ?aP (fun _ hk => hk.elim) ?aF ?aO ?aB ?aS ?aL ?_; (case aP => exact rfl); (case aB => exact bel); (case aF => exact (fun _ _ => trivial)); (case aO => exact (rel HO_7.out)); (case aS => exact (below_size bel)); (case aL => have := LMc31.out; omega); intro v515 w36 ho hb hg hat; rw [← Ny514.out] at ho; have n0_ := aS (Kd.R_over' (rel HO_4.out) (Kd.R_typed (rel HO_7.out)) (by decide) hg); have n1_ := aS (blk_grown (g := gb490) (o := .cells #[.int .i64 a0_0, .int .i64 a0_1, .int .i64 a0_2, .int .i64 a0_3, .int .i64 a0_4, .int .i64 a0_5, .int .i64 a0_6, .int .i64 a0_7, .bool a0_8, .string a0_9, .slice (some ad510) l0_10.length c0_10] 26 (0, 0)) (bkl BK490.out) hg (Kd.R_ne HO_7.out BK490.out (by decide))); have n2_ := aS (Kd.R_over' (rel HO513.out) (Kd.R_typed (rel HO_7.out)) (by decide) hg); have n3_ := aS (hb); have n4_ := aS (ho); clear HO_4; clear BK490; clear HO513; clear HB; clear HO_7; have HO_4 := n0_; have BK490 := n1_; have HO513 := n2_; have HB := n3_; have HO516 := n4_; clear n0_ n1_ n2_ n3_ n4_; clear ho hb hg hat))
            go_roundg k3
            case measure => have := HK1.out; have := HJ14.out; have := HK3.out; omega
            case rel => exact ⟨(y514), (wrap64 (x8_3 + 1)), (by first | rfl | (simp; done) | (simp [*]; done) | (simp; exact (by decide : ∀ a_ b_ : Bool, (a_ == b_) = (!a_ != b_)) _ _)), H', ⟨by have := HK1.out; have := HJ14.out; have := HK3.out; omega⟩, ⟨by (with_reducible repeat (first | apply Kd.R_alloc | apply Kd.R_drewN | apply Kd.R_drew)); exact Kd.R_mono HO_4.out (fun _ hk => trivial)⟩, ⟨by (with_reducible repeat (first | apply Kd.R_alloc | apply Kd.R_drewN | apply Kd.R_drew)); exact HO516.out⟩, ⟨by (with_reducible repeat (first | refine blk_drewN ?_ _ | refine blk_drew ?_ | refine blk_alloc ?_ _)); exact BK490.out⟩, ⟨bel⟩⟩
           ·
            rw [if_neg c31] at H
            exact absurd H (by simp)
          ·
           rw [if_neg c29] at H
           exact absurd H (by simp)
         ·
          rw [if_neg c28] at H
          have c28b0 : decide (x8_3 < (l0_10.length : Int)) = false := decide_eq_false c28
          clear c28
          replace H := obm H
          obtain ⟨t517, A370, H⟩ := H
          replace H : (if y507.length + t517.length < 140737488355328 then ((shardlogref06_Put.f k3 (y507 ++ t517)).bind fun t523 => (some t523)) else (none)) = some r := H
          have A37 := aS A370
          clear A370
          by_cases c38 : y507.length + t517.length < 140737488355328
          ·
           rw [if_pos c38] at H
           have LMc38 := aS c38
           clear c38
           obtain ⟨y520, hy520⟩ : ∃ y_ : List Int, y_ = (y507 ++ t517) := ⟨_, rfl⟩
           replace H : ((shardlogref06_Put.f k3 y520).bind fun t523 => (some t523)) = some r := by first | (rw [hy520]; with_reducible exact H) | (have H2_ := (Option.bind_some _ _).symm.trans H; rw [hy520]; with_reducible exact H2_) | (have H2_ := (Option.bind_some _ _).symm.trans H; with_reducible exact H2_) | with_reducible exact H | (rw [hy520]; exact H) | exact H
           have Ny520 := aS hy520
           clear hy520
           replace H := obm H
           obtain ⟨t523, A390, H⟩ := H
           replace H : (some t523) = some r := H
           have A39 := aS A390
           clear A390
           obtain rfl := Option.some.inj H
           have hcz40 := cK11 BK490
           obtain ⟨Ao41, co41, eo41⟩ := Kd.R_slice HO_7.out
           subst eo41
           go_wp2_with (first | ((with_reducible refine gate_callee (f := 33) rfl ?_); refine goesL_ (some 61) rfl rfl Try.func33 (by kernel_rfl) rfl #[.slice Ao41 x7_3.length co41] rfl agn ?_; (with_reducible refine (shardlogref01_Texts.calls k3 _ _ x7_3 t517 _ ?side1 ?side2 A37.out).mono ?_); (case side1 => exact cel ((Kd.R_reads' HO_7.out).2.2)); (case side2 => exact (Kd.R_reads' HO_7.out).2.1); rintro e w42 ⟨v518, rfl, ho0, hb⟩; refine ⟨_, rfl, ?_⟩; have n0_ := aS (Kd.R_elder' (rel HO_4.out) (by first | exact Kd.R_base ho0 | exact Kd.S_base ho0 | exact Kd.R_base ho0 | exact Kd.V_base ho0) hb); have n1_ := aS (Kd.R_below (rel HO_7.out) hb); have n2_ := aS (Kd.R_lower (Kd.R_new' ho0 (Kd.R_lt (rel HO_4.out))) (below_size bel)); have n3_ := aS (blk_below (g := gb490) (o := .cells #[.int .i64 a0_0, .int .i64 a0_1, .int .i64 a0_2, .int .i64 a0_3, .int .i64 a0_4, .int .i64 a0_5, .int .i64 a0_6, .int .i64 a0_7, .bool a0_8, .string a0_9, .slice A0_10 l0_10.length c0_10] 26 (0, 0)) (bkl BK490.out) hb); have n4_ := bstep hb; clear HO_4; clear HO_7; clear BK490; clear HB; have HO_4 := n0_; have HO_7 := n1_; have HO519 := n2_; have BK490 := n3_; have HB := n4_; clear n0_ n1_ n2_ n3_ n4_; (try clear hb); (try clear hb2); (try clear hk); (try clear hi); (try clear ho0); obtain ⟨Ao44, co44, eo44⟩ := Kd.R_slice HO519.out; subst eo44) | ((with_reducible refine gate_builtin (b := .append) (xs := #[.tmp 59, .tmp 61]) rfl ?_); at_builtin; refine Kd.R_append_rows (Kd.int .u8) (w0 := w) w.heap.size rfl (.tmp 59) (.tmp 61) 29 5 (.int .u8 0) 1 rfl Try.underlying29 info5 rfl (by decide) (by omega) v508 y507 t517 _ _ _ (fun k_ => some k_ ≠ (.slice Ao44 t517.length co44 : Value).ownBlock) (fun _ => False) rfl rfl ?aO ?aR (fun _ _ h => h) (fun _ h => h.elim) ?aF ?aB ?aS ?aL ?_; (case aR => exact cel ((Kd.R_reads' HO519.out).2.2)); (case aB => exact bel); (case aF => exact (fun k_ hk => Kd.fresh' (Kd.R_lt (rel HO519.out)) k_ hk)); (case aO => exact (rel (Kd.R_mono HO_4.out (fun _ hk => hk.2)))); (case aS => exact (below_size bel)); (case aL => have := LMc38.out; omega); intro v521 w43 ho hb hg hat; rw [← Ny520.out] at ho; have n0_ := aS (Kd.R_over' (rel HO_7.out) (Kd.R_typed (rel HO_4.out)) (by decide) hg); have n1_ := aS (blk_grown (g := gb490) (o := .cells #[.int .i64 a0_0, .int .i64 a0_1, .int .i64 a0_2, .int .i64 a0_3, .int .i64 a0_4, .int .i64 a0_5, .int .i64 a0_6, .int .i64 a0_7, .bool a0_8, .string a0_9, .slice A0_10 l0_10.length c0_10] 26 (0, 0)) (bkl BK490.out) hg (Kd.R_ne HO_4.out BK490.out (by decide))); have n2_ := aS (Kd.R_after (ok := (fun _ => True)) (rel HO519.out) hg hat); have n3_ := aS (hb); have n4_ := aS (ho); clear HO_7; clear BK490; clear HO519; clear HB; clear HO_4; have HO_7 := n0_; have BK490 := n1_; have HO519 := n2_; have HB := n3_; have HO522 := n4_; clear n0_ n1_ n2_ n3_ n4_; clear ho hb hg hat; obtain ⟨Ao45, co45, eo45⟩ := Kd.R_slice HO522.out; subst eo45) | ((with_reducible refine gate_callee (f := 32) rfl ?_); refine goesL_ (some 63) rfl rfl Try.func32 (by kernel_rfl) rfl #[.slice Ao45 y520.length co45] rfl agn ?_; (with_reducible refine (shardlogref06_Put.calls k3 _ _ y520 t523 _ ?side1 ?side2 A39.out).mono ?_); (case side1 => exact cel ((Kd.R_reads' HO522.out).2.2)); (case side2 => exact (Kd.R_reads' HO522.out).2.1); rintro e w46 ⟨v524, rfl, ho0, hb⟩; refine ⟨_, rfl, ?_⟩; have n0_ := aS (Kd.R_below (rel HO_7.out) hb); have n1_ := aS (Kd.R_elder' (rel HO519.out) (by first | exact Kd.R_base ho0 | exact Kd.S_base ho0 | exact Kd.R_base ho0 | exact Kd.V_base ho0) hb); have n2_ := aS (Kd.R_elder' (rel HO522.out) (by first | exact Kd.R_base ho0 | exact Kd.S_base ho0 | exact Kd.R_base ho0 | exact Kd.V_base ho0) hb); have n3_ := aS (Kd.R_lower (Kd.R_new' (Kd.R_new' ho0 (Kd.R_lt (rel HO519.out))) (Kd.R_lt (rel HO522.out))) (below_size bel)); have n4_ := aS (blk_below (g := gb490) (o := .cells #[.int .i64 a0_0, .int .i64 a0_1, .int .i64 a0_2, .int .i64 a0_3, .int .i64 a0_4, .int .i64 a0_5, .int .i64 a0_6, .int .i64 a0_7, .bool a0_8, .string a0_9, .slice A0_10 l0_10.length c0_10] 26 (0, 0)) (bkl BK490.out) hb); have n5_ := bstep hb; clear HO_7; clear HO519; clear HO522; clear BK490; clear HB; have HO_7 := n0_; have HO519 := n1_; have HO522 := n2_; have HO525 := n3_; have BK490 := n4_; have HB := n5_; clear n0_ n1_ n2_ n3_ n4_ n5_; (try clear hb); (try clear hb2); (try clear hk); (try clear hi); (try clear ho0)))
           go_ret
           exact ⟨_, rf3, by (with_reducible repeat (first | apply Kd.R_alloc | apply Kd.R_drewN | apply Kd.R_drew)); exact Kd.R_mono HO525.out (fun _ hk => trivial), bel⟩
          ·
           rw [if_neg c38] at H
           exact absurd H (by simp)
      ·
       rw [if_neg c24] at H
       exact absurd H (by simp)

end Go.Proofs.Yteoklmfkofgfmaa.X
