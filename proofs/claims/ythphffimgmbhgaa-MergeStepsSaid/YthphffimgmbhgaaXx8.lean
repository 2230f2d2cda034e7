-- written by a program of this session's, over the kit's print
import Derived.Test.YthphffimgmbhgaaXx0
import Derived.Test.YthphffimgmbhgaaXx1
import Derived.Test.YthphffimgmbhgaaXx3
import Derived.Test.YthphffimgmbhgaaXx6
import Derived.Test.YthphffimgmbhgaaXx7
namespace Go.Proofs.Ythphffimgmbhgaa.X
open Go.RowKit Go.Proofs.YthphffimgmbhgaaW.PrintWords Go.Proofs.YthphffimgmbhgaaW.PrintLast Go.Proofs.YthphffimgmbhgaaW.PrintMore
attribute [local go_sem] max2_int min2_int max_two min_two max_three min_three max_four min_four gtr_str   -- for this text's walks alone
set_option linter.unusedVariables false
set_option linter.unusedSimpArgs false

attribute [local go_sem high] eqA35
/-! ### shardlogref08_Sort: function 17 -/
def shardlogref08_Sort.l0 : Nat → List (S35) → List (S35) → Int → Option ((List (S35)))
 | 0, _, _, _ => none
 | k + 1, x0, x3, x4 => if x4 < (x0.length : Int) then (if 0 ≤ x4 then ((shardlogref08_Put1.f k x3 ((rd_T35 x0 x4).f0) ((rd_T35 x0 x4).f1) ((rd_T35 x0 x4).f2) ((rd_T35 x0 x4).f3) ((rd_T35 x0 x4).f4)).bind fun t230 => (shardlogref08_Sort.l0 k x0 t230 (wrap64 (x4 + 1)))) else (none)) else (some x3)
def shardlogref08_Sort.f (k : Nat) (l0 : List (S35)) : Option ((List (S35))) := shardlogref08_Sort.l0 k l0 ([] : List (S35)) 0
theorem shardlogref08_Sort.mono_l : ∀ k, (∀ y0 y1 y2, LeO (shardlogref08_Sort.l0 k y0 y1 y2) (shardlogref08_Sort.l0 (k + 1) y0 y1 y2))
 | 0 => fun _ _ _ r h => by simp [shardlogref08_Sort.l0] at h
 | k + 1 => by
  have ih0 := shardlogref08_Sort.mono_l k
  ·
   intro y0 y1 y2
   unfold shardlogref08_Sort.l0
   repeat' first
   | (with_reducible exact ih0 _ _ _)
   | (with_reducible exact shardlogref08_Put1.mono _ _ _ _ _ _ _)
   | (with_reducible exact LeO.refl _)
   | (with_reducible exact LeO.none _)
   | (with_reducible refine LeO.ite ?_ ?_)
   | (with_reducible refine LeO.bind ?_ (fun _ => ?_))
   | exact ih0 _ _ _
   | exact shardlogref08_Put1.mono _ _ _ _ _ _ _
   | exact LeO.none _
   | refine LeO.ite ?_ ?_
   | refine LeO.bind ?_ (fun _ => ?_)
theorem shardlogref08_Sort.mono : ∀ a0 k, LeO (shardlogref08_Sort.f k a0) (shardlogref08_Sort.f (k + 1) a0) := by
 intro a0 k
 have ih0 := shardlogref08_Sort.mono_l k
 unfold shardlogref08_Sort.f
 repeat' first
   | (with_reducible exact ih0 _ _ _)
   | (with_reducible exact shardlogref08_Put1.mono _ _ _ _ _ _ _)
   | (with_reducible exact LeO.refl _)
   | (with_reducible exact LeO.none _)
   | (with_reducible refine LeO.ite ?_ ?_)
   | (with_reducible refine LeO.bind ?_ (fun _ => ?_))
   | exact ih0 _ _ _
   | exact shardlogref08_Put1.mono _ _ _ _ _ _ _
   | exact LeO.none _
   | refine LeO.ite ?_ ?_
   | refine LeO.bind ?_ (fun _ => ?_)
set_option maxHeartbeats 8000000 in
set_option maxRecDepth 100000 in
theorem shardlogref08_Sort.calls (k : Nat) (A0 : Option Addr) (c0 : Nat) (l0 : List (S35)) (r : List (S35)) (w : World) (hr0 : Kd.C k35 w A0 l0.length l0) (hc0 : l0.length ≤ c0) (h : shardlogref08_Sort.f k l0 = some r) :
  Calls Try.prog 17 #[.slice A0 l0.length c0] w fun e w' => ∃ v0_ : Value, e = .returned (v0_) ∧ Kd.R k35 35 w' w.heap.size (fun _ => True) v0_ r ∧ Below w.heap.size w w' := by
 have hu35 := Try.underlying35
 have HR0 := aS hr0
 have HC0 := aS hc0
 clear hr0 hc0
 have HB := aS (Below.refl w.heap.size w)
 have H : (shardlogref08_Sort.l0 k l0 ([] : List (S35)) 0) = some r := h
 clear h
 have H' := aS H
 clear H
 go_enter Try.func17, Try.ntmps17
 go_wp2
 go_loopg [3, 4] k (fun kq v3 v4 w' => ∃ (x3_1 : List (S35)) (x4_1 : Int), v4 = .int .i64 x4_1 ∧ Aside0 (shardlogref08_Sort.l0 kq l0 x3_1 x4_1 = some r) ∧ Aside0 (kq ≤ k) ∧ Aside0 (Kd.R k35 35 w' w.heap.size (fun _ => True) v3 x3_1) ∧ Aside0 (Below w.heap.size w w'))
 case atStart => exact ⟨(([] : List (S35))), (0), (by first | rfl | (simp; done) | (simp [*]; done) | (simp; exact (by decide : ∀ a_ b_ : Bool, (a_ == b_) = (!a_ != b_)) _ _)), H', ⟨Nat.le_refl _⟩, ⟨by first | exact Kd.R_nil _ _ _ _ _ | exact Kd.N_nil _ _ _ _ _ | exact Kd.V_nil _ _ _ _ _ | exact Kd.Q_nil _ _ _ _ _ | exact Kd.S_nil _ _ _ _ _⟩, ⟨by repeat (first | (with_reducible first | exact HB.out | apply bal | apply bdN | apply bdo) | exact HB.out)⟩⟩
 case round =>
  clear H'; (try clear c1)
  obtain ⟨x3_1, x4_1, rfl, HA, HK1, HO_3, HB⟩ := hrel
  cases gk with
  | zero => exact absurd HA.out (by simp [shardlogref08_Sort.l0])
  | succ k1 =>
   have H := HA.out; clear HA
   simp only [shardlogref08_Sort.l0] at H
   by_cases c2 : x4_1 < (l0.length : Int)
   ·
    rw [if_pos c2] at H
    have c2b0 : decide (x4_1 < (l0.length : Int)) = true := decide_eq_true c2
    clear c2
    by_cases c3 : 0 ≤ x4_1
    ·
     rw [if_pos c3] at H
     have c3b0 : decide (0 ≤ x4_1) = true := decide_eq_true c3
     clear c3
     replace H := obm H
     obtain ⟨t230, A40, H⟩ := H
     replace H : (shardlogref08_Sort.l0 k1 l0 t230 (wrap64 (x4_1 + 1))) = some r := H
     have A4 := aS A40
     clear A40
     have H' := aS H
     clear H
     have p229 : 0 ≤ (x4_1 : Int) := odt (by first | (with_reducible assumption) | assumption)
     have q229 : x4_1 < (l0.length : Int) := odt (by first | (with_reducible assumption) | assumption)
     obtain ⟨ad229, e229, hx229_0, hx229_1, hx229_2, hx229_3, hx229_4⟩ := at_T35 HR0.out x4_1 p229 q229
     cases e229
     replace hx229_0 := (HB.out.cell (wbl w _ hx229_0)).trans hx229_0
     replace hx229_1 := (HB.out.cell (wbl w _ hx229_1)).trans hx229_1
     replace hx229_2 := (HB.out.cell (wbl w _ hx229_2)).trans hx229_2
     replace hx229_3 := (HB.out.cell (wbl w _ hx229_3)).trans hx229_3
     replace hx229_4 := (HB.out.cell (wbl w _ hx229_4)).trans hx229_4
     replace p229 := eq_true p229
     replace q229 := eq_true q229
     obtain ⟨Ao5, co5, eo5⟩ := Kd.R_slice HO_3.out
     subst eo5
     go_wp2_with (first | ((with_reducible refine gate_callee (f := 29) rfl ?_); refine goesL_ (some 16) rfl rfl Try.func29 (by kernel_rfl) rfl #[.slice Ao5 x3_1.length co5, .agg #[.string ((rd_T35 l0 x4_1).f0), .string ((rd_T35 l0 x4_1).f1), .int .i64 ((rd_T35 l0 x4_1).f2), .string ((rd_T35 l0 x4_1).f3), .bool ((rd_T35 l0 x4_1).f4)]] rfl (by (try simp only [List.map_toArray, List.map_cons, List.map_nil]); first | done | rfl | (simp only [lld, llt]; rfl)) ?_; (with_reducible refine (shardlogref08_Put1.calls k1 _ _ x3_1 ((rd_T35 l0 x4_1).f0) ((rd_T35 l0 x4_1).f1) ((rd_T35 l0 x4_1).f2) ((rd_T35 l0 x4_1).f3) ((rd_T35 l0 x4_1).f4) t230 _ ?side1 ?side2 A4.out).mono ?_); (case side1 => repeat (first | exact (Kd.R_reads' HO_3.out).2.2 | (with_reducible refine Kd.C_alloc ?_ _) | (with_reducible refine Kd.C_drewN ?_ _) | (with_reducible refine Kd.C_drew ?_))); (case side2 => exact (Kd.R_reads' HO_3.out).2.1); rintro e w6 ⟨v231, rfl, ho0, hb⟩; refine ⟨_, rfl, ?_⟩; have n0_ := aS (Kd.R_elder' (by (with_reducible repeat (first | apply Kd.R_alloc | apply Kd.R_drewN | apply Kd.R_drew)); exact HO_3.out) (by first | exact Kd.R_base ho0 | exact Kd.S_base ho0 | exact Kd.R_base ho0 | exact Kd.V_base ho0) hb); have n1_ := aS (Kd.R_lower (Kd.R_new' ho0 (Kd.R_lt (by (with_reducible repeat (first | apply Kd.R_alloc | apply Kd.R_drewN | apply Kd.R_drew)); exact HO_3.out))) (below_size (by repeat (first | (with_reducible first | exact HB.out | apply bal | apply bdN | apply bdo) | exact HB.out)))); have n2_ := aS (below_step (by repeat (first | (with_reducible first | exact HB.out | apply bal | apply bdN | apply bdo) | exact HB.out)) hb); clear HO_3; clear HB; have HO_3 := n0_; have HO232 := n1_; have HB := n2_; clear n0_ n1_ n2_; (try clear hb); (try clear hb2); (try clear hk); (try clear hi); (try clear ho0)))
     go_roundg k1
     case measure => have := HK1.out; omega
     case rel => exact ⟨(t230), (wrap64 (x4_1 + 1)), (by first | rfl | (simp; done) | (simp [*]; done) | (simp; exact (by decide : ∀ a_ b_ : Bool, (a_ == b_) = (!a_ != b_)) _ _)), H', ⟨by have := HK1.out; omega⟩, ⟨by (with_reducible repeat (first | apply Kd.R_alloc | apply Kd.R_drewN | apply Kd.R_drew)); exact Kd.R_mono HO232.out (fun _ hk => trivial)⟩, ⟨by repeat (first | (with_reducible first | exact HB.out | apply bal | apply bdN | apply bdo) | exact HB.out)⟩⟩
    ·
     rw [if_neg c3] at H
     exact absurd H (by simp)
   ·
    rw [if_neg c2] at H
    have c2b0 : decide (x4_1 < (l0.length : Int)) = false := decide_eq_false c2
    clear c2
    obtain rfl := Option.some.inj H
    go_wp2
    go_ret
    exact ⟨_, by first | rfl | (simp [errW_none, errW_some] <;> rfl) | (simp [*, errW_none, errW_some] <;> rfl), by (with_reducible repeat (first | apply Kd.R_alloc | apply Kd.R_drewN | apply Kd.R_drew)); exact HO_3.out, by repeat (first | (with_reducible first | exact HB.out | apply bal | apply bdN | apply bdo) | exact HB.out)⟩

/-! ### shardlogref13_Sorts: function 12 -/
def shardlogref13_Sorts.l0 : Nat → List (List (S35)) → List (List (S35)) → Int → Option ((List (List (S35))))
 | 0, _, _, _ => none
 | k + 1, x0, x3, x4 => if x4 < (x0.length : Int) then (if 0 ≤ x4 then ((shardlogref08_Sort.f k (rd_L4 x0 x4)).bind fun t234 => (if x3.length < 5864062014805 then (shardlogref13_Sorts.l0 k x0 (x3 ++ [t234]) (wrap64 (x4 + 1))) else (none))) else (none)) else (some x3)
def shardlogref13_Sorts.f (k : Nat) (l0 : List (List (S35))) : Option ((List (List (S35)))) := shardlogref13_Sorts.l0 k l0 ([] : List (List (S35))) 0
theorem shardlogref13_Sorts.mono_l : ∀ k, (∀ y0 y1 y2, LeO (shardlogref13_Sorts.l0 k y0 y1 y2) (shardlogref13_Sorts.l0 (k + 1) y0 y1 y2))
 | 0 => fun _ _ _ r h => by simp [shardlogref13_Sorts.l0] at h
 | k + 1 => by
  have ih0 := shardlogref13_Sorts.mono_l k
  ·
   intro y0 y1 y2
   unfold shardlogref13_Sorts.l0
   repeat' first
   | (with_reducible exact ih0 _ _ _)
   | (with_reducible exact shardlogref08_Sort.mono _ _)
   | (with_reducible exact LeO.refl _)
   | (with_reducible exact LeO.none _)
   | (with_reducible refine LeO.ite ?_ ?_)
   | (with_reducible refine LeO.bind ?_ (fun _ => ?_))
   | exact ih0 _ _ _
   | exact shardlogref08_Sort.mono _ _
   | exact LeO.none _
   | refine LeO.ite ?_ ?_
   | refine LeO.bind ?_ (fun _ => ?_)
theorem shardlogref13_Sorts.mono : ∀ a0 k, LeO (shardlogref13_Sorts.f k a0) (shardlogref13_Sorts.f (k + 1) a0) := by
 intro a0 k
 have ih0 := shardlogref13_Sorts.mono_l k
 unfold shardlogref13_Sorts.f
 repeat' first
   | (with_reducible exact ih0 _ _ _)
   | (with_reducible exact shardlogref08_Sort.mono _ _)
   | (with_reducible exact LeO.refl _)
   | (with_reducible exact LeO.none _)
   | (with_reducible refine LeO.ite ?_ ?_)
   | (with_reducible refine LeO.bind ?_ (fun _ => ?_))
   | exact ih0 _ _ _
   | exact shardlogref08_Sort.mono _ _
   | exact LeO.none _
   | refine LeO.ite ?_ ?_
   | refine LeO.bind ?_ (fun _ => ?_)
set_option maxHeartbeats 8000000 in
set_option maxRecDepth 100000 in
theorem shardlogref13_Sorts.calls (k : Nat) (A0 : Option Addr) (c0 : Nat) (l0 : List (List (S35))) (r : List (List (S35))) (w : World) (hr0 : Kd.C (Kd.slice 35 k35) w A0 l0.length l0) (hc0 : l0.length ≤ c0) (h : shardlogref13_Sorts.f k l0 = some r) :
  Calls Try.prog 12 #[.slice A0 l0.length c0] w fun e w' => ∃ v0_ : Value, e = .returned (v0_) ∧ Kd.S (Kd.slice 35 k35) 27 w' w.heap.size (fun _ => True) v0_ r ∧ Below w.heap.size w w' := by
 have HR0 := aS hr0
 have HC0 := aS hc0
 clear hr0 hc0
 have HB := aS (Below.refl w.heap.size w)
 have H : (shardlogref13_Sorts.l0 k l0 ([] : List (List (S35))) 0) = some r := h
 clear h
 have H' := aS H
 clear H
 go_enter Try.func12, Try.ntmps12
 go_wp2
 go_loopg [3, 4] k (fun kq v3 v4 w' => ∃ (x3_1 : List (List (S35))) (x4_1 : Int), v4 = .int .i64 x4_1 ∧ Aside0 (shardlogref13_Sorts.l0 kq l0 x3_1 x4_1 = some r) ∧ Aside0 (kq ≤ k) ∧ Aside0 (Kd.S (Kd.slice 35 k35) 27 w' w.heap.size (fun _ => True) v3 x3_1) ∧ Aside0 (Below w.heap.size w w'))
 case atStart => exact ⟨(([] : List (List (S35)))), (0), (by first | rfl | (simp; done) | (simp [*]; done) | (simp; exact (by decide : ∀ a_ b_ : Bool, (a_ == b_) = (!a_ != b_)) _ _)), H', ⟨Nat.le_refl _⟩, ⟨by first | exact Kd.S_nil _ _ _ _ _ | exact Kd.N_nil _ _ _ _ _ | exact Kd.V_nil _ _ _ _ _ | exact Kd.Q_nil _ _ _ _ _ | exact Kd.R_nil _ _ _ _ _⟩, ⟨by repeat (first | (with_reducible first | exact HB.out | apply bal | apply bdN | apply bdo) | exact HB.out)⟩⟩
 case round =>
  clear H'; (try clear c1)
  obtain ⟨x3_1, x4_1, rfl, HA, HK1, HO_3, HB⟩ := hrel
  cases gk with
  | zero => exact absurd HA.out (by simp [shardlogref13_Sorts.l0])
  | succ k1 =>
   have H := HA.out; clear HA
   simp only [shardlogref13_Sorts.l0] at H
   by_cases c2 : x4_1 < (l0.length : Int)
   ·
    rw [if_pos c2] at H
    have c2b0 : decide (x4_1 < (l0.length : Int)) = true := decide_eq_true c2
    clear c2
    by_cases c3 : 0 ≤ x4_1
    ·
     rw [if_pos c3] at H
     have c3b0 : decide (0 ≤ x4_1) = true := decide_eq_true c3
     clear c3
     replace H := obm H
     obtain ⟨t234, A40, H⟩ := H
     replace H : (if x3_1.length < 5864062014805 then (shardlogref13_Sorts.l0 k1 l0 (x3_1 ++ [t234]) (wrap64 (x4_1 + 1))) else (none)) = some r := H
     have A4 := aS A40
     clear A40
     by_cases c5 : x3_1.length < 5864062014805
     ·
      rw [if_pos c5] at H
      have LMc5 := aS c5
      clear c5
      obtain ⟨y237, hy237⟩ : ∃ y_ : List (List (S35)), y_ = (x3_1 ++ [t234]) := ⟨_, rfl⟩
      replace H : (shardlogref13_Sorts.l0 k1 l0 y237 (wrap64 (x4_1 + 1))) = some r := by first | (rw [hy237]; with_reducible exact H) | (have H2_ := (Option.bind_some _ _).symm.trans H; rw [hy237]; with_reducible exact H2_) | (have H2_ := (Option.bind_some _ _).symm.trans H; with_reducible exact H2_) | with_reducible exact H | (rw [hy237]; exact H) | exact H
      have Ny237 := aS hy237
      clear hy237
      have H' := aS H
      clear H
      have p233 : 0 ≤ (x4_1 : Int) := odt (by first | (with_reducible assumption) | assumption)
      have q233 : x4_1 < (l0.length : Int) := odt (by first | (with_reducible assumption) | assumption)
      obtain ⟨ad233, A233_0, c233_0, e233, hx233_0, hl233_0, hi233_0⟩ := at_L4 HR0.out x4_1 p233 q233
      cases e233
      have hB_233_0 := aS hx233_0
      replace hx233_0 := (HB.out.cell (wbl w _ hx233_0)).trans hx233_0
      have HR233_0 := aS hi233_0
      have HC233_0 := aS hl233_0
      clear hi233_0 hl233_0
      replace p233 := eq_true p233
      replace q233 := eq_true q233
      go_wp2_with (first | ((with_reducible refine gate_callee (f := 17) rfl ?_); refine goesL_ (some 16) rfl rfl Try.func17 (by kernel_rfl) rfl #[.slice A233_0 (rd_L4 l0 x4_1).length c233_0] rfl (by (try simp only [List.map_toArray, List.map_cons, List.map_nil]); first | done | rfl | (simp only [lld, llt]; rfl)) ?_; (with_reducible refine (shardlogref08_Sort.calls k1 _ _ (rd_L4 l0 x4_1) t234 _ ?side1 ?side2 A4.out).mono ?_); (case side1 => repeat (first | exact (Kd.C_below HR233_0.out HB.out) | (with_reducible refine Kd.C_alloc ?_ _) | (with_reducible refine Kd.C_drewN ?_ _) | (with_reducible refine Kd.C_drew ?_))); (case side2 => exact HC233_0.out); rintro e w6 ⟨v235, rfl, ho0, hb⟩; refine ⟨_, rfl, ?_⟩; have n0_ := aS (Kd.S_elder' (by (with_reducible repeat (first | apply Kd.S_alloc | apply Kd.S_drewN | apply Kd.S_drew)); exact HO_3.out) (by first | exact Kd.R_base ho0 | exact Kd.S_base ho0 | exact Kd.R_base ho0 | exact Kd.V_base ho0) hb); have n1_ := aS (Kd.R_lower ho0 (below_size (by repeat (first | (with_reducible first | exact HB.out | apply bal | apply bdN | apply bdo) | exact HB.out)))); have n2_ := aS (below_step (by repeat (first | (with_reducible first | exact HB.out | apply bal | apply bdN | apply bdo) | exact HB.out)) hb); clear HO_3; clear HB; have HO_3 := n0_; have HO236 := n1_; have HB := n2_; clear n0_ n1_ n2_; (try clear hb); (try clear hb2); (try clear hk); (try clear hi); (try clear ho0); obtain ⟨Ao8, co8, eo8⟩ := Kd.R_slice HO236.out; subst eo8) | ((with_reducible refine gate_builtin (b := .append) (xs := #[.tmp 11, .tmp 17]) rfl ?_); at_builtin; refine Kd.S_append (Kd.slice 35 k35) (w0 := w) w.heap.size rfl (.tmp 11) (.tmp 17) 22 27 (.slice none 0 0) 24 rfl Try.underlying22 info27 rfl (by decide) (by omega) u3 x3_1 t234 [.slice Ao8 t234.length co8] (fun _ => True) (fun k_ => some k_ = (.slice Ao8 t234.length co8 : Value).ownBlock) rfl rfl ?aP (fun k_ hk_ => ((Kd.R_mono (ok' := fun k_ => ((fun _ => True)) k_ ∧ some k_ ≠ (u3 : Value).ownBlock) (Kd.R_apart' (HO236.out) (Kd.S_typed HO_3.out) (by decide)) (fun k_ hk => ⟨trivial, hk.2⟩))).1 k_ hk_.symm) ?aF ?aO ?aB ?aS ?aL ?_; (case aP => exact Kd.M_row (Kd.R_mono (Kd.R_tight rfl (Kd.R_mono (ok' := fun k_ => ((fun _ => True)) k_ ∧ some k_ ≠ (u3 : Value).ownBlock) (Kd.R_apart' (HO236.out) (Kd.S_typed HO_3.out) (by decide)) (fun k_ hk => ⟨trivial, hk.2⟩))) (fun _ h_ => h_))); (case aB => exact (by repeat (first | (with_reducible first | exact HB.out | apply bal | apply bdN | apply bdo) | exact HB.out))); (case aF => exact (fun _ _ => trivial)); (case aO => exact (by (with_reducible repeat (first | apply Kd.S_alloc | apply Kd.S_drewN | apply Kd.S_drew)); exact Kd.S_mono HO_3.out (fun k_ hk => ⟨trivial, fun e_ => hk.2 e_⟩))); (case aS => exact (below_size (by repeat (first | (with_reducible first | exact HB.out | apply bal | apply bdN | apply bdo) | exact HB.out)))); (case aL => have := LMc5.out; omega); intro v238 w7 ho hb hg hat; rw [← Ny237.out] at ho; have n0_ := aS (hb); have n1_ := aS (ho); clear HB; clear HO_3; clear HO236; have HB := n0_; have HO239 := n1_; clear n0_ n1_; clear ho hb hg hat))
      go_roundg k1
      case measure => have := HK1.out; omega
      case rel => exact ⟨(y237), (wrap64 (x4_1 + 1)), (by first | rfl | (simp; done) | (simp [*]; done) | (simp; exact (by decide : ∀ a_ b_ : Bool, (a_ == b_) = (!a_ != b_)) _ _)), H', ⟨by have := HK1.out; omega⟩, ⟨by (with_reducible repeat (first | apply Kd.S_alloc | apply Kd.S_drewN | apply Kd.S_drew)); exact HO239.out⟩, ⟨by repeat (first | (with_reducible first | exact HB.out | apply bal | apply bdN | apply bdo) | exact HB.out)⟩⟩
     ·
      rw [if_neg c5] at H
      exact absurd H (by simp)
    ·
     rw [if_neg c3] at H
     exact absurd H (by simp)
   ·
    rw [if_neg c2] at H
    have c2b0 : decide (x4_1 < (l0.length : Int)) = false := decide_eq_false c2
    clear c2
    obtain rfl := Option.some.inj H
    go_wp2
    go_ret
    exact ⟨_, by first | rfl | (simp [errW_none, errW_some] <;> rfl) | (simp [*, errW_none, errW_some] <;> rfl), by (with_reducible repeat (first | apply Kd.S_alloc | apply Kd.S_drewN | apply Kd.S_drew)); exact HO_3.out, by repeat (first | (with_reducible first | exact HB.out | apply bal | apply bdN | apply bdo) | exact HB.out)⟩

/-! ### shardlogref08_Same: function 13 -/
def shardlogref08_Same.l0 : Nat → List (S35) → List (S35) → Int → Option (Bool)
 | 0, _, _, _ => none
 | k + 1, x0, x1, x5 => if x5 < (x0.length : Int) then (if 0 ≤ x5 then (if x5 < (x1.length : Int) then (if (!((((rd_T35 x0 x5).f0).toList) == (((rd_T35 x1 x5).f0).toList)) || (!((((rd_T35 x0 x5).f1).toList) == (((rd_T35 x1 x5).f1).toList)) || (!(((rd_T35 x0 x5).f2) == ((rd_T35 x1 x5).f2)) || (!((((rd_T35 x0 x5).f3).toList) == (((rd_T35 x1 x5).f3).toList)) || (!(((rd_T35 x0 x5).f4) == ((rd_T35 x1 x5).f4))))))) = true then (some false) else (shardlogref08_Same.l0 k x0 x1 (wrap64 (x5 + 1)))) else (none)) else (none)) else (some true)
def shardlogref08_Same.f (k : Nat) (l0 : List (S35)) (l1 : List (S35)) : Option (Bool) := if (l0.length : Int) = (l1.length : Int) then (shardlogref08_Same.l0 k l0 l1 0) else (some false)
theorem shardlogref08_Same.mono_l : ∀ k, (∀ y0 y1 y2, LeO (shardlogref08_Same.l0 k y0 y1 y2) (shardlogref08_Same.l0 (k + 1) y0 y1 y2))
 | 0 => fun _ _ _ r h => by simp [shardlogref08_Same.l0] at h
 | k + 1 => by
  have ih0 := shardlogref08_Same.mono_l k
  ·
   intro y0 y1 y2
   unfold shardlogref08_Same.l0
   repeat' first
   | (with_reducible exact ih0 _ _ _)
   | (with_reducible exact LeO.refl _)
   | (with_reducible exact LeO.none _)
   | (with_reducible refine LeO.ite ?_ ?_)
   | (with_reducible refine LeO.bind ?_ (fun _ => ?_))
   | exact ih0 _ _ _
   | exact LeO.none _
   | refine LeO.ite ?_ ?_
   | refine LeO.bind ?_ (fun _ => ?_)
theorem shardlogref08_Same.mono : ∀ a0 a1 k, LeO (shardlogref08_Same.f k a0 a1) (shardlogref08_Same.f (k + 1) a0 a1) := by
 intro a0 a1 k
 have ih0 := shardlogref08_Same.mono_l k
 unfold shardlogref08_Same.f
 repeat' first
   | (with_reducible exact ih0 _ _ _)
   | (with_reducible exact LeO.refl _)
   | (with_reducible exact LeO.none _)
   | (with_reducible refine LeO.ite ?_ ?_)
   | (with_reducible refine LeO.bind ?_ (fun _ => ?_))
   | exact ih0 _ _ _
   | exact LeO.none _
   | refine LeO.ite ?_ ?_
   | refine LeO.bind ?_ (fun _ => ?_)
set_option maxHeartbeats 8000000 in
set_option maxRecDepth 100000 in
theorem shardlogref08_Same.calls (k : Nat) (A0 : Option Addr) (c0 : Nat) (l0 : List (S35)) (A1 : Option Addr) (c1 : Nat) (l1 : List (S35)) (r : Bool) (w : World) (hr0 : Kd.C k35 w A0 l0.length l0) (hc0 : l0.length ≤ c0) (hr1 : Kd.C k35 w A1 l1.length l1) (hc1 : l1.length ≤ c1) (h : shardlogref08_Same.f k l0 l1 = some r) :
  Calls Try.prog 13 #[.slice A0 l0.length c0, .slice A1 l1.length c1] w fun e w' => e = .returned (.bool r) ∧ Drawn0 w w' := by
 have hu35 := Try.underlying35
 have HR0 := aS hr0
 have HC0 := aS hc0
 clear hr0 hc0
 have HR1 := aS hr1
 have HC1 := aS hc1
 clear hr1 hc1
 have H : (if (l0.length : Int) = (l1.length : Int) then (shardlogref08_Same.l0 k l0 l1 0) else (some false)) = some r := h
 clear h
 by_cases c3 : (l0.length : Int) = (l1.length : Int)
 ·
  rw [if_pos c3] at H
  have c3b0 : ((l0.length : Int) == (l1.length : Int)) = true := beq_iff_eq.mpr c3
  have c3b1 : ((l0.length : Int) != (l1.length : Int)) = false := bne_eq_false_iff_eq.mpr c3
  have c3b2 : (l0.length == l1.length) = true := by first | simpa using c3 | (simp at c3 ⊢; omega)
  clear c3
  have H' := aS H
  clear H
  go_enter Try.func13, Try.ntmps13
  go_wp2
  repeat (go_quiet (fail); try go_wp2)
  go_loopg [5] k (fun kq v5 w' => ∃ (x5_1 : Int), v5 = .int .i64 x5_1 ∧ Aside0 (shardlogref08_Same.l0 kq l0 l1 x5_1 = some r) ∧ Aside0 (kq ≤ k) ∧ Drawn0 w w')
  case atStart => exact ⟨(0), (by first | rfl | (simp; done) | (simp [*]; done) | (simp; exact (by decide : ∀ a_ b_ : Bool, (a_ == b_) = (!a_ != b_)) _ _)), H', ⟨Nat.le_refl _⟩, by repeat (first | exact Drawn0.refl _ | apply Drawn0.step)⟩
  case round =>
   clear H'; (try clear c1); (try clear p2); (try clear c3); (try clear c3b0); (try clear c3b1); (try clear c3b2)
   obtain ⟨x5_1, rfl, HA, HK1, ⟨m1, rfl⟩⟩ := hrel
   cases gk with
   | zero => exact absurd HA.out (by simp [shardlogref08_Same.l0])
   | succ k1 =>
    have H := HA.out; clear HA
    simp only [shardlogref08_Same.l0] at H
    by_cases c4 : x5_1 < (l0.length : Int)
    ·
     rw [if_pos c4] at H
     have c4b0 : decide (x5_1 < (l0.length : Int)) = true := decide_eq_true c4
     clear c4
     by_cases c5 : 0 ≤ x5_1
     ·
      rw [if_pos c5] at H
      have c5b0 : decide (0 ≤ x5_1) = true := decide_eq_true c5
      clear c5
      by_cases c6 : x5_1 < (l1.length : Int)
      ·
       rw [if_pos c6] at H
       have c6b0 : decide (x5_1 < (l1.length : Int)) = true := decide_eq_true c6
       clear c6
       by_cases c7 : (!((((rd_T35 l0 x5_1).f0).toList) == (((rd_T35 l1 x5_1).f0).toList)) || (!((((rd_T35 l0 x5_1).f1).toList) == (((rd_T35 l1 x5_1).f1).toList)) || (!(((rd_T35 l0 x5_1).f2) == ((rd_T35 l1 x5_1).f2)) || (!((((rd_T35 l0 x5_1).f3).toList) == (((rd_T35 l1 x5_1).f3).toList)) || (!(((rd_T35 l0 x5_1).f4) == ((rd_T35 l1 x5_1).f4))))))) = true
       ·
        rw [if_pos c7] at H
        have c7b0 : (!((((rd_T35 l0 x5_1).f0).toList) == (((rd_T35 l1 x5_1).f0).toList)) || (!((((rd_T35 l0 x5_1).f1).toList) == (((rd_T35 l1 x5_1).f1).toList)) || (!(((rd_T35 l0 x5_1).f2) == ((rd_T35 l1 x5_1).f2)) || (!((((rd_T35 l0 x5_1).f3).toList) == (((rd_T35 l1 x5_1).f3).toList)) || (!(((rd_T35 l0 x5_1).f4) == ((rd_T35 l1 x5_1).f4))))))) = true := c7
        clear c7
        obtain rfl := Option.some.inj H
        have p240 : 0 ≤ (x5_1 : Int) := odt (by first | (with_reducible assumption) | assumption)
        have q240 : x5_1 < (l0.length : Int) := odt (by first | (with_reducible assumption) | assumption)
        obtain ⟨ad240, e240, hx240_0, hx240_1, hx240_2, hx240_3, hx240_4⟩ := at_T35 HR0.out x5_1 p240 q240
        cases e240
        replace p240 := eq_true p240
        replace q240 := eq_true q240
        have p241 : 0 ≤ (x5_1 : Int) := odt (by first | (with_reducible assumption) | assumption)
        have q241 : x5_1 < (l1.length : Int) := odt (by first | (with_reducible assumption) | assumption)
        obtain ⟨ad241, e241, hx241_0, hx241_1, hx241_2, hx241_3, hx241_4⟩ := at_T35 HR1.out x5_1 p241 q241
        cases e241
        replace p241 := eq_true p241
        replace q241 := eq_true q241
        go_wp2
        repeat (go_quiet (fail); try go_wp2)
        go_ret
        exact ⟨by first | rfl | (simp; done) | (simp [*]; done) | (simp; exact (by decide : ∀ a_ b_ : Bool, (a_ == b_) = (!a_ != b_)) _ _), by repeat (first | exact Drawn0.refl _ | apply Drawn0.step)⟩
       ·
        rw [if_neg c7] at H
        have c7b0 : (!((((rd_T35 l0 x5_1).f0).toList) == (((rd_T35 l1 x5_1).f0).toList)) || (!((((rd_T35 l0 x5_1).f1).toList) == (((rd_T35 l1 x5_1).f1).toList)) || (!(((rd_T35 l0 x5_1).f2) == ((rd_T35 l1 x5_1).f2)) || (!((((rd_T35 l0 x5_1).f3).toList) == (((rd_T35 l1 x5_1).f3).toList)) || (!(((rd_T35 l0 x5_1).f4) == ((rd_T35 l1 x5_1).f4))))))) = false := by simpa using c7
        clear c7
        have H' := aS H
        clear H
        have p240 : 0 ≤ (x5_1 : Int) := odt (by first | (with_reducible assumption) | assumption)
        have q240 : x5_1 < (l0.length : Int) := odt (by first | (with_reducible assumption) | assumption)
        obtain ⟨ad240, e240, hx240_0, hx240_1, hx240_2, hx240_3, hx240_4⟩ := at_T35 HR0.out x5_1 p240 q240
        cases e240
        replace p240 := eq_true p240
        replace q240 := eq_true q240
        have p241 : 0 ≤ (x5_1 : Int) := odt (by first | (with_reducible assumption) | assumption)
        have q241 : x5_1 < (l1.length : Int) := odt (by first | (with_reducible assumption) | assumption)
        obtain ⟨ad241, e241, hx241_0, hx241_1, hx241_2, hx241_3, hx241_4⟩ := at_T35 HR1.out x5_1 p241 q241
        cases e241
        replace p241 := eq_true p241
        replace q241 := eq_true q241
        go_wp2
        repeat (go_quiet (fail); try go_wp2)
        go_roundg k1
        case measure => have := HK1.out; omega
        case rel => exact ⟨(wrap64 (x5_1 + 1)), (by first | rfl | (simp; done) | (simp [*]; done) | (simp; exact (by decide : ∀ a_ b_ : Bool, (a_ == b_) = (!a_ != b_)) _ _)), H', ⟨by have := HK1.out; omega⟩, by repeat (first | exact Drawn0.refl _ | apply Drawn0.step)⟩
      ·
       rw [if_neg c6] at H
       exact absurd H (by simp)
     ·
      rw [if_neg c5] at H
      exact absurd H (by simp)
    ·
     rw [if_neg c4] at H
     have c4b0 : decide (x5_1 < (l0.length : Int)) = false := decide_eq_false c4
     clear c4
     obtain rfl := Option.some.inj H
     go_wp2
     repeat (go_quiet (fail); try go_wp2)
     go_ret
     exact ⟨by first | rfl | (simp; done) | (simp [*]; done) | (simp; exact (by decide : ∀ a_ b_ : Bool, (a_ == b_) = (!a_ != b_)) _ _), by repeat (first | exact Drawn0.refl _ | apply Drawn0.step)⟩
 ·
  rw [if_neg c3] at H
  have c3b0 : ((l0.length : Int) == (l1.length : Int)) = false := beq_eq_false_iff_ne.mpr c3
  have c3b1 : ((l0.length : Int) != (l1.length : Int)) = true := bne_iff_ne.mpr c3
  have c3b2 : (l0.length == l1.length) = false := by first | simpa using c3 | (simp at c3 ⊢; omega)
  obtain rfl := Option.some.inj H
  go_enter Try.func13, Try.ntmps13
  go_wp2
  repeat (go_quiet (fail); try go_wp2)
  go_ret
  exact ⟨by first | rfl | (simp; done) | (simp [*]; done) | (simp; exact (by decide : ∀ a_ b_ : Bool, (a_ == b_) = (!a_ != b_)) _ _), by repeat (first | exact Drawn0.refl _ | apply Drawn0.step)⟩

/-! ### shardloglaw13_MergeSteps: function 7 -/
def shardloglaw13_MergeSteps.j0 : Nat → List (List (S35)) → Int → Bool → Option (Bool)
 | 0, _, _, _ => none
 | k + 1, x0, x1, x19 => if x19 = true then ((shardloglaw13_awake.f k).bind fun t244 => (some t244)) else ((shardlogref13_Sorts.f k x0).bind fun t245 => (if (t245.length : Int) = 0 then (none) else (if 0 ≤ (Int.tmod (wrap64 (x1)) (t245.length : Int)) then (if (Int.tmod (wrap64 (x1)) (t245.length : Int)) ≤ (t245.length : Int) then ((merge_All.f k (t245.take ((Int.tmod (wrap64 (x1)) (t245.length : Int)) : Int).toNat)).bind fun t253 => ((merge_All.f k (t245.drop ((Int.tmod (wrap64 (x1)) (t245.length : Int)) : Int).toNat)).bind fun t261 => ((merge_All.f k (([t253, t261] : List (List (S35))))).bind fun t267 => ((merge_All.f k t245).bind fun t270 => ((shardlogref08_Same.f k t267 t270).bind fun t273 => (if t273 = true then (if (Int.tmod (wrap64 (x1)) (t245.length : Int)) ≤ (wrap64 ((Int.tmod (wrap64 (x1)) (t245.length : Int)) + 1)) then (if (wrap64 ((Int.tmod (wrap64 (x1)) (t245.length : Int)) + 1)) ≤ (t245.length : Int) then ((merge_All.f k ((t245.take ((wrap64 ((Int.tmod (wrap64 (x1)) (t245.length : Int)) + 1)) : Int).toNat).drop ((Int.tmod (wrap64 (x1)) (t245.length : Int)) : Int).toNat)).bind fun t279 => (if (Int.tmod (wrap64 (x1)) (t245.length : Int)) < (t245.length : Int) then ((shardlogref08_Same.f k t279 (rd_L4 t245 (Int.tmod (wrap64 (x1)) (t245.length : Int)))).bind fun t283 => (some t283)) else (none))) else (none)) else (none)) else (none))))))) else (none)) else (none))))
def shardloglaw13_MergeSteps.f (k : Nat) (l0 : List (List (S35))) (a1 : Int) : Option (Bool) := (shardloglaw13_awake.f k).bind fun t242 => (if t242 = true then ((shardlogref13_Few.f k l0).bind fun t243 => (if t243 = true then (shardloglaw13_MergeSteps.j0 k l0 a1 ((l0.length : Int) == 0)) else (shardloglaw13_MergeSteps.j0 k l0 a1 true))) else (shardloglaw13_MergeSteps.j0 k l0 a1 true))
theorem shardloglaw13_MergeSteps.mono_l : ∀ k, (∀ y0 y1 y2, LeO (shardloglaw13_MergeSteps.j0 k y0 y1 y2) (shardloglaw13_MergeSteps.j0 (k + 1) y0 y1 y2))
 | 0 => fun _ _ _ r h => by simp [shardloglaw13_MergeSteps.j0] at h
 | k + 1 => by
  have ih0 := shardloglaw13_MergeSteps.mono_l k
  ·
   intro y0 y1 y2
   unfold shardloglaw13_MergeSteps.j0
   repeat' first
   | (with_reducible exact ih0 _ _ _)
   | (with_reducible exact merge_All.mono _ _)
   | (with_reducible exact shardloglaw13_awake.mono _)
   | (with_reducible exact shardlogref08_Same.mono _ _ _)
   | (with_reducible exact shardlogref13_Few.mono _ _)
   | (with_reducible exact shardlogref13_Sorts.mono _ _)
   | (with_reducible exact LeO.refl _)
   | (with_reducible exact LeO.none _)
   | (with_reducible refine LeO.ite ?_ ?_)
   | (with_reducible refine LeO.bind ?_ (fun _ => ?_))
   | exact ih0 _ _ _
   | exact merge_All.mono _ _
   | exact shardloglaw13_awake.mono _
   | exact shardlogref08_Same.mono _ _ _
   | exact shardlogref13_Few.mono _ _
   | exact shardlogref13_Sorts.mono _ _
   | exact LeO.none _
   | refine LeO.ite ?_ ?_
   | refine LeO.bind ?_ (fun _ => ?_)
theorem shardloglaw13_MergeSteps.mono : ∀ a0 a1 k, LeO (shardloglaw13_MergeSteps.f k a0 a1) (shardloglaw13_MergeSteps.f (k + 1) a0 a1) := by
 intro a0 a1 k
 have ih0 := shardloglaw13_MergeSteps.mono_l k
 unfold shardloglaw13_MergeSteps.f
 repeat' first
   | (with_reducible exact ih0 _ _ _)
   | (with_reducible exact merge_All.mono _ _)
   | (with_reducible exact shardloglaw13_awake.mono _)
   | (with_reducible exact shardlogref08_Same.mono _ _ _)
   | (with_reducible exact shardlogref13_Few.mono _ _)
   | (with_reducible exact shardlogref13_Sorts.mono _ _)
   | (with_reducible exact LeO.refl _)
   | (with_reducible exact LeO.none _)
   | (with_reducible refine LeO.ite ?_ ?_)
   | (with_reducible refine LeO.bind ?_ (fun _ => ?_))
   | exact ih0 _ _ _
   | exact merge_All.mono _ _
   | exact shardloglaw13_awake.mono _
   | exact shardlogref08_Same.mono _ _ _
   | exact shardlogref13_Few.mono _ _
   | exact shardlogref13_Sorts.mono _ _
   | exact LeO.none _
   | refine LeO.ite ?_ ?_
   | refine LeO.bind ?_ (fun _ => ?_)
def shardloglaw13_MergeSteps.T5 : Bool × List (List Nat × List Nat) := (true, [([], []), ([], []), ([0, 1], [0, 1]), ([2], [2]), ([], []), ([], []), ([4, 5], [4, 5]), ([6, 3], [6]), ([3, 7], [3, 7]), ([8, 7, 0, 1, 2, 3, 4, 5, 6, 7, 8], [8])])
def shardloglaw13_MergeSteps.B5 : List Nat := [0, 0, 3, 7, 0, 0, 48, 127, 255, 511]
theorem shardloglaw13_MergeSteps.tab5 : rtab .any (opsOf Try.f7 5) = shardloglaw13_MergeSteps.T5 := by kernel_rfl
theorem shardloglaw13_MergeSteps.bits5 : waitsOk shardloglaw13_MergeSteps.T5.2 shardloglaw13_MergeSteps.B5 = true := by kernel_rfl
def shardloglaw13_MergeSteps.T6 : Bool × List (List Nat × List Nat) := (true, [([], []), ([0], [0]), ([], []), ([2, 1], [2]), ([1, 3, 3], [1, 3]), ([4, 4], [4]), ([5], [5]), ([5], [5]), ([5], [5]), ([8, 5], [5, 8]), ([6, 7, 9, 5], [5, 6, 7, 9]), ([10, 5, 5], [5, 10]), ([5], [5]), ([5], [5]), ([12, 13, 5], [5, 12, 13]), ([14, 5], [5, 14]), ([11, 15, 11, 5], [5, 11, 15]), ([5, 16], [5, 16]), ([17, 16, 0, 1, 2, 3, 4, 5, 6, 7, 8, 9, 10, 11, 12, 13, 14, 15, 16, 17], [17])])
def shardloglaw13_MergeSteps.B6 : List Nat := [0, 1, 0, 7, 15, 31, 63, 63, 63, 319, 1023, 2047, 63, 63, 12351, 28735, 65535, 131071, 262143]
theorem shardloglaw13_MergeSteps.tab6 : rtab .any (opsOf Try.f7 6) = shardloglaw13_MergeSteps.T6 := by kernel_rfl
theorem shardloglaw13_MergeSteps.bits6 : waitsOk shardloglaw13_MergeSteps.T6.2 shardloglaw13_MergeSteps.B6 = true := by kernel_rfl
set_option maxHeartbeats 8000000 in
set_option maxRecDepth 100000 in
theorem shardloglaw13_MergeSteps.calls (k : Nat) (A0 : Option Addr) (c0 : Nat) (l0 : List (List (S35))) (a1 : Int) (r : Bool) (w : World) (hr0 : Kd.C (Kd.slice 35 k35) w A0 l0.length l0) (hc0 : l0.length ≤ c0) (h : shardloglaw13_MergeSteps.f k l0 a1 = some r) :
  Calls Try.prog 7 #[.slice A0 l0.length c0, .int .u8 a1] w fun e w' => e = .returned (.bool r) ∧ Below w.heap.size w w' := by
 have HR0 := aS hr0
 have HC0 := aS hc0
 clear hr0 hc0
 have HB := aS (Below.refl w.heap.size w)
 have H : ((shardloglaw13_awake.f k).bind fun t242 => (if t242 = true then ((shardlogref13_Few.f k l0).bind fun t243 => (if t243 = true then (shardloglaw13_MergeSteps.j0 k l0 a1 ((l0.length : Int) == 0)) else (shardloglaw13_MergeSteps.j0 k l0 a1 true))) else (shardloglaw13_MergeSteps.j0 k l0 a1 true))) = some r := h
 clear h
 have HC3 := aS H
 clear H
 go_enter Try.func7, Try.ntmps7
 go_upto_region 1 with (fail)
 go_cut [19] (fun v19 wc => ∃ (kq : Nat) (x19_2 : Bool), v19 = .bool x19_2 ∧ Aside0 (shardloglaw13_MergeSteps.j0 kq l0 a1 x19_2 = some r) ∧ Aside0 (kq ≤ k) ∧ Aside0 (Below w.heap.size w wc))
 case first =>
  have H := HC3.out; clear HC3
  replace H := obm H
  obtain ⟨t242, A40, H⟩ := H
  replace H : (if t242 = true then ((shardlogref13_Few.f k l0).bind fun t243 => (if t243 = true then (shardloglaw13_MergeSteps.j0 k l0 a1 ((l0.length : Int) == 0)) else (shardloglaw13_MergeSteps.j0 k l0 a1 true))) else (shardloglaw13_MergeSteps.j0 k l0 a1 true)) = some r := H
  have A4 := aS A40
  clear A40
  by_cases c5 : t242 = true
  ·
   subst c5
   have H1 : ((shardlogref13_Few.f k l0).bind fun t243 => (if t243 = true then (shardloglaw13_MergeSteps.j0 k l0 a1 ((l0.length : Int) == 0)) else (shardloglaw13_MergeSteps.j0 k l0 a1 true))) = some r := by rw [if_pos rfl] at H; exact H
   clear H; have H := H1; clear H1
   replace H := obm H
   obtain ⟨t243, A60, H⟩ := H
   replace H : (if t243 = true then (shardloglaw13_MergeSteps.j0 k l0 a1 ((l0.length : Int) == 0)) else (shardloglaw13_MergeSteps.j0 k l0 a1 true)) = some r := H
   have A6 := aS A60
   clear A60
   by_cases c7 : t243 = true
   ·
    subst c7
    have H1 : (shardloglaw13_MergeSteps.j0 k l0 a1 ((l0.length : Int) == 0)) = some r := by rw [if_pos rfl] at H; exact H
    clear H; have H := H1; clear H1
    have H' := aS H
    clear H
    go_wp2_with (first | ((with_reducible refine gate_callee (f := 10) rfl ?_); refine goesL_ (some 8) rfl rfl Try.func10 (by kernel_rfl) rfl #[] rfl (by (try simp only [List.map_toArray, List.map_cons, List.map_nil]); first | done | rfl | (simp only [lld, llt]; rfl)) ?_; (with_reducible refine (shardloglaw13_awake.calls k  true _ A4.out).mono ?_); rintro e w8 ⟨rfl, hb⟩; refine ⟨_, rfl, ?_⟩; have n0_ := aS (below_step (by repeat (first | (with_reducible first | exact HB.out | apply bal | apply bdN | apply bdo) | exact HB.out)) hb); clear HB; have HB := n0_; clear n0_; (try clear hb); (try clear hb2); (try clear hk); (try clear hi)) | (go_at_call 11; (with_reducible refine (shardlogref13_Few.calls k _ _ l0 true _ ?side1 ?side2 A6.out).mono ?_); (case side1 => repeat (first | exact (Kd.C_below HR0.out HB.out) | (with_reducible refine Kd.C_alloc ?_ _) | (with_reducible refine Kd.C_drewN ?_ _) | (with_reducible refine Kd.C_drew ?_))); (case side2 => exact HC0.out); rintro e w9 ⟨rfl, hb⟩; have n0_ := aS (below_step (by repeat (first | (with_reducible first | exact HB.out | apply bal | apply bdN | apply bdo) | exact HB.out)) hb); clear HB; have HB := n0_; clear n0_; (try clear hb); (try clear hb2); (try clear hk); (try clear hi)))
    go_meet
    case rel => exact ⟨_, (((l0.length : Int) == 0)), (by first | rfl | (simp; done) | (simp [*]; done) | (simp; exact (by decide : ∀ a_ b_ : Bool, (a_ == b_) = (!a_ != b_)) _ _)), H', ⟨by first | omega | exact Nat.le_refl _⟩, ⟨by repeat (first | (with_reducible first | exact HB.out | apply bal | apply bdN | apply bdo) | exact HB.out)⟩⟩
   ·
    replace c7 := Bool.eq_false_iff.mpr c7
    subst c7
    have H1 : (shardloglaw13_MergeSteps.j0 k l0 a1 true) = some r := by rw [if_neg (show ¬ (false = true) by decide)] at H; exact H
    clear H; have H := H1; clear H1
    have H' := aS H
    clear H
    go_wp2_with (first | ((with_reducible refine gate_callee (f := 10) rfl ?_); refine goesL_ (some 8) rfl rfl Try.func10 (by kernel_rfl) rfl #[] rfl (by (try simp only [List.map_toArray, List.map_cons, List.map_nil]); first | done | rfl | (simp only [lld, llt]; rfl)) ?_; (with_reducible refine (shardloglaw13_awake.calls k  true _ A4.out).mono ?_); rintro e w10 ⟨rfl, hb⟩; refine ⟨_, rfl, ?_⟩; have n0_ := aS (below_step (by repeat (first | (with_reducible first | exact HB.out | apply bal | apply bdN | apply bdo) | exact HB.out)) hb); clear HB; have HB := n0_; clear n0_; (try clear hb); (try clear hb2); (try clear hk); (try clear hi)) | (go_at_call 11; (with_reducible refine (shardlogref13_Few.calls k _ _ l0 false _ ?side1 ?side2 A6.out).mono ?_); (case side1 => repeat (first | exact (Kd.C_below HR0.out HB.out) | (with_reducible refine Kd.C_alloc ?_ _) | (with_reducible refine Kd.C_drewN ?_ _) | (with_reducible refine Kd.C_drew ?_))); (case side2 => exact HC0.out); rintro e w11 ⟨rfl, hb⟩; have n0_ := aS (below_step (by repeat (first | (with_reducible first | exact HB.out | apply bal | apply bdN | apply bdo) | exact HB.out)) hb); clear HB; have HB := n0_; clear n0_; (try clear hb); (try clear hb2); (try clear hk); (try clear hi)))
    go_meet
    case rel => exact ⟨_, (true), (by first | rfl | (simp; done) | (simp [*]; done) | (simp; exact (by decide : ∀ a_ b_ : Bool, (a_ == b_) = (!a_ != b_)) _ _)), H', ⟨by first | omega | exact Nat.le_refl _⟩, ⟨by repeat (first | (with_reducible first | exact HB.out | apply bal | apply bdN | apply bdo) | exact HB.out)⟩⟩
  ·
   replace c5 := Bool.eq_false_iff.mpr c5
   subst c5
   have H1 : (shardloglaw13_MergeSteps.j0 k l0 a1 true) = some r := by rw [if_neg (show ¬ (false = true) by decide)] at H; exact H
   clear H; have H := H1; clear H1
   have H' := aS H
   clear H
   go_wp2_with (first | ((with_reducible refine gate_callee (f := 10) rfl ?_); refine goesL_ (some 8) rfl rfl Try.func10 (by kernel_rfl) rfl #[] rfl (by (try simp only [List.map_toArray, List.map_cons, List.map_nil]); first | done | rfl | (simp only [lld, llt]; rfl)) ?_; (with_reducible refine (shardloglaw13_awake.calls k  false _ A4.out).mono ?_); rintro e w12 ⟨rfl, hb⟩; refine ⟨_, rfl, ?_⟩; have n0_ := aS (below_step (by repeat (first | (with_reducible first | exact HB.out | apply bal | apply bdN | apply bdo) | exact HB.out)) hb); clear HB; have HB := n0_; clear n0_; (try clear hb); (try clear hb2); (try clear hk); (try clear hi)))
   go_meet
   case rel => exact ⟨_, (true), (by first | rfl | (simp; done) | (simp [*]; done) | (simp; exact (by decide : ∀ a_ b_ : Bool, (a_ == b_) = (!a_ != b_)) _ _)), H', ⟨by first | omega | exact Nat.le_refl _⟩, ⟨by repeat (first | (with_reducible first | exact HB.out | apply bal | apply bdN | apply bdo) | exact HB.out)⟩⟩
 case rest =>
  clear HC3; (try clear c1); (try clear p2); (try clear c5); (try clear c7); (try clear c10)
  obtain ⟨kq, x19_2, rfl, HA, HJ2, HB⟩ := hcut
  cases kq with
  | zero => exact absurd HA.out (by simp [shardloglaw13_MergeSteps.j0])
  | succ kj2 =>
   have H := HA.out; clear HA
   simp only [shardloglaw13_MergeSteps.j0] at H
   by_cases c13 : x19_2 = true
   ·
    subst c13
    have H1 : ((shardloglaw13_awake.f kj2).bind fun t244 => (some t244)) = some r := by rw [if_pos rfl] at H; exact H
    clear H; have H := H1; clear H1
    replace H := obm H
    obtain ⟨t244, A140, H⟩ := H
    replace H : (some t244) = some r := H
    have A14 := aS A140
    clear A140
    obtain rfl := Option.some.inj H
    go_wp2_with (first | ((with_reducible refine gate_callee (f := 10) rfl ?_); refine goesL_ (some 20) rfl rfl Try.func10 (by kernel_rfl) rfl #[] rfl (by (try simp only [List.map_toArray, List.map_cons, List.map_nil]); first | done | rfl | (simp only [lld, llt]; rfl)) ?_; (with_reducible refine (shardloglaw13_awake.calls kj2  t244 _ A14.out).mono ?_); rintro e w15 ⟨rfl, hb⟩; refine ⟨_, rfl, ?_⟩; have n0_ := aS (below_step (by repeat (first | (with_reducible first | exact HB.out | apply bal | apply bdN | apply bdo) | exact HB.out)) hb); clear HB; have HB := n0_; clear n0_; (try clear hb); (try clear hb2); (try clear hk); (try clear hi)))
    go_ret
    exact ⟨by first | rfl | (simp [errW_none, errW_some] <;> rfl) | (simp [*, errW_none, errW_some] <;> rfl), by repeat (first | (with_reducible first | exact HB.out | apply bal | apply bdN | apply bdo) | exact HB.out)⟩
   ·
    replace c13 := Bool.eq_false_iff.mpr c13
    subst c13
    have H1 : ((shardlogref13_Sorts.f kj2 l0).bind fun t245 => (if (t245.length : Int) = 0 then (none) else (if 0 ≤ (Int.tmod (wrap64 (a1)) (t245.length : Int)) then (if (Int.tmod (wrap64 (a1)) (t245.length : Int)) ≤ (t245.length : Int) then ((merge_All.f kj2 (t245.take ((Int.tmod (wrap64 (a1)) (t245.length : Int)) : Int).toNat)).bind fun t253 => ((merge_All.f kj2 (t245.drop ((Int.tmod (wrap64 (a1)) (t245.length : Int)) : Int).toNat)).bind fun t261 => ((merge_All.f kj2 (([t253, t261] : List (List (S35))))).bind fun t267 => ((merge_All.f kj2 t245).bind fun t270 => ((shardlogref08_Same.f kj2 t267 t270).bind fun t273 => (if t273 = true then (if (Int.tmod (wrap64 (a1)) (t245.length : Int)) ≤ (wrap64 ((Int.tmod (wrap64 (a1)) (t245.length : Int)) + 1)) then (if (wrap64 ((Int.tmod (wrap64 (a1)) (t245.length : Int)) + 1)) ≤ (t245.length : Int) then ((merge_All.f kj2 ((t245.take ((wrap64 ((Int.tmod (wrap64 (a1)) (t245.length : Int)) + 1)) : Int).toNat).drop ((Int.tmod (wrap64 (a1)) (t245.length : Int)) : Int).toNat)).bind fun t279 => (if (Int.tmod (wrap64 (a1)) (t245.length : Int)) < (t245.length : Int) then ((shardlogref08_Same.f kj2 t279 (rd_L4 t245 (Int.tmod (wrap64 (a1)) (t245.length : Int)))).bind fun t283 => (some t283)) else (none))) else (none)) else (none)) else (none))))))) else (none)) else (none)))) = some r := by rw [if_neg (show ¬ (false = true) by decide)] at H; exact H
    clear H; have H := H1; clear H1
    replace H := obm H
    obtain ⟨t245, A160, H⟩ := H
    replace H : (if (t245.length : Int) = 0 then (none) else (if 0 ≤ (Int.tmod (wrap64 (a1)) (t245.length : Int)) then (if (Int.tmod (wrap64 (a1)) (t245.length : Int)) ≤ (t245.length : Int) then ((merge_All.f kj2 (t245.take ((Int.tmod (wrap64 (a1)) (t245.length : Int)) : Int).toNat)).bind fun t253 => ((merge_All.f kj2 (t245.drop ((Int.tmod (wrap64 (a1)) (t245.length : Int)) : Int).toNat)).bind fun t261 => ((merge_All.f kj2 (([t253, t261] : List (List (S35))))).bind fun t267 => ((merge_All.f kj2 t245).bind fun t270 => ((shardlogref08_Same.f kj2 t267 t270).bind fun t273 => (if t273 = true then (if (Int.tmod (wrap64 (a1)) (t245.length : Int)) ≤ (wrap64 ((Int.tmod (wrap64 (a1)) (t245.length : Int)) + 1)) then (if (wrap64 ((Int.tmod (wrap64 (a1)) (t245.length : Int)) + 1)) ≤ (t245.length : Int) then ((merge_All.f kj2 ((t245.take ((wrap64 ((Int.tmod (wrap64 (a1)) (t245.length : Int)) + 1)) : Int).toNat).drop ((Int.tmod (wrap64 (a1)) (t245.length : Int)) : Int).toNat)).bind fun t279 => (if (Int.tmod (wrap64 (a1)) (t245.length : Int)) < (t245.length : Int) then ((shardlogref08_Same.f kj2 t279 (rd_L4 t245 (Int.tmod (wrap64 (a1)) (t245.length : Int)))).bind fun t283 => (some t283)) else (none))) else (none)) else (none)) else (none))))))) else (none)) else (none))) = some r := H
    have A16 := aS A160
    clear A160
    by_cases c17 : (t245.length : Int) = 0
    ·
     rw [if_pos c17] at H
     exact absurd H (by simp)
    ·
     rw [if_neg c17] at H
     have c17b0 : ((t245.length : Int) == 0) = false := beq_eq_false_iff_ne.mpr c17
     have c17b1 : ((t245.length : Int) != 0) = true := bne_iff_ne.mpr c17
     have c17b2 : ¬ (t245 = []) := fun h_ => c17 (by rw [h_]; rfl)
     obtain ⟨ji18, hji18⟩ : ∃ j_ : Int, (Int.tmod (wrap64 (a1)) (t245.length : Int)) = j_ := ⟨_, rfl⟩
     replace H : (if 0 ≤ (ji18) then (if (ji18) ≤ (t245.length : Int) then ((merge_All.f kj2 (t245.take ((ji18) : Int).toNat)).bind fun t253 => ((merge_All.f kj2 (t245.drop ((ji18) : Int).toNat)).bind fun t261 => ((merge_All.f kj2 (([t253, t261] : List (List (S35))))).bind fun t267 => ((merge_All.f kj2 t245).bind fun t270 => ((shardlogref08_Same.f kj2 t267 t270).bind fun t273 => (if t273 = true then (if (ji18) ≤ (wrap64 ((ji18) + 1)) then (if (wrap64 ((ji18) + 1)) ≤ (t245.length : Int) then ((merge_All.f kj2 ((t245.take ((wrap64 ((ji18) + 1)) : Int).toNat).drop ((ji18) : Int).toNat)).bind fun t279 => (if (ji18) < (t245.length : Int) then ((shardlogref08_Same.f kj2 t279 (rd_L4 t245 (ji18))).bind fun t283 => (some t283)) else (none))) else (none)) else (none)) else (none))))))) else (none)) else (none)) = some r := by first | (rw [hji18] at H; exact H) | (simp only [hji18] at H ⊢; exact H)
     (try rw [hji18] at A16)
     by_cases c19 : 0 ≤ (ji18)
     ·
      rw [if_pos c19] at H
      have c19b0 := eq_true c19
      have c19b1 : decide (0 ≤ (ji18)) = true := decide_eq_true c19
      clear c19
      by_cases c20 : (ji18) ≤ (t245.length : Int)
      ·
       rw [if_pos c20] at H
       have c20b0 := eq_true c20
       have c20b1 : decide ((ji18) ≤ (t245.length : Int)) = true := decide_eq_true c20
       clear c20
       obtain ⟨y248, hy248⟩ : ∃ y_ : List (List (S35)), y_ = (t245.take ((ji18) : Int).toNat) := ⟨_, rfl⟩
       replace H : ((merge_All.f kj2 y248).bind fun t253 => ((merge_All.f kj2 (t245.drop ((ji18) : Int).toNat)).bind fun t261 => ((merge_All.f kj2 (([t253, t261] : List (List (S35))))).bind fun t267 => ((merge_All.f kj2 t245).bind fun t270 => ((shardlogref08_Same.f kj2 t267 t270).bind fun t273 => (if t273 = true then (if (ji18) ≤ (wrap64 ((ji18) + 1)) then (if (wrap64 ((ji18) + 1)) ≤ (t245.length : Int) then ((merge_All.f kj2 ((t245.take ((wrap64 ((ji18) + 1)) : Int).toNat).drop ((ji18) : Int).toNat)).bind fun t279 => (if (ji18) < (t245.length : Int) then ((shardlogref08_Same.f kj2 t279 (rd_L4 t245 (ji18))).bind fun t283 => (some t283)) else (none))) else (none)) else (none)) else (none))))))) = some r := by first | (rw [hy248]; with_reducible exact H) | (have H2_ := (Option.bind_some _ _).symm.trans H; rw [hy248]; with_reducible exact H2_) | (have H2_ := (Option.bind_some _ _).symm.trans H; with_reducible exact H2_) | with_reducible exact H | (rw [hy248]; exact H) | exact H
       have Ny248 := aS hy248
       clear hy248
       replace H := obm H
       obtain ⟨t253, A210, H⟩ := H
       replace H : ((merge_All.f kj2 (t245.drop ((ji18) : Int).toNat)).bind fun t261 => ((merge_All.f kj2 (([t253, t261] : List (List (S35))))).bind fun t267 => ((merge_All.f kj2 t245).bind fun t270 => ((shardlogref08_Same.f kj2 t267 t270).bind fun t273 => (if t273 = true then (if (ji18) ≤ (wrap64 ((ji18) + 1)) then (if (wrap64 ((ji18) + 1)) ≤ (t245.length : Int) then ((merge_All.f kj2 ((t245.take ((wrap64 ((ji18) + 1)) : Int).toNat).drop ((ji18) : Int).toNat)).bind fun t279 => (if (ji18) < (t245.length : Int) then ((shardlogref08_Same.f kj2 t279 (rd_L4 t245 (ji18))).bind fun t283 => (some t283)) else (none))) else (none)) else (none)) else (none)))))) = some r := H
       have A21 := aS A210
       clear A210
       have c22b0 := eq_true (odt (by first | (with_reducible assumption) | assumption) : 0 ≤ (ji18))
       have c23b0 := eq_true (odt (by first | (with_reducible assumption) | assumption) : (ji18) ≤ (t245.length : Int))
       obtain ⟨y256, hy256⟩ : ∃ y_ : List (List (S35)), y_ = (t245.drop ((ji18) : Int).toNat) := ⟨_, rfl⟩
       replace H : ((merge_All.f kj2 y256).bind fun t261 => ((merge_All.f kj2 (([t253, t261] : List (List (S35))))).bind fun t267 => ((merge_All.f kj2 t245).bind fun t270 => ((shardlogref08_Same.f kj2 t267 t270).bind fun t273 => (if t273 = true then (if (ji18) ≤ (wrap64 ((ji18) + 1)) then (if (wrap64 ((ji18) + 1)) ≤ (t245.length : Int) then ((merge_All.f kj2 ((t245.take ((wrap64 ((ji18) + 1)) : Int).toNat).drop ((ji18) : Int).toNat)).bind fun t279 => (if (ji18) < (t245.length : Int) then ((shardlogref08_Same.f kj2 t279 (rd_L4 t245 (ji18))).bind fun t283 => (some t283)) else (none))) else (none)) else (none)) else (none)))))) = some r := by first | (rw [hy256]; with_reducible exact H) | (have H2_ := (Option.bind_some _ _).symm.trans H; rw [hy256]; with_reducible exact H2_) | (have H2_ := (Option.bind_some _ _).symm.trans H; with_reducible exact H2_) | with_reducible exact H | (rw [hy256]; exact H) | exact H
       have Ny256 := aS hy256
       clear hy256
       replace H := obm H
       obtain ⟨t261, A240, H⟩ := H
       replace H : ((merge_All.f kj2 (([t253, t261] : List (List (S35))))).bind fun t267 => ((merge_All.f kj2 t245).bind fun t270 => ((shardlogref08_Same.f kj2 t267 t270).bind fun t273 => (if t273 = true then (if (ji18) ≤ (wrap64 ((ji18) + 1)) then (if (wrap64 ((ji18) + 1)) ≤ (t245.length : Int) then ((merge_All.f kj2 ((t245.take ((wrap64 ((ji18) + 1)) : Int).toNat).drop ((ji18) : Int).toNat)).bind fun t279 => (if (ji18) < (t245.length : Int) then ((shardlogref08_Same.f kj2 t279 (rd_L4 t245 (ji18))).bind fun t283 => (some t283)) else (none))) else (none)) else (none)) else (none))))) = some r := H
       have A24 := aS A240
       clear A240
       obtain ⟨y264, hy264⟩ : ∃ y_ : List (List (S35)), y_ = (([t253, t261] : List (List (S35)))) := ⟨_, rfl⟩
       replace H : ((merge_All.f kj2 y264).bind fun t267 => ((merge_All.f kj2 t245).bind fun t270 => ((shardlogref08_Same.f kj2 t267 t270).bind fun t273 => (if t273 = true then (if (ji18) ≤ (wrap64 ((ji18) + 1)) then (if (wrap64 ((ji18) + 1)) ≤ (t245.length : Int) then ((merge_All.f kj2 ((t245.take ((wrap64 ((ji18) + 1)) : Int).toNat).drop ((ji18) : Int).toNat)).bind fun t279 => (if (ji18) < (t245.length : Int) then ((shardlogref08_Same.f kj2 t279 (rd_L4 t245 (ji18))).bind fun t283 => (some t283)) else (none))) else (none)) else (none)) else (none))))) = some r := by first | (rw [hy264]; with_reducible exact H) | (have H2_ := (Option.bind_some _ _).symm.trans H; rw [hy264]; with_reducible exact H2_) | (have H2_ := (Option.bind_some _ _).symm.trans H; with_reducible exact H2_) | with_reducible exact H | (rw [hy264]; exact H) | exact H
       have Ny264 := aS hy264
       clear hy264
       replace H := obm H
       obtain ⟨t267, A250, H⟩ := H
       replace H : ((merge_All.f kj2 t245).bind fun t270 => ((shardlogref08_Same.f kj2 t267 t270).bind fun t273 => (if t273 = true then (if (ji18) ≤ (wrap64 ((ji18) + 1)) then (if (wrap64 ((ji18) + 1)) ≤ (t245.length : Int) then ((merge_All.f kj2 ((t245.take ((wrap64 ((ji18) + 1)) : Int).toNat).drop ((ji18) : Int).toNat)).bind fun t279 => (if (ji18) < (t245.length : Int) then ((shardlogref08_Same.f kj2 t279 (rd_L4 t245 (ji18))).bind fun t283 => (some t283)) else (none))) else (none)) else (none)) else (none)))) = some r := H
       have A25 := aS A250
       clear A250
       replace H := obm H
       obtain ⟨t270, A260, H⟩ := H
       replace H : ((shardlogref08_Same.f kj2 t267 t270).bind fun t273 => (if t273 = true then (if (ji18) ≤ (wrap64 ((ji18) + 1)) then (if (wrap64 ((ji18) + 1)) ≤ (t245.length : Int) then ((merge_All.f kj2 ((t245.take ((wrap64 ((ji18) + 1)) : Int).toNat).drop ((ji18) : Int).toNat)).bind fun t279 => (if (ji18) < (t245.length : Int) then ((shardlogref08_Same.f kj2 t279 (rd_L4 t245 (ji18))).bind fun t283 => (some t283)) else (none))) else (none)) else (none)) else (none))) = some r := H
       have A26 := aS A260
       clear A260
       replace H := obm H
       obtain ⟨t273, A270, H⟩ := H
       replace H : (if t273 = true then (if (ji18) ≤ (wrap64 ((ji18) + 1)) then (if (wrap64 ((ji18) + 1)) ≤ (t245.length : Int) then ((merge_All.f kj2 ((t245.take ((wrap64 ((ji18) + 1)) : Int).toNat).drop ((ji18) : Int).toNat)).bind fun t279 => (if (ji18) < (t245.length : Int) then ((shardlogref08_Same.f kj2 t279 (rd_L4 t245 (ji18))).bind fun t283 => (some t283)) else (none))) else (none)) else (none)) else (none)) = some r := H
       have A27 := aS A270
       clear A270
       by_cases c28 : t273 = true
       ·
        subst c28
        have H1 : (if (ji18) ≤ (wrap64 ((ji18) + 1)) then (if (wrap64 ((ji18) + 1)) ≤ (t245.length : Int) then ((merge_All.f kj2 ((t245.take ((wrap64 ((ji18) + 1)) : Int).toNat).drop ((ji18) : Int).toNat)).bind fun t279 => (if (ji18) < (t245.length : Int) then ((shardlogref08_Same.f kj2 t279 (rd_L4 t245 (ji18))).bind fun t283 => (some t283)) else (none))) else (none)) else (none)) = some r := by rw [if_pos rfl] at H; exact H
        clear H; have H := H1; clear H1
        have c29b0 := eq_true (odt (by first | (with_reducible assumption) | assumption) : 0 ≤ (ji18))
        by_cases c30 : (ji18) ≤ (wrap64 ((ji18) + 1))
        ·
         rw [if_pos c30] at H
         have c30b0 := eq_true c30
         have c30b1 : decide ((ji18) ≤ (wrap64 ((ji18) + 1))) = true := decide_eq_true c30
         by_cases c31 : (wrap64 ((ji18) + 1)) ≤ (t245.length : Int)
         ·
          rw [if_pos c31] at H
          have c31b0 := eq_true c31
          have c31b1 : decide ((wrap64 ((ji18) + 1)) ≤ (t245.length : Int)) = true := decide_eq_true c31
          obtain ⟨y274, hy274⟩ : ∃ y_ : List (List (S35)), y_ = ((t245.take ((wrap64 ((ji18) + 1)) : Int).toNat).drop ((ji18) : Int).toNat) := ⟨_, rfl⟩
          replace H : ((merge_All.f kj2 y274).bind fun t279 => (if (ji18) < (t245.length : Int) then ((shardlogref08_Same.f kj2 t279 (rd_L4 t245 (ji18))).bind fun t283 => (some t283)) else (none))) = some r := by first | (rw [hy274]; with_reducible exact H) | (have H2_ := (Option.bind_some _ _).symm.trans H; rw [hy274]; with_reducible exact H2_) | (have H2_ := (Option.bind_some _ _).symm.trans H; with_reducible exact H2_) | with_reducible exact H | (rw [hy274]; exact H) | exact H
          have Ny274 := aS hy274
          clear hy274
          replace H := obm H
          obtain ⟨t279, A320, H⟩ := H
          replace H : (if (ji18) < (t245.length : Int) then ((shardlogref08_Same.f kj2 t279 (rd_L4 t245 (ji18))).bind fun t283 => (some t283)) else (none)) = some r := H
          have A32 := aS A320
          clear A320
          by_cases c33 : (ji18) < (t245.length : Int)
          ·
           rw [if_pos c33] at H
           have c33b0 : decide ((ji18) < (t245.length : Int)) = true := decide_eq_true c33
           clear c33
           replace H := obm H
           obtain ⟨t283, A340, H⟩ := H
           replace H : (some t283) = some r := H
           have A34 := aS A340
           clear A340
           obtain rfl := Option.some.inj H
           try go_wp2_with (first | ((with_reducible refine gate_callee (f := 12) rfl ?_); refine goesL_ (some 22) rfl rfl Try.func12 (by kernel_rfl) rfl #[.slice A0 l0.length c0] rfl (by (try simp only [List.map_toArray, List.map_cons, List.map_nil]); first | done | rfl | (simp only [lld, llt]; rfl)) ?_; (with_reducible refine (shardlogref13_Sorts.calls kj2 _ _ l0 t245 _ ?side1 ?side2 A16.out).mono ?_); (case side1 => repeat (first | exact (Kd.C_below HR0.out HB.out) | (with_reducible refine Kd.C_alloc ?_ _) | (with_reducible refine Kd.C_drewN ?_ _) | (with_reducible refine Kd.C_drew ?_))); (case side2 => exact HC0.out); rintro e w35 ⟨v246, rfl, ho0, hb⟩; refine ⟨_, rfl, ?_⟩; have n0_ := aS (Kd.N_lower (Kd.N_mono (ok' := fun k_ => True) (Kd.S_N (Kd.S_bound ho0)) (fun k_ hk_ => trivial)) (below_size (by repeat (first | (with_reducible first | exact HB.out | apply bal | apply bdN | apply bdo) | exact HB.out)))); have n1_ := aS (below_step (by repeat (first | (with_reducible first | exact HB.out | apply bal | apply bdN | apply bdo) | exact HB.out)) hb); clear HB; have HO247 := n0_; have HB := n1_; clear n0_ n1_; (try clear hb); (try clear hb2); (try clear hk); (try clear hi); (try clear ho0); obtain ⟨Ao36, co36, eo36⟩ := Kd.N_slice HO247.out; subst eo36))
           have n0_ := aS (Kd.N_drew HO247.out)
           have n1_ := aS (bdo HB.out)
           clear HO247; clear HB
           have HO247 := n0_
           have HB := n1_
           clear n0_ n1_
           have q38 : ((ji18) : Int) ≤ ((t245.length : Int) : Int) := odt (by first | (with_reducible assumption) | assumption)
           obtain ⟨i038, hi038, _, hsz38, _⟩ := info_parts info27
           have hroom38 : t245.length ≤ co36 := (Kd.N_reads' HO247.out).2.1
           have hC38 : Kd.F (Kd.slice 35 k35) _ _ Ao36 t245.length t245 := (Kd.V_at (base := w.heap.size) (Kd.N_V HO247.out)).2.2
           have hcut38 := cut_to (P := Try.prog) 22 27 .i64 Try.underlying22 hi038 Ao36 t245.length co36 (ji18) (odt (by first | (with_reducible assumption) | assumption)) q38 hroom38
           have hr38 := Kd.F_take (m := ((ji18) : Int).toNat) hC38 (by omega)
           have hy38 : y248.length = ((ji18) : Int).toNat := (by rw [Ny248.out, llt]; omega)
           rw [← Ny248.out] at hr38
           rw [← hy38] at hcut38
           have HO252 := aS (show Kd.V (Kd.slice 35 k35) 27 _ w.heap.size _ (.slice Ao36 y248.length co36) y248 from Kd.V_mk (by omega) hr38)
           have HC252 := aS (show y248.length ≤ co36 from by omega)
           clear hr38 hC38 hroom38 hi038 hsz38
           have KY38 := aS hy38
           clear hy38
           replace q38 := eq_true q38
           have q39 : ((ji18) : Int) ≤ ((t245.length : Int) : Int) := odt (by first | (with_reducible assumption) | assumption)
           obtain ⟨i039, hi039, _, hsz39, _⟩ := info_parts info27
           have hroom39 : t245.length ≤ co36 := (Kd.N_reads' HO247.out).2.1
           have hC39 : Kd.F (Kd.slice 35 k35) _ _ Ao36 t245.length t245 := (Kd.V_at (base := w.heap.size) (Kd.N_V HO247.out)).2.2
           have q039 : (0 : Int) ≤ ((ji18) : Int) := odt (by first | (with_reducible assumption) | assumption)
           have hcut39 := cut_from (P := Try.prog) 22 27 .i64 Try.underlying22 hi039 1 hsz39 Ao36 t245.length co36 (ji18) q039 q39
           have hr39 := Kd.F_cut (m := ((ji18) : Int).toNat) (c := co36) hC39 (by omega) hroom39
           obtain ⟨A39, hA39⟩ : ∃ A1_, A1_ = (if co36 = ((ji18) : Int).toNat then Ao36 else (Ao36 : Option Addr).map (·.add (((ji18) : Int).toNat * 1))) := ⟨_, rfl⟩
           obtain ⟨c39, hc39⟩ : ∃ c1_, c1_ = co36 - ((ji18) : Int).toNat := ⟨_, rfl⟩
           have hy39 : y256.length = t245.length - ((ji18) : Int).toNat := (by rw [Ny256.out, lld] <;> omega)
           rw [show (t245).drop ((ji18) : Int).toNat = y256 from Ny256.out.symm] at hr39
           replace hr39 : Kd.F (Kd.slice 35 k35) _ _ A39 y256.length y256 := (by rw [hA39]; exact hr39)
           rw [← hy39, ← hA39, ← hc39] at hcut39
           have HO260 := aS (show Kd.V (Kd.slice 35 k35) 27 _ w.heap.size _ (.slice A39 y256.length c39) y256 from Kd.V_mk (by rw [hy39, hc39]; exact Nat.sub_le_sub_right hroom39 _) hr39)
           have HC260 := aS (show y256.length ≤ c39 from by rw [hy39, hc39]; exact Nat.sub_le_sub_right hroom39 _)
           clear hr39 hC39 hroom39 hi039 hsz39 hc39
           have KY39 := aS hy39
           have KA39 := aS hA39
           clear hy39 hA39
           replace q39 := eq_true q39
           refine start_ (n := 10) (S := fun w' => True) (ds := []) #[false, false, false, false, false, false, false, false, false, false] (by kernel_rfl) rfl rfl trivial (fun hHeld => ?_); refine with_tabW shardloglaw13_MergeSteps.tab5 shardloglaw13_MergeSteps.bits5 (fun HT_ HW_ => ?_)
           generalize w35.drew = w37 at HO247 HB HO252 HO260 hHeld ⊢
           refine pure_ (i := 0) (N := some 28) (v := ?_) (a' := ?_) #[true, false, false, false, false, false, false, false, false, false] rfl rfl (any_of HT_.out (by kernel_rfl)) (fun _ _ _ h => h) (Or.inl ⟨by rfl, ?_⟩) ?_ ?_
           rotate_left
           ·
            intro w'
            go_simp
            with_reducible rfl
           rotate_left
           ·
            simp only [Act.put, lsa, lsz, lss, i64_w, i32_w]
            rfl
           refine pure_ (i := 1) (N := some 29) (v := ?_) (a' := ?_) #[true, true, false, false, false, false, false, false, false, false] rfl rfl (any_of HT_.out (by kernel_rfl)) (fun _ _ _ h => h) (Or.inl ⟨by rfl, ?_⟩) ?_ ?_
           rotate_left
           ·
            intro w'
            go_simp
            with_reducible rfl
           rotate_left
           ·
            simp only [Act.put, lsa, lsz, lss, i64_w, i32_w]
            rfl
           refine pure_ (i := 2) (N := some 30) (v := ?_) (a' := ?_) #[true, true, true, false, false, false, false, false, false, false] rfl rfl (any_of HT_.out (by kernel_rfl)) (fun _ _ _ h => h) (Or.inl ⟨by rfl, ?_⟩) ?_ ?_
           rotate_left
           ·
            intro w'
            go_simp
            with_reducible rfl
           rotate_left
           ·
            simp only [Act.put, lsa, lsz, lss, i64_w, i32_w]
            rfl
           refine pure_ (i := 4) (N := some 32) (v := ?_) (a' := ?_) #[true, true, true, false, true, false, false, false, false, false] rfl rfl (any_of HT_.out (by kernel_rfl)) (fun _ _ _ h => h) (Or.inl ⟨by rfl, ?_⟩) ?_ ?_
           rotate_left
           ·
            intro w'
            go_simp
            with_reducible rfl
           rotate_left
           ·
            simp only [Act.put, lsa, lsz, lss, i64_w, i32_w]
            rfl
           refine pure_ (i := 5) (N := some 33) (v := ?_) (a' := ?_) #[true, true, true, false, true, true, false, false, false, false] rfl rfl (any_of HT_.out (by kernel_rfl)) (fun _ _ _ h => h) (Or.inl ⟨by rfl, ?_⟩) ?_ ?_
           rotate_left
           ·
            intro w'
            go_simp
            with_reducible rfl
           rotate_left
           ·
            simp only [Act.put, lsa, lsz, lss, i64_w, i32_w]
            rfl
           refine pure_ (i := 6) (N := some 34) (v := ?_) (a' := ?_) #[true, true, true, false, true, true, true, false, false, false] rfl rfl (any_of HT_.out (by kernel_rfl)) (fun _ _ _ h => h) (Or.inl ⟨by rfl, ?_⟩) ?_ ?_
           rotate_left
           ·
            intro w'
            go_simp
            with_reducible rfl
           rotate_left
           ·
            simp only [Act.put, lsa, lsz, lss, i64_w, i32_w]
            rfl
           refine one_ (i := 3) (N := some 31) #[true, true, true, true, true, true, true, false, false, false] rfl rfl (one_of HT_.out (by kernel_rfl)) (by decide) (fun K hK => ?_)
           refine goes_ Try.func14 (by kernel_rfl) rfl #[.slice Ao36 y248.length co36] (by rfl) rfl rfl (by (try simp only [List.map_toArray, List.map_cons, List.map_nil]); first | done | rfl | (simp only [lld, llt]; rfl)) ?_
           with_reducible refine (merge_All.calls kj2 _ _ y248 t253 _ ?side1 ?side2 A21.out).mono ?_
           (case side1 => repeat (first | exact (Kd.V_reads' HO252.out).2.2 | (with_reducible refine Kd.C_alloc ?_ _) | (with_reducible refine Kd.C_drewN ?_ _) | (with_reducible refine Kd.C_drew ?_)))
           (case side2 => exact (Kd.V_reads' HO252.out).2.1)
           rintro e w40 ⟨v254, rfl, ho0, hb⟩
           refine ⟨_, rfl, ?_⟩
           have n0_ := aS (Kd.N_elder' (by (with_reducible repeat (first | apply Kd.N_alloc | apply Kd.N_drewN | apply Kd.N_drew)); exact HO247.out) (by first | exact Kd.R_base ho0 | exact Kd.S_base ho0 | exact Kd.R_base ho0 | exact Kd.V_base ho0) hb)
           have n1_ := aS (Kd.V_elder' (by (with_reducible repeat (first | apply Kd.V_alloc | apply Kd.V_drewN | apply Kd.V_drew)); exact HO252.out) (by first | exact Kd.R_base ho0 | exact Kd.S_base ho0 | exact Kd.R_base ho0 | exact Kd.V_base ho0) hb)
           have n2_ := aS (Kd.V_elder' (by (with_reducible repeat (first | apply Kd.V_alloc | apply Kd.V_drewN | apply Kd.V_drew)); exact HO260.out) (by first | exact Kd.R_base ho0 | exact Kd.S_base ho0 | exact Kd.R_base ho0 | exact Kd.V_base ho0) hb)
           have n3_ := aS (Kd.R_lower ho0 (below_size (by repeat (first | (with_reducible first | exact HB.out | apply bal | apply bdN | apply bdo) | exact HB.out))))
           have n4_ := aS (below_step (by repeat (first | (with_reducible first | exact HB.out | apply bal | apply bdN | apply bdo) | exact HB.out)) hb)
           clear HO247; clear HO252; clear HO260; clear HB
           have HO247 := n0_
           have HO252 := n1_
           have HO260 := n2_
           have HO255 := n3_
           have HB := n4_
           clear n0_ n1_ n2_ n3_ n4_; (try clear hb); (try clear hb2); (try clear hk); (try clear hi); (try clear ho0)
           refine hK.out _ _ trivial (fun hHeld => ?_)
           clear hK K
           refine norm_ (a' := ?_) ?_ ?_
           rotate_left
           ·
            show Act.put _ (some 31) _ = _
            simp only [Act.put, lsa, lsz, lss, i64_w, i32_w]
            rfl
           refine one_ (i := 7) (N := some 35) #[true, true, true, true, true, true, true, true, false, false] rfl rfl (one_of HT_.out (by kernel_rfl)) (by decide) (fun K hK => ?_)
           refine goes_ Try.func14 (by kernel_rfl) rfl #[.slice A39 y256.length c39] (by rfl) rfl rfl (by (try simp only [List.map_toArray, List.map_cons, List.map_nil]); first | done | rfl | (simp only [lld, llt]; rfl)) ?_
           with_reducible refine (merge_All.calls kj2 _ _ y256 t261 _ ?side1 ?side2 A24.out).mono ?_
           (case side1 => repeat (first | exact (Kd.V_reads' HO260.out).2.2 | (with_reducible refine Kd.C_alloc ?_ _) | (with_reducible refine Kd.C_drewN ?_ _) | (with_reducible refine Kd.C_drew ?_)))
           (case side2 => exact (Kd.V_reads' HO260.out).2.1)
           rintro e w41 ⟨v262, rfl, ho0, hb⟩
           refine ⟨_, rfl, ?_⟩
           have n0_ := aS (Kd.N_elder' (by (with_reducible repeat (first | apply Kd.N_alloc | apply Kd.N_drewN | apply Kd.N_drew)); exact HO247.out) (by first | exact Kd.R_base ho0 | exact Kd.S_base ho0 | exact Kd.R_base ho0 | exact Kd.V_base ho0) hb)
           have n1_ := aS (Kd.V_elder' (by (with_reducible repeat (first | apply Kd.V_alloc | apply Kd.V_drewN | apply Kd.V_drew)); exact HO252.out) (by first | exact Kd.R_base ho0 | exact Kd.S_base ho0 | exact Kd.R_base ho0 | exact Kd.V_base ho0) hb)
           have n2_ := aS (Kd.V_elder' (by (with_reducible repeat (first | apply Kd.V_alloc | apply Kd.V_drewN | apply Kd.V_drew)); exact HO260.out) (by first | exact Kd.R_base ho0 | exact Kd.S_base ho0 | exact Kd.R_base ho0 | exact Kd.V_base ho0) hb)
           have n3_ := aS (Kd.R_elder' (by (with_reducible repeat (first | apply Kd.R_alloc | apply Kd.R_drewN | apply Kd.R_drew)); exact HO255.out) (by first | exact Kd.R_base ho0 | exact Kd.S_base ho0 | exact Kd.R_base ho0 | exact Kd.V_base ho0) hb)
           have n4_ := aS (Kd.R_lower (Kd.R_new' ho0 (Kd.R_lt (by (with_reducible repeat (first | apply Kd.R_alloc | apply Kd.R_drewN | apply Kd.R_drew)); exact HO255.out))) (below_size (by repeat (first | (with_reducible first | exact HB.out | apply bal | apply bdN | apply bdo) | exact HB.out))))
           have n5_ := aS (below_step (by repeat (first | (with_reducible first | exact HB.out | apply bal | apply bdN | apply bdo) | exact HB.out)) hb)
           clear HO247; clear HO252; clear HO260; clear HO255; clear HB
           have HO247 := n0_
           have HO252 := n1_
           have HO260 := n2_
           have HO255 := n3_
           have HO263 := n4_
           have HB := n5_
           clear n0_ n1_ n2_ n3_ n4_ n5_; (try clear hb); (try clear hb2); (try clear hk); (try clear hi); (try clear ho0)
           obtain ⟨Ao42, co42, eo42⟩ := Kd.R_slice HO255.out
           (first | subst eo42 | (injection eo42 with f1_ f2_ f3_; have f4_ := f1_.symm; have f5_ := f3_.symm; clear f1_ f2_ f3_; subst f4_; subst f5_))
           obtain ⟨Ao43, co43, eo43⟩ := Kd.R_slice HO263.out
           (first | subst eo43 | (injection eo43 with f1_ f2_ f3_; have f4_ := f1_.symm; have f5_ := f3_.symm; clear f1_ f2_ f3_; subst f4_; subst f5_))
           refine hK.out _ _ trivial (fun hHeld => ?_)
           clear hK K
           refine norm_ (a' := ?_) ?_ ?_
           rotate_left
           ·
            show Act.put _ (some 35) _ = _
            simp only [Act.put, lsa, lsz, lss, i64_w, i32_w]
            rfl
           refine one_ (i := 8) (N := some 36) #[true, true, true, true, true, true, true, true, true, false] rfl rfl (one_of HT_.out (by kernel_rfl)) (by decide) (fun K hK => ?_)
           refine Kd.N_lit_step (Kd.slice 35 k35) _ 27 ?hg (N' := 36) ?hd (xs := ([t253, t261] : List (List (S35)))) (inner := [.slice Ao42 t253.length co42, .slice Ao43 t261.length co43]) (ok := (fun k_ => some k_ ≠ (.slice Ao36 t245.length co36 : Value).ownBlock)) (okp := (fun k_ => some k_ ≠ (.slice Ao36 t245.length co36 : Value).ownBlock)) ?hr ?hp (fun _ hk => hk) ((show ∀ k_, w41.heap.size ≤ k_ → (fun k_ => some k_ ≠ (.slice Ao36 t245.length co36 : Value).ownBlock) k_ from fun k_ hk => Kd.fresh' (Kd.N_lt (by (with_reducible repeat (first | apply Kd.N_alloc | apply Kd.N_drewN | apply Kd.N_drew)); exact HO247.out)) k_ hk) _ (Nat.le_refl _)) (Below.refl _ _) (Nat.le_refl _) (by simp) ?_; (case hd => rfl); (case hg => rfl); (case hr => first | (go_simp; done) | (go_simp; rfl)); (case hp => exact (Reps.one (show Kd.FK (Kd.slice 35 k35) _ _ t253 [.slice Ao42 t253.length co42] from (Kd.FK_slice_mk (Kd.R_reads' (Kd.R_mono (ok' := (fun k_ => some k_ ≠ (.slice Ao36 t245.length co36 : Value).ownBlock)) (Kd.R_apart' (HO255.out) (Kd.N_typed HO247.out) (by decide)) (fun k_ hk => hk.2))).2.1 (Kd.R_F (Kd.R_mono (ok' := (fun k_ => some k_ ≠ (.slice Ao36 t245.length co36 : Value).ownBlock)) (Kd.R_apart' (HO255.out) (Kd.N_typed HO247.out) (by decide)) (fun k_ hk => hk.2))))) (Reps.one (show Kd.FK (Kd.slice 35 k35) _ _ t261 [.slice Ao43 t261.length co43] from (Kd.FK_slice_mk (Kd.R_reads' (Kd.R_mono (ok' := (fun k_ => some k_ ≠ (.slice Ao36 t245.length co36 : Value).ownBlock)) (Kd.R_apart' (HO263.out) (Kd.N_typed HO247.out) (by decide)) (fun k_ hk => hk.2))).2.1 (Kd.R_F (Kd.R_mono (ok' := (fun k_ => some k_ ≠ (.slice Ao36 t245.length co36 : Value).ownBlock)) (Kd.R_apart' (HO263.out) (Kd.N_typed HO247.out) (by decide)) (fun k_ hk => hk.2))))) (Reps.none _ _))))
           intro v265 w44 ho45 hb hg_ hnew_
           clear hg_ hnew_
           (first | rw [← Ny264.out] at ho45 | (simp only [Int.reduceToNat] at ho45; rw [← Ny264.out] at ho45))
           have n0_ := aS (Kd.N_elder' (by (with_reducible repeat (first | apply Kd.N_alloc | apply Kd.N_drewN | apply Kd.N_drew)); exact HO247.out) (by first | exact Kd.N_base ho45 | exact Kd.S_base ho45 | exact Kd.R_base ho45 | exact Kd.V_base ho45) hb)
           have n1_ := aS (Kd.V_elder' (by (with_reducible repeat (first | apply Kd.V_alloc | apply Kd.V_drewN | apply Kd.V_drew)); exact HO252.out) (by first | exact Kd.N_base ho45 | exact Kd.S_base ho45 | exact Kd.R_base ho45 | exact Kd.V_base ho45) hb)
           have n2_ := aS (Kd.V_elder' (by (with_reducible repeat (first | apply Kd.V_alloc | apply Kd.V_drewN | apply Kd.V_drew)); exact HO260.out) (by first | exact Kd.N_base ho45 | exact Kd.S_base ho45 | exact Kd.R_base ho45 | exact Kd.V_base ho45) hb)
           have n3_ := aS (Kd.N_lower ho45 (below_size (by repeat (first | (with_reducible first | exact HB.out | apply bal | apply bdN | apply bdo) | exact HB.out))))
           have n4_ := aS (below_step (by repeat (first | (with_reducible first | exact HB.out | apply bal | apply bdN | apply bdo) | exact HB.out)) hb)
           clear HO247; clear HO252; clear HO260; clear HB; clear HO255; clear HO263
           have HO247 := n0_
           have HO252 := n1_
           have HO260 := n2_
           have HO266 := n3_
           have HB := n4_
           clear n0_ n1_ n2_ n3_ n4_; clear hb ho45
           refine hK.out _ _ trivial (fun hHeld => ?_)
           clear hK K
           refine norm_ (a' := ?_) ?_ ?_
           rotate_left
           ·
            show Act.put _ (some 36) _ = _
            simp only [Act.put, lsa, lsz, lss, i64_w, i32_w]
            rfl
           refine pure_ (i := 9) (N := some 7) (v := ?_) (a' := ?_) #[true, true, true, true, true, true, true, true, true, true] rfl rfl (any_of HT_.out (by kernel_rfl)) (fun _ _ _ h => h) (Or.inl ⟨by rfl, ?_⟩) ?_ ?_
           rotate_left
           ·
            intro w'
            go_simp
            with_reducible rfl
           rotate_left
           ·
            simp only [Act.put, lsa, lsz, lss, i64_w, i32_w]
            rfl
           refine done_ (done_of HT_.out (by kernel_rfl)) ?_
           try go_wp2
           have n0_ := aS (Kd.N_drew HO247.out)
           have n1_ := aS (Kd.V_drew HO252.out)
           have n2_ := aS (Kd.V_drew HO260.out)
           have n3_ := aS (Kd.N_drew HO266.out)
           have n4_ := aS (bdo HB.out)
           clear HO247; clear HO252; clear HO260; clear HO266; clear HB
           have HO247 := n0_
           have HO252 := n1_
           have HO260 := n2_
           have HO266 := n3_
           have HB := n4_
           clear n0_ n1_ n2_ n3_ n4_
           obtain ⟨Ao47, co47, eo47⟩ := Kd.N_slice HO266.out
           (first | subst eo47 | (injection eo47 with f1_ f2_ f3_; have f4_ := f1_.symm; have f5_ := f3_.symm; clear f1_ f2_ f3_; subst f4_; subst f5_))
           have p282 : 0 ≤ ((ji18) : Int) := odt (by first | (with_reducible assumption) | assumption)
           have q282 : (ji18) < (t245.length : Int) := odt (by first | (with_reducible assumption) | assumption)
           obtain ⟨ad282, A282_0, c282_0, e282, hx282_0, hl282_0, hi282_0⟩ := at_L4 (Kd.N_reads' HO247.out).2.2 (ji18) p282 q282
           cases e282
           obtain ⟨ce282, hce282, hMe282, hcc282⟩ := Kd.N_get HO247.out [] (ji18) p282 (by first | exact q282 | exact odt (by first | (with_reducible assumption) | assumption) | (have e_ := (Kd.N_reads' HO247.out).1; omega))
           obtain ⟨ua282_0, uc282_0, rfl, ul282_0, ge282_0⟩ := Kd.FK_slice_open hMe282
           have hv282_0 := hcc282 0 _ rfl
           rw [Nat.add_zero, show ((Kd.slice 35 k35)).sz = 1 from rfl, Nat.mul_one] at hv282_0
           replace hv282_0 := Option.some.inj (hv282_0.symm.trans hx282_0)
           injection hv282_0 with hva_ hvn_ hvc_
           rw [hva_] at ge282_0
           rw [hvc_] at ul282_0
           have HL282_0 := aS (show Kd.V k35 35 _ w.heap.size _ _ (rd_L4 t245 (ji18)) from Kd.V_mk ul282_0 ge282_0)
           clear hva_ hvn_ hvc_ ge282_0 ul282_0; clear hcc282 hce282
           have HR282_0 := aS hi282_0
           have HC282_0 := aS hl282_0
           clear hi282_0 hl282_0
           replace p282 := eq_true p282
           replace q282 := eq_true q282
           refine start_ (n := 19) (S := fun w' => w'.cell? (ad282.add ((ji18)).toNat) = some (.slice A282_0 (rd_L4 t245 (ji18)).length c282_0)) (ds := []) #[false, false, false, false, false, false, false, false, false, false, false, false, false, false, false, false, false, false, false] (by kernel_rfl) rfl rfl (hx282_0) (fun hHeld => ?_); refine with_tabW shardloglaw13_MergeSteps.tab6 shardloglaw13_MergeSteps.bits6 (fun HT_ HW_ => ?_)
           generalize w44.drew = w46 at HO247 HO252 HO260 HO266 HB HL282_0 HR282_0 hx282_0 hHeld ⊢
           refine pure_ (i := 0) (N := some 37) (v := ?_) (a' := ?_) #[true, false, false, false, false, false, false, false, false, false, false, false, false, false, false, false, false, false, false] rfl rfl (any_of HT_.out (by kernel_rfl)) (fun _ _ _ h => h) (Or.inl ⟨by rfl, ?_⟩) ?_ ?_
           rotate_left
           ·
            intro w'
            go_simp
            with_reducible rfl
           rotate_left
           ·
            simp only [Act.put, lsa, lsz, lss, i64_w, i32_w]
            rfl
           refine pure_ (i := 2) (N := some 39) (v := ?_) (a' := ?_) #[true, false, true, false, false, false, false, false, false, false, false, false, false, false, false, false, false, false, false] rfl rfl (any_of HT_.out (by kernel_rfl)) (fun _ _ _ h => h) (Or.inl ⟨by rfl, ?_⟩) ?_ ?_
           rotate_left
           ·
            intro w'
            go_simp
            with_reducible rfl
           rotate_left
           ·
            simp only [Act.put, lsa, lsz, lss, i64_w, i32_w]
            rfl
           refine one_ (i := 1) (N := some 38) #[true, true, true, false, false, false, false, false, false, false, false, false, false, false, false, false, false, false, false] rfl rfl (one_of HT_.out (by kernel_rfl)) (by decide) (fun K hK => ?_)
           refine goes_ Try.func14 (by kernel_rfl) rfl #[.slice Ao47 y264.length co47] (by rfl) rfl rfl (by (try simp only [List.map_toArray, List.map_cons, List.map_nil]); first | done | rfl | (simp only [lld, llt]; rfl)) ?_
           with_reducible refine (merge_All.calls kj2 _ _ y264 t267 _ ?side1 ?side2 A25.out).mono ?_
           (case side1 => repeat (first | exact (Kd.N_reads' HO266.out).2.2 | (with_reducible refine Kd.C_alloc ?_ _) | (with_reducible refine Kd.C_drewN ?_ _) | (with_reducible refine Kd.C_drew ?_)))
           (case side2 => exact (Kd.N_reads' HO266.out).2.1)
           rintro e w48 ⟨v268, rfl, ho0, hb⟩
           have HS0_ := (hb.cell (wbl _ _ (hHeld))).trans (hHeld)
           refine ⟨_, rfl, ?_⟩
           have n0_ := aS (Kd.N_elder' (by (with_reducible repeat (first | apply Kd.N_alloc | apply Kd.N_drewN | apply Kd.N_drew)); exact HO247.out) (by first | exact Kd.R_base ho0 | exact Kd.S_base ho0 | exact Kd.R_base ho0 | exact Kd.V_base ho0) hb)
           have n1_ := aS (Kd.V_elder' (by (with_reducible repeat (first | apply Kd.V_alloc | apply Kd.V_drewN | apply Kd.V_drew)); exact HO252.out) (by first | exact Kd.R_base ho0 | exact Kd.S_base ho0 | exact Kd.R_base ho0 | exact Kd.V_base ho0) hb)
           have n2_ := aS (Kd.V_elder' (by (with_reducible repeat (first | apply Kd.V_alloc | apply Kd.V_drewN | apply Kd.V_drew)); exact HO260.out) (by first | exact Kd.R_base ho0 | exact Kd.S_base ho0 | exact Kd.R_base ho0 | exact Kd.V_base ho0) hb)
           have n3_ := aS (Kd.N_elder' (by (with_reducible repeat (first | apply Kd.N_alloc | apply Kd.N_drewN | apply Kd.N_drew)); exact HO266.out) (by first | exact Kd.R_base ho0 | exact Kd.S_base ho0 | exact Kd.R_base ho0 | exact Kd.V_base ho0) hb)
           have n4_ := aS (Kd.R_lower ho0 (below_size (by repeat (first | (with_reducible first | exact HB.out | apply bal | apply bdN | apply bdo) | exact HB.out))))
           have m0_ := aS (Kd.V_elder' (by (with_reducible repeat (first | apply Kd.V_alloc | apply Kd.V_drewN | apply Kd.V_drew)); exact HL282_0.out) (by first | exact Kd.R_base ho0 | exact Kd.S_base ho0 | exact Kd.V_base ho0) hb)
           have m1_ := aS (Kd.C_below (by repeat (first | (with_reducible exact HR282_0.out) | (with_reducible refine Kd.C_alloc ?_ _) | (with_reducible refine Kd.C_drewN ?_ _) | (with_reducible refine Kd.C_drew ?_) | exact HR282_0.out)) hb)
           clear HL282_0; clear HR282_0
           have HL282_0 := m0_
           have HR282_0 := m1_
           clear m0_ m1_
           have n5_ := aS (below_step (by repeat (first | (with_reducible first | exact HB.out | apply bal | apply bdN | apply bdo) | exact HB.out)) hb)
           clear HO247; clear HO252; clear HO260; clear HO266; clear HB
           have HO247 := n0_
           have HO252 := n1_
           have HO260 := n2_
           have HO266 := n3_
           have HO269 := n4_
           have HB := n5_
           clear n0_ n1_ n2_ n3_ n4_ n5_; (try clear hb); (try clear hb2); (try clear hk); (try clear hi); (try clear ho0)
           refine hK.out _ _ (HS0_) (fun hHeld => ?_)
           clear hK K
           refine norm_ (a' := ?_) ?_ ?_
           rotate_left
           ·
            show Act.put _ (some 38) _ = _
            simp only [Act.put, lsa, lsz, lss, i64_w, i32_w]
            rfl
           refine one_ (i := 3) (N := some 40) #[true, true, true, true, false, false, false, false, false, false, false, false, false, false, false, false, false, false, false] rfl rfl (one_of HT_.out (by kernel_rfl)) (by decide) (fun K hK => ?_)
           refine goes_ Try.func14 (by kernel_rfl) rfl #[.slice (some ad282) t245.length co36] (by rfl) rfl rfl (by (try simp only [List.map_toArray, List.map_cons, List.map_nil]); first | done | rfl | (simp only [lld, llt]; rfl)) ?_
           with_reducible refine (merge_All.calls kj2 _ _ t245 t270 _ ?side1 ?side2 A26.out).mono ?_
           (case side1 => repeat (first | exact (Kd.N_reads' HO247.out).2.2 | (with_reducible refine Kd.C_alloc ?_ _) | (with_reducible refine Kd.C_drewN ?_ _) | (with_reducible refine Kd.C_drew ?_)))
           (case side2 => exact (Kd.N_reads' HO247.out).2.1)
           rintro e w49 ⟨v271, rfl, ho0, hb⟩
           have HS0_ := (hb.cell (wbl _ _ (hHeld))).trans (hHeld)
           refine ⟨_, rfl, ?_⟩
           have n0_ := aS (Kd.N_elder' (by (with_reducible repeat (first | apply Kd.N_alloc | apply Kd.N_drewN | apply Kd.N_drew)); exact HO247.out) (by first | exact Kd.R_base ho0 | exact Kd.S_base ho0 | exact Kd.R_base ho0 | exact Kd.V_base ho0) hb)
           have n1_ := aS (Kd.V_elder' (by (with_reducible repeat (first | apply Kd.V_alloc | apply Kd.V_drewN | apply Kd.V_drew)); exact HO252.out) (by first | exact Kd.R_base ho0 | exact Kd.S_base ho0 | exact Kd.R_base ho0 | exact Kd.V_base ho0) hb)
           have n2_ := aS (Kd.V_elder' (by (with_reducible repeat (first | apply Kd.V_alloc | apply Kd.V_drewN | apply Kd.V_drew)); exact HO260.out) (by first | exact Kd.R_base ho0 | exact Kd.S_base ho0 | exact Kd.R_base ho0 | exact Kd.V_base ho0) hb)
           have n3_ := aS (Kd.N_elder' (by (with_reducible repeat (first | apply Kd.N_alloc | apply Kd.N_drewN | apply Kd.N_drew)); exact HO266.out) (by first | exact Kd.R_base ho0 | exact Kd.S_base ho0 | exact Kd.R_base ho0 | exact Kd.V_base ho0) hb)
           have n4_ := aS (Kd.R_elder' (by (with_reducible repeat (first | apply Kd.R_alloc | apply Kd.R_drewN | apply Kd.R_drew)); exact HO269.out) (by first | exact Kd.R_base ho0 | exact Kd.S_base ho0 | exact Kd.R_base ho0 | exact Kd.V_base ho0) hb)
           have n5_ := aS (Kd.R_lower (Kd.R_new' ho0 (Kd.R_lt (by (with_reducible repeat (first | apply Kd.R_alloc | apply Kd.R_drewN | apply Kd.R_drew)); exact HO269.out))) (below_size (by repeat (first | (with_reducible first | exact HB.out | apply bal | apply bdN | apply bdo) | exact HB.out))))
           have m0_ := aS (Kd.V_elder' (by (with_reducible repeat (first | apply Kd.V_alloc | apply Kd.V_drewN | apply Kd.V_drew)); exact HL282_0.out) (by first | exact Kd.R_base ho0 | exact Kd.S_base ho0 | exact Kd.V_base ho0) hb)
           have m1_ := aS (Kd.C_below (by repeat (first | (with_reducible exact HR282_0.out) | (with_reducible refine Kd.C_alloc ?_ _) | (with_reducible refine Kd.C_drewN ?_ _) | (with_reducible refine Kd.C_drew ?_) | exact HR282_0.out)) hb)
           clear HL282_0; clear HR282_0
           have HL282_0 := m0_
           have HR282_0 := m1_
           clear m0_ m1_
           have n6_ := aS (below_step (by repeat (first | (with_reducible first | exact HB.out | apply bal | apply bdN | apply bdo) | exact HB.out)) hb)
           clear HO247; clear HO252; clear HO260; clear HO266; clear HO269; clear HB
           have HO247 := n0_
           have HO252 := n1_
           have HO260 := n2_
           have HO266 := n3_
           have HO269 := n4_
           have HO272 := n5_
           have HB := n6_
           clear n0_ n1_ n2_ n3_ n4_ n5_ n6_; (try clear hb); (try clear hb2); (try clear hk); (try clear hi); (try clear ho0)
           obtain ⟨Ao50, co50, eo50⟩ := Kd.R_slice HO269.out
           (first | subst eo50 | (injection eo50 with f1_ f2_ f3_; have f4_ := f1_.symm; have f5_ := f3_.symm; clear f1_ f2_ f3_; subst f4_; subst f5_))
           obtain ⟨Ao51, co51, eo51⟩ := Kd.R_slice HO272.out
           (first | subst eo51 | (injection eo51 with f1_ f2_ f3_; have f4_ := f1_.symm; have f5_ := f3_.symm; clear f1_ f2_ f3_; subst f4_; subst f5_))
           refine hK.out _ _ (HS0_) (fun hHeld => ?_)
           clear hK K
           refine norm_ (a' := ?_) ?_ ?_
           rotate_left
           ·
            show Act.put _ (some 40) _ = _
            simp only [Act.put, lsa, lsz, lss, i64_w, i32_w]
            rfl
           refine one_ (i := 4) (N := some 41) #[true, true, true, true, true, false, false, false, false, false, false, false, false, false, false, false, false, false, false] rfl rfl (one_of HT_.out (by kernel_rfl)) (by decide) (fun K hK => ?_)
           refine goes_ Try.func13 (by kernel_rfl) rfl #[.slice Ao50 t267.length co50, .slice Ao51 t270.length co51] (by rfl) rfl rfl (by (try simp only [List.map_toArray, List.map_cons, List.map_nil]); first | done | rfl | (simp only [lld, llt]; rfl)) ?_
           with_reducible refine (shardlogref08_Same.calls kj2 _ _ t267 _ _ t270 true _ ?side1 ?side2 ?side3 ?side4 A27.out).mono ?_
           (case side1 => repeat (first | exact (Kd.R_reads' HO269.out).2.2 | (with_reducible refine Kd.C_alloc ?_ _) | (with_reducible refine Kd.C_drewN ?_ _) | (with_reducible refine Kd.C_drew ?_)))
           (case side2 => exact (Kd.R_reads' HO269.out).2.1)
           (case side3 => repeat (first | exact (Kd.R_reads' HO272.out).2.2 | (with_reducible refine Kd.C_alloc ?_ _) | (with_reducible refine Kd.C_drewN ?_ _) | (with_reducible refine Kd.C_drew ?_)))
           (case side4 => exact (Kd.R_reads' HO272.out).2.1)
           rintro e w' ⟨rfl, ⟨nd, rfl⟩⟩
           refine ⟨_, rfl, ?_⟩
           have q52 : ((wrap64 ((ji18) + 1)) : Int) ≤ ((t245.length : Int) : Int) := odt (by first | (with_reducible assumption) | assumption)
           obtain ⟨i052, hi052, _, hsz52, _⟩ := info_parts info27
           have hroom52 : t245.length ≤ co36 := (Kd.N_reads' HO247.out).2.1
           have hC52 : Kd.F (Kd.slice 35 k35) _ _ (some ad282) t245.length t245 := (Kd.V_at (base := w.heap.size) (Kd.N_V HO247.out)).2.2
           have ql52 : ((ji18) : Int) ≤ ((wrap64 ((ji18) + 1)) : Int) := odt (by first | (with_reducible assumption) | assumption)
           have q052 : (0 : Int) ≤ ((ji18) : Int) := odt (by first | (with_reducible assumption) | assumption)
           have hcut52 := cut_mid (P := Try.prog) 22 27 .i64 .i64 Try.underlying22 hi052 1 hsz52 (some ad282) t245.length co36 (ji18) (wrap64 ((ji18) + 1)) q052 ql52 q52 hroom52
           have hr52 := Kd.F_mid (lo := ((ji18) : Int).toNat) (hi := ((wrap64 ((ji18) + 1)) : Int).toNat) (c := co36) hC52 (by omega) (by omega) hroom52
           obtain ⟨A52, hA52⟩ : ∃ A1_, A1_ = (if co36 = ((ji18) : Int).toNat then (some ad282) else ((some ad282) : Option Addr).map (·.add (((ji18) : Int).toNat * 1))) := ⟨_, rfl⟩
           obtain ⟨c52, hc52⟩ : ∃ c1_, c1_ = co36 - ((ji18) : Int).toNat := ⟨_, rfl⟩
           have hy52 : y274.length = ((wrap64 ((ji18) + 1)) : Int).toNat - ((ji18) : Int).toNat := (by rw [Ny274.out, lld, llt] <;> omega)
           rw [show ((t245).take ((wrap64 ((ji18) + 1)) : Int).toNat).drop ((ji18) : Int).toNat = y274 from Ny274.out.symm] at hr52
           replace hr52 : Kd.F (Kd.slice 35 k35) _ _ A52 y274.length y274 := (by rw [hA52]; exact hr52)
           rw [← hy52, ← hA52, ← hc52] at hcut52
           have HO278 := aS (show Kd.V (Kd.slice 35 k35) 27 _ w.heap.size _ (.slice A52 y274.length c52) y274 from Kd.V_mk (by rw [hy52, hc52]; exact Nat.sub_le_sub_right (Nat.le_trans (by omega) hroom52) _) hr52)
           have HC278 := aS (show y274.length ≤ c52 from by rw [hy52, hc52]; exact Nat.sub_le_sub_right (Nat.le_trans (by omega) hroom52) _)
           clear hr52 hC52 hroom52 hi052 hsz52 hc52
           have KY52 := aS hy52
           have KA52 := aS hA52
           clear hy52 hA52
           replace q52 := eq_true q52
           refine hK.out _ _ (hHeld) (fun hHeld => ?_)
           clear hK K
           refine norm_ (a' := ?_) ?_ ?_
           rotate_left
           ·
            show Act.put _ (some 41) _ = _
            simp only [Act.put, lsa, lsz, lss, i64_w, i32_w]
            rfl
           refine pure_ (i := 5) (N := some 42) (v := ?_) (a' := ?_) #[true, true, true, true, true, true, false, false, false, false, false, false, false, false, false, false, false, false, false] rfl rfl (any_of HT_.out (by kernel_rfl)) (fun _ _ _ h => h) (Or.inl ⟨by rfl, ?_⟩) ?_ ?_
           rotate_left
           ·
            intro w'
            go_simp
            with_reducible rfl
           rotate_left
           ·
            simp only [Act.put, lsa, lsz, lss, i64_w, i32_w]
            rfl
           refine pure_ (i := 6) (N := some 43) (v := ?_) (a' := ?_) #[true, true, true, true, true, true, true, false, false, false, false, false, false, false, false, false, false, false, false] rfl rfl (any_of HT_.out (by kernel_rfl)) (fun _ _ _ h => h) (Or.inl ⟨by rfl, ?_⟩) ?_ ?_
           rotate_left
           ·
            intro w'
            go_simp
            with_reducible rfl
           rotate_left
           ·
            simp only [Act.put, lsa, lsz, lss, i64_w, i32_w]
            rfl
           refine pure_ (i := 7) (N := some 44) (v := ?_) (a' := ?_) #[true, true, true, true, true, true, true, true, false, false, false, false, false, false, false, false, false, false, false] rfl rfl (any_of HT_.out (by kernel_rfl)) (fun _ _ _ h => h) (Or.inl ⟨by rfl, ?_⟩) ?_ ?_
           rotate_left
           ·
            intro w'
            go_simp
            with_reducible rfl
           rotate_left
           ·
            simp only [Act.put, lsa, lsz, lss, i64_w, i32_w]
            rfl
           refine pure_ (i := 8) (N := some 45) (v := ?_) (a' := ?_) #[true, true, true, true, true, true, true, true, true, false, false, false, false, false, false, false, false, false, false] rfl rfl (any_of HT_.out (by kernel_rfl)) (fun _ _ _ h => h) (Or.inl ⟨by rfl, ?_⟩) ?_ ?_
           rotate_left
           ·
            intro w'
            go_simp
            with_reducible rfl
           rotate_left
           ·
            simp only [Act.put, lsa, lsz, lss, i64_w, i32_w]
            rfl
           refine pure_ (i := 9) (N := some 46) (v := ?_) (a' := ?_) #[true, true, true, true, true, true, true, true, true, true, false, false, false, false, false, false, false, false, false] rfl rfl (any_of HT_.out (by kernel_rfl)) (fun _ _ _ h => h) (Or.inl ⟨by rfl, ?_⟩) ?_ ?_
           rotate_left
           ·
            intro w'
            go_simp
            with_reducible rfl
           rotate_left
           ·
            simp only [Act.put, lsa, lsz, lss, i64_w, i32_w]
            rfl
           refine pure_ (i := 10) (N := some 47) (v := ?_) (a' := ?_) #[true, true, true, true, true, true, true, true, true, true, true, false, false, false, false, false, false, false, false] rfl rfl (any_of HT_.out (by kernel_rfl)) (fun _ _ _ h => h) (Or.inl ⟨by rfl, ?_⟩) ?_ ?_
           rotate_left
           ·
            intro w'
            go_simp
            with_reducible rfl
           rotate_left
           ·
            simp only [Act.put, lsa, lsz, lss, i64_w, i32_w]
            rfl
           refine pure_ (i := 12) (N := some 49) (v := ?_) (a' := ?_) #[true, true, true, true, true, true, true, true, true, true, true, false, true, false, false, false, false, false, false] rfl rfl (any_of HT_.out (by kernel_rfl)) (fun _ _ _ h => h) (Or.inl ⟨by rfl, ?_⟩) ?_ ?_
           rotate_left
           ·
            intro w'
            go_simp
            with_reducible rfl
           rotate_left
           ·
            simp only [Act.put, lsa, lsz, lss, i64_w, i32_w]
            rfl
           refine pure_ (i := 13) (N := some 50) (v := ?_) (a' := ?_) #[true, true, true, true, true, true, true, true, true, true, true, false, true, true, false, false, false, false, false] rfl rfl (any_of HT_.out (by kernel_rfl)) (fun _ _ _ h => h) (Or.inl ⟨by rfl, ?_⟩) ?_ ?_
           rotate_left
           ·
            intro w'
            go_simp
            with_reducible rfl
           rotate_left
           ·
            simp only [Act.put, lsa, lsz, lss, i64_w, i32_w]
            rfl
           refine pure_ (i := 14) (N := some 51) (v := ?_) (a' := ?_) #[true, true, true, true, true, true, true, true, true, true, true, false, true, true, true, false, false, false, false] rfl rfl (any_of HT_.out (by kernel_rfl)) (fun _ _ _ h => h) (Or.inl ⟨by rfl, ?_⟩) ?_ ?_
           rotate_left
           ·
            intro w'
            go_simp
            with_reducible rfl
           rotate_left
           ·
            simp only [Act.put, lsa, lsz, lss, i64_w, i32_w]
            rfl
           refine take_ (i := 15) (N := some 52) (v := ?_) (a' := ?_) #[true, true, true, true, true, true, true, true, true, true, true, false, true, true, true, true, false, false, false] rfl rfl (take_ofW HT_.out HW_.out (by kernel_rfl)) (fun _ _ _ h => h) (Or.inl ⟨by rfl, ?_⟩) hHeld ?_ ?_
           rotate_left
           ·
            intro w' s0
            go_simp
            with_reducible rfl
           rotate_left
           ·
            simp only [Act.put, lsa, lsz, lss, i64_w, i32_w]
            rfl
           refine one_ (i := 11) (N := some 48) #[true, true, true, true, true, true, true, true, true, true, true, true, true, true, true, true, false, false, false] rfl rfl (one_of HT_.out (by kernel_rfl)) (by decide) (fun K hK => ?_)
           refine goes_ Try.func14 (by kernel_rfl) rfl #[.slice A52 y274.length c52] (by rfl) rfl rfl (by (try simp only [List.map_toArray, List.map_cons, List.map_nil]); first | done | rfl | (simp only [lld, llt]; rfl)) ?_
           with_reducible refine (merge_All.calls kj2 _ _ y274 t279 _ ?side1 ?side2 A32.out).mono ?_
           (case side1 => repeat (first | exact (Kd.V_reads' HO278.out).2.2 | (with_reducible refine Kd.C_alloc ?_ _) | (with_reducible refine Kd.C_drewN ?_ _) | (with_reducible refine Kd.C_drew ?_)))
           (case side2 => exact (Kd.V_reads' HO278.out).2.1)
           rintro e w53 ⟨v280, rfl, ho0, hb⟩
           have HS0_ := (hb.cell (wbl _ _ (hHeld))).trans (hHeld)
           refine ⟨_, rfl, ?_⟩
           have n0_ := aS (Kd.N_elder' (by (with_reducible repeat (first | apply Kd.N_alloc | apply Kd.N_drewN | apply Kd.N_drew)); exact HO247.out) (by first | exact Kd.R_base ho0 | exact Kd.S_base ho0 | exact Kd.R_base ho0 | exact Kd.V_base ho0) hb)
           have n1_ := aS (Kd.V_elder' (by (with_reducible repeat (first | apply Kd.V_alloc | apply Kd.V_drewN | apply Kd.V_drew)); exact HO252.out) (by first | exact Kd.R_base ho0 | exact Kd.S_base ho0 | exact Kd.R_base ho0 | exact Kd.V_base ho0) hb)
           have n2_ := aS (Kd.V_elder' (by (with_reducible repeat (first | apply Kd.V_alloc | apply Kd.V_drewN | apply Kd.V_drew)); exact HO260.out) (by first | exact Kd.R_base ho0 | exact Kd.S_base ho0 | exact Kd.R_base ho0 | exact Kd.V_base ho0) hb)
           have n3_ := aS (Kd.N_elder' (by (with_reducible repeat (first | apply Kd.N_alloc | apply Kd.N_drewN | apply Kd.N_drew)); exact HO266.out) (by first | exact Kd.R_base ho0 | exact Kd.S_base ho0 | exact Kd.R_base ho0 | exact Kd.V_base ho0) hb)
           have n4_ := aS (Kd.R_elder' (by (with_reducible repeat (first | apply Kd.R_alloc | apply Kd.R_drewN | apply Kd.R_drew)); exact HO269.out) (by first | exact Kd.R_base ho0 | exact Kd.S_base ho0 | exact Kd.R_base ho0 | exact Kd.V_base ho0) hb)
           have n5_ := aS (Kd.R_elder' (by (with_reducible repeat (first | apply Kd.R_alloc | apply Kd.R_drewN | apply Kd.R_drew)); exact HO272.out) (by first | exact Kd.R_base ho0 | exact Kd.S_base ho0 | exact Kd.R_base ho0 | exact Kd.V_base ho0) hb)
           have n6_ := aS (Kd.V_elder' (by (with_reducible repeat (first | apply Kd.V_alloc | apply Kd.V_drewN | apply Kd.V_drew)); exact HO278.out) (by first | exact Kd.R_base ho0 | exact Kd.S_base ho0 | exact Kd.R_base ho0 | exact Kd.V_base ho0) hb)
           have n7_ := aS (Kd.V_elder' (by (with_reducible repeat (first | apply Kd.V_alloc | apply Kd.V_drewN | apply Kd.V_drew)); exact HL282_0.out) (by first | exact Kd.R_base ho0 | exact Kd.S_base ho0 | exact Kd.R_base ho0 | exact Kd.V_base ho0) hb)
           have n8_ := aS (Kd.R_lower (Kd.R_new' (Kd.R_new' ho0 (Kd.R_lt (by (with_reducible repeat (first | apply Kd.R_alloc | apply Kd.R_drewN | apply Kd.R_drew)); exact HO269.out))) (Kd.R_lt (by (with_reducible repeat (first | apply Kd.R_alloc | apply Kd.R_drewN | apply Kd.R_drew)); exact HO272.out))) (below_size (by repeat (first | (with_reducible first | exact HB.out | apply bal | apply bdN | apply bdo) | exact HB.out))))
           have n9_ := aS (Kd.C_below (by repeat (first | (with_reducible exact HR282_0.out) | (with_reducible refine Kd.C_alloc ?_ _) | (with_reducible refine Kd.C_drewN ?_ _) | (with_reducible refine Kd.C_drew ?_) | exact HR282_0.out)) hb)
           have n10_ := aS (below_step (by repeat (first | (with_reducible first | exact HB.out | apply bal | apply bdN | apply bdo) | exact HB.out)) hb)
           clear HO247; clear HO252; clear HO260; clear HO266; clear HO269; clear HO272; clear HO278; clear HL282_0; clear HR282_0; clear HB
           have HO247 := n0_
           have HO252 := n1_
           have HO260 := n2_
           have HO266 := n3_
           have HO269 := n4_
           have HO272 := n5_
           have HO278 := n6_
           have HL282_0 := n7_
           have HO281 := n8_
           have HR282_0 := n9_
           have HB := n10_
           clear n0_ n1_ n2_ n3_ n4_ n5_ n6_ n7_ n8_ n9_ n10_; (try clear hb); (try clear hb2); (try clear hk); (try clear hi); (try clear ho0)
           obtain ⟨Ao54, co54, eo54⟩ := Kd.R_slice HO281.out
           (first | subst eo54 | (injection eo54 with f1_ f2_ f3_; have f4_ := f1_.symm; have f5_ := f3_.symm; clear f1_ f2_ f3_; subst f4_; subst f5_))
           refine hK.out _ _ (HS0_) (fun hHeld => ?_)
           clear hK K
           refine norm_ (a' := ?_) ?_ ?_
           rotate_left
           ·
            show Act.put _ (some 48) _ = _
            simp only [Act.put, lsa, lsz, lss, i64_w, i32_w]
            rfl
           refine one_ (i := 16) (N := some 53) #[true, true, true, true, true, true, true, true, true, true, true, true, true, true, true, true, true, false, false] rfl rfl (one_of HT_.out (by kernel_rfl)) (by decide) (fun K hK => ?_)
           refine goes_ Try.func13 (by kernel_rfl) rfl #[.slice Ao54 t279.length co54, .slice A282_0 (rd_L4 t245 (ji18)).length c282_0] (by rfl) rfl rfl (by (try simp only [List.map_toArray, List.map_cons, List.map_nil]); first | done | (simp only [hji18]; rfl) | rfl | (simp only [lld, llt]; rfl)) ?_
           with_reducible refine (shardlogref08_Same.calls kj2 _ _ t279 _ _ (rd_L4 t245 (ji18)) t283 _ ?side1 ?side2 ?side3 ?side4 A34.out).mono ?_
           (case side1 => repeat (first | exact (Kd.R_reads' HO281.out).2.2 | (with_reducible refine Kd.C_alloc ?_ _) | (with_reducible refine Kd.C_drewN ?_ _) | (with_reducible refine Kd.C_drew ?_)))
           (case side2 => exact (Kd.R_reads' HO281.out).2.1)
           (case side3 => repeat (first | exact (by repeat (first | (with_reducible exact HR282_0.out) | (with_reducible refine Kd.C_alloc ?_ _) | (with_reducible refine Kd.C_drewN ?_ _) | (with_reducible refine Kd.C_drew ?_) | exact HR282_0.out)) | (with_reducible refine Kd.C_alloc ?_ _) | (with_reducible refine Kd.C_drewN ?_ _) | (with_reducible refine Kd.C_drew ?_)))
           (case side4 => exact HC282_0.out)
           rintro e w' ⟨rfl, ⟨nd, rfl⟩⟩
           refine ⟨_, rfl, ?_⟩
           refine hK.out _ _ (hHeld) (fun hHeld => ?_)
           clear hK K
           refine norm_ (a' := ?_) ?_ ?_
           rotate_left
           ·
            show Act.put _ (some 53) _ = _
            simp only [Act.put, lsa, lsz, lss, i64_w, i32_w]
            rfl
           refine pure_ (i := 17) (N := some 54) (v := ?_) (a' := ?_) #[true, true, true, true, true, true, true, true, true, true, true, true, true, true, true, true, true, true, false] rfl rfl (any_of HT_.out (by kernel_rfl)) (fun _ _ _ h => h) (Or.inl ⟨by rfl, ?_⟩) ?_ ?_
           rotate_left
           ·
            intro w'
            go_simp
            with_reducible rfl
           rotate_left
           ·
            simp only [Act.put, lsa, lsz, lss, i64_w, i32_w]
            rfl
           refine pure_ (i := 18) (N := some 4) (v := ?_) (a' := ?_) #[true, true, true, true, true, true, true, true, true, true, true, true, true, true, true, true, true, true, true] rfl rfl (any_of HT_.out (by kernel_rfl)) (fun _ _ _ h => h) (Or.inl ⟨by rfl, ?_⟩) ?_ ?_
           rotate_left
           ·
            intro w'
            go_simp
            with_reducible rfl
           rotate_left
           ·
            simp only [Act.put, lsa, lsz, lss, i64_w, i32_w]
            rfl
           refine done_ (done_of HT_.out (by kernel_rfl)) ?_
           try go_wp2
           go_ret
           exact ⟨by first | rfl | (simp [errW_none, errW_some] <;> rfl) | (simp only [← hji18]; first | rfl | (simp [errW_none, errW_some] <;> rfl)) | (simp [*, errW_none, errW_some] <;> rfl), by repeat (first | (with_reducible first | exact HB.out | apply bal | apply bdN | apply bdo) | exact HB.out)⟩
          ·
           rw [if_neg c33] at H
           exact absurd H (by simp)
         ·
          rw [if_neg c31] at H
          exact absurd H (by simp)
        ·
         rw [if_neg c30] at H
         exact absurd H (by simp)
       ·
        replace c28 := Bool.eq_false_iff.mpr c28
        subst c28
        have H1 : (none) = some r := by rw [if_neg (show ¬ (false = true) by decide)] at H; exact H
        clear H; have H := H1; clear H1
        exact absurd H (by simp)
      ·
       rw [if_neg c20] at H
       exact absurd H (by simp)
     ·
      rw [if_neg c19] at H
      exact absurd H (by simp)

/-- THE ONE PURE STATEMENT of shardloglaw13_MergeSteps. -/
def shardloglaw13_MergeSteps.Pure : Prop := ∀ (l0 : List (List (S35))) (a1 : Int), (l0.length ≤ maxLen ∧ l0.length * 24 ≤ 140737488351232 ∧ ∀ y0_ ∈ l0, (y0_.length ≤ maxLen ∧ y0_.length * 64 ≤ 140737488351232 ∧ ∀ y1_ ∈ y0_, (y1_.f0.size ≤ 140737488351232 ∧ y1_.f1.size ≤ 140737488351232 ∧ (Lit.int .i64 y1_.f2).wf = true ∧ y1_.f3.size ≤ 140737488351232 ∧ True))) → (Lit.int .u8 a1).wf = true → ∃ k, shardloglaw13_MergeSteps.f k l0 a1 = some true
theorem shardloglaw13_MergeSteps.walk (P : shardloglaw13_MergeSteps.Pure) (A0 : Option Addr) (c0 : Nat) (l0 : List (List (S35))) (a1 : Int) (w : World) (wf0 : (l0.length ≤ maxLen ∧ l0.length * 24 ≤ 140737488351232 ∧ ∀ y0_ ∈ l0, (y0_.length ≤ maxLen ∧ y0_.length * 64 ≤ 140737488351232 ∧ ∀ y1_ ∈ y0_, (y1_.f0.size ≤ 140737488351232 ∧ y1_.f1.size ≤ 140737488351232 ∧ (Lit.int .i64 y1_.f2).wf = true ∧ y1_.f3.size ≤ 140737488351232 ∧ True)))) (hr0 : Kd.C (Kd.slice 35 k35) w A0 l0.length l0) (hc0 : l0.length ≤ c0) (wf1 : (Lit.int .u8 a1).wf = true) :
  Calls Try.prog 7 #[.slice A0 l0.length c0, .int .u8 a1] w fun e w' => e = .returned (.bool true) ∧ Below w.heap.size w w' := by
 obtain ⟨k, h⟩ := P l0 a1 wf0 wf1
 refine (shardloglaw13_MergeSteps.calls k A0 c0 l0 a1 true w hr0 hc0 h).mono ?_
 rintro e w' ⟨rfl, hd⟩
 exact ⟨rfl, hd⟩

end Go.Proofs.Ythphffimgmbhgaa.X
