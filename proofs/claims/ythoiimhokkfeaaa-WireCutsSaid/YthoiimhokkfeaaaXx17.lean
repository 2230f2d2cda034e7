-- written by a program of this session's, over the kit's print
import Derived.Test.YthoiimhokkfeaaaXx0
import Derived.Test.YthoiimhokkfeaaaXx1
import Derived.Test.YthoiimhokkfeaaaXx6
import Derived.Test.YthoiimhokkfeaaaXx7
import Derived.Test.YthoiimhokkfeaaaXx9
import Derived.Test.YthoiimhokkfeaaaXx15
import Derived.Test.YthoiimhokkfeaaaXx16
namespace Go.Proofs.Ythoiimhokkfeaaa.X
open Go.RowKit Go.Proofs.YthoiimhokkfeaaaW.PrintWords Go.Proofs.YthoiimhokkfeaaaW.PrintLast Go.Proofs.YthoiimhokkfeaaaW.PrintMore
attribute [local go_sem] max2_int min2_int max_two min_two max_three min_three max_four min_four   -- for this text's walks alone
set_option linter.unusedVariables false
set_option linter.unusedSimpArgs false

/-! ### shardloglaw01_WireCuts: function 4 -/
mutual
def shardloglaw01_WireCuts.j0 : Nat → List Int → Bool → Option (Bool)
  | 0, _, _ => none
  | k + 1, x0, x17 => if x17 = true then ((shardloglaw01_awake.f k).bind fun t253 => (some t253)) else ((wire_CutNum.f k x0).bind fun bt254 => ((wire_CutText.f k x0).bind fun bt259 => ((shardlogref01_TextAt.f x0 0).bind fun bt264 => (if (bt254.2.2 != (decide ((x0.length : Int) ≥ 4))) = true then (shardloglaw01_WireCuts.j1 k x0 bt259.1 bt259.2.1 bt259.2.2 bt264.1 bt264.2 true) else (if bt254.2.2 = true then ((shardlogref01_At.f x0 0).bind fun t266 => (if bt254.1 = t266 then (if 4 ≤ (x0.length : Int) then ((shardlogref01_Same.f bt254.2.1 (x0.drop 4)).bind fun t271 => (if t271 = true then (shardloglaw01_WireCuts.j1 k x0 bt259.1 bt259.2.1 bt259.2.2 bt264.1 bt264.2 false) else (shardloglaw01_WireCuts.j1 k x0 bt259.1 bt259.2.1 bt259.2.2 bt264.1 bt264.2 true))) else (none)) else (shardloglaw01_WireCuts.j1 k x0 bt259.1 bt259.2.1 bt259.2.2 bt264.1 bt264.2 true))) else (if bt254.1 = 0 then (shardloglaw01_WireCuts.j1 k x0 bt259.1 bt259.2.1 bt259.2.2 bt264.1 bt264.2 (decide ((bt254.2.1.length : Int) > 0))) else (shardloglaw01_WireCuts.j1 k x0 bt259.1 bt259.2.1 bt259.2.2 bt264.1 bt264.2 true)))))))
def shardloglaw01_WireCuts.j1 : Nat → List Int → ByteArray → List Int → Bool → ByteArray → Int → Bool → Option (Bool)
  | 0, _, _, _, _, _, _, _ => none
  | k + 1, x0, x6, x7, x8, x9, x10, x69 => if x69 = true then (none) else (if (x8 == (decide (x10 > 0))) = true then (if x6.toList = x9.toList then (if x8 = true then (if 0 ≤ x10 then (if x10 ≤ (x0.length : Int) then ((shardlogref01_Same.f x7 (x0.drop (x10 : Int).toNat)).bind fun t276 => (if t276 = true then (some true) else (none))) else (none)) else (none)) else (some ((x7.length : Int) == 0))) else (none)) else (none))
end
def shardloglaw01_WireCuts.f (k : Nat) (l0 : List Int) : Option (Bool) := (shardloglaw01_awake.f k).bind fun t252 => (if t252 = true then (shardloglaw01_WireCuts.j0 k l0 (decide ((l0.length : Int) > 3000))) else (shardloglaw01_WireCuts.j0 k l0 true))
theorem shardloglaw01_WireCuts.mono_l : ∀ k, (∀ y0 y1, LeO (shardloglaw01_WireCuts.j0 k y0 y1) (shardloglaw01_WireCuts.j0 (k + 1) y0 y1)) ∧ (∀ y0 y1 y2 y3 y4 y5 y6, LeO (shardloglaw01_WireCuts.j1 k y0 y1 y2 y3 y4 y5 y6) (shardloglaw01_WireCuts.j1 (k + 1) y0 y1 y2 y3 y4 y5 y6))
  | 0 => ⟨fun _ _ r h => by simp [shardloglaw01_WireCuts.j0] at h, fun _ _ _ _ _ _ _ r h => by simp [shardloglaw01_WireCuts.j1] at h⟩
  | k + 1 => by
    obtain ⟨ih0, ih1⟩ := shardloglaw01_WireCuts.mono_l k
    refine ⟨?_, ?_⟩
    · intro y0 y1
      unfold shardloglaw01_WireCuts.j0
      repeat' first
      | (with_reducible exact ih0 _ _)
      | (with_reducible exact ih1 _ _ _ _ _ _ _)
      | (with_reducible exact shardloglaw01_awake.mono _)
      | (with_reducible exact wire_CutNum.mono _ _)
      | (with_reducible exact wire_CutText.mono _ _)
      | (with_reducible exact LeO.refl _)
      | (with_reducible exact LeO.none _)
      | (with_reducible refine LeO.ite ?_ ?_)
      | (with_reducible refine LeO.bind ?_ (fun _ => ?_))
      | exact ih0 _ _
      | exact ih1 _ _ _ _ _ _ _
      | exact shardloglaw01_awake.mono _
      | exact wire_CutNum.mono _ _
      | exact wire_CutText.mono _ _
      | exact LeO.none _
      | refine LeO.ite ?_ ?_
      | refine LeO.bind ?_ (fun _ => ?_)
    · intro y0 y1 y2 y3 y4 y5 y6
      unfold shardloglaw01_WireCuts.j1
      repeat' first
      | (with_reducible exact ih0 _ _)
      | (with_reducible exact ih1 _ _ _ _ _ _ _)
      | (with_reducible exact shardloglaw01_awake.mono _)
      | (with_reducible exact wire_CutNum.mono _ _)
      | (with_reducible exact wire_CutText.mono _ _)
      | (with_reducible exact LeO.refl _)
      | (with_reducible exact LeO.none _)
      | (with_reducible refine LeO.ite ?_ ?_)
      | (with_reducible refine LeO.bind ?_ (fun _ => ?_))
      | exact ih0 _ _
      | exact ih1 _ _ _ _ _ _ _
      | exact shardloglaw01_awake.mono _
      | exact wire_CutNum.mono _ _
      | exact wire_CutText.mono _ _
      | exact LeO.none _
      | refine LeO.ite ?_ ?_
      | refine LeO.bind ?_ (fun _ => ?_)
theorem shardloglaw01_WireCuts.mono : ∀ a0 k, LeO (shardloglaw01_WireCuts.f k a0) (shardloglaw01_WireCuts.f (k + 1) a0) := by
  intro a0 k
  obtain ⟨ih0, ih1⟩ := shardloglaw01_WireCuts.mono_l k
  unfold shardloglaw01_WireCuts.f
  repeat' first
      | (with_reducible exact ih0 _ _)
      | (with_reducible exact ih1 _ _ _ _ _ _ _)
      | (with_reducible exact shardloglaw01_awake.mono _)
      | (with_reducible exact wire_CutNum.mono _ _)
      | (with_reducible exact wire_CutText.mono _ _)
      | (with_reducible exact LeO.refl _)
      | (with_reducible exact LeO.none _)
      | (with_reducible refine LeO.ite ?_ ?_)
      | (with_reducible refine LeO.bind ?_ (fun _ => ?_))
      | exact ih0 _ _
      | exact ih1 _ _ _ _ _ _ _
      | exact shardloglaw01_awake.mono _
      | exact wire_CutNum.mono _ _
      | exact wire_CutText.mono _ _
      | exact LeO.none _
      | refine LeO.ite ?_ ?_
      | refine LeO.bind ?_ (fun _ => ?_)
set_option maxHeartbeats 8000000 in
set_option maxRecDepth 100000 in
theorem shardloglaw01_WireCuts.calls (k : Nat) (A0 : Option Addr) (c0 : Nat) (l0 : List Int) (r : Bool) (w : World) (hr0 : Kd.C (Kd.int .u8) w A0 l0.length l0) (hc0 : l0.length ≤ c0) (h : shardloglaw01_WireCuts.f k l0 = some r) :
    Calls Try.prog 4 #[.slice A0 l0.length c0] w fun e w' => e = .returned (.bool r) ∧ Below w.heap.size w w' := by
  have HR0 := Aside0.mk hr0
  have HC0 := Aside0.mk hc0
  clear hr0 hc0
  have HB := Aside0.mk (Below.refl w.heap.size w)
  have H : ((shardloglaw01_awake.f k).bind fun t252 => (if t252 = true then (shardloglaw01_WireCuts.j0 k l0 (decide ((l0.length : Int) > 3000))) else (shardloglaw01_WireCuts.j0 k l0 true))) = some r := h
  clear h
  have HC2 := Aside0.mk H
  clear H
  go_enter Try.func4, Try.ntmps4
  go_upto_region 1 with (fail)
  go_cut [17] (fun v17 wc => ∃ (kq : Nat) (x17_1 : Bool), v17 = .bool x17_1 ∧ Aside0 (shardloglaw01_WireCuts.j0 kq l0 x17_1 = some r) ∧ Aside0 (kq ≤ k) ∧ Aside0 (Below w.heap.size w wc))
  case first =>
    have H := HC2.out
    clear HC2
    replace H := Option.bind_eq_some_iff.mp H
    obtain ⟨t252, A30, H⟩ := H
    replace H : (if t252 = true then (shardloglaw01_WireCuts.j0 k l0 (decide ((l0.length : Int) > 3000))) else (shardloglaw01_WireCuts.j0 k l0 true)) = some r := H
    have A3 := Aside0.mk A30
    clear A30
    by_cases c4 : t252 = true
    · subst c4
      have H1 : (shardloglaw01_WireCuts.j0 k l0 (decide ((l0.length : Int) > 3000))) = some r := by rw [if_pos rfl] at H; exact H
      clear H
      have H := H1
      clear H1
      have H' := Aside0.mk H
      clear H
      go_wp2_with (first | ((with_reducible refine gate_callee (f := 9) rfl ?_); refine goesL_ (some 11) rfl rfl Try.func9 (by kernel_rfl) rfl #[] rfl (by (try simp only [List.map_toArray, List.map_cons, List.map_nil]); first | done | rfl | (simp only [List.length_drop, List.length_take]; rfl)) ?_; (with_reducible refine (shardloglaw01_awake.calls k  true _ A3.out).mono ?_); rintro e w5 ⟨rfl, hb⟩; refine ⟨_, rfl, ?_⟩; have n0_ := Aside0.mk (below_step (by repeat (first | (with_reducible first | exact HB.out | apply below_alloc | apply pw_below_drewN | apply below_drew1) | exact HB.out)) hb); clear HB; have HB := n0_; clear n0_; (try clear hb); (try clear hb2); (try clear hk); (try clear hi)))
      go_meet
      case rel => exact ⟨_, (decide ((l0.length : Int) > 3000)), (by first | rfl | (simp; done) | (simp [*]; done)), H', ⟨by first | omega | exact Nat.le_refl _⟩, ⟨by repeat (first | (with_reducible first | exact HB.out | apply below_alloc | apply pw_below_drewN | apply below_drew1) | exact HB.out)⟩⟩
    · replace c4 := Bool.eq_false_iff.mpr c4
      subst c4
      have H1 : (shardloglaw01_WireCuts.j0 k l0 true) = some r := by rw [if_neg (show ¬ (false = true) by decide)] at H; exact H
      clear H
      have H := H1
      clear H1
      have H' := Aside0.mk H
      clear H
      go_wp2_with (first | ((with_reducible refine gate_callee (f := 9) rfl ?_); refine goesL_ (some 11) rfl rfl Try.func9 (by kernel_rfl) rfl #[] rfl (by (try simp only [List.map_toArray, List.map_cons, List.map_nil]); first | done | rfl | (simp only [List.length_drop, List.length_take]; rfl)) ?_; (with_reducible refine (shardloglaw01_awake.calls k  false _ A3.out).mono ?_); rintro e w6 ⟨rfl, hb⟩; refine ⟨_, rfl, ?_⟩; have n0_ := Aside0.mk (below_step (by repeat (first | (with_reducible first | exact HB.out | apply below_alloc | apply pw_below_drewN | apply below_drew1) | exact HB.out)) hb); clear HB; have HB := n0_; clear n0_; (try clear hb); (try clear hb2); (try clear hk); (try clear hi)))
      go_meet
      case rel => exact ⟨_, (true), (by first | rfl | (simp; done) | (simp [*]; done)), H', ⟨by first | omega | exact Nat.le_refl _⟩, ⟨by repeat (first | (with_reducible first | exact HB.out | apply below_alloc | apply pw_below_drewN | apply below_drew1) | exact HB.out)⟩⟩
  case rest =>
    clear HC2
    try clear p2
    try clear c4
    obtain ⟨kq, x17_1, rfl, HA, HJ1, HB⟩ := hcut
    cases kq with
    | zero => exact absurd HA.out (by simp [shardloglaw01_WireCuts.j0])
    | succ kj1 =>
      have H := HA.out
      clear HA
      simp only [shardloglaw01_WireCuts.j0] at H
      by_cases c7 : x17_1 = true
      · subst c7
        have H1 : ((shardloglaw01_awake.f kj1).bind fun t253 => (some t253)) = some r := by rw [if_pos rfl] at H; exact H
        clear H
        have H := H1
        clear H1
        replace H := Option.bind_eq_some_iff.mp H
        obtain ⟨t253, A80, H⟩ := H
        replace H : (some t253) = some r := H
        have A8 := Aside0.mk A80
        clear A80
        obtain rfl := Option.some.inj H
        go_wp2_with (first | ((with_reducible refine gate_callee (f := 9) rfl ?_); refine goesL_ (some 18) rfl rfl Try.func9 (by kernel_rfl) rfl #[] rfl (by (try simp only [List.map_toArray, List.map_cons, List.map_nil]); first | done | rfl | (simp only [List.length_drop, List.length_take]; rfl)) ?_; (with_reducible refine (shardloglaw01_awake.calls kj1  t253 _ A8.out).mono ?_); rintro e w9 ⟨rfl, hb⟩; refine ⟨_, rfl, ?_⟩; have n0_ := Aside0.mk (below_step (by repeat (first | (with_reducible first | exact HB.out | apply below_alloc | apply pw_below_drewN | apply below_drew1) | exact HB.out)) hb); clear HB; have HB := n0_; clear n0_; (try clear hb); (try clear hb2); (try clear hk); (try clear hi)))
        go_ret
        exact ⟨by first | rfl | (simp [errW_none, errW_some] <;> rfl) | (simp [*, errW_none, errW_some] <;> rfl), by repeat (first | (with_reducible first | exact HB.out | apply below_alloc | apply pw_below_drewN | apply below_drew1) | exact HB.out)⟩
      · replace c7 := Bool.eq_false_iff.mpr c7
        subst c7
        have H1 : ((wire_CutNum.f kj1 l0).bind fun bt254 => ((wire_CutText.f kj1 l0).bind fun bt259 => ((shardlogref01_TextAt.f l0 0).bind fun bt264 => (if (bt254.2.2 != (decide ((l0.length : Int) ≥ 4))) = true then (shardloglaw01_WireCuts.j1 kj1 l0 bt259.1 bt259.2.1 bt259.2.2 bt264.1 bt264.2 true) else (if bt254.2.2 = true then ((shardlogref01_At.f l0 0).bind fun t266 => (if bt254.1 = t266 then (if 4 ≤ (l0.length : Int) then ((shardlogref01_Same.f bt254.2.1 (l0.drop 4)).bind fun t271 => (if t271 = true then (shardloglaw01_WireCuts.j1 kj1 l0 bt259.1 bt259.2.1 bt259.2.2 bt264.1 bt264.2 false) else (shardloglaw01_WireCuts.j1 kj1 l0 bt259.1 bt259.2.1 bt259.2.2 bt264.1 bt264.2 true))) else (none)) else (shardloglaw01_WireCuts.j1 kj1 l0 bt259.1 bt259.2.1 bt259.2.2 bt264.1 bt264.2 true))) else (if bt254.1 = 0 then (shardloglaw01_WireCuts.j1 kj1 l0 bt259.1 bt259.2.1 bt259.2.2 bt264.1 bt264.2 (decide ((bt254.2.1.length : Int) > 0))) else (shardloglaw01_WireCuts.j1 kj1 l0 bt259.1 bt259.2.1 bt259.2.2 bt264.1 bt264.2 true))))))) = some r := by rw [if_neg (show ¬ (false = true) by decide)] at H; exact H
        clear H
        have H := H1
        clear H1
        replace H := Option.bind_eq_some_iff.mp H
        obtain ⟨⟨t254, t255, t256⟩, A100, H⟩ := H
        replace H : ((wire_CutText.f kj1 l0).bind fun bt259 => ((shardlogref01_TextAt.f l0 0).bind fun bt264 => (if (t256 != (decide ((l0.length : Int) ≥ 4))) = true then (shardloglaw01_WireCuts.j1 kj1 l0 bt259.1 bt259.2.1 bt259.2.2 bt264.1 bt264.2 true) else (if t256 = true then ((shardlogref01_At.f l0 0).bind fun t266 => (if t254 = t266 then (if 4 ≤ (l0.length : Int) then ((shardlogref01_Same.f t255 (l0.drop 4)).bind fun t271 => (if t271 = true then (shardloglaw01_WireCuts.j1 kj1 l0 bt259.1 bt259.2.1 bt259.2.2 bt264.1 bt264.2 false) else (shardloglaw01_WireCuts.j1 kj1 l0 bt259.1 bt259.2.1 bt259.2.2 bt264.1 bt264.2 true))) else (none)) else (shardloglaw01_WireCuts.j1 kj1 l0 bt259.1 bt259.2.1 bt259.2.2 bt264.1 bt264.2 true))) else (if t254 = 0 then (shardloglaw01_WireCuts.j1 kj1 l0 bt259.1 bt259.2.1 bt259.2.2 bt264.1 bt264.2 (decide ((t255.length : Int) > 0))) else (shardloglaw01_WireCuts.j1 kj1 l0 bt259.1 bt259.2.1 bt259.2.2 bt264.1 bt264.2 true)))))) = some r := H
        have A10 := Aside0.mk A100
        clear A100
        replace H := Option.bind_eq_some_iff.mp H
        obtain ⟨⟨t259, t260, t261⟩, A110, H⟩ := H
        replace H : ((shardlogref01_TextAt.f l0 0).bind fun bt264 => (if (t256 != (decide ((l0.length : Int) ≥ 4))) = true then (shardloglaw01_WireCuts.j1 kj1 l0 t259 t260 t261 bt264.1 bt264.2 true) else (if t256 = true then ((shardlogref01_At.f l0 0).bind fun t266 => (if t254 = t266 then (if 4 ≤ (l0.length : Int) then ((shardlogref01_Same.f t255 (l0.drop 4)).bind fun t271 => (if t271 = true then (shardloglaw01_WireCuts.j1 kj1 l0 t259 t260 t261 bt264.1 bt264.2 false) else (shardloglaw01_WireCuts.j1 kj1 l0 t259 t260 t261 bt264.1 bt264.2 true))) else (none)) else (shardloglaw01_WireCuts.j1 kj1 l0 t259 t260 t261 bt264.1 bt264.2 true))) else (if t254 = 0 then (shardloglaw01_WireCuts.j1 kj1 l0 t259 t260 t261 bt264.1 bt264.2 (decide ((t255.length : Int) > 0))) else (shardloglaw01_WireCuts.j1 kj1 l0 t259 t260 t261 bt264.1 bt264.2 true))))) = some r := H
        have A11 := Aside0.mk A110
        clear A110
        replace H := Option.bind_eq_some_iff.mp H
        obtain ⟨⟨t264, t265⟩, A120, H⟩ := H
        replace H : (if (t256 != (decide ((l0.length : Int) ≥ 4))) = true then (shardloglaw01_WireCuts.j1 kj1 l0 t259 t260 t261 t264 t265 true) else (if t256 = true then ((shardlogref01_At.f l0 0).bind fun t266 => (if t254 = t266 then (if 4 ≤ (l0.length : Int) then ((shardlogref01_Same.f t255 (l0.drop 4)).bind fun t271 => (if t271 = true then (shardloglaw01_WireCuts.j1 kj1 l0 t259 t260 t261 t264 t265 false) else (shardloglaw01_WireCuts.j1 kj1 l0 t259 t260 t261 t264 t265 true))) else (none)) else (shardloglaw01_WireCuts.j1 kj1 l0 t259 t260 t261 t264 t265 true))) else (if t254 = 0 then (shardloglaw01_WireCuts.j1 kj1 l0 t259 t260 t261 t264 t265 (decide ((t255.length : Int) > 0))) else (shardloglaw01_WireCuts.j1 kj1 l0 t259 t260 t261 t264 t265 true)))) = some r := H
        have A12 := Aside0.mk A120
        clear A120
        have HC13 := Aside0.mk H
        clear H
        go_upto_region 6 with (first | ((with_reducible refine gate_callee (f := 18) rfl ?_); refine goesL_ (some 21) rfl rfl Try.func18 (by kernel_rfl) rfl #[.slice A0 l0.length c0] rfl (by (try simp only [List.map_toArray, List.map_cons, List.map_nil]); first | done | rfl | (simp only [List.length_drop, List.length_take]; rfl)) ?_; (with_reducible refine (wire_CutNum.calls kj1 _ _ l0 t254 t255 t256 _ ?side1 ?side2 A10.out).mono ?_); (case side1 => repeat (first | exact (Kd.C_below HR0.out HB.out) | (with_reducible refine Kd.C_alloc ?_ _) | (with_reducible refine Kd.C_drewN ?_ _) | (with_reducible refine Kd.C_drew ?_))); (case side2 => exact HC0.out); rintro e w14 ⟨v257, rfl, ho0, hb⟩; refine ⟨_, rfl, ?_⟩; have n0_ := Aside0.mk (Kd.R_lower ho0 (below_size (by repeat (first | (with_reducible first | exact HB.out | apply below_alloc | apply pw_below_drewN | apply below_drew1) | exact HB.out)))); have n1_ := Aside0.mk (below_step (by repeat (first | (with_reducible first | exact HB.out | apply below_alloc | apply pw_below_drewN | apply below_drew1) | exact HB.out)) hb); clear HB; have HO258 := n0_; have HB := n1_; clear n0_ n1_; (try clear hb); (try clear hb2); (try clear hk); (try clear hi); (try clear ho0)) | ((with_reducible refine gate_callee (f := 19) rfl ?_); refine goesL_ (some 27) rfl rfl Try.func19 (by kernel_rfl) rfl #[.slice A0 l0.length c0] rfl (by (try simp only [List.map_toArray, List.map_cons, List.map_nil]); first | done | rfl | (simp only [List.length_drop, List.length_take]; rfl)) ?_; (with_reducible refine (wire_CutText.calls kj1 _ _ l0 t259 t260 t261 _ ?side1 ?side2 A11.out).mono ?_); (case side1 => repeat (first | exact (Kd.C_below HR0.out HB.out) | (with_reducible refine Kd.C_alloc ?_ _) | (with_reducible refine Kd.C_drewN ?_ _) | (with_reducible refine Kd.C_drew ?_))); (case side2 => exact HC0.out); rintro e w15 ⟨v262, rfl, ho0, hb⟩; refine ⟨_, rfl, ?_⟩; have n0_ := Aside0.mk (Kd.R_elder' (by (with_reducible repeat (first | apply Kd.R_alloc | apply Kd.R_drewN | apply Kd.R_drew)); exact HO258.out) (Kd.Q_base ho0) hb); have n1_ := Aside0.mk (Kd.Q_lower (Kd.Q_new' ho0 (Kd.R_lt (by (with_reducible repeat (first | apply Kd.R_alloc | apply Kd.R_drewN | apply Kd.R_drew)); exact HO258.out))) (below_size (by repeat (first | (with_reducible first | exact HB.out | apply below_alloc | apply pw_below_drewN | apply below_drew1) | exact HB.out)))); have n2_ := Aside0.mk (below_step (by repeat (first | (with_reducible first | exact HB.out | apply below_alloc | apply pw_below_drewN | apply below_drew1) | exact HB.out)) hb); clear HO258; clear HB; have HO258 := n0_; have HO263 := n1_; have HB := n2_; clear n0_ n1_ n2_; (try clear hb); (try clear hb2); (try clear hk); (try clear hi); (try clear ho0)) | ((with_reducible refine gate_callee (f := 20) rfl ?_); refine goesL_ (some 33) rfl rfl Try.func20 (by kernel_rfl) rfl #[.slice A0 l0.length c0, .int .i64 0] rfl (by (try simp only [List.map_toArray, List.map_cons, List.map_nil]); first | done | rfl | (simp only [List.length_drop, List.length_take]; rfl)) ?_; (with_reducible refine (shardlogref01_TextAt.calls _ _ l0 0 t264 t265 _ ?side1 ?side2 A12.out).mono ?_); (case side1 => repeat (first | exact (Kd.C_below HR0.out HB.out) | (with_reducible refine Kd.C_alloc ?_ _) | (with_reducible refine Kd.C_drewN ?_ _) | (with_reducible refine Kd.C_drew ?_))); (case side2 => exact HC0.out); rintro e w' ⟨rfl, ⟨nd, rfl⟩⟩; refine ⟨_, rfl, ?_⟩))
        (try simp only [Act.put, List.setIfInBounds_toArray, List.set_cons_zero, List.set_cons_succ])
        go_cut [69] (fun v69 wc => ∃ (kq : Nat) (x69_12 : Bool), v69 = .bool x69_12 ∧ Aside0 (shardloglaw01_WireCuts.j1 kq l0 t259 t260 t261 t264 t265 x69_12 = some r) ∧ Aside0 (kq ≤ kj1) ∧ Aside0 (Kd.Q (Kd.int .u8) 5 wc w.heap.size (fun _ => True) v262 t260) ∧ Aside0 (Below w.heap.size w wc))
        case first =>
          have H := HC13.out
          clear HC13
          by_cases c16 : (t256 != (decide ((l0.length : Int) ≥ 4))) = true
          · rw [if_pos c16] at H
            have c16b0 : (t256 != (decide ((l0.length : Int) ≥ 4))) = true := c16
            (try (have c16b1 : decide (t256 = (decide ((l0.length : Int) ≥ 4))) = false := by simpa using c16))
            (try (have c16b2 : (t256 == (decide ((l0.length : Int) ≥ 4))) = false := by simpa using c16))
            (try (have c16b3 : ¬ (t256 = (decide ((l0.length : Int) ≥ 4))) := by simpa using c16))
            clear c16
            (first | rw [c16b0] | (simp only [i64_w, i32_w]; rw [c16b0]) | skip)
            have H' := Aside0.mk H
            clear H
            go_wp2
            go_meet
            case rel => exact ⟨_, (true), (by first | rfl | (simp; done) | (simp [*]; done)), H', ⟨by have := HJ1.out; first | omega | exact Nat.le_refl _⟩, ⟨by (with_reducible repeat (first | apply Kd.Q_alloc | apply Kd.Q_drewN | apply Kd.Q_drew)); exact Kd.Q_mono HO263.out (fun _ hk => trivial)⟩, ⟨by repeat (first | (with_reducible first | exact HB.out | apply below_alloc | apply pw_below_drewN | apply below_drew1) | exact HB.out)⟩⟩
          · rw [if_neg c16] at H
            have c16b0 : (t256 != (decide ((l0.length : Int) ≥ 4))) = false := by simpa using c16
            (try (have c16b1 : decide (t256 = (decide ((l0.length : Int) ≥ 4))) = true := by simpa using c16))
            (try (have c16b2 : (t256 == (decide ((l0.length : Int) ≥ 4))) = true := by simpa using c16))
            clear c16
            (first | rw [c16b0] | (simp only [i64_w, i32_w]; rw [c16b0]) | skip)
            by_cases c17 : t256 = true
            · subst c17
              have H1 : ((shardlogref01_At.f l0 0).bind fun t266 => (if t254 = t266 then (if 4 ≤ (l0.length : Int) then ((shardlogref01_Same.f t255 (l0.drop 4)).bind fun t271 => (if t271 = true then (shardloglaw01_WireCuts.j1 kj1 l0 t259 t260 t261 t264 t265 false) else (shardloglaw01_WireCuts.j1 kj1 l0 t259 t260 t261 t264 t265 true))) else (none)) else (shardloglaw01_WireCuts.j1 kj1 l0 t259 t260 t261 t264 t265 true))) = some r := by rw [if_pos rfl] at H; exact H
              clear H
              have H := H1
              clear H1
              replace H := Option.bind_eq_some_iff.mp H
              obtain ⟨t266, A180, H⟩ := H
              replace H : (if t254 = t266 then (if 4 ≤ (l0.length : Int) then ((shardlogref01_Same.f t255 (l0.drop 4)).bind fun t271 => (if t271 = true then (shardloglaw01_WireCuts.j1 kj1 l0 t259 t260 t261 t264 t265 false) else (shardloglaw01_WireCuts.j1 kj1 l0 t259 t260 t261 t264 t265 true))) else (none)) else (shardloglaw01_WireCuts.j1 kj1 l0 t259 t260 t261 t264 t265 true)) = some r := H
              have A18 := Aside0.mk A180
              clear A180
              by_cases c19 : t254 = t266
              · rw [if_pos c19] at H
                have c19b0 : (t254 == t266) = true := beq_iff_eq.mpr c19
                have c19b1 : (t254 != t266) = false := bne_eq_false_iff_eq.mpr c19
                clear c19
                by_cases c20 : 4 ≤ (l0.length : Int)
                · rw [if_pos c20] at H
                  have c20b0 := eq_true c20
                  have c20b1 : decide (4 ≤ (l0.length : Int)) = true := decide_eq_true c20
                  clear c20
                  obtain ⟨y267, hy267⟩ : ∃ y_ : List Int, y_ = (l0.drop 4) := ⟨_, rfl⟩
                  replace H : ((shardlogref01_Same.f t255 y267).bind fun t271 => (if t271 = true then (shardloglaw01_WireCuts.j1 kj1 l0 t259 t260 t261 t264 t265 false) else (shardloglaw01_WireCuts.j1 kj1 l0 t259 t260 t261 t264 t265 true))) = some r := by first | (rw [hy267]; with_reducible exact H) | (have H2_ := (Option.bind_some _ _).symm.trans H; rw [hy267]; with_reducible exact H2_) | (have H2_ := (Option.bind_some _ _).symm.trans H; with_reducible exact H2_) | with_reducible exact H | (rw [hy267]; exact H) | exact H
                  have Ny267 := Aside0.mk hy267
                  clear hy267
                  replace H := Option.bind_eq_some_iff.mp H
                  obtain ⟨t271, A210, H⟩ := H
                  replace H : (if t271 = true then (shardloglaw01_WireCuts.j1 kj1 l0 t259 t260 t261 t264 t265 false) else (shardloglaw01_WireCuts.j1 kj1 l0 t259 t260 t261 t264 t265 true)) = some r := H
                  have A21 := Aside0.mk A210
                  clear A210
                  by_cases c22 : t271 = true
                  · subst c22
                    have H1 : (shardloglaw01_WireCuts.j1 kj1 l0 t259 t260 t261 t264 t265 false) = some r := by rw [if_pos rfl] at H; exact H
                    clear H
                    have H := H1
                    clear H1
                    have H' := Aside0.mk H
                    clear H
                    go_wp2_with (first | (go_at_call 21; (with_reducible refine (shardlogref01_At.calls _ _ l0 0 t266 _ ?side1 ?side2 A18.out).mono ?_); (case side1 => repeat (first | exact (Kd.C_below HR0.out HB.out) | (with_reducible refine Kd.C_alloc ?_ _) | (with_reducible refine Kd.C_drewN ?_ _) | (with_reducible refine Kd.C_drew ?_))); (case side2 => exact HC0.out); rintro e w' ⟨rfl, ⟨nd, rfl⟩⟩; have q23 : (4 : Int) ≤ ((l0.length : Int) : Int) := of_decide_eq_true (by first | (with_reducible assumption) | assumption); obtain ⟨i023, hi023, _, hsz23, _⟩ := info_parts info5; have hroom23 : l0.length ≤ c0 := HC0.out; have hC23 : Kd.C (Kd.int .u8) _ A0 l0.length l0 := HR0.out; have hcut23 := cut_from (P := Try.prog) 26 5 .i64 Try.underlying26 hi023 1 hsz23 A0 l0.length c0 4 (by omega) q23; have hr23 := Kd.C_drop (m := (4 : Int).toNat) (c := c0) hC23 (by omega) hroom23; obtain ⟨A23, hA23⟩ : ∃ A1, A1 = (if c0 = (4 : Int).toNat then A0 else (A0 : Option Addr).map (·.add ((4 : Int).toNat * 1))) := ⟨_, rfl⟩; obtain ⟨c23, hc23⟩ : ∃ c1, c1 = c0 - (4 : Int).toNat := ⟨_, rfl⟩; have hy23 : y267.length = l0.length - (4 : Int).toNat := (by rw [Ny267.out, List.length_drop] <;> omega); rw [show (l0).drop (4 : Int).toNat = y267 from Ny267.out.symm] at hr23; replace hr23 : Kd.C (Kd.int .u8) _ A23 y267.length y267 := (by rw [hA23]; exact hr23); rw [← hy23, ← hA23, ← hc23] at hcut23; have HR270 := Aside0.mk hr23; have HC270 := Aside0.mk (show y267.length ≤ c23 from by rw [hy23, hc23]; exact Nat.sub_le_sub_right hroom23 _); clear hr23 hC23 hroom23 hi023 hsz23 hc23; have KY23 := Aside0.mk hy23; have KA23 := Aside0.mk hA23; clear hy23 hA23; replace q23 := eq_true q23; obtain ⟨Ao24, co24, eo24⟩ := Kd.R_slice HO258.out; subst eo24) | (go_at_call 11; (with_reducible refine (shardlogref01_Same.calls _ _ t255 _ _ y267 true _ ?side1 ?side2 ?side3 ?side4 A21.out).mono ?_); (case side1 => repeat (first | exact (Kd.R_reads' HO258.out).2.2 | (with_reducible refine Kd.C_alloc ?_ _) | (with_reducible refine Kd.C_drewN ?_ _) | (with_reducible refine Kd.C_drew ?_))); (case side2 => exact (Kd.R_reads' HO258.out).2.1); (case side3 => repeat (first | exact (Kd.C_below HR270.out (by repeat (first | (with_reducible first | exact HB.out | apply below_alloc | apply pw_below_drewN | apply below_drew1) | exact HB.out))) | (with_reducible refine Kd.C_alloc ?_ _) | (with_reducible refine Kd.C_drewN ?_ _) | (with_reducible refine Kd.C_drew ?_))); (case side4 => exact HC270.out); rintro e w' ⟨rfl, ⟨nd, rfl⟩⟩))
                    go_meet
                    case rel => exact ⟨_, (false), (by first | rfl | (simp; done) | (simp [*]; done)), H', ⟨by have := HJ1.out; first | omega | exact Nat.le_refl _⟩, ⟨by (with_reducible repeat (first | apply Kd.Q_alloc | apply Kd.Q_drewN | apply Kd.Q_drew)); exact Kd.Q_mono HO263.out (fun _ hk => trivial)⟩, ⟨by repeat (first | (with_reducible first | exact HB.out | apply below_alloc | apply pw_below_drewN | apply below_drew1) | exact HB.out)⟩⟩
                  · replace c22 := Bool.eq_false_iff.mpr c22
                    subst c22
                    have H1 : (shardloglaw01_WireCuts.j1 kj1 l0 t259 t260 t261 t264 t265 true) = some r := by rw [if_neg (show ¬ (false = true) by decide)] at H; exact H
                    clear H
                    have H := H1
                    clear H1
                    have H' := Aside0.mk H
                    clear H
                    go_wp2_with (first | (go_at_call 21; (with_reducible refine (shardlogref01_At.calls _ _ l0 0 t266 _ ?side1 ?side2 A18.out).mono ?_); (case side1 => repeat (first | exact (Kd.C_below HR0.out HB.out) | (with_reducible refine Kd.C_alloc ?_ _) | (with_reducible refine Kd.C_drewN ?_ _) | (with_reducible refine Kd.C_drew ?_))); (case side2 => exact HC0.out); rintro e w' ⟨rfl, ⟨nd, rfl⟩⟩; have q25 : (4 : Int) ≤ ((l0.length : Int) : Int) := of_decide_eq_true (by first | (with_reducible assumption) | assumption); obtain ⟨i025, hi025, _, hsz25, _⟩ := info_parts info5; have hroom25 : l0.length ≤ c0 := HC0.out; have hC25 : Kd.C (Kd.int .u8) _ A0 l0.length l0 := HR0.out; have hcut25 := cut_from (P := Try.prog) 26 5 .i64 Try.underlying26 hi025 1 hsz25 A0 l0.length c0 4 (by omega) q25; have hr25 := Kd.C_drop (m := (4 : Int).toNat) (c := c0) hC25 (by omega) hroom25; obtain ⟨A25, hA25⟩ : ∃ A1, A1 = (if c0 = (4 : Int).toNat then A0 else (A0 : Option Addr).map (·.add ((4 : Int).toNat * 1))) := ⟨_, rfl⟩; obtain ⟨c25, hc25⟩ : ∃ c1, c1 = c0 - (4 : Int).toNat := ⟨_, rfl⟩; have hy25 : y267.length = l0.length - (4 : Int).toNat := (by rw [Ny267.out, List.length_drop] <;> omega); rw [show (l0).drop (4 : Int).toNat = y267 from Ny267.out.symm] at hr25; replace hr25 : Kd.C (Kd.int .u8) _ A25 y267.length y267 := (by rw [hA25]; exact hr25); rw [← hy25, ← hA25, ← hc25] at hcut25; have HR270 := Aside0.mk hr25; have HC270 := Aside0.mk (show y267.length ≤ c25 from by rw [hy25, hc25]; exact Nat.sub_le_sub_right hroom25 _); clear hr25 hC25 hroom25 hi025 hsz25 hc25; have KY25 := Aside0.mk hy25; have KA25 := Aside0.mk hA25; clear hy25 hA25; replace q25 := eq_true q25; obtain ⟨Ao26, co26, eo26⟩ := Kd.R_slice HO258.out; subst eo26) | (go_at_call 11; (with_reducible refine (shardlogref01_Same.calls _ _ t255 _ _ y267 false _ ?side1 ?side2 ?side3 ?side4 A21.out).mono ?_); (case side1 => repeat (first | exact (Kd.R_reads' HO258.out).2.2 | (with_reducible refine Kd.C_alloc ?_ _) | (with_reducible refine Kd.C_drewN ?_ _) | (with_reducible refine Kd.C_drew ?_))); (case side2 => exact (Kd.R_reads' HO258.out).2.1); (case side3 => repeat (first | exact (Kd.C_below HR270.out (by repeat (first | (with_reducible first | exact HB.out | apply below_alloc | apply pw_below_drewN | apply below_drew1) | exact HB.out))) | (with_reducible refine Kd.C_alloc ?_ _) | (with_reducible refine Kd.C_drewN ?_ _) | (with_reducible refine Kd.C_drew ?_))); (case side4 => exact HC270.out); rintro e w' ⟨rfl, ⟨nd, rfl⟩⟩))
                    go_meet
                    case rel => exact ⟨_, (true), (by first | rfl | (simp; done) | (simp [*]; done)), H', ⟨by have := HJ1.out; first | omega | exact Nat.le_refl _⟩, ⟨by (with_reducible repeat (first | apply Kd.Q_alloc | apply Kd.Q_drewN | apply Kd.Q_drew)); exact Kd.Q_mono HO263.out (fun _ hk => trivial)⟩, ⟨by repeat (first | (with_reducible first | exact HB.out | apply below_alloc | apply pw_below_drewN | apply below_drew1) | exact HB.out)⟩⟩
                · rw [if_neg c20] at H
                  exact absurd H (by simp)
              · rw [if_neg c19] at H
                have c19b0 : (t254 == t266) = false := beq_eq_false_iff_ne.mpr c19
                have c19b1 : (t254 != t266) = true := bne_iff_ne.mpr c19
                have H' := Aside0.mk H
                clear H
                go_wp2_with (first | (go_at_call 21; (with_reducible refine (shardlogref01_At.calls _ _ l0 0 t266 _ ?side1 ?side2 A18.out).mono ?_); (case side1 => repeat (first | exact (Kd.C_below HR0.out HB.out) | (with_reducible refine Kd.C_alloc ?_ _) | (with_reducible refine Kd.C_drewN ?_ _) | (with_reducible refine Kd.C_drew ?_))); (case side2 => exact HC0.out); rintro e w' ⟨rfl, ⟨nd, rfl⟩⟩))
                go_meet
                case rel => exact ⟨_, (true), (by first | rfl | (simp; done) | (simp [*]; done)), H', ⟨by have := HJ1.out; first | omega | exact Nat.le_refl _⟩, ⟨by (with_reducible repeat (first | apply Kd.Q_alloc | apply Kd.Q_drewN | apply Kd.Q_drew)); exact Kd.Q_mono HO263.out (fun _ hk => trivial)⟩, ⟨by repeat (first | (with_reducible first | exact HB.out | apply below_alloc | apply pw_below_drewN | apply below_drew1) | exact HB.out)⟩⟩
            · replace c17 := Bool.eq_false_iff.mpr c17
              subst c17
              have H1 : (if t254 = 0 then (shardloglaw01_WireCuts.j1 kj1 l0 t259 t260 t261 t264 t265 (decide ((t255.length : Int) > 0))) else (shardloglaw01_WireCuts.j1 kj1 l0 t259 t260 t261 t264 t265 true)) = some r := by rw [if_neg (show ¬ (false = true) by decide)] at H; exact H
              clear H
              have H := H1
              clear H1
              by_cases c27 : t254 = 0
              · rw [if_pos c27] at H
                have c27b0 : (t254 == 0) = true := beq_iff_eq.mpr c27
                have c27b1 : (t254 != 0) = false := bne_eq_false_iff_eq.mpr c27
                clear c27
                have H' := Aside0.mk H
                clear H
                obtain ⟨Ao28, co28, eo28⟩ := Kd.R_slice HO258.out
                subst eo28
                go_wp2
                go_meet
                case rel => exact ⟨_, (decide ((t255.length : Int) > 0)), (by first | rfl | (simp; done) | (simp [*]; done)), H', ⟨by have := HJ1.out; first | omega | exact Nat.le_refl _⟩, ⟨by (with_reducible repeat (first | apply Kd.Q_alloc | apply Kd.Q_drewN | apply Kd.Q_drew)); exact Kd.Q_mono HO263.out (fun _ hk => trivial)⟩, ⟨by repeat (first | (with_reducible first | exact HB.out | apply below_alloc | apply pw_below_drewN | apply below_drew1) | exact HB.out)⟩⟩
              · rw [if_neg c27] at H
                have c27b0 : (t254 == 0) = false := beq_eq_false_iff_ne.mpr c27
                have c27b1 : (t254 != 0) = true := bne_iff_ne.mpr c27
                have H' := Aside0.mk H
                clear H
                go_wp2
                go_meet
                case rel => exact ⟨_, (true), (by first | rfl | (simp; done) | (simp [*]; done)), H', ⟨by have := HJ1.out; first | omega | exact Nat.le_refl _⟩, ⟨by (with_reducible repeat (first | apply Kd.Q_alloc | apply Kd.Q_drewN | apply Kd.Q_drew)); exact Kd.Q_mono HO263.out (fun _ hk => trivial)⟩, ⟨by repeat (first | (with_reducible first | exact HB.out | apply below_alloc | apply pw_below_drewN | apply below_drew1) | exact HB.out)⟩⟩
        case rest =>
          clear HC13
          try clear c1
          try clear c2
          try clear p2
          try clear q2
          try clear c4
          try clear c7
          try clear c9
          try clear c16
          try clear c16b0
          try clear c16b1
          try clear c16b2
          try clear c17
          try clear c18
          try clear c19
          try clear c19b0
          try clear c19b1
          try clear c20
          try clear c20b0
          try clear c20b1
          try clear c22
          try clear c23
          try clear q23
          try clear c25
          try clear q25
          try clear c27
          try clear c27b0
          try clear c27b1
          try clear p2
          try clear q23
          try clear q25
          obtain ⟨kq, x69_12, rfl, HA, HJ12, HO_7, HB⟩ := hcut
          cases kq with
          | zero => exact absurd HA.out (by simp [shardloglaw01_WireCuts.j1])
          | succ kj12 =>
            have H := HA.out
            clear HA
            simp only [shardloglaw01_WireCuts.j1] at H
            by_cases c29 : x69_12 = true
            · subst c29
              have H1 : (none) = some r := by rw [if_pos rfl] at H; exact H
              clear H
              have H := H1
              clear H1
              exact absurd H (by simp)
            · replace c29 := Bool.eq_false_iff.mpr c29
              subst c29
              have H1 : (if (t261 == (decide (t265 > 0))) = true then (if t259.toList = t264.toList then (if t261 = true then (if 0 ≤ t265 then (if t265 ≤ (l0.length : Int) then ((shardlogref01_Same.f t260 (l0.drop (t265 : Int).toNat)).bind fun t276 => (if t276 = true then (some true) else (none))) else (none)) else (none)) else (some ((t260.length : Int) == 0))) else (none)) else (none)) = some r := by rw [if_neg (show ¬ (false = true) by decide)] at H; exact H
              clear H
              have H := H1
              clear H1
              by_cases c30 : (t261 == (decide (t265 > 0))) = true
              · rw [if_pos c30] at H
                have c30b0 : (t261 == (decide (t265 > 0))) = true := c30
                (try (have c30b1 : decide (t261 = (decide (t265 > 0))) = true := by simpa using c30))
                (try (have c30b2 : (t261 == (decide (t265 > 0))) = true := by simpa using c30))
                clear c30
                by_cases c31 : t259.toList = t264.toList
                · rw [if_pos c31] at H
                  have c31b0 : (t259.toList == t264.toList) = true := beq_iff_eq.mpr c31
                  have c31b1 : (t259.toList != t264.toList) = false := bne_eq_false_iff_eq.mpr c31
                  clear c31
                  by_cases c32 : t261 = true
                  · subst c32
                    have H1 : (if 0 ≤ t265 then (if t265 ≤ (l0.length : Int) then ((shardlogref01_Same.f t260 (l0.drop (t265 : Int).toNat)).bind fun t276 => (if t276 = true then (some true) else (none))) else (none)) else (none)) = some r := by rw [if_pos rfl] at H; exact H
                    clear H
                    have H := H1
                    clear H1
                    by_cases c33 : 0 ≤ t265
                    · rw [if_pos c33] at H
                      have c33b0 := eq_true c33
                      have c33b1 : decide (0 ≤ t265) = true := decide_eq_true c33
                      clear c33
                      by_cases c34 : t265 ≤ (l0.length : Int)
                      · rw [if_pos c34] at H
                        have c34b0 := eq_true c34
                        have c34b1 : decide (t265 ≤ (l0.length : Int)) = true := decide_eq_true c34
                        clear c34
                        obtain ⟨y272, hy272⟩ : ∃ y_ : List Int, y_ = (l0.drop (t265 : Int).toNat) := ⟨_, rfl⟩
                        replace H : ((shardlogref01_Same.f t260 y272).bind fun t276 => (if t276 = true then (some true) else (none))) = some r := by first | (rw [hy272]; with_reducible exact H) | (have H2_ := (Option.bind_some _ _).symm.trans H; rw [hy272]; with_reducible exact H2_) | (have H2_ := (Option.bind_some _ _).symm.trans H; with_reducible exact H2_) | with_reducible exact H | (rw [hy272]; exact H) | exact H
                        have Ny272 := Aside0.mk hy272
                        clear hy272
                        replace H := Option.bind_eq_some_iff.mp H
                        obtain ⟨t276, A350, H⟩ := H
                        replace H : (if t276 = true then (some true) else (none)) = some r := H
                        have A35 := Aside0.mk A350
                        clear A350
                        by_cases c36 : t276 = true
                        · subst c36
                          have H1 : (some true) = some r := by rw [if_pos rfl] at H; exact H
                          clear H
                          have H := H1
                          clear H1
                          obtain rfl := Option.some.inj H
                          have q37 : (t265 : Int) ≤ ((l0.length : Int) : Int) := of_decide_eq_true (by first | (with_reducible assumption) | assumption)
                          obtain ⟨i037, hi037, _, hsz37, _⟩ := info_parts info5
                          have hroom37 : l0.length ≤ c0 := HC0.out
                          have hC37 : Kd.C (Kd.int .u8) _ A0 l0.length l0 := HR0.out
                          have q037 : (0 : Int) ≤ (t265 : Int) := of_decide_eq_true (by first | (with_reducible assumption) | assumption)
                          have hcut37 := cut_from (P := Try.prog) 26 5 .i64 Try.underlying26 hi037 1 hsz37 A0 l0.length c0 t265 q037 q37
                          have hr37 := Kd.C_drop (m := (t265 : Int).toNat) (c := c0) hC37 (by omega) hroom37
                          obtain ⟨A37, hA37⟩ : ∃ A1, A1 = (if c0 = (t265 : Int).toNat then A0 else (A0 : Option Addr).map (·.add ((t265 : Int).toNat * 1))) := ⟨_, rfl⟩
                          obtain ⟨c37, hc37⟩ : ∃ c1, c1 = c0 - (t265 : Int).toNat := ⟨_, rfl⟩
                          have hy37 : y272.length = l0.length - (t265 : Int).toNat := (by rw [Ny272.out, List.length_drop] <;> omega)
                          rw [show (l0).drop (t265 : Int).toNat = y272 from Ny272.out.symm] at hr37
                          replace hr37 : Kd.C (Kd.int .u8) _ A37 y272.length y272 := (by rw [hA37]; exact hr37)
                          rw [← hy37, ← hA37, ← hc37] at hcut37
                          have HR275 := Aside0.mk hr37
                          have HC275 := Aside0.mk (show y272.length ≤ c37 from by rw [hy37, hc37]; exact Nat.sub_le_sub_right hroom37 _)
                          clear hr37 hC37 hroom37 hi037 hsz37 hc37
                          have KY37 := Aside0.mk hy37
                          have KA37 := Aside0.mk hA37
                          clear hy37 hA37
                          replace q37 := eq_true q37
                          obtain ⟨Ao38, co38, eo38, _⟩ := Kd.Q_slice HO_7.out
                          subst eo38
                          go_wp2_with (first | (go_at_call 11; (with_reducible refine (shardlogref01_Same.calls _ _ t260 _ _ y272 true _ ?side1 ?side2 ?side3 ?side4 A35.out).mono ?_); (case side1 => repeat (first | exact (Kd.Q_reads' HO_7.out).2.2 | (with_reducible refine Kd.C_alloc ?_ _) | (with_reducible refine Kd.C_drewN ?_ _) | (with_reducible refine Kd.C_drew ?_))); (case side2 => exact (Kd.Q_reads' HO_7.out).2.1); (case side3 => repeat (first | exact (Kd.C_below HR275.out HB.out) | (with_reducible refine Kd.C_alloc ?_ _) | (with_reducible refine Kd.C_drewN ?_ _) | (with_reducible refine Kd.C_drew ?_))); (case side4 => exact HC275.out); rintro e w' ⟨rfl, ⟨nd, rfl⟩⟩))
                          go_ret
                          exact ⟨by first | rfl | (simp [errW_none, errW_some] <;> rfl) | (simp [*, errW_none, errW_some] <;> rfl), by repeat (first | (with_reducible first | exact HB.out | apply below_alloc | apply pw_below_drewN | apply below_drew1) | exact HB.out)⟩
                        · replace c36 := Bool.eq_false_iff.mpr c36
                          subst c36
                          have H1 : (none) = some r := by rw [if_neg (show ¬ (false = true) by decide)] at H; exact H
                          clear H
                          have H := H1
                          clear H1
                          exact absurd H (by simp)
                      · rw [if_neg c34] at H
                        exact absurd H (by simp)
                    · rw [if_neg c33] at H
                      exact absurd H (by simp)
                  · replace c32 := Bool.eq_false_iff.mpr c32
                    subst c32
                    have H1 : (some ((t260.length : Int) == 0)) = some r := by rw [if_neg (show ¬ (false = true) by decide)] at H; exact H
                    clear H
                    have H := H1
                    clear H1
                    obtain rfl := Option.some.inj H
                    obtain ⟨Ao39, co39, eo39, _⟩ := Kd.Q_slice HO_7.out
                    subst eo39
                    go_wp2
                    go_ret
                    exact ⟨by first | rfl | (simp [errW_none, errW_some] <;> rfl) | (simp [*, errW_none, errW_some] <;> rfl), by repeat (first | (with_reducible first | exact HB.out | apply below_alloc | apply pw_below_drewN | apply below_drew1) | exact HB.out)⟩
                · rw [if_neg c31] at H
                  exact absurd H (by simp)
              · rw [if_neg c30] at H
                exact absurd H (by simp)

/-- THE ONE PURE STATEMENT of shardloglaw01_WireCuts. -/
def shardloglaw01_WireCuts.Pure : Prop := ∀ (l0 : List Int), (l0.length ≤ maxLen ∧ l0.length * 1 ≤ 140737488351232 ∧ ∀ y0_ ∈ l0, (Lit.int .u8 y0_).wf = true) → ∃ k, shardloglaw01_WireCuts.f k l0 = some true
theorem shardloglaw01_WireCuts.walk (P : shardloglaw01_WireCuts.Pure) (A0 : Option Addr) (c0 : Nat) (l0 : List Int) (w : World) (wf0 : (l0.length ≤ maxLen ∧ l0.length * 1 ≤ 140737488351232 ∧ ∀ y0_ ∈ l0, (Lit.int .u8 y0_).wf = true)) (hr0 : Kd.C (Kd.int .u8) w A0 l0.length l0) (hc0 : l0.length ≤ c0) :
    Calls Try.prog 4 #[.slice A0 l0.length c0] w fun e w' => e = .returned (.bool true) ∧ Below w.heap.size w w' := by
  obtain ⟨k, h⟩ := P l0 wf0
  refine (shardloglaw01_WireCuts.calls k A0 c0 l0 true w hr0 hc0 h).mono ?_
  rintro e w' ⟨rfl, hd⟩
  exact ⟨rfl, hd⟩

end Go.Proofs.Ythoiimhokkfeaaa.X
