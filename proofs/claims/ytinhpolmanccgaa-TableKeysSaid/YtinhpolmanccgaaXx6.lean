-- written by a program of this session's, over the kit's print
import Derived.Test.YtinhpolmanccgaaXx0
import Derived.Test.YtinhpolmanccgaaXx4
import Derived.Test.YtinhpolmanccgaaXx5
namespace Go.Proofs.Ytinhpolmanccgaa.X
open Go.RowKit Go.Proofs.YtinhpolmanccgaaW.PrintWords Go.Proofs.YtinhpolmanccgaaW.PrintLast Go.Proofs.YtinhpolmanccgaaW.PrintMore
attribute [local go_sem] max2_int min2_int max_two min_two max_three min_three max_four min_four gtr_str   -- for this text's walks alone
set_option linter.unusedVariables false
set_option linter.unusedSimpArgs false

/-! ### table_filter: function 31 -/
def table_filter.l0 : Nat → List ByteArray → List (S42) → Int → Int → Option (List Int)
 | 0, _, _, _, _ => none
 | k + 1, x3, x6, x7, x8 => if x8 < x7 then (if 0 ≤ x8 then (if x8 < (x6.length : Int) then ((table_text.f ((rd_T42 x6 x8).f0) ((rd_T42 x6 x8).f1)).bind fun t294 => (if x3.length < 8796093022208 then (table_filter.l0 k (x3 ++ [t294]) x6 x7 (wrap64 (x8 + 1))) else (none))) else (none)) else (none)) else ((bloom_Make.f k x3).bind fun t298 => (some t298))
def table_filter.f (k : Nat) (l0 : List (S42)) : Option (List Int) := table_filter.l0 k ([] : List ByteArray) l0 (l0.length : Int) 0
theorem table_filter.mono_l : ∀ k, (∀ y0 y1 y2 y3, LeO (table_filter.l0 k y0 y1 y2 y3) (table_filter.l0 (k + 1) y0 y1 y2 y3))
 | 0 => fun _ _ _ _ r h => by simp [table_filter.l0] at h
 | k + 1 => by
  have ih0 := table_filter.mono_l k
  ·
   intro y0 y1 y2 y3
   unfold table_filter.l0
   have m0 := @bloom_Make.mono; exact lmo
theorem table_filter.mono : ∀ a0 k, LeO (table_filter.f k a0) (table_filter.f (k + 1) a0) := by
 intro a0 k
 have ih0 := table_filter.mono_l k
 unfold table_filter.f
 have m0 := @bloom_Make.mono; exact lmo
set_option maxHeartbeats 8000000 in
set_option maxRecDepth 100000 in
theorem table_filter.calls (k : Nat) (A0 : Option Addr) (c0 : Nat) (l0 : List (S42)) (r : List Int) (w : World) (hr0 : Kd.C k42 w A0 l0.length l0) (hc0 : l0.length ≤ c0) (h : table_filter.f k l0 = some r) :
  Calls Try.prog 31 #[.slice A0 l0.length c0] w fun e w' => ∃ v0_ : Value, e = .returned (v0_) ∧ Kd.R (Kd.int .u8) 5 w' w.heap.size (fun _ => True) v0_ r ∧ Below w.heap.size w w' := by
 have hu42 := Try.underlying42; have HR0 := aS hr0; have HC0 := aS hc0; clear hr0 hc0; have HB := aS (Below.refl w.heap.size w); have H : (table_filter.l0 k ([] : List ByteArray) l0 (l0.length : Int) 0) = some r := h; clear h
 have H' := aS H
 clear H
 go_enter Try.func31, Try.ntmps31
 go_wp2
 go_loopg [3, 8] k (fun kq v3 v8 w' => ∃ (x3_1 : List ByteArray) (x8_1 : Int), v8 = .int .i64 x8_1 ∧ Aside0 (table_filter.l0 kq x3_1 l0 (l0.length : Int) x8_1 = some r) ∧ Aside0 (kq ≤ k) ∧ Aside0 (Kd.R Kd.string 9 w' w.heap.size (fun _ => True) v3 x3_1) ∧ Aside0 (Below w.heap.size w w'))
 case atStart => exact ⟨(([] : List ByteArray)), (0), srf, H', ⟨Nat.le_refl _⟩, ⟨by first | exact Kd.R_nil _ _ _ _ _ | exact Kd.N_nil _ _ _ _ _ | exact Kd.V_nil _ _ _ _ _ | exact Kd.Q_nil _ _ _ _ _ | exact Kd.S_nil _ _ _ _ _⟩, ⟨bel⟩⟩
 case round =>
  clear H'; obtain ⟨x3_1, x8_1, rfl, HA, HK1, HO_3, HB⟩ := hrel
  cases gk with
  | zero => exact absurd HA.out (by simp [table_filter.l0])
  | succ k1 =>
   have H := HA.out; clear HA
   simp only [table_filter.l0] at H
   by_cases c2 : x8_1 < (l0.length : Int)
   ·
    rw [if_pos c2] at H; have c2b0 : decide (x8_1 < (l0.length : Int)) = true := decide_eq_true c2; clear c2
    by_cases c3 : 0 ≤ x8_1
    ·
     rw [if_pos c3] at H; have c3b0 : decide (0 ≤ x8_1) = true := decide_eq_true c3; clear c3
     by_cases c4 : x8_1 < (l0.length : Int)
     ·
      rw [if_pos c4] at H; have c4b0 : decide (x8_1 < (l0.length : Int)) = true := decide_eq_true c4; clear c4; replace H := obm H; obtain ⟨t294, A50, H⟩ := H; have A5 := aS A50; clear A50
      by_cases c6 : x3_1.length < 8796093022208
      ·
       rw [if_pos c6] at H; have LMc6 := aS c6; clear c6
       obtain ⟨y295, hy295⟩ : ∃ y_ : List ByteArray, y_ = (x3_1 ++ [t294]) := ⟨_, rfl⟩
       (first | replace H := hyn hy295 H | rw [← hy295] at H); have Ny295 := aS hy295; clear hy295
       have H' := aS H
       clear H; have p292 : 0 ≤ (x8_1 : Int) := oda; have q292 : x8_1 < (l0.length : Int) := oda; obtain ⟨ad292, e292, hx292_0, hx292_1, hx292_2, hx292_3, hx292_4⟩ := at_T42 HR0.out x8_1 p292 q292; cases e292; replace hx292_0 := bx bel hx292_0; replace hx292_1 := bx bel hx292_1; replace hx292_2 := bx bel hx292_2; replace hx292_3 := bx bel hx292_3; replace hx292_4 := bx bel hx292_4; replace p292 := eq_true p292; replace q292 := eq_true q292
       go_wp2_with (first | ((with_reducible refine gate_dst (N := 5) rfl ?_); refine box_event ?hg (N := 5) ?hd (cs := #[.string (⟨#[]⟩ : ByteArray), .string (⟨#[]⟩ : ByteArray), .int .i64 0, .string (⟨#[]⟩ : ByteArray), .bool false]) (t := 42) ?hr ?_; (case hd => rfl); (case hg => rfl); (case hr => first | (go_simp; done) | (go_simp; rfl)); intro gb293 hg w7 hbox hb; replace HO_3 := aS (Kd.R_below (rel HO_3.out) hb); have BK293 := aS (hbox); have GW293 := bsize hg; have GE293 := bsize hg; replace HB := bstep hb; clear hb hbox hg; have hcz8 := cK5 BK293) | ((with_reducible refine gate_callee (f := 49) rfl ?_); refine goesL_ (some 17) rfl rfl Try.func49 (by kernel_rfl) rfl #[.string ((rd_T42 l0 x8_1).f0), .string ((rd_T42 l0 x8_1).f1)] rfl agn ?_; (with_reducible refine (table_text.calls ((rd_T42 l0 x8_1).f0) ((rd_T42 l0 x8_1).f1) t294 _ A5.out).mono ?_); rintro e w9 ⟨rfl, hb⟩; refine ⟨_, rfl, ?_⟩; replace HO_3 := aS (Kd.R_below (by (with_reducible repeat (first | apply Kd.R_alloc | apply Kd.R_drewN | apply Kd.R_drew)); exact (Kd.R_mono (Kd.R_far (p := ⟨gb293, 4, none⟩) (Kd.R_far (p := ⟨gb293, 3, none⟩) (Kd.R_far (p := ⟨gb293, 2, none⟩) (Kd.R_far (p := ⟨gb293, 1, none⟩) (Kd.R_far (p := ⟨gb293, 0, none⟩) (Kd.R_types HO_3.out BK293.out (by decide)) (fun _ hk => hk.2) (.string ((rd_T42 l0 x8_1).f0))) (fun _ hk => hk.2) (.string ((rd_T42 l0 x8_1).f1))) (fun _ hk => hk.2) (.int .i64 ((rd_T42 l0 x8_1).f2))) (fun _ hk => hk.2) (.string ((rd_T42 l0 x8_1).f3))) (fun _ hk => hk.2) (.bool ((rd_T42 l0 x8_1).f4))) (fun _ h_ => h_.1))) hb); replace BK293 := aS (blk_below (g := gb293) (o := .cells #[.string ((rd_T42 l0 x8_1).f0), .string ((rd_T42 l0 x8_1).f1), .int .i64 ((rd_T42 l0 x8_1).f2), .string ((rd_T42 l0 x8_1).f3), .bool ((rd_T42 l0 x8_1).f4)] 42 (0, 0)) (by (with_reducible repeat (first | refine blk_drewN ?_ _ | refine blk_drew ?_ | refine blk_alloc ?_ _)); refine blk_put (cs := #[.string ((rd_T42 l0 x8_1).f0), .string ((rd_T42 l0 x8_1).f1), .int .i64 ((rd_T42 l0 x8_1).f2), .string ((rd_T42 l0 x8_1).f3), .bool false]) ?_ 4 _ rfl; (with_reducible repeat (first | refine blk_drewN ?_ _ | refine blk_drew ?_ | refine blk_alloc ?_ _)); refine blk_put (cs := #[.string ((rd_T42 l0 x8_1).f0), .string ((rd_T42 l0 x8_1).f1), .int .i64 ((rd_T42 l0 x8_1).f2), .string (⟨#[]⟩ : ByteArray), .bool false]) ?_ 3 _ rfl; (with_reducible repeat (first | refine blk_drewN ?_ _ | refine blk_drew ?_ | refine blk_alloc ?_ _)); refine blk_put (cs := #[.string ((rd_T42 l0 x8_1).f0), .string ((rd_T42 l0 x8_1).f1), .int .i64 0, .string (⟨#[]⟩ : ByteArray), .bool false]) ?_ 2 _ rfl; (with_reducible repeat (first | refine blk_drewN ?_ _ | refine blk_drew ?_ | refine blk_alloc ?_ _)); refine blk_put (cs := #[.string ((rd_T42 l0 x8_1).f0), .string (⟨#[]⟩ : ByteArray), .int .i64 0, .string (⟨#[]⟩ : ByteArray), .bool false]) ?_ 1 _ rfl; (with_reducible repeat (first | refine blk_drewN ?_ _ | refine blk_drew ?_ | refine blk_alloc ?_ _)); refine blk_put (cs := #[.string (⟨#[]⟩ : ByteArray), .string (⟨#[]⟩ : ByteArray), .int .i64 0, .string (⟨#[]⟩ : ByteArray), .bool false]) ?_ 0 _ rfl; (with_reducible repeat (first | refine blk_drewN ?_ _ | refine blk_drew ?_ | refine blk_alloc ?_ _)); exact BK293.out) hb); replace HB := bstep hb; (try clear hb); (try clear hk); (try clear hi)) | ((with_reducible refine gate_builtin (b := .append) (xs := #[.tmp 12, .tmp 18]) rfl ?_); at_builtin; refine Kd.R_append Kd.string (w0 := w) w.heap.size rfl (.tmp 12) (.tmp 18) 51 9 (.string ⟨#[]⟩) 16 rfl Try.underlying51 info9 rfl (by decide) (by omega) u3 x3_1 t294 [.string t294] (fun _ => True) (fun _ => False) rfl rfl ?aP (fun _ hk => hk.elim) ?aF ?aO ?aB ?aS ?aL ?_; (case aP => exact rfl); (case aB => exact bel); (case aF => exact (fun _ _ => trivial)); (case aO => exact (rel HO_3.out)); (case aS => exact (below_size bel)); (case aL => have := LMc6.out; omega); intro v296 w10 ho hb hg hat; rw [← Ny295.out] at ho; have n0_ := aS (blk_grown (g := gb293) (o := .cells #[.string ((rd_T42 l0 x8_1).f0), .string ((rd_T42 l0 x8_1).f1), .int .i64 ((rd_T42 l0 x8_1).f2), .string ((rd_T42 l0 x8_1).f3), .bool ((rd_T42 l0 x8_1).f4)] 42 (0, 0)) (bkl BK293.out) hg (Kd.R_ne HO_3.out BK293.out (by decide))); have n1_ := aS (hb); have n2_ := aS (ho); clear BK293; clear HB; clear HO_3; have BK293 := n0_; have HB := n1_; have HO297 := n2_; clear n0_ n1_ n2_; clear ho hb hg hat))
       go_roundg k1
       case measure => have := HK1.out; omega
       case rel => exact ⟨(y295), (wrap64 (x8_1 + 1)), srf, H', ⟨by have := HK1.out; omega⟩, ⟨by (with_reducible repeat (first | apply Kd.R_alloc | apply Kd.R_drewN | apply Kd.R_drew)); exact HO297.out⟩, ⟨bel⟩⟩
      ·
       rw [if_neg c6] at H; exact absurd H (by simp)
     ·
      rw [if_neg c4] at H; exact absurd H (by simp)
    ·
     rw [if_neg c3] at H; exact absurd H (by simp)
   ·
    rw [if_neg c2] at H; have c2b0 : decide (x8_1 < (l0.length : Int)) = false := decide_eq_false c2; clear c2; replace H := obm H; obtain ⟨t298, A110, H⟩ := H; have A11 := aS A110; clear A110
    obtain rfl := Option.some.inj H
    obtain ⟨Ao12, co12, eo12⟩ := Kd.R_slice HO_3.out; subst eo12
    go_wp2_with (first | ((with_reducible refine gate_callee (f := 55) rfl ?_); refine goesL_ (some 22) rfl rfl Try.func55 (by kernel_rfl) rfl #[.slice Ao12 x3_1.length co12] rfl agn ?_; (with_reducible refine (bloom_Make.calls k1 _ _ x3_1 t298 _ ?side1 ?side2 A11.out).mono ?_); (case side1 => exact cel ((Kd.R_reads' HO_3.out).2.2)); (case side2 => exact (Kd.R_reads' HO_3.out).2.1); rintro e w13 ⟨v299, rfl, ho0, hb⟩; refine ⟨_, rfl, ?_⟩; replace HO_3 := aS (Kd.R_below (rel HO_3.out) hb); have HO300 := aS (Kd.R_lower ho0 (below_size bel)); replace HB := bstep hb; (try clear hb); (try clear hk); (try clear hi); (try clear ho0)))
    go_ret
    exact ⟨_, rf3, by (with_reducible repeat (first | apply Kd.R_alloc | apply Kd.R_drewN | apply Kd.R_drew)); exact HO300.out, bel⟩

/-! ### table_Build: function 12 -/
def table_Build.f (k : Nat) (l0 : List (S42)) (a1 : Int) : Option (List Int × Int) := (block_Cut.f k l0 a1).bind fun bt301 => (if bt301.2 = 0 then ((table_filter.f k l0).bind fun t305 => ((table_bytes.f k bt301.1 t305).bind fun bt308 => (some (bt308.1, bt308.2)))) else (some (([] : List Int), bt301.2)))
theorem table_Build.mono : ∀ a0 a1 k, LeO (table_Build.f k a0 a1) (table_Build.f (k + 1) a0 a1) := by
 intro a0 a1 k
 unfold table_Build.f
 have m0 := @block_Cut.mono; have m1 := @table_bytes.mono; have m2 := @table_filter.mono; exact lmo
set_option maxHeartbeats 8000000 in
set_option maxRecDepth 100000 in
theorem table_Build.calls (k : Nat) (A0 : Option Addr) (c0 : Nat) (l0 : List (S42)) (a1 : Int) (r1 : List Int) (r2 : Int) (w : World) (hr0 : Kd.C k42 w A0 l0.length l0) (hc0 : l0.length ≤ c0) (h : table_Build.f k l0 a1 = some (r1, r2)) :
  Calls Try.prog 12 #[.slice A0 l0.length c0, .int .i64 a1] w fun e w' => ∃ v0_ : Value, e = .returned (.tuple #[v0_, .int .i64 r2]) ∧ Kd.R (Kd.int .u8) 5 w' w.heap.size (fun _ => True) v0_ r1 ∧ Below w.heap.size w w' := by
 have HR0 := aS hr0; have HC0 := aS hc0; clear hr0 hc0; have HB := aS (Below.refl w.heap.size w); have H : ((block_Cut.f k l0 a1).bind fun bt301 => (if bt301.2 = 0 then ((table_filter.f k l0).bind fun t305 => ((table_bytes.f k bt301.1 t305).bind fun bt308 => (some (bt308.1, bt308.2)))) else (some (([] : List Int), bt301.2)))) = some (r1, r2) := h; clear h; replace H := obm H; obtain ⟨⟨t301, t304⟩, A30, H⟩ := H; (try dsimp only at H); have A3 := aS A30; clear A30
 by_cases c4 : t304 = 0
 ·
  rw [if_pos c4] at H; obtain ⟨c4b0, c4b1⟩ := eqT c4; clear c4; replace H := obm H; obtain ⟨t305, A50, H⟩ := H; have A5 := aS A50; clear A50; replace H := obm H; obtain ⟨⟨t308, t309⟩, A60, H⟩ := H; (try dsimp only at H); have A6 := aS A60; clear A60
  simp only [Option.some.injEq, Prod.mk.injEq] at H
  obtain ⟨rfl, rfl⟩ := H
  go_enter Try.func12, Try.ntmps12
  go_wp2_with (first | ((with_reducible refine gate_callee (f := 29) rfl ?_); refine goesL_ (some 11) rfl rfl Try.func29 (by kernel_rfl) rfl #[.slice A0 l0.length c0, .int .i64 a1] rfl agn ?_; (with_reducible refine (block_Cut.calls k (fun k_ => k_ < w.heap.size) _ _ l0 a1 t301 t304 _ ?side1 A3.out).mono ?_); (case side1 => exact Kd.V_mk HC0.out (Kd.F_below (Kd.C_F k42_heap HR0.out) bel)); rintro e w7 ⟨v302, rfl, ho0, hb⟩; refine ⟨_, rfl, ?_⟩; have HO303 := aS (Kd.S_lower (Kd.S_mono (ok' := fun k_ => True) ho0 (fun _ hk_ => trivial)) (below_size bel)); replace HB := bstep hb; (try clear hb); (try clear hk); (try clear hi); (try clear ho0)) | ((with_reducible refine gate_callee (f := 31) rfl ?_); refine goesL_ (some 19) rfl rfl Try.func31 (by kernel_rfl) rfl #[.slice A0 l0.length c0] rfl agn ?_; (with_reducible refine (table_filter.calls k _ _ l0 t305 _ ?side1 ?side2 A5.out).mono ?_); (case side1 => exact cel (Kd.C_below HR0.out HB.out)); (case side2 => exact HC0.out); rintro e w8 ⟨v306, rfl, ho0, hb⟩; refine ⟨_, rfl, ?_⟩; replace HO303 := aS (Kd.S_below (by (with_reducible repeat (first | apply Kd.S_alloc | apply Kd.S_drewN | apply Kd.S_drew)); exact HO303.out) hb); have HO307 := aS (Kd.R_lower ho0 (below_size bel)); replace HB := bstep hb; (try clear hb); (try clear hk); (try clear hi); (try clear ho0); obtain ⟨Ao9, co9, eo9⟩ := Kd.S_slice HO303.out; subst eo9; obtain ⟨Ao10, co10, eo10⟩ := Kd.R_slice HO307.out; subst eo10) | ((with_reducible refine gate_callee (f := 30) rfl ?_); refine goesL_ (some 20) rfl rfl Try.func30 (by kernel_rfl) rfl #[.slice Ao9 t301.length co9, .slice Ao10 t305.length co10] rfl agn ?_; (with_reducible refine (table_bytes.calls k _ _ t301 _ _ t305 t308 t309 _ ?side1 ?side2 ?side3 ?side4 A6.out).mono ?_); (case side1 => exact cel ((Kd.S_reads' HO303.out).2.2)); (case side2 => exact (Kd.S_reads' HO303.out).2.1); (case side3 => exact cel ((Kd.R_reads' HO307.out).2.2)); (case side4 => exact (Kd.R_reads' HO307.out).2.1); rintro e w11 ⟨v310, rfl, ho0, hb⟩; refine ⟨_, rfl, ?_⟩; replace HO303 := aS (Kd.S_below (by (with_reducible repeat (first | apply Kd.S_alloc | apply Kd.S_drewN | apply Kd.S_drew)); exact HO303.out) hb); have HO311 := aS (Kd.R_lower (Kd.R_new' ho0 (Kd.R_lt (rel HO307.out))) (below_size bel)); replace HO307 := aS (Kd.R_elder' (rel HO307.out) (ebs ho0) hb); replace HB := bstep hb; (try clear hb); (try clear hk); (try clear hi); (try clear ho0)))
  go_ret2
  exact ⟨_, rf3, by (with_reducible repeat (first | apply Kd.R_alloc | apply Kd.R_drewN | apply Kd.R_drew)); exact Kd.R_mono HO311.out (fun _ hk => trivial), bel⟩
 ·
  rw [if_neg c4] at H; obtain ⟨c4b0, c4b1⟩ := eqF c4
  simp only [Option.some.injEq, Prod.mk.injEq] at H
  obtain ⟨rfl, rfl⟩ := H
  go_enter Try.func12, Try.ntmps12
  go_wp2_with (first | ((with_reducible refine gate_callee (f := 29) rfl ?_); refine goesL_ (some 11) rfl rfl Try.func29 (by kernel_rfl) rfl #[.slice A0 l0.length c0, .int .i64 a1] rfl agn ?_; (with_reducible refine (block_Cut.calls k (fun k_ => k_ < w.heap.size) _ _ l0 a1 t301 t304 _ ?side1 A3.out).mono ?_); (case side1 => exact Kd.V_mk HC0.out (Kd.F_below (Kd.C_F k42_heap HR0.out) bel)); rintro e w12 ⟨v302, rfl, ho0, hb⟩; refine ⟨_, rfl, ?_⟩; have HO303 := aS (Kd.S_lower (Kd.S_mono (ok' := fun k_ => True) ho0 (fun _ hk_ => trivial)) (below_size bel)); replace HB := bstep hb; (try clear hb); (try clear hk); (try clear hi); (try clear ho0)))
  go_ret2
  exact ⟨_, rf3, by first | exact Kd.R_nil _ _ _ _ _ | exact Kd.N_nil _ _ _ _ _ | exact Kd.V_nil _ _ _ _ _ | exact Kd.Q_nil _ _ _ _ _ | exact Kd.S_nil _ _ _ _ _, bel⟩

/-! ### slices_Clone_byte_byte: function 58 -/
def slices_Clone_byte_byte.f (l0 : List Int) : Option (List Int) := if l0.length * 1 ≤ 140737488355328 then some l0 else none
theorem slices_Clone_byte_byte.calls (A0 : Option Addr) (c0 : Nat) (l0 r : List Int) (w : World) (hr0 : Kd.C (Kd.int .u8) w A0 l0.length l0) (hc0 : l0.length ≤ c0) (h : slices_Clone_byte_byte.f l0 = some r) :
  Calls Try.prog 58 #[.slice A0 l0.length c0] w fun e w' => ∃ v0_ : Value, e = .returned (v0_) ∧ Kd.R (Kd.int .u8) 5 w' w.heap.size (fun _ => True) v0_ r ∧ Below w.heap.size w w' := by
 unfold slices_Clone_byte_byte.f at h
 split at h
 ·
  rename_i hlim
  obtain rfl := Option.some.inj h
  clear h; have HL := aS hlim; clear hlim; have HR := aS hr0; clear hr0; have HC := aS hc0; clear hc0
  cases A0 with
  | none =>
   have hl : l0 = [] := by
    rcases Nat.eq_zero_or_pos l0.length with h0 | h0
    ·
     exact List.eq_nil_of_length_eq_zero h0
    ·
     obtain ⟨ad, h, _⟩ := HR.out.2.2 h0; cases h
   subst hl
   have hq := fun (w : World) (n c n' c' : Nat) => Lib.run_eql_slice_nil (P := Try.prog) w 26 5 none n c n' c' Try.underlying26
   go_enter Try.func58, Try.ntmps58
   go_wp2
   go_ret
   exact ⟨_, rfl, Kd.R_nil _ _ _ _ _, Below.refl _ _⟩
  | some ad =>
   have hq := fun (w : World) (n c n' c' : Nat) => Lib.run_eql_slice_nil (P := Try.prog) w 26 5 (some ad) n c n' c' Try.underlying26
   go_enter Try.func58, Try.ntmps58
   go_wp2_with (first
    | ((with_reducible refine gate_dst (N := 5) rfl ?_); refine Kd.R_lit (Kd.int .u8) _ 5 ?hg (N := 5) ?hd (xs := []) (inner := []) (ok := fun _ => True) (okp := fun _ => True) ?hr ?hp (fun _ hk => hk) trivial (Below.refl _ _) (Nat.le_refl _) (by simp) ?_; (case hd => rfl); (case hg => rfl); (case hr => first | (go_simp; done) | (go_simp; rfl)); (case hp => exact Reps.none _ _); intro v1 w1 ho hb hg_ hnew_; clear hg_ hnew_; have HO := aS ho; have HB := aS hb; clear ho hb)
    | (at_builtin; refine Kd.R_append_rows (Kd.int .u8) (Rr := ((Kd.int .u8)).K w) (w0 := w) w.heap.size rfl (.tmp 5) _ 26 5 _ _ rfl Try.underlying26 info5 rfl (by decide) (by decide) v1 [] l0 (some ad) l0.length c0 (fun _ => True) (fun _ => False) rfl rfl HO.out (HR.out.imp_ HB.out (fun _ _ hp => hp)) (fun _ _ hp => hp) (fun _ hk => hk.elim) (fun _ _ => trivial) HB.out HB.out.size (by have := HL.out; simp; omega) ?_; intro v2 w2 ho hb hg hat; clear hg hat; have HO2 := aS ho; have HB2 := aS hb; clear ho hb))
   go_ret
   exact ⟨_, rfl, HO2.out, HB2.out⟩
 ·
  cases h

/-! ### wire_CutNum: function 38 -/
def wire_CutNum.l0 : Nat → List Int → Int → List Int → Int → Int → Option (Int × List Int × Bool)
 | 0, _, _, _, _, _ => none
 | k + 1, x0, x5, x12, x13, x14 => if x14 < x13 then (if 0 ≤ x14 then (if x14 < (x12.length : Int) then (wire_CutNum.l0 k x0 (Go.bits .or .i64 (wrap64 (x5 * 256)) (wrap64 (rd x12 x14))) x12 x13 (wrap64 (x14 + 1))) else (none)) else (none)) else (if 4 ≤ (x0.length : Int) then ((slices_Clone_byte_byte.f (x0.drop 4)).bind fun t321 => (some (x5, t321, true))) else (none))
def wire_CutNum.f (k : Nat) (l0 : List Int) : Option (Int × List Int × Bool) := if (l0.length : Int) < 4 then (some (0, ([] : List Int), false)) else (if 4 ≤ (l0.length : Int) then ((some (l0.take 4 : List Int)).bind fun y312 => (wire_CutNum.l0 k l0 0 y312 (y312.length : Int) 0)) else (none))
theorem wire_CutNum.mono_l : ∀ k, (∀ y0 y1 y2 y3 y4, LeO (wire_CutNum.l0 k y0 y1 y2 y3 y4) (wire_CutNum.l0 (k + 1) y0 y1 y2 y3 y4))
 | 0 => fun _ _ _ _ _ r h => by simp [wire_CutNum.l0] at h
 | k + 1 => by
  have ih0 := wire_CutNum.mono_l k
  ·
   intro y0 y1 y2 y3 y4
   unfold wire_CutNum.l0
   exact lmo
theorem wire_CutNum.mono : ∀ a0 k, LeO (wire_CutNum.f k a0) (wire_CutNum.f (k + 1) a0) := by
 intro a0 k
 have ih0 := wire_CutNum.mono_l k
 unfold wire_CutNum.f
 exact lmo
set_option maxHeartbeats 8000000 in
set_option maxRecDepth 100000 in
theorem wire_CutNum.calls (k : Nat) (A0 : Option Addr) (c0 : Nat) (l0 : List Int) (r1 : Int) (r2 : List Int) (r3 : Bool) (w : World) (hr0 : Kd.C (Kd.int .u8) w A0 l0.length l0) (hc0 : l0.length ≤ c0) (h : wire_CutNum.f k l0 = some (r1, r2, r3)) :
  Calls Try.prog 38 #[.slice A0 l0.length c0] w fun e w' => ∃ v1_ : Value, e = .returned (.tuple #[.int .i64 r1, v1_, .bool r3]) ∧ Kd.R (Kd.int .u8) 5 w' w.heap.size (fun _ => True) v1_ r2 ∧ Below w.heap.size w w' := by
 have HR0 := aS hr0; have HC0 := aS hc0; clear hr0 hc0; have HB := aS (Below.refl w.heap.size w); have H : (if (l0.length : Int) < 4 then (some (0, ([] : List Int), false)) else (if 4 ≤ (l0.length : Int) then ((some (l0.take 4 : List Int)).bind fun y312 => (wire_CutNum.l0 k l0 0 y312 (y312.length : Int) 0)) else (none))) = some (r1, r2, r3) := h; clear h
 by_cases c2 : (l0.length : Int) < 4
 ·
  rw [if_pos c2] at H; have c2b0 : decide ((l0.length : Int) < 4) = true := decide_eq_true c2; have c2b1 : decide (l0.length < 4) = true := decide_eq_true (by omega); clear c2
  simp only [Option.some.injEq, Prod.mk.injEq] at H
  obtain ⟨rfl, rfl, rfl⟩ := H
  go_enter Try.func38, Try.ntmps38
  go_wp2
  go_ret3
  exact ⟨_, rf3, by first | exact Kd.R_nil _ _ _ _ _ | exact Kd.N_nil _ _ _ _ _ | exact Kd.V_nil _ _ _ _ _ | exact Kd.Q_nil _ _ _ _ _ | exact Kd.S_nil _ _ _ _ _, bel⟩
 ·
  rw [if_neg c2] at H; have c2b0 : decide ((l0.length : Int) < 4) = false := decide_eq_false c2; have c2b1 : decide (l0.length < 4) = false := decide_eq_false (by omega); clear c2
  by_cases c3 : 4 ≤ (l0.length : Int)
  ·
   rw [if_pos c3] at H; have c3b0 := eq_true c3; have c3b1 : decide (4 ≤ (l0.length : Int)) = true := decide_eq_true c3; clear c3
   obtain ⟨y312, hy312⟩ : ∃ y_ : List Int, y_ = (l0.take 4) := ⟨_, rfl⟩
   (first | replace H := hyn hy312 H | rw [← hy312] at H); have Ny312 := aS hy312; clear hy312
   have H' := aS H
   clear H; have q4 : (4 : Int) ≤ ((l0.length : Int) : Int) := oda; obtain ⟨i04, hi04, _, hsz4, _⟩ := info_parts info5; have hroom4 : l0.length ≤ c0 := HC0.out; have hC4 : Kd.C (Kd.int .u8) _ A0 l0.length l0 := HR0.out; have hcut4 := cut_to (P := Try.prog) 26 5 .i64 Try.underlying26 hi04 A0 l0.length c0 4 (by omega) q4 hroom4; have hr4 := Kd.C_take (m := 4) hC4 (by omega); have hy4 : y312.length = (4 : Int).toNat := (by rw [Ny312.out, llt]; omega); rw [← Ny312.out] at hr4; rw [← hy4] at hcut4; have HR315 := aS hr4; have HC315 := aS (show y312.length ≤ c0 from by omega); clear hr4 hC4 hroom4 hi04 hsz4; have KY4 := aS hy4; clear hy4; replace q4 := eq_true q4
   go_enter Try.func38, Try.ntmps38
   go_wp2
   go_loopg [5, 14] k (fun kq v5 v14 w' => ∃ (x5_1 : Int) (x14_1 : Int), v5 = .int .i64 x5_1 ∧ v14 = .int .i64 x14_1 ∧ Aside0 (wire_CutNum.l0 kq l0 x5_1 y312 (y312.length : Int) x14_1 = some (r1, r2, r3)) ∧ Aside0 (kq ≤ k) ∧ Aside0 (Below w.heap.size w w'))
   case atStart => exact ⟨(0), (0), srf, srf, H', ⟨Nat.le_refl _⟩, ⟨bel⟩⟩
   case round =>
    clear H'; (try clear c2); (try clear c2b0); (try clear c2b1); (try clear c3); (try clear c3b0); (try clear c3b1); (try clear q4); obtain ⟨x5_1, x14_1, rfl, rfl, HA, HK1, HB⟩ := hrel
    cases gk with
    | zero => exact absurd HA.out (by simp [wire_CutNum.l0])
    | succ k1 =>
     have H := HA.out; clear HA
     simp only [wire_CutNum.l0] at H
     by_cases c5 : x14_1 < (y312.length : Int)
     ·
      rw [if_pos c5] at H; have c5b0 : decide (x14_1 < (y312.length : Int)) = true := decide_eq_true c5; clear c5
      by_cases c6 : 0 ≤ x14_1
      ·
       rw [if_pos c6] at H; have c6b0 : decide (0 ≤ x14_1) = true := decide_eq_true c6; clear c6
       by_cases c7 : x14_1 < (y312.length : Int)
       ·
        rw [if_pos c7] at H; have c7b0 : decide (x14_1 < (y312.length : Int)) = true := decide_eq_true c7; clear c7
        have H' := aS H
        clear H; have p316 : 0 ≤ (x14_1 : Int) := oda; have q316 : x14_1 < (y312.length : Int) := oda; obtain ⟨ad316, e316, hx316_0⟩ := Kd.at_int HR315.out x14_1 p316 q316; cases e316; replace hx316_0 := bx bel hx316_0; replace p316 := eq_true p316; replace q316 := eq_true q316
        go_wp2
        go_roundg k1
        case measure => have := HK1.out; omega
        case rel => exact ⟨(Go.bits .or .i64 (wrap64 (x5_1 * 256)) (wrap64 (rd y312 x14_1))), (wrap64 (x14_1 + 1)), srf, srf, H', ⟨by have := HK1.out; omega⟩, ⟨bel⟩⟩
       ·
        rw [if_neg c7] at H; exact absurd H (by simp)
      ·
       rw [if_neg c6] at H; exact absurd H (by simp)
     ·
      rw [if_neg c5] at H; have c5b0 : decide (x14_1 < (y312.length : Int)) = false := decide_eq_false c5; clear c5
      by_cases c8 : 4 ≤ (l0.length : Int)
      ·
       rw [if_pos c8] at H; have c8b0 := eq_true c8; have c8b1 : decide (4 ≤ (l0.length : Int)) = true := decide_eq_true c8; clear c8
       obtain ⟨y317, hy317⟩ : ∃ y_ : List Int, y_ = (l0.drop 4) := ⟨_, rfl⟩
       (first | replace H := hyn hy317 H | rw [← hy317] at H); have Ny317 := aS hy317; clear hy317; replace H := obm H; obtain ⟨t321, A90, H⟩ := H; have A9 := aS A90; clear A90
       simp only [Option.some.injEq, Prod.mk.injEq] at H
       obtain ⟨rfl, rfl, rfl⟩ := H; have q10 : (4 : Int) ≤ ((l0.length : Int) : Int) := oda; obtain ⟨i010, hi010, _, hsz10, _⟩ := info_parts info5; have hroom10 : l0.length ≤ c0 := HC0.out; have hC10 : Kd.C (Kd.int .u8) _ A0 l0.length l0 := HR0.out; have hcut10 := cut_from (P := Try.prog) 26 5 .i64 Try.underlying26 hi010 1 hsz10 A0 l0.length c0 4 (by omega) q10; have hr10 := Kd.C_drop (m := (4 : Int).toNat) (c := c0) hC10 (by omega) hroom10
       obtain ⟨A10, hA10⟩ : ∃ A1_, A1_ = (if c0 = (4 : Int).toNat then A0 else (A0 : Option Addr).map (·.add ((4 : Int).toNat * 1))) := ⟨_, rfl⟩
       obtain ⟨c10, hc10⟩ : ∃ c1_, c1_ = c0 - (4 : Int).toNat := ⟨_, rfl⟩
       have hy10 : y317.length = l0.length - (4 : Int).toNat := (by rw [Ny317.out, lld] <;> omega); rw [show (l0).drop (4 : Int).toNat = y317 from Ny317.out.symm] at hr10; replace hr10 : Kd.C (Kd.int .u8) _ A10 y317.length y317 := (by rw [hA10]; exact hr10); rw [← hy10, ← hA10, ← hc10] at hcut10; have HR320 := aS hr10; have HC320 := aS (show y317.length ≤ c10 from by rw [hy10, hc10]; exact Nat.sub_le_sub_right hroom10 _); clear hr10 hC10 hroom10 hi010 hsz10 hc10; have KY10 := aS hy10; have KA10 := aS hA10; clear hy10 hA10; replace q10 := eq_true q10
       go_wp2_with (first | ((with_reducible refine gate_callee (f := 58) rfl ?_); refine goesL_ (some 27) rfl rfl Try.func58 (by kernel_rfl) rfl #[.slice A10 y317.length c10] rfl agn ?_; (with_reducible refine (slices_Clone_byte_byte.calls _ _ y317 t321 _ ?side1 ?side2 A9.out).mono ?_); (case side1 => exact cel (Kd.C_below HR320.out HB.out)); (case side2 => exact HC320.out); rintro e w11 ⟨v322, rfl, ho0, hb⟩; refine ⟨_, rfl, ?_⟩; have HO323 := aS (Kd.R_lower ho0 (below_size bel)); replace HB := bstep hb; (try clear hb); (try clear hk); (try clear hi); (try clear ho0)))
       go_ret3
       exact ⟨_, rf3, by (with_reducible repeat (first | apply Kd.R_alloc | apply Kd.R_drewN | apply Kd.R_drew)); exact HO323.out, bel⟩
      ·
       rw [if_neg c8] at H; exact absurd H (by simp)
  ·
   rw [if_neg c3] at H; exact absurd H (by simp)

/-! ### slices_Equal_byte_byte: function 42 -/
def slices_Equal_byte_byte.l0 : Nat → List Int → List Int → Int → Int → Option (Bool)
 | 0, _, _, _, _ => none
 | k + 1, x0, x1, x12, x13 => if x13 < x12 then (if 0 ≤ x13 then (if x13 < (x0.length : Int) then (if x13 < (x1.length : Int) then (if (rd x0 x13) = (rd x1 x13) then (slices_Equal_byte_byte.l0 k x0 x1 x12 (wrap64 (x13 + 1))) else (some false)) else (none)) else (none)) else (none)) else (some true)
def slices_Equal_byte_byte.f (k : Nat) (l0 : List Int) (l1 : List Int) : Option (Bool) := if (l0.length : Int) = (l1.length : Int) then (slices_Equal_byte_byte.l0 k l0 l1 (l0.length : Int) 0) else (some false)
theorem slices_Equal_byte_byte.mono_l : ∀ k, (∀ y0 y1 y2 y3, LeO (slices_Equal_byte_byte.l0 k y0 y1 y2 y3) (slices_Equal_byte_byte.l0 (k + 1) y0 y1 y2 y3))
 | 0 => fun _ _ _ _ r h => by simp [slices_Equal_byte_byte.l0] at h
 | k + 1 => by
  have ih0 := slices_Equal_byte_byte.mono_l k
  ·
   intro y0 y1 y2 y3
   unfold slices_Equal_byte_byte.l0
   exact lmo
theorem slices_Equal_byte_byte.mono : ∀ a0 a1 k, LeO (slices_Equal_byte_byte.f k a0 a1) (slices_Equal_byte_byte.f (k + 1) a0 a1) := by
 intro a0 a1 k
 have ih0 := slices_Equal_byte_byte.mono_l k
 unfold slices_Equal_byte_byte.f
 exact lmo
set_option maxHeartbeats 8000000 in
set_option maxRecDepth 100000 in
theorem slices_Equal_byte_byte.calls (k : Nat) (A0 : Option Addr) (c0 : Nat) (l0 : List Int) (A1 : Option Addr) (c1 : Nat) (l1 : List Int) (r : Bool) (w : World) (hr0 : Kd.C (Kd.int .u8) w A0 l0.length l0) (hc0 : l0.length ≤ c0) (hr1 : Kd.C (Kd.int .u8) w A1 l1.length l1) (hc1 : l1.length ≤ c1) (h : slices_Equal_byte_byte.f k l0 l1 = some r) :
  Calls Try.prog 42 #[.slice A0 l0.length c0, .slice A1 l1.length c1] w fun e w' => e = .returned (.bool r) ∧ Drawn0 w w' := by
 have HR0 := aS hr0; have HC0 := aS hc0; clear hr0 hc0; have HR1 := aS hr1; have HC1 := aS hc1; clear hr1 hc1; have H : (if (l0.length : Int) = (l1.length : Int) then (slices_Equal_byte_byte.l0 k l0 l1 (l0.length : Int) 0) else (some false)) = some r := h; clear h
 by_cases c3 : (l0.length : Int) = (l1.length : Int)
 ·
  rw [if_pos c3] at H; obtain ⟨c3b0, c3b1⟩ := eqT c3
  have c3b2 : (l0.length == l1.length) = true := by first | simpa using c3 | (simp at c3 ⊢; omega)
  clear c3
  have H' := aS H
  clear H
  go_enter Try.func42, Try.ntmps42
  go_wp2
  repeat (go_quiet (fail); try go_wp2)
  go_loopg [13] k (fun kq v13 w' => ∃ (x13_1 : Int), v13 = .int .i64 x13_1 ∧ Aside0 (slices_Equal_byte_byte.l0 kq l0 l1 (l0.length : Int) x13_1 = some r) ∧ Aside0 (kq ≤ k) ∧ Drawn0 w w')
  case atStart => exact ⟨(0), srf, H', ⟨Nat.le_refl _⟩, by repeat (first | exact Drawn0.refl _ | apply Drawn0.step)⟩
  case round =>
   clear H'; (try clear c1); (try clear c3); (try clear c3b0); (try clear c3b1); (try clear c3b2); obtain ⟨x13_1, rfl, HA, HK1, ⟨m1, rfl⟩⟩ := hrel
   cases gk with
   | zero => exact absurd HA.out (by simp [slices_Equal_byte_byte.l0])
   | succ k1 =>
    have H := HA.out; clear HA
    simp only [slices_Equal_byte_byte.l0] at H
    by_cases c4 : x13_1 < (l0.length : Int)
    ·
     rw [if_pos c4] at H; have c4b0 : decide (x13_1 < (l0.length : Int)) = true := decide_eq_true c4; clear c4
     by_cases c5 : 0 ≤ x13_1
     ·
      rw [if_pos c5] at H; have c5b0 : decide (0 ≤ x13_1) = true := decide_eq_true c5; clear c5
      by_cases c6 : x13_1 < (l0.length : Int)
      ·
       rw [if_pos c6] at H; have c6b0 : decide (x13_1 < (l0.length : Int)) = true := decide_eq_true c6; clear c6
       by_cases c7 : x13_1 < (l1.length : Int)
       ·
        rw [if_pos c7] at H; have c7b0 : decide (x13_1 < (l1.length : Int)) = true := decide_eq_true c7; clear c7
        by_cases c8 : (rd l0 x13_1) = (rd l1 x13_1)
        ·
         rw [if_pos c8] at H; obtain ⟨c8b0, c8b1⟩ := eqT c8; clear c8
         have H' := aS H
         clear H; have p324 : 0 ≤ (x13_1 : Int) := oda; have q324 : x13_1 < (l0.length : Int) := oda; obtain ⟨ad324, e324, hx324_0⟩ := Kd.at_int HR0.out x13_1 p324 q324; cases e324; replace p324 := eq_true p324; replace q324 := eq_true q324; have p325 : 0 ≤ (x13_1 : Int) := oda; have q325 : x13_1 < (l1.length : Int) := oda; obtain ⟨ad325, e325, hx325_0⟩ := Kd.at_int HR1.out x13_1 p325 q325; cases e325; replace p325 := eq_true p325; replace q325 := eq_true q325
         go_wp2
         repeat (go_quiet (fail); try go_wp2)
         go_roundg k1
         case measure => have := HK1.out; omega
         case rel => exact ⟨(wrap64 (x13_1 + 1)), srf, H', ⟨by have := HK1.out; omega⟩, by repeat (first | exact Drawn0.refl _ | apply Drawn0.step)⟩
        ·
         rw [if_neg c8] at H; obtain ⟨c8b0, c8b1⟩ := eqF c8
         obtain rfl := Option.some.inj H
         have p324 : 0 ≤ (x13_1 : Int) := oda; have q324 : x13_1 < (l0.length : Int) := oda; obtain ⟨ad324, e324, hx324_0⟩ := Kd.at_int HR0.out x13_1 p324 q324; cases e324; replace p324 := eq_true p324; replace q324 := eq_true q324; have p325 : 0 ≤ (x13_1 : Int) := oda; have q325 : x13_1 < (l1.length : Int) := oda; obtain ⟨ad325, e325, hx325_0⟩ := Kd.at_int HR1.out x13_1 p325 q325; cases e325; replace p325 := eq_true p325; replace q325 := eq_true q325
         go_wp2
         repeat (go_quiet (fail); try go_wp2)
         go_ret
         exact ⟨by first | rfl | (simp; done) | (simp [*]; done) | (simp; exact (by decide : ∀ a_ b_ : Bool, (a_ == b_) = (!a_ != b_)) _ _), by repeat (first | exact Drawn0.refl _ | apply Drawn0.step)⟩
       ·
        rw [if_neg c7] at H; exact absurd H (by simp)
      ·
       rw [if_neg c6] at H; exact absurd H (by simp)
     ·
      rw [if_neg c5] at H; exact absurd H (by simp)
    ·
     rw [if_neg c4] at H; have c4b0 : decide (x13_1 < (l0.length : Int)) = false := decide_eq_false c4; clear c4
     obtain rfl := Option.some.inj H
     go_wp2
     repeat (go_quiet (fail); try go_wp2)
     go_ret
     exact ⟨by first | rfl | (simp; done) | (simp [*]; done) | (simp; exact (by decide : ∀ a_ b_ : Bool, (a_ == b_) = (!a_ != b_)) _ _), by repeat (first | exact Drawn0.refl _ | apply Drawn0.step)⟩
 ·
  rw [if_neg c3] at H; obtain ⟨c3b0, c3b1⟩ := eqF c3
  have c3b2 : (l0.length == l1.length) = false := by first | simpa using c3 | (simp at c3 ⊢; omega)
  obtain rfl := Option.some.inj H
  go_enter Try.func42, Try.ntmps42
  go_wp2
  repeat (go_quiet (fail); try go_wp2)
  go_ret
  exact ⟨by first | rfl | (simp; done) | (simp [*]; done) | (simp; exact (by decide : ∀ a_ b_ : Bool, (a_ == b_) = (!a_ != b_)) _ _), by repeat (first | exact Drawn0.refl _ | apply Drawn0.step)⟩

end Go.Proofs.Ytinhpolmanccgaa.X
