-- written by a program of this session's, over the kit's print
import Derived.Test.YtinhpolmanccgaaXx0
import Derived.Test.YtinhpolmanccgaaXx6
import Derived.Test.YtinhpolmanccgaaXx9
import Derived.Test.YtinhpolmanccgaaXx11
import Derived.Test.YtinhpolmanccgaaXx12
namespace Go.Proofs.Ytinhpolmanccgaa.X
open Go.RowKit Go.Proofs.YtinhpolmanccgaaW.PrintWords Go.Proofs.YtinhpolmanccgaaW.PrintLast Go.Proofs.YtinhpolmanccgaaW.PrintMore
attribute [local go_sem] max2_int min2_int max_two min_two max_three min_three max_four min_four gtr_str   -- for this text's walks alone
set_option linter.unusedVariables false
set_option linter.unusedSimpArgs false

/-! ### shardlogref08_Sort: function 11 -/
def shardlogref08_Sort.l0 : Nat → List (S42) → List (S42) → Int → Option ((List (S42)))
 | 0, _, _, _ => none
 | k + 1, x0, x3, x4 => if x4 < (x0.length : Int) then (if 0 ≤ x4 then ((shardlogref08_Put1.f k x3 ((rd_T42 x0 x4).f0) ((rd_T42 x0 x4).f1) ((rd_T42 x0 x4).f2) ((rd_T42 x0 x4).f3) ((rd_T42 x0 x4).f4)).bind fun t559 => (shardlogref08_Sort.l0 k x0 t559 (wrap64 (x4 + 1)))) else (none)) else (some x3)
def shardlogref08_Sort.f (k : Nat) (l0 : List (S42)) : Option ((List (S42))) := shardlogref08_Sort.l0 k l0 ([] : List (S42)) 0
theorem shardlogref08_Sort.mono_l : ∀ k, (∀ y0 y1 y2, LeO (shardlogref08_Sort.l0 k y0 y1 y2) (shardlogref08_Sort.l0 (k + 1) y0 y1 y2))
 | 0 => fun _ _ _ r h => by simp [shardlogref08_Sort.l0] at h
 | k + 1 => by
  have ih0 := shardlogref08_Sort.mono_l k
  ·
   intro y0 y1 y2
   unfold shardlogref08_Sort.l0
   repeat' first
   | (with_reducible exact ih0 _ _ _)
   | (with_reducible exact shardlogref08_Put1.mono _ _ _ _ _ _ _)
   | (with_reducible exact LeO.refl _)
   | (with_reducible exact LeO.none _)
   | (with_reducible refine LeO.ite ?_ ?_)
   | (with_reducible refine LeO.bind ?_ (fun _ => ?_))
   | exact LeO.none _
   | refine LeO.ite ?_ ?_
   | refine LeO.bind ?_ (fun _ => ?_)
theorem shardlogref08_Sort.mono : ∀ a0 k, LeO (shardlogref08_Sort.f k a0) (shardlogref08_Sort.f (k + 1) a0) := by
 intro a0 k
 have ih0 := shardlogref08_Sort.mono_l k
 unfold shardlogref08_Sort.f
 repeat' first
   | (with_reducible exact ih0 _ _ _)
   | (with_reducible exact shardlogref08_Put1.mono _ _ _ _ _ _ _)
   | (with_reducible exact LeO.refl _)
   | (with_reducible exact LeO.none _)
   | (with_reducible refine LeO.ite ?_ ?_)
   | (with_reducible refine LeO.bind ?_ (fun _ => ?_))
   | exact LeO.none _
   | refine LeO.ite ?_ ?_
   | refine LeO.bind ?_ (fun _ => ?_)
set_option maxHeartbeats 8000000 in
set_option maxRecDepth 100000 in
theorem shardlogref08_Sort.calls (k : Nat) (A0 : Option Addr) (c0 : Nat) (l0 : List (S42)) (r : List (S42)) (w : World) (hr0 : Kd.C k42 w A0 l0.length l0) (hc0 : l0.length ≤ c0) (h : shardlogref08_Sort.f k l0 = some r) :
  Calls Try.prog 11 #[.slice A0 l0.length c0] w fun e w' => ∃ v0_ : Value, e = .returned (v0_) ∧ Kd.R k42 42 w' w.heap.size (fun _ => True) v0_ r ∧ Below w.heap.size w w' := by
 have hu42 := Try.underlying42; have HR0 := aS hr0; have HC0 := aS hc0; clear hr0 hc0; have HB := aS (Below.refl w.heap.size w); have H : (shardlogref08_Sort.l0 k l0 ([] : List (S42)) 0) = some r := h; clear h
 have H' := aS H
 clear H
 go_enter Try.func11, Try.ntmps11
 go_wp2
 go_loopg [3, 4] k (fun kq v3 v4 w' => ∃ (x3_1 : List (S42)) (x4_1 : Int), v4 = .int .i64 x4_1 ∧ Aside0 (shardlogref08_Sort.l0 kq l0 x3_1 x4_1 = some r) ∧ Aside0 (kq ≤ k) ∧ Aside0 (Kd.R k42 42 w' w.heap.size (fun _ => True) v3 x3_1) ∧ Aside0 (Below w.heap.size w w'))
 case atStart => exact ⟨(([] : List (S42))), (0), srf, H', ⟨Nat.le_refl _⟩, ⟨by first | exact Kd.R_nil _ _ _ _ _ | exact Kd.N_nil _ _ _ _ _ | exact Kd.V_nil _ _ _ _ _ | exact Kd.Q_nil _ _ _ _ _ | exact Kd.S_nil _ _ _ _ _⟩, ⟨bel⟩⟩
 case round =>
  clear H'; obtain ⟨x3_1, x4_1, rfl, HA, HK1, HO_3, HB⟩ := hrel
  cases gk with
  | zero => exact absurd HA.out (by simp [shardlogref08_Sort.l0])
  | succ k1 =>
   have H := HA.out; clear HA
   simp only [shardlogref08_Sort.l0] at H
   by_cases c2 : x4_1 < (l0.length : Int)
   ·
    rw [if_pos c2] at H; have c2b0 : decide (x4_1 < (l0.length : Int)) = true := decide_eq_true c2; clear c2
    by_cases c3 : 0 ≤ x4_1
    ·
     rw [if_pos c3] at H; have c3b0 : decide (0 ≤ x4_1) = true := decide_eq_true c3; clear c3; replace H := obm H; obtain ⟨t559, A40, H⟩ := H; replace H : (shardlogref08_Sort.l0 k1 l0 t559 (wrap64 (x4_1 + 1))) = some r := H; have A4 := aS A40; clear A40
     have H' := aS H
     clear H; have p558 : 0 ≤ (x4_1 : Int) := oda; have q558 : x4_1 < (l0.length : Int) := oda; obtain ⟨ad558, e558, hx558_0, hx558_1, hx558_2, hx558_3, hx558_4⟩ := at_T42 HR0.out x4_1 p558 q558; cases e558; replace hx558_0 := bx HB.out hx558_0; replace hx558_1 := bx HB.out hx558_1; replace hx558_2 := bx HB.out hx558_2; replace hx558_3 := bx HB.out hx558_3; replace hx558_4 := bx HB.out hx558_4; replace p558 := eq_true p558; replace q558 := eq_true q558; obtain ⟨Ao5, co5, eo5⟩ := Kd.R_slice HO_3.out; subst eo5
     go_wp2_with (first | ((with_reducible refine gate_callee (f := 28) rfl ?_); refine goesL_ (some 16) rfl rfl Try.func28 (by kernel_rfl) rfl #[.slice Ao5 x3_1.length co5, .agg #[.string ((rd_T42 l0 x4_1).f0), .string ((rd_T42 l0 x4_1).f1), .int .i64 ((rd_T42 l0 x4_1).f2), .string ((rd_T42 l0 x4_1).f3), .bool ((rd_T42 l0 x4_1).f4)]] rfl agn ?_; (with_reducible refine (shardlogref08_Put1.calls k1 _ _ x3_1 ((rd_T42 l0 x4_1).f0) ((rd_T42 l0 x4_1).f1) ((rd_T42 l0 x4_1).f2) ((rd_T42 l0 x4_1).f3) ((rd_T42 l0 x4_1).f4) t559 _ ?side1 ?side2 A4.out).mono ?_); (case side1 => exact cel ((Kd.R_reads' HO_3.out).2.2)); (case side2 => exact (Kd.R_reads' HO_3.out).2.1); rintro e w6 ⟨v560, rfl, ho0, hb⟩; refine ⟨_, rfl, ?_⟩; have HO561 := aS (Kd.R_lower (Kd.R_new' ho0 (Kd.R_lt (rel HO_3.out))) (below_size bel)); replace HO_3 := aS (Kd.R_elder' (rel HO_3.out) (ebs ho0) hb); replace HB := bstep hb; (try clear hb); (try clear hk); (try clear hi); (try clear ho0)))
     go_roundg k1
     case measure => have := HK1.out; omega
     case rel => exact ⟨(t559), (wrap64 (x4_1 + 1)), srf, H', ⟨by have := HK1.out; omega⟩, ⟨by (with_reducible repeat (first | apply Kd.R_alloc | apply Kd.R_drewN | apply Kd.R_drew)); exact Kd.R_mono HO561.out (fun _ hk => trivial)⟩, ⟨bel⟩⟩
    ·
     rw [if_neg c3] at H; exact absurd H (by simp)
   ·
    rw [if_neg c2] at H; have c2b0 : decide (x4_1 < (l0.length : Int)) = false := decide_eq_false c2; clear c2
    obtain rfl := Option.some.inj H
    go_wp2
    go_ret
    exact ⟨_, rf3, by (with_reducible repeat (first | apply Kd.R_alloc | apply Kd.R_drewN | apply Kd.R_drew)); exact HO_3.out, bel⟩

/-! ### shardloglaw12_TableTurned: function 6 -/
def shardloglaw12_TableTurned.tail (k : Nat) (b : List Int) (j a3 : Int) : Option Bool :=
 (table_Open.f k (b.take j.toNat)).bind fun o1 => (table_Open.f k (b.set j.toNat (Go.bits .xor .u8 (rd b j) a3))).bind fun o2 => if o1 = none ∧ o2 = none then some true else none
def shardloglaw12_TableTurned.main (k : Nat) (l : List S42) (a1 a2 a3 : Int) : Option Bool :=
 (shardlogref08_Sort.f k l).bind fun s => (table_Build.f k s (wrap64 (1 + wrap64 a1))).bind fun b => if b.2 = 0 then (if (b.1.length : Int) = 0 then none else if 0 ≤ Int.tmod (wrap64 a2) b.1.length ∧ Int.tmod (wrap64 a2) b.1.length < (b.1.length : Int) then shardloglaw12_TableTurned.tail k b.1 (Int.tmod (wrap64 a2) b.1.length) a3 else none) else none
def shardloglaw12_TableTurned.f (k : Nat) (l : List S42) (a1 a2 a3 : Int) : Option Bool :=
 (shardloglaw12_awake.f k).bind fun t => if t = true then (shardlogref08_Few.f k l).bind fun u => if u = true then (if a3 = 0 then some true else shardloglaw12_TableTurned.main k l a1 a2 a3) else some true else none
theorem shardloglaw12_TableTurned.mono : ∀ a0 a1 a2 a3 k, LeO (shardloglaw12_TableTurned.f k a0 a1 a2 a3) (shardloglaw12_TableTurned.f (k + 1) a0 a1 a2 a3) := fun _ _ _ _ k =>
 LeO.bind (shardloglaw12_awake.mono _) fun _ => LeO.ite (LeO.bind (shardlogref08_Few.mono _ _) fun _ => LeO.ite (LeO.ite (LeO.refl _) (LeO.bind (shardlogref08_Sort.mono _ _) fun _ => LeO.bind (table_Build.mono _ _ _) fun _ => LeO.ite (LeO.ite (LeO.refl _) (LeO.ite (LeO.bind (table_Open.mono _ _) fun _ => LeO.bind (table_Open.mono _ _) fun _ => LeO.refl _) (LeO.refl _))) (LeO.refl _))) (LeO.refl _)) (LeO.refl _)
set_option maxHeartbeats 8000000 in
set_option maxRecDepth 100000 in
theorem shardloglaw12_TableTurned.calls (k : Nat) (A0 : Option Addr) (c0 : Nat) (l : List S42) (a1 a2 a3 : Int) (r : Bool) (w : World) (hr0 : Kd.C k42 w A0 l.length l) (hc0 : l.length ≤ c0) (h : shardloglaw12_TableTurned.f k l a1 a2 a3 = some r) :
  Calls Try.prog 6 #[.slice A0 l.length c0, .int .u8 a1, .int .u16 a2, .int .u8 a3] w fun e w' => e = .returned (.bool r) ∧ Below w.heap.size w w' := by
 have hu22 := Try.underlying22; have hu26 := Try.underlying26; have hu42 := Try.underlying42; have HR := aS hr0; have HC := aS hc0; have HB := aS (Below.refl w.heap.size w); clear hr0 hc0
 unfold shardloglaw12_TableTurned.f at h
 replace h := obm h; obtain ⟨t, x1, h⟩ := h
 cases t with
 | false =>
  rw [if_neg Bool.false_ne_true] at h; cases h
 | true =>
 rw [if_pos rfl] at h; replace h := obm h; obtain ⟨u, x2, h⟩ := h; have X1 := aS x1; have X2 := aS x2; clear x1 x2
 cases u with
 | false =>
  rw [if_neg Bool.false_ne_true] at h
  obtain rfl := Option.some.inj h
  clear h
  go_enter Try.func6, Try.ntmps6
  go_wp2_with (first | (go_at_call 9; (with_reducible refine (shardloglaw12_awake.calls k true _ X1.out).mono ?_); rintro e_ w1_ ⟨rfl, hb⟩; have n1_ := aS (below_step HB.out hb); clear HB; have HB := n1_; clear n1_; clear hb) | (go_at_call 10; (with_reducible refine (shardlogref08_Few.calls k A0 c0 l false _ (Kd.C_below HR.out HB.out) HC.out X2.out).mono ?_); rintro e_ w1_ ⟨rfl, hb⟩; have n1_ := aS (below_step HB.out hb); clear HB; have HB := n1_; clear n1_; clear hb))
  go_ret
  exact ⟨rfl, HB.out⟩
 | true =>
 rw [if_pos rfl] at h
 by_cases hz : a3 = 0
 ·
  rw [if_pos hz] at h
  obtain rfl := Option.some.inj h
  obtain ⟨hz1, hz2⟩ := eqT hz; clear h hz
  go_enter Try.func6, Try.ntmps6
  go_wp2_with (first | (go_at_call 9; (with_reducible refine (shardloglaw12_awake.calls k true _ X1.out).mono ?_); rintro e_ w1_ ⟨rfl, hb⟩; have n1_ := aS (below_step HB.out hb); clear HB; have HB := n1_; clear n1_; clear hb) | (go_at_call 10; (with_reducible refine (shardlogref08_Few.calls k A0 c0 l true _ (Kd.C_below HR.out HB.out) HC.out X2.out).mono ?_); rintro e_ w1_ ⟨rfl, hb⟩; have n1_ := aS (below_step HB.out hb); clear HB; have HB := n1_; clear n1_; clear hb))
  go_ret
  exact ⟨rfl, HB.out⟩
 rw [if_neg hz] at h; obtain ⟨hz1, hz2⟩ := eqF hz; clear hz
 unfold shardloglaw12_TableTurned.main at h
 replace h := obm h; obtain ⟨s, x3, h⟩ := h; replace h := obm h; obtain ⟨⟨b, e⟩, x4, h⟩ := h
 by_cases he : e = 0
 case neg => rw [if_neg he] at h; cases h
 rw [if_pos he] at h; replace he : e = 0 := he; subst he
 by_cases hb0 : (b.length : Int) = 0
 ·
  rw [if_pos hb0] at h; cases h
 rw [if_neg hb0] at h; obtain ⟨hy1, hy2⟩ := eqF hb0
 have hy4 : ¬ b = [] := fun he => hb0 (by rw [he]; rfl)
 obtain ⟨j, hj⟩ : ∃ j_ : Int, Int.tmod (wrap64 a2) (b.length : Int) = j_ := ⟨_, rfl⟩
 replace h : (if 0 ≤ Int.tmod (wrap64 a2) (b.length : Int) ∧ Int.tmod (wrap64 a2) (b.length : Int) < (b.length : Int) then shardloglaw12_TableTurned.tail k b (Int.tmod (wrap64 a2) (b.length : Int)) a3 else none) = some r := h; rw [hj] at h
 by_cases hjj : 0 ≤ j ∧ j < (b.length : Int)
 case neg => rw [if_neg hjj] at h; cases h
 rw [if_pos hjj] at h; have HJ := aS hjj; clear hb0 hjj
 unfold shardloglaw12_TableTurned.tail at h
 replace h := obm h; obtain ⟨o1, x5, h⟩ := h; replace h := obm h; obtain ⟨o2, x6, h⟩ := h
 split at h
 case isFalse => cases h
 rename_i hc
 obtain ⟨rfl, rfl⟩ := hc
 obtain rfl := Option.some.inj h
 have X3 := aS x3; have X4 := aS x4; have X5 := aS x5; have X6 := aS x6; clear x3 x4 x5 x6 h
 go_enter Try.func6, Try.ntmps6
 go_upto_region 7 with (first | (go_at_call 9; (with_reducible refine (shardloglaw12_awake.calls k true _ X1.out).mono ?_); rintro e_ w1_ ⟨rfl, hb⟩; have n1_ := aS (below_step HB.out hb); clear HB; have HB := n1_; clear n1_; clear hb) | (go_at_call 10; (with_reducible refine (shardlogref08_Few.calls k A0 c0 l true _ (Kd.C_below HR.out HB.out) HC.out X2.out).mono ?_); rintro e_ w1_ ⟨rfl, hb⟩; have n1_ := aS (below_step HB.out hb); clear HB; have HB := n1_; clear n1_; clear hb) | (go_at_call 11; (with_reducible refine (shardlogref08_Sort.calls k A0 c0 l s _ (Kd.C_below HR.out HB.out) HC.out X3.out).mono ?_); rintro e_ w3 ⟨v5, rfl, ho, hb⟩; obtain ⟨As, cs, rfl, hcl, hC⟩ := Kd.R_reads ho; have HLs := aS hcl; have HCs := aS hC; have HB3 := aS (below_step HB.out hb); clear ho hb hcl hC HB) | (go_at_call 12; (with_reducible refine (table_Build.calls k As cs s (wrap64 (1 + wrap64 a1)) b 0 _ HCs.out HLs.out X4.out).mono ?_); rintro e_ w4 ⟨v9, rfl, ho, hb⟩; obtain ⟨Ab, cb, rfl⟩ := Kd.R_slice ho; have HP := aS (Kd.R_lower ho HB3.out.size); have HB4 := aS (below_step HB3.out hb); clear ho hb HB3 HCs))
 obtain ⟨pb, cp, ebf, hpb, _, _⟩ := Kd.R_form HP.out (by have := HJ.out; omega); cases ebf; obtain ⟨ii, hii, _, hsz, _⟩ := info_parts info5; have hcut := cut_to (P := Try.prog) 26 5 .i64 hu26 hii (some ⟨pb, 0, none⟩) b.length cb j HJ.out.1 (by have := HJ.out; omega) (Kd.R_reads' HP.out).2.1; have HPB := aS hpb; clear hpb hj
 go_upto_region 8 with (first | (go_at_call 16; refine calls_of_args (args' := #[.slice (some ⟨pb, 0, none⟩) (b.take j.toNat).length cb]) (by rw [llt, Nat.min_eq_left (by have := HJ.out; omega)]) ?_; (with_reducible refine (table_Open.calls k (some ⟨pb, 0, none⟩) cb (b.take j.toNat) none _ (Kd.C_take (Kd.R_reads' HP.out).2.2 (show j.toNat ≤ b.length by have := HJ.out; omega)) (show (b.take j.toNat).length ≤ cb by rw [llt]; have := (Kd.R_reads' HP.out).2.1; omega) X5.out).mono ?_); rintro e_ w5 ⟨rfl, hb⟩; have HP5 := aS (Kd.R_below HP.out hb); have HB5 := aS (below_step HB4.out hb); clear hb HP HB4))
 clear hcut; have hx := Kd.R_celln (enc := Value.int .u8) (d := (0 : Int)) HP5.out j HJ.out.1 HJ.out.2; have hx1 := hx.1; have hx2 := hx.2; clear hx; have p1 := eq_true HJ.out.1; have p2 := eq_true HJ.out.2; rw [show rdOf 0 b j = rd b j from rfl] at hx1
 go_upto_region 9 with (fail)
 have HP2 := aS (Kd.R_putn (enc := Value.int .u8) HP5.out j (Go.bits .xor .u8 (rd b j) a3)); have HB2 := aS (below_set (j := j.toNat) (v := .int .u8 (Go.bits .xor .u8 (rd b j) a3)) HB5.out HPB.out); clear hx1 hx2 p1 p2 HP5 HB5; have HL : Aside0 ((b.set j.toNat (Go.bits .xor .u8 (rd b j) a3)).length = b.length) := aS (by rw [List.length_set])
 generalize b.set j.toNat (Go.bits .xor .u8 (rd b j) a3) = b2 at HP2 X6 HL
 generalize w5.setCell ⟨pb, j.toNat, none⟩ (.int .u8 (Go.bits .xor .u8 (rd b j) a3)) = w9 at HP2 HB2 ⊢
 have C2 := aS (show Kd.C (Kd.int .u8) w9 (some ⟨pb, 0, none⟩) b2.length b2 ∧ b2.length ≤ cb from ⟨(Kd.R_reads' HP2.out).2.2, by rw [HL.out]; exact (Kd.R_reads' HP2.out).2.1⟩)
 go_wp2_with (first | (go_at_call 16; refine calls_of_args (args' := #[.slice (some ⟨pb, 0, none⟩) b2.length cb]) (by rw [HL.out]) ?_; (with_reducible refine (table_Open.calls k (some ⟨pb, 0, none⟩) cb b2 none _ C2.out.1 C2.out.2 X6.out).mono ?_); rintro e_ w10 ⟨rfl, hb⟩; have HB10 := aS (below_step HB2.out hb); clear hb HB2))
 go_ret
 exact ⟨rfl, HB10.out⟩


/-- THE ONE PURE STATEMENT of shardloglaw12_TableTurned. -/
def shardloglaw12_TableTurned.Pure : Prop := ∀ (l0 : List (S42)) (a1 : Int) (a2 : Int) (a3 : Int), (l0.length ≤ maxLen ∧ l0.length * 64 ≤ 140737488351232 ∧ ∀ y0_ ∈ l0, (y0_.f0.size ≤ 140737488351232 ∧ y0_.f1.size ≤ 140737488351232 ∧ (Lit.int .i64 y0_.f2).wf = true ∧ y0_.f3.size ≤ 140737488351232 ∧ True)) → (Lit.int .u8 a1).wf = true → (Lit.int .u16 a2).wf = true → (Lit.int .u8 a3).wf = true → ∃ k, shardloglaw12_TableTurned.f k l0 a1 a2 a3 = some true
theorem shardloglaw12_TableTurned.walk (P : shardloglaw12_TableTurned.Pure) (A0 : Option Addr) (c0 : Nat) (l0 : List (S42)) (a1 : Int) (a2 : Int) (a3 : Int) (w : World) (wf0 : (l0.length ≤ maxLen ∧ l0.length * 64 ≤ 140737488351232 ∧ ∀ y0_ ∈ l0, (y0_.f0.size ≤ 140737488351232 ∧ y0_.f1.size ≤ 140737488351232 ∧ (Lit.int .i64 y0_.f2).wf = true ∧ y0_.f3.size ≤ 140737488351232 ∧ True))) (hr0 : Kd.C k42 w A0 l0.length l0) (hc0 : l0.length ≤ c0) (wf1 : (Lit.int .u8 a1).wf = true) (wf2 : (Lit.int .u16 a2).wf = true) (wf3 : (Lit.int .u8 a3).wf = true) :
  Calls Try.prog 6 #[.slice A0 l0.length c0, .int .u8 a1, .int .u16 a2, .int .u8 a3] w fun e w' => e = .returned (.bool true) ∧ Below w.heap.size w w' := by
 obtain ⟨k, h⟩ := P l0 a1 a2 a3 wf0 wf1 wf2 wf3; refine (shardloglaw12_TableTurned.calls k A0 c0 l0 a1 a2 a3 true w hr0 hc0 h).mono ?_
 rintro e w' ⟨rfl, hd⟩
 exact ⟨rfl, hd⟩

end Go.Proofs.Ytinhpolmanccgaa.X
