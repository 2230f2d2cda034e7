-- written by a program of this session's, over the kit's print
import Derived.Test.YtinhpolmanccgaaXx0
import Derived.Test.YtinhpolmanccgaaXx4
import Derived.Test.YtinhpolmanccgaaXx9
import Derived.Test.YtinhpolmanccgaaXx11
import Derived.Test.YtinhpolmanccgaaXx12
import Derived.Test.YtinhpolmanccgaaXx14
namespace Go.Proofs.Ytinhpolmanccgaa.X
open Go.RowKit Go.Proofs.YtinhpolmanccgaaW.PrintWords Go.Proofs.YtinhpolmanccgaaW.PrintLast Go.Proofs.YtinhpolmanccgaaW.PrintMore
attribute [local go_sem] max2_int min2_int max_two min_two max_three min_three max_four min_four gtr_str   -- for this text's walks alone
set_option linter.unusedVariables false
set_option linter.unusedSimpArgs false

/-! ### shardloglaw12_TableOpens: function 5 -/
/-- The sizes that are tried. -/
def shardloglaw12_TableOpens.lp (l : List S42) (b : List Int) : Nat → Int → Option Int
 | 0, _ => none
 | k + 1, z => if z ≤ 2001 then (shardlogref12_Build.f k l z).bind fun y => (shardlogref01_Same.f y b).bind fun e => if e = true then some z else shardloglaw12_TableOpens.lp l b k (wrap64 (z + 1)) else some z
def shardloglaw12_TableOpens.tail (k : Nat) (b : List Int) : Option (List S42 × List (List S42) × List Int) → Option Bool
 | none => some true
 | some (l', _, _) => (api_Cell_43.f l').bind fun ca => (shardlogref08_Sorted.f k ca).bind fun so => if so = true then (shardloglaw12_TableOpens.lp ca b k 1).bind fun z => if z ≤ 2001 then some true else none else none
def shardloglaw12_TableOpens.f (k : Nat) (b : List Int) : Option Bool :=
 (shardloglaw12_awake.f k).bind fun t => if t = true then (if (b.length : Int) > 2000 then some true else (table_Open.f k b).bind fun o => shardloglaw12_TableOpens.tail k b o) else none
theorem shardloglaw12_TableOpens.mono_lp (l b) : ∀ k z, LeO (shardloglaw12_TableOpens.lp l b k z) (shardloglaw12_TableOpens.lp l b (k + 1) z)
 | 0, _ => LeO.none _
 | k + 1, z => by
  unfold shardloglaw12_TableOpens.lp
  exact LeO.ite (LeO.bind (shardlogref12_Build.mono _ _ _) fun _ => LeO.bind (LeO.refl _) fun _ => LeO.ite (LeO.refl _) (shardloglaw12_TableOpens.mono_lp l b k _)) (LeO.refl _)
theorem shardloglaw12_TableOpens.mono_tail (k b) : ∀ o, LeO (shardloglaw12_TableOpens.tail k b o) (shardloglaw12_TableOpens.tail (k + 1) b o)
 | none => LeO.refl _
 | some (_, _, _) => LeO.bind (LeO.refl _) fun _ => LeO.bind (shardlogref08_Sorted.mono _ _) fun _ => LeO.ite (LeO.bind (shardloglaw12_TableOpens.mono_lp _ _ _ _) fun _ => LeO.refl _) (LeO.refl _)
theorem shardloglaw12_TableOpens.mono : ∀ a0 k, LeO (shardloglaw12_TableOpens.f k a0) (shardloglaw12_TableOpens.f (k + 1) a0) := fun _ k =>
 LeO.bind (shardloglaw12_awake.mono _) fun _ => LeO.ite (LeO.ite (LeO.refl _) (LeO.bind (table_Open.mono _ _) fun _ => shardloglaw12_TableOpens.mono_tail _ _ _)) (LeO.refl _)
set_option maxHeartbeats 8000000 in
set_option maxRecDepth 100000 in
theorem shardloglaw12_TableOpens.calls (k : Nat) (A0 : Option Addr) (c0 : Nat) (b : List Int) (r : Bool) (w : World) (hr0 : Kd.C (Kd.int .u8) w A0 b.length b) (hc0 : b.length ≤ c0) (h : shardloglaw12_TableOpens.f k b = some r) :
  Calls Try.prog 5 #[.slice A0 b.length c0] w fun e w' => e = .returned (.bool r) ∧ Below w.heap.size w w' := by
 have hu22 := Try.underlying22; have hu26 := Try.underlying26; have hu42 := Try.underlying42; have HR := aS hr0; have HC := aS hc0; have HB := aS (Below.refl w.heap.size w); clear hr0 hc0
 unfold shardloglaw12_TableOpens.f at h
 replace h := obm h; obtain ⟨t, x1, h⟩ := h
 cases t with
 | false =>
  rw [if_neg Bool.false_ne_true] at h; cases h
 | true =>
 rw [if_pos rfl] at h; have X1 := aS x1; clear x1
 by_cases h2 : (b.length : Int) > 2000
 ·
  rw [if_pos h2] at h
  obtain rfl := Option.some.inj h
  have d1 : decide ((2000 : Int) < (b.length : Int)) = true := decide_eq_true h2; have d2 : decide (2000 < b.length) = true := decide_eq_true (by omega); clear h h2
  go_enter Try.func5, Try.ntmps5
  go_wp2_with (first | (go_at_call 9; (with_reducible refine (shardloglaw12_awake.calls k true _ X1.out).mono ?_); rintro e_ w1_ ⟨rfl, hb⟩; have n1_ := aS (below_step HB.out hb); clear HB; have HB := n1_; clear n1_; clear hb))
  go_ret
  exact ⟨rfl, HB.out⟩
 rw [if_neg h2] at h; have d1 : decide ((2000 : Int) < (b.length : Int)) = false := decide_eq_false h2; have d2 : decide (2000 < b.length) = false := decide_eq_false (by omega); clear h2; replace h := obm h; obtain ⟨o, x2, h⟩ := h; have X2 := aS x2; clear x2
 cases o with
 | none =>
  obtain rfl := Option.some.inj (show some true = some r from h)
  clear h
  go_enter Try.func5, Try.ntmps5
  go_wp2_with (first | (go_at_call 9; (with_reducible refine (shardloglaw12_awake.calls k true _ X1.out).mono ?_); rintro e_ w1_ ⟨rfl, hb⟩; have n1_ := aS (below_step HB.out hb); clear HB; have HB := n1_; clear n1_; clear hb) | (go_at_call 16; (with_reducible refine (table_Open.calls k A0 c0 b none _ (Kd.C_below HR.out HB.out) HC.out X2.out).mono ?_); rintro e_ w5 ⟨rfl, hb⟩; have n1_ := aS (below_step HB.out hb); clear HB; have HB := n1_; clear n1_ hb))
  go_ret
  exact ⟨rfl, HB.out⟩
 | some o =>
 obtain ⟨l', bs, fl⟩ := o; replace h : ((api_Cell_43.f l').bind fun ca => (shardlogref08_Sorted.f k ca).bind fun so => if so = true then (shardloglaw12_TableOpens.lp ca b k 1).bind fun z => if z ≤ 2001 then some true else none else none) = some r := h; replace h := obm h; obtain ⟨ca, x3, h⟩ := h; replace h := obm h; obtain ⟨so, x4, h⟩ := h
 cases so with
 | false =>
  rw [if_neg Bool.false_ne_true] at h; cases h
 | true =>
 rw [if_pos rfl] at h; replace h := obm h; obtain ⟨z, x5, h⟩ := h
 by_cases hz : z ≤ 2001
 case neg => rw [if_neg hz] at h; cases h
 rw [if_pos hz] at h
 obtain rfl := Option.some.inj h
 have X3 := aS x3; have X4 := aS x4; have X5 := aS x5; have HZ := aS hz; clear x3 x4 x5 h hz
 go_enter Try.func5, Try.ntmps5
 go_wp2_with (first | (go_at_call 9; (with_reducible refine (shardloglaw12_awake.calls k true _ X1.out).mono ?_); rintro e_ w1_ ⟨rfl, hb⟩; have n1_ := aS (below_step HB.out hb); clear HB; have HB := n1_; clear n1_; clear hb) | (go_at_call 16; (with_reducible refine (table_Open.calls k A0 c0 b (some (l', bs, fl)) _ (Kd.C_below HR.out HB.out) HC.out X2.out).mono ?_); rintro e_ w4 ⟨g, rfl, ha, hb⟩; have HA4 := aS ha; have HB4 := aS (below_step HB.out hb); clear ha hb HB) | (go_at_call 18; (with_reducible refine (table_Table_Cells.calls g _ l' bs fl ca _ HA4.out X3.out).mono ?_); rintro e_ w5 ⟨u8, rfl, ho, hb⟩; obtain ⟨Ac, cc, rfl, hcl, hC⟩ := Kd.R_reads ho; have HLc := aS hcl; have HC5 := aS hC; have HB5 := aS (below_step HB4.out hb); clear ho hb hcl hC HA4 HB4) | (go_at_call 13; (with_reducible refine (shardlogref08_Sorted.calls k Ac cc ca true _ HC5.out HLc.out X4.out).mono ?_); rintro e_ w6 ⟨rfl, hb⟩; have HC6 := aS (Kd.C_below HC5.out hb); have HB6 := aS (below_step HB5.out hb); clear hb HC5 HB5))
 go_loopg [6] k (fun kq v6 wr => ∃ (y : Int), v6 = .int .i64 y ∧ Aside0 (shardloglaw12_TableOpens.lp ca b kq y = some z) ∧ Aside0 (kq ≤ k) ∧ Aside0 (Kd.C k42 wr Ac ca.length ca) ∧ Aside0 (Below w.heap.size w wr))
 case atStart => exact ⟨1, rfl, X5, ⟨Nat.le_refl _⟩, HC6, HB6⟩
 case round =>
  clear X1 X2 X3 X4 X5 HC6 HB6 d1 d2; obtain ⟨y, rfl, HA, HK, HCr, HBr⟩ := hrel
  cases gk with
  | zero => exact absurd HA.out (by simp [shardloglaw12_TableOpens.lp])
  | succ k1 =>
  have ha := HA.out
  unfold shardloglaw12_TableOpens.lp at ha
  clear HA
  by_cases hy : y ≤ 2001
  rotate_left
  ·
   rw [if_neg hy] at ha
   obtain e1 := Option.some.inj ha
   exact absurd HZ.out (by rw [← e1]; exact hy)
  rw [if_pos hy] at ha; replace ha := obm ha; obtain ⟨yb, y1, ha⟩ := ha; replace ha := obm ha; obtain ⟨e, y2, ha⟩ := ha; have Y1 := aS y1; have Y2 := aS y2; have d3 : decide (y ≤ 2001) = true := decide_eq_true hy; clear y1 y2
  cases e with
  | true =>
   rw [if_pos rfl] at ha
   obtain e1 := Option.some.inj ha
   subst e1; clear ha hy
   go_wp2_with (first | (go_at_call 15; (with_reducible refine (shardlogref12_Build.calls k1 Ac cc ca y yb _ HCr.out HLc.out Y1.out).mono ?_); rintro e_ w7 ⟨v7, rfl, ho, hb⟩; obtain ⟨Ay, cy, rfl, hcl, hC⟩ := Kd.R_reads ho; have HLy := aS hcl; have HCy := aS hC; have HC7 := aS (Kd.C_below HCr.out hb); have HB7 := aS (below_step HBr.out hb); clear ho hb hcl hC HCr HBr) | (go_at_call 14; (with_reducible refine (shardlogref01_Same.calls Ay cy yb A0 c0 b true _ HCy.out HLy.out (Kd.C_below HR.out HB7.out) HC.out Y2.out).mono ?_); rintro e_ w8 ⟨rfl, hb'⟩; have hb := hb'.below; have HC8 := aS (Kd.C_below HC7.out hb); have HB8 := aS (below_step HB7.out hb); clear hb' hb HC7 HB7))
   go_ret
   exact ⟨rfl, HB8.out⟩
  | false =>
   rw [if_neg Bool.false_ne_true] at ha; have HA := aS ha; clear ha hy
   go_wp2_with (first | (go_at_call 15; (with_reducible refine (shardlogref12_Build.calls k1 Ac cc ca y yb _ HCr.out HLc.out Y1.out).mono ?_); rintro e_ w7 ⟨v7, rfl, ho, hb⟩; obtain ⟨Ay, cy, rfl, hcl, hC⟩ := Kd.R_reads ho; have HLy := aS hcl; have HCy := aS hC; have HC7 := aS (Kd.C_below HCr.out hb); have HB7 := aS (below_step HBr.out hb); clear ho hb hcl hC HCr HBr) | (go_at_call 14; (with_reducible refine (shardlogref01_Same.calls Ay cy yb A0 c0 b false _ HCy.out HLy.out (Kd.C_below HR.out HB7.out) HC.out Y2.out).mono ?_); rintro e_ w8 ⟨rfl, hb'⟩; have hb := hb'.below; have HC8 := aS (Kd.C_below HC7.out hb); have HB8 := aS (below_step HB7.out hb); clear hb' hb HC7 HB7))
   go_roundg k1
   case measure => have := HK.out; omega
   case rel => exact ⟨_, rfl, HA, ⟨by have := HK.out; omega⟩, HC8, HB8⟩


/-- THE ONE PURE STATEMENT of shardloglaw12_TableOpens. -/
def shardloglaw12_TableOpens.Pure : Prop := ∀ (l0 : List Int), (l0.length ≤ maxLen ∧ l0.length * 1 ≤ 140737488351232 ∧ ∀ y0_ ∈ l0, (Lit.int .u8 y0_).wf = true) → ∃ k, shardloglaw12_TableOpens.f k l0 = some true
theorem shardloglaw12_TableOpens.walk (P : shardloglaw12_TableOpens.Pure) (A0 : Option Addr) (c0 : Nat) (l0 : List Int) (w : World) (wf0 : (l0.length ≤ maxLen ∧ l0.length * 1 ≤ 140737488351232 ∧ ∀ y0_ ∈ l0, (Lit.int .u8 y0_).wf = true)) (hr0 : Kd.C (Kd.int .u8) w A0 l0.length l0) (hc0 : l0.length ≤ c0) :
  Calls Try.prog 5 #[.slice A0 l0.length c0] w fun e w' => e = .returned (.bool true) ∧ Below w.heap.size w w' := by
 obtain ⟨k, h⟩ := P l0 wf0; refine (shardloglaw12_TableOpens.calls k A0 c0 l0 true w hr0 hc0 h).mono ?_
 rintro e w' ⟨rfl, hd⟩
 exact ⟨rfl, hd⟩

end Go.Proofs.Ytinhpolmanccgaa.X
