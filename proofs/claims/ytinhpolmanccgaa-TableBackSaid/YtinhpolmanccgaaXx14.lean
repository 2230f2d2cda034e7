-- written by a program of this session's, over the kit's print
import Derived.Test.YtinhpolmanccgaaXx0
import Derived.Test.YtinhpolmanccgaaXx4
import Derived.Test.YtinhpolmanccgaaXx6
import Derived.Test.YtinhpolmanccgaaXx9
import Derived.Test.YtinhpolmanccgaaXx11
import Derived.Test.YtinhpolmanccgaaXx13
namespace Go.Proofs.Ytinhpolmanccgaa.X
open Go.RowKit Go.Proofs.YtinhpolmanccgaaW.PrintWords Go.Proofs.YtinhpolmanccgaaW.PrintLast Go.Proofs.YtinhpolmanccgaaW.PrintMore
attribute [local go_sem] max2_int min2_int max_two min_two max_three min_three max_four min_four gtr_str   -- for this text's walks alone
set_option linter.unusedVariables false
set_option linter.unusedSimpArgs false

/-! ### shardloglaw12_TableBack: function 4 -/
def shardloglaw12_TableBack.lp (k : Nat) (bs : List (List S42)) (fl : List Int) : List S42 → Option Unit
 | [] => some ()
 | c :: r => (table_Table_Get.f k bs fl c.f0 c.f1 c.f2).bind fun g => (table_Table_May.f k fl c.f0 c.f1).bind fun m => if g = (c.f0, c.f1, c.f2, c.f3, c.f4, true) ∧ m = true then shardloglaw12_TableBack.lp k bs fl r else none
def shardloglaw12_TableBack.tail (k : Nat) (s : List S42) (z : Int) (a2 a3 : ByteArray) (a4 : Int) : Option (List S42 × List (List S42) × List Int) → Option Bool
 | none => none
 | some (l', bs, fl) => (api_Cell_43.f l').bind fun ca => (shardlogref08_Same.f k ca s).bind fun e => (shardlogref10_Cut.f k s z).bind fun ct => if e = true ∧ bs.length = ct.length then (shardloglaw12_TableBack.lp k bs fl s).bind fun _ => (table_Table_Get.f k bs fl a2 a3 a4).bind fun c => (shardlogref08_Newest.f k s a2 a3 a4).bind fun d => if c = d then some true else none else none
def shardloglaw12_TableBack.main (k : Nat) (l : List S42) (a1 : Int) (a2 a3 : ByteArray) (a4 : Int) : Option Bool :=
 (shardlogref08_Sort.f k l).bind fun s => (table_Build.f k s (wrap64 (1 + wrap64 a1))).bind fun b => if b.2 = 0 then (table_Open.f k b.1).bind fun o => shardloglaw12_TableBack.tail k s (wrap64 (1 + wrap64 a1)) a2 a3 a4 o else none
def shardloglaw12_TableBack.f (k : Nat) (l : List S42) (a1 : Int) (a2 a3 : ByteArray) (a4 : Int) : Option Bool :=
 (shardloglaw12_awake.f k).bind fun t => if t = true then (shardlogref08_Few.f k l).bind fun u => if u = true then (if (a2.size : Int) ≤ 100 then (if (a3.size : Int) ≤ 100 then shardloglaw12_TableBack.main k l a1 a2 a3 a4 else some true) else some true) else some true else none
theorem shardloglaw12_TableBack.mono_lp (k bs fl) : ∀ l, LeO (shardloglaw12_TableBack.lp k bs fl l) (shardloglaw12_TableBack.lp (k + 1) bs fl l)
 | [] => LeO.refl _
 | c :: r => LeO.bind (table_Table_Get.mono _ _ _ _ _ _) fun _ => LeO.bind (table_Table_May.mono _ _ _ _) fun _ => LeO.ite (shardloglaw12_TableBack.mono_lp k bs fl r) (LeO.refl _)
theorem shardloglaw12_TableBack.mono_tail (k s z a2 a3 a4) : ∀ o, LeO (shardloglaw12_TableBack.tail k s z a2 a3 a4 o) (shardloglaw12_TableBack.tail (k + 1) s z a2 a3 a4 o)
 | none => LeO.refl _
 | some (_, _, _) => LeO.bind (LeO.refl _) fun _ => LeO.bind (shardlogref08_Same.mono _ _ _) fun _ => LeO.bind (shardlogref10_Cut.mono _ _ _) fun _ => LeO.ite (LeO.bind (shardloglaw12_TableBack.mono_lp _ _ _ _) fun _ => LeO.bind (table_Table_Get.mono _ _ _ _ _ _) fun _ => LeO.bind (shardlogref08_Newest.mono _ _ _ _ _) fun _ => LeO.refl _) (LeO.refl _)
theorem shardloglaw12_TableBack.mono : ∀ a0 a1 a2 a3 a4 k, LeO (shardloglaw12_TableBack.f k a0 a1 a2 a3 a4) (shardloglaw12_TableBack.f (k + 1) a0 a1 a2 a3 a4) := fun _ _ _ _ _ k =>
 LeO.bind (shardloglaw12_awake.mono _) fun _ => LeO.ite (LeO.bind (shardlogref08_Few.mono _ _) fun _ => LeO.ite (LeO.ite (LeO.ite (LeO.bind (shardlogref08_Sort.mono _ _) fun _ => LeO.bind (table_Build.mono _ _ _) fun _ => LeO.ite (LeO.bind (table_Open.mono _ _) fun _ => shardloglaw12_TableBack.mono_tail _ _ _ _ _ _ _) (LeO.refl _)) (LeO.refl _)) (LeO.refl _)) (LeO.refl _)) (LeO.refl _)
/-- A box that is filled at once. -/
theorem shardloglaw12_TableBack.box_set {w : World} {g : Nat} {cur : Array Value} {e : TypeId} {seg : List Value} (hg : w.heap[g]? = some (.cells cur e (0, 0))) (h5 : cur.size = seg.length) : (w.setCells g 0 seg).heap[g]? = some (.cells seg.toArray e (0, 0)) := by
 obtain ⟨cur', h1, h2, h3⟩ := setCells_row seg 0 w cur hg (by omega); rw [h1]
 congr 2
 apply Array.ext'
 rw [h3, List.take_zero, List.nil_append, List.drop_of_length_le (by rw [Array.length_toList]; omega), List.append_nil]
theorem shardloglaw12_TableBack.box_below {B : Nat} {a w : World} {g : Nat} {seg : List Value} (h : Below B a w) (hg : B ≤ g) : Below B a (w.setCells g 0 seg) := by
 obtain ⟨h1, h2, h3, h4⟩ := setCells_same g seg 0 w; exact ⟨h1.trans h.os, h2.trans h.tape, h3.trans h.output, by rw [h4]; exact h.size, fun k hk => (setCells_far seg 0 k (by omega)).trans (h.block k hk)⟩
set_option maxHeartbeats 8000000 in
set_option maxRecDepth 100000 in
theorem shardloglaw12_TableBack.calls (k : Nat) (A0 : Option Addr) (c0 : Nat) (l : List S42) (a1 : Int) (a2 a3 : ByteArray) (a4 : Int) (r : Bool) (w : World) (hr0 : Kd.C k42 w A0 l.length l) (hc0 : l.length ≤ c0) (h : shardloglaw12_TableBack.f k l a1 a2 a3 a4 = some r) :
  Calls Try.prog 4 #[.slice A0 l.length c0, .int .u8 a1, .string a2, .string a3, .int .i64 a4] w fun e w' => e = .returned (.bool r) ∧ Below w.heap.size w w' := by
 have hu22 := Try.underlying22; have hu26 := Try.underlying26; have hu42 := Try.underlying42; have hu39 := Try.underlying39
 have hsz : (Try.prog.info? 42).map (·.size) = some 5 := by
  obtain ⟨i0, hi0, hz⟩ := Option.map_eq_some_iff.1 info42
  simp only [Prod.mk.injEq] at hz
  rw [hi0]; simp [hz.2.1]
 have HR := aS hr0; have HC := aS hc0; have HB := aS (Below.refl w.heap.size w); clear hr0 hc0
 unfold shardloglaw12_TableBack.f at h
 replace h := obm h; obtain ⟨t, x1, h⟩ := h
 cases t with
 | false =>
  rw [if_neg Bool.false_ne_true] at h; cases h
 | true =>
 rw [if_pos rfl] at h; replace h := obm h; obtain ⟨u, x2, h⟩ := h; have X1 := aS x1; have X2 := aS x2; clear x1 x2
 cases u with
 | false =>
  rw [if_neg Bool.false_ne_true] at h
  obtain rfl := Option.some.inj h
  clear h
  go_enter Try.func4, Try.ntmps4
  go_wp2_with (first | (go_at_call 9; (with_reducible refine (shardloglaw12_awake.calls k true _ X1.out).mono ?_); rintro e_ w1_ ⟨rfl, hb⟩; have n1_ := aS (below_step HB.out hb); clear HB; have HB := n1_; clear n1_; clear hb) | (go_at_call 10; (with_reducible refine (shardlogref08_Few.calls k A0 c0 l false _ (Kd.C_below HR.out HB.out) HC.out X2.out).mono ?_); rintro e_ w1_ ⟨rfl, hb⟩; have n1_ := aS (below_step HB.out hb); clear HB; have HB := n1_; clear n1_; clear hb))
  go_ret
  exact ⟨rfl, HB.out⟩
 | true =>
 rw [if_pos rfl] at h
 by_cases hs2 : (a2.size : Int) ≤ 100
 rotate_left
 ·
  rw [if_neg hs2] at h
  obtain rfl := Option.some.inj h
  have z2 : decide ((100 : Int) < (a2.size : Int)) = true := decide_eq_true (by omega); have y2 : decide (100 < a2.size) = true := decide_eq_true (by omega); clear h hs2
  go_enter Try.func4, Try.ntmps4
  go_wp2_with (first | (go_at_call 9; (with_reducible refine (shardloglaw12_awake.calls k true _ X1.out).mono ?_); rintro e_ w1_ ⟨rfl, hb⟩; have n1_ := aS (below_step HB.out hb); clear HB; have HB := n1_; clear n1_; clear hb) | (go_at_call 10; (with_reducible refine (shardlogref08_Few.calls k A0 c0 l true _ (Kd.C_below HR.out HB.out) HC.out X2.out).mono ?_); rintro e_ w1_ ⟨rfl, hb⟩; have n1_ := aS (below_step HB.out hb); clear HB; have HB := n1_; clear n1_; clear hb))
  go_ret
  exact ⟨rfl, HB.out⟩
 rw [if_pos hs2] at h; have z2 : decide ((100 : Int) < (a2.size : Int)) = false := decide_eq_false (by omega); have y2 : decide (100 < a2.size) = false := decide_eq_false (by omega); clear hs2
 by_cases hs3 : (a3.size : Int) ≤ 100
 rotate_left
 ·
  rw [if_neg hs3] at h
  obtain rfl := Option.some.inj h
  have z3 : decide ((100 : Int) < (a3.size : Int)) = true := decide_eq_true (by omega); have y3 : decide (100 < a3.size) = true := decide_eq_true (by omega); clear h hs3
  go_enter Try.func4, Try.ntmps4
  go_wp2_with (first | (go_at_call 9; (with_reducible refine (shardloglaw12_awake.calls k true _ X1.out).mono ?_); rintro e_ w1_ ⟨rfl, hb⟩; have n1_ := aS (below_step HB.out hb); clear HB; have HB := n1_; clear n1_; clear hb) | (go_at_call 10; (with_reducible refine (shardlogref08_Few.calls k A0 c0 l true _ (Kd.C_below HR.out HB.out) HC.out X2.out).mono ?_); rintro e_ w1_ ⟨rfl, hb⟩; have n1_ := aS (below_step HB.out hb); clear HB; have HB := n1_; clear n1_; clear hb))
  go_ret
  exact ⟨rfl, HB.out⟩
 rw [if_pos hs3] at h; have z3 : decide ((100 : Int) < (a3.size : Int)) = false := decide_eq_false (by omega); have y3 : decide (100 < a3.size) = false := decide_eq_false (by omega); clear hs3
 unfold shardloglaw12_TableBack.main at h
 replace h := obm h; obtain ⟨s, x3, h⟩ := h; replace h := obm h; obtain ⟨⟨b, e⟩, x4, h⟩ := h
 by_cases he : e = 0
 case neg => rw [if_neg he] at h; cases h
 rw [if_pos he] at h; replace he : e = 0 := he; subst he; replace h := obm h; obtain ⟨o, x5, h⟩ := h
 cases o with
 | none => cases h
 | some o =>
 obtain ⟨l', bs, fl⟩ := o; replace h : ((api_Cell_43.f l').bind fun ca => (shardlogref08_Same.f k ca s).bind fun e => (shardlogref10_Cut.f k s (wrap64 (1 + wrap64 a1))).bind fun ct => if e = true ∧ bs.length = ct.length then (shardloglaw12_TableBack.lp k bs fl s).bind fun _ => (table_Table_Get.f k bs fl a2 a3 a4).bind fun c => (shardlogref08_Newest.f k s a2 a3 a4).bind fun d => if c = d then some true else none else none) = some r := h; replace h := obm h; obtain ⟨ca, x6, h⟩ := h; replace h := obm h; obtain ⟨e, x7, h⟩ := h; replace h := obm h; obtain ⟨ct, x8, h⟩ := h
 split at h
 case isFalse => cases h
 rename_i hc
 obtain ⟨rfl, hlc⟩ := hc; replace h := obm h; obtain ⟨uu, x9, h⟩ := h; replace h := obm h; obtain ⟨⟨q1, q2, q3, q4, q5, q6⟩, x10, h⟩ := h; replace h := obm h; obtain ⟨d, x11, h⟩ := h
 split at h
 case isFalse => cases h
 rename_i hc
 subst hc
 obtain rfl := Option.some.inj h
 have X3 := aS x3; have X4 := aS x4; have X5 := aS x5; have X6 := aS x6; have X7 := aS x7; have X8 := aS x8; have X9 : Aside0 (shardloglaw12_TableBack.lp k bs fl s = some ()) := aS x9; have X10 := aS x10; have X11 := aS x11; have LC := aS hlc; clear x3 x4 x5 x6 x7 x8 x9 x10 x11 hlc h uu
 go_enter Try.func4, Try.ntmps4
 go_wp2_with (first | (go_at_call 9; (with_reducible refine (shardloglaw12_awake.calls k true _ X1.out).mono ?_); rintro e_ w1_ ⟨rfl, hb⟩; have n1_ := aS (below_step HB.out hb); clear HB; have HB := n1_; clear n1_; clear hb) | (go_at_call 10; (with_reducible refine (shardlogref08_Few.calls k A0 c0 l true _ (Kd.C_below HR.out HB.out) HC.out X2.out).mono ?_); rintro e_ w1_ ⟨rfl, hb⟩; have n1_ := aS (below_step HB.out hb); clear HB; have HB := n1_; clear n1_; clear hb) | (go_at_call 11; (with_reducible refine (shardlogref08_Sort.calls k A0 c0 l s _ (Kd.C_below HR.out HB.out) HC.out X3.out).mono ?_); rintro e_ w3 ⟨v5, rfl, ho, hb⟩; obtain ⟨As, cs, rfl, hcl, hC⟩ := Kd.R_reads ho; have HLs := aS hcl; have HCs := aS hC; have HB3 := aS (below_step HB.out hb); clear ho hb hcl hC HB) | (go_at_call 12; (with_reducible refine (table_Build.calls k As cs s (wrap64 (1 + wrap64 a1)) b 0 _ HCs.out HLs.out X4.out).mono ?_); rintro e_ w4 ⟨v9, rfl, ho, hb⟩; obtain ⟨Ab, cb, rfl, hcl, hC⟩ := Kd.R_reads ho; have HLb := aS hcl; have HCb := aS hC; have HC4 := aS (Kd.C_below HCs.out hb); have HB4 := aS (below_step HB3.out hb); clear ho hb hcl hC HB3 HCs) | (go_at_call 16; (with_reducible refine (table_Open.calls k Ab cb b (some (l', bs, fl)) _ HCb.out HLb.out X5.out).mono ?_); rintro e_ w5 ⟨g, rfl, ha, hb⟩; have HA5 := aS ha; have HC5 := aS (Kd.C_below HC4.out hb); have HB5 := aS (below_step HB4.out hb); clear ha hb HC4 HB4 HCb HLb) | (go_at_call 18; (with_reducible refine (table_Table_Cells.calls g _ l' bs fl ca _ HA5.out X6.out).mono ?_); rintro e_ w6 ⟨u8, rfl, ho, hb⟩; obtain ⟨A6, c6, rfl, hcl, hC⟩ := Kd.R_reads ho; have HL6 := aS hcl; have HX6 := aS hC; have HA6 := aS (HA5.out.below hb); have HC6 := aS (Kd.C_below HC5.out hb); have HB6 := aS (below_step HB5.out hb); clear ho hb hcl hC HA5 HC5 HB5) | (go_at_call 17; (with_reducible refine (shardlogref08_Same.calls k A6 c6 ca As cs s true _ HX6.out HL6.out HC6.out HLs.out X7.out).mono ?_); rintro e_ w7 ⟨rfl, hb'⟩; have hb := hb'.below; have HA7 := aS (HA6.out.below hb); have HC7 := aS (Kd.C_below HC6.out hb); have HB7 := aS (below_step HB6.out hb); clear hb hb' HA6 HC6 HB6 HX6) | (go_at_call 19; (with_reducible refine (table_Table_Blocks.calls g _ l' bs fl _ HA7.out).mono ?_); rintro e_ w8 ⟨he, hb⟩; obtain rfl : e_ = .returned (.int .i64 (ct.length : Int)) := he.trans (by rw [LC.out]); have HA8 := aS (HA7.out.below hb); have HC8 := aS (Kd.C_below HC7.out hb); have HB8 := aS (below_step HB7.out hb); clear he hb HA7 HC7 HB7) | (go_at_call 20; (with_reducible refine (shardlogref10_Cut.calls k As cs s (wrap64 (1 + wrap64 a1)) ct _ HC8.out HLs.out X8.out).mono ?_); rintro e_ w9 ⟨v80, rfl, ho, hb⟩; obtain ⟨At, ct_, rfl⟩ := Kd.S_slice ho; have HA9 := aS (HA8.out.below hb); have HC9 := aS (Kd.C_below HC8.out hb); have HB9 := aS (below_step HB8.out hb); clear ho hb HA8 HC8 HB8))
 obtain ⟨wA, hwA⟩ : ∃ wA, wA = w9 := ⟨_, rfl⟩
 subst hwA; have HMX : Aside0 (s.length ≤ 9223372036854775807) := aS HC9.out.2.1; clear z2 z3 y2 y3
 go_loopw [16] (fun v16 wr => ∃ (i : Nat), v16 = .int .i64 (i : Int) ∧ Aside0 (i ≤ s.length) ∧ Aside0 (shardloglaw12_TableBack.lp k bs fl (s.drop i) = some ()) ∧ Aside0 (Below wA.heap.size wA wr)) (fun i _ => s.length - (intOf i).toNat)
 case atStart => exact ⟨0, rfl, ⟨Nat.zero_le _⟩, X9, ⟨Below.refl _ _⟩⟩
 case round =>
  clear X1 X2 X3 X4 X5 X6 X7 X8 X9; obtain ⟨i, rfl, hi, HA, HBr⟩ := hrel
  by_cases hlt : i < s.length
  ·
   have hq1 : (i : Int) < (s.length : Int) := by omega
   have hq0 : (0 : Int) ≤ (i : Int) := by omega
   obtain ⟨ad, e_, _⟩ := at_T42 HC9.out (i : Int) hq0 hq1; subst e_
   obtain ⟨x, hx⟩ : ∃ x, x = rd_T42 s (i : Int) := ⟨_, rfl⟩
   have hxe : x = s[i] := by rw [hx]; unfold rd_T42; rw [Int.toNat_natCast, List.getD_eq_getElem?_getD, List.getElem?_eq_getElem hlt]; rfl
   have HS : Aside0 (∀ W, Below wA.heap.size wA W → (W.cell? (ad.add (i * 5)) = some (.string x.f0) ∧ W.cell? ⟨(ad.add (i * 5)).block, (ad.add (i * 5)).off + 1, none⟩ = some (.string x.f1) ∧ W.cell? ⟨(ad.add (i * 5)).block, (ad.add (i * 5)).off + 2, none⟩ = some (.int .i64 x.f2) ∧ W.cell? ⟨(ad.add (i * 5)).block, (ad.add (i * 5)).off + 3, none⟩ = some (.string x.f3) ∧ W.cell? ⟨(ad.add (i * 5)).block, (ad.add (i * 5)).off + 4, none⟩ = some (.bool x.f4))) := aS (fun W hb => by
    obtain ⟨ad', e', hs⟩ := at_T42 (Kd.C_below HC9.out hb) (i : Int) hq0 hq1
    cases e'
    rw [← hx, Int.toNat_natCast] at hs
    exact hs)
   have ha := HA.out; rw [List.drop_eq_getElem_cons hlt, ← hxe] at ha
   unfold shardloglaw12_TableBack.lp at ha
   replace ha := obm ha; obtain ⟨gt, y1, ha⟩ := ha; replace ha := obm ha; obtain ⟨m, y2, ha⟩ := ha
   split at ha
   case isFalse => cases ha
   rename_i hc
   obtain ⟨rfl, rfl⟩ := hc; have Y1 := aS y1; have Y2 := aS y2; have HA2 := aS ha
   have hix : ∀ W : World, (Instr.indexAt 22 (.slice (some ad) s.length cs) (.int .i64 (i : Int))).run Try.prog W = .ok (.pointer (some (ad.add (i * 5)))) W := by
    obtain ⟨i0, hi0, hz⟩ := Option.map_eq_some_iff.1 info42
    simp only [Prod.mk.injEq] at hz
    exact index_ad 22 42 hu22 hi0 5 hz.2.1 ad s.length cs (i : Int) hq0 hq1
   have hwr : wrap64 ((i : Int) + 1) = (i : Int) + 1 := by rw [← i64_w, IntKind.wrap_i64]; have := HMX.out; omega
   clear hx hxe hi hq0 y1 y2 ha HA
   go_upto_region 11 with (fail)
   refine start_ (n := 23) (ds := [21]) (S := fun w' => (w'.cell? (ad.add (i * 5)) = some (.string x.f0) ∧ w'.cell? ⟨(ad.add (i * 5)).block, (ad.add (i * 5)).off + 1, none⟩ = some (.string x.f1) ∧ w'.cell? ⟨(ad.add (i * 5)).block, (ad.add (i * 5)).off + 2, none⟩ = some (.int .i64 x.f2) ∧ w'.cell? ⟨(ad.add (i * 5)).block, (ad.add (i * 5)).off + 3, none⟩ = some (.string x.f3) ∧ w'.cell? ⟨(ad.add (i * 5)).block, (ad.add (i * 5)).off + 4, none⟩ = some (.bool x.f4))) (bA 23 0) (by kernel_rfl) rfl rfl (HS.out _ (below_step HBr.out (below_drew (Below.refl _ _)))) (fun hHeld => ?_)
   generalize hw_ : World.drew _ = wd at hHeld ⊢
   have HBd : Aside0 (Below wA.heap.size wA wd) := aS (hw_ ▸ below_step HBr.out (below_drew (Below.refl _ _))); clear hw_ HBr; refine with_tabW (T := (true, [([], []), ([], []), ([], []), ([1, 2], [1, 2]), ([3], [3]), ([4], [4]), ([], []), ([], []), ([6, 7], [6, 7]), ([8], [8]), ([9], [9]), ([], []), ([], []), ([11, 12], [11, 12]), ([13], [13]), ([14], [14]), ([0, 5, 10, 15], [0, 5, 10, 15]), ([16], [16]), ([17], [17]), ([17], [17]), ([], []), ([20, 18, 16, 0, 1, 2, 3, 4, 5, 6, 7, 8, 9, 10, 11, 12, 13, 14, 15, 16, 17, 18, 20], [18, 20]), ([19, 21, 0, 1, 2, 3, 4, 5, 6, 7, 8, 9, 10, 11, 12, 13, 14, 15, 16, 17, 18, 19, 20, 21], [19])])) (B := [0, 0, 0, 6, 14, 30, 0, 0, 192, 448, 960, 0, 0, 6144, 14336, 30720, 65535, 131071, 262143, 262143, 0, 1572863, 4194303]) (by kernel_rfl) (by kernel_rfl) (fun HT_ HW_ => ?_); refine along_ [(0, 91), (1, 92), (2, 93), (3, 94), (4, 95)] ?_
   iterate 5 (refine pure3 HT_ ?_)
   refine lay_ (bA 23 31) (by kernel_rfl) ?_; refine along_ [(5, 96)] ?_
   iterate 1 (refine take3 HT_ HW_ hHeld ?_)
   refine lay_ (bA 23 63) (by kernel_rfl) ?_; refine along_ [(6, 97), (7, 98), (8, 99), (9, 100)] ?_
   iterate 4 (refine pure3 HT_ ?_)
   refine lay_ (bA 23 1023) (by kernel_rfl) ?_; refine along_ [(10, 101)] ?_
   iterate 1 (refine take3 HT_ HW_ hHeld ?_)
   refine lay_ (bA 23 2047) (by kernel_rfl) ?_; refine along_ [(11, 102), (12, 103), (13, 104), (14, 105)] ?_
   iterate 4 (refine pure3 HT_ ?_)
   refine lay_ (bA 23 32767) (by kernel_rfl) ?_; refine along_ [(15, 106)] ?_
   iterate 1 (refine take3 HT_ HW_ hHeld ?_)
   refine lay_ (bA 23 65535) (by kernel_rfl) ?_; refine join_ (σ := Nat) 2 (bA 23 2097151) (fun g_ => [(107, .tuple #[.agg #[.string x.f0, .string x.f1, .int .i64 x.f2, .string x.f3, .bool x.f4], .bool true]), (90, .tuple #[.agg #[.string x.f0, .string x.f1, .int .i64 x.f2, .string x.f3, .bool x.f4], .bool true]), (108, .agg #[.string x.f0, .string x.f1, .int .i64 x.f2, .string x.f3, .bool x.f4]), (109, .bool true), (17, .pointer (some ⟨g_, 0, none⟩))]) (fun g_ w' => w'.heap[g_]? = some (.cells #[.string ⟨#[]⟩, .string ⟨#[]⟩, .int .i64 0, .string ⟨#[]⟩, .bool false] 42 (0, 0)) ∧ wd.heap.size ≤ g_ ∧ Below wd.heap.size wd w') ?_ ?_
   rotate_left
   ·
    intro hCont
    refine two_ (i := 16) (j := 20) (Ni := (some 107)) (Nj := (some 17)) (bA 23 131071) (bA 23 1114111) rfl rfl rfl rfl (two_of HT_.out (by kernel_rfl)) (by decide) (by decide) (fun K hK => ?_) (fun K hK => ?_)
    ·
     refine goes_ Try.func21 (by kernel_rfl) rfl #[.pointer (some ⟨g, 0, none⟩), .string x.f0, .string x.f1, .int .i64 x.f2] (by rfl) rfl rfl agn ?_
     with_reducible refine (table_Table_Get.calls k g _ l' bs fl x.f0 x.f1 x.f2 x.f0 x.f1 x.f2 x.f3 x.f4 true _ (HA9.out.below (below_step HBd.out (Below.refl _ _))) Y1.out).mono ?_
     rintro e_ w5 ⟨rfl, hb⟩
     refine ⟨_, rfl, ?_⟩; have HW := aS hb; clear hb; refine hK.out _ _ (HS.out _ (below_step HBd.out HW.out)) (fun hHeld => ?_); clear hK K; refine nm 107 ?_; refine along_ [(17, 90), (18, 108), (19, 109)] ?_
     iterate 3 (refine pure3 HT_ ?_)
     refine lay_ (bA 23 1048575) (by kernel_rfl) ?_; refine one3 20 (N := some 17) (bA 23 2097151) HT_ (fun K hK => ?_); refine box_step (by rfl) (N := 17) rfl (cs := #[.string ⟨#[]⟩, .string ⟨#[]⟩, .int .i64 0, .string ⟨#[]⟩, .bool false]) (t := 42) ?hr ?_
     (case hr => (first | (go_simp; done) | (go_simp; rfl)))
     intro gx hg w6 hk hbl
     refine hK.out _ _ (HS.out _ (below_step HBd.out (below_step HW.out hbl))) (fun hHeld => ?_); clear hK K; refine nm 17 ?_; exact norm_ (by simp only [putAll, Act.put, lsa, lsz, lss]) (hCont gx _ ⟨hk, by rw [hg]; exact HW.out.size, below_step HW.out hbl⟩)
    ·
     refine box_step (by rfl) (N := 17) rfl (cs := #[.string ⟨#[]⟩, .string ⟨#[]⟩, .int .i64 0, .string ⟨#[]⟩, .bool false]) (t := 42) ?hr ?_
     (case hr => (first | (go_simp; done) | (go_simp; rfl)))
     intro gx hg w5 hk hbl
     refine hK.out _ _ (HS.out _ (below_step HBd.out hbl)) (fun hHeld => ?_); clear hK K; refine nm 17 ?_; refine one3 16 (N := some 107) (bA 23 1179647) HT_ (fun K hK => ?_); refine goes_ Try.func21 (by kernel_rfl) rfl #[.pointer (some ⟨g, 0, none⟩), .string x.f0, .string x.f1, .int .i64 x.f2] (by rfl) rfl rfl agn ?_
     with_reducible refine (table_Table_Get.calls k g _ l' bs fl x.f0 x.f1 x.f2 x.f0 x.f1 x.f2 x.f3 x.f4 true _ (HA9.out.below (below_step HBd.out hbl)) Y1.out).mono ?_
     rintro e_ w6 ⟨rfl, hb⟩
     refine ⟨_, rfl, ?_⟩; refine hK.out _ _ (HS.out _ (below_step HBd.out (below_step hbl hb))) (fun hHeld => ?_); clear hK K; refine nm 107 ?_; refine along_ [(17, 90), (18, 108), (19, 109)] ?_
     iterate 3 (refine pure3 HT_ ?_)
     refine lay_ (bA 23 2097151) (by kernel_rfl) ?_; exact norm_ (by simp only [putAll, Act.put, lsa, lsz, lss]) (hCont gx _ ⟨blk_below hk hb, by rw [hg]; exact Nat.le_refl _, below_step hbl hb⟩)
   rintro gx w6 ⟨hk, hgx, hbw⟩
   have BX := aS hk; have GX := aS hgx; have HW := aS hbw; have hHeld := HS.out _ (below_step HBd.out HW.out); clear hk hgx hbw; refine norm_ (a' := ?_) ?_ ?_
   rotate_left
   ·
    simp only [putAll, Act.put, lsa, lsz, lss]
    rfl
   refine last_ (i := 21) (N := none) (bA 23 4194303) rfl rfl (one_of HT_.out (by kernel_rfl)) (by decide) (fun K hK => ?_); refine store_step (by rfl) 42 _ _ rfl rfl (by rfl) (.agg #[.string x.f0, .string x.f1, .int .i64 x.f2, .string x.f3, .bool x.f4]) (by rfl) [.string x.f0, .string x.f1, .int .i64 x.f2, .string x.f3, .bool x.f4] rfl hsz BX.out (Nat.le_refl 5) ((k42).K_one (k42_mk w6 x)) ?_; have B2 := aS (shardloglaw12_TableBack.box_set (seg := [.string x.f0, .string x.f1, .int .i64 x.f2, .string x.f3, .bool x.f4]) BX.out rfl); have HW2 := aS (shardloglaw12_TableBack.box_below (seg := [.string x.f0, .string x.f1, .int .i64 x.f2, .string x.f3, .bool x.f4]) HW.out GX.out); clear BX HW
   generalize World.setCells _ _ _ _ = w7 at B2 HW2 ⊢
   refine hK.out _ _ ?_; clear hK K; refine along_ [(22, 18)] ?_
   iterate 1 (refine pure3 HT_ ?_)
   refine lay_ (bA 23 8388607) (by kernel_rfl) ?_; refine done_ (done_of HT_.out (by kernel_rfl)) ?_; clear HT_ HW_ hHeld; have HB7 := aS (below_step HBd.out HW2.out); clear HBd HW2 GX
   go_upto_region 12 with (fail)
   refine start_ (n := 25) (ds := []) (S := fun w' => w'.rangeAt gx 0 [.string x.f0, .string x.f1, .int .i64 x.f2, .string x.f3, .bool x.f4] ∧ (w'.cell? (ad.add (i * 5)) = some (.string x.f0) ∧ w'.cell? ⟨(ad.add (i * 5)).block, (ad.add (i * 5)).off + 1, none⟩ = some (.string x.f1) ∧ w'.cell? ⟨(ad.add (i * 5)).block, (ad.add (i * 5)).off + 2, none⟩ = some (.int .i64 x.f2) ∧ w'.cell? ⟨(ad.add (i * 5)).block, (ad.add (i * 5)).off + 3, none⟩ = some (.string x.f3) ∧ w'.cell? ⟨(ad.add (i * 5)).block, (ad.add (i * 5)).off + 4, none⟩ = some (.bool x.f4))) (bA 25 0) (by kernel_rfl) rfl rfl ⟨range_of (blk_drew B2.out), HS.out _ (below_step HB7.out (below_drew (Below.refl _ _)))⟩ (fun hHeld => ?_)
   generalize hw_ : World.drew _ = w8 at hHeld ⊢
   have HB8 : Aside0 (Below wA.heap.size wA w8) := aS (hw_ ▸ below_step HB7.out (below_drew (Below.refl _ _))); have B8 : Aside0 (w8.heap[gx]? = _) := aS (hw_ ▸ blk_drew B2.out); clear hw_ HB7 B2; refine with_tabW (T := (true, [([], []), ([0], [0]), ([1], [1]), ([2], [2]), ([2], [2]), ([2], [2]), ([4, 5, 2], [2, 4, 5]), ([6, 2], [2, 6]), ([3, 7, 2], [2, 3, 7]), ([2, 8], [2, 8]), ([9, 2], [9]), ([10], [10]), ([10], [10]), ([10], [10]), ([12, 13, 10], [10, 12, 13]), ([14, 10], [10, 14]), ([15, 10], [10, 15]), ([10], [10]), ([10], [10]), ([17, 18, 10], [10, 17, 18]), ([19, 10], [10, 19]), ([20, 10], [10, 20]), ([11, 16, 21, 10, 10], [10, 11, 16, 21]), ([22, 10], [10, 22]), ([10, 23], [10, 23])])) (B := [0, 1, 3, 7, 7, 7, 55, 119, 255, 511, 1023, 2047, 2047, 2047, 14335, 30719, 63487, 2047, 2047, 395263, 919551, 1968127, 4194303, 8388607, 16777215]) (by kernel_rfl) (by kernel_rfl) (fun HT_ HW_ => ?_); refine along_ [(0, 110), (1, 111), (2, 112)] ?_
   iterate 3 (refine pure3 HT_ ?_)
   refine lay_ (bA 25 7) (by kernel_rfl) ?_; refine take_ (i := 3) (N := (some 113)) (v := .agg #[.string x.f0, .string x.f1, .int .i64 x.f2, .string x.f3, .bool x.f4]) (a' := ?_) (bA 25 15) rfl rfl (take_ofW HT_.out HW_.out (by kernel_rfl)) (fun _ _ _ h => h) (yieldsIf_load_mid (by rfl) 42 _ rfl gx 0 (by go_simp) _ _ (fun w' hw' => hw'.1) hu42 rfl hsz) hHeld ?_ ?_
   rotate_left
   ·
    simp only [Act.put, lsa, lsz, lss, i64_w, i32_w]
    rfl
   refine along_ [(4, 114), (5, 115), (6, 116)] ?_
   iterate 3 (refine pure3 HT_ ?_)
   refine lay_ (bA 25 127) (by kernel_rfl) ?_; refine along_ [(7, 117)] ?_
   iterate 1 (refine take3 HT_ HW_ hHeld ?_)
   refine lay_ (bA 25 255) (by kernel_rfl) ?_; refine along_ [(8, 118), (9, 119), (10, 120), (11, 121), (12, 122), (13, 123), (14, 124), (15, 125)] ?_
   iterate 8 (refine pure3 HT_ ?_)
   refine lay_ (bA 25 65535) (by kernel_rfl) ?_; refine along_ [(16, 126)] ?_
   iterate 1 (refine take3 HT_ HW_ hHeld ?_)
   refine lay_ (bA 25 131071) (by kernel_rfl) ?_; refine along_ [(17, 127), (18, 128), (19, 129), (20, 130)] ?_
   iterate 4 (refine pure3 HT_ ?_)
   refine lay_ (bA 25 2097151) (by kernel_rfl) ?_; refine along_ [(21, 131)] ?_
   iterate 1 (refine take3 HT_ HW_ hHeld ?_)
   refine lay_ (bA 25 4194303) (by kernel_rfl) ?_; refine one3 22 (N := some 132) (bA 25 8388607) HT_ (fun K hK => ?_); refine goes_ Try.func22 (by kernel_rfl) rfl #[.pointer (some ⟨g, 0, none⟩), .string x.f0, .string x.f1] (by rfl) rfl rfl agn ?_
   with_reducible refine (table_Table_May.calls k g _ l' bs fl x.f0 x.f1 true _ (HA9.out.below HB8.out) Y2.out).mono ?_
   rintro e_ wy ⟨rfl, hb⟩
   refine ⟨_, rfl, ?_⟩; have HBy := aS (below_step HB8.out hb); have By := aS (blk_below B8.out hb); clear hb HB8 B8; refine hK.out _ _ ⟨range_of By.out, HS.out _ HBy.out⟩ (fun hHeld => ?_); clear hK K; refine nm 132 ?_; refine along_ [(23, 133), (24, 134)] ?_
   iterate 2 (refine pure3 HT_ ?_)
   refine lay_ (bA 25 33554431) (by kernel_rfl) ?_; refine done_ (done_of HT_.out (by kernel_rfl)) ?_; clear HT_ HW_ hHeld By
   try go_wp2
   go_roundw
   case rel => exact ⟨i + 1, by first | rfl | (rw [hwr]; rfl), ⟨hlt⟩, HA2, HBy⟩
   case measure => first | exact meas1 hwr hlt | exact meas1 rfl hlt
  ·
   have d1 : decide ((i : Int) < (s.length : Int)) = false := decide_eq_false (by omega)
   have hge : ¬ ((i : Int) < (s.length : Int)) := by omega
   obtain ⟨wq, hwq⟩ : ∃ wq, wq = wr := ⟨_, rfl⟩
   subst hwq; have HA4 := aS (HA9.out.below HBr.out); have HC4 := aS (Kd.C_below HC9.out HBr.out); have HB4 := aS (below_step HB9.out HBr.out); clear hi HBr HA
   go_wp2_with (first | (go_at_call 21; (with_reducible refine (table_Table_Get.calls k g _ l' bs fl a2 a3 a4 q1 q2 q3 q4 q5 q6 _ HA4.out X10.out).mono ?_); rintro e_ w5 ⟨rfl, hb⟩; have HB5 := aS (below_step HB4.out hb); have HC5 := aS (Kd.C_below HC4.out hb); clear hb HA4 HB4 HC4) | ((with_reducible refine gate_dst (N := 19) rfl ?_); refine box_event ?hg (N := 19) ?hd (cs := #[.string ⟨#[]⟩, .string ⟨#[]⟩, .int .i64 0, .string ⟨#[]⟩, .bool false]) (t := 42) ?hr ?_; (case hd => rfl); (case hg => rfl); (case hr => (first | (go_simp; done) | (go_simp; rfl))); intro g13 hg w6 hb hbl; have B6 := aS hb; have G6 : Aside0 (w5.heap.size ≤ g13) := aS (by rw [hg]; exact Nat.le_refl _); have L6 := aS hbl; clear hg hb hbl) | ((with_reducible refine gate_store (t := 42) (p := 19) rfl ?_); refine wpList_store_row rfl 42 _ _ rfl g13 #[.string q1, .string q2, .int .i64 q3, .string q4, .bool q5] rfl rfl 42 _ B6.out (by kernel_rfl) rfl (by kernel_rfl) ?_; have B7 := aS (setRow_heap w6 g13 _ #[.string q1, .string q2, .int .i64 q3, .string q4, .bool q5] _ _ B6.out); have HS := aS (below_setRow L6.out G6.out #[.string q1, .string q2, .int .i64 q3, .string q4, .bool q5]); have HB7 := aS (below_step HB5.out HS.out); have HC7 := aS (Kd.C_below HC5.out HS.out); clear B6 L6 HS HB5 HC5 G6; generalize World.setRow w6 g13 #[.string q1, .string q2, .int .i64 q3, .string q4, .bool q5] = w7 at B7 HB7 HC7 ⊢) | (go_at_call 23; (with_reducible refine (shardlogref08_Newest.calls k As cs s a2 a3 a4 q1 q2 q3 q4 q5 q6 _ HC7.out HLs.out X11.out).mono ?_); rintro e_ w8 ⟨rfl, hb⟩; have B8 := aS (blk_below B7.out hb); have HB8 := aS (below_step HB7.out hb); clear hb B7 HB7 HC7) | ((with_reducible refine gate_dst (N := 21) rfl ?_); refine box_event ?hg (N := 21) ?hd (cs := #[.string ⟨#[]⟩, .string ⟨#[]⟩, .int .i64 0, .string ⟨#[]⟩, .bool false]) (t := 42) ?hr ?_; (case hd => rfl); (case hg => rfl); (case hr => (first | (go_simp; done) | (go_simp; rfl))); intro g15 hg w9 hb hbl; have B9 := aS hb; have G9 : Aside0 (w8.heap.size ≤ g15) := aS (by rw [hg]; exact Nat.le_refl _); have L9 := aS hbl; clear hg hb hbl) | ((with_reducible refine gate_store (t := 42) (p := 21) rfl ?_); refine wpList_store_row rfl 42 _ _ rfl g15 #[.string q1, .string q2, .int .i64 q3, .string q4, .bool q5] rfl rfl 42 _ B9.out (by kernel_rfl) rfl (by kernel_rfl) ?_; have BB := aS (setRow_heap w9 g15 _ #[.string q1, .string q2, .int .i64 q3, .string q4, .bool q5] _ _ B9.out); have HS := aS (below_setRow L9.out G9.out #[.string q1, .string q2, .int .i64 q3, .string q4, .bool q5]); have BA := aS (blk_below B8.out HS.out); have HBA := aS (below_step HB8.out HS.out); clear B8 B9 L9 HS HB8 G9; generalize World.setRow w9 g15 #[.string q1, .string q2, .int .i64 q3, .string q4, .bool q5] = wB at BB BA HBA ⊢; have q13_ := cK5 BA; have q15_ := cK5 BB))
   go_ret
   exact ⟨rfl, HBA.out⟩


/-- THE ONE PURE STATEMENT of shardloglaw12_TableBack. -/
def shardloglaw12_TableBack.Pure : Prop := ∀ (l0 : List (S42)) (a1 : Int) (a2 : ByteArray) (a3 : ByteArray) (a4 : Int), (l0.length ≤ maxLen ∧ l0.length * 64 ≤ 140737488351232 ∧ ∀ y0_ ∈ l0, (y0_.f0.size ≤ 140737488351232 ∧ y0_.f1.size ≤ 140737488351232 ∧ (Lit.int .i64 y0_.f2).wf = true ∧ y0_.f3.size ≤ 140737488351232 ∧ True)) → (Lit.int .u8 a1).wf = true → a2.size ≤ 140737488351232 → a3.size ≤ 140737488351232 → (Lit.int .i64 a4).wf = true → ∃ k, shardloglaw12_TableBack.f k l0 a1 a2 a3 a4 = some true
theorem shardloglaw12_TableBack.walk (P : shardloglaw12_TableBack.Pure) (A0 : Option Addr) (c0 : Nat) (l0 : List (S42)) (a1 : Int) (a2 : ByteArray) (a3 : ByteArray) (a4 : Int) (w : World) (wf0 : (l0.length ≤ maxLen ∧ l0.length * 64 ≤ 140737488351232 ∧ ∀ y0_ ∈ l0, (y0_.f0.size ≤ 140737488351232 ∧ y0_.f1.size ≤ 140737488351232 ∧ (Lit.int .i64 y0_.f2).wf = true ∧ y0_.f3.size ≤ 140737488351232 ∧ True))) (hr0 : Kd.C k42 w A0 l0.length l0) (hc0 : l0.length ≤ c0) (wf1 : (Lit.int .u8 a1).wf = true) (wf2 : a2.size ≤ 140737488351232) (wf3 : a3.size ≤ 140737488351232) (wf4 : (Lit.int .i64 a4).wf = true) :
  Calls Try.prog 4 #[.slice A0 l0.length c0, .int .u8 a1, .string a2, .string a3, .int .i64 a4] w fun e w' => e = .returned (.bool true) ∧ Below w.heap.size w w' := by
 obtain ⟨k, h⟩ := P l0 a1 a2 a3 a4 wf0 wf1 wf2 wf3 wf4; refine (shardloglaw12_TableBack.calls k A0 c0 l0 a1 a2 a3 a4 true w hr0 hc0 h).mono ?_
 rintro e w' ⟨rfl, hd⟩
 exact ⟨rfl, hd⟩

end Go.Proofs.Ytinhpolmanccgaa.X
