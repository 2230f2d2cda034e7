-- written by a program of this session's, over the kit's print
import Derived.Test.YtinhpolmanccgaaXx0
import Derived.Test.YtinhpolmanccgaaXx1
import Derived.Test.YtinhpolmanccgaaXx3
import Derived.Test.YtinhpolmanccgaaXx4
import Derived.Test.YtinhpolmanccgaaXx5
import Derived.Test.YtinhpolmanccgaaXx6
import Derived.Test.YtinhpolmanccgaaXx8
namespace Go.Proofs.Ytinhpolmanccgaa.X
open Go.RowKit Go.Proofs.YtinhpolmanccgaaW.PrintWords Go.Proofs.YtinhpolmanccgaaW.PrintLast Go.Proofs.YtinhpolmanccgaaW.PrintMore
attribute [local go_sem] max2_int min2_int max_two min_two max_three min_three max_four min_four gtr_str   -- for this text's walks alone
set_option linter.unusedVariables false
set_option linter.unusedSimpArgs false

attribute [local go_sem high] eqA42
/-! ### table_Open: function 16 -/
/-- A table: block g holds the row of its cells, that of its blocks, and its filter's; all are new since base. -/
structure table_Open.AtV (w : World) (base g : Nat) (vl vb vf : Value) (l : List S42) (bs : List (List S42)) (fl : List Int) : Prop where
 ge : base ≤ g
 blk : w.heap[g]? = some (.cells #[vl, vb, vf] 70 (0, 0))
 hl : Kd.R k42 42 w base (fun _ => True) vl l
 hb : Kd.R (Kd.slice 42 k42) 22 w base (fun _ => True) vb bs
 hf : Kd.R (Kd.int .u8) 5 w base (fun _ => True) vf fl
def table_Open.At (w : World) (base g : Nat) (l : List S42) (bs : List (List S42)) (fl : List Int) : Prop := ∃ vl vb vf, table_Open.AtV w base g vl vb vf l bs fl
section
variable {w w1 : World} {base b g : Nat} {vl vb vf : Value} {l : List S42} {bs : List (List S42)} {fl : List Int}
theorem table_Open.AtV.step (h : table_Open.AtV w base g vl vb vf l bs fl) (hm : ∀ k, base ≤ k → k < w.heap.size → w1.heap[k]? = w.heap[k]?) : table_Open.AtV w1 base g vl vb vf l bs fl :=
 ⟨h.ge, (hm g h.ge (blk_lt h.blk)).trans h.blk, Kd.R_mono (Kd.R_step (Kd.R_bound h.hl) (fun k hk hlt => hm k hk.2.1 hlt)) (fun _ _ => trivial),
  Kd.R_mono (Kd.R_step (Kd.R_bound h.hb) (fun k hk hlt => hm k hk.2.1 hlt)) (fun _ _ => trivial), Kd.R_mono (Kd.R_step (Kd.R_bound h.hf) (fun k hk hlt => hm k hk.2.1 hlt)) (fun _ _ => trivial)⟩
theorem table_Open.AtV.below (h : table_Open.AtV w base g vl vb vf l bs fl) (hb : Below w.heap.size w w1) : table_Open.AtV w1 base g vl vb vf l bs fl := h.step (fun k _ hk => hb.block k hk)
theorem table_Open.AtV.lower (h : table_Open.AtV w base g vl vb vf l bs fl) (hb : b ≤ base) : table_Open.AtV w b g vl vb vf l bs fl :=
 ⟨Nat.le_trans hb h.ge, h.blk, Kd.R_lower h.hl hb, Kd.R_lower h.hb hb, Kd.R_lower h.hf hb⟩
theorem table_Open.AtV.up (h : table_Open.AtV w base g vl vb vf l bs fl) : table_Open.At w base g l bs fl := ⟨vl, vb, vf, h⟩
theorem table_Open.At.step (h : table_Open.At w base g l bs fl) (hm : ∀ k, base ≤ k → k < w.heap.size → w1.heap[k]? = w.heap[k]?) : table_Open.At w1 base g l bs fl := by
 obtain ⟨vl, vb, vf, h⟩ := h; exact ⟨vl, vb, vf, h.step hm⟩
theorem table_Open.At.below (h : table_Open.At w base g l bs fl) (hb : Below w.heap.size w w1) : table_Open.At w1 base g l bs fl := h.step (fun k _ hk => hb.block k hk)
theorem table_Open.At.lower (h : table_Open.At w base g l bs fl) (hb : b ≤ base) : table_Open.At w b g l bs fl := by
 obtain ⟨vl, vb, vf, h⟩ := h; exact ⟨vl, vb, vf, h.lower hb⟩
end
/-- A table while it is opened: what is left is read from v9. -/
structure table_Open.St (w0 w : World) (g : Nat) (vl vb v9 : Value) (l : List S42) (bs : List (List S42)) (rest : List Int) : Prop where
 ge : w0.heap.size ≤ g
 blk : w.heap[g]? = some (.cells #[vl, vb, .slice none 0 0] 70 (0, 0))
 hl : Kd.R k42 42 w w0.heap.size (fun _ => True) vl l
 hb : Kd.R (Kd.slice 42 k42) 22 w w0.heap.size (fun k => some k ≠ vl.ownBlock) vb bs
 hr : Kd.V (Kd.int .u8) 5 w w0.heap.size (fun k => some k ≠ vl.ownBlock ∧ some k ≠ vb.ownBlock ∧ k ≠ g) v9 rest
 below : Below w0.heap.size w0 w
section
variable {w0 w W W1 W2 : World} {g N : Nat} {vl vb v9 vl1 vb1 vr vn : Value} {l ll1 : List S42} {bs bs1 : List (List S42)} {rest r1 : List Int}
theorem table_Open.St.on (h : table_Open.St w0 w g vl vb v9 l bs rest) (hb : Below w.heap.size w W) : table_Open.St w0 W g vl vb v9 l bs rest :=
 ⟨h.ge, blk_below h.blk hb, Kd.R_below h.hl hb, Kd.R_below h.hb hb, Kd.V_below h.hr hb, below_step h.below hb⟩
theorem table_Open.St.mid (h : table_Open.St w0 W g vl vb v9 l bs rest) (hg1 : W.grownBy W1 vb.ownBlock) : Kd.R k42 42 W1 w0.heap.size (fun _ => True) vl l ∧ W1.heap[g]? = some (.cells #[vl, vb, .slice none 0 0] 70 (0, 0)) :=
 ⟨Kd.R_mono (Kd.R_grown (Kd.R_tight rfl h.hl) hg1 (fun k hk => by
  obtain ⟨cells, hc⟩ := Kd.R_typed h.hl k hk.symm
  exact Kd.R_ne h.hb hc (by decide))) (fun _ _ => trivial), blk_grown h.blk hg1 (Kd.R_ne h.hb h.blk (by decide))⟩
theorem table_Open.St.next (h : table_Open.St w0 W g vl vb v9 l bs rest) (hr : Kd.R (Kd.int .u8) 5 W N (fun _ => True) vr r1) (hvl : ∀ k, vl.ownBlock = some k → k < N) (hvb : ∀ k, vb.ownBlock = some k → k < N) (hgN : g < N)
  (ho1 : Kd.R (Kd.slice 42 k42) 22 W1 w0.heap.size (fun k => some k ≠ vl.ownBlock) vb1 bs1) (hg1 : W.grownBy W1 vb.ownBlock) (hat1 : vb1.ownBlock = vb.ownBlock ∨ ∃ b, vb1.ownBlock = some b ∧ W.heap.size ≤ b)
  (ho2 : Kd.R k42 42 W2 w0.heap.size (fun _ => True) vl1 ll1) (hg2 : W1.grownBy W2 vl.ownBlock) (hat2 : vl1.ownBlock = vl.ownBlock ∨ ∃ b, vl1.ownBlock = some b ∧ W1.heap.size ≤ b) (hb2 : Below w0.heap.size w0 W2) :
  table_Open.St w0 ((W2.setCell ⟨g, 1, none⟩ vb1).setCell ⟨g, 0, none⟩ vl1) g vl1 vb1 vr ll1 bs1 r1 := by
 obtain ⟨hl1, hG1⟩ := h.mid hg1; have hG2 := blk_grown hG1 hg2 (Kd.R_ne hl1 hG1 (by decide)); have hG3 : (W2.setCell ⟨g, 1, none⟩ vb1).heap[g]? = some (.cells #[vl, vb1, .slice none 0 0] 70 (0, 0)) := blk_put hG2 1 vb1 rfl; have hG4 : ((W2.setCell ⟨g, 1, none⟩ vb1).setCell ⟨g, 0, none⟩ vl1).heap[g]? = some (.cells #[vl1, vb1, .slice none 0 0] 70 (0, 0)) := blk_put hG3 0 vl1 rfl; refine ⟨h.ge, hG4, Kd.R_set (Kd.R_set ho2 hG2 (by decide) 1 vb1) hG3 (by decide) 0 vl1, ?_, ?_, below_set (below_set hb2 h.ge) h.ge⟩
 ·
  refine Kd.R_set (Kd.R_set (Kd.R_mono (Kd.R_grown (Kd.R_bound ho1) hg2 (fun k hk => hk.1)) (fun k hk => ?_)) hG2 (by decide) 1 vb1) hG3 (by decide) 0 vl1
  rcases hat2 with e | ⟨b, e, hle⟩
  ·
   rw [e]; exact hk.1
  ·
   rw [e]; intro he; injection he with he; have := hk.2.2.1; omega
 ·
  have hb0 : ∀ k, some k = vr.ownBlock → N ≤ k ∧ k < W.heap.size := fun k hk => ⟨Kd.R_base hr k hk.symm, Kd.R_lt hr k hk.symm⟩
  have r1' := Kd.R_grown (Kd.R_tight rfl hr) hg1 (fun k hk he => by have := hb0 k hk; have := hvb k he.symm; omega)
  have r2 := Kd.R_grown r1' hg2 (fun k hk he => by have := hb0 k hk; have := hvl k he.symm; omega); have r3 := Kd.R_set (Kd.R_set r2 hG2 (by decide) 1 vb1) hG3 (by decide) 0 vl1; refine Kd.V_mono (Kd.R_V r3) (fun k hk => ?_); have hk1 := hb0 k hk; have hsz := hg1.size; refine ⟨fun he => ?_, fun he => ?_, by omega⟩
  ·
   rcases hat2 with e | ⟨b, e, hle⟩
   ·
    have := hvl k (by rw [← e]; exact he.symm); omega
   ·
    rw [e] at he; injection he with he; omega
  ·
   rcases hat1 with e | ⟨b, e, hle⟩
   ·
    have := hvb k (by rw [← e]; exact he.symm); omega
   ·
    rw [e] at he; injection he with he; omega
end
def table_Open.lp : Nat → List Int → List S42 → List (List S42) → Option (Option (List S42 × List (List S42)))
 | 0, _, _, _ => none
 | k + 1, rest, l, bs => if (rest.length : Int) = 0 then some (some (l, bs)) else (block_Get.f k rest).bind fun q => if q.2.2 = 0 then (if (l.length + q.1.length) * 64 ≤ 140737488355328 ∧ (bs.length + 1) * 24 ≤ 140737488355328 then table_Open.lp k q.2.1 (l ++ q.1) (bs ++ [q.1]) else none) else some none
theorem table_Open.mono_lp : ∀ k rest l bs, LeO (table_Open.lp k rest l bs) (table_Open.lp (k + 1) rest l bs)
 | 0, _, _, _ => LeO.none _
 | k + 1, rest, l, bs => by
  unfold table_Open.lp
  exact LeO.ite (LeO.refl _) (LeO.bind (block_Get.mono _ _) fun _ => LeO.ite (LeO.ite (table_Open.mono_lp k _ _ _) (LeO.refl _)) (LeO.refl _))
/-- Behind the loop: the cells, the blocks, what was handed in. -/
def table_Open.tail (k : Nat) (b : List Int) (l : List S42) (bs : List (List S42)) : Option (Option (List S42 × List (List S42) × List Int)) :=
 (table_filter.f k l).bind fun fl => (cell_Sorted.f k l).bind fun so => if so = true then (table_cutable.f k bs).bind fun cu => if cu = true then (table_bytes.f k bs fl).bind fun y => if y.2 = 0 then (slices_Equal_byte_byte.f k y.1 b).bind fun eq => if eq = true then some (some (l, bs, fl)) else some none else some none else some none else some none
def table_Open.f (k : Nat) (b : List Int) : Option (Option (List S42 × List (List S42) × List Int)) :=
 if (b.length : Int) < 4 then some none else (wire_CutNum.f k (b.drop (b.length - 4))).bind fun q =>
  if wrap64 (wrap64 ((b.length : Int) - 4) - q.1) < 0 then some none else if wrap64 (wrap64 ((b.length : Int) - 4) - q.1) ≤ (b.length : Int) then (table_Open.lp k (b.take (wrap64 (wrap64 ((b.length : Int) - 4) - q.1)).toNat) [] []).bind fun s => match s with
   | none => some none
   | some (l, bs) => table_Open.tail k b l bs else none
theorem table_Open.mono_tail (k b l bs) : LeO (table_Open.tail k b l bs) (table_Open.tail (k + 1) b l bs) :=
 LeO.bind (table_filter.mono _ _) fun _ => LeO.bind (cell_Sorted.mono _ _) fun _ => LeO.ite (LeO.bind (table_cutable.mono _ _) fun _ => LeO.ite (LeO.bind (table_bytes.mono _ _ _) fun _ => LeO.ite (LeO.bind (slices_Equal_byte_byte.mono _ _ _) fun _ => LeO.refl _) (LeO.refl _)) (LeO.refl _)) (LeO.refl _)
theorem table_Open.mono : ∀ a0 k, LeO (table_Open.f k a0) (table_Open.f (k + 1) a0) := fun b k =>
 LeO.ite (LeO.refl _) (LeO.bind (wire_CutNum.mono _ _) fun _ => LeO.ite (LeO.refl _) (LeO.ite (LeO.bind (table_Open.mono_lp _ _ _ _) fun s => by
  cases s with
  | none => exact LeO.refl _
  | some p => exact table_Open.mono_tail _ _ _ _) (LeO.refl _)))
def table_Open.Res (w w' : World) (e : Ending) : Option (List S42 × List (List S42) × List Int) → Prop
 | none => e = .returned (.tuple #[.pointer none, .int .i64 2]) ∧ Below w.heap.size w w'
 | some (l, bs, fl) => ∃ g : Nat, e = .returned (.tuple #[.pointer (some ⟨g, 0, none⟩), .int .i64 0]) ∧ table_Open.At w' w.heap.size g l bs fl ∧ Below w.heap.size w w'
set_option maxHeartbeats 8000000 in
set_option maxRecDepth 100000 in
theorem table_Open.calls (k : Nat) (A0 : Option Addr) (c0 : Nat) (b : List Int) (o : Option (List S42 × List (List S42) × List Int)) (w : World) (hr0 : Kd.C (Kd.int .u8) w A0 b.length b) (hc0 : b.length ≤ c0) (h : table_Open.f k b = some o) :
  Calls Try.prog 16 #[.slice A0 b.length c0] w fun e w' => table_Open.Res w w' e o := by
 have hu26 := Try.underlying26; have hu22 := Try.underlying22; have hu39 := Try.underlying39; have hu70 := Try.underlying70; have hmx : b.length ≤ 9223372036854775807 := hr0.2.1; have HR := aS hr0; have HC := aS hc0; have HMX := aS hmx; clear hr0 hc0 hmx
 unfold table_Open.f at h
 by_cases h4 : (b.length : Int) < 4
 ·
  rw [if_pos h4] at h
  obtain rfl := Option.some.inj h
  have d4 : decide ((b.length : Int) < 4) = true := decide_eq_true h4; have e4 : decide (b.length < 4) = true := decide_eq_true (by omega); clear h h4
  go_enter Try.func16, Try.ntmps16
  go_wp2
  go_ret2
  exact ⟨rfl, Below.refl _ _⟩
 rw [if_neg h4] at h; have d4 : decide ((b.length : Int) < 4) = false := decide_eq_false h4; have e4 : decide (b.length < 4) = false := decide_eq_false (by omega)
 have hw4 : wrap64 ((b.length : Int) - 4) = (b.length : Int) - 4 := by rw [← i64_w, IntKind.wrap_i64]; have := HMX.out; omega
 replace h := obm h; obtain ⟨⟨q1, q2, q3⟩, x1, h⟩ := h; rw [hw4] at h
 replace h : (if wrap64 ((b.length : Int) - 4 - q1) < 0 then some none else if wrap64 ((b.length : Int) - 4 - q1) ≤ (b.length : Int) then (table_Open.lp k (b.take (wrap64 ((b.length : Int) - 4 - q1)).toNat) [] []).bind fun s => match s with
   | none => some none
   | some (l, bs) => table_Open.tail k b l bs else none) = some o := h
 have X1 := aS x1; have H := aS h; have H4 := aS h4; clear x1 h h4; obtain ⟨ii, hii, _, hsz, _⟩ := info_parts info5; have hcut1 := cut_from (P := Try.prog) 26 5 .i64 hu26 hii 1 hsz A0 b.length c0 ((b.length : Int) - 4) (by have := H4.out; omega) (by omega); have HCd := aS (Kd.C_drop HR.out (m := ((b.length : Int) - 4).toNat) (by omega) HC.out)
 have hl4 : b.length - ((b.length : Int) - 4).toNat = 4 := by have := H4.out; omega
 have hd4 : ((b.length : Int) - 4).toNat = b.length - 4 := by have := H4.out; omega
 rw [show ((Kd.int .u8) : Kd Int).sz = 1 from rfl] at HCd; rw [hl4, hd4] at hcut1; rw [hd4] at HCd
 have hd5 : (b.drop (b.length - 4)).length = 4 := by rw [lld]; have := H4.out; omega
 obtain ⟨bd, hbd⟩ : ∃ bd, bd = b.drop (b.length - 4) := ⟨_, rfl⟩
 rw [← hbd] at HCd X1 hd5
 generalize (if c0 = b.length - 4 then A0 else A0.map (·.add ((b.length - 4) * 1))) = Ad at hcut1 HCd
 obtain ⟨cd, hcd⟩ : ∃ cd, c0 - (b.length - 4) = cd := ⟨_, rfl⟩
 rw [hcd, ← hd5] at hcut1; have HD5 : Aside0 (bd.length ≤ cd) := aS (by rw [hd5]; have := HC.out; have := H4.out; omega); clear hbd hl4 hd4 hd5 hcd
 go_enter Try.func16, Try.ntmps16
 go_upto_region 5 with (first | (go_at_call 38; (with_reducible refine (wire_CutNum.calls k Ad cd bd q1 q2 q3 _ HCd.out HD5.out X1.out).mono ?_); rintro e_ w2 ⟨v2, rfl, ho, hb⟩; have HB2 := aS hb; clear ho hb))
 clear hcut1; have h := H.out; clear H
 obtain ⟨end_, he_⟩ : ∃ x, wrap64 ((b.length : Int) - 4 - q1) = x := ⟨_, rfl⟩
 rw [he_] at h
 by_cases hneg : end_ < 0
 ·
  rw [if_pos hneg] at h
  obtain rfl := Option.some.inj h
  have d5 : decide (end_ < 0) = true := decide_eq_true hneg; clear h hneg
  go_wp2
  go_ret2
  exact ⟨rfl, HB2.out⟩
 rw [if_neg hneg] at h; have d5 : decide (end_ < 0) = false := decide_eq_false hneg
 by_cases hle : end_ ≤ (b.length : Int)
 case neg => rw [if_neg hle] at h; cases h
 rw [if_pos hle] at h; replace h := obm h; obtain ⟨s, x2, h⟩ := h; have HE := aS (And.intro (show 0 ≤ end_ by omega) hle); have H := aS h; have X2 := aS x2; clear h x2 hneg hle; have hcut2 := cut_to (P := Try.prog) 26 5 .i64 hu26 hii A0 b.length c0 end_ HE.out.1 HE.out.2 HC.out; have HCt := aS (Kd.C_take HR.out (m := end_.toNat) (by have := HE.out; omega))
 have hl2 : (b.take end_.toNat).length = end_.toNat := by rw [llt]; have := HE.out; omega
 obtain ⟨bt, hbt⟩ : ∃ bt, bt = b.take end_.toNat := ⟨_, rfl⟩
 rw [← hbt] at HCt X2 hl2; rw [← hl2] at hcut2; have HL2 : Aside0 (bt.length ≤ c0) := aS (by rw [hl2]; have := HE.out; have := HC.out; omega); clear hbt hl2
 go_upto_region 8 with (first | ((with_reducible refine gate_dst (N := 36) rfl ?_); refine box_event ?hg (N := 36) ?hd (cs := #[.slice none 0 0, .slice none 0 0, .slice none 0 0]) (t := 70) ?hr ?_; (case hd => rfl); (case hg => rfl); (case hr => (first | (go_simp; done) | (go_simp; rfl))); intro g hg w3 hb hbl; have HG := aS hb; have GE : Aside0 (w2.heap.size ≤ g) := aS (by rw [hg]; exact Nat.le_refl _); have HB3 := aS hbl; clear hg hb hbl))
 go_wp2
 have HS0 : Aside0 (table_Open.St w w3 g (.slice none 0 0) (.slice none 0 0) (.slice A0 bt.length c0) [] [] bt) := aS ⟨Nat.le_trans HB2.out.size GE.out, HG.out, Kd.R_nil _ _ _ _ _, Kd.R_nil _ _ _ _ _,
  Kd.V_mono (Kd.V_below (Kd.V_mk HL2.out (Kd.C_F (Kd.heap_int .u8) HCt.out)) (below_step HB2.out HB3.out)) (fun k hk => ⟨by simp [Value.ownBlock], by simp [Value.ownBlock], by have := HB2.out.size; have := GE.out; omega⟩), below_step HB2.out HB3.out⟩
 clear hcut2 HCt HL2 HG GE HB2 HB3 d4 e4 d5 he_ hw4
 go_loopg [9] k (fun kq v9 wr => ∃ (vl vb : Value) (rest : List Int) (l : List S42) (bs : List (List S42)), Aside0 (table_Open.lp kq rest l bs = some s) ∧ Aside0 (kq ≤ k) ∧ Aside0 (table_Open.St w wr g vl vb v9 l bs rest))
 case atStart => exact ⟨_, _, bt, [], [], X2, ⟨Nat.le_refl _⟩, HS0⟩
 case round =>
  clear HS0 X2; obtain ⟨vl, vb, rest, l, bs, HA, HK, HS⟩ := hrel
  cases gk with
  | zero => exact absurd HA.out (by simp [table_Open.lp])
  | succ k1 =>
  have ha := HA.out
  unfold table_Open.lp at ha
  clear HA; obtain ⟨A9, c9, rfl⟩ := Kd.V_slice HS.out.hr
  by_cases hz : (rest.length : Int) = 0
  ·
   rw [if_pos hz] at ha
   obtain rfl := Option.some.inj ha
   have d0 : decide (0 < (rest.length : Int)) = false := decide_eq_false (by omega); have d1 : decide (0 < rest.length) = false := decide_eq_false (by omega); clear ha hz; have h : table_Open.tail k b l bs = some o := H.out; clear H
   unfold table_Open.tail at h
   replace h := obm h; obtain ⟨fl, x3, h⟩ := h; have X3 := aS x3; have H := aS h; clear x3 h; have q3 := cK3 (aS HS.out.blk); obtain ⟨Al, cl, rfl⟩ := Kd.R_slice HS.out.hl; obtain ⟨Ab, cb, rfl⟩ := Kd.R_slice HS.out.hb
   go_upto_region 15 with (first | (go_at_call 31; (with_reducible refine (table_filter.calls k Al cl l fl _ (Kd.R_reads' HS.out.hl).2.2 (Kd.R_reads' HS.out.hl).2.1 X3.out).mono ?_); rintro e_ w5 ⟨vf, rfl, ho, hb⟩; obtain ⟨Af, cf, rfl⟩ := Kd.R_slice ho; have HF := aS ho; have HS5 := aS (HS.out.on hb); clear ho hb q3; have q3 := cK3 (aS HS5.out.blk)))
   clear q3; have HV : Aside0 (table_Open.AtV (w5.setCell ⟨g, 2, none⟩ (.slice Af fl.length cf)) w.heap.size g (.slice Al l.length cl) (.slice Ab bs.length cb) (.slice Af fl.length cf) l bs fl) := aS ⟨HS5.out.ge, blk_put HS5.out.blk 2 (.slice Af fl.length cf) rfl, Kd.R_set HS5.out.hl HS5.out.blk (by decide) 2 (.slice Af fl.length cf), Kd.R_mono (Kd.R_set HS5.out.hb HS5.out.blk (by decide) 2 (.slice Af fl.length cf)) (fun _ _ => trivial), Kd.R_set (Kd.R_lower HF.out (Nat.le_trans HS.out.below.size (Nat.le_refl _))) HS5.out.blk (by decide) 2 (.slice Af fl.length cf)⟩; have HB := aS (below_set (j := 2) (v := .slice Af fl.length cf) HS5.out.below HS5.out.ge); clear HS HS5 HF
   generalize w5.setCell ⟨g, 2, none⟩ (.slice Af fl.length cf) = w6 at HV HB ⊢
   have h := H.out; clear H; replace h := obm h; obtain ⟨so, x4, h⟩ := h; have X4 := aS x4; have q3 := cK3 (aS HV.out.blk); clear x4
   cases so with
   | false =>
    rw [if_neg Bool.false_ne_true] at h
    obtain rfl := Option.some.inj h
    clear h
    go_wp2_with (first | (go_at_call 40; (with_reducible refine (cell_Sorted.calls k Al cl l false _ (Kd.R_reads' HV.out.hl).2.2 (Kd.R_reads' HV.out.hl).2.1 X4.out).mono ?_); rintro e_ w7_ ⟨rfl, hb⟩; replace HV := aS (HV.out.below hb); replace HB := aS (below_step HB.out hb); clear hb q3; have q3 := cK3 (aS HV.out.blk)))
    go_ret2
    exact ⟨rfl, HB.out⟩
   | true =>
   rw [if_pos rfl] at h; replace h := obm h; obtain ⟨cu, x5, h⟩ := h; have X5 := aS x5; clear x5
   cases cu with
   | false =>
    rw [if_neg Bool.false_ne_true] at h
    obtain rfl := Option.some.inj h
    clear h
    go_wp2_with (first | (go_at_call 40; (with_reducible refine (cell_Sorted.calls k Al cl l true _ (Kd.R_reads' HV.out.hl).2.2 (Kd.R_reads' HV.out.hl).2.1 X4.out).mono ?_); rintro e_ w7_ ⟨rfl, hb⟩; replace HV := aS (HV.out.below hb); replace HB := aS (below_step HB.out hb); clear hb q3; have q3 := cK3 (aS HV.out.blk)) | (go_at_call 41; (with_reducible refine (table_cutable.calls k Ab cb bs false _ (Kd.R_reads' HV.out.hb).2.2 (Kd.R_reads' HV.out.hb).2.1 X5.out).mono ?_); rintro e_ w8_ ⟨rfl, hb⟩; replace HV := aS (HV.out.below hb); replace HB := aS (below_step HB.out hb); clear hb q3; have q3 := cK3 (aS HV.out.blk)))
    go_ret2
    exact ⟨rfl, HB.out⟩
   | true =>
   rw [if_pos rfl] at h; replace h := obm h; obtain ⟨⟨y1, y2⟩, x6, h⟩ := h; have X6 := aS x6; have H := aS h; clear x6 h
   go_upto_region 17 with (first | (go_at_call 40; (with_reducible refine (cell_Sorted.calls k Al cl l true _ (Kd.R_reads' HV.out.hl).2.2 (Kd.R_reads' HV.out.hl).2.1 X4.out).mono ?_); rintro e_ w7_ ⟨rfl, hb⟩; replace HV := aS (HV.out.below hb); replace HB := aS (below_step HB.out hb); clear hb q3; have q3 := cK3 (aS HV.out.blk)) | (go_at_call 41; (with_reducible refine (table_cutable.calls k Ab cb bs true _ (Kd.R_reads' HV.out.hb).2.2 (Kd.R_reads' HV.out.hb).2.1 X5.out).mono ?_); rintro e_ w8_ ⟨rfl, hb⟩; replace HV := aS (HV.out.below hb); replace HB := aS (below_step HB.out hb); clear hb q3; have q3 := cK3 (aS HV.out.blk)))
   refine start_ (n := 14) (ds := []) (S := fun w' => w'.cell? ⟨g, 1, none⟩ = some (.slice Ab bs.length cb) ∧ w'.cell? ⟨g, 2, none⟩ = some (.slice Af fl.length cf)) (bA 14 0) (by kernel_rfl) rfl rfl ⟨(blk_cell (blk_drew HV.out.blk) 1).trans rfl, (blk_cell (blk_drew HV.out.blk) 2).trans rfl⟩ (fun hHeld => ?_)
   generalize hw_ : World.drew _ = wd at hHeld ⊢
   have HVd : Aside0 (table_Open.AtV wd w.heap.size g _ _ _ l bs fl) := aS (hw_ ▸ HV.out.below (below_drew (Below.refl _ _))); have HBd : Aside0 (Below w.heap.size w wd) := aS (hw_ ▸ below_step HB.out (below_drew (Below.refl _ _))); clear hw_ HV HB q3; refine with_tabW (T := (true, [([], []), ([0], [0]), ([1], [1]), ([2], [2]), ([], []), ([4], [4]), ([5], [5]), ([6], [6]), ([3, 7], [3, 7]), ([8], [8]), ([9], [9]), ([9], [9]), ([10, 8, 0, 1, 2, 3, 4, 5, 6, 7, 8, 9, 10], [10]), ([11, 12, 0, 1, 2, 3, 4, 5, 6, 7, 8, 9, 10, 11, 12], [11])])) (B := [0, 1, 3, 7, 0, 16, 48, 112, 255, 511, 1023, 1023, 2047, 8191]) (by kernel_rfl) (by kernel_rfl) (fun HT_ HW_ => ?_); refine along_ [(0, 94), (1, 95), (2, 96)] ?_
   iterate 3 (refine pure3 HT_ ?_)
   refine lay_ (bA 14 7) (by kernel_rfl) ?_; refine along_ [(3, 97)] ?_
   iterate 1 (refine take3 HT_ HW_ hHeld ?_)
   refine lay_ (bA 14 15) (by kernel_rfl) ?_; refine along_ [(4, 98), (5, 99), (6, 100)] ?_
   iterate 3 (refine pure3 HT_ ?_)
   refine lay_ (bA 14 127) (by kernel_rfl) ?_; refine along_ [(7, 101)] ?_
   iterate 1 (refine take3 HT_ HW_ hHeld ?_)
   refine lay_ (bA 14 255) (by kernel_rfl) ?_; refine one3 8 (N := some 102) (bA 14 511) HT_ (fun K hK => ?_); refine goes_ Try.func30 (by kernel_rfl) rfl #[.slice Ab bs.length cb, .slice Af fl.length cf] (by rfl) rfl rfl agn ?_
   with_reducible refine (table_bytes.calls k Ab cb bs Af cf fl y1 y2 _ (Kd.R_reads' HVd.out.hb).2.2 (Kd.R_reads' HVd.out.hb).2.1 (Kd.R_reads' HVd.out.hf).2.2 (Kd.R_reads' HVd.out.hf).2.1 X6.out).mono ?_
   rintro e_ w9 ⟨vy, rfl, ho, hb⟩
   refine ⟨_, rfl, ?_⟩; obtain ⟨Ay, cy, rfl⟩ := Kd.R_slice ho; have HY := aS (Kd.R_reads' ho); have HV := aS (HVd.out.below hb); have HB := aS (below_step HBd.out hb); clear ho hb HVd HBd; refine hK.out _ _ ⟨(blk_cell HV.out.blk 1).trans rfl, (blk_cell HV.out.blk 2).trans rfl⟩ (fun hHeld => ?_); clear hK K; refine nm 102 ?_; refine along_ [(9, 93), (10, 103), (11, 104), (12, 13), (13, 14)] ?_
   iterate 5 (refine pure3 HT_ ?_)
   refine lay_ (bA 14 16383) (by kernel_rfl) ?_; refine done_ (done_of HT_.out (by kernel_rfl)) ?_; clear HT_ HW_ hHeld; have h := H.out; clear H
   by_cases he : y2 = 0
   rotate_left
   ·
    rw [if_neg he] at h
    obtain rfl := Option.some.inj h
    obtain ⟨he1, he2⟩ := eqF he; clear he h
    go_wp2
    go_ret2
    exact ⟨rfl, HB.out⟩
   rw [if_pos he] at h; obtain ⟨he1, he2⟩ := eqT he; replace h := obm h; obtain ⟨eq, x7, h⟩ := h; have X7 := aS x7; clear x7 he
   cases eq with
   | false =>
    rw [if_neg Bool.false_ne_true] at h
    obtain rfl := Option.some.inj h
    clear h
    go_wp2_with (first | (go_at_call 42; (with_reducible refine (slices_Equal_byte_byte.calls k Ay cy y1 A0 c0 b false _ HY.out.2.2 HY.out.2.1 (Kd.C_below HR.out HB.out) HC.out X7.out).mono ?_); rintro e_ w9_ ⟨rfl, hb'⟩; have hb := hb'.below; have n0_ := aS (HV.out.below hb); have n1_ := aS (below_step HB.out hb); clear HV HB; have HV := n0_; have HB := n1_; clear n0_ n1_ hb hb' HY))
    go_ret2
    exact ⟨rfl, HB.out⟩
   | true =>
    rw [if_pos rfl] at h
    obtain rfl := Option.some.inj h
    clear h
    go_wp2_with (first | (go_at_call 42; (with_reducible refine (slices_Equal_byte_byte.calls k Ay cy y1 A0 c0 b true _ HY.out.2.2 HY.out.2.1 (Kd.C_below HR.out HB.out) HC.out X7.out).mono ?_); rintro e_ w9_ ⟨rfl, hb'⟩; have hb := hb'.below; have n0_ := aS (HV.out.below hb); have n1_ := aS (below_step HB.out hb); clear HV HB; have HV := n0_; have HB := n1_; clear n0_ n1_ hb hb' HY))
    go_ret2
    exact ⟨g, rfl, ⟨_, _, _, HV.out⟩, HB.out⟩
  ·
   rw [if_neg hz] at ha; have d0 : decide (0 < (rest.length : Int)) = true := decide_eq_true (by omega); have d1 : decide (0 < rest.length) = true := decide_eq_true (by omega); replace ha := obm ha; obtain ⟨⟨l1, r1, e1⟩, y1, ha⟩ := ha; have Y1 := aS y1; have HA := aS ha; clear hz y1 ha
   go_upto_region 11 with (first | (go_at_call 39; (with_reducible refine (block_Get.calls k1 A9 c9 rest l1 r1 e1 _ (Kd.V_reads' HS.out.hr).2.2 (Kd.V_reads' HS.out.hr).2.1 Y1.out).mono ?_); rintro e_ w4 ⟨vn, vr, rfl, hn, hr, hb⟩; have HN := aS hn; have HRr := aS hr; have HS4 := aS (HS.out.on hb); clear hn hr hb))
   have ha := HA.out; clear HA
   by_cases he : e1 = 0
   rotate_left
   ·
    rw [if_neg he] at ha
    obtain rfl := Option.some.inj ha
    obtain ⟨he1, he2⟩ := eqF he
    obtain rfl := Option.some.inj (show some none = some o from H.out)
    clear he ha
    go_wp2
    go_ret2
    exact ⟨rfl, HS4.out.below⟩
   rw [if_pos he] at ha; obtain ⟨he1, he2⟩ := eqT he
   by_cases hlim : (l.length + l1.length) * 64 ≤ 140737488355328 ∧ (bs.length + 1) * 24 ≤ 140737488355328
   case neg => rw [if_neg hlim] at ha; cases ha
   rw [if_pos hlim] at ha
   obtain ⟨bs1, hbs1⟩ : ∃ x, x = bs ++ [l1] := ⟨_, rfl⟩
   obtain ⟨ll1, hll1⟩ : ∃ x, x = l ++ l1 := ⟨_, rfl⟩
   replace ha : table_Open.lp k1 r1 ll1 bs1 = some s := by rw [hbs1, hll1]; exact ha
   have HBS := aS hbs1; have HLS := aS hll1; have HA := aS ha; have HLM := aS hlim; clear he ha hlim hbs1 hll1; have hvl : Aside0 (∀ k, vl.ownBlock = some k → k < wr.heap.size) := aS (fun k hk => Kd.R_lt HS.out.hl k hk); have hvb : Aside0 (∀ k, vb.ownBlock = some k → k < wr.heap.size) := aS (fun k hk => Kd.R_lt HS.out.hb k hk); have hgN : Aside0 (g < wr.heap.size) := aS (blk_lt HS.out.blk); have hwN : Aside0 (w.heap.size ≤ wr.heap.size) := aS HS.out.below.size; clear HS
   go_upto_region 13 with (fail)
   refine start_ (n := 23) (ds := [18, 21]) (S := fun w' => w'.cell? ⟨g, 0, none⟩ = some vl ∧ w'.cell? ⟨g, 1, none⟩ = some vb) (bA 23 0) (by kernel_rfl) rfl rfl ⟨(blk_cell (blk_drew HS4.out.blk) 0).trans rfl, (blk_cell (blk_drew HS4.out.blk) 1).trans rfl⟩ (fun hHeld => ?_)
   generalize hw_ : World.drew _ = w5 at hHeld ⊢
   have HS5 : Aside0 (table_Open.St w w5 g vl vb _ l bs rest) := aS (hw_ ▸ HS4.out.on (below_drew (Below.refl _ _))); have HN5 : Aside0 (Kd.R k42 42 w5 wr.heap.size (fun _ => True) vn l1) := aS (hw_ ▸ Kd.R_below HN.out (below_drew (Below.refl _ _))); have HR5 : Aside0 (Kd.R (Kd.int .u8) 5 w5 wr.heap.size (fun _ => True) vr r1) := aS (hw_ ▸ Kd.R_below HRr.out (below_drew (Below.refl _ _))); clear hw_ HS4 HN HRr; obtain ⟨An, cn, rfl⟩ := Kd.R_slice HN5.out; refine with_tabW (T := (true, [([], []), ([], []), ([], []), ([2], [2]), ([3], [3]), ([4], [4]), ([], []), ([6], [6]), ([5, 7], [5, 7]), ([], []), ([9], [9]), ([10], [10]), ([11], [11]), ([], []), ([12, 13, 8], [12, 13]), ([], []), ([0, 0, 2, 3, 4, 5, 6, 7, 8, 12, 14], [0]), ([16, 0, 2, 3, 4, 5, 6, 7, 8, 12, 14], [16]), ([17, 8, 14, 0, 2, 3, 4, 5, 6, 7, 8, 12, 14], [8, 17]), ([1, 0, 1, 2, 3, 4, 5, 6, 7, 8, 9, 10, 11, 12, 13, 14, 16, 17, 18], [1]), ([19, 0, 1, 2, 3, 4, 5, 6, 7, 8, 9, 10, 11, 12, 13, 14, 16, 17, 18], [19]), ([20, 14, 18, 0, 1, 2, 3, 4, 5, 6, 7, 8, 9, 10, 11, 12, 13, 14, 16, 17, 18], [14, 20]), ([15, 21, 0, 1, 2, 3, 4, 5, 6, 7, 8, 9, 10, 11, 12, 13, 14, 15, 16, 17, 18, 19, 20, 21], [15])])) (B := [0, 0, 0, 4, 12, 28, 0, 64, 252, 0, 512, 1536, 3584, 0, 16380, 0, 32765, 98301, 229373, 491519, 1015807, 2064383, 4194303]) (by kernel_rfl) (by kernel_rfl) (fun HT_ HW_ => ?_); refine along_ [(0, 51), (1, 52), (2, 53), (3, 54), (4, 55)] ?_
   iterate 5 (refine pure3 HT_ ?_)
   refine lay_ (bA 23 31) (by kernel_rfl) ?_; refine along_ [(5, 56)] ?_
   iterate 1 (refine take3 HT_ HW_ hHeld ?_)
   refine lay_ (bA 23 63) (by kernel_rfl) ?_; refine along_ [(6, 57), (9, 60), (10, 61), (11, 62)] ?_
   iterate 4 (refine pure3 HT_ ?_)
   refine lay_ (bA 23 3711) (by kernel_rfl) ?_; refine along_ [(12, 63)] ?_
   iterate 1 (refine take3 HT_ HW_ hHeld ?_)
   refine lay_ (bA 23 7807) (by kernel_rfl) ?_; refine along_ [(13, 64), (15, 66)] ?_
   iterate 2 (refine pure3 HT_ ?_)
   refine lay_ (bA 23 48767) (by kernel_rfl) ?_; refine one3 7 (N := some 58) (bA 23 48895) HT_ (fun K hK => ?_); refine value_ (w1 := ?_) (v := ?_) (by rfl) rfl ?_ ?_
   rotate_left 2
   ·
    go_simp
    constructor
    ·
     rfl
    ·
     rfl
   refine hK.out _ _ ⟨(blk_cell (blk_alloc HS5.out.blk _) 0).trans rfl, (blk_cell (blk_alloc HS5.out.blk _) 1).trans rfl⟩ (fun hHeld => ?_); clear hK K; refine nm 58 ?_; refine one3 8 (N := some 59) (bA 23 49151) HT_ (fun K hK => ?_); refine Kd.R_append_step (Kd.slice 42 k42) (w0 := w) w.heap.size (by rfl) (.tmp 56) (.tmp 58) 39 22 (.slice none 0 0) 24 rfl hu39 info22 rfl (by decide) (by decide) vb bs l1 [.slice An l1.length cn] (fun k => some k ≠ vl.ownBlock) (fun k => wr.heap.size ≤ k) rfl rfl ⟨_, rfl, Kd.R_lower (Kd.R_mono (Kd.R_bound HN5.out) (fun k hk => hk.2.1)) hwN.out⟩ (fun k hk => ⟨fun he => by have := hvl.out k he.symm; omega, fun he => by have := hvb.out k he.symm; omega⟩) (fun k hk he => by have := Kd.R_lt HS5.out.hl k he.symm; omega) HS5.out.hb HS5.out.below HS5.out.below.size HLM.out.2 ?_
   intro vb1 w6 ho hb hg hat
   rw [← HBS.out] at ho; obtain ⟨Ab1, cb1, rfl⟩ := Kd.R_slice ho; have HB1 := aS ho; have HD6 := aS hb; have HG1 := aS hg; have HT1 := aS hat; have HM := aS (HS5.out.mid hg); have HN6 := aS (Kd.R_grown (Kd.R_tight rfl HN5.out) hg (fun k hk he => by have h1 := Kd.R_base HN5.out k hk.symm; have h2 := hvb.out k he.symm; omega)); clear ho hb hg hat HN5; refine hK.out _ _ ⟨(blk_cell HM.out.2 0).trans rfl, (blk_cell HM.out.2 1).trans rfl⟩ (fun hHeld => ?_); clear hK K; refine nm 59 ?_; refine one3 14 (N := some 65) (bA 23 65535) HT_ (fun K hK => ?_); refine Kd.R_append_rows_step k42 (w0 := w) w.heap.size (by rfl) (.tmp 63) (.tmp 64) 22 42 (.agg #[(.string ⟨#[]⟩), (.string ⟨#[]⟩), (.int .i64 0), (.string ⟨#[]⟩), (.bool false)]) 64 rfl hu22 info42 rfl (by decide) (by decide) vl l l1 _ _ _ (fun _ => True) (fun _ => False) rfl rfl HM.out.1 (Kd.R_reads' HN6.out).2.2 (fun x cs hk => ?hKM) (fun _ hk => hk.elim) (fun _ _ => trivial) HD6.out HD6.out.size HLM.out.1 ?_
   (case hKM => obtain rfl := k42_open hk; exact k42_mkM _ _ _ x)
   intro vl1 w7 ho hb hg hat
   rw [← HLS.out] at ho; obtain ⟨Al1, cl1, rfl⟩ := Kd.R_slice ho; have HG2 := aS (blk_grown HM.out.2 hg (Kd.R_ne HM.out.1 HM.out.2 (by decide))); have HSn := aS (HS5.out.next HR5.out hvl.out hvb.out hgN.out HB1.out HG1.out HT1.out ho hg hat hb); have HQ : Aside0 ((w7.setCell ⟨g, 1, none⟩ (.slice Ab1 bs1.length cb1)).heap[g]? = some (.cells #[vl, .slice Ab1 bs1.length cb1, .slice none 0 0] 70 (0, 0))) := aS (blk_put HG2.out 1 (.slice Ab1 bs1.length cb1) rfl); clear ho hb hg hat HM HB1 HD6 HG1 HT1 HN6 HS5 HR5; refine hK.out _ _ ⟨(blk_cell HG2.out 0).trans rfl, (blk_cell HG2.out 1).trans rfl⟩ (fun hHeld => ?_); clear hK K; refine nm 65 ?_; refine along_ [(16, 67), (17, 68)] ?_
   iterate 2 (refine pure3 HT_ ?_)
   refine lay_ (bA 23 262143) (by kernel_rfl) ?_; refine last_ (i := 18) (N := none) (bA 23 524287) rfl rfl (one_of HT_.out (by kernel_rfl)) (by decide) (fun K hK => ?_); rw [if_pos (by rfl)]; have hfz := blk_frozen HG2.out 1; have hcl := (blk_cell HG2.out 1).trans rfl
   unfold Oper.wp
   go_simp
   refine hK.out _ _ ?_; clear hK K hfz hcl; refine along_ [(19, 69), (20, 70)] ?_
   iterate 2 (refine pure3 HT_ ?_)
   refine lay_ (bA 23 2097151) (by kernel_rfl) ?_; refine last_ (i := 21) (N := none) (bA 23 4194303) rfl rfl (one_of HT_.out (by kernel_rfl)) (by decide) (fun K hK => ?_); rw [if_pos (by rfl)]; have hfz := blk_frozen HQ.out 0; have hcl := (blk_cell HQ.out 0).trans rfl
   unfold Oper.wp
   go_simp
   refine hK.out _ _ ?_; clear hK K hfz hcl; refine along_ [(22, 9)] ?_
   iterate 1 (refine pure3 HT_ ?_)
   refine lay_ (bA 23 8388607) (by kernel_rfl) ?_; refine done_ (done_of HT_.out (by kernel_rfl)) ?_; clear HT_ HW_ hHeld HG2 HQ
   generalize World.setCell _ _ _ = w8 at HSn ⊢
   try go_wp2
   try simp only [Exit.inBlock, Exit.then]
   go_roundg k1
   case measure => have := HK.out; omega
   case rel => exact ⟨_, _, r1, ll1, bs1, HA, ⟨by have := HK.out; omega⟩, HSn⟩

/-! ### shardlogref08_Same: function 17 -/
def shardlogref08_Same.l0 : Nat → List (S42) → List (S42) → Int → Option (Bool)
 | 0, _, _, _ => none
 | k + 1, x0, x1, x5 => if x5 < (x0.length : Int) then (if 0 ≤ x5 then (if x5 < (x1.length : Int) then (if (!((((rd_T42 x0 x5).f0).toList) == (((rd_T42 x1 x5).f0).toList)) || (!((((rd_T42 x0 x5).f1).toList) == (((rd_T42 x1 x5).f1).toList)) || (!(((rd_T42 x0 x5).f2) == ((rd_T42 x1 x5).f2)) || (!((((rd_T42 x0 x5).f3).toList) == (((rd_T42 x1 x5).f3).toList)) || (!(((rd_T42 x0 x5).f4) == ((rd_T42 x1 x5).f4))))))) = true then (some false) else (shardlogref08_Same.l0 k x0 x1 (wrap64 (x5 + 1)))) else (none)) else (none)) else (some true)
def shardlogref08_Same.f (k : Nat) (l0 : List (S42)) (l1 : List (S42)) : Option (Bool) := if (l0.length : Int) = (l1.length : Int) then (shardlogref08_Same.l0 k l0 l1 0) else (some false)
theorem shardlogref08_Same.mono_l : ∀ k, (∀ y0 y1 y2, LeO (shardlogref08_Same.l0 k y0 y1 y2) (shardlogref08_Same.l0 (k + 1) y0 y1 y2))
 | 0 => fun _ _ _ r h => by simp [shardlogref08_Same.l0] at h
 | k + 1 => by
  have ih0 := shardlogref08_Same.mono_l k
  ·
   intro y0 y1 y2
   unfold shardlogref08_Same.l0
   exact lmo
theorem shardlogref08_Same.mono : ∀ a0 a1 k, LeO (shardlogref08_Same.f k a0 a1) (shardlogref08_Same.f (k + 1) a0 a1) := by
 intro a0 a1 k
 have ih0 := shardlogref08_Same.mono_l k
 unfold shardlogref08_Same.f
 exact lmo
set_option maxHeartbeats 8000000 in
set_option maxRecDepth 100000 in
theorem shardlogref08_Same.calls (k : Nat) (A0 : Option Addr) (c0 : Nat) (l0 : List (S42)) (A1 : Option Addr) (c1 : Nat) (l1 : List (S42)) (r : Bool) (w : World) (hr0 : Kd.C k42 w A0 l0.length l0) (hc0 : l0.length ≤ c0) (hr1 : Kd.C k42 w A1 l1.length l1) (hc1 : l1.length ≤ c1) (h : shardlogref08_Same.f k l0 l1 = some r) :
  Calls Try.prog 17 #[.slice A0 l0.length c0, .slice A1 l1.length c1] w fun e w' => e = .returned (.bool r) ∧ Drawn0 w w' := by
 have hu42 := Try.underlying42; have HR0 := aS hr0; have HC0 := aS hc0; clear hr0 hc0; have HR1 := aS hr1; have HC1 := aS hc1; clear hr1 hc1; have H : (if (l0.length : Int) = (l1.length : Int) then (shardlogref08_Same.l0 k l0 l1 0) else (some false)) = some r := h; clear h
 by_cases c3 : (l0.length : Int) = (l1.length : Int)
 ·
  rw [if_pos c3] at H; obtain ⟨c3b0, c3b1⟩ := eqT c3
  have c3b2 : (l0.length == l1.length) = true := by first | simpa using c3 | (simp at c3 ⊢; omega)
  clear c3
  have H' := aS H
  clear H
  go_enter Try.func17, Try.ntmps17
  go_wp2
  repeat (go_quiet (fail); try go_wp2)
  go_loopg [5] k (fun kq v5 w' => ∃ (x5_1 : Int), v5 = .int .i64 x5_1 ∧ Aside0 (shardlogref08_Same.l0 kq l0 l1 x5_1 = some r) ∧ Aside0 (kq ≤ k) ∧ Drawn0 w w')
  case atStart => exact ⟨(0), srf, H', ⟨Nat.le_refl _⟩, by repeat (first | exact Drawn0.refl _ | apply Drawn0.step)⟩
  case round =>
   clear H'; (try clear c1); (try clear c3); (try clear c3b0); (try clear c3b1); (try clear c3b2); obtain ⟨x5_1, rfl, HA, HK1, ⟨m1, rfl⟩⟩ := hrel
   cases gk with
   | zero => exact absurd HA.out (by simp [shardlogref08_Same.l0])
   | succ k1 =>
    have H := HA.out; clear HA
    simp only [shardlogref08_Same.l0] at H
    by_cases c4 : x5_1 < (l0.length : Int)
    ·
     rw [if_pos c4] at H; have c4b0 : decide (x5_1 < (l0.length : Int)) = true := decide_eq_true c4; clear c4
     by_cases c5 : 0 ≤ x5_1
     ·
      rw [if_pos c5] at H; have c5b0 : decide (0 ≤ x5_1) = true := decide_eq_true c5; clear c5
      by_cases c6 : x5_1 < (l1.length : Int)
      ·
       rw [if_pos c6] at H; have c6b0 : decide (x5_1 < (l1.length : Int)) = true := decide_eq_true c6; clear c6
       by_cases c7 : (!((((rd_T42 l0 x5_1).f0).toList) == (((rd_T42 l1 x5_1).f0).toList)) || (!((((rd_T42 l0 x5_1).f1).toList) == (((rd_T42 l1 x5_1).f1).toList)) || (!(((rd_T42 l0 x5_1).f2) == ((rd_T42 l1 x5_1).f2)) || (!((((rd_T42 l0 x5_1).f3).toList) == (((rd_T42 l1 x5_1).f3).toList)) || (!(((rd_T42 l0 x5_1).f4) == ((rd_T42 l1 x5_1).f4))))))) = true
       ·
        rw [if_pos c7] at H; have c7b0 : (!((((rd_T42 l0 x5_1).f0).toList) == (((rd_T42 l1 x5_1).f0).toList)) || (!((((rd_T42 l0 x5_1).f1).toList) == (((rd_T42 l1 x5_1).f1).toList)) || (!(((rd_T42 l0 x5_1).f2) == ((rd_T42 l1 x5_1).f2)) || (!((((rd_T42 l0 x5_1).f3).toList) == (((rd_T42 l1 x5_1).f3).toList)) || (!(((rd_T42 l0 x5_1).f4) == ((rd_T42 l1 x5_1).f4))))))) = true := c7; clear c7
        obtain rfl := Option.some.inj H
        have p474 : 0 ≤ (x5_1 : Int) := oda; have q474 : x5_1 < (l0.length : Int) := oda; obtain ⟨ad474, e474, hx474_0, hx474_1, hx474_2, hx474_3, hx474_4⟩ := at_T42 HR0.out x5_1 p474 q474; cases e474; replace p474 := eq_true p474; replace q474 := eq_true q474; have p475 : 0 ≤ (x5_1 : Int) := oda; have q475 : x5_1 < (l1.length : Int) := oda; obtain ⟨ad475, e475, hx475_0, hx475_1, hx475_2, hx475_3, hx475_4⟩ := at_T42 HR1.out x5_1 p475 q475; cases e475; replace p475 := eq_true p475; replace q475 := eq_true q475
        go_wp2
        repeat (go_quiet (fail); try go_wp2)
        go_ret
        exact ⟨by first | rfl | (simp; done) | (simp [*]; done) | (simp; exact (by decide : ∀ a_ b_ : Bool, (a_ == b_) = (!a_ != b_)) _ _), by repeat (first | exact Drawn0.refl _ | apply Drawn0.step)⟩
       ·
        rw [if_neg c7] at H
        have c7b0 : (!((((rd_T42 l0 x5_1).f0).toList) == (((rd_T42 l1 x5_1).f0).toList)) || (!((((rd_T42 l0 x5_1).f1).toList) == (((rd_T42 l1 x5_1).f1).toList)) || (!(((rd_T42 l0 x5_1).f2) == ((rd_T42 l1 x5_1).f2)) || (!((((rd_T42 l0 x5_1).f3).toList) == (((rd_T42 l1 x5_1).f3).toList)) || (!(((rd_T42 l0 x5_1).f4) == ((rd_T42 l1 x5_1).f4))))))) = false := by simpa using c7
        clear c7
        have H' := aS H
        clear H; have p474 : 0 ≤ (x5_1 : Int) := oda; have q474 : x5_1 < (l0.length : Int) := oda; obtain ⟨ad474, e474, hx474_0, hx474_1, hx474_2, hx474_3, hx474_4⟩ := at_T42 HR0.out x5_1 p474 q474; cases e474; replace p474 := eq_true p474; replace q474 := eq_true q474; have p475 : 0 ≤ (x5_1 : Int) := oda; have q475 : x5_1 < (l1.length : Int) := oda; obtain ⟨ad475, e475, hx475_0, hx475_1, hx475_2, hx475_3, hx475_4⟩ := at_T42 HR1.out x5_1 p475 q475; cases e475; replace p475 := eq_true p475; replace q475 := eq_true q475
        go_wp2
        repeat (go_quiet (fail); try go_wp2)
        go_roundg k1
        case measure => have := HK1.out; omega
        case rel => exact ⟨(wrap64 (x5_1 + 1)), srf, H', ⟨by have := HK1.out; omega⟩, by repeat (first | exact Drawn0.refl _ | apply Drawn0.step)⟩
      ·
       rw [if_neg c6] at H; exact absurd H (by simp)
     ·
      rw [if_neg c5] at H; exact absurd H (by simp)
    ·
     rw [if_neg c4] at H; have c4b0 : decide (x5_1 < (l0.length : Int)) = false := decide_eq_false c4; clear c4
     obtain rfl := Option.some.inj H
     go_wp2
     repeat (go_quiet (fail); try go_wp2)
     go_ret
     exact ⟨by first | rfl | (simp; done) | (simp [*]; done) | (simp; exact (by decide : ∀ a_ b_ : Bool, (a_ == b_) = (!a_ != b_)) _ _), by repeat (first | exact Drawn0.refl _ | apply Drawn0.step)⟩
 ·
  rw [if_neg c3] at H; obtain ⟨c3b0, c3b1⟩ := eqF c3
  have c3b2 : (l0.length == l1.length) = false := by first | simpa using c3 | (simp at c3 ⊢; omega)
  obtain rfl := Option.some.inj H
  go_enter Try.func17, Try.ntmps17
  go_wp2
  repeat (go_quiet (fail); try go_wp2)
  go_ret
  exact ⟨by first | rfl | (simp; done) | (simp [*]; done) | (simp; exact (by decide : ∀ a_ b_ : Bool, (a_ == b_) = (!a_ != b_)) _ _), by repeat (first | exact Drawn0.refl _ | apply Drawn0.step)⟩

/-! ### table_Table_Cells: function 18 -/
set_option maxHeartbeats 8000000 in
set_option maxRecDepth 100000 in
theorem table_Table_Cells.calls (g base : Nat) (l : List S42) (bs : List (List S42)) (fl : List Int) (r : List S42) (w : World) (hA : table_Open.At w base g l bs fl) (h : api_Cell_43.f l = some r) :
  Calls Try.prog 18 #[.pointer (some ⟨g, 0, none⟩)] w fun e w' => ∃ v0_ : Value, e = .returned v0_ ∧ Kd.R k42 42 w' w.heap.size (fun _ => True) v0_ r ∧ Below w.heap.size w w' := by
 have hu26 := Try.underlying26; have hu22 := Try.underlying22; have hu39 := Try.underlying39; have hu70 := Try.underlying70; have hu42 := Try.underlying42; obtain ⟨vl, vb, vf, hA⟩ := hA; obtain ⟨Al, cl, rfl⟩ := Kd.R_slice hA.hl; obtain ⟨Ab, cb, rfl⟩ := Kd.R_slice hA.hb; obtain ⟨Af, cf, rfl⟩ := Kd.R_slice hA.hf; have HV := aS hA; clear hA; have X := aS h; clear h; have q0 := cK3 (aS HV.out.blk)
 go_enter Try.func18, Try.ntmps18
 go_wp2_with (go_at_call 43; (with_reducible refine (api_Cell_43.calls Al cl l r _ (Kd.R_reads' HV.out.hl).2.2 (Kd.R_reads' HV.out.hl).2.1 X.out).mono ?_); rintro e_ w2 ⟨v0, rfl, ho, hb⟩; have HO := aS ho; have HB := aS hb; clear ho hb)
 go_ret
 exact ⟨v0, rfl, HO.out, HB.out⟩

/-! ### table_Table_Blocks: function 19 -/
set_option maxHeartbeats 8000000 in
set_option maxRecDepth 100000 in
theorem table_Table_Blocks.calls (g base : Nat) (l : List S42) (bs : List (List S42)) (fl : List Int) (w : World) (hA : table_Open.At w base g l bs fl) :
  Calls Try.prog 19 #[.pointer (some ⟨g, 0, none⟩)] w fun e w' => e = .returned (.int .i64 (bs.length : Int)) ∧ Below w.heap.size w w' := by
 have hu26 := Try.underlying26; have hu22 := Try.underlying22; have hu39 := Try.underlying39; have hu70 := Try.underlying70; have hu42 := Try.underlying42; obtain ⟨vl, vb, vf, hA⟩ := hA; obtain ⟨Al, cl, rfl⟩ := Kd.R_slice hA.hl; obtain ⟨Ab, cb, rfl⟩ := Kd.R_slice hA.hb; obtain ⟨Af, cf, rfl⟩ := Kd.R_slice hA.hf; have HV := aS hA; clear hA; have q0 := cK3 (aS HV.out.blk)
 go_enter Try.func19, Try.ntmps19
 go_wp2
 go_ret
 exact ⟨rfl, Below.refl _ _⟩

/-! ### bloom_Has: function 48 -/
def bloom_Has.l0 : Nat → List Int → List Int → Int → Int → Option (Bool)
 | 0, _, _, _, _ => none
 | k + 1, x0, x14, x15, x16 => if x16 < x15 then (if 0 ≤ x16 then (if x16 < (x14.length : Int) then (if 0 ≤ (wrap64 (Int.tdiv (rd x14 x16) 8)) then (if (wrap64 (Int.tdiv (rd x14 x16) 8)) < (x0.length : Int) then (if 0 ≤ (Int.tmod (rd x14 x16) 8) then (if (Go.bits .and .u8 (shr .u8 (rd x0 (wrap64 (Int.tdiv (rd x14 x16) 8))) (Int.tmod (rd x14 x16) 8)) 1) = 0 then (some false) else (bloom_Has.l0 k x0 x14 x15 (wrap64 (x16 + 1)))) else (none)) else (none)) else (none)) else (none)) else (none)) else (some true)
def bloom_Has.f (k : Nat) (l0 : List Int) (a1 : ByteArray) : Option (Bool) := if (l0.length : Int) = 0 then (some true) else ((bloom_Bits.f k a1 (wrap64 (8 * (l0.length : Int)))).bind fun t476 => (bloom_Has.l0 k l0 t476 (t476.length : Int) 0))
theorem bloom_Has.mono_l : ∀ k, (∀ y0 y1 y2 y3, LeO (bloom_Has.l0 k y0 y1 y2 y3) (bloom_Has.l0 (k + 1) y0 y1 y2 y3))
 | 0 => fun _ _ _ _ r h => by simp [bloom_Has.l0] at h
 | k + 1 => by
  have ih0 := bloom_Has.mono_l k
  ·
   intro y0 y1 y2 y3
   unfold bloom_Has.l0
   have m0 := @bloom_Bits.mono; exact lmo
theorem bloom_Has.mono : ∀ a0 a1 k, LeO (bloom_Has.f k a0 a1) (bloom_Has.f (k + 1) a0 a1) := by
 intro a0 a1 k
 have ih0 := bloom_Has.mono_l k
 unfold bloom_Has.f
 have m0 := @bloom_Bits.mono; exact lmo
set_option maxHeartbeats 8000000 in
set_option maxRecDepth 100000 in
theorem bloom_Has.calls (k : Nat) (A0 : Option Addr) (c0 : Nat) (l0 : List Int) (a1 : ByteArray) (r : Bool) (w : World) (hr0 : Kd.C (Kd.int .u8) w A0 l0.length l0) (hc0 : l0.length ≤ c0) (h : bloom_Has.f k l0 a1 = some r) :
  Calls Try.prog 48 #[.slice A0 l0.length c0, .string a1] w fun e w' => e = .returned (.bool r) ∧ Below w.heap.size w w' := by
 have HR0 := aS hr0; have HC0 := aS hc0; clear hr0 hc0; have HB := aS (Below.refl w.heap.size w); have H : (if (l0.length : Int) = 0 then (some true) else ((bloom_Bits.f k a1 (wrap64 (8 * (l0.length : Int)))).bind fun t476 => (bloom_Has.l0 k l0 t476 (t476.length : Int) 0))) = some r := h; clear h
 by_cases c3 : (l0.length : Int) = 0
 ·
  rw [if_pos c3] at H; obtain ⟨c3b0, c3b1⟩ := eqT c3; clear c3
  obtain rfl := Option.some.inj H
  go_enter Try.func48, Try.ntmps48
  go_wp2
  go_ret
  exact ⟨rf3, bel⟩
 ·
  rw [if_neg c3] at H; obtain ⟨c3b0, c3b1⟩ := eqF c3
  have c3b2 : ¬ (l0 = []) := fun h_ => c3 (by rw [h_]; rfl)
  replace H := obm H; obtain ⟨t476, A40, H⟩ := H; have A4 := aS A40; clear A40
  have H' := aS H
  clear H
  go_enter Try.func48, Try.ntmps48
  go_wp2_with (first | ((with_reducible refine gate_callee (f := 66) rfl ?_); refine goesL_ (some 14) rfl rfl Try.func66 (by kernel_rfl) rfl #[.string a1, .int .i64 (wrap64 (8 * (l0.length : Int)))] rfl agn ?_; (with_reducible refine (bloom_Bits.calls k a1 (wrap64 (8 * (l0.length : Int))) t476 _ A4.out).mono ?_); rintro e w5 ⟨v477, rfl, ho0, hb⟩; refine ⟨_, rfl, ?_⟩; have HO478 := aS (Kd.R_lower ho0 (below_size bel)); replace HB := bstep hb; (try clear hb); (try clear hk); (try clear hi); (try clear ho0); obtain ⟨Ao6, co6, eo6⟩ := Kd.R_slice HO478.out; subst eo6))
  go_loopg [16] k (fun kq v16 w' => ∃ (x16_1 : Int), v16 = .int .i64 x16_1 ∧ Aside0 (bloom_Has.l0 kq l0 t476 (t476.length : Int) x16_1 = some r) ∧ Aside0 (kq ≤ k) ∧ Aside0 (Kd.R (Kd.int .i64) 3 w' w.heap.size (fun _ => True) (.slice Ao6 t476.length co6) t476) ∧ Aside0 (Below w.heap.size w w'))
  case atStart => exact ⟨(0), srf, H', ⟨Nat.le_refl _⟩, ⟨by (with_reducible repeat (first | apply Kd.R_alloc | apply Kd.R_drewN | apply Kd.R_drew)); exact HO478.out⟩, ⟨bel⟩⟩
  case round =>
   clear H'; (try clear c3); (try clear c3b0); (try clear c3b1); (try clear c3b2); obtain ⟨x16_1, rfl, HA, HK1, HO_14, HB⟩ := hrel
   cases gk with
   | zero => exact absurd HA.out (by simp [bloom_Has.l0])
   | succ k1 =>
    have H := HA.out; clear HA
    simp only [bloom_Has.l0] at H
    by_cases c7 : x16_1 < (t476.length : Int)
    ·
     rw [if_pos c7] at H; have c7b0 : decide (x16_1 < (t476.length : Int)) = true := decide_eq_true c7; clear c7
     by_cases c8 : 0 ≤ x16_1
     ·
      rw [if_pos c8] at H; have c8b0 : decide (0 ≤ x16_1) = true := decide_eq_true c8; clear c8
      by_cases c9 : x16_1 < (t476.length : Int)
      ·
       rw [if_pos c9] at H; have c9b0 : decide (x16_1 < (t476.length : Int)) = true := decide_eq_true c9; clear c9
       obtain ⟨ji10, hji10⟩ : ∃ j_ : Int, (wrap64 (Int.tdiv (rd t476 x16_1) 8)) = j_ := ⟨_, rfl⟩
       replace H : (if 0 ≤ (ji10) then (if (ji10) < (l0.length : Int) then (if 0 ≤ (Int.tmod (rd t476 x16_1) 8) then (if (Go.bits .and .u8 (shr .u8 (rd l0 (ji10)) (Int.tmod (rd t476 x16_1) 8)) 1) = 0 then (some false) else (bloom_Has.l0 k1 l0 t476 (t476.length : Int) (wrap64 (x16_1 + 1)))) else (none)) else (none)) else (none)) = some r := by first | (rw [hji10] at H; exact H) | (simp only [hji10] at H ⊢; exact H)
       have hji10w : (IntKind.i64.wrap (Int.tdiv (rd t476 x16_1) 8)) = ji10 := (i64_w _).trans hji10
       by_cases c11 : 0 ≤ (ji10)
       ·
        rw [if_pos c11] at H; have c11b0 : decide (0 ≤ (ji10)) = true := decide_eq_true c11; clear c11
        by_cases c12 : (ji10) < (l0.length : Int)
        ·
         rw [if_pos c12] at H; have c12b0 : decide ((ji10) < (l0.length : Int)) = true := decide_eq_true c12; clear c12
         obtain ⟨ji13, hji13⟩ : ∃ j_ : Int, (Int.tmod (rd t476 x16_1) 8) = j_ := ⟨_, rfl⟩
         replace H : (if 0 ≤ (ji13) then (if (Go.bits .and .u8 (shr .u8 (rd l0 (ji10)) (ji13)) 1) = 0 then (some false) else (bloom_Has.l0 k1 l0 t476 (t476.length : Int) (wrap64 (x16_1 + 1)))) else (none)) = some r := by first | (rw [hji13] at H; exact H) | (simp only [hji13] at H ⊢; exact H)
         by_cases c14 : 0 ≤ (ji13)
         ·
          rw [if_pos c14] at H; have c14b0 := eq_true c14; have c14b1 : decide (0 ≤ (ji13)) = true := decide_eq_true c14; clear c14
          obtain ⟨ji15, hji15⟩ : ∃ j_ : Int, (shr .u8 (rd l0 (ji10)) (ji13)) = j_ := ⟨_, rfl⟩
          replace H : (if (Go.bits .and .u8 (ji15) 1) = 0 then (some false) else (bloom_Has.l0 k1 l0 t476 (t476.length : Int) (wrap64 (x16_1 + 1)))) = some r := by first | (rw [hji15] at H; exact H) | (simp only [hji15] at H ⊢; exact H)
          have hji15_ : ((rd l0 (ji10)) / 2 ^ min (ji13).toNat 8) = ji15 := hji15; have hji15z : (ji13) ≤ 8 → ((rd l0 (ji10)) / 2 ^ (ji13).toNat) = ji15 := shr_small hji15
          by_cases c16 : (Go.bits .and .u8 (ji15) 1) = 0
          ·
           rw [if_pos c16] at H; obtain ⟨c16b0, c16b1⟩ := eqT c16; clear c16
           obtain rfl := Option.some.inj H
           have p479 : 0 ≤ (x16_1 : Int) := oda; have q479 : x16_1 < (t476.length : Int) := oda; obtain ⟨ad479, e479, hx479_0⟩ := Kd.at_int (Kd.R_reads' HO_14.out).2.2 x16_1 p479 q479; cases e479; replace p479 := eq_true p479; replace q479 := eq_true q479; have p480 : 0 ≤ ((ji10) : Int) := oda; have q480 : (ji10) < (l0.length : Int) := oda; obtain ⟨ad480, e480, hx480_0⟩ := Kd.at_int HR0.out (ji10) p480 q480; cases e480; replace hx480_0 := bx bel hx480_0; replace p480 := eq_true p480; replace q480 := eq_true q480
           go_wp2
           go_ret
           exact ⟨by first | rfl | (simp [errW_none, errW_some] <;> rfl) | (simp only [← hji10, ← hji13, ← hji15]; first | rfl | (simp [errW_none, errW_some] <;> rfl)) | (simp [*, errW_none, errW_some] <;> rfl), bel⟩
          ·
           rw [if_neg c16] at H; obtain ⟨c16b0, c16b1⟩ := eqF c16
           have H' := aS H
           clear H; have p479 : 0 ≤ (x16_1 : Int) := oda; have q479 : x16_1 < (t476.length : Int) := oda; obtain ⟨ad479, e479, hx479_0⟩ := Kd.at_int (Kd.R_reads' HO_14.out).2.2 x16_1 p479 q479; cases e479; replace p479 := eq_true p479; replace q479 := eq_true q479; have p480 : 0 ≤ ((ji10) : Int) := oda; have q480 : (ji10) < (l0.length : Int) := oda; obtain ⟨ad480, e480, hx480_0⟩ := Kd.at_int HR0.out (ji10) p480 q480; cases e480; replace hx480_0 := bx bel hx480_0; replace p480 := eq_true p480; replace q480 := eq_true q480
           go_wp2
           go_roundg k1
           case measure => have := HK1.out; omega
           case rel => exact ⟨(wrap64 (x16_1 + 1)), srf, H', ⟨by have := HK1.out; omega⟩, ⟨by (with_reducible repeat (first | apply Kd.R_alloc | apply Kd.R_drewN | apply Kd.R_drew)); exact HO_14.out⟩, ⟨bel⟩⟩
         ·
          rw [if_neg c14] at H; exact absurd H (by simp)
        ·
         rw [if_neg c12] at H; exact absurd H (by simp)
       ·
        rw [if_neg c11] at H; exact absurd H (by simp)
      ·
       rw [if_neg c9] at H; exact absurd H (by simp)
     ·
      rw [if_neg c8] at H; exact absurd H (by simp)
    ·
     rw [if_neg c7] at H; have c7b0 : decide (x16_1 < (t476.length : Int)) = false := decide_eq_false c7; clear c7
     obtain rfl := Option.some.inj H
     go_wp2
     go_ret
     exact ⟨rf3, bel⟩

/-! ### table_Table_May: function 22 -/
def table_Table_May.f (k : Nat) (fl : List Int) (a b : ByteArray) : Option Bool := (table_text.f a b).bind fun s => bloom_Has.f k fl s
theorem table_Table_May.mono : ∀ a0 a1 a2 k, LeO (table_Table_May.f k a0 a1 a2) (table_Table_May.f (k + 1) a0 a1 a2) := fun _ _ _ _ => LeO.bind (LeO.refl _) fun _ => bloom_Has.mono _ _ _
set_option maxHeartbeats 8000000 in
set_option maxRecDepth 100000 in
theorem table_Table_May.calls (k : Nat) (g base : Nat) (l : List S42) (bs : List (List S42)) (fl : List Int) (a b : ByteArray) (r : Bool) (w : World) (hA : table_Open.At w base g l bs fl) (h : table_Table_May.f k fl a b = some r) :
  Calls Try.prog 22 #[.pointer (some ⟨g, 0, none⟩), .string a, .string b] w fun e w' => e = .returned (.bool r) ∧ Below w.heap.size w w' := by
 have hu26 := Try.underlying26; have hu22 := Try.underlying22; have hu39 := Try.underlying39; have hu70 := Try.underlying70; have hu42 := Try.underlying42; obtain ⟨vl, vb, vf, hA⟩ := hA; obtain ⟨Al, cl, rfl⟩ := Kd.R_slice hA.hl; obtain ⟨Ab, cb, rfl⟩ := Kd.R_slice hA.hb; obtain ⟨Af, cf, rfl⟩ := Kd.R_slice hA.hf; have HV := aS hA; clear hA
 unfold table_Table_May.f at h
 replace h := obm h; obtain ⟨s, x1, h⟩ := h; have X1 := aS x1; have X2 := aS h; have HB := aS (Below.refl w.heap.size w); clear x1 h
 go_enter Try.func22, Try.ntmps22
 go_upto_region 1 with (fail)
 refine start_ (n := 9) (ds := []) (S := fun w' => w'.cell? ⟨g, 2, none⟩ = some (.slice Af fl.length cf)) (bA 9 0) (by kernel_rfl) rfl rfl ((blk_cell (blk_drew HV.out.blk) 2).trans rfl) (fun hHeld => ?_)
 generalize hw_ : World.drew _ = wd at hHeld ⊢
 have HVd : Aside0 (table_Open.AtV wd base g _ _ _ l bs fl) := aS (hw_ ▸ HV.out.below (below_drew (Below.refl _ _))); have HBd : Aside0 (Below w.heap.size w wd) := aS (hw_ ▸ below_step HB.out (below_drew (Below.refl _ _))); clear hw_ HV HB; refine with_tabW (T := (true, [([], []), ([0], [0]), ([1], [1]), ([2], [2]), ([], []), ([], []), ([4, 5], [4, 5]), ([3, 6, 6], [3, 6]), ([7, 7, 0, 1, 2, 3, 4, 5, 6, 7], [7])])) (B := [0, 1, 3, 7, 0, 0, 48, 127, 255]) (by kernel_rfl) (by kernel_rfl) (fun HT_ HW_ => ?_); refine along_ [(0, 7), (1, 8), (2, 9)] ?_
 iterate 3 (refine pure3 HT_ ?_)
 refine lay_ (bA 9 7) (by kernel_rfl) ?_; refine along_ [(3, 10)] ?_
 iterate 1 (refine take3 HT_ HW_ hHeld ?_)
 refine lay_ (bA 9 15) (by kernel_rfl) ?_; refine along_ [(4, 11), (5, 12)] ?_
 iterate 2 (refine pure3 HT_ ?_)
 refine lay_ (bA 9 63) (by kernel_rfl) ?_; refine one3 6 (N := some 13) (bA 9 127) HT_ (fun K hK => ?_); refine goes_ Try.func49 (by kernel_rfl) rfl #[.string a, .string b] (by rfl) rfl rfl agn ?_
 with_reducible refine (table_text.calls a b s _ X1.out).mono ?_
 rintro e_ w2 ⟨rfl, hb⟩
 refine ⟨_, rfl, ?_⟩; have HV := aS (HVd.out.below hb); have HB := aS (below_step HBd.out hb); clear hb HVd HBd; refine hK.out _ _ ((blk_cell HV.out.blk 2).trans rfl) (fun hHeld => ?_); clear hK K; refine nm 13 ?_; refine one3 7 (N := some 14) (bA 9 255) HT_ (fun K hK => ?_); refine goes_ Try.func48 (by kernel_rfl) rfl #[.slice Af fl.length cf, .string s] (by rfl) rfl rfl agn ?_
 with_reducible refine (bloom_Has.calls k Af cf fl s r _ (Kd.R_reads' HV.out.hf).2.2 (Kd.R_reads' HV.out.hf).2.1 X2.out).mono ?_
 rintro e_ w3 ⟨rfl, hb⟩
 refine ⟨_, rfl, ?_⟩; have HVd := aS (HV.out.below hb); have HBd := aS (below_step HB.out hb); clear hb HV HB; refine hK.out _ _ ((blk_cell HVd.out.blk 2).trans rfl) (fun hHeld => ?_); clear hK K; refine nm 14 ?_; refine along_ [(8, 6)] ?_
 iterate 1 (refine pure3 HT_ ?_)
 refine lay_ (bA 9 511) (by kernel_rfl) ?_; refine done_ (done_of HT_.out (by kernel_rfl)) ?_; clear HT_ HW_ hHeld
 try go_wp2
 go_ret
 exact ⟨rfl, HBd.out⟩

/-! ### table_Table_Get_1: function 45 -/
def table_Table_Get_1.f (k : Nat) (l0 : List (S42)) (a1_0 : ByteArray) (a1_1 : ByteArray) (a1_2 : Int) (a1_3 : ByteArray) (a1_4 : Bool) : Option (Int) := if 0 ≤ (wrap64 ((l0.length : Int) - 1)) then (if (wrap64 ((l0.length : Int) - 1)) < (l0.length : Int) then ((cell_Compare.f k ((rd_T42 l0 (wrap64 ((l0.length : Int) - 1))).f0) ((rd_T42 l0 (wrap64 ((l0.length : Int) - 1))).f1) ((rd_T42 l0 (wrap64 ((l0.length : Int) - 1))).f2) ((rd_T42 l0 (wrap64 ((l0.length : Int) - 1))).f3) ((rd_T42 l0 (wrap64 ((l0.length : Int) - 1))).f4) a1_0 a1_1 a1_2 a1_3 a1_4).bind fun t483 => (some t483)) else (none)) else (none)
theorem table_Table_Get_1.mono : ∀ a0 a1 a2 a3 a4 a5 k, LeO (table_Table_Get_1.f k a0 a1 a2 a3 a4 a5) (table_Table_Get_1.f (k + 1) a0 a1 a2 a3 a4 a5) := by
 intro a0 a1 a2 a3 a4 a5 k
 unfold table_Table_Get_1.f
 have m0 := @cell_Compare.mono; exact lmo
def table_Table_Get_1.T1 : Bool × List (List Nat × List Nat) := (true, [([], []), ([], []), ([1], [1]), ([2], [2]), ([0, 3], [0, 3]), ([4], [4]), ([], []), ([5, 6], [5, 6]), ([7, 7, 0, 1, 2, 3, 4, 5, 6, 7], [7])])
def table_Table_Get_1.B1 : List Nat := [0, 0, 2, 6, 15, 31, 0, 127, 255]
theorem table_Table_Get_1.tab1 : rtab .any (opsOf Try.f45 1) = table_Table_Get_1.T1 := by kernel_rfl
theorem table_Table_Get_1.bits1 : waitsOk table_Table_Get_1.T1.2 table_Table_Get_1.B1 = true := by kernel_rfl
set_option maxHeartbeats 8000000 in
set_option maxRecDepth 100000 in
theorem table_Table_Get_1.calls (k : Nat) (A0 : Option Addr) (c0 : Nat) (l0 : List (S42)) (a1_0 : ByteArray) (a1_1 : ByteArray) (a1_2 : Int) (a1_3 : ByteArray) (a1_4 : Bool) (r : Int) (w : World) (hr0 : Kd.C k42 w A0 l0.length l0) (hc0 : l0.length ≤ c0) (h : table_Table_Get_1.f k l0 a1_0 a1_1 a1_2 a1_3 a1_4 = some r) :
  Calls Try.prog 45 #[.slice A0 l0.length c0, .agg #[.string a1_0, .string a1_1, .int .i64 a1_2, .string a1_3, .bool a1_4]] w fun e w' => e = .returned (.int .i64 r) ∧ Below w.heap.size w w' := by
 have hu42 := Try.underlying42; have HR0 := aS hr0; have HC0 := aS hc0; clear hr0 hc0; have HB := aS (Below.refl w.heap.size w); have H : (if 0 ≤ (wrap64 ((l0.length : Int) - 1)) then (if (wrap64 ((l0.length : Int) - 1)) < (l0.length : Int) then ((cell_Compare.f k ((rd_T42 l0 (wrap64 ((l0.length : Int) - 1))).f0) ((rd_T42 l0 (wrap64 ((l0.length : Int) - 1))).f1) ((rd_T42 l0 (wrap64 ((l0.length : Int) - 1))).f2) ((rd_T42 l0 (wrap64 ((l0.length : Int) - 1))).f3) ((rd_T42 l0 (wrap64 ((l0.length : Int) - 1))).f4) a1_0 a1_1 a1_2 a1_3 a1_4).bind fun t483 => (some t483)) else (none)) else (none)) = some r := h; clear h
 obtain ⟨ji3, hji3⟩ : ∃ j_ : Int, (wrap64 ((l0.length : Int) - 1)) = j_ := ⟨_, rfl⟩
 replace H : (if 0 ≤ (ji3) then (if (ji3) < (l0.length : Int) then ((cell_Compare.f k ((rd_T42 l0 (ji3)).f0) ((rd_T42 l0 (ji3)).f1) ((rd_T42 l0 (ji3)).f2) ((rd_T42 l0 (ji3)).f3) ((rd_T42 l0 (ji3)).f4) a1_0 a1_1 a1_2 a1_3 a1_4).bind fun t483 => (some t483)) else (none)) else (none)) = some r := by first | (rw [hji3] at H; exact H) | (simp only [hji3] at H ⊢; exact H)
 have hji3w : (IntKind.i64.wrap ((l0.length : Int) - 1)) = ji3 := (i64_w _).trans hji3
 by_cases c4 : 0 ≤ (ji3)
 ·
  rw [if_pos c4] at H; have c4b0 : decide (0 ≤ (ji3)) = true := decide_eq_true c4; clear c4
  by_cases c5 : (ji3) < (l0.length : Int)
  ·
   rw [if_pos c5] at H; have c5b0 : decide ((ji3) < (l0.length : Int)) = true := decide_eq_true c5; clear c5; replace H := obm H; obtain ⟨t483, A60, H⟩ := H; have A6 := aS A60; clear A60
   obtain rfl := Option.some.inj H
   go_enter Try.func45, Try.ntmps45
   try go_wp2_with (first | ((with_reducible refine gate_dst (N := 3) rfl ?_); refine box_event ?hg (N := 3) ?hd (cs := #[.string a1_0, .string a1_1, .int .i64 a1_2, .string a1_3, .bool a1_4]) (t := 42) ?hr ?_; (case hd => rfl); (case hg => rfl); (case hr => first | (go_simp; done) | (go_simp; rfl)); intro gb481 hg w7 hbox hb; have BK481 := aS (hbox); have GW481 := bsize hg; have GE481 := bsize hg; replace HB := bstep hb; clear hb hbox hg))
   replace BK481 := aS (blk_drew BK481.out); replace HB := aS (bdo HB.out); have p482 : 0 ≤ ((ji3) : Int) := oda; have q482 : (ji3) < (l0.length : Int) := oda; obtain ⟨ad482, e482, hx482_0, hx482_1, hx482_2, hx482_3, hx482_4⟩ := at_T42 HR0.out (ji3) p482 q482; have hw482_4 := hx482_4; have hw482_3 := hx482_3; have hw482_2 := hx482_2; have hw482_1 := hx482_1; have hw482_0 := hx482_0; cases e482; replace hx482_0 := bx bel hx482_0; replace hx482_1 := bx bel hx482_1; replace hx482_2 := bx bel hx482_2; replace hx482_3 := bx bel hx482_3; replace hx482_4 := bx bel hx482_4; replace p482 := eq_true p482; replace q482 := eq_true q482; refine start_ (n := 9) (S := fun w' => w'.cell? ⟨gb481, 0, none⟩ = some (.string a1_0) ∧ w'.cell? ⟨gb481, 1, none⟩ = some (.string a1_1) ∧ w'.cell? ⟨gb481, 2, none⟩ = some (.int .i64 a1_2) ∧ w'.cell? ⟨gb481, 3, none⟩ = some (.string a1_3) ∧ w'.cell? ⟨gb481, 4, none⟩ = some (.bool a1_4) ∧ w'.cell? (ad482.add (((ji3)).toNat * 5)) = some (.string ((rd_T42 l0 (ji3)).f0)) ∧ w'.cell? ⟨(ad482.add (((ji3)).toNat * 5)).block, (ad482.add (((ji3)).toNat * 5)).off + 1, none⟩ = some (.string ((rd_T42 l0 (ji3)).f1)) ∧ w'.cell? ⟨(ad482.add (((ji3)).toNat * 5)).block, (ad482.add (((ji3)).toNat * 5)).off + 2, none⟩ = some (.int .i64 ((rd_T42 l0 (ji3)).f2)) ∧ w'.cell? ⟨(ad482.add (((ji3)).toNat * 5)).block, (ad482.add (((ji3)).toNat * 5)).off + 3, none⟩ = some (.string ((rd_T42 l0 (ji3)).f3)) ∧ w'.cell? ⟨(ad482.add (((ji3)).toNat * 5)).block, (ad482.add (((ji3)).toNat * 5)).off + 4, none⟩ = some (.bool ((rd_T42 l0 (ji3)).f4))) (ds := []) (bA 9 0) (by kernel_rfl) rfl rfl ⟨bc BK481 0, bc BK481 1, bc BK481 2, bc BK481 3, bc BK481 4, (bx bel hw482_0), (bx bel hw482_1), (bx bel hw482_2), (bx bel hw482_3), (bx bel hw482_4)⟩ (fun hHeld => ?_); refine with_tabW table_Table_Get_1.tab1 table_Table_Get_1.bits1 (fun HT_ HW_ => ?_)
   generalize w7.drew = w8 at BK481 HB hx482_0 hx482_1 hx482_2 hx482_3 hx482_4 hHeld ⊢
   refine along_ [(0, 5), (1, 6), (2, 7), (3, 8), (4, 9), (5, 10), (6, 11)] ?_
   iterate 7 (first | (refine pure3 HT_ ?_) | (refine take3 HT_ HW_ hHeld ?_))
   refine lay_ (bA 9 127) (by kernel_rfl) ?_; refine one3 7 (N := some 12) (bA 9 255) HT_ (fun K hK => ?_); refine goes_ Try.func46 (by kernel_rfl) rfl #[.agg #[.string ((rd_T42 l0 (ji3)).f0), .string ((rd_T42 l0 (ji3)).f1), .int .i64 ((rd_T42 l0 (ji3)).f2), .string ((rd_T42 l0 (ji3)).f3), .bool ((rd_T42 l0 (ji3)).f4)], .agg #[.string a1_0, .string a1_1, .int .i64 a1_2, .string a1_3, .bool a1_4]] (by rfl) rfl rfl (by (try simp only [List.map_toArray, List.map_cons, List.map_nil]); first | done | (simp only [hji3]; rfl) | rfl | (simp only [lld, llt]; rfl)) ?_
   with_reducible refine (cell_Compare.calls k ((rd_T42 l0 (ji3)).f0) ((rd_T42 l0 (ji3)).f1) ((rd_T42 l0 (ji3)).f2) ((rd_T42 l0 (ji3)).f3) ((rd_T42 l0 (ji3)).f4) a1_0 a1_1 a1_2 a1_3 a1_4 t483 _ A6.out).mono ?_
   rintro e w9 ⟨rfl, hb⟩
   refine ⟨_, rfl, ?_⟩; replace BK481 := bbl BK481 hb; replace HB := bstep hb; (try clear hb); (try clear hk); (try clear hi); refine hK.out _ _ ⟨bc BK481 0, bc BK481 1, bc BK481 2, bc BK481 3, bc BK481 4, (bx bel hw482_0), (bx bel hw482_1), (bx bel hw482_2), (bx bel hw482_3), (bx bel hw482_4)⟩ (fun hHeld => ?_); clear hK K; refine nm 12 ?_; refine pure_ (i := 8) (N := some 4) (v := ?_) (a' := ?_) (bA 9 511) rfl rfl (any_of HT_.out (by kernel_rfl)) (fun _ _ _ h => h) (Or.inl ⟨by rfl, ?_⟩) ?_ ?_
   rotate_left
   ·
    intro w'
    go_simp
    with_reducible rfl
   rotate_left
   ·
    simp only [Act.put, lsa, lsz, lss, i64_w, i32_w]
    rfl
   refine done_ (done_of HT_.out (by kernel_rfl)) ?_
   try go_wp2
   go_ret
   exact ⟨by first | rfl | (simp [errW_none, errW_some] <;> rfl) | (simp only [← hji3]; first | rfl | (simp [errW_none, errW_some] <;> rfl)) | (simp [*, errW_none, errW_some] <;> rfl), bel⟩
  ·
   rw [if_neg c5] at H; exact absurd H (by simp)
 ·
  rw [if_neg c4] at H; exact absurd H (by simp)

end Go.Proofs.Ytinhpolmanccgaa.X
