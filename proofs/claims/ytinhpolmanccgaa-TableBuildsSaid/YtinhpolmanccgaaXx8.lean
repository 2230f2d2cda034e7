-- written by a program of this session's, over the kit's print
import Derived.Test.YtinhpolmanccgaaXx0
import Derived.Test.YtinhpolmanccgaaXx2
import Derived.Test.YtinhpolmanccgaaXx3
import Derived.Test.YtinhpolmanccgaaXx4
import Derived.Test.YtinhpolmanccgaaXx6
import Derived.Test.YtinhpolmanccgaaXx7
namespace Go.Proofs.Ytinhpolmanccgaa.X
open Go.RowKit Go.Proofs.YtinhpolmanccgaaW.PrintWords Go.Proofs.YtinhpolmanccgaaW.PrintLast Go.Proofs.YtinhpolmanccgaaW.PrintMore
attribute [local go_sem] max2_int min2_int max_two min_two max_three min_three max_four min_four gtr_str   -- for this text's walks alone
set_option linter.unusedVariables false
set_option linter.unusedSimpArgs false

attribute [local go_sem high] eqA103
/-! ### cell_Cut: function 74 -/
def cell_Cut.j0 : Nat → List Int → Bool → ByteArray → ByteArray → Int → ByteArray → Bool → Option (ByteArray × ByteArray × Int × ByteArray × Bool × List Int × Bool)
 | 0, _, _, _, _, _, _, _ => none
 | k + 1, x0, x54, x396000, x396001, x396002, x396003, x396004 => if x54 = true then (some ((⟨#[]⟩ : ByteArray), (⟨#[]⟩ : ByteArray), 0, (⟨#[]⟩ : ByteArray), false, ([] : List Int), false)) else (some (x396000, x396001, x396002, x396003, x396004, x0, true))
def cell_Cut.f (k : Nat) (l0 : List Int) : Option (ByteArray × ByteArray × Int × ByteArray × Bool × List Int × Bool) := (wire_CutText.f k l0).bind fun bt397 => ((wire_CutText.f k bt397.2.1).bind fun bt402 => ((wire_CutNum.f k bt402.2.1).bind fun bt407 => ((cell_cutFlag.f bt407.2.1).bind fun bt412 => ((wire_CutText.f k bt412.2.1).bind fun bt417 => (if (!bt397.2.2 || (!bt402.2.2 || (!bt407.2.2 || (!bt412.2.2 || (!bt417.2.2))))) = true then (cell_Cut.j0 k bt417.2.1 true bt397.1 bt402.1 bt407.1 bt417.1 bt412.1) else ((cell_Right.f bt397.1 bt402.1 bt407.1 bt417.1 bt412.1).bind fun t422 => (cell_Cut.j0 k bt417.2.1 (!t422) bt397.1 bt402.1 bt407.1 bt417.1 bt412.1)))))))
theorem cell_Cut.mono_l : ∀ k, (∀ y0 y1 y2 y3 y4 y5 y6, LeO (cell_Cut.j0 k y0 y1 y2 y3 y4 y5 y6) (cell_Cut.j0 (k + 1) y0 y1 y2 y3 y4 y5 y6))
 | 0 => fun _ _ _ _ _ _ _ r h => by simp [cell_Cut.j0] at h
 | k + 1 => by
  have ih0 := cell_Cut.mono_l k
  ·
   intro y0 y1 y2 y3 y4 y5 y6
   unfold cell_Cut.j0
   repeat' first
   | (with_reducible exact ih0 _ _ _ _ _ _ _)
   | (with_reducible exact wire_CutNum.mono _ _)
   | (with_reducible exact wire_CutText.mono _ _)
   | (with_reducible exact LeO.refl _)
   | (with_reducible exact LeO.none _)
   | (with_reducible refine LeO.ite ?_ ?_)
   | (with_reducible refine LeO.bind ?_ (fun _ => ?_))
   | exact LeO.none _
   | refine LeO.ite ?_ ?_
   | refine LeO.bind ?_ (fun _ => ?_)
theorem cell_Cut.mono : ∀ a0 k, LeO (cell_Cut.f k a0) (cell_Cut.f (k + 1) a0) := by
 intro a0 k
 have ih0 := cell_Cut.mono_l k
 unfold cell_Cut.f
 repeat' first
   | (with_reducible exact ih0 _ _ _ _ _ _ _)
   | (with_reducible exact wire_CutNum.mono _ _)
   | (with_reducible exact wire_CutText.mono _ _)
   | (with_reducible exact LeO.refl _)
   | (with_reducible exact LeO.none _)
   | (with_reducible refine LeO.ite ?_ ?_)
   | (with_reducible refine LeO.bind ?_ (fun _ => ?_))
   | exact LeO.none _
   | refine LeO.ite ?_ ?_
   | refine LeO.bind ?_ (fun _ => ?_)
set_option maxHeartbeats 8000000 in
set_option maxRecDepth 100000 in
theorem cell_Cut.calls (k : Nat) (A0 : Option Addr) (c0 : Nat) (l0 : List Int) (r1 : ByteArray) (r2 : ByteArray) (r3 : Int) (r4 : ByteArray) (r5 : Bool) (r6 : List Int) (r7 : Bool) (w : World) (hr0 : Kd.C (Kd.int .u8) w A0 l0.length l0) (hc0 : l0.length ≤ c0) (h : cell_Cut.f k l0 = some (r1, r2, r3, r4, r5, r6, r7)) :
  Calls Try.prog 74 #[.slice A0 l0.length c0] w fun e w' => ∃ v5_ : Value, e = .returned (.tuple #[.agg #[.string r1, .string r2, .int .i64 r3, .string r4, .bool r5], v5_, .bool r7]) ∧ Kd.Q (Kd.int .u8) 5 w' w.heap.size (fun _ => True) v5_ r6 ∧ Below w.heap.size w w' := by
 have hu42 := Try.underlying42; have hu103 := Try.underlying103; have HR0 := aS hr0; have HC0 := aS hc0; clear hr0 hc0; have HB := aS (Below.refl w.heap.size w); have H : ((wire_CutText.f k l0).bind fun bt397 => ((wire_CutText.f k bt397.2.1).bind fun bt402 => ((wire_CutNum.f k bt402.2.1).bind fun bt407 => ((cell_cutFlag.f bt407.2.1).bind fun bt412 => ((wire_CutText.f k bt412.2.1).bind fun bt417 => (if (!bt397.2.2 || (!bt402.2.2 || (!bt407.2.2 || (!bt412.2.2 || (!bt417.2.2))))) = true then (cell_Cut.j0 k bt417.2.1 true bt397.1 bt402.1 bt407.1 bt417.1 bt412.1) else ((cell_Right.f bt397.1 bt402.1 bt407.1 bt417.1 bt412.1).bind fun t422 => (cell_Cut.j0 k bt417.2.1 (!t422) bt397.1 bt402.1 bt407.1 bt417.1 bt412.1)))))))) = some (r1, r2, r3, r4, r5, r6, r7) := h; clear h; replace H := obm H; obtain ⟨⟨t397, t398, t399⟩, A20, H⟩ := H; replace H : ((wire_CutText.f k t398).bind fun bt402 => ((wire_CutNum.f k bt402.2.1).bind fun bt407 => ((cell_cutFlag.f bt407.2.1).bind fun bt412 => ((wire_CutText.f k bt412.2.1).bind fun bt417 => (if (!t399 || (!bt402.2.2 || (!bt407.2.2 || (!bt412.2.2 || (!bt417.2.2))))) = true then (cell_Cut.j0 k bt417.2.1 true t397 bt402.1 bt407.1 bt417.1 bt412.1) else ((cell_Right.f t397 bt402.1 bt407.1 bt417.1 bt412.1).bind fun t422 => (cell_Cut.j0 k bt417.2.1 (!t422) t397 bt402.1 bt407.1 bt417.1 bt412.1))))))) = some (r1, r2, r3, r4, r5, r6, r7) := H; have A2 := aS A20; clear A20; replace H := obm H; obtain ⟨⟨t402, t403, t404⟩, A30, H⟩ := H; replace H : ((wire_CutNum.f k t403).bind fun bt407 => ((cell_cutFlag.f bt407.2.1).bind fun bt412 => ((wire_CutText.f k bt412.2.1).bind fun bt417 => (if (!t399 || (!t404 || (!bt407.2.2 || (!bt412.2.2 || (!bt417.2.2))))) = true then (cell_Cut.j0 k bt417.2.1 true t397 t402 bt407.1 bt417.1 bt412.1) else ((cell_Right.f t397 t402 bt407.1 bt417.1 bt412.1).bind fun t422 => (cell_Cut.j0 k bt417.2.1 (!t422) t397 t402 bt407.1 bt417.1 bt412.1)))))) = some (r1, r2, r3, r4, r5, r6, r7) := H; have A3 := aS A30; clear A30; replace H := obm H; obtain ⟨⟨t407, t408, t409⟩, A40, H⟩ := H; replace H : ((cell_cutFlag.f t408).bind fun bt412 => ((wire_CutText.f k bt412.2.1).bind fun bt417 => (if (!t399 || (!t404 || (!t409 || (!bt412.2.2 || (!bt417.2.2))))) = true then (cell_Cut.j0 k bt417.2.1 true t397 t402 t407 bt417.1 bt412.1) else ((cell_Right.f t397 t402 t407 bt417.1 bt412.1).bind fun t422 => (cell_Cut.j0 k bt417.2.1 (!t422) t397 t402 t407 bt417.1 bt412.1))))) = some (r1, r2, r3, r4, r5, r6, r7) := H; have A4 := aS A40; clear A40; replace H := obm H; obtain ⟨⟨t412, t413, t416⟩, A50, H⟩ := H; replace H : ((wire_CutText.f k t413).bind fun bt417 => (if (!t399 || (!t404 || (!t409 || (!t416 || (!bt417.2.2))))) = true then (cell_Cut.j0 k bt417.2.1 true t397 t402 t407 bt417.1 t412) else ((cell_Right.f t397 t402 t407 bt417.1 t412).bind fun t422 => (cell_Cut.j0 k bt417.2.1 (!t422) t397 t402 t407 bt417.1 t412)))) = some (r1, r2, r3, r4, r5, r6, r7) := H; have A5 := aS A50; clear A50; replace H := obm H; obtain ⟨⟨t417, t418, t419⟩, A60, H⟩ := H; replace H : (if (!t399 || (!t404 || (!t409 || (!t416 || (!t419))))) = true then (cell_Cut.j0 k t418 true t397 t402 t407 t417 t412) else ((cell_Right.f t397 t402 t407 t417 t412).bind fun t422 => (cell_Cut.j0 k t418 (!t422) t397 t402 t407 t417 t412))) = some (r1, r2, r3, r4, r5, r6, r7) := H; have A6 := aS A60; clear A60; have HC7 := aS H; clear H
 go_enter Try.func74, Try.ntmps74
 go_upto_region 8 with (first | ((with_reducible refine gate_dst (N := 2) rfl ?_); refine box_event ?hg (N := 2) ?hd (cs := #[.string (⟨#[]⟩ : ByteArray), .string (⟨#[]⟩ : ByteArray), .int .i64 0, .string (⟨#[]⟩ : ByteArray), .bool false]) (t := 42) ?hr ?_; (case hd => rfl); (case hg => rfl); (case hr => first | (go_simp; done) | (go_simp; rfl)); intro gb394 hg w8 hbox hb; have BK394 := aS (hbox); have GW394 := bsize hg; have GE394 := bsize hg; replace HB := bstep hb; clear hb hbox hg) | ((with_reducible refine gate_dst (N := 5) rfl ?_); refine box_event ?hg (N := 5) ?hd (cs := #[.string (⟨#[]⟩ : ByteArray), .string (⟨#[]⟩ : ByteArray), .int .i64 0, .string (⟨#[]⟩ : ByteArray), .bool false]) (t := 42) ?hr ?_; (case hd => rfl); (case hg => rfl); (case hr => first | (go_simp; done) | (go_simp; rfl)); intro gb395 hg w9 hbox hb; have BK395 := aS (hbox); have GW395 := bsize hg; have GE395 := bsize hg; replace HB := bstep hb; have NB394_395 := aS ((by rw [hg]; exact Nat.ne_of_lt (blk_lt (g := gb394) (o := .cells #[.string (⟨#[]⟩ : ByteArray), .string (⟨#[]⟩ : ByteArray), .int .i64 0, .string (⟨#[]⟩ : ByteArray), .bool false] 42 (0, 0)) (bkl BK394.out)) : gb394 ≠ gb395)); have NB395_394 := aS ((by rw [hg]; exact Nat.ne_of_gt (blk_lt (g := gb394) (o := .cells #[.string (⟨#[]⟩ : ByteArray), .string (⟨#[]⟩ : ByteArray), .int .i64 0, .string (⟨#[]⟩ : ByteArray), .bool false] 42 (0, 0)) (bkl BK394.out)) : gb395 ≠ gb394)); replace BK394 := bbl BK394 hb; clear hb hbox hg) | ((with_reducible refine gate_dst (N := 6) rfl ?_); refine box_event ?hg (N := 6) ?hd (cs := #[.bool false, .bool false, .bool false, .bool false, .bool false]) (t := 103) ?hr ?_; (case hd => rfl); (case hg => rfl); (case hr => first | (go_simp; done) | (go_simp; rfl)); intro gb396 hg w10 hbox hb; have BK396 := aS (hbox); have GW396 := bsize hg; have GE396 := bsize hg; replace HB := bstep hb; have NB394_396 := aS ((by rw [hg]; exact Nat.ne_of_lt (blk_lt (g := gb394) (o := .cells #[.string (⟨#[]⟩ : ByteArray), .string (⟨#[]⟩ : ByteArray), .int .i64 0, .string (⟨#[]⟩ : ByteArray), .bool false] 42 (0, 0)) (bkl BK394.out)) : gb394 ≠ gb396)); have NB396_394 := aS ((by rw [hg]; exact Nat.ne_of_gt (blk_lt (g := gb394) (o := .cells #[.string (⟨#[]⟩ : ByteArray), .string (⟨#[]⟩ : ByteArray), .int .i64 0, .string (⟨#[]⟩ : ByteArray), .bool false] 42 (0, 0)) (bkl BK394.out)) : gb396 ≠ gb394)); replace BK394 := bbl BK394 hb; have NB395_396 := aS ((by rw [hg]; exact Nat.ne_of_lt (blk_lt (g := gb395) (o := .cells #[.string (⟨#[]⟩ : ByteArray), .string (⟨#[]⟩ : ByteArray), .int .i64 0, .string (⟨#[]⟩ : ByteArray), .bool false] 42 (0, 0)) (bkl BK395.out)) : gb395 ≠ gb396)); have NB396_395 := aS ((by rw [hg]; exact Nat.ne_of_gt (blk_lt (g := gb395) (o := .cells #[.string (⟨#[]⟩ : ByteArray), .string (⟨#[]⟩ : ByteArray), .int .i64 0, .string (⟨#[]⟩ : ByteArray), .bool false] 42 (0, 0)) (bkl BK395.out)) : gb396 ≠ gb395)); replace BK395 := bbl BK395 hb; clear hb hbox hg) | ((with_reducible refine gate_callee (f := 79) rfl ?_); refine goesL_ (some 9) rfl rfl Try.func79 (by kernel_rfl) rfl #[.slice A0 l0.length c0] rfl agn ?_; (with_reducible refine (wire_CutText.calls k _ _ l0 t397 t398 t399 _ ?side1 ?side2 A2.out).mono ?_); (case side1 => exact cel (Kd.C_below HR0.out HB.out)); (case side2 => exact HC0.out); rintro e w11 ⟨v400, rfl, ho0, hb⟩; refine ⟨_, rfl, ?_⟩; have HO401 := aS (Kd.Q_lower ho0 (below_size bel)); replace BK394 := bbl BK394 hb; replace BK395 := bbl BK395 hb; replace BK396 := bbl BK396 hb; replace HB := bstep hb; (try clear hb); (try clear hk); (try clear hi); (try clear ho0); have hnb12 := NB395_394.out; have hnc12 := NB394_395.out; have hnb13 := NB395_396.out; have hnc13 := NB396_395.out; have hcz14 := cK5 BK395; have hnb15 := NB396_394.out; have hnc15 := NB394_396.out; have hcz16 := cK5 BK396; obtain ⟨Ao17, co17, eo17, _⟩ := Kd.Q_slice HO401.out; subst eo17) | ((with_reducible refine gate_callee (f := 79) rfl ?_); refine goesL_ (some 17) rfl rfl Try.func79 (by kernel_rfl) rfl #[.slice Ao17 t398.length co17] rfl agn ?_; (with_reducible refine (wire_CutText.calls k _ _ t398 t402 t403 t404 _ ?side1 ?side2 A3.out).mono ?_); (case side1 => refine (Kd.Q_reads' (e := 5) (base := w.heap.size) (ok := fun k_ => True) (n := t398.length) (c := co17) ?_).2.2; exact (by (with_reducible repeat (first | apply Kd.Q_alloc | apply Kd.Q_drewN | apply Kd.Q_drew)); exact (Kd.Q_mono (Kd.Q_mono (Kd.Q_far (p := ⟨gb396, 0, none⟩) (Kd.Q_far (p := ⟨gb395, 0, none⟩) (Kd.Q_types (Kd.Q_types HO401.out BK395.out (by decide)) BK396.out (by decide)) (fun _ hk => hk.1.2) (.string t397)) (fun _ hk => hk.2) (.bool t399)) (fun _ h_ => h_.1)) (fun _ h_ => h_.1)))); (case side2 => exact (Kd.Q_reads' HO401.out).2.1); rintro e w18 ⟨v405, rfl, ho0, hb⟩; refine ⟨_, rfl, ?_⟩; have HO406 := aS (Kd.Q_lower (Kd.Q_new' ho0 (Kd.Q_lt (by (with_reducible repeat (first | apply Kd.Q_alloc | apply Kd.Q_drewN | apply Kd.Q_drew)); exact (Kd.Q_mono (Kd.Q_mono (Kd.Q_far (p := ⟨gb396, 0, none⟩) (Kd.Q_far (p := ⟨gb395, 0, none⟩) (Kd.Q_types (Kd.Q_types HO401.out BK395.out (by decide)) BK396.out (by decide)) (fun _ hk => hk.1.2) (.string t397)) (fun _ hk => hk.2) (.bool t399)) (fun _ h_ => h_.1)) (fun _ h_ => h_.1))))) (below_size bel)); replace HO401 := aS (Kd.Q_elder' (by (with_reducible repeat (first | apply Kd.Q_alloc | apply Kd.Q_drewN | apply Kd.Q_drew)); exact (Kd.Q_mono (Kd.Q_mono (Kd.Q_far (p := ⟨gb396, 0, none⟩) (Kd.Q_far (p := ⟨gb395, 0, none⟩) (Kd.Q_types (Kd.Q_types HO401.out BK395.out (by decide)) BK396.out (by decide)) (fun _ hk => hk.1.2) (.string t397)) (fun _ hk => hk.2) (.bool t399)) (fun _ h_ => h_.1)) (fun _ h_ => h_.1))) (by first | exact Kd.Q_base ho0 | exact Kd.S_base ho0 | exact Kd.R_base ho0 | exact Kd.V_base ho0) hb); replace BK394 := aS (blk_below (g := gb394) (o := .cells #[.string (⟨#[]⟩ : ByteArray), .string (⟨#[]⟩ : ByteArray), .int .i64 0, .string (⟨#[]⟩ : ByteArray), .bool false] 42 (0, 0)) (by (with_reducible repeat (first | refine blk_drewN ?_ _ | refine blk_drew ?_ | refine blk_alloc ?_ _)); refine blk_far ?_ NB394_396.out _; (with_reducible repeat (first | refine blk_drewN ?_ _ | refine blk_drew ?_ | refine blk_alloc ?_ _)); refine blk_far ?_ NB394_395.out _; (with_reducible repeat (first | refine blk_drewN ?_ _ | refine blk_drew ?_ | refine blk_alloc ?_ _)); exact BK394.out) hb); replace BK395 := aS (blk_below (g := gb395) (o := .cells #[.string t397, .string (⟨#[]⟩ : ByteArray), .int .i64 0, .string (⟨#[]⟩ : ByteArray), .bool false] 42 (0, 0)) (by (with_reducible repeat (first | refine blk_drewN ?_ _ | refine blk_drew ?_ | refine blk_alloc ?_ _)); refine blk_far ?_ NB395_396.out _; (with_reducible repeat (first | refine blk_drewN ?_ _ | refine blk_drew ?_ | refine blk_alloc ?_ _)); refine blk_put (cs := #[.string (⟨#[]⟩ : ByteArray), .string (⟨#[]⟩ : ByteArray), .int .i64 0, .string (⟨#[]⟩ : ByteArray), .bool false]) ?_ 0 _ rfl; (with_reducible repeat (first | refine blk_drewN ?_ _ | refine blk_drew ?_ | refine blk_alloc ?_ _)); exact BK395.out) hb); replace BK396 := aS (blk_below (g := gb396) (o := .cells #[.bool t399, .bool false, .bool false, .bool false, .bool false] 103 (0, 0)) (by (with_reducible repeat (first | refine blk_drewN ?_ _ | refine blk_drew ?_ | refine blk_alloc ?_ _)); refine blk_put (cs := #[.bool false, .bool false, .bool false, .bool false, .bool false]) ?_ 0 _ rfl; (with_reducible repeat (first | refine blk_drewN ?_ _ | refine blk_drew ?_ | refine blk_alloc ?_ _)); refine blk_far ?_ NB396_395.out _; (with_reducible repeat (first | refine blk_drewN ?_ _ | refine blk_drew ?_ | refine blk_alloc ?_ _)); exact BK396.out) hb); replace HB := bstep hb; (try clear hb); (try clear hk); (try clear hi); (try clear ho0); have hcz19 := cK5 BK395; have hcz20 := cK5 BK396; obtain ⟨Ao21, co21, eo21, _⟩ := Kd.Q_slice HO406.out; subst eo21) | ((with_reducible refine gate_callee (f := 38) rfl ?_); refine goesL_ (some 25) rfl rfl Try.func38 (by kernel_rfl) rfl #[.slice Ao21 t403.length co21] rfl agn ?_; (with_reducible refine (wire_CutNum.calls k _ _ t403 t407 t408 t409 _ ?side1 ?side2 A4.out).mono ?_); (case side1 => refine (Kd.Q_reads' (e := 5) (base := w.heap.size) (ok := fun k_ => (True ∧ some k_ ≠ (.slice Ao17 t398.length co17 : Value).ownBlock)) (n := t403.length) (c := co21) ?_).2.2; exact (by (with_reducible repeat (first | apply Kd.Q_alloc | apply Kd.Q_drewN | apply Kd.Q_drew)); exact (Kd.Q_mono (Kd.Q_mono (Kd.Q_far (p := ⟨gb396, 1, none⟩) (Kd.Q_far (p := ⟨gb395, 1, none⟩) (Kd.Q_types (Kd.Q_types HO406.out BK395.out (by decide)) BK396.out (by decide)) (fun _ hk => hk.1.2) (.string t402)) (fun _ hk => hk.2) (.bool t404)) (fun _ h_ => h_.1)) (fun _ h_ => h_.1)))); (case side2 => exact (Kd.Q_reads' HO406.out).2.1); rintro e w22 ⟨v410, rfl, ho0, hb⟩; refine ⟨_, rfl, ?_⟩; have HO411 := aS (Kd.R_lower (Kd.R_new' (Kd.R_new' ho0 (Kd.Q_lt (by (with_reducible repeat (first | apply Kd.Q_alloc | apply Kd.Q_drewN | apply Kd.Q_drew)); exact (Kd.Q_mono (Kd.Q_mono (Kd.Q_far (p := ⟨gb396, 1, none⟩) (Kd.Q_far (p := ⟨gb395, 1, none⟩) (Kd.Q_types (Kd.Q_types HO401.out BK395.out (by decide)) BK396.out (by decide)) (fun _ hk => hk.1.2) (.string t402)) (fun _ hk => hk.2) (.bool t404)) (fun _ h_ => h_.1)) (fun _ h_ => h_.1))))) (Kd.Q_lt (by (with_reducible repeat (first | apply Kd.Q_alloc | apply Kd.Q_drewN | apply Kd.Q_drew)); exact (Kd.Q_mono (Kd.Q_mono (Kd.Q_far (p := ⟨gb396, 1, none⟩) (Kd.Q_far (p := ⟨gb395, 1, none⟩) (Kd.Q_types (Kd.Q_types HO406.out BK395.out (by decide)) BK396.out (by decide)) (fun _ hk => hk.1.2) (.string t402)) (fun _ hk => hk.2) (.bool t404)) (fun _ h_ => h_.1)) (fun _ h_ => h_.1))))) (below_size bel)); replace HO401 := aS (Kd.Q_elder' (by (with_reducible repeat (first | apply Kd.Q_alloc | apply Kd.Q_drewN | apply Kd.Q_drew)); exact (Kd.Q_mono (Kd.Q_mono (Kd.Q_far (p := ⟨gb396, 1, none⟩) (Kd.Q_far (p := ⟨gb395, 1, none⟩) (Kd.Q_types (Kd.Q_types HO401.out BK395.out (by decide)) BK396.out (by decide)) (fun _ hk => hk.1.2) (.string t402)) (fun _ hk => hk.2) (.bool t404)) (fun _ h_ => h_.1)) (fun _ h_ => h_.1))) (ebs ho0) hb); replace HO406 := aS (Kd.Q_elder' (by (with_reducible repeat (first | apply Kd.Q_alloc | apply Kd.Q_drewN | apply Kd.Q_drew)); exact (Kd.Q_mono (Kd.Q_mono (Kd.Q_far (p := ⟨gb396, 1, none⟩) (Kd.Q_far (p := ⟨gb395, 1, none⟩) (Kd.Q_types (Kd.Q_types HO406.out BK395.out (by decide)) BK396.out (by decide)) (fun _ hk => hk.1.2) (.string t402)) (fun _ hk => hk.2) (.bool t404)) (fun _ h_ => h_.1)) (fun _ h_ => h_.1))) (ebs ho0) hb); replace BK394 := aS (blk_below (g := gb394) (o := .cells #[.string (⟨#[]⟩ : ByteArray), .string (⟨#[]⟩ : ByteArray), .int .i64 0, .string (⟨#[]⟩ : ByteArray), .bool false] 42 (0, 0)) (by (with_reducible repeat (first | refine blk_drewN ?_ _ | refine blk_drew ?_ | refine blk_alloc ?_ _)); refine blk_far ?_ NB394_396.out _; (with_reducible repeat (first | refine blk_drewN ?_ _ | refine blk_drew ?_ | refine blk_alloc ?_ _)); refine blk_far ?_ NB394_395.out _; (with_reducible repeat (first | refine blk_drewN ?_ _ | refine blk_drew ?_ | refine blk_alloc ?_ _)); exact BK394.out) hb); replace BK395 := aS (blk_below (g := gb395) (o := .cells #[.string t397, .string t402, .int .i64 0, .string (⟨#[]⟩ : ByteArray), .bool false] 42 (0, 0)) (by (with_reducible repeat (first | refine blk_drewN ?_ _ | refine blk_drew ?_ | refine blk_alloc ?_ _)); refine blk_far ?_ NB395_396.out _; (with_reducible repeat (first | refine blk_drewN ?_ _ | refine blk_drew ?_ | refine blk_alloc ?_ _)); refine blk_put (cs := #[.string t397, .string (⟨#[]⟩ : ByteArray), .int .i64 0, .string (⟨#[]⟩ : ByteArray), .bool false]) ?_ 1 _ rfl; (with_reducible repeat (first | refine blk_drewN ?_ _ | refine blk_drew ?_ | refine blk_alloc ?_ _)); exact BK395.out) hb); replace BK396 := aS (blk_below (g := gb396) (o := .cells #[.bool t399, .bool t404, .bool false, .bool false, .bool false] 103 (0, 0)) (by (with_reducible repeat (first | refine blk_drewN ?_ _ | refine blk_drew ?_ | refine blk_alloc ?_ _)); refine blk_put (cs := #[.bool t399, .bool false, .bool false, .bool false, .bool false]) ?_ 1 _ rfl; (with_reducible repeat (first | refine blk_drewN ?_ _ | refine blk_drew ?_ | refine blk_alloc ?_ _)); refine blk_far ?_ NB396_395.out _; (with_reducible repeat (first | refine blk_drewN ?_ _ | refine blk_drew ?_ | refine blk_alloc ?_ _)); exact BK396.out) hb); replace HB := bstep hb; (try clear hb); (try clear hk); (try clear hi); (try clear ho0); have hcz23 := cK5 BK395) | ((with_reducible refine gate_store (t := 3) (p := 29) rfl ?_); refine store_event (t := 3) (p := 29) (v := ?vo_w24) (w1 := (w22.setCell ⟨gb395, 2, none⟩ (.int .i64 t407))) ?hg ?ho ?hn ?hr ?_; (case ho => rfl); (case hg => rfl); (case hn => rfl); (case hr => first | (go_simp; done) | (go_simp; rfl)); intro w24 hw; have n0_ : Aside0 (Kd.Q (Kd.int .u8) 5 w24 w.heap.size (fun k_ => some k_ ≠ (.slice Ao21 t403.length co21 : Value).ownBlock ∧ some k_ ≠ (v410 : Value).ownBlock) (.slice Ao17 t398.length co17) t398) := ⟨(by rw [hw]; exact (by (with_reducible repeat (first | apply Kd.Q_alloc | apply Kd.Q_drewN | apply Kd.Q_drew)); exact Kd.Q_mono (Kd.Q_far (p := ⟨gb395, 2, none⟩) (Kd.Q_types HO401.out BK395.out (by decide)) (fun _ hk => hk.2) (.int .i64 t407)) (fun _ hk => ⟨hk.1.1.2, hk.1.2⟩)))⟩; have n1_ : Aside0 (Kd.Q (Kd.int .u8) 5 w24 w.heap.size (fun k_ => some k_ ≠ (.slice Ao17 t398.length co17 : Value).ownBlock ∧ some k_ ≠ (v410 : Value).ownBlock) (.slice Ao21 t403.length co21) t403) := ⟨(by rw [hw]; exact (by (with_reducible repeat (first | apply Kd.Q_alloc | apply Kd.Q_drewN | apply Kd.Q_drew)); exact Kd.Q_mono (Kd.Q_far (p := ⟨gb395, 2, none⟩) (Kd.Q_types HO406.out BK395.out (by decide)) (fun _ hk => hk.2) (.int .i64 t407)) (fun _ hk => ⟨hk.1.1.2, hk.1.2⟩)))⟩; have n2_ : Aside0 (Kd.R (Kd.int .u8) 5 w24 w.heap.size (fun k_ => some k_ ≠ (.slice Ao17 t398.length co17 : Value).ownBlock ∧ some k_ ≠ (.slice Ao21 t403.length co21 : Value).ownBlock) v410 t408) := ⟨(by rw [hw]; exact (by (with_reducible repeat (first | apply Kd.R_alloc | apply Kd.R_drewN | apply Kd.R_drew)); exact Kd.R_mono (Kd.R_far (p := ⟨gb395, 2, none⟩) (Kd.R_types HO411.out BK395.out (by decide)) (fun _ hk => hk.2) (.int .i64 t407)) (fun _ hk => ⟨hk.1.1.2, hk.1.2⟩)))⟩; have n3_ : Aside0 (w24.heap[gb394]? = some (.cells #[.string (⟨#[]⟩ : ByteArray), .string (⟨#[]⟩ : ByteArray), .int .i64 0, .string (⟨#[]⟩ : ByteArray), .bool false] 42 (0, 0))) := ⟨(by rw [hw]; exact (by (with_reducible repeat (first | refine blk_drewN ?_ _ | refine blk_drew ?_ | refine blk_alloc ?_ _)); refine blk_far ?_ NB394_395.out _; (with_reducible repeat (first | refine blk_drewN ?_ _ | refine blk_drew ?_ | refine blk_alloc ?_ _)); exact BK394.out))⟩; have n4_ : Aside0 (w24.heap[gb395]? = some (.cells #[.string t397, .string t402, .int .i64 t407, .string (⟨#[]⟩ : ByteArray), .bool false] 42 (0, 0))) := ⟨(by rw [hw]; exact (by (with_reducible repeat (first | refine blk_drewN ?_ _ | refine blk_drew ?_ | refine blk_alloc ?_ _)); refine blk_put (cs := #[.string t397, .string t402, .int .i64 0, .string (⟨#[]⟩ : ByteArray), .bool false]) ?_ 2 _ rfl; (with_reducible repeat (first | refine blk_drewN ?_ _ | refine blk_drew ?_ | refine blk_alloc ?_ _)); exact BK395.out))⟩; have n5_ : Aside0 (w24.heap[gb396]? = some (.cells #[.bool t399, .bool t404, .bool false, .bool false, .bool false] 103 (0, 0))) := ⟨(by rw [hw]; exact (by (with_reducible repeat (first | refine blk_drewN ?_ _ | refine blk_drew ?_ | refine blk_alloc ?_ _)); refine blk_far ?_ NB396_395.out _; (with_reducible repeat (first | refine blk_drewN ?_ _ | refine blk_drew ?_ | refine blk_alloc ?_ _)); exact BK396.out))⟩; have n6_ : Aside0 (Below w.heap.size w w24) := ⟨(by rw [hw]; exact bel)⟩; clear hw; clear HO401; clear HO406; clear HO411; clear BK394; clear BK395; clear BK396; clear HB; have HO401 := n0_; have HO406 := n1_; have HO411 := n2_; have BK394 := n3_; have BK395 := n4_; have BK396 := n5_; have HB := n6_; clear n0_ n1_ n2_ n3_ n4_ n5_ n6_; have hcz25 := cK5 BK396) | ((with_reducible refine gate_store (t := 4) (p := 30) rfl ?_); refine store_event (t := 4) (p := 30) (v := ?vo_w26) (w1 := (w24.setCell ⟨gb396, 2, none⟩ (.bool t409))) ?hg ?ho ?hn ?hr ?_; (case ho => rfl); (case hg => rfl); (case hn => rfl); (case hr => first | (go_simp; done) | (go_simp; rfl)); intro w26 hw; have n0_ : Aside0 (Kd.Q (Kd.int .u8) 5 w26 w.heap.size (fun k_ => some k_ ≠ (.slice Ao21 t403.length co21 : Value).ownBlock ∧ some k_ ≠ (v410 : Value).ownBlock) (.slice Ao17 t398.length co17) t398) := ⟨(by rw [hw]; exact (by (with_reducible repeat (first | apply Kd.Q_alloc | apply Kd.Q_drewN | apply Kd.Q_drew)); exact Kd.Q_mono (Kd.Q_far (p := ⟨gb396, 2, none⟩) (Kd.Q_types HO401.out BK396.out (by decide)) (fun _ hk => hk.2) (.bool t409)) (fun _ hk => ⟨hk.1.1, hk.1.2⟩)))⟩; have n1_ : Aside0 (Kd.Q (Kd.int .u8) 5 w26 w.heap.size (fun k_ => some k_ ≠ (.slice Ao17 t398.length co17 : Value).ownBlock ∧ some k_ ≠ (v410 : Value).ownBlock) (.slice Ao21 t403.length co21) t403) := ⟨(by rw [hw]; exact (by (with_reducible repeat (first | apply Kd.Q_alloc | apply Kd.Q_drewN | apply Kd.Q_drew)); exact Kd.Q_mono (Kd.Q_far (p := ⟨gb396, 2, none⟩) (Kd.Q_types HO406.out BK396.out (by decide)) (fun _ hk => hk.2) (.bool t409)) (fun _ hk => ⟨hk.1.1, hk.1.2⟩)))⟩; have n2_ : Aside0 (Kd.R (Kd.int .u8) 5 w26 w.heap.size (fun k_ => some k_ ≠ (.slice Ao17 t398.length co17 : Value).ownBlock ∧ some k_ ≠ (.slice Ao21 t403.length co21 : Value).ownBlock) v410 t408) := ⟨(by rw [hw]; exact (by (with_reducible repeat (first | apply Kd.R_alloc | apply Kd.R_drewN | apply Kd.R_drew)); exact Kd.R_mono (Kd.R_far (p := ⟨gb396, 2, none⟩) (Kd.R_types HO411.out BK396.out (by decide)) (fun _ hk => hk.2) (.bool t409)) (fun _ hk => ⟨hk.1.1, hk.1.2⟩)))⟩; have n3_ : Aside0 (w26.heap[gb394]? = some (.cells #[.string (⟨#[]⟩ : ByteArray), .string (⟨#[]⟩ : ByteArray), .int .i64 0, .string (⟨#[]⟩ : ByteArray), .bool false] 42 (0, 0))) := ⟨(by rw [hw]; exact (by (with_reducible repeat (first | refine blk_drewN ?_ _ | refine blk_drew ?_ | refine blk_alloc ?_ _)); refine blk_far ?_ NB394_396.out _; (with_reducible repeat (first | refine blk_drewN ?_ _ | refine blk_drew ?_ | refine blk_alloc ?_ _)); exact BK394.out))⟩; have n4_ : Aside0 (w26.heap[gb395]? = some (.cells #[.string t397, .string t402, .int .i64 t407, .string (⟨#[]⟩ : ByteArray), .bool false] 42 (0, 0))) := ⟨(by rw [hw]; exact (by (with_reducible repeat (first | refine blk_drewN ?_ _ | refine blk_drew ?_ | refine blk_alloc ?_ _)); refine blk_far ?_ NB395_396.out _; (with_reducible repeat (first | refine blk_drewN ?_ _ | refine blk_drew ?_ | refine blk_alloc ?_ _)); exact BK395.out))⟩; have n5_ : Aside0 (w26.heap[gb396]? = some (.cells #[.bool t399, .bool t404, .bool t409, .bool false, .bool false] 103 (0, 0))) := ⟨(by rw [hw]; exact (by (with_reducible repeat (first | refine blk_drewN ?_ _ | refine blk_drew ?_ | refine blk_alloc ?_ _)); refine blk_put (cs := #[.bool t399, .bool t404, .bool false, .bool false, .bool false]) ?_ 2 _ rfl; (with_reducible repeat (first | refine blk_drewN ?_ _ | refine blk_drew ?_ | refine blk_alloc ?_ _)); exact BK396.out))⟩; have n6_ : Aside0 (Below w.heap.size w w26) := ⟨(by rw [hw]; exact bel)⟩; clear hw; clear HO401; clear HO406; clear HO411; clear BK394; clear BK395; clear BK396; clear HB; have HO401 := n0_; have HO406 := n1_; have HO411 := n2_; have BK394 := n3_; have BK395 := n4_; have BK396 := n5_; have HB := n6_; clear n0_ n1_ n2_ n3_ n4_ n5_ n6_; obtain ⟨Ao27, co27, eo27⟩ := Kd.R_slice HO411.out; subst eo27) | ((with_reducible refine gate_callee (f := 80) rfl ?_); refine goesL_ (some 33) rfl rfl Try.func80 (by kernel_rfl) rfl #[.slice Ao27 t408.length co27] rfl agn ?_; (with_reducible refine (cell_cutFlag.calls (fun k_ => some k_ = (.slice Ao27 t408.length co27 : Value).ownBlock) (.slice Ao27 t408.length co27) t408 t412 t413 t416 w _ ?side1 ?side2 A5.out).mono ?_); (case side1 => repeat (first | (with_reducible first | exact HB.out | apply bal | apply bdN | apply bdo | refine below_set ?_ GE394.out | refine below_set ?_ GE395.out | refine below_set ?_ GE396.out) | exact HB.out)); (case side2 => exact Kd.R_tight rfl HO411.out); rintro e w28 ⟨v414, rfl, ho0, hb, hkp⟩; refine ⟨_, rfl, ?_⟩; have n0_ := aS (blk_kept (bkl BK394.out) hkp (fun hs_ => (fun e_ => (Kd.R_ne HO411.out BK394.out (by decide)) e_) hs_)); have n1_ := aS (blk_kept (bkl BK395.out) hkp (fun hs_ => (fun e_ => (Kd.R_ne HO411.out BK395.out (by decide)) e_) hs_)); have n2_ := aS (blk_kept (bkl BK396.out) hkp (fun hs_ => (fun e_ => (Kd.R_ne HO411.out BK396.out (by decide)) e_) hs_)); have n3_ := aS (Kd.Q_mono (ok' := fun k_ => some k_ ≠ (.slice Ao21 t403.length co21 : Value).ownBlock ∧ some k_ ≠ (v414 : Value).ownBlock) (Kd.Q_keptB (HO401.out) hkp (fun k_ hk_ hs_ => (hk_.2) hs_)) (fun k_ hk_ => ⟨hk_.1.1, fun e_ => Or.elim (ho0.1 k_ e_.symm) (fun hs_ => hk_.2.1 hs_) (fun hn_ => Nat.not_le.2 hk_.2.2 hn_)⟩)); have n4_ := aS (Kd.Q_mono (ok' := fun k_ => some k_ ≠ (.slice Ao17 t398.length co17 : Value).ownBlock ∧ some k_ ≠ (v414 : Value).ownBlock) (Kd.Q_keptB (HO406.out) hkp (fun k_ hk_ hs_ => (hk_.2) hs_)) (fun k_ hk_ => ⟨hk_.1.1, fun e_ => Or.elim (ho0.1 k_ e_.symm) (fun hs_ => hk_.2.1 hs_) (fun hn_ => Nat.not_le.2 hk_.2.2 hn_)⟩)); have n5_ := aS (Kd.Q_mono (ok' := fun k_ => some k_ ≠ (.slice Ao17 t398.length co17 : Value).ownBlock ∧ some k_ ≠ (.slice Ao21 t403.length co21 : Value).ownBlock) ho0 (fun k_ hk_ => ⟨Or.elim hk_ (fun hs_ => fun e_ => (((HO401.out).1 k_ e_.symm).2) hs_) (fun hn_ => (Kd.fresh' (Kd.Q_lt (by (with_reducible repeat (first | apply Kd.Q_alloc | apply Kd.Q_drewN | apply Kd.Q_drew)); exact HO401.out)) k_ hn_)), Or.elim hk_ (fun hs_ => fun e_ => (((HO406.out).1 k_ e_.symm).2) hs_) (fun hn_ => (Kd.fresh' (Kd.Q_lt (by (with_reducible repeat (first | apply Kd.Q_alloc | apply Kd.Q_drewN | apply Kd.Q_drew)); exact HO406.out)) k_ hn_))⟩)); have n6_ := aS (hb); clear BK394; clear BK395; clear BK396; clear HO401; clear HO406; clear HB; clear HO411; have BK394 := n0_; have BK395 := n1_; have BK396 := n2_; have HO401 := n3_; have HO406 := n4_; have HO415 := n5_; have HB := n6_; clear n0_ n1_ n2_ n3_ n4_ n5_ n6_; (try clear hb); (try clear hkp); (try clear ho0); have hcz29 := cK5 BK395; have hcz30 := cK5 BK396; obtain ⟨Ao31, co31, eo31, _⟩ := Kd.Q_slice HO415.out; subst eo31) | ((with_reducible refine gate_callee (f := 79) rfl ?_); refine goesL_ (some 41) rfl rfl Try.func79 (by kernel_rfl) rfl #[.slice Ao31 t413.length co31] rfl agn ?_; (with_reducible refine (wire_CutText.calls k _ _ t413 t417 t418 t419 _ ?side1 ?side2 A6.out).mono ?_); (case side1 => refine (Kd.Q_reads' (e := 5) (base := w.heap.size) (ok := fun k_ => (some k_ ≠ (.slice Ao17 t398.length co17 : Value).ownBlock ∧ some k_ ≠ (.slice Ao21 t403.length co21 : Value).ownBlock)) (n := t413.length) (c := co31) ?_).2.2; exact (by (with_reducible repeat (first | apply Kd.Q_alloc | apply Kd.Q_drewN | apply Kd.Q_drew)); exact (Kd.Q_mono (Kd.Q_mono (Kd.Q_far (p := ⟨gb396, 3, none⟩) (Kd.Q_far (p := ⟨gb395, 4, none⟩) (Kd.Q_types (Kd.Q_types HO415.out BK395.out (by decide)) BK396.out (by decide)) (fun _ hk => hk.1.2) (.bool t412)) (fun _ hk => hk.2) (.bool t416)) (fun _ h_ => h_.1)) (fun _ h_ => h_.1)))); (case side2 => exact (Kd.Q_reads' HO415.out).2.1); rintro e w32 ⟨v420, rfl, ho0, hb⟩; refine ⟨_, rfl, ?_⟩; have HO421 := aS (Kd.Q_lower (Kd.Q_new' (Kd.Q_new' (Kd.Q_new' ho0 (Kd.Q_lt (by (with_reducible repeat (first | apply Kd.Q_alloc | apply Kd.Q_drewN | apply Kd.Q_drew)); exact (Kd.Q_mono (Kd.Q_mono (Kd.Q_far (p := ⟨gb396, 3, none⟩) (Kd.Q_far (p := ⟨gb395, 4, none⟩) (Kd.Q_types (Kd.Q_types HO401.out BK395.out (by decide)) BK396.out (by decide)) (fun _ hk => hk.1.2) (.bool t412)) (fun _ hk => hk.2) (.bool t416)) (fun _ h_ => h_.1)) (fun _ h_ => h_.1))))) (Kd.Q_lt (by (with_reducible repeat (first | apply Kd.Q_alloc | apply Kd.Q_drewN | apply Kd.Q_drew)); exact (Kd.Q_mono (Kd.Q_mono (Kd.Q_far (p := ⟨gb396, 3, none⟩) (Kd.Q_far (p := ⟨gb395, 4, none⟩) (Kd.Q_types (Kd.Q_types HO406.out BK395.out (by decide)) BK396.out (by decide)) (fun _ hk => hk.1.2) (.bool t412)) (fun _ hk => hk.2) (.bool t416)) (fun _ h_ => h_.1)) (fun _ h_ => h_.1))))) (Kd.Q_lt (by (with_reducible repeat (first | apply Kd.Q_alloc | apply Kd.Q_drewN | apply Kd.Q_drew)); exact (Kd.Q_mono (Kd.Q_mono (Kd.Q_far (p := ⟨gb396, 3, none⟩) (Kd.Q_far (p := ⟨gb395, 4, none⟩) (Kd.Q_types (Kd.Q_types HO415.out BK395.out (by decide)) BK396.out (by decide)) (fun _ hk => hk.1.2) (.bool t412)) (fun _ hk => hk.2) (.bool t416)) (fun _ h_ => h_.1)) (fun _ h_ => h_.1))))) (below_size bel)); replace HO401 := aS (Kd.Q_elder' (by (with_reducible repeat (first | apply Kd.Q_alloc | apply Kd.Q_drewN | apply Kd.Q_drew)); exact (Kd.Q_mono (Kd.Q_mono (Kd.Q_far (p := ⟨gb396, 3, none⟩) (Kd.Q_far (p := ⟨gb395, 4, none⟩) (Kd.Q_types (Kd.Q_types HO401.out BK395.out (by decide)) BK396.out (by decide)) (fun _ hk => hk.1.2) (.bool t412)) (fun _ hk => hk.2) (.bool t416)) (fun _ h_ => h_.1)) (fun _ h_ => h_.1))) (by first | exact Kd.Q_base ho0 | exact Kd.S_base ho0 | exact Kd.R_base ho0 | exact Kd.V_base ho0) hb); replace HO406 := aS (Kd.Q_elder' (by (with_reducible repeat (first | apply Kd.Q_alloc | apply Kd.Q_drewN | apply Kd.Q_drew)); exact (Kd.Q_mono (Kd.Q_mono (Kd.Q_far (p := ⟨gb396, 3, none⟩) (Kd.Q_far (p := ⟨gb395, 4, none⟩) (Kd.Q_types (Kd.Q_types HO406.out BK395.out (by decide)) BK396.out (by decide)) (fun _ hk => hk.1.2) (.bool t412)) (fun _ hk => hk.2) (.bool t416)) (fun _ h_ => h_.1)) (fun _ h_ => h_.1))) (by first | exact Kd.Q_base ho0 | exact Kd.S_base ho0 | exact Kd.R_base ho0 | exact Kd.V_base ho0) hb); replace HO415 := aS (Kd.Q_elder' (by (with_reducible repeat (first | apply Kd.Q_alloc | apply Kd.Q_drewN | apply Kd.Q_drew)); exact (Kd.Q_mono (Kd.Q_mono (Kd.Q_far (p := ⟨gb396, 3, none⟩) (Kd.Q_far (p := ⟨gb395, 4, none⟩) (Kd.Q_types (Kd.Q_types HO415.out BK395.out (by decide)) BK396.out (by decide)) (fun _ hk => hk.1.2) (.bool t412)) (fun _ hk => hk.2) (.bool t416)) (fun _ h_ => h_.1)) (fun _ h_ => h_.1))) (by first | exact Kd.Q_base ho0 | exact Kd.S_base ho0 | exact Kd.R_base ho0 | exact Kd.V_base ho0) hb); replace BK394 := aS (blk_below (g := gb394) (o := .cells #[.string (⟨#[]⟩ : ByteArray), .string (⟨#[]⟩ : ByteArray), .int .i64 0, .string (⟨#[]⟩ : ByteArray), .bool false] 42 (0, 0)) (by (with_reducible repeat (first | refine blk_drewN ?_ _ | refine blk_drew ?_ | refine blk_alloc ?_ _)); refine blk_far ?_ NB394_396.out _; (with_reducible repeat (first | refine blk_drewN ?_ _ | refine blk_drew ?_ | refine blk_alloc ?_ _)); refine blk_far ?_ NB394_395.out _; (with_reducible repeat (first | refine blk_drewN ?_ _ | refine blk_drew ?_ | refine blk_alloc ?_ _)); exact BK394.out) hb); replace BK395 := aS (blk_below (g := gb395) (o := .cells #[.string t397, .string t402, .int .i64 t407, .string (⟨#[]⟩ : ByteArray), .bool t412] 42 (0, 0)) (by (with_reducible repeat (first | refine blk_drewN ?_ _ | refine blk_drew ?_ | refine blk_alloc ?_ _)); refine blk_far ?_ NB395_396.out _; (with_reducible repeat (first | refine blk_drewN ?_ _ | refine blk_drew ?_ | refine blk_alloc ?_ _)); refine blk_put (cs := #[.string t397, .string t402, .int .i64 t407, .string (⟨#[]⟩ : ByteArray), .bool false]) ?_ 4 _ rfl; (with_reducible repeat (first | refine blk_drewN ?_ _ | refine blk_drew ?_ | refine blk_alloc ?_ _)); exact BK395.out) hb); replace BK396 := aS (blk_below (g := gb396) (o := .cells #[.bool t399, .bool t404, .bool t409, .bool t416, .bool false] 103 (0, 0)) (by (with_reducible repeat (first | refine blk_drewN ?_ _ | refine blk_drew ?_ | refine blk_alloc ?_ _)); refine blk_put (cs := #[.bool t399, .bool t404, .bool t409, .bool false, .bool false]) ?_ 3 _ rfl; (with_reducible repeat (first | refine blk_drewN ?_ _ | refine blk_drew ?_ | refine blk_alloc ?_ _)); refine blk_far ?_ NB396_395.out _; (with_reducible repeat (first | refine blk_drewN ?_ _ | refine blk_drew ?_ | refine blk_alloc ?_ _)); exact BK396.out) hb); replace HB := bstep hb; (try clear hb); (try clear hk); (try clear hi); (try clear ho0); have hcz33 := cK5 BK395; have hcz34 := cK5 BK396))
 (try simp only [Act.put, lsa, lsz, lss])
 go_cut [54] (fun v54 wc => ∃ (kq : Nat) (x54_6 : Bool), v54 = .bool x54_6 ∧ Aside0 (cell_Cut.j0 kq t418 x54_6 t397 t402 t407 t417 t412 = some (r1, r2, r3, r4, r5, r6, r7)) ∧ Aside0 (kq ≤ k) ∧ Aside0 (Kd.Q (Kd.int .u8) 5 wc w.heap.size (fun _ => True) v420 t418) ∧ Aside0 (wc.heap[gb394]? = some (.cells #[.string (⟨#[]⟩ : ByteArray), .string (⟨#[]⟩ : ByteArray), .int .i64 0, .string (⟨#[]⟩ : ByteArray), .bool false] 42 (0, 0))) ∧ Aside0 (wc.heap[gb395]? = some (.cells #[.string t397, .string t402, .int .i64 t407, .string t417, .bool t412] 42 (0, 0))) ∧ Aside0 (wc.heap[gb396]? = some (.cells #[.bool t399, .bool t404, .bool t409, .bool t416, .bool t419] 103 (0, 0))) ∧ Aside0 (Below w.heap.size w wc))
 case first =>
  have H := HC7.out; clear HC7
  by_cases c35 : (!t399 || (!t404 || (!t409 || (!t416 || (!t419))))) = true
  ·
   rw [if_pos c35] at H; have c35b0 : (!t399 || (!t404 || (!t409 || (!t416 || (!t419))))) = true := c35; clear c35
   (first | rw [c35b0] | (simp only [i64_w, i32_w]; rw [c35b0]) | skip)
   have H' := aS H
   clear H; have hnb36 := NB396_394.out; have hnc36 := NB394_396.out; have hnb37 := NB396_395.out; have hnc37 := NB395_396.out; have hcz38 := cK5 BK396
   go_wp2
   go_meet
   case rel => exact ⟨_, (true), srf, H', ⟨by first | omega | exact Nat.le_refl _⟩, ⟨by (with_reducible repeat (first | apply Kd.Q_alloc | apply Kd.Q_drewN | apply Kd.Q_drew)); exact Kd.Q_mono (Kd.Q_far (p := ⟨gb396, 4, none⟩) (Kd.Q_far (p := ⟨gb395, 3, none⟩) (Kd.Q_types (Kd.Q_types HO421.out BK395.out (by decide)) BK396.out (by decide)) (fun _ hk => hk.1.2) (.string t417)) (fun _ hk => hk.2) (.bool t419)) (fun _ hk => trivial)⟩, ⟨by (with_reducible repeat (first | refine blk_drewN ?_ _ | refine blk_drew ?_ | refine blk_alloc ?_ _)); refine blk_far ?_ NB394_396.out _; (with_reducible repeat (first | refine blk_drewN ?_ _ | refine blk_drew ?_ | refine blk_alloc ?_ _)); refine blk_far ?_ NB394_395.out _; (with_reducible repeat (first | refine blk_drewN ?_ _ | refine blk_drew ?_ | refine blk_alloc ?_ _)); exact BK394.out⟩, ⟨by (with_reducible repeat (first | refine blk_drewN ?_ _ | refine blk_drew ?_ | refine blk_alloc ?_ _)); refine blk_far ?_ NB395_396.out _; (with_reducible repeat (first | refine blk_drewN ?_ _ | refine blk_drew ?_ | refine blk_alloc ?_ _)); refine blk_put (cs := #[.string t397, .string t402, .int .i64 t407, .string (⟨#[]⟩ : ByteArray), .bool t412]) ?_ 3 _ rfl; (with_reducible repeat (first | refine blk_drewN ?_ _ | refine blk_drew ?_ | refine blk_alloc ?_ _)); exact BK395.out⟩, ⟨by (with_reducible repeat (first | refine blk_drewN ?_ _ | refine blk_drew ?_ | refine blk_alloc ?_ _)); refine blk_put (cs := #[.bool t399, .bool t404, .bool t409, .bool t416, .bool false]) ?_ 4 _ rfl; (with_reducible repeat (first | refine blk_drewN ?_ _ | refine blk_drew ?_ | refine blk_alloc ?_ _)); refine blk_far ?_ NB396_395.out _; (with_reducible repeat (first | refine blk_drewN ?_ _ | refine blk_drew ?_ | refine blk_alloc ?_ _)); exact BK396.out⟩, ⟨bel⟩⟩
  ·
   rw [if_neg c35] at H
   have c35b0 : (!t399 || (!t404 || (!t409 || (!t416 || (!t419))))) = false := by simpa using c35
   clear c35
   (first | rw [c35b0] | (simp only [i64_w, i32_w]; rw [c35b0]) | skip)
   replace H := obm H; obtain ⟨t422, A390, H⟩ := H; replace H : (cell_Cut.j0 k t418 (!t422) t397 t402 t407 t417 t412) = some (r1, r2, r3, r4, r5, r6, r7) := H; have A39 := aS A390; clear A390
   have H' := aS H
   clear H; have hnb40 := NB396_394.out; have hnc40 := NB394_396.out; have hnb41 := NB396_395.out; have hnc41 := NB395_396.out; have hcz42 := cK5 BK396; have hnb43 := NB395_394.out; have hnc43 := NB394_395.out; have hcz44 := cK5 BK395
   go_wp2_with (first | (go_at_call 61; (with_reducible refine (cell_Right.calls t397 t402 t407 t417 t412 t422 _ A39.out).mono ?_); rintro e w45 ⟨rfl, hb⟩; replace HO401 := aS (Kd.Q_below (by (with_reducible repeat (first | apply Kd.Q_alloc | apply Kd.Q_drewN | apply Kd.Q_drew)); exact (Kd.Q_mono (Kd.Q_mono (Kd.Q_far (p := ⟨gb396, 4, none⟩) (Kd.Q_far (p := ⟨gb395, 3, none⟩) (Kd.Q_types (Kd.Q_types HO401.out BK395.out (by decide)) BK396.out (by decide)) (fun _ hk => hk.1.2) (.string t417)) (fun _ hk => hk.2) (.bool t419)) (fun _ h_ => h_.1)) (fun _ h_ => h_.1))) hb); replace HO406 := aS (Kd.Q_below (by (with_reducible repeat (first | apply Kd.Q_alloc | apply Kd.Q_drewN | apply Kd.Q_drew)); exact (Kd.Q_mono (Kd.Q_mono (Kd.Q_far (p := ⟨gb396, 4, none⟩) (Kd.Q_far (p := ⟨gb395, 3, none⟩) (Kd.Q_types (Kd.Q_types HO406.out BK395.out (by decide)) BK396.out (by decide)) (fun _ hk => hk.1.2) (.string t417)) (fun _ hk => hk.2) (.bool t419)) (fun _ h_ => h_.1)) (fun _ h_ => h_.1))) hb); replace HO415 := aS (Kd.Q_below (by (with_reducible repeat (first | apply Kd.Q_alloc | apply Kd.Q_drewN | apply Kd.Q_drew)); exact (Kd.Q_mono (Kd.Q_mono (Kd.Q_far (p := ⟨gb396, 4, none⟩) (Kd.Q_far (p := ⟨gb395, 3, none⟩) (Kd.Q_types (Kd.Q_types HO415.out BK395.out (by decide)) BK396.out (by decide)) (fun _ hk => hk.1.2) (.string t417)) (fun _ hk => hk.2) (.bool t419)) (fun _ h_ => h_.1)) (fun _ h_ => h_.1))) hb); replace HO421 := aS (Kd.Q_below (by (with_reducible repeat (first | apply Kd.Q_alloc | apply Kd.Q_drewN | apply Kd.Q_drew)); exact (Kd.Q_mono (Kd.Q_mono (Kd.Q_far (p := ⟨gb396, 4, none⟩) (Kd.Q_far (p := ⟨gb395, 3, none⟩) (Kd.Q_types (Kd.Q_types HO421.out BK395.out (by decide)) BK396.out (by decide)) (fun _ hk => hk.1.2) (.string t417)) (fun _ hk => hk.2) (.bool t419)) (fun _ h_ => h_.1)) (fun _ h_ => h_.1))) hb); replace BK394 := aS (blk_below (g := gb394) (o := .cells #[.string (⟨#[]⟩ : ByteArray), .string (⟨#[]⟩ : ByteArray), .int .i64 0, .string (⟨#[]⟩ : ByteArray), .bool false] 42 (0, 0)) (by (with_reducible repeat (first | refine blk_drewN ?_ _ | refine blk_drew ?_ | refine blk_alloc ?_ _)); refine blk_far ?_ NB394_396.out _; (with_reducible repeat (first | refine blk_drewN ?_ _ | refine blk_drew ?_ | refine blk_alloc ?_ _)); refine blk_far ?_ NB394_395.out _; (with_reducible repeat (first | refine blk_drewN ?_ _ | refine blk_drew ?_ | refine blk_alloc ?_ _)); exact BK394.out) hb); replace BK395 := aS (blk_below (g := gb395) (o := .cells #[.string t397, .string t402, .int .i64 t407, .string t417, .bool t412] 42 (0, 0)) (by (with_reducible repeat (first | refine blk_drewN ?_ _ | refine blk_drew ?_ | refine blk_alloc ?_ _)); refine blk_far ?_ NB395_396.out _; (with_reducible repeat (first | refine blk_drewN ?_ _ | refine blk_drew ?_ | refine blk_alloc ?_ _)); refine blk_put (cs := #[.string t397, .string t402, .int .i64 t407, .string (⟨#[]⟩ : ByteArray), .bool t412]) ?_ 3 _ rfl; (with_reducible repeat (first | refine blk_drewN ?_ _ | refine blk_drew ?_ | refine blk_alloc ?_ _)); exact BK395.out) hb); replace BK396 := aS (blk_below (g := gb396) (o := .cells #[.bool t399, .bool t404, .bool t409, .bool t416, .bool t419] 103 (0, 0)) (by (with_reducible repeat (first | refine blk_drewN ?_ _ | refine blk_drew ?_ | refine blk_alloc ?_ _)); refine blk_put (cs := #[.bool t399, .bool t404, .bool t409, .bool t416, .bool false]) ?_ 4 _ rfl; (with_reducible repeat (first | refine blk_drewN ?_ _ | refine blk_drew ?_ | refine blk_alloc ?_ _)); refine blk_far ?_ NB396_395.out _; (with_reducible repeat (first | refine blk_drewN ?_ _ | refine blk_drew ?_ | refine blk_alloc ?_ _)); exact BK396.out) hb); replace HB := bstep hb; (try clear hb); (try clear hk); (try clear hi)))
   go_meet
   case rel => exact ⟨_, (!t422), srf, H', ⟨by first | omega | exact Nat.le_refl _⟩, ⟨by (with_reducible repeat (first | apply Kd.Q_alloc | apply Kd.Q_drewN | apply Kd.Q_drew)); exact Kd.Q_mono HO421.out (fun _ hk => trivial)⟩, ⟨bkl BK394.out⟩, ⟨bkl BK395.out⟩, ⟨bkl BK396.out⟩, ⟨bel⟩⟩
 case rest =>
  clear HC7; (try clear hcz14); (try clear hcz16); (try clear hcz19); (try clear hcz20); (try clear hcz23); (try clear hcz25); (try clear hcz29); (try clear hcz30); (try clear hcz33); (try clear hcz34); obtain ⟨kq, x54_6, rfl, HA, HJ6, HO_0, BK394, BK395, BK396, HB⟩ := hcut
  cases kq with
  | zero => exact absurd HA.out (by simp [cell_Cut.j0])
  | succ kj6 =>
   have H := HA.out; clear HA
   simp only [cell_Cut.j0] at H
   by_cases c46 : x54_6 = true
   ·
    subst c46
    have H1 : (some ((⟨#[]⟩ : ByteArray), (⟨#[]⟩ : ByteArray), 0, (⟨#[]⟩ : ByteArray), false, ([] : List Int), false)) = some (r1, r2, r3, r4, r5, r6, r7) := by rw [if_pos rfl] at H; exact H
    clear H; have H := H1; clear H1
    simp only [Option.some.injEq, Prod.mk.injEq] at H
    obtain ⟨rfl, rfl, rfl, rfl, rfl, rfl, rfl⟩ := H; have hnb47 := NB394_395.out; have hnc47 := NB395_394.out; have hnb48 := NB394_396.out; have hnc48 := NB396_394.out; have hcz49 := cK5 BK394
    go_wp2
    refine bodyPost_ret (results_ctt rfl _ _ gb394 42 #[.string (⟨#[]⟩ : ByteArray), .string (⟨#[]⟩ : ByteArray), .int .i64 0, .string (⟨#[]⟩ : ByteArray), .bool false] (0, 0) _ rfl (by (with_reducible repeat (first | refine blk_drewN ?_ _ | refine blk_drew ?_ | refine blk_alloc ?_ _)); refine blk_put (cs := #[.string (⟨#[]⟩ : ByteArray), .string (⟨#[]⟩ : ByteArray), .int .i64 0, .string (⟨#[]⟩ : ByteArray), .bool false]) ?_ 4 _ rfl; (with_reducible repeat (first | refine blk_drewN ?_ _ | refine blk_drew ?_ | refine blk_alloc ?_ _)); refine blk_put (cs := #[.string (⟨#[]⟩ : ByteArray), .string (⟨#[]⟩ : ByteArray), .int .i64 0, .string (⟨#[]⟩ : ByteArray), .bool false]) ?_ 3 _ rfl; (with_reducible repeat (first | refine blk_drewN ?_ _ | refine blk_drew ?_ | refine blk_alloc ?_ _)); refine blk_put (cs := #[.string (⟨#[]⟩ : ByteArray), .string (⟨#[]⟩ : ByteArray), .int .i64 0, .string (⟨#[]⟩ : ByteArray), .bool false]) ?_ 2 _ rfl; (with_reducible repeat (first | refine blk_drewN ?_ _ | refine blk_drew ?_ | refine blk_alloc ?_ _)); refine blk_put (cs := #[.string (⟨#[]⟩ : ByteArray), .string (⟨#[]⟩ : ByteArray), .int .i64 0, .string (⟨#[]⟩ : ByteArray), .bool false]) ?_ 1 _ rfl; (with_reducible repeat (first | refine blk_drewN ?_ _ | refine blk_drew ?_ | refine blk_alloc ?_ _)); refine blk_put (cs := #[.string (⟨#[]⟩ : ByteArray), .string (⟨#[]⟩ : ByteArray), .int .i64 0, .string (⟨#[]⟩ : ByteArray), .bool false]) ?_ 0 _ rfl; (with_reducible repeat (first | refine blk_drewN ?_ _ | refine blk_drew ?_ | refine blk_alloc ?_ _)); exact BK394.out) Try.underlying42 rfl (by kernel_rfl)) rfl ?_; exact ⟨_, rf3, Kd.Q_of_R (by first | exact Kd.R_nil _ _ _ _ _ | exact Kd.N_nil _ _ _ _ _ | exact Kd.V_nil _ _ _ _ _ | exact Kd.Q_nil _ _ _ _ _ | exact Kd.S_nil _ _ _ _ _), bel⟩
   ·
    replace c46 := Bool.eq_false_iff.mpr c46; subst c46
    have H1 : (some (t397, t402, t407, t417, t412, t418, true)) = some (r1, r2, r3, r4, r5, r6, r7) := by rw [if_neg (show ¬ (false = true) by decide)] at H; exact H
    clear H; have H := H1; clear H1
    simp only [Option.some.injEq, Prod.mk.injEq] at H
    obtain ⟨rfl, rfl, rfl, rfl, rfl, rfl, rfl⟩ := H; have hnb50 := NB395_394.out; have hnc50 := NB394_395.out; have hnb51 := NB395_396.out; have hnc51 := NB396_395.out; have hcz52 := cK5 BK395; have hnb53 := NB394_396.out; have hnc53 := NB396_394.out; have hcz54 := cK5 BK394
    go_wp2
    refine bodyPost_ret (results_ctt rfl _ _ gb394 42 #[.string t397, .string t402, .int .i64 t407, .string t417, .bool t412] (0, 0) _ rfl (by (with_reducible repeat (first | refine blk_drewN ?_ _ | refine blk_drew ?_ | refine blk_alloc ?_ _)); refine blk_put (cs := #[.string t397, .string t402, .int .i64 t407, .string t417, .bool false]) ?_ 4 _ rfl; (with_reducible repeat (first | refine blk_drewN ?_ _ | refine blk_drew ?_ | refine blk_alloc ?_ _)); refine blk_put (cs := #[.string t397, .string t402, .int .i64 t407, .string (⟨#[]⟩ : ByteArray), .bool false]) ?_ 3 _ rfl; (with_reducible repeat (first | refine blk_drewN ?_ _ | refine blk_drew ?_ | refine blk_alloc ?_ _)); refine blk_put (cs := #[.string t397, .string t402, .int .i64 0, .string (⟨#[]⟩ : ByteArray), .bool false]) ?_ 2 _ rfl; (with_reducible repeat (first | refine blk_drewN ?_ _ | refine blk_drew ?_ | refine blk_alloc ?_ _)); refine blk_put (cs := #[.string t397, .string (⟨#[]⟩ : ByteArray), .int .i64 0, .string (⟨#[]⟩ : ByteArray), .bool false]) ?_ 1 _ rfl; (with_reducible repeat (first | refine blk_drewN ?_ _ | refine blk_drew ?_ | refine blk_alloc ?_ _)); refine blk_put (cs := #[.string (⟨#[]⟩ : ByteArray), .string (⟨#[]⟩ : ByteArray), .int .i64 0, .string (⟨#[]⟩ : ByteArray), .bool false]) ?_ 0 _ rfl; (with_reducible repeat (first | refine blk_drewN ?_ _ | refine blk_drew ?_ | refine blk_alloc ?_ _)); exact BK394.out) Try.underlying42 rfl (by kernel_rfl)) rfl ?_; exact ⟨_, rf3, by (with_reducible repeat (first | apply Kd.Q_alloc | apply Kd.Q_drewN | apply Kd.Q_drew)); exact Kd.Q_mono (Kd.Q_far (p := ⟨gb394, 4, none⟩) (Kd.Q_far (p := ⟨gb394, 3, none⟩) (Kd.Q_far (p := ⟨gb394, 2, none⟩) (Kd.Q_far (p := ⟨gb394, 1, none⟩) (Kd.Q_far (p := ⟨gb394, 0, none⟩) (Kd.Q_types HO_0.out BK394.out (by decide)) (fun _ hk => hk.2) (.string t397)) (fun _ hk => hk.2) (.string t402)) (fun _ hk => hk.2) (.int .i64 t407)) (fun _ hk => hk.2) (.string t417)) (fun _ hk => hk.2) (.bool t412)) (fun _ hk => trivial), bel⟩

/-! ### block_cells: function 60 -/
def block_cells.l0 : Nat → List Int → Int → Bool → List (S42) → Option ((List (S42)) × Bool)
 | 0, _, _, _, _ => none
 | k + 1, x0, x4, x5, x6 => if x5 = true then (if x4 > 0 then ((cell_Cut.f k x0).bind fun bt429 => (if x6.length < 2199023255552 then (block_cells.l0 k bt429.2.2.2.2.2.1 (wrap64 (x4 - 1)) bt429.2.2.2.2.2.2 (x6 ++ [(⟨bt429.1, bt429.2.1, bt429.2.2.1, bt429.2.2.2.1, bt429.2.2.2.2.1⟩ : S42)])) else (none))) else (some (x6, ((x0.length : Int) == 0)))) else (some (x6, false))
def block_cells.f (k : Nat) (l0 : List Int) : Option ((List (S42)) × Bool) := (wire_CutNum.f k l0).bind fun bt423 => (block_cells.l0 k bt423.2.1 bt423.1 bt423.2.2 ([] : List (S42)))
theorem block_cells.mono_l : ∀ k, (∀ y0 y1 y2 y3, LeO (block_cells.l0 k y0 y1 y2 y3) (block_cells.l0 (k + 1) y0 y1 y2 y3))
 | 0 => fun _ _ _ _ r h => by simp [block_cells.l0] at h
 | k + 1 => by
  have ih0 := block_cells.mono_l k
  ·
   intro y0 y1 y2 y3
   unfold block_cells.l0
   repeat' first
   | (with_reducible exact ih0 _ _ _ _)
   | (with_reducible exact cell_Cut.mono _ _)
   | (with_reducible exact wire_CutNum.mono _ _)
   | (with_reducible exact LeO.refl _)
   | (with_reducible exact LeO.none _)
   | (with_reducible refine LeO.ite ?_ ?_)
   | (with_reducible refine LeO.bind ?_ (fun _ => ?_))
   | exact LeO.none _
   | refine LeO.ite ?_ ?_
   | refine LeO.bind ?_ (fun _ => ?_)
theorem block_cells.mono : ∀ a0 k, LeO (block_cells.f k a0) (block_cells.f (k + 1) a0) := by
 intro a0 k
 have ih0 := block_cells.mono_l k
 unfold block_cells.f
 repeat' first
   | (with_reducible exact ih0 _ _ _ _)
   | (with_reducible exact cell_Cut.mono _ _)
   | (with_reducible exact wire_CutNum.mono _ _)
   | (with_reducible exact LeO.refl _)
   | (with_reducible exact LeO.none _)
   | (with_reducible refine LeO.ite ?_ ?_)
   | (with_reducible refine LeO.bind ?_ (fun _ => ?_))
   | exact LeO.none _
   | refine LeO.ite ?_ ?_
   | refine LeO.bind ?_ (fun _ => ?_)
set_option maxHeartbeats 8000000 in
set_option maxRecDepth 100000 in
theorem block_cells.calls (k : Nat) (A0 : Option Addr) (c0 : Nat) (l0 : List Int) (r1 : List (S42)) (r2 : Bool) (w : World) (hr0 : Kd.C (Kd.int .u8) w A0 l0.length l0) (hc0 : l0.length ≤ c0) (h : block_cells.f k l0 = some (r1, r2)) :
  Calls Try.prog 60 #[.slice A0 l0.length c0] w fun e w' => ∃ v0_ : Value, e = .returned (.tuple #[v0_, .bool r2]) ∧ Kd.R k42 42 w' w.heap.size (fun _ => True) v0_ r1 ∧ Below w.heap.size w w' := by
 have hu42 := Try.underlying42; have HR0 := aS hr0; have HC0 := aS hc0; clear hr0 hc0; have HB := aS (Below.refl w.heap.size w); have H : ((wire_CutNum.f k l0).bind fun bt423 => (block_cells.l0 k bt423.2.1 bt423.1 bt423.2.2 ([] : List (S42)))) = some (r1, r2) := h; clear h; replace H := obm H; obtain ⟨⟨t423, t424, t425⟩, A20, H⟩ := H; replace H : (block_cells.l0 k t424 t423 t425 ([] : List (S42))) = some (r1, r2) := H; have A2 := aS A20; clear A20
 have H' := aS H
 clear H
 go_enter Try.func60, Try.ntmps60
 go_wp2_with (first | ((with_reducible refine gate_callee (f := 38) rfl ?_); refine goesL_ (some 10) rfl rfl Try.func38 (by kernel_rfl) rfl #[.slice A0 l0.length c0] rfl agn ?_; (with_reducible refine (wire_CutNum.calls k _ _ l0 t423 t424 t425 _ ?side1 ?side2 A2.out).mono ?_); (case side1 => exact cel HR0.out); (case side2 => exact HC0.out); rintro e w3 ⟨v426, rfl, ho0, hb⟩; refine ⟨_, rfl, ?_⟩; have HO427 := aS (Kd.R_lower ho0 (below_size bel)); replace HB := bstep hb; (try clear hb); (try clear hk); (try clear hi); (try clear ho0)))
 go_loopg [0, 4, 5, 6] k (fun kq v0 v4 v5 v6 w' => ∃ (x0_1 : List Int) (x4_1 : Int) (x5_1 : Bool) (x6_1 : List (S42)), v4 = .int .i64 x4_1 ∧ v5 = .bool x5_1 ∧ Aside0 (block_cells.l0 kq x0_1 x4_1 x5_1 x6_1 = some (r1, r2)) ∧ Aside0 (kq ≤ k) ∧ Aside0 (Kd.Q (Kd.int .u8) 5 w' w.heap.size (fun _ => True) v0 x0_1) ∧ Aside0 (Kd.R k42 42 w' w.heap.size (fun _ => True) v6 x6_1) ∧ Aside0 (Below w.heap.size w w'))
 case atStart => exact ⟨(t424), (t423), (t425), (([] : List (S42))), srf, srf, H', ⟨Nat.le_refl _⟩, ⟨Kd.Q_of_R (rel HO427.out)⟩, ⟨by first | exact Kd.R_nil _ _ _ _ _ | exact Kd.N_nil _ _ _ _ _ | exact Kd.V_nil _ _ _ _ _ | exact Kd.Q_nil _ _ _ _ _ | exact Kd.S_nil _ _ _ _ _⟩, ⟨bel⟩⟩
 case round =>
  clear H'; obtain ⟨x0_1, x4_1, x5_1, x6_1, rfl, rfl, HA, HK1, HO_0, HO_6, HB⟩ := hrel
  cases gk with
  | zero => exact absurd HA.out (by simp [block_cells.l0])
  | succ k1 =>
   have H := HA.out; clear HA
   simp only [block_cells.l0] at H
   by_cases c4 : x5_1 = true
   ·
    subst c4
    have H1 : (if x4_1 > 0 then ((cell_Cut.f k1 x0_1).bind fun bt429 => (if x6_1.length < 2199023255552 then (block_cells.l0 k1 bt429.2.2.2.2.2.1 (wrap64 (x4_1 - 1)) bt429.2.2.2.2.2.2 (x6_1 ++ [(⟨bt429.1, bt429.2.1, bt429.2.2.1, bt429.2.2.2.1, bt429.2.2.2.2.1⟩ : S42)])) else (none))) else (some (x6_1, ((x0_1.length : Int) == 0)))) = some (r1, r2) := by rw [if_pos rfl] at H; exact H
    clear H; have H := H1; clear H1
    by_cases c5 : x4_1 > 0
    ·
     rw [if_pos c5] at H; have c5b0 : decide (0 < x4_1) = true := decide_eq_true c5; clear c5; replace H := obm H; obtain ⟨⟨t429, t430, t431, t432, t433, t434, t437⟩, A60, H⟩ := H; replace H : (if x6_1.length < 2199023255552 then (block_cells.l0 k1 t434 (wrap64 (x4_1 - 1)) t437 (x6_1 ++ [(⟨t429, t430, t431, t432, t433⟩ : S42)])) else (none)) = some (r1, r2) := H; have A6 := aS A60; clear A60
     by_cases c7 : x6_1.length < 2199023255552
     ·
      rw [if_pos c7] at H; have LMc7 := aS c7; clear c7
      obtain ⟨y438, hy438⟩ : ∃ y_ : List (S42), y_ = (x6_1 ++ [(⟨t429, t430, t431, t432, t433⟩ : S42)]) := ⟨_, rfl⟩
      replace H : (block_cells.l0 k1 t434 (wrap64 (x4_1 - 1)) t437 y438) = some (r1, r2) := hyr hy438 H; have Ny438 := aS hy438; clear hy438
      have H' := aS H
      clear H
      go_wp2_with (first | ((with_reducible refine gate_dst (N := 7) rfl ?_); (try (refine gate_guard (by rfl) ?_; dsimp only)); refine box_event ?hg (N := 7) ?hd (cs := #[.string (⟨#[]⟩ : ByteArray), .string (⟨#[]⟩ : ByteArray), .int .i64 0, .string (⟨#[]⟩ : ByteArray), .bool false]) (t := 42) ?hr ?_; (case hd => rfl); (case hg => rfl); (case hr => first | (go_simp; done) | (go_simp; rfl)); intro gb428 hg w8 hbox hb; replace HO_0 := aS (Kd.Q_below (by (with_reducible repeat (first | apply Kd.Q_alloc | apply Kd.Q_drewN | apply Kd.Q_drew)); exact HO_0.out) hb); replace HO_6 := aS (Kd.R_below (Kd.R_elderB (rel HO_6.out) gb428 (Nat.le_of_eq hg.symm)) hb); have BK428 := aS (hbox); have GW428 := bsize hg; have GE428 := bsize hg; replace HB := bstep hb; clear hb hbox hg; obtain ⟨Ao9, co9, eo9, _⟩ := Kd.Q_slice HO_0.out; subst eo9) | ((with_reducible refine gate_callee (f := 74) rfl ?_); refine goesL_ (some 23) rfl rfl Try.func74 (by kernel_rfl) rfl #[.slice Ao9 x0_1.length co9] rfl agn ?_; (with_reducible refine (cell_Cut.calls k1 _ _ x0_1 t429 t430 t431 t432 t433 t434 t437 _ ?side1 ?side2 A6.out).mono ?_); (case side1 => exact cel ((Kd.Q_reads' HO_0.out).2.2)); (case side2 => exact (Kd.Q_reads' HO_0.out).2.1); rintro e w10 ⟨v435, rfl, ho0, hb⟩; refine ⟨_, rfl, ?_⟩; replace HO_6 := aS (Kd.R_below (rel HO_6.out) hb); have HO436 := aS (Kd.Q_lower (Kd.Q_new' ho0 (Kd.Q_lt (by (with_reducible repeat (first | apply Kd.Q_alloc | apply Kd.Q_drewN | apply Kd.Q_drew)); exact HO_0.out))) (below_size bel)); replace HO_0 := aS (Kd.Q_elder' (by (with_reducible repeat (first | apply Kd.Q_alloc | apply Kd.Q_drewN | apply Kd.Q_drew)); exact HO_0.out) (by first | exact Kd.Q_base ho0 | exact Kd.S_base ho0 | exact Kd.R_base ho0 | exact Kd.V_base ho0) hb); replace BK428 := bbl BK428 hb; replace HB := bstep hb; (try clear hb); (try clear hk); (try clear hi); (try clear ho0); have hcz11 := cK5 BK428) | ((with_reducible refine gate_builtin (b := .append) (xs := #[.tmp 27, .tmp 29]) rfl ?_); (try (refine gate_guard (by rfl) ?_; dsimp only)); at_builtin; refine Kd.R_append k42 (w0 := w) w.heap.size rfl (.tmp 27) (.tmp 29) 22 42 (.agg #[(.string ⟨#[]⟩), (.string ⟨#[]⟩), (.int .i64 0), (.string ⟨#[]⟩), (.bool false)]) 64 rfl Try.underlying22 info42 rfl (by decide) (by omega) u6 x6_1 (⟨t429, t430, t431, t432, t433⟩ : S42) [.string t429, .string t430, .int .i64 t431, .string t432, .bool t433] (fun k_ => k_ ≠ gb428) (fun _ => False) rfl (by first | (go_simp; done) | (go_simp; rfl)) ?aP (fun _ hk => hk.elim) ?aF ?aO ?aB ?aS ?aL ?_; (case aP => exact k42_mkM _ _ _ (⟨t429, t430, t431, t432, t433⟩ : S42)); (case aB => exact bel); (case aF => exact (fun k_ hk => Kd.freshB (g := gb428) (o := .cells #[.string t429, .string t430, .int .i64 t431, .string t432, .bool t433] 42 (0, 0)) (by (with_reducible repeat (first | refine blk_drewN ?_ _ | refine blk_drew ?_ | refine blk_alloc ?_ _)); refine blk_put (cs := #[.string t429, .string t430, .int .i64 t431, .string t432, .bool false]) ?_ 4 _ rfl; (with_reducible repeat (first | refine blk_drewN ?_ _ | refine blk_drew ?_ | refine blk_alloc ?_ _)); refine blk_put (cs := #[.string t429, .string t430, .int .i64 t431, .string (⟨#[]⟩ : ByteArray), .bool false]) ?_ 3 _ rfl; (with_reducible repeat (first | refine blk_drewN ?_ _ | refine blk_drew ?_ | refine blk_alloc ?_ _)); refine blk_put (cs := #[.string t429, .string t430, .int .i64 0, .string (⟨#[]⟩ : ByteArray), .bool false]) ?_ 2 _ rfl; (with_reducible repeat (first | refine blk_drewN ?_ _ | refine blk_drew ?_ | refine blk_alloc ?_ _)); refine blk_put (cs := #[.string t429, .string (⟨#[]⟩ : ByteArray), .int .i64 0, .string (⟨#[]⟩ : ByteArray), .bool false]) ?_ 1 _ rfl; (with_reducible repeat (first | refine blk_drewN ?_ _ | refine blk_drew ?_ | refine blk_alloc ?_ _)); refine blk_put (cs := #[.string (⟨#[]⟩ : ByteArray), .string (⟨#[]⟩ : ByteArray), .int .i64 0, .string (⟨#[]⟩ : ByteArray), .bool false]) ?_ 0 _ rfl; (with_reducible repeat (first | refine blk_drewN ?_ _ | refine blk_drew ?_ | refine blk_alloc ?_ _)); exact BK428.out) k_ hk)); (case aO => exact (by (with_reducible repeat (first | apply Kd.R_alloc | apply Kd.R_drewN | apply Kd.R_drew)); exact Kd.R_mono (Kd.R_far (p := ⟨gb428, 4, none⟩) (Kd.R_far (p := ⟨gb428, 3, none⟩) (Kd.R_far (p := ⟨gb428, 2, none⟩) (Kd.R_far (p := ⟨gb428, 1, none⟩) (Kd.R_far (p := ⟨gb428, 0, none⟩) (Kd.R_mono HO_6.out (fun k_ hk => (⟨hk, hk.2⟩ : _ ∧ k_ ≠ gb428))) (fun _ hk => hk.2) (.string t429)) (fun _ hk => hk.2) (.string t430)) (fun _ hk => hk.2) (.int .i64 t431)) (fun _ hk => hk.2) (.string t432)) (fun _ hk => hk.2) (.bool t433)) (fun _ hk => hk.1.2))); (case aS => exact (below_size bel)); (case aL => have := LMc7.out; omega); intro v439 w12 ho hb hg hat; rw [← Ny438.out] at ho; have n0_ := aS (Kd.Q_over' (by (with_reducible repeat (first | apply Kd.Q_alloc | apply Kd.Q_drewN | apply Kd.Q_drew)); exact (Kd.Q_mono (Kd.Q_far (p := ⟨gb428, 4, none⟩) (Kd.Q_far (p := ⟨gb428, 3, none⟩) (Kd.Q_far (p := ⟨gb428, 2, none⟩) (Kd.Q_far (p := ⟨gb428, 1, none⟩) (Kd.Q_far (p := ⟨gb428, 0, none⟩) (Kd.Q_types HO_0.out BK428.out (by decide)) (fun _ hk => hk.2) (.string t429)) (fun _ hk => hk.2) (.string t430)) (fun _ hk => hk.2) (.int .i64 t431)) (fun _ hk => hk.2) (.string t432)) (fun _ hk => hk.2) (.bool t433)) (fun _ h_ => h_.1))) (Kd.R_typed (by (with_reducible repeat (first | apply Kd.R_alloc | apply Kd.R_drewN | apply Kd.R_drew)); exact (Kd.R_mono (Kd.R_far (p := ⟨gb428, 4, none⟩) (Kd.R_far (p := ⟨gb428, 3, none⟩) (Kd.R_far (p := ⟨gb428, 2, none⟩) (Kd.R_far (p := ⟨gb428, 1, none⟩) (Kd.R_far (p := ⟨gb428, 0, none⟩) (Kd.R_mono HO_6.out (fun k_ hk => (⟨hk, hk.2⟩ : _ ∧ k_ ≠ gb428))) (fun _ hk => hk.2) (.string t429)) (fun _ hk => hk.2) (.string t430)) (fun _ hk => hk.2) (.int .i64 t431)) (fun _ hk => hk.2) (.string t432)) (fun _ hk => hk.2) (.bool t433)) (fun _ h_ => h_.1)))) (by decide) hg); have n1_ := aS (blk_grown (g := gb428) (o := .cells #[.string t429, .string t430, .int .i64 t431, .string t432, .bool t433] 42 (0, 0)) (by (with_reducible repeat (first | refine blk_drewN ?_ _ | refine blk_drew ?_ | refine blk_alloc ?_ _)); refine blk_put (cs := #[.string t429, .string t430, .int .i64 t431, .string t432, .bool false]) ?_ 4 _ rfl; (with_reducible repeat (first | refine blk_drewN ?_ _ | refine blk_drew ?_ | refine blk_alloc ?_ _)); refine blk_put (cs := #[.string t429, .string t430, .int .i64 t431, .string (⟨#[]⟩ : ByteArray), .bool false]) ?_ 3 _ rfl; (with_reducible repeat (first | refine blk_drewN ?_ _ | refine blk_drew ?_ | refine blk_alloc ?_ _)); refine blk_put (cs := #[.string t429, .string t430, .int .i64 0, .string (⟨#[]⟩ : ByteArray), .bool false]) ?_ 2 _ rfl; (with_reducible repeat (first | refine blk_drewN ?_ _ | refine blk_drew ?_ | refine blk_alloc ?_ _)); refine blk_put (cs := #[.string t429, .string (⟨#[]⟩ : ByteArray), .int .i64 0, .string (⟨#[]⟩ : ByteArray), .bool false]) ?_ 1 _ rfl; (with_reducible repeat (first | refine blk_drewN ?_ _ | refine blk_drew ?_ | refine blk_alloc ?_ _)); refine blk_put (cs := #[.string (⟨#[]⟩ : ByteArray), .string (⟨#[]⟩ : ByteArray), .int .i64 0, .string (⟨#[]⟩ : ByteArray), .bool false]) ?_ 0 _ rfl; (with_reducible repeat (first | refine blk_drewN ?_ _ | refine blk_drew ?_ | refine blk_alloc ?_ _)); exact BK428.out) hg (Kd.R_away HO_6.out (fun _ hk => hk.2))); have n2_ := aS (Kd.Q_over' (by (with_reducible repeat (first | apply Kd.Q_alloc | apply Kd.Q_drewN | apply Kd.Q_drew)); exact (Kd.Q_mono (Kd.Q_far (p := ⟨gb428, 4, none⟩) (Kd.Q_far (p := ⟨gb428, 3, none⟩) (Kd.Q_far (p := ⟨gb428, 2, none⟩) (Kd.Q_far (p := ⟨gb428, 1, none⟩) (Kd.Q_far (p := ⟨gb428, 0, none⟩) (Kd.Q_types HO436.out BK428.out (by decide)) (fun _ hk => hk.2) (.string t429)) (fun _ hk => hk.2) (.string t430)) (fun _ hk => hk.2) (.int .i64 t431)) (fun _ hk => hk.2) (.string t432)) (fun _ hk => hk.2) (.bool t433)) (fun _ h_ => h_.1))) (Kd.R_typed (by (with_reducible repeat (first | apply Kd.R_alloc | apply Kd.R_drewN | apply Kd.R_drew)); exact (Kd.R_mono (Kd.R_far (p := ⟨gb428, 4, none⟩) (Kd.R_far (p := ⟨gb428, 3, none⟩) (Kd.R_far (p := ⟨gb428, 2, none⟩) (Kd.R_far (p := ⟨gb428, 1, none⟩) (Kd.R_far (p := ⟨gb428, 0, none⟩) (Kd.R_mono HO_6.out (fun k_ hk => (⟨hk, hk.2⟩ : _ ∧ k_ ≠ gb428))) (fun _ hk => hk.2) (.string t429)) (fun _ hk => hk.2) (.string t430)) (fun _ hk => hk.2) (.int .i64 t431)) (fun _ hk => hk.2) (.string t432)) (fun _ hk => hk.2) (.bool t433)) (fun _ h_ => h_.1)))) (by decide) hg); have n3_ := aS (hb); have n4_ := aS (ho); clear HO_0; clear BK428; clear HO436; clear HB; clear HO_6; have HO_0 := n0_; have BK428 := n1_; have HO436 := n2_; have HB := n3_; have HO440 := n4_; clear n0_ n1_ n2_ n3_ n4_; clear ho hb hg hat))
      go_roundg k1
      case measure => have := HK1.out; omega
      case rel => exact ⟨(t434), (wrap64 (x4_1 - 1)), (t437), (y438), srf, srf, H', ⟨by have := HK1.out; omega⟩, ⟨by (with_reducible repeat (first | apply Kd.Q_alloc | apply Kd.Q_drewN | apply Kd.Q_drew)); exact Kd.Q_mono HO436.out (fun _ hk => trivial)⟩, ⟨by (with_reducible repeat (first | apply Kd.R_alloc | apply Kd.R_drewN | apply Kd.R_drew)); exact Kd.R_mono HO440.out (fun _ hk => trivial)⟩, ⟨bel⟩⟩
     ·
      rw [if_neg c7] at H; exact absurd H (by simp)
    ·
     rw [if_neg c5] at H; have c5b0 : decide (0 < x4_1) = false := decide_eq_false c5; clear c5
     simp only [Option.some.injEq, Prod.mk.injEq] at H
     obtain ⟨rfl, rfl⟩ := H; obtain ⟨Ao13, co13, eo13, _⟩ := Kd.Q_slice HO_0.out; subst eo13
     go_wp2
     go_ret2
     exact ⟨_, rf3, by (with_reducible repeat (first | apply Kd.R_alloc | apply Kd.R_drewN | apply Kd.R_drew)); exact HO_6.out, bel⟩
   ·
    replace c4 := Bool.eq_false_iff.mpr c4; subst c4
    have H1 : (some (x6_1, false)) = some (r1, r2) := by rw [if_neg (show ¬ (false = true) by decide)] at H; exact H
    clear H; have H := H1; clear H1
    simp only [Option.some.injEq, Prod.mk.injEq] at H
    obtain ⟨rfl, rfl⟩ := H
    go_wp2
    go_ret2
    exact ⟨_, rf3, by (with_reducible repeat (first | apply Kd.R_alloc | apply Kd.R_drewN | apply Kd.R_drew)); exact HO_6.out, bel⟩

/-! ### block_Get: function 39 -/
def block_Get.j0 : Nat → List Int → List (S42) → Bool → Option ((List (S42)) × List Int × Int)
 | 0, _, _, _ => none
 | k + 1, x6, x8, x33 => if x33 = true then (some (([] : List (S42)), ([] : List Int), 2)) else ((slices_Clone_byte_byte.f x6).bind fun t453 => (some (x8, t453, 0)))
def block_Get.f (k : Nat) (l0 : List Int) : Option ((List (S42)) × List Int × Int) := (frame_Cut.f k l0).bind fun bt441 => (if bt441.2.2 = true then ((block_cells.f k bt441.1).bind fun bt448 => (if bt448.2 = true then (if (bt448.1.length : Int) = 0 then (block_Get.j0 k bt441.2.1 bt448.1 true) else ((cell_Sorted.f k bt448.1).bind fun t452 => (block_Get.j0 k bt441.2.1 bt448.1 (!t452)))) else (block_Get.j0 k bt441.2.1 bt448.1 true))) else (some (([] : List (S42)), ([] : List Int), 2)))
theorem block_Get.mono_l : ∀ k, (∀ y0 y1 y2, LeO (block_Get.j0 k y0 y1 y2) (block_Get.j0 (k + 1) y0 y1 y2))
 | 0 => fun _ _ _ r h => by simp [block_Get.j0] at h
 | k + 1 => by
  have ih0 := block_Get.mono_l k
  ·
   intro y0 y1 y2
   unfold block_Get.j0
   repeat' first
   | (with_reducible exact ih0 _ _ _)
   | (with_reducible exact block_cells.mono _ _)
   | (with_reducible exact cell_Sorted.mono _ _)
   | (with_reducible exact frame_Cut.mono _ _)
   | (with_reducible exact LeO.refl _)
   | (with_reducible exact LeO.none _)
   | (with_reducible refine LeO.ite ?_ ?_)
   | (with_reducible refine LeO.bind ?_ (fun _ => ?_))
   | exact LeO.none _
   | refine LeO.ite ?_ ?_
   | refine LeO.bind ?_ (fun _ => ?_)
theorem block_Get.mono : ∀ a0 k, LeO (block_Get.f k a0) (block_Get.f (k + 1) a0) := by
 intro a0 k
 have ih0 := block_Get.mono_l k
 unfold block_Get.f
 repeat' first
   | (with_reducible exact ih0 _ _ _)
   | (with_reducible exact block_cells.mono _ _)
   | (with_reducible exact cell_Sorted.mono _ _)
   | (with_reducible exact frame_Cut.mono _ _)
   | (with_reducible exact LeO.refl _)
   | (with_reducible exact LeO.none _)
   | (with_reducible refine LeO.ite ?_ ?_)
   | (with_reducible refine LeO.bind ?_ (fun _ => ?_))
   | exact LeO.none _
   | refine LeO.ite ?_ ?_
   | refine LeO.bind ?_ (fun _ => ?_)
set_option maxHeartbeats 8000000 in
set_option maxRecDepth 100000 in
theorem block_Get.calls (k : Nat) (A0 : Option Addr) (c0 : Nat) (l0 : List Int) (r1 : List (S42)) (r2 : List Int) (r3 : Int) (w : World) (hr0 : Kd.C (Kd.int .u8) w A0 l0.length l0) (hc0 : l0.length ≤ c0) (h : block_Get.f k l0 = some (r1, r2, r3)) :
  Calls Try.prog 39 #[.slice A0 l0.length c0] w fun e w' => ∃ v0_ v1_ : Value, e = .returned (.tuple #[v0_, v1_, .int .i64 r3]) ∧ Kd.R k42 42 w' w.heap.size (fun _ => True) v0_ r1 ∧ Kd.R (Kd.int .u8) 5 w' w.heap.size (fun _ => True) v1_ r2 ∧ Below w.heap.size w w' := by
 have HR0 := aS hr0; have HC0 := aS hc0; clear hr0 hc0; have HB := aS (Below.refl w.heap.size w); have H : ((frame_Cut.f k l0).bind fun bt441 => (if bt441.2.2 = true then ((block_cells.f k bt441.1).bind fun bt448 => (if bt448.2 = true then (if (bt448.1.length : Int) = 0 then (block_Get.j0 k bt441.2.1 bt448.1 true) else ((cell_Sorted.f k bt448.1).bind fun t452 => (block_Get.j0 k bt441.2.1 bt448.1 (!t452)))) else (block_Get.j0 k bt441.2.1 bt448.1 true))) else (some (([] : List (S42)), ([] : List Int), 2)))) = some (r1, r2, r3) := h; clear h; replace H := obm H; obtain ⟨⟨t441, t444, t447⟩, A20, H⟩ := H; replace H : (if t447 = true then ((block_cells.f k t441).bind fun bt448 => (if bt448.2 = true then (if (bt448.1.length : Int) = 0 then (block_Get.j0 k t444 bt448.1 true) else ((cell_Sorted.f k bt448.1).bind fun t452 => (block_Get.j0 k t444 bt448.1 (!t452)))) else (block_Get.j0 k t444 bt448.1 true))) else (some (([] : List (S42)), ([] : List Int), 2))) = some (r1, r2, r3) := H; have A2 := aS A20; clear A20
 by_cases c3 : t447 = true
 ·
  subst c3
  have H1 : ((block_cells.f k t441).bind fun bt448 => (if bt448.2 = true then (if (bt448.1.length : Int) = 0 then (block_Get.j0 k t444 bt448.1 true) else ((cell_Sorted.f k bt448.1).bind fun t452 => (block_Get.j0 k t444 bt448.1 (!t452)))) else (block_Get.j0 k t444 bt448.1 true))) = some (r1, r2, r3) := by rw [if_pos rfl] at H; exact H
  clear H; have H := H1; clear H1; replace H := obm H; obtain ⟨⟨t448, t449⟩, A40, H⟩ := H; replace H : (if t449 = true then (if (t448.length : Int) = 0 then (block_Get.j0 k t444 t448 true) else ((cell_Sorted.f k t448).bind fun t452 => (block_Get.j0 k t444 t448 (!t452)))) else (block_Get.j0 k t444 t448 true)) = some (r1, r2, r3) := H; have A4 := aS A40; clear A40; have HC5 := aS H; clear H
  go_enter Try.func39, Try.ntmps39
  go_upto_region 5 with (first | ((with_reducible refine gate_callee (f := 59) rfl ?_); refine goesL_ (some 11) rfl rfl Try.func59 (by kernel_rfl) rfl #[.slice A0 l0.length c0] rfl agn ?_; (with_reducible refine (frame_Cut.calls k (fun k_ => k_ < w.heap.size) _ _ l0 t441 t444 true _ ?side1 A2.out).mono ?_); (case side1 => exact Kd.V_mk HC0.out (Kd.F_below (Kd.C_F (Kd.heap_int .u8) HR0.out) bel)); rintro e w6 ⟨v442, v445, rfl, ho0, ho1, hb⟩; refine ⟨_, rfl, ?_⟩; have HO443 := aS (Kd.V_lower (Kd.V_mono (ok' := fun k_ => True) ho0 (fun k_ hk_ => trivial)) (below_size bel)); have HO446 := aS (Kd.V_lower (Kd.V_mono (ok' := fun k_ => True) ho1 (fun k_ hk_ => trivial)) (below_size bel)); replace HB := bstep hb; (try clear hb); (try clear hk); (try clear hi); (try clear ho0); (try clear ho1); obtain ⟨Ao7, co7, eo7⟩ := Kd.V_slice HO443.out; subst eo7) | ((with_reducible refine gate_callee (f := 60) rfl ?_); refine goesL_ (some 19) rfl rfl Try.func60 (by kernel_rfl) rfl #[.slice Ao7 t441.length co7] rfl agn ?_; (with_reducible refine (block_cells.calls k _ _ t441 t448 t449 _ ?side1 ?side2 A4.out).mono ?_); (case side1 => exact cel ((Kd.V_reads' HO443.out).2.2)); (case side2 => exact (Kd.V_reads' HO443.out).2.1); rintro e w8 ⟨v450, rfl, ho0, hb⟩; refine ⟨_, rfl, ?_⟩; replace HO443 := aS (Kd.V_elder' (sel HO443.out) (ebs ho0) hb); replace HO446 := aS (Kd.V_elder' (sel HO446.out) (ebs ho0) hb); have HO451 := aS (Kd.R_lower ho0 (below_size bel)); replace HB := bstep hb; (try clear hb); (try clear hk); (try clear hi); (try clear ho0)))
  (try simp only [Act.put, lsa, lsz, lss])
  go_cut [33] (fun v33 wc => ∃ (kq : Nat) (x33_4 : Bool), v33 = .bool x33_4 ∧ Aside0 (block_Get.j0 kq t444 t448 x33_4 = some (r1, r2, r3)) ∧ Aside0 (kq ≤ k) ∧ Aside0 (Kd.V (Kd.int .u8) 5 wc w.heap.size (fun k_ => some k_ ≠ (v450 : Value).ownBlock) v445 t444) ∧ Aside0 (Kd.R k42 42 wc w.heap.size (fun _ => True) v450 t448) ∧ Aside0 (Below w.heap.size w wc))
  case first =>
   have H := HC5.out; clear HC5
   by_cases c9 : t449 = true
   ·
    subst c9
    have H1 : (if (t448.length : Int) = 0 then (block_Get.j0 k t444 t448 true) else ((cell_Sorted.f k t448).bind fun t452 => (block_Get.j0 k t444 t448 (!t452)))) = some (r1, r2, r3) := by rw [if_pos rfl] at H; exact H
    clear H; have H := H1; clear H1
    by_cases c10 : (t448.length : Int) = 0
    ·
     rw [if_pos c10] at H; obtain ⟨c10b0, c10b1⟩ := eqT c10; clear c10
     (first | rw [c10b0] | (simp only [i64_w, i32_w]; rw [c10b0]) | skip)
     have H' := aS H
     clear H; obtain ⟨Ao11, co11, eo11⟩ := Kd.R_slice HO451.out; subst eo11
     go_wp2
     go_meet
     case rel => exact ⟨_, (true), srf, H', ⟨by first | omega | exact Nat.le_refl _⟩, ⟨by (with_reducible repeat (first | apply Kd.V_alloc | apply Kd.V_drewN | apply Kd.V_drew)); exact Kd.V_mono HO446.out (fun _ hk => hk.2)⟩, ⟨by (with_reducible repeat (first | apply Kd.R_alloc | apply Kd.R_drewN | apply Kd.R_drew)); exact HO451.out⟩, ⟨bel⟩⟩
    ·
     rw [if_neg c10] at H; obtain ⟨c10b0, c10b1⟩ := eqF c10
     have c10b2 : ¬ (t448 = []) := fun h_ => c10 (by rw [h_]; rfl)
     (first | rw [c10b0] | (simp only [i64_w, i32_w]; rw [c10b0]) | skip)
     replace H := obm H; obtain ⟨t452, A120, H⟩ := H; replace H : (block_Get.j0 k t444 t448 (!t452)) = some (r1, r2, r3) := H; have A12 := aS A120; clear A120
     have H' := aS H
     clear H; obtain ⟨Ao13, co13, eo13⟩ := Kd.R_slice HO451.out; subst eo13
     go_wp2_with (first | (go_at_call 40; (with_reducible refine (cell_Sorted.calls k _ _ t448 t452 _ ?side1 ?side2 A12.out).mono ?_); (case side1 => exact cel ((Kd.R_reads' HO451.out).2.2)); (case side2 => exact (Kd.R_reads' HO451.out).2.1); rintro e w14 ⟨rfl, hb⟩; replace HO443 := aS (Kd.V_below (sel HO443.out) hb); replace HO446 := aS (Kd.V_below (sel HO446.out) hb); replace HO451 := aS (Kd.R_below (rel HO451.out) hb); replace HB := bstep hb; (try clear hb); (try clear hk); (try clear hi)))
     go_meet
     case rel => exact ⟨_, (!t452), srf, H', ⟨by first | omega | exact Nat.le_refl _⟩, ⟨by (with_reducible repeat (first | apply Kd.V_alloc | apply Kd.V_drewN | apply Kd.V_drew)); exact Kd.V_mono HO446.out (fun _ hk => hk.2)⟩, ⟨by (with_reducible repeat (first | apply Kd.R_alloc | apply Kd.R_drewN | apply Kd.R_drew)); exact HO451.out⟩, ⟨bel⟩⟩
   ·
    replace c9 := Bool.eq_false_iff.mpr c9; subst c9
    have H1 : (block_Get.j0 k t444 t448 true) = some (r1, r2, r3) := by rw [if_neg (show ¬ (false = true) by decide)] at H; exact H
    clear H; have H := H1; clear H1
    have H' := aS H
    clear H
    go_wp2
    go_meet
    case rel => exact ⟨_, (true), srf, H', ⟨by first | omega | exact Nat.le_refl _⟩, ⟨by (with_reducible repeat (first | apply Kd.V_alloc | apply Kd.V_drewN | apply Kd.V_drew)); exact Kd.V_mono HO446.out (fun _ hk => hk.2)⟩, ⟨by (with_reducible repeat (first | apply Kd.R_alloc | apply Kd.R_drewN | apply Kd.R_drew)); exact HO451.out⟩, ⟨bel⟩⟩
  case rest =>
   clear HC5; (try clear c3); obtain ⟨kq, x33_4, rfl, HA, HJ4, HO_6, HO_8, HB⟩ := hcut
   cases kq with
   | zero => exact absurd HA.out (by simp [block_Get.j0])
   | succ kj4 =>
    have H := HA.out; clear HA
    simp only [block_Get.j0] at H
    by_cases c15 : x33_4 = true
    ·
     subst c15
     have H1 : (some (([] : List (S42)), ([] : List Int), 2)) = some (r1, r2, r3) := by rw [if_pos rfl] at H; exact H
     clear H; have H := H1; clear H1
     simp only [Option.some.injEq, Prod.mk.injEq] at H
     obtain ⟨rfl, rfl, rfl⟩ := H
     go_wp2
     go_ret3
     exact ⟨_, _, rf3, by first | exact Kd.R_nil _ _ _ _ _ | exact Kd.N_nil _ _ _ _ _ | exact Kd.V_nil _ _ _ _ _ | exact Kd.Q_nil _ _ _ _ _ | exact Kd.S_nil _ _ _ _ _, by first | exact Kd.R_nil _ _ _ _ _ | exact Kd.N_nil _ _ _ _ _ | exact Kd.V_nil _ _ _ _ _ | exact Kd.Q_nil _ _ _ _ _ | exact Kd.S_nil _ _ _ _ _, bel⟩
    ·
     replace c15 := Bool.eq_false_iff.mpr c15; subst c15
     have H1 : ((slices_Clone_byte_byte.f t444).bind fun t453 => (some (t448, t453, 0))) = some (r1, r2, r3) := by rw [if_neg (show ¬ (false = true) by decide)] at H; exact H
     clear H; have H := H1; clear H1; replace H := obm H; obtain ⟨t453, A160, H⟩ := H; replace H : (some (t448, t453, 0)) = some (r1, r2, r3) := H; have A16 := aS A160; clear A160
     simp only [Option.some.injEq, Prod.mk.injEq] at H
     obtain ⟨rfl, rfl, rfl⟩ := H; obtain ⟨Ao17, co17, eo17⟩ := Kd.V_slice HO_6.out; subst eo17
     go_wp2_with (first | ((with_reducible refine gate_callee (f := 58) rfl ?_); refine goesL_ (some 36) rfl rfl Try.func58 (by kernel_rfl) rfl #[.slice Ao17 t444.length co17] rfl agn ?_; (with_reducible refine (slices_Clone_byte_byte.calls _ _ t444 t453 _ ?side1 ?side2 A16.out).mono ?_); (case side1 => exact cel ((Kd.V_reads' HO_6.out).2.2)); (case side2 => exact (Kd.V_reads' HO_6.out).2.1); rintro e w18 ⟨v454, rfl, ho0, hb⟩; refine ⟨_, rfl, ?_⟩; replace HO_6 := aS (Kd.V_elder' (sel HO_6.out) (ebs ho0) hb); replace HO_8 := aS (Kd.R_below (rel HO_8.out) hb); have HO455 := aS (Kd.R_lower ho0 (below_size bel)); replace HB := bstep hb; (try clear hb); (try clear hk); (try clear hi); (try clear ho0)))
     go_ret3
     exact ⟨_, _, rf3, by (with_reducible repeat (first | apply Kd.R_alloc | apply Kd.R_drewN | apply Kd.R_drew)); exact HO_8.out, by (with_reducible repeat (first | apply Kd.R_alloc | apply Kd.R_drewN | apply Kd.R_drew)); exact HO455.out, bel⟩
 ·
  replace c3 := Bool.eq_false_iff.mpr c3; subst c3
  have H1 : (some (([] : List (S42)), ([] : List Int), 2)) = some (r1, r2, r3) := by rw [if_neg (show ¬ (false = true) by decide)] at H; exact H
  clear H; have H := H1; clear H1
  simp only [Option.some.injEq, Prod.mk.injEq] at H
  obtain ⟨rfl, rfl, rfl⟩ := H
  go_enter Try.func39, Try.ntmps39
  go_wp2_with (first | ((with_reducible refine gate_callee (f := 59) rfl ?_); refine goesL_ (some 11) rfl rfl Try.func59 (by kernel_rfl) rfl #[.slice A0 l0.length c0] rfl agn ?_; (with_reducible refine (frame_Cut.calls k (fun k_ => k_ < w.heap.size) _ _ l0 t441 t444 false _ ?side1 A2.out).mono ?_); (case side1 => exact Kd.V_mk HC0.out (Kd.F_below (Kd.C_F (Kd.heap_int .u8) HR0.out) bel)); rintro e w19 ⟨v442, v445, rfl, ho0, ho1, hb⟩; refine ⟨_, rfl, ?_⟩; have HO443 := aS (Kd.V_lower (Kd.V_mono (ok' := fun k_ => True) ho0 (fun k_ hk_ => trivial)) (below_size bel)); have HO446 := aS (Kd.V_lower (Kd.V_mono (ok' := fun k_ => True) ho1 (fun k_ hk_ => trivial)) (below_size bel)); replace HB := bstep hb; (try clear hb); (try clear hk); (try clear hi); (try clear ho0); (try clear ho1)))
  go_ret3
  exact ⟨_, _, rf3, by first | exact Kd.R_nil _ _ _ _ _ | exact Kd.N_nil _ _ _ _ _ | exact Kd.V_nil _ _ _ _ _ | exact Kd.Q_nil _ _ _ _ _ | exact Kd.S_nil _ _ _ _ _, by first | exact Kd.R_nil _ _ _ _ _ | exact Kd.N_nil _ _ _ _ _ | exact Kd.V_nil _ _ _ _ _ | exact Kd.Q_nil _ _ _ _ _ | exact Kd.S_nil _ _ _ _ _, bel⟩

/-! ### table_cutable: function 41 -/
mutual
def table_cutable.l0 : Nat → List (List (S42)) → Int → Int → List (List (S42)) → Int → Int → Option (Bool)
 | 0, _, _, _, _, _, _ => none
 | k + 1, x0, x3, x4, x10, x11, x12 => if x12 < x11 then (if 0 ≤ x12 then (if x12 < (x10.length : Int) then (table_cutable.l1 k x0 x3 x4 x12 (rd_L7 x10 x12) 0 x10 x11 x12 (rd_L7 x10 x12) ((rd_L7 x10 x12).length : Int) 0) else (none)) else (none)) else (some (decide (x3 ≤ x4)))
def table_cutable.l1 : Nat → List (List (S42)) → Int → Int → Int → List (S42) → Int → List (List (S42)) → Int → Int → List (S42) → Int → Int → Option (Bool)
 | 0, _, _, _, _, _, _, _, _, _, _, _, _ => none
 | k + 1, x0, x3, x4, x5, x6, x7, x10, x11, x12, x17, x18, x19 => if x19 < x18 then (if 0 ≤ x19 then (if x19 < (x17.length : Int) then (if x19 = (wrap64 ((x6.length : Int) - 1)) then (table_cutable.j2 k x0 x3 x4 x5 x6 x7 x19 x10 x11 x12 x17 x18 x19 (decide (x5 < (wrap64 ((x0.length : Int) - 1)))) ((rd_T42 x17 x19).f0) ((rd_T42 x17 x19).f1) ((rd_T42 x17 x19).f2) ((rd_T42 x17 x19).f3) ((rd_T42 x17 x19).f4)) else (table_cutable.j2 k x0 x3 x4 x5 x6 x7 x19 x10 x11 x12 x17 x18 x19 false ((rd_T42 x17 x19).f0) ((rd_T42 x17 x19).f1) ((rd_T42 x17 x19).f2) ((rd_T42 x17 x19).f3) ((rd_T42 x17 x19).f4))) else (none)) else (none)) else (table_cutable.l0 k x0 x3 x4 x10 x11 (wrap64 (x12 + 1)))
def table_cutable.j2 : Nat → List (List (S42)) → Int → Int → Int → List (S42) → Int → Int → List (List (S42)) → Int → Int → List (S42) → Int → Int → Bool → ByteArray → ByteArray → Int → ByteArray → Bool → Option (Bool)
 | 0, _, _, _, _, _, _, _, _, _, _, _, _, _, _, _, _, _, _, _ => none
 | k + 1, x0, x3, x4, x5, x6, x7, x8, x10, x11, x12, x17, x18, x19, x35, x459000, x459001, x459002, x459003, x459004 => if x35 = true then ((cell_Put.f x459000 x459001 x459002 x459003 x459004).bind fun t459 => (if x8 > 0 then ((cell_Put.f x459000 x459001 x459002 x459003 x459004).bind fun t462 => (table_cutable.l1 k x0 (mx x3 (wrap64 (x7 + 1))) (mn x4 (wrap64 (x7 + (t459.length : Int)))) x5 x6 (wrap64 (x7 + (t462.length : Int))) x10 x11 x12 x17 x18 (wrap64 (x19 + 1)))) else ((cell_Put.f x459000 x459001 x459002 x459003 x459004).bind fun t465 => (table_cutable.l1 k x0 x3 (mn x4 (wrap64 (x7 + (t459.length : Int)))) x5 x6 (wrap64 (x7 + (t465.length : Int))) x10 x11 x12 x17 x18 (wrap64 (x19 + 1)))))) else (if x8 > 0 then ((cell_Put.f x459000 x459001 x459002 x459003 x459004).bind fun t468 => (table_cutable.l1 k x0 (mx x3 (wrap64 (x7 + 1))) x4 x5 x6 (wrap64 (x7 + (t468.length : Int))) x10 x11 x12 x17 x18 (wrap64 (x19 + 1)))) else ((cell_Put.f x459000 x459001 x459002 x459003 x459004).bind fun t471 => (table_cutable.l1 k x0 x3 x4 x5 x6 (wrap64 (x7 + (t471.length : Int))) x10 x11 x12 x17 x18 (wrap64 (x19 + 1)))))
end
def table_cutable.f (k : Nat) (l0 : List (List (S42))) : Option (Bool) := table_cutable.l0 k l0 1 4294967296 l0 (l0.length : Int) 0
theorem table_cutable.mono_l : ∀ k, (∀ y0 y1 y2 y3 y4 y5, LeO (table_cutable.l0 k y0 y1 y2 y3 y4 y5) (table_cutable.l0 (k + 1) y0 y1 y2 y3 y4 y5)) ∧ (∀ y0 y1 y2 y3 y4 y5 y6 y7 y8 y9 y10 y11, LeO (table_cutable.l1 k y0 y1 y2 y3 y4 y5 y6 y7 y8 y9 y10 y11) (table_cutable.l1 (k + 1) y0 y1 y2 y3 y4 y5 y6 y7 y8 y9 y10 y11)) ∧ (∀ y0 y1 y2 y3 y4 y5 y6 y7 y8 y9 y10 y11 y12 y13 y14 y15 y16 y17 y18, LeO (table_cutable.j2 k y0 y1 y2 y3 y4 y5 y6 y7 y8 y9 y10 y11 y12 y13 y14 y15 y16 y17 y18) (table_cutable.j2 (k + 1) y0 y1 y2 y3 y4 y5 y6 y7 y8 y9 y10 y11 y12 y13 y14 y15 y16 y17 y18))
 | 0 => ⟨fun _ _ _ _ _ _ r h => by simp [table_cutable.l0] at h, fun _ _ _ _ _ _ _ _ _ _ _ _ r h => by simp [table_cutable.l1] at h, fun _ _ _ _ _ _ _ _ _ _ _ _ _ _ _ _ _ _ _ r h => by simp [table_cutable.j2] at h⟩
 | k + 1 => by
  obtain ⟨ih0, ih1, ih2⟩ := table_cutable.mono_l k; refine ⟨?_, ?_, ?_⟩
  ·
   intro y0 y1 y2 y3 y4 y5
   unfold table_cutable.l0
   repeat' first
   | (with_reducible exact ih0 _ _ _ _ _ _)
   | (with_reducible exact ih1 _ _ _ _ _ _ _ _ _ _ _ _)
   | (with_reducible exact ih2 _ _ _ _ _ _ _ _ _ _ _ _ _ _ _ _ _ _ _)
   | (with_reducible exact LeO.refl _)
   | (with_reducible exact LeO.none _)
   | (with_reducible refine LeO.ite ?_ ?_)
   | (with_reducible refine LeO.bind ?_ (fun _ => ?_))
   | exact LeO.none _
   | refine LeO.ite ?_ ?_
   | refine LeO.bind ?_ (fun _ => ?_)
  ·
   intro y0 y1 y2 y3 y4 y5 y6 y7 y8 y9 y10 y11
   unfold table_cutable.l1
   repeat' first
   | (with_reducible exact ih0 _ _ _ _ _ _)
   | (with_reducible exact ih1 _ _ _ _ _ _ _ _ _ _ _ _)
   | (with_reducible exact ih2 _ _ _ _ _ _ _ _ _ _ _ _ _ _ _ _ _ _ _)
   | (with_reducible exact LeO.refl _)
   | (with_reducible exact LeO.none _)
   | (with_reducible refine LeO.ite ?_ ?_)
   | (with_reducible refine LeO.bind ?_ (fun _ => ?_))
   | exact LeO.none _
   | refine LeO.ite ?_ ?_
   | refine LeO.bind ?_ (fun _ => ?_)
  ·
   intro y0 y1 y2 y3 y4 y5 y6 y7 y8 y9 y10 y11 y12 y13 y14 y15 y16 y17 y18
   unfold table_cutable.j2
   repeat' first
   | (with_reducible exact ih0 _ _ _ _ _ _)
   | (with_reducible exact ih1 _ _ _ _ _ _ _ _ _ _ _ _)
   | (with_reducible exact ih2 _ _ _ _ _ _ _ _ _ _ _ _ _ _ _ _ _ _ _)
   | (with_reducible exact LeO.refl _)
   | (with_reducible exact LeO.none _)
   | (with_reducible refine LeO.ite ?_ ?_)
   | (with_reducible refine LeO.bind ?_ (fun _ => ?_))
   | exact LeO.none _
   | refine LeO.ite ?_ ?_
   | refine LeO.bind ?_ (fun _ => ?_)
theorem table_cutable.mono : ∀ a0 k, LeO (table_cutable.f k a0) (table_cutable.f (k + 1) a0) := by
 intro a0 k
 obtain ⟨ih0, ih1, ih2⟩ := table_cutable.mono_l k
 unfold table_cutable.f
 repeat' first
   | (with_reducible exact ih0 _ _ _ _ _ _)
   | (with_reducible exact ih1 _ _ _ _ _ _ _ _ _ _ _ _)
   | (with_reducible exact ih2 _ _ _ _ _ _ _ _ _ _ _ _ _ _ _ _ _ _ _)
   | (with_reducible exact LeO.refl _)
   | (with_reducible exact LeO.none _)
   | (with_reducible refine LeO.ite ?_ ?_)
   | (with_reducible refine LeO.bind ?_ (fun _ => ?_))
   | exact LeO.none _
   | refine LeO.ite ?_ ?_
   | refine LeO.bind ?_ (fun _ => ?_)
set_option maxHeartbeats 8000000 in
set_option maxRecDepth 100000 in
theorem table_cutable.calls (k : Nat) (A0 : Option Addr) (c0 : Nat) (l0 : List (List (S42))) (r : Bool) (w : World) (hr0 : Kd.C (Kd.slice 42 k42) w A0 l0.length l0) (hc0 : l0.length ≤ c0) (h : table_cutable.f k l0 = some r) :
  Calls Try.prog 41 #[.slice A0 l0.length c0] w fun e w' => e = .returned (.bool r) ∧ Below w.heap.size w w' := by
 have hu42 := Try.underlying42; have HR0 := aS hr0; have HC0 := aS hc0; clear hr0 hc0; have HB := aS (Below.refl w.heap.size w); have H : (table_cutable.l0 k l0 1 4294967296 l0 (l0.length : Int) 0) = some r := h; clear h
 have H' := aS H
 clear H
 go_enter Try.func41, Try.ntmps41
 go_wp2
 go_loopg [3, 4, 12] k (fun kq v3 v4 v12 w' => ∃ (x3_1 : Int) (x4_1 : Int) (x12_1 : Int), v3 = .int .i64 x3_1 ∧ v4 = .int .i64 x4_1 ∧ v12 = .int .i64 x12_1 ∧ Aside0 (table_cutable.l0 kq l0 x3_1 x4_1 l0 (l0.length : Int) x12_1 = some r) ∧ Aside0 (kq ≤ k) ∧ Aside0 (Below w.heap.size w w'))
 case atStart => exact ⟨(1), (4294967296), (0), srf, srf, srf, H', ⟨Nat.le_refl _⟩, ⟨bel⟩⟩
 case round =>
  clear H'; obtain ⟨x3_1, x4_1, x12_1, rfl, rfl, rfl, HA, HK1, HB⟩ := hrel
  cases gk with
  | zero => exact absurd HA.out (by simp [table_cutable.l0])
  | succ k1 =>
   have H := HA.out; clear HA
   simp only [table_cutable.l0] at H
   by_cases c2 : x12_1 < (l0.length : Int)
   ·
    rw [if_pos c2] at H; have c2b0 : decide (x12_1 < (l0.length : Int)) = true := decide_eq_true c2; clear c2
    by_cases c3 : 0 ≤ x12_1
    ·
     rw [if_pos c3] at H; have c3b0 : decide (0 ≤ x12_1) = true := decide_eq_true c3; clear c3
     by_cases c4 : x12_1 < (l0.length : Int)
     ·
      rw [if_pos c4] at H; have c4b0 : decide (x12_1 < (l0.length : Int)) = true := decide_eq_true c4; clear c4
      have H' := aS H
      clear H; have p456 : 0 ≤ (x12_1 : Int) := oda; have q456 : x12_1 < (l0.length : Int) := oda; obtain ⟨ad456, A456_0, c456_0, e456, hx456_0, hl456_0, hi456_0⟩ := at_L7 HR0.out x12_1 p456 q456; cases e456; have hB_456_0 := aS hx456_0; replace hx456_0 := bx bel hx456_0; have HR456_0 := aS hi456_0; have HC456_0 := aS hl456_0; clear hi456_0 hl456_0; replace p456 := eq_true p456; replace q456 := eq_true q456
      go_wp2
      go_loopg [3, 4, 7, 19] k1 (fun kq v3 v4 v7 v19 w' => ∃ (x3_2 : Int) (x4_2 : Int) (x7_2 : Int) (x19_2 : Int), v3 = .int .i64 x3_2 ∧ v4 = .int .i64 x4_2 ∧ v7 = .int .i64 x7_2 ∧ v19 = .int .i64 x19_2 ∧ Aside0 (table_cutable.l1 kq l0 x3_2 x4_2 x12_1 (rd_L7 l0 x12_1) x7_2 l0 (l0.length : Int) x12_1 (rd_L7 l0 x12_1) ((rd_L7 l0 x12_1).length : Int) x19_2 = some r) ∧ Aside0 (kq ≤ k1) ∧ Aside0 (Below w.heap.size w w'))
      case atStart => exact ⟨(x3_1), (x4_1), (0), (0), srf, srf, srf, srf, H', ⟨Nat.le_refl _⟩, ⟨bel⟩⟩
      case round =>
       clear H'; (try clear c2); (try clear c2b0); (try clear c3); (try clear c3b0); (try clear c4); (try clear c4b0); (try clear hx456_0); (try clear p456); (try clear q456); obtain ⟨x3_2, x4_2, x7_2, x19_2, rfl, rfl, rfl, rfl, HA, HK2, HB⟩ := hrel
       cases gk with
       | zero => exact absurd HA.out (by simp [table_cutable.l1])
       | succ k2 =>
        have H := HA.out; clear HA
        simp only [table_cutable.l1] at H
        by_cases c5 : x19_2 < ((rd_L7 l0 x12_1).length : Int)
        ·
         rw [if_pos c5] at H; have c5b0 : decide (x19_2 < ((rd_L7 l0 x12_1).length : Int)) = true := decide_eq_true c5; clear c5
         by_cases c6 : 0 ≤ x19_2
         ·
          rw [if_pos c6] at H; have c6b0 : decide (0 ≤ x19_2) = true := decide_eq_true c6; clear c6
          by_cases c7 : x19_2 < ((rd_L7 l0 x12_1).length : Int)
          ·
           rw [if_pos c7] at H; have c7b0 : decide (x19_2 < ((rd_L7 l0 x12_1).length : Int)) = true := decide_eq_true c7; clear c7; have HC8 := aS H; clear H; have p457 : 0 ≤ (x19_2 : Int) := oda; have q457 : x19_2 < ((rd_L7 l0 x12_1).length : Int) := oda; obtain ⟨ad457, e457, hx457_0, hx457_1, hx457_2, hx457_3, hx457_4⟩ := at_T42 HR456_0.out x19_2 p457 q457; cases e457; replace hx457_0 := bx bel hx457_0; replace hx457_1 := bx bel hx457_1; replace hx457_2 := bx bel hx457_2; replace hx457_3 := bx bel hx457_3; replace hx457_4 := bx bel hx457_4; replace p457 := eq_true p457; replace q457 := eq_true q457
           go_upto_region 9 with (first | ((with_reducible refine gate_dst (N := 9) rfl ?_); (try (refine gate_guard (by rfl) ?_; dsimp only)); refine box_event ?hg (N := 9) ?hd (cs := #[.string (⟨#[]⟩ : ByteArray), .string (⟨#[]⟩ : ByteArray), .int .i64 0, .string (⟨#[]⟩ : ByteArray), .bool false]) (t := 42) ?hr ?_; (case hd => rfl); (case hg => rfl); (case hr => first | (go_simp; done) | (go_simp; rfl)); intro gb458 hg w9 hbox hb; have BK458 := aS (hbox); have GW458 := bsize hg; have GE458 := bsize hg; replace HB := bstep hb; clear hb hbox hg; have hcz10 := cK5 BK458))
           (try simp only [Act.put, lsa, lsz, lss])
           go_cut [35] (fun v35 wc => ∃ (kq : Nat) (x35_7 : Bool), v35 = .bool x35_7 ∧ Aside0 (table_cutable.j2 kq l0 x3_2 x4_2 x12_1 (rd_L7 l0 x12_1) x7_2 x19_2 l0 (l0.length : Int) x12_1 (rd_L7 l0 x12_1) ((rd_L7 l0 x12_1).length : Int) x19_2 x35_7 ((rd_T42 (rd_L7 l0 x12_1) x19_2).f0) ((rd_T42 (rd_L7 l0 x12_1) x19_2).f1) ((rd_T42 (rd_L7 l0 x12_1) x19_2).f2) ((rd_T42 (rd_L7 l0 x12_1) x19_2).f3) ((rd_T42 (rd_L7 l0 x12_1) x19_2).f4) = some r) ∧ Aside0 (kq ≤ k2) ∧ Aside0 (wc.heap[gb458]? = some (.cells #[.string ((rd_T42 (rd_L7 l0 x12_1) x19_2).f0), .string ((rd_T42 (rd_L7 l0 x12_1) x19_2).f1), .int .i64 ((rd_T42 (rd_L7 l0 x12_1) x19_2).f2), .string ((rd_T42 (rd_L7 l0 x12_1) x19_2).f3), .bool ((rd_T42 (rd_L7 l0 x12_1) x19_2).f4)] 42 (0, 0))) ∧ Aside0 (Below w.heap.size w wc))
           case first =>
            have H := HC8.out; clear HC8
            by_cases c11 : x19_2 = (wrap64 (((rd_L7 l0 x12_1).length : Int) - 1))
            ·
             rw [if_pos c11] at H; obtain ⟨c11b0, c11b1⟩ := eqT c11; clear c11
             (first | rw [c11b0] | (simp only [i64_w, i32_w]; rw [c11b0]) | skip)
             have H' := aS H
             clear H
             go_wp2
             go_meet
             case rel => exact ⟨_, (decide (x12_1 < (wrap64 ((l0.length : Int) - 1)))), srf, H', ⟨by have := HK1.out; have := HK2.out; first | omega | exact Nat.le_refl _⟩, ⟨by (with_reducible repeat (first | refine blk_drewN ?_ _ | refine blk_drew ?_ | refine blk_alloc ?_ _)); refine blk_put (cs := #[.string ((rd_T42 (rd_L7 l0 x12_1) x19_2).f0), .string ((rd_T42 (rd_L7 l0 x12_1) x19_2).f1), .int .i64 ((rd_T42 (rd_L7 l0 x12_1) x19_2).f2), .string ((rd_T42 (rd_L7 l0 x12_1) x19_2).f3), .bool false]) ?_ 4 _ rfl; (with_reducible repeat (first | refine blk_drewN ?_ _ | refine blk_drew ?_ | refine blk_alloc ?_ _)); refine blk_put (cs := #[.string ((rd_T42 (rd_L7 l0 x12_1) x19_2).f0), .string ((rd_T42 (rd_L7 l0 x12_1) x19_2).f1), .int .i64 ((rd_T42 (rd_L7 l0 x12_1) x19_2).f2), .string (⟨#[]⟩ : ByteArray), .bool false]) ?_ 3 _ rfl; (with_reducible repeat (first | refine blk_drewN ?_ _ | refine blk_drew ?_ | refine blk_alloc ?_ _)); refine blk_put (cs := #[.string ((rd_T42 (rd_L7 l0 x12_1) x19_2).f0), .string ((rd_T42 (rd_L7 l0 x12_1) x19_2).f1), .int .i64 0, .string (⟨#[]⟩ : ByteArray), .bool false]) ?_ 2 _ rfl; (with_reducible repeat (first | refine blk_drewN ?_ _ | refine blk_drew ?_ | refine blk_alloc ?_ _)); refine blk_put (cs := #[.string ((rd_T42 (rd_L7 l0 x12_1) x19_2).f0), .string (⟨#[]⟩ : ByteArray), .int .i64 0, .string (⟨#[]⟩ : ByteArray), .bool false]) ?_ 1 _ rfl; (with_reducible repeat (first | refine blk_drewN ?_ _ | refine blk_drew ?_ | refine blk_alloc ?_ _)); refine blk_put (cs := #[.string (⟨#[]⟩ : ByteArray), .string (⟨#[]⟩ : ByteArray), .int .i64 0, .string (⟨#[]⟩ : ByteArray), .bool false]) ?_ 0 _ rfl; (with_reducible repeat (first | refine blk_drewN ?_ _ | refine blk_drew ?_ | refine blk_alloc ?_ _)); exact BK458.out⟩, ⟨bel⟩⟩
            ·
             rw [if_neg c11] at H; obtain ⟨c11b0, c11b1⟩ := eqF c11
             (first | rw [c11b0] | (simp only [i64_w, i32_w]; rw [c11b0]) | skip)
             have H' := aS H
             clear H
             go_wp2
             go_meet
             case rel => exact ⟨_, (false), srf, H', ⟨by have := HK1.out; have := HK2.out; first | omega | exact Nat.le_refl _⟩, ⟨by (with_reducible repeat (first | refine blk_drewN ?_ _ | refine blk_drew ?_ | refine blk_alloc ?_ _)); refine blk_put (cs := #[.string ((rd_T42 (rd_L7 l0 x12_1) x19_2).f0), .string ((rd_T42 (rd_L7 l0 x12_1) x19_2).f1), .int .i64 ((rd_T42 (rd_L7 l0 x12_1) x19_2).f2), .string ((rd_T42 (rd_L7 l0 x12_1) x19_2).f3), .bool false]) ?_ 4 _ rfl; (with_reducible repeat (first | refine blk_drewN ?_ _ | refine blk_drew ?_ | refine blk_alloc ?_ _)); refine blk_put (cs := #[.string ((rd_T42 (rd_L7 l0 x12_1) x19_2).f0), .string ((rd_T42 (rd_L7 l0 x12_1) x19_2).f1), .int .i64 ((rd_T42 (rd_L7 l0 x12_1) x19_2).f2), .string (⟨#[]⟩ : ByteArray), .bool false]) ?_ 3 _ rfl; (with_reducible repeat (first | refine blk_drewN ?_ _ | refine blk_drew ?_ | refine blk_alloc ?_ _)); refine blk_put (cs := #[.string ((rd_T42 (rd_L7 l0 x12_1) x19_2).f0), .string ((rd_T42 (rd_L7 l0 x12_1) x19_2).f1), .int .i64 0, .string (⟨#[]⟩ : ByteArray), .bool false]) ?_ 2 _ rfl; (with_reducible repeat (first | refine blk_drewN ?_ _ | refine blk_drew ?_ | refine blk_alloc ?_ _)); refine blk_put (cs := #[.string ((rd_T42 (rd_L7 l0 x12_1) x19_2).f0), .string (⟨#[]⟩ : ByteArray), .int .i64 0, .string (⟨#[]⟩ : ByteArray), .bool false]) ?_ 1 _ rfl; (with_reducible repeat (first | refine blk_drewN ?_ _ | refine blk_drew ?_ | refine blk_alloc ?_ _)); refine blk_put (cs := #[.string (⟨#[]⟩ : ByteArray), .string (⟨#[]⟩ : ByteArray), .int .i64 0, .string (⟨#[]⟩ : ByteArray), .bool false]) ?_ 0 _ rfl; (with_reducible repeat (first | refine blk_drewN ?_ _ | refine blk_drew ?_ | refine blk_alloc ?_ _)); exact BK458.out⟩, ⟨bel⟩⟩
           case rest =>
            clear HC8; (try clear c2); (try clear c2b0); (try clear c3); (try clear c3b0); (try clear c4); (try clear c4b0); (try clear c5); (try clear c5b0); (try clear c6); (try clear c6b0); (try clear c7); (try clear c7b0); (try clear hcz10); (try clear hx456_0); (try clear hx457_0); (try clear hx457_1); (try clear hx457_2); (try clear hx457_3); (try clear hx457_4); (try clear p456); (try clear p457); (try clear q456); (try clear q457); obtain ⟨kq, x35_7, rfl, HA, HJ7, BK458, HB⟩ := hcut
            cases kq with
            | zero => exact absurd HA.out (by simp [table_cutable.j2])
            | succ kj7 =>
             have H := HA.out; clear HA
             simp only [table_cutable.j2] at H
             by_cases c12 : x35_7 = true
             ·
              subst c12
              have H1 : ((cell_Put.f ((rd_T42 (rd_L7 l0 x12_1) x19_2).f0) ((rd_T42 (rd_L7 l0 x12_1) x19_2).f1) ((rd_T42 (rd_L7 l0 x12_1) x19_2).f2) ((rd_T42 (rd_L7 l0 x12_1) x19_2).f3) ((rd_T42 (rd_L7 l0 x12_1) x19_2).f4)).bind fun t459 => (if x19_2 > 0 then ((cell_Put.f ((rd_T42 (rd_L7 l0 x12_1) x19_2).f0) ((rd_T42 (rd_L7 l0 x12_1) x19_2).f1) ((rd_T42 (rd_L7 l0 x12_1) x19_2).f2) ((rd_T42 (rd_L7 l0 x12_1) x19_2).f3) ((rd_T42 (rd_L7 l0 x12_1) x19_2).f4)).bind fun t462 => (table_cutable.l1 kj7 l0 (mx x3_2 (wrap64 (x7_2 + 1))) (mn x4_2 (wrap64 (x7_2 + (t459.length : Int)))) x12_1 (rd_L7 l0 x12_1) (wrap64 (x7_2 + (t462.length : Int))) l0 (l0.length : Int) x12_1 (rd_L7 l0 x12_1) ((rd_L7 l0 x12_1).length : Int) (wrap64 (x19_2 + 1)))) else ((cell_Put.f ((rd_T42 (rd_L7 l0 x12_1) x19_2).f0) ((rd_T42 (rd_L7 l0 x12_1) x19_2).f1) ((rd_T42 (rd_L7 l0 x12_1) x19_2).f2) ((rd_T42 (rd_L7 l0 x12_1) x19_2).f3) ((rd_T42 (rd_L7 l0 x12_1) x19_2).f4)).bind fun t465 => (table_cutable.l1 kj7 l0 x3_2 (mn x4_2 (wrap64 (x7_2 + (t459.length : Int)))) x12_1 (rd_L7 l0 x12_1) (wrap64 (x7_2 + (t465.length : Int))) l0 (l0.length : Int) x12_1 (rd_L7 l0 x12_1) ((rd_L7 l0 x12_1).length : Int) (wrap64 (x19_2 + 1)))))) = some r := by rw [if_pos rfl] at H; exact H
              clear H; have H := H1; clear H1; replace H := obm H; obtain ⟨t459, A130, H⟩ := H; replace H : (if x19_2 > 0 then ((cell_Put.f ((rd_T42 (rd_L7 l0 x12_1) x19_2).f0) ((rd_T42 (rd_L7 l0 x12_1) x19_2).f1) ((rd_T42 (rd_L7 l0 x12_1) x19_2).f2) ((rd_T42 (rd_L7 l0 x12_1) x19_2).f3) ((rd_T42 (rd_L7 l0 x12_1) x19_2).f4)).bind fun t462 => (table_cutable.l1 kj7 l0 (mx x3_2 (wrap64 (x7_2 + 1))) (mn x4_2 (wrap64 (x7_2 + (t459.length : Int)))) x12_1 (rd_L7 l0 x12_1) (wrap64 (x7_2 + (t462.length : Int))) l0 (l0.length : Int) x12_1 (rd_L7 l0 x12_1) ((rd_L7 l0 x12_1).length : Int) (wrap64 (x19_2 + 1)))) else ((cell_Put.f ((rd_T42 (rd_L7 l0 x12_1) x19_2).f0) ((rd_T42 (rd_L7 l0 x12_1) x19_2).f1) ((rd_T42 (rd_L7 l0 x12_1) x19_2).f2) ((rd_T42 (rd_L7 l0 x12_1) x19_2).f3) ((rd_T42 (rd_L7 l0 x12_1) x19_2).f4)).bind fun t465 => (table_cutable.l1 kj7 l0 x3_2 (mn x4_2 (wrap64 (x7_2 + (t459.length : Int)))) x12_1 (rd_L7 l0 x12_1) (wrap64 (x7_2 + (t465.length : Int))) l0 (l0.length : Int) x12_1 (rd_L7 l0 x12_1) ((rd_L7 l0 x12_1).length : Int) (wrap64 (x19_2 + 1))))) = some r := H; have A13 := aS A130; clear A130
              obtain ⟨ji14, hji14⟩ : ∃ j_ : Int, (mn x4_2 (wrap64 (x7_2 + (t459.length : Int)))) = j_ := ⟨_, rfl⟩
              replace H : (if x19_2 > 0 then ((cell_Put.f ((rd_T42 (rd_L7 l0 x12_1) x19_2).f0) ((rd_T42 (rd_L7 l0 x12_1) x19_2).f1) ((rd_T42 (rd_L7 l0 x12_1) x19_2).f2) ((rd_T42 (rd_L7 l0 x12_1) x19_2).f3) ((rd_T42 (rd_L7 l0 x12_1) x19_2).f4)).bind fun t462 => (table_cutable.l1 kj7 l0 (mx x3_2 (wrap64 (x7_2 + 1))) ji14 x12_1 (rd_L7 l0 x12_1) (wrap64 (x7_2 + (t462.length : Int))) l0 (l0.length : Int) x12_1 (rd_L7 l0 x12_1) ((rd_L7 l0 x12_1).length : Int) (wrap64 (x19_2 + 1)))) else ((cell_Put.f ((rd_T42 (rd_L7 l0 x12_1) x19_2).f0) ((rd_T42 (rd_L7 l0 x12_1) x19_2).f1) ((rd_T42 (rd_L7 l0 x12_1) x19_2).f2) ((rd_T42 (rd_L7 l0 x12_1) x19_2).f3) ((rd_T42 (rd_L7 l0 x12_1) x19_2).f4)).bind fun t465 => (table_cutable.l1 kj7 l0 x3_2 ji14 x12_1 (rd_L7 l0 x12_1) (wrap64 (x7_2 + (t465.length : Int))) l0 (l0.length : Int) x12_1 (rd_L7 l0 x12_1) ((rd_L7 l0 x12_1).length : Int) (wrap64 (x19_2 + 1))))) = some r := by first | (rw [hji14] at H; exact H) | (simp only [hji14] at H ⊢; exact H)
              (try rw [hji14] at A13)
              have hji14_ : (if (wrap64 (x7_2 + (t459.length : Int))) < x4_2 then (wrap64 (x7_2 + (t459.length : Int))) else x4_2) = ji14 := hji14
              by_cases c15 : x19_2 > 0
              ·
               rw [if_pos c15] at H; have c15b0 : decide (0 < x19_2) = true := decide_eq_true c15; clear c15
               obtain ⟨ji16, hji16⟩ : ∃ j_ : Int, (mx x3_2 (wrap64 (x7_2 + 1))) = j_ := ⟨_, rfl⟩
               replace H : ((cell_Put.f ((rd_T42 (rd_L7 l0 x12_1) x19_2).f0) ((rd_T42 (rd_L7 l0 x12_1) x19_2).f1) ((rd_T42 (rd_L7 l0 x12_1) x19_2).f2) ((rd_T42 (rd_L7 l0 x12_1) x19_2).f3) ((rd_T42 (rd_L7 l0 x12_1) x19_2).f4)).bind fun t462 => (table_cutable.l1 kj7 l0 ji16 ji14 x12_1 (rd_L7 l0 x12_1) (wrap64 (x7_2 + (t462.length : Int))) l0 (l0.length : Int) x12_1 (rd_L7 l0 x12_1) ((rd_L7 l0 x12_1).length : Int) (wrap64 (x19_2 + 1)))) = some r := by first | (rw [hji16] at H; exact H) | (simp only [hji16] at H ⊢; exact H)
               (try rw [hji16] at A13)
               have hji16_ : (if x3_2 < (wrap64 (x7_2 + 1)) then (wrap64 (x7_2 + 1)) else x3_2) = ji16 := hji16; replace H := obm H; obtain ⟨t462, A170, H⟩ := H; replace H : (table_cutable.l1 kj7 l0 ji16 ji14 x12_1 (rd_L7 l0 x12_1) (wrap64 (x7_2 + (t462.length : Int))) l0 (l0.length : Int) x12_1 (rd_L7 l0 x12_1) ((rd_L7 l0 x12_1).length : Int) (wrap64 (x19_2 + 1))) = some r := H; have A17 := aS A170; clear A170
               have H' := aS H
               clear H; have hcz18 := cK5 BK458
               go_wp2_with (first | ((with_reducible refine gate_callee (f := 51) rfl ?_); refine goesL_ (some 39) rfl rfl Try.func51 (by kernel_rfl) rfl #[.agg #[.string ((rd_T42 (rd_L7 l0 x12_1) x19_2).f0), .string ((rd_T42 (rd_L7 l0 x12_1) x19_2).f1), .int .i64 ((rd_T42 (rd_L7 l0 x12_1) x19_2).f2), .string ((rd_T42 (rd_L7 l0 x12_1) x19_2).f3), .bool ((rd_T42 (rd_L7 l0 x12_1) x19_2).f4)]] rfl agn ?_; (with_reducible refine (cell_Put.calls ((rd_T42 (rd_L7 l0 x12_1) x19_2).f0) ((rd_T42 (rd_L7 l0 x12_1) x19_2).f1) ((rd_T42 (rd_L7 l0 x12_1) x19_2).f2) ((rd_T42 (rd_L7 l0 x12_1) x19_2).f3) ((rd_T42 (rd_L7 l0 x12_1) x19_2).f4) t459 _ A13.out).mono ?_); rintro e w19 ⟨v460, rfl, ho0, hb⟩; refine ⟨_, rfl, ?_⟩; have HO461 := aS (Kd.R_lower ho0 (below_size bel)); replace BK458 := bbl BK458 hb; replace HB := bstep hb; (try clear hb); (try clear hk); (try clear hi); (try clear ho0); obtain ⟨Ao20, co20, eo20⟩ := Kd.R_slice HO461.out; subst eo20; have hcz21 := cK5 BK458) | ((with_reducible refine gate_callee (f := 51) rfl ?_); refine goesL_ (some 51) rfl rfl Try.func51 (by kernel_rfl) rfl #[.agg #[.string ((rd_T42 (rd_L7 l0 x12_1) x19_2).f0), .string ((rd_T42 (rd_L7 l0 x12_1) x19_2).f1), .int .i64 ((rd_T42 (rd_L7 l0 x12_1) x19_2).f2), .string ((rd_T42 (rd_L7 l0 x12_1) x19_2).f3), .bool ((rd_T42 (rd_L7 l0 x12_1) x19_2).f4)]] rfl agn ?_; (with_reducible refine (cell_Put.calls ((rd_T42 (rd_L7 l0 x12_1) x19_2).f0) ((rd_T42 (rd_L7 l0 x12_1) x19_2).f1) ((rd_T42 (rd_L7 l0 x12_1) x19_2).f2) ((rd_T42 (rd_L7 l0 x12_1) x19_2).f3) ((rd_T42 (rd_L7 l0 x12_1) x19_2).f4) t462 _ A17.out).mono ?_); rintro e w22 ⟨v463, rfl, ho0, hb⟩; refine ⟨_, rfl, ?_⟩; have HO464 := aS (Kd.R_lower (Kd.R_new' ho0 (Kd.R_lt (rel HO461.out))) (below_size bel)); replace HO461 := aS (Kd.R_elder' (rel HO461.out) (ebs ho0) hb); replace BK458 := bbl BK458 hb; replace HB := bstep hb; (try clear hb); (try clear hk); (try clear hi); (try clear ho0); obtain ⟨Ao23, co23, eo23⟩ := Kd.R_slice HO464.out; subst eo23))
               go_roundg kj7
               case measure => have := HK1.out; have := HK2.out; have := HJ7.out; omega
               case rel => exact ⟨(ji16), (ji14), (wrap64 (x7_2 + (t462.length : Int))), (wrap64 (x19_2 + 1)), (by first | rfl | (simp; done) | (simp only [← hji16] <;> (first | rfl | simp)) | (simp [*]; done)), (by first | rfl | (simp; done) | (simp only [← hji14] <;> (first | rfl | simp)) | (simp [*]; done)), srf, srf, H', ⟨by have := HK1.out; have := HK2.out; have := HJ7.out; omega⟩, ⟨bel⟩⟩
              ·
               rw [if_neg c15] at H; have c15b0 : decide (0 < x19_2) = false := decide_eq_false c15; clear c15; replace H := obm H; obtain ⟨t465, A240, H⟩ := H; replace H : (table_cutable.l1 kj7 l0 x3_2 ji14 x12_1 (rd_L7 l0 x12_1) (wrap64 (x7_2 + (t465.length : Int))) l0 (l0.length : Int) x12_1 (rd_L7 l0 x12_1) ((rd_L7 l0 x12_1).length : Int) (wrap64 (x19_2 + 1))) = some r := H; have A24 := aS A240; clear A240
               have H' := aS H
               clear H; have hcz25 := cK5 BK458
               go_wp2_with (first | ((with_reducible refine gate_callee (f := 51) rfl ?_); refine goesL_ (some 39) rfl rfl Try.func51 (by kernel_rfl) rfl #[.agg #[.string ((rd_T42 (rd_L7 l0 x12_1) x19_2).f0), .string ((rd_T42 (rd_L7 l0 x12_1) x19_2).f1), .int .i64 ((rd_T42 (rd_L7 l0 x12_1) x19_2).f2), .string ((rd_T42 (rd_L7 l0 x12_1) x19_2).f3), .bool ((rd_T42 (rd_L7 l0 x12_1) x19_2).f4)]] rfl agn ?_; (with_reducible refine (cell_Put.calls ((rd_T42 (rd_L7 l0 x12_1) x19_2).f0) ((rd_T42 (rd_L7 l0 x12_1) x19_2).f1) ((rd_T42 (rd_L7 l0 x12_1) x19_2).f2) ((rd_T42 (rd_L7 l0 x12_1) x19_2).f3) ((rd_T42 (rd_L7 l0 x12_1) x19_2).f4) t459 _ A13.out).mono ?_); rintro e w26 ⟨v460, rfl, ho0, hb⟩; refine ⟨_, rfl, ?_⟩; have HO461 := aS (Kd.R_lower ho0 (below_size bel)); replace BK458 := bbl BK458 hb; replace HB := bstep hb; (try clear hb); (try clear hk); (try clear hi); (try clear ho0); obtain ⟨Ao27, co27, eo27⟩ := Kd.R_slice HO461.out; subst eo27; have hcz28 := cK5 BK458) | ((with_reducible refine gate_callee (f := 51) rfl ?_); refine goesL_ (some 51) rfl rfl Try.func51 (by kernel_rfl) rfl #[.agg #[.string ((rd_T42 (rd_L7 l0 x12_1) x19_2).f0), .string ((rd_T42 (rd_L7 l0 x12_1) x19_2).f1), .int .i64 ((rd_T42 (rd_L7 l0 x12_1) x19_2).f2), .string ((rd_T42 (rd_L7 l0 x12_1) x19_2).f3), .bool ((rd_T42 (rd_L7 l0 x12_1) x19_2).f4)]] rfl agn ?_; (with_reducible refine (cell_Put.calls ((rd_T42 (rd_L7 l0 x12_1) x19_2).f0) ((rd_T42 (rd_L7 l0 x12_1) x19_2).f1) ((rd_T42 (rd_L7 l0 x12_1) x19_2).f2) ((rd_T42 (rd_L7 l0 x12_1) x19_2).f3) ((rd_T42 (rd_L7 l0 x12_1) x19_2).f4) t465 _ A24.out).mono ?_); rintro e w29 ⟨v466, rfl, ho0, hb⟩; refine ⟨_, rfl, ?_⟩; have HO467 := aS (Kd.R_lower (Kd.R_new' ho0 (Kd.R_lt (rel HO461.out))) (below_size bel)); replace HO461 := aS (Kd.R_elder' (rel HO461.out) (ebs ho0) hb); replace BK458 := bbl BK458 hb; replace HB := bstep hb; (try clear hb); (try clear hk); (try clear hi); (try clear ho0); obtain ⟨Ao30, co30, eo30⟩ := Kd.R_slice HO467.out; subst eo30))
               go_roundg kj7
               case measure => have := HK1.out; have := HK2.out; have := HJ7.out; omega
               case rel => exact ⟨(x3_2), (ji14), (wrap64 (x7_2 + (t465.length : Int))), (wrap64 (x19_2 + 1)), srf, (by first | rfl | (simp; done) | (simp only [← hji14] <;> (first | rfl | simp)) | (simp [*]; done)), srf, srf, H', ⟨by have := HK1.out; have := HK2.out; have := HJ7.out; omega⟩, ⟨bel⟩⟩
             ·
              replace c12 := Bool.eq_false_iff.mpr c12; subst c12
              have H1 : (if x19_2 > 0 then ((cell_Put.f ((rd_T42 (rd_L7 l0 x12_1) x19_2).f0) ((rd_T42 (rd_L7 l0 x12_1) x19_2).f1) ((rd_T42 (rd_L7 l0 x12_1) x19_2).f2) ((rd_T42 (rd_L7 l0 x12_1) x19_2).f3) ((rd_T42 (rd_L7 l0 x12_1) x19_2).f4)).bind fun t468 => (table_cutable.l1 kj7 l0 (mx x3_2 (wrap64 (x7_2 + 1))) x4_2 x12_1 (rd_L7 l0 x12_1) (wrap64 (x7_2 + (t468.length : Int))) l0 (l0.length : Int) x12_1 (rd_L7 l0 x12_1) ((rd_L7 l0 x12_1).length : Int) (wrap64 (x19_2 + 1)))) else ((cell_Put.f ((rd_T42 (rd_L7 l0 x12_1) x19_2).f0) ((rd_T42 (rd_L7 l0 x12_1) x19_2).f1) ((rd_T42 (rd_L7 l0 x12_1) x19_2).f2) ((rd_T42 (rd_L7 l0 x12_1) x19_2).f3) ((rd_T42 (rd_L7 l0 x12_1) x19_2).f4)).bind fun t471 => (table_cutable.l1 kj7 l0 x3_2 x4_2 x12_1 (rd_L7 l0 x12_1) (wrap64 (x7_2 + (t471.length : Int))) l0 (l0.length : Int) x12_1 (rd_L7 l0 x12_1) ((rd_L7 l0 x12_1).length : Int) (wrap64 (x19_2 + 1))))) = some r := by rw [if_neg (show ¬ (false = true) by decide)] at H; exact H
              clear H; have H := H1; clear H1
              by_cases c31 : x19_2 > 0
              ·
               rw [if_pos c31] at H; have c31b0 : decide (0 < x19_2) = true := decide_eq_true c31; clear c31
               obtain ⟨ji32, hji32⟩ : ∃ j_ : Int, (mx x3_2 (wrap64 (x7_2 + 1))) = j_ := ⟨_, rfl⟩
               replace H : ((cell_Put.f ((rd_T42 (rd_L7 l0 x12_1) x19_2).f0) ((rd_T42 (rd_L7 l0 x12_1) x19_2).f1) ((rd_T42 (rd_L7 l0 x12_1) x19_2).f2) ((rd_T42 (rd_L7 l0 x12_1) x19_2).f3) ((rd_T42 (rd_L7 l0 x12_1) x19_2).f4)).bind fun t468 => (table_cutable.l1 kj7 l0 ji32 x4_2 x12_1 (rd_L7 l0 x12_1) (wrap64 (x7_2 + (t468.length : Int))) l0 (l0.length : Int) x12_1 (rd_L7 l0 x12_1) ((rd_L7 l0 x12_1).length : Int) (wrap64 (x19_2 + 1)))) = some r := by first | (rw [hji32] at H; exact H) | (simp only [hji32] at H ⊢; exact H)
               have hji32_ : (if x3_2 < (wrap64 (x7_2 + 1)) then (wrap64 (x7_2 + 1)) else x3_2) = ji32 := hji32; replace H := obm H; obtain ⟨t468, A330, H⟩ := H; replace H : (table_cutable.l1 kj7 l0 ji32 x4_2 x12_1 (rd_L7 l0 x12_1) (wrap64 (x7_2 + (t468.length : Int))) l0 (l0.length : Int) x12_1 (rd_L7 l0 x12_1) ((rd_L7 l0 x12_1).length : Int) (wrap64 (x19_2 + 1))) = some r := H; have A33 := aS A330; clear A330
               have H' := aS H
               clear H; have hcz34 := cK5 BK458
               go_wp2_with (first | ((with_reducible refine gate_callee (f := 51) rfl ?_); refine goesL_ (some 51) rfl rfl Try.func51 (by kernel_rfl) rfl #[.agg #[.string ((rd_T42 (rd_L7 l0 x12_1) x19_2).f0), .string ((rd_T42 (rd_L7 l0 x12_1) x19_2).f1), .int .i64 ((rd_T42 (rd_L7 l0 x12_1) x19_2).f2), .string ((rd_T42 (rd_L7 l0 x12_1) x19_2).f3), .bool ((rd_T42 (rd_L7 l0 x12_1) x19_2).f4)]] rfl agn ?_; (with_reducible refine (cell_Put.calls ((rd_T42 (rd_L7 l0 x12_1) x19_2).f0) ((rd_T42 (rd_L7 l0 x12_1) x19_2).f1) ((rd_T42 (rd_L7 l0 x12_1) x19_2).f2) ((rd_T42 (rd_L7 l0 x12_1) x19_2).f3) ((rd_T42 (rd_L7 l0 x12_1) x19_2).f4) t468 _ A33.out).mono ?_); rintro e w35 ⟨v469, rfl, ho0, hb⟩; refine ⟨_, rfl, ?_⟩; have HO470 := aS (Kd.R_lower ho0 (below_size bel)); replace BK458 := bbl BK458 hb; replace HB := bstep hb; (try clear hb); (try clear hk); (try clear hi); (try clear ho0); obtain ⟨Ao36, co36, eo36⟩ := Kd.R_slice HO470.out; subst eo36))
               go_roundg kj7
               case measure => have := HK1.out; have := HK2.out; have := HJ7.out; omega
               case rel => exact ⟨(ji32), (x4_2), (wrap64 (x7_2 + (t468.length : Int))), (wrap64 (x19_2 + 1)), (by first | rfl | (simp; done) | (simp only [← hji32] <;> (first | rfl | simp)) | (simp [*]; done)), srf, srf, srf, H', ⟨by have := HK1.out; have := HK2.out; have := HJ7.out; omega⟩, ⟨bel⟩⟩
              ·
               rw [if_neg c31] at H; have c31b0 : decide (0 < x19_2) = false := decide_eq_false c31; clear c31; replace H := obm H; obtain ⟨t471, A370, H⟩ := H; replace H : (table_cutable.l1 kj7 l0 x3_2 x4_2 x12_1 (rd_L7 l0 x12_1) (wrap64 (x7_2 + (t471.length : Int))) l0 (l0.length : Int) x12_1 (rd_L7 l0 x12_1) ((rd_L7 l0 x12_1).length : Int) (wrap64 (x19_2 + 1))) = some r := H; have A37 := aS A370; clear A370
               have H' := aS H
               clear H; have hcz38 := cK5 BK458
               go_wp2_with (first | ((with_reducible refine gate_callee (f := 51) rfl ?_); refine goesL_ (some 51) rfl rfl Try.func51 (by kernel_rfl) rfl #[.agg #[.string ((rd_T42 (rd_L7 l0 x12_1) x19_2).f0), .string ((rd_T42 (rd_L7 l0 x12_1) x19_2).f1), .int .i64 ((rd_T42 (rd_L7 l0 x12_1) x19_2).f2), .string ((rd_T42 (rd_L7 l0 x12_1) x19_2).f3), .bool ((rd_T42 (rd_L7 l0 x12_1) x19_2).f4)]] rfl agn ?_; (with_reducible refine (cell_Put.calls ((rd_T42 (rd_L7 l0 x12_1) x19_2).f0) ((rd_T42 (rd_L7 l0 x12_1) x19_2).f1) ((rd_T42 (rd_L7 l0 x12_1) x19_2).f2) ((rd_T42 (rd_L7 l0 x12_1) x19_2).f3) ((rd_T42 (rd_L7 l0 x12_1) x19_2).f4) t471 _ A37.out).mono ?_); rintro e w39 ⟨v472, rfl, ho0, hb⟩; refine ⟨_, rfl, ?_⟩; have HO473 := aS (Kd.R_lower ho0 (below_size bel)); replace BK458 := bbl BK458 hb; replace HB := bstep hb; (try clear hb); (try clear hk); (try clear hi); (try clear ho0); obtain ⟨Ao40, co40, eo40⟩ := Kd.R_slice HO473.out; subst eo40))
               go_roundg kj7
               case measure => have := HK1.out; have := HK2.out; have := HJ7.out; omega
               case rel => exact ⟨(x3_2), (x4_2), (wrap64 (x7_2 + (t471.length : Int))), (wrap64 (x19_2 + 1)), srf, srf, srf, srf, H', ⟨by have := HK1.out; have := HK2.out; have := HJ7.out; omega⟩, ⟨bel⟩⟩
          ·
           rw [if_neg c7] at H; exact absurd H (by simp)
         ·
          rw [if_neg c6] at H; exact absurd H (by simp)
        ·
         rw [if_neg c5] at H; have c5b0 : decide (x19_2 < ((rd_L7 l0 x12_1).length : Int)) = false := decide_eq_false c5; clear c5
         have H' := aS H
         clear H
         go_wp2
         go_roundg k2
         case measure => have := HK1.out; have := HK2.out; omega
         case rel => exact ⟨(x3_2), (x4_2), (wrap64 (x12_1 + 1)), srf, srf, srf, H', ⟨by have := HK1.out; have := HK2.out; omega⟩, ⟨bel⟩⟩
     ·
      rw [if_neg c4] at H; exact absurd H (by simp)
    ·
     rw [if_neg c3] at H; exact absurd H (by simp)
   ·
    rw [if_neg c2] at H; have c2b0 : decide (x12_1 < (l0.length : Int)) = false := decide_eq_false c2; clear c2
    obtain rfl := Option.some.inj H
    go_wp2
    go_ret
    exact ⟨rf3, bel⟩

end Go.Proofs.Ytinhpolmanccgaa.X
