-- written by a program of this session's, over the kit's print
import Derived.Test.YtinhpolmanccgaaXx0
import Derived.Test.YtinhpolmanccgaaXx3
import Derived.Test.YtinhpolmanccgaaXx9
namespace Go.Proofs.Ytinhpolmanccgaa.X
open Go.RowKit Go.Proofs.YtinhpolmanccgaaW.PrintWords Go.Proofs.YtinhpolmanccgaaW.PrintLast Go.Proofs.YtinhpolmanccgaaW.PrintMore
attribute [local go_sem] max2_int min2_int max_two min_two max_three min_three max_four min_four gtr_str   -- for this text's walks alone
set_option linter.unusedVariables false
set_option linter.unusedSimpArgs false

/-! ### api_Cell_44: function 44 -/
def api_Cell_44.l0 : Nat → List (List (S42)) → Int → Int → Int → ByteArray → ByteArray → Int → ByteArray → Bool → Option (Int × Bool)
 | 0, _, _, _, _, _, _, _, _, _ => none
 | k + 1, x0, x8, x9, x10, x485000, x485001, x485002, x485003, x485004 => if x9 < x10 then (if 0 ≤ (wrap64 ((IntKind.u64.wrap (wrap64 (x9 + x10))) / 2)) then (if (wrap64 ((IntKind.u64.wrap (wrap64 (x9 + x10))) / 2)) < (x0.length : Int) then ((table_Table_Get_1.f k (rd_L7 x0 (wrap64 ((IntKind.u64.wrap (wrap64 (x9 + x10))) / 2))) x485000 x485001 x485002 x485003 x485004).bind fun t486 => (if t486 < 0 then (api_Cell_44.l0 k x0 x8 (wrap64 ((wrap64 ((IntKind.u64.wrap (wrap64 (x9 + x10))) / 2)) + 1)) x10 x485000 x485001 x485002 x485003 x485004) else (api_Cell_44.l0 k x0 x8 x9 (wrap64 ((IntKind.u64.wrap (wrap64 (x9 + x10))) / 2)) x485000 x485001 x485002 x485003 x485004))) else (none)) else (none)) else (if x9 < x8 then (if 0 ≤ x9 then (if x9 < (x0.length : Int) then ((table_Table_Get_1.f k (rd_L7 x0 x9) x485000 x485001 x485002 x485003 x485004).bind fun t488 => (some (x9, (t488 == 0)))) else (none)) else (none)) else (some (x9, false)))
def api_Cell_44.f (k : Nat) (l0 : List (List (S42))) (a1_0 : ByteArray) (a1_1 : ByteArray) (a1_2 : Int) (a1_3 : ByteArray) (a1_4 : Bool)  : Option (Int × Bool) := api_Cell_44.l0 k l0 (l0.length : Int) 0 (l0.length : Int) a1_0 a1_1 a1_2 a1_3 a1_4
theorem api_Cell_44.mono_l : ∀ k, (∀ y0 y1 y2 y3 y4 y5 y6 y7 y8, LeO (api_Cell_44.l0 k y0 y1 y2 y3 y4 y5 y6 y7 y8) (api_Cell_44.l0 (k + 1) y0 y1 y2 y3 y4 y5 y6 y7 y8))
 | 0 => fun _ _ _ _ _ _ _ _ _ r h => by simp [api_Cell_44.l0] at h
 | k + 1 => by
  have ih0 := api_Cell_44.mono_l k
  ·
   intro y0 y1 y2 y3 y4 y5 y6 y7 y8
   unfold api_Cell_44.l0
   have m0 := @table_Table_Get_1.mono; exact lmo
theorem api_Cell_44.mono : ∀ a0 a1 a2 a3 a4 a5 k, LeO (api_Cell_44.f k a0 a1 a2 a3 a4 a5) (api_Cell_44.f (k + 1) a0 a1 a2 a3 a4 a5) := by
 intro a0 a1 a2 a3 a4 a5 k
 have ih0 := api_Cell_44.mono_l k
 unfold api_Cell_44.f
 have m0 := @table_Table_Get_1.mono; exact lmo
def api_Cell_44.T5 : Bool × List (List Nat × List Nat) := (true, [([], []), ([], []), ([], []), ([1, 2], [1, 2]), ([3], [3]), ([], []), ([0, 4, 5], [0, 4, 5]), ([6], [6])])
def api_Cell_44.B5 : List Nat := [0, 0, 0, 6, 14, 0, 63, 127]
theorem api_Cell_44.tab5 : rtab .any (opsOf Try.f44 5) = api_Cell_44.T5 := by kernel_rfl
theorem api_Cell_44.bits5 : waitsOk api_Cell_44.T5.2 api_Cell_44.B5 = true := by kernel_rfl
def api_Cell_44.T8 : Bool × List (List Nat × List Nat) := (true, [([], []), ([], []), ([], []), ([1, 2], [1, 2]), ([3], [3]), ([4], [4]), ([4], [4]), ([4], [4]), ([6, 7, 4], [4, 6, 7]), ([8, 4], [4, 8]), ([4], [4]), ([5, 9, 10, 4, 4], [4, 5, 9, 10]), ([11, 4], [4, 11]), ([4, 12], [4, 12]), ([0, 11, 0], [0]), ([13, 14, 0, 1, 2, 3, 4, 5, 6, 7, 8, 9, 10, 11, 12, 13, 14], [13])])
def api_Cell_44.B8 : List Nat := [0, 0, 0, 6, 14, 30, 30, 30, 222, 478, 30, 2046, 4094, 8190, 4095, 32767]
theorem api_Cell_44.tab8 : rtab .any (opsOf Try.f44 8) = api_Cell_44.T8 := by kernel_rfl
theorem api_Cell_44.bits8 : waitsOk api_Cell_44.T8.2 api_Cell_44.B8 = true := by kernel_rfl
set_option maxHeartbeats 8000000 in
set_option maxRecDepth 100000 in
theorem api_Cell_44.calls (k : Nat) (A0 : Option Addr) (c0 : Nat) (l0 : List (List (S42))) (a1_0 : ByteArray) (a1_1 : ByteArray) (a1_2 : Int) (a1_3 : ByteArray) (a1_4 : Bool)  (r1 : Int) (r2 : Bool) (w : World) (hr0 : Kd.C (Kd.slice 42 k42) w A0 l0.length l0) (hc0 : l0.length ≤ c0) (h : api_Cell_44.f k l0 a1_0 a1_1 a1_2 a1_3 a1_4 = some (r1, r2)) :
  Calls Try.prog 44 #[.slice A0 l0.length c0, .agg #[.string a1_0, .string a1_1, .int .i64 a1_2, .string a1_3, .bool a1_4], .func (.func 45) #[] #[]] w fun e w' => e = .returned (.tuple #[.int .i64 r1, .bool r2]) ∧ Below w.heap.size w w' := by
 have hu42 := Try.underlying42; have HR0 := aS hr0; have HC0 := aS hc0; clear hr0 hc0; have HB := aS (Below.refl w.heap.size w); have H : (api_Cell_44.l0 k l0 (l0.length : Int) 0 (l0.length : Int) a1_0 a1_1 a1_2 a1_3 a1_4) = some (r1, r2) := h; clear h
 have H' := aS H
 clear H
 go_enter Try.func44, Try.ntmps44
 go_wp2_with (first | ((with_reducible refine gate_dst (N := 4) rfl ?_); refine box_event ?hg (N := 4) ?hd (cs := #[.string a1_0, .string a1_1, .int .i64 a1_2, .string a1_3, .bool a1_4]) (t := 42) ?hr ?_; (case hd => rfl); (case hg => rfl); (case hr => first | (go_simp; done) | (go_simp; rfl)); intro gb484 hg w4 hbox hb; have BK484 := aS (hbox); have GW484 := bsize hg; have GE484 := bsize hg; replace HB := bstep hb; clear hb hbox hg))
 go_loopg [9, 10] k (fun kq v9 v10 w' => ∃ (x9_1 : Int) (x10_1 : Int), v9 = .int .i64 x9_1 ∧ v10 = .int .i64 x10_1 ∧ Aside0 (api_Cell_44.l0 kq l0 (l0.length : Int) x9_1 x10_1 a1_0 a1_1 a1_2 a1_3 a1_4 = some (r1, r2)) ∧ Aside0 (kq ≤ k) ∧ Aside0 (w'.heap[gb484]? = some (.cells #[.string a1_0, .string a1_1, .int .i64 a1_2, .string a1_3, .bool a1_4] 42 (0, 0))) ∧ Aside0 (Below w.heap.size w w'))
 case atStart => exact ⟨(0), ((l0.length : Int)), srf, srf, H', ⟨Nat.le_refl _⟩, ⟨bkl BK484.out⟩, ⟨bel⟩⟩
 case round =>
  clear H'; obtain ⟨x9_1, x10_1, rfl, rfl, HA, HK1, BK484, HB⟩ := hrel
  cases gk with
  | zero => exact absurd HA.out (by simp [api_Cell_44.l0])
  | succ k1 =>
   have H := HA.out; clear HA
   simp only [api_Cell_44.l0] at H
   by_cases c5 : x9_1 < x10_1
   ·
    rw [if_pos c5] at H; have c5b0 : decide (x9_1 < x10_1) = true := decide_eq_true c5; clear c5
    obtain ⟨ji6, hji6⟩ : ∃ j_ : Int, (wrap64 ((IntKind.u64.wrap (wrap64 (x9_1 + x10_1))) / 2)) = j_ := ⟨_, rfl⟩
    replace H : (if 0 ≤ (ji6) then (if (ji6) < (l0.length : Int) then ((table_Table_Get_1.f k1 (rd_L7 l0 (ji6)) a1_0 a1_1 a1_2 a1_3 a1_4).bind fun t486 => (if t486 < 0 then (api_Cell_44.l0 k1 l0 (l0.length : Int) (wrap64 ((ji6) + 1)) x10_1 a1_0 a1_1 a1_2 a1_3 a1_4) else (api_Cell_44.l0 k1 l0 (l0.length : Int) x9_1 ji6 a1_0 a1_1 a1_2 a1_3 a1_4))) else (none)) else (none)) = some (r1, r2) := by first | (rw [hji6] at H; exact H) | (simp only [hji6] at H ⊢; exact H)
    have hji6w : (IntKind.i64.wrap ((IntKind.u64.wrap (wrap64 (x9_1 + x10_1))) / 2)) = ji6 := (i64_w _).trans hji6
    by_cases c7 : 0 ≤ (ji6)
    ·
     rw [if_pos c7] at H; have c7b0 : decide (0 ≤ (ji6)) = true := decide_eq_true c7; clear c7
     by_cases c8 : (ji6) < (l0.length : Int)
     ·
      rw [if_pos c8] at H; have c8b0 : decide ((ji6) < (l0.length : Int)) = true := decide_eq_true c8; clear c8; replace H := obm H; obtain ⟨t486, A90, H⟩ := H; have A9 := aS A90; clear A90
      by_cases c10 : t486 < 0
      ·
       rw [if_pos c10] at H; have c10b0 : decide (t486 < 0) = true := decide_eq_true c10; clear c10
       have H' := aS H
       clear H
       try go_wp2
       replace BK484 := aS (blk_drew BK484.out); replace HB := aS (bdo HB.out); have p485 : 0 ≤ ((ji6) : Int) := oda; have q485 : (ji6) < (l0.length : Int) := oda; obtain ⟨ad485, A485_0, c485_0, e485, hx485_0, hl485_0, hi485_0⟩ := at_L7 HR0.out (ji6) p485 q485; have hw485_0 := hx485_0; cases e485; have hB_485_0 := aS hx485_0; replace hx485_0 := bx bel hx485_0; have HR485_0 := aS hi485_0; have HC485_0 := aS hl485_0; clear hi485_0 hl485_0; replace p485 := eq_true p485; replace q485 := eq_true q485; refine start_ (n := 8) (S := fun w' => w'.cell? ⟨gb484, 0, none⟩ = some (.string a1_0) ∧ w'.cell? ⟨gb484, 1, none⟩ = some (.string a1_1) ∧ w'.cell? ⟨gb484, 2, none⟩ = some (.int .i64 a1_2) ∧ w'.cell? ⟨gb484, 3, none⟩ = some (.string a1_3) ∧ w'.cell? ⟨gb484, 4, none⟩ = some (.bool a1_4) ∧ w'.cell? (ad485.add ((ji6)).toNat) = some (.slice A485_0 (rd_L7 l0 (ji6)).length c485_0)) (ds := []) (bA 8 0) (by kernel_rfl) rfl rfl ⟨bc BK484 0, bc BK484 1, bc BK484 2, bc BK484 3, bc BK484 4, (bx bel hw485_0)⟩ (fun hHeld => ?_); refine with_tabW api_Cell_44.tab5 api_Cell_44.bits5 (fun HT_ HW_ => ?_)
       generalize wr.drew = w11 at BK484 HB HR485_0 hx485_0 hHeld ⊢
       refine along_ [(0, 24), (1, 25), (2, 26), (3, 27), (4, 28), (5, 29)] ?_
       iterate 6 (first | (refine pure3 HT_ ?_) | (refine take3 HT_ HW_ hHeld ?_))
       refine lay_ (bA 8 63) (by kernel_rfl) ?_; refine one3 6 (N := some 30) (bA 8 127) HT_ (fun K hK => ?_); refine Kd.goesV_ Try.func45 (by kernel_rfl) rfl #[.slice A485_0 (rd_L7 l0 (ji6)).length c485_0, .agg #[.string a1_0, .string a1_1, .int .i64 a1_2, .string a1_3, .bool a1_4]] (by rfl) rfl rfl rfl (by (try simp only [List.map_toArray, List.map_cons, List.map_nil]); first | done | (simp only [hji6]; rfl) | rfl | (simp only [lld, llt]; rfl)) ?_
       with_reducible refine (table_Table_Get_1.calls k1 _ _ (rd_L7 l0 (ji6)) a1_0 a1_1 a1_2 a1_3 a1_4 t486 _ ?side1 ?side2 A9.out).mono ?_
       (case side1 => exact cel (Kd.C_below HR485_0.out HB.out))
       (case side2 => exact HC485_0.out)
       rintro e w12 ⟨rfl, hb⟩
       refine ⟨_, rfl, ?_⟩; replace BK484 := bbl BK484 hb; replace HB := bstep hb; (try clear hb); (try clear hk); (try clear hi); refine hK.out _ _ ⟨bc BK484 0, bc BK484 1, bc BK484 2, bc BK484 3, bc BK484 4, (bx bel hw485_0)⟩ (fun hHeld => ?_); clear hK K; refine nm 30 ?_; refine pure_ (i := 7) (N := some 31) (v := ?_) (a' := ?_) (bA 8 255) rfl rfl (any_of HT_.out (by kernel_rfl)) (fun _ _ _ h => h) (Or.inl ⟨by rfl, ?_⟩) ?_ ?_
       rotate_left
       ·
        intro w'
        go_simp
        with_reducible rfl
       rotate_left
       ·
        simp only [Act.put, lsa, lsz, lss, i64_w, i32_w]
        rfl
       refine done_ (done_of HT_.out (by kernel_rfl)) ?_
       try go_wp2
       go_roundg k1
       case measure => have := HK1.out; omega
       case rel => exact ⟨(wrap64 ((ji6) + 1)), (x10_1), (by first | rfl | (simp; done) | (simp only [← hji6] <;> (first | rfl | simp)) | (simp [*]; done)), srf, H', ⟨by have := HK1.out; omega⟩, ⟨bkl BK484.out⟩, ⟨bel⟩⟩
      ·
       rw [if_neg c10] at H; have c10b0 : decide (t486 < 0) = false := decide_eq_false c10; clear c10
       have H' := aS H
       clear H
       try go_wp2
       replace BK484 := aS (blk_drew BK484.out); replace HB := aS (bdo HB.out); have p485 : 0 ≤ ((ji6) : Int) := oda; have q485 : (ji6) < (l0.length : Int) := oda; obtain ⟨ad485, A485_0, c485_0, e485, hx485_0, hl485_0, hi485_0⟩ := at_L7 HR0.out (ji6) p485 q485; have hw485_0 := hx485_0; cases e485; have hB_485_0 := aS hx485_0; replace hx485_0 := bx bel hx485_0; have HR485_0 := aS hi485_0; have HC485_0 := aS hl485_0; clear hi485_0 hl485_0; replace p485 := eq_true p485; replace q485 := eq_true q485; refine start_ (n := 8) (S := fun w' => w'.cell? ⟨gb484, 0, none⟩ = some (.string a1_0) ∧ w'.cell? ⟨gb484, 1, none⟩ = some (.string a1_1) ∧ w'.cell? ⟨gb484, 2, none⟩ = some (.int .i64 a1_2) ∧ w'.cell? ⟨gb484, 3, none⟩ = some (.string a1_3) ∧ w'.cell? ⟨gb484, 4, none⟩ = some (.bool a1_4) ∧ w'.cell? (ad485.add ((ji6)).toNat) = some (.slice A485_0 (rd_L7 l0 (ji6)).length c485_0)) (ds := []) (bA 8 0) (by kernel_rfl) rfl rfl ⟨bc BK484 0, bc BK484 1, bc BK484 2, bc BK484 3, bc BK484 4, (bx bel hw485_0)⟩ (fun hHeld => ?_); refine with_tabW api_Cell_44.tab5 api_Cell_44.bits5 (fun HT_ HW_ => ?_)
       generalize wr.drew = w13 at BK484 HB HR485_0 hx485_0 hHeld ⊢
       refine along_ [(0, 24), (1, 25), (2, 26), (3, 27), (4, 28), (5, 29)] ?_
       iterate 6 (first | (refine pure3 HT_ ?_) | (refine take3 HT_ HW_ hHeld ?_))
       refine lay_ (bA 8 63) (by kernel_rfl) ?_; refine one3 6 (N := some 30) (bA 8 127) HT_ (fun K hK => ?_); refine Kd.goesV_ Try.func45 (by kernel_rfl) rfl #[.slice A485_0 (rd_L7 l0 (ji6)).length c485_0, .agg #[.string a1_0, .string a1_1, .int .i64 a1_2, .string a1_3, .bool a1_4]] (by rfl) rfl rfl rfl (by (try simp only [List.map_toArray, List.map_cons, List.map_nil]); first | done | (simp only [hji6]; rfl) | rfl | (simp only [lld, llt]; rfl)) ?_
       with_reducible refine (table_Table_Get_1.calls k1 _ _ (rd_L7 l0 (ji6)) a1_0 a1_1 a1_2 a1_3 a1_4 t486 _ ?side1 ?side2 A9.out).mono ?_
       (case side1 => exact cel (Kd.C_below HR485_0.out HB.out))
       (case side2 => exact HC485_0.out)
       rintro e w14 ⟨rfl, hb⟩
       refine ⟨_, rfl, ?_⟩; replace BK484 := bbl BK484 hb; replace HB := bstep hb; (try clear hb); (try clear hk); (try clear hi); refine hK.out _ _ ⟨bc BK484 0, bc BK484 1, bc BK484 2, bc BK484 3, bc BK484 4, (bx bel hw485_0)⟩ (fun hHeld => ?_); clear hK K; refine nm 30 ?_; refine pure_ (i := 7) (N := some 31) (v := ?_) (a' := ?_) (bA 8 255) rfl rfl (any_of HT_.out (by kernel_rfl)) (fun _ _ _ h => h) (Or.inl ⟨by rfl, ?_⟩) ?_ ?_
       rotate_left
       ·
        intro w'
        go_simp
        with_reducible rfl
       rotate_left
       ·
        simp only [Act.put, lsa, lsz, lss, i64_w, i32_w]
        rfl
       refine done_ (done_of HT_.out (by kernel_rfl)) ?_
       try go_wp2
       go_roundg k1
       case measure => have := HK1.out; omega
       case rel => exact ⟨(x9_1), (ji6), srf, (by first | rfl | (simp; done) | (simp only [← hji6] <;> (first | rfl | simp)) | (simp [*]; done)), H', ⟨by have := HK1.out; omega⟩, ⟨bkl BK484.out⟩, ⟨bel⟩⟩
     ·
      rw [if_neg c8] at H; exact absurd H (by simp)
    ·
     rw [if_neg c7] at H; exact absurd H (by simp)
   ·
    rw [if_neg c5] at H; have c5b0 : decide (x9_1 < x10_1) = false := decide_eq_false c5; clear c5
    by_cases c15 : x9_1 < (l0.length : Int)
    ·
     rw [if_pos c15] at H; have c15b0 : decide (x9_1 < (l0.length : Int)) = true := decide_eq_true c15; clear c15
     by_cases c16 : 0 ≤ x9_1
     ·
      rw [if_pos c16] at H; have c16b0 : decide (0 ≤ x9_1) = true := decide_eq_true c16; clear c16
      by_cases c17 : x9_1 < (l0.length : Int)
      ·
       rw [if_pos c17] at H; have c17b0 : decide (x9_1 < (l0.length : Int)) = true := decide_eq_true c17; clear c17; replace H := obm H; obtain ⟨t488, A180, H⟩ := H; have A18 := aS A180; clear A180
       simp only [Option.some.injEq, Prod.mk.injEq] at H
       obtain ⟨rfl, rfl⟩ := H
       try go_wp2
       replace BK484 := aS (blk_drew BK484.out); replace HB := aS (bdo HB.out); have p487 : 0 ≤ (x9_1 : Int) := oda; have q487 : x9_1 < (l0.length : Int) := oda; obtain ⟨ad487, A487_0, c487_0, e487, hx487_0, hl487_0, hi487_0⟩ := at_L7 HR0.out x9_1 p487 q487; have hw487_0 := hx487_0; cases e487; have hB_487_0 := aS hx487_0; replace hx487_0 := bx bel hx487_0; have HR487_0 := aS hi487_0; have HC487_0 := aS hl487_0; clear hi487_0 hl487_0; replace p487 := eq_true p487; replace q487 := eq_true q487; refine start_ (n := 16) (S := fun w' => w'.cell? ⟨gb484, 0, none⟩ = some (.string a1_0) ∧ w'.cell? ⟨gb484, 1, none⟩ = some (.string a1_1) ∧ w'.cell? ⟨gb484, 2, none⟩ = some (.int .i64 a1_2) ∧ w'.cell? ⟨gb484, 3, none⟩ = some (.string a1_3) ∧ w'.cell? ⟨gb484, 4, none⟩ = some (.bool a1_4) ∧ w'.cell? (ad487.add (x9_1).toNat) = some (.slice A487_0 (rd_L7 l0 x9_1).length c487_0)) (ds := []) (bA 16 0) (by kernel_rfl) rfl rfl ⟨bc BK484 0, bc BK484 1, bc BK484 2, bc BK484 3, bc BK484 4, (bx bel hw487_0)⟩ (fun hHeld => ?_); refine with_tabW api_Cell_44.tab8 api_Cell_44.bits8 (fun HT_ HW_ => ?_)
       generalize wr.drew = w19 at BK484 HB HR487_0 hx487_0 hHeld ⊢
       refine along_ [(0, 35), (1, 36), (2, 37), (3, 38), (4, 39), (5, 40), (6, 41), (7, 42), (8, 43), (9, 44), (10, 45)] ?_
       iterate 11 (first | (refine pure3 HT_ ?_) | (refine take3 HT_ HW_ hHeld ?_))
       refine lay_ (bA 16 2047) (by kernel_rfl) ?_; refine one3 11 (N := some 46) (bA 16 4095) HT_ (fun K hK => ?_); refine Kd.goesV_ Try.func45 (by kernel_rfl) rfl #[.slice A487_0 (rd_L7 l0 x9_1).length c487_0, .agg #[.string a1_0, .string a1_1, .int .i64 a1_2, .string a1_3, .bool a1_4]] (by rfl) rfl rfl rfl agn ?_
       with_reducible refine (table_Table_Get_1.calls k1 _ _ (rd_L7 l0 x9_1) a1_0 a1_1 a1_2 a1_3 a1_4 t488 _ ?side1 ?side2 A18.out).mono ?_
       (case side1 => exact cel (Kd.C_below HR487_0.out HB.out))
       (case side2 => exact HC487_0.out)
       rintro e w20 ⟨rfl, hb⟩
       refine ⟨_, rfl, ?_⟩; replace BK484 := bbl BK484 hb; replace HB := bstep hb; (try clear hb); (try clear hk); (try clear hi); refine hK.out _ _ ⟨bc BK484 0, bc BK484 1, bc BK484 2, bc BK484 3, bc BK484 4, (bx bel hw487_0)⟩ (fun hHeld => ?_); clear hK K; refine nm 46 ?_; refine along_ [(12, 47), (13, 48), (14, 6), (15, 7)] ?_
       iterate 4 (refine pure3 HT_ ?_)
       refine lay_ (bA 16 65535) (by kernel_rfl) ?_; refine done_ (done_of HT_.out (by kernel_rfl)) ?_
       try go_wp2
       go_ret2
       exact ⟨rf3, bel⟩
      ·
       rw [if_neg c17] at H; exact absurd H (by simp)
     ·
      rw [if_neg c16] at H; exact absurd H (by simp)
    ·
     rw [if_neg c15] at H; have c15b0 : decide (x9_1 < (l0.length : Int)) = false := decide_eq_false c15; clear c15
     simp only [Option.some.injEq, Prod.mk.injEq] at H
     obtain ⟨rfl, rfl⟩ := H
     try go_wp2
     replace BK484 := aS (blk_drew BK484.out); replace HB := aS (bdo HB.out); refine start_ (n := 16) (S := fun w' => True) (ds := []) (bA 16 0) (by kernel_rfl) rfl rfl trivial (fun hHeld => ?_); refine with_tabW api_Cell_44.tab8 api_Cell_44.bits8 (fun HT_ HW_ => ?_)
     generalize wr.drew = w21 at BK484 HB hHeld ⊢
     refine along_ [(0, 35), (1, 36), (2, 37), (3, 38), (4, 39), (5, 40), (6, 41), (7, 42), (8, 43), (9, 44), (10, 45), (11, 46), (12, 47), (13, 48), (14, 6), (15, 7)] ?_
     iterate 16 (first | (refine skip3 HT_ ?_) | (refine pure3 HT_ ?_))
     refine lay_ (bA 16 65535) (by kernel_rfl) ?_; refine done_ (done_of HT_.out (by kernel_rfl)) ?_
     try go_wp2
     go_ret2
     exact ⟨rf3, bel⟩

/-! ### api_Cell_65: function 65 -/
def api_Cell_65.l0 : Nat → List (S42) → Int → Int → Int → ByteArray → ByteArray → Int → ByteArray → Bool → Option (Int × Bool)
 | 0, _, _, _, _, _, _, _, _, _ => none
 | k + 1, x0, x8, x9, x10, x490000, x490001, x490002, x490003, x490004 => if x9 < x10 then (if 0 ≤ (wrap64 ((IntKind.u64.wrap (wrap64 (x9 + x10))) / 2)) then (if (wrap64 ((IntKind.u64.wrap (wrap64 (x9 + x10))) / 2)) < (x0.length : Int) then ((cell_Compare.f k ((rd_T42 x0 (wrap64 ((IntKind.u64.wrap (wrap64 (x9 + x10))) / 2))).f0) ((rd_T42 x0 (wrap64 ((IntKind.u64.wrap (wrap64 (x9 + x10))) / 2))).f1) ((rd_T42 x0 (wrap64 ((IntKind.u64.wrap (wrap64 (x9 + x10))) / 2))).f2) ((rd_T42 x0 (wrap64 ((IntKind.u64.wrap (wrap64 (x9 + x10))) / 2))).f3) ((rd_T42 x0 (wrap64 ((IntKind.u64.wrap (wrap64 (x9 + x10))) / 2))).f4) x490000 x490001 x490002 x490003 x490004).bind fun t491 => (if t491 < 0 then (api_Cell_65.l0 k x0 x8 (wrap64 ((wrap64 ((IntKind.u64.wrap (wrap64 (x9 + x10))) / 2)) + 1)) x10 x490000 x490001 x490002 x490003 x490004) else (api_Cell_65.l0 k x0 x8 x9 (wrap64 ((IntKind.u64.wrap (wrap64 (x9 + x10))) / 2)) x490000 x490001 x490002 x490003 x490004))) else (none)) else (none)) else (if x9 < x8 then (if 0 ≤ x9 then (if x9 < (x0.length : Int) then ((cell_Compare.f k ((rd_T42 x0 x9).f0) ((rd_T42 x0 x9).f1) ((rd_T42 x0 x9).f2) ((rd_T42 x0 x9).f3) ((rd_T42 x0 x9).f4) x490000 x490001 x490002 x490003 x490004).bind fun t493 => (some (x9, (t493 == 0)))) else (none)) else (none)) else (some (x9, false)))
def api_Cell_65.f (k : Nat) (l0 : List (S42)) (a1_0 : ByteArray) (a1_1 : ByteArray) (a1_2 : Int) (a1_3 : ByteArray) (a1_4 : Bool)  : Option (Int × Bool) := api_Cell_65.l0 k l0 (l0.length : Int) 0 (l0.length : Int) a1_0 a1_1 a1_2 a1_3 a1_4
theorem api_Cell_65.mono_l : ∀ k, (∀ y0 y1 y2 y3 y4 y5 y6 y7 y8, LeO (api_Cell_65.l0 k y0 y1 y2 y3 y4 y5 y6 y7 y8) (api_Cell_65.l0 (k + 1) y0 y1 y2 y3 y4 y5 y6 y7 y8))
 | 0 => fun _ _ _ _ _ _ _ _ _ r h => by simp [api_Cell_65.l0] at h
 | k + 1 => by
  have ih0 := api_Cell_65.mono_l k
  ·
   intro y0 y1 y2 y3 y4 y5 y6 y7 y8
   unfold api_Cell_65.l0
   have m0 := @cell_Compare.mono; exact lmo
theorem api_Cell_65.mono : ∀ a0 a1 a2 a3 a4 a5 k, LeO (api_Cell_65.f k a0 a1 a2 a3 a4 a5) (api_Cell_65.f (k + 1) a0 a1 a2 a3 a4 a5) := by
 intro a0 a1 a2 a3 a4 a5 k
 have ih0 := api_Cell_65.mono_l k
 unfold api_Cell_65.f
 have m0 := @cell_Compare.mono; exact lmo
def api_Cell_65.T5 : Bool × List (List Nat × List Nat) := (true, [([], []), ([], []), ([], []), ([1, 2], [1, 2]), ([3], [3]), ([], []), ([0, 4, 5], [0, 4, 5]), ([6], [6])])
def api_Cell_65.B5 : List Nat := [0, 0, 0, 6, 14, 0, 63, 127]
theorem api_Cell_65.tab5 : rtab .any (opsOf Try.f65 5) = api_Cell_65.T5 := by kernel_rfl
theorem api_Cell_65.bits5 : waitsOk api_Cell_65.T5.2 api_Cell_65.B5 = true := by kernel_rfl
def api_Cell_65.T8 : Bool × List (List Nat × List Nat) := (true, [([], []), ([], []), ([], []), ([1, 2], [1, 2]), ([3], [3]), ([4], [4]), ([4], [4]), ([4], [4]), ([6, 7, 4], [4, 6, 7]), ([8, 4], [4, 8]), ([4], [4]), ([5, 9, 10, 4, 4], [4, 5, 9, 10]), ([11, 4], [4, 11]), ([4, 12], [4, 12]), ([0, 11, 0], [0]), ([13, 14, 0, 1, 2, 3, 4, 5, 6, 7, 8, 9, 10, 11, 12, 13, 14], [13])])
def api_Cell_65.B8 : List Nat := [0, 0, 0, 6, 14, 30, 30, 30, 222, 478, 30, 2046, 4094, 8190, 4095, 32767]
theorem api_Cell_65.tab8 : rtab .any (opsOf Try.f65 8) = api_Cell_65.T8 := by kernel_rfl
theorem api_Cell_65.bits8 : waitsOk api_Cell_65.T8.2 api_Cell_65.B8 = true := by kernel_rfl
set_option maxHeartbeats 8000000 in
set_option maxRecDepth 100000 in
theorem api_Cell_65.calls (k : Nat) (A0 : Option Addr) (c0 : Nat) (l0 : List (S42)) (a1_0 : ByteArray) (a1_1 : ByteArray) (a1_2 : Int) (a1_3 : ByteArray) (a1_4 : Bool)  (r1 : Int) (r2 : Bool) (w : World) (hr0 : Kd.C k42 w A0 l0.length l0) (hc0 : l0.length ≤ c0) (h : api_Cell_65.f k l0 a1_0 a1_1 a1_2 a1_3 a1_4 = some (r1, r2)) :
  Calls Try.prog 65 #[.slice A0 l0.length c0, .agg #[.string a1_0, .string a1_1, .int .i64 a1_2, .string a1_3, .bool a1_4], .func (.func 46) #[] #[]] w fun e w' => e = .returned (.tuple #[.int .i64 r1, .bool r2]) ∧ Below w.heap.size w w' := by
 have hu42 := Try.underlying42; have HR0 := aS hr0; have HC0 := aS hc0; clear hr0 hc0; have HB := aS (Below.refl w.heap.size w); have H : (api_Cell_65.l0 k l0 (l0.length : Int) 0 (l0.length : Int) a1_0 a1_1 a1_2 a1_3 a1_4) = some (r1, r2) := h; clear h
 have H' := aS H
 clear H
 go_enter Try.func65, Try.ntmps65
 go_wp2_with (first | ((with_reducible refine gate_dst (N := 4) rfl ?_); refine box_event ?hg (N := 4) ?hd (cs := #[.string a1_0, .string a1_1, .int .i64 a1_2, .string a1_3, .bool a1_4]) (t := 42) ?hr ?_; (case hd => rfl); (case hg => rfl); (case hr => first | (go_simp; done) | (go_simp; rfl)); intro gb489 hg w4 hbox hb; have BK489 := aS (hbox); have GW489 := bsize hg; have GE489 := bsize hg; replace HB := bstep hb; clear hb hbox hg))
 go_loopg [9, 10] k (fun kq v9 v10 w' => ∃ (x9_1 : Int) (x10_1 : Int), v9 = .int .i64 x9_1 ∧ v10 = .int .i64 x10_1 ∧ Aside0 (api_Cell_65.l0 kq l0 (l0.length : Int) x9_1 x10_1 a1_0 a1_1 a1_2 a1_3 a1_4 = some (r1, r2)) ∧ Aside0 (kq ≤ k) ∧ Aside0 (w'.heap[gb489]? = some (.cells #[.string a1_0, .string a1_1, .int .i64 a1_2, .string a1_3, .bool a1_4] 42 (0, 0))) ∧ Aside0 (Below w.heap.size w w'))
 case atStart => exact ⟨(0), ((l0.length : Int)), srf, srf, H', ⟨Nat.le_refl _⟩, ⟨bkl BK489.out⟩, ⟨bel⟩⟩
 case round =>
  clear H'; obtain ⟨x9_1, x10_1, rfl, rfl, HA, HK1, BK489, HB⟩ := hrel
  cases gk with
  | zero => exact absurd HA.out (by simp [api_Cell_65.l0])
  | succ k1 =>
   have H := HA.out; clear HA
   simp only [api_Cell_65.l0] at H
   by_cases c5 : x9_1 < x10_1
   ·
    rw [if_pos c5] at H; have c5b0 : decide (x9_1 < x10_1) = true := decide_eq_true c5; clear c5
    obtain ⟨ji6, hji6⟩ : ∃ j_ : Int, (wrap64 ((IntKind.u64.wrap (wrap64 (x9_1 + x10_1))) / 2)) = j_ := ⟨_, rfl⟩
    replace H : (if 0 ≤ (ji6) then (if (ji6) < (l0.length : Int) then ((cell_Compare.f k1 ((rd_T42 l0 (ji6)).f0) ((rd_T42 l0 (ji6)).f1) ((rd_T42 l0 (ji6)).f2) ((rd_T42 l0 (ji6)).f3) ((rd_T42 l0 (ji6)).f4) a1_0 a1_1 a1_2 a1_3 a1_4).bind fun t491 => (if t491 < 0 then (api_Cell_65.l0 k1 l0 (l0.length : Int) (wrap64 ((ji6) + 1)) x10_1 a1_0 a1_1 a1_2 a1_3 a1_4) else (api_Cell_65.l0 k1 l0 (l0.length : Int) x9_1 ji6 a1_0 a1_1 a1_2 a1_3 a1_4))) else (none)) else (none)) = some (r1, r2) := by first | (rw [hji6] at H; exact H) | (simp only [hji6] at H ⊢; exact H)
    have hji6w : (IntKind.i64.wrap ((IntKind.u64.wrap (wrap64 (x9_1 + x10_1))) / 2)) = ji6 := (i64_w _).trans hji6
    by_cases c7 : 0 ≤ (ji6)
    ·
     rw [if_pos c7] at H; have c7b0 : decide (0 ≤ (ji6)) = true := decide_eq_true c7; clear c7
     by_cases c8 : (ji6) < (l0.length : Int)
     ·
      rw [if_pos c8] at H; have c8b0 : decide ((ji6) < (l0.length : Int)) = true := decide_eq_true c8; clear c8; replace H := obm H; obtain ⟨t491, A90, H⟩ := H; have A9 := aS A90; clear A90
      by_cases c10 : t491 < 0
      ·
       rw [if_pos c10] at H; have c10b0 : decide (t491 < 0) = true := decide_eq_true c10; clear c10
       have H' := aS H
       clear H
       try go_wp2
       replace BK489 := aS (blk_drew BK489.out); replace HB := aS (bdo HB.out); have p490 : 0 ≤ ((ji6) : Int) := oda; have q490 : (ji6) < (l0.length : Int) := oda; obtain ⟨ad490, e490, hx490_0, hx490_1, hx490_2, hx490_3, hx490_4⟩ := at_T42 HR0.out (ji6) p490 q490; have hw490_4 := hx490_4; have hw490_3 := hx490_3; have hw490_2 := hx490_2; have hw490_1 := hx490_1; have hw490_0 := hx490_0; cases e490; replace hx490_0 := bx bel hx490_0; replace hx490_1 := bx bel hx490_1; replace hx490_2 := bx bel hx490_2; replace hx490_3 := bx bel hx490_3; replace hx490_4 := bx bel hx490_4; replace p490 := eq_true p490; replace q490 := eq_true q490; refine start_ (n := 8) (S := fun w' => w'.cell? ⟨gb489, 0, none⟩ = some (.string a1_0) ∧ w'.cell? ⟨gb489, 1, none⟩ = some (.string a1_1) ∧ w'.cell? ⟨gb489, 2, none⟩ = some (.int .i64 a1_2) ∧ w'.cell? ⟨gb489, 3, none⟩ = some (.string a1_3) ∧ w'.cell? ⟨gb489, 4, none⟩ = some (.bool a1_4) ∧ w'.cell? (ad490.add (((ji6)).toNat * 5)) = some (.string ((rd_T42 l0 (ji6)).f0)) ∧ w'.cell? ⟨(ad490.add (((ji6)).toNat * 5)).block, (ad490.add (((ji6)).toNat * 5)).off + 1, none⟩ = some (.string ((rd_T42 l0 (ji6)).f1)) ∧ w'.cell? ⟨(ad490.add (((ji6)).toNat * 5)).block, (ad490.add (((ji6)).toNat * 5)).off + 2, none⟩ = some (.int .i64 ((rd_T42 l0 (ji6)).f2)) ∧ w'.cell? ⟨(ad490.add (((ji6)).toNat * 5)).block, (ad490.add (((ji6)).toNat * 5)).off + 3, none⟩ = some (.string ((rd_T42 l0 (ji6)).f3)) ∧ w'.cell? ⟨(ad490.add (((ji6)).toNat * 5)).block, (ad490.add (((ji6)).toNat * 5)).off + 4, none⟩ = some (.bool ((rd_T42 l0 (ji6)).f4))) (ds := []) (bA 8 0) (by kernel_rfl) rfl rfl ⟨bc BK489 0, bc BK489 1, bc BK489 2, bc BK489 3, bc BK489 4, (bx bel hw490_0), (bx bel hw490_1), (bx bel hw490_2), (bx bel hw490_3), (bx bel hw490_4)⟩ (fun hHeld => ?_); refine with_tabW api_Cell_65.tab5 api_Cell_65.bits5 (fun HT_ HW_ => ?_)
       generalize wr.drew = w11 at BK489 HB hx490_0 hx490_1 hx490_2 hx490_3 hx490_4 hHeld ⊢
       refine along_ [(0, 24), (1, 25), (2, 26), (3, 27), (4, 28), (5, 29)] ?_
       iterate 6 (first | (refine pure3 HT_ ?_) | (refine take3 HT_ HW_ hHeld ?_))
       refine lay_ (bA 8 63) (by kernel_rfl) ?_; refine one3 6 (N := some 30) (bA 8 127) HT_ (fun K hK => ?_); refine Kd.goesV_ Try.func46 (by kernel_rfl) rfl #[.agg #[.string ((rd_T42 l0 (ji6)).f0), .string ((rd_T42 l0 (ji6)).f1), .int .i64 ((rd_T42 l0 (ji6)).f2), .string ((rd_T42 l0 (ji6)).f3), .bool ((rd_T42 l0 (ji6)).f4)], .agg #[.string a1_0, .string a1_1, .int .i64 a1_2, .string a1_3, .bool a1_4]] (by rfl) rfl rfl rfl (by (try simp only [List.map_toArray, List.map_cons, List.map_nil]); first | done | (simp only [hji6]; rfl) | rfl | (simp only [lld, llt]; rfl)) ?_
       with_reducible refine (cell_Compare.calls k1 ((rd_T42 l0 (ji6)).f0) ((rd_T42 l0 (ji6)).f1) ((rd_T42 l0 (ji6)).f2) ((rd_T42 l0 (ji6)).f3) ((rd_T42 l0 (ji6)).f4) a1_0 a1_1 a1_2 a1_3 a1_4 t491 _ A9.out).mono ?_
       rintro e w12 ⟨rfl, hb⟩
       refine ⟨_, rfl, ?_⟩; replace BK489 := bbl BK489 hb; replace HB := bstep hb; (try clear hb); (try clear hk); (try clear hi); refine hK.out _ _ ⟨bc BK489 0, bc BK489 1, bc BK489 2, bc BK489 3, bc BK489 4, (bx bel hw490_0), (bx bel hw490_1), (bx bel hw490_2), (bx bel hw490_3), (bx bel hw490_4)⟩ (fun hHeld => ?_); clear hK K; refine nm 30 ?_; refine pure_ (i := 7) (N := some 31) (v := ?_) (a' := ?_) (bA 8 255) rfl rfl (any_of HT_.out (by kernel_rfl)) (fun _ _ _ h => h) (Or.inl ⟨by rfl, ?_⟩) ?_ ?_
       rotate_left
       ·
        intro w'
        go_simp
        with_reducible rfl
       rotate_left
       ·
        simp only [Act.put, lsa, lsz, lss, i64_w, i32_w]
        rfl
       refine done_ (done_of HT_.out (by kernel_rfl)) ?_
       try go_wp2
       go_roundg k1
       case measure => have := HK1.out; omega
       case rel => exact ⟨(wrap64 ((ji6) + 1)), (x10_1), (by first | rfl | (simp; done) | (simp only [← hji6] <;> (first | rfl | simp)) | (simp [*]; done)), srf, H', ⟨by have := HK1.out; omega⟩, ⟨bkl BK489.out⟩, ⟨bel⟩⟩
      ·
       rw [if_neg c10] at H; have c10b0 : decide (t491 < 0) = false := decide_eq_false c10; clear c10
       have H' := aS H
       clear H
       try go_wp2
       replace BK489 := aS (blk_drew BK489.out); replace HB := aS (bdo HB.out); have p490 : 0 ≤ ((ji6) : Int) := oda; have q490 : (ji6) < (l0.length : Int) := oda; obtain ⟨ad490, e490, hx490_0, hx490_1, hx490_2, hx490_3, hx490_4⟩ := at_T42 HR0.out (ji6) p490 q490; have hw490_4 := hx490_4; have hw490_3 := hx490_3; have hw490_2 := hx490_2; have hw490_1 := hx490_1; have hw490_0 := hx490_0; cases e490; replace hx490_0 := bx bel hx490_0; replace hx490_1 := bx bel hx490_1; replace hx490_2 := bx bel hx490_2; replace hx490_3 := bx bel hx490_3; replace hx490_4 := bx bel hx490_4; replace p490 := eq_true p490; replace q490 := eq_true q490; refine start_ (n := 8) (S := fun w' => w'.cell? ⟨gb489, 0, none⟩ = some (.string a1_0) ∧ w'.cell? ⟨gb489, 1, none⟩ = some (.string a1_1) ∧ w'.cell? ⟨gb489, 2, none⟩ = some (.int .i64 a1_2) ∧ w'.cell? ⟨gb489, 3, none⟩ = some (.string a1_3) ∧ w'.cell? ⟨gb489, 4, none⟩ = some (.bool a1_4) ∧ w'.cell? (ad490.add (((ji6)).toNat * 5)) = some (.string ((rd_T42 l0 (ji6)).f0)) ∧ w'.cell? ⟨(ad490.add (((ji6)).toNat * 5)).block, (ad490.add (((ji6)).toNat * 5)).off + 1, none⟩ = some (.string ((rd_T42 l0 (ji6)).f1)) ∧ w'.cell? ⟨(ad490.add (((ji6)).toNat * 5)).block, (ad490.add (((ji6)).toNat * 5)).off + 2, none⟩ = some (.int .i64 ((rd_T42 l0 (ji6)).f2)) ∧ w'.cell? ⟨(ad490.add (((ji6)).toNat * 5)).block, (ad490.add (((ji6)).toNat * 5)).off + 3, none⟩ = some (.string ((rd_T42 l0 (ji6)).f3)) ∧ w'.cell? ⟨(ad490.add (((ji6)).toNat * 5)).block, (ad490.add (((ji6)).toNat * 5)).off + 4, none⟩ = some (.bool ((rd_T42 l0 (ji6)).f4))) (ds := []) (bA 8 0) (by kernel_rfl) rfl rfl ⟨bc BK489 0, bc BK489 1, bc BK489 2, bc BK489 3, bc BK489 4, (bx bel hw490_0), (bx bel hw490_1), (bx bel hw490_2), (bx bel hw490_3), (bx bel hw490_4)⟩ (fun hHeld => ?_); refine with_tabW api_Cell_65.tab5 api_Cell_65.bits5 (fun HT_ HW_ => ?_)
       generalize wr.drew = w13 at BK489 HB hx490_0 hx490_1 hx490_2 hx490_3 hx490_4 hHeld ⊢
       refine along_ [(0, 24), (1, 25), (2, 26), (3, 27), (4, 28), (5, 29)] ?_
       iterate 6 (first | (refine pure3 HT_ ?_) | (refine take3 HT_ HW_ hHeld ?_))
       refine lay_ (bA 8 63) (by kernel_rfl) ?_; refine one3 6 (N := some 30) (bA 8 127) HT_ (fun K hK => ?_); refine Kd.goesV_ Try.func46 (by kernel_rfl) rfl #[.agg #[.string ((rd_T42 l0 (ji6)).f0), .string ((rd_T42 l0 (ji6)).f1), .int .i64 ((rd_T42 l0 (ji6)).f2), .string ((rd_T42 l0 (ji6)).f3), .bool ((rd_T42 l0 (ji6)).f4)], .agg #[.string a1_0, .string a1_1, .int .i64 a1_2, .string a1_3, .bool a1_4]] (by rfl) rfl rfl rfl (by (try simp only [List.map_toArray, List.map_cons, List.map_nil]); first | done | (simp only [hji6]; rfl) | rfl | (simp only [lld, llt]; rfl)) ?_
       with_reducible refine (cell_Compare.calls k1 ((rd_T42 l0 (ji6)).f0) ((rd_T42 l0 (ji6)).f1) ((rd_T42 l0 (ji6)).f2) ((rd_T42 l0 (ji6)).f3) ((rd_T42 l0 (ji6)).f4) a1_0 a1_1 a1_2 a1_3 a1_4 t491 _ A9.out).mono ?_
       rintro e w14 ⟨rfl, hb⟩
       refine ⟨_, rfl, ?_⟩; replace BK489 := bbl BK489 hb; replace HB := bstep hb; (try clear hb); (try clear hk); (try clear hi); refine hK.out _ _ ⟨bc BK489 0, bc BK489 1, bc BK489 2, bc BK489 3, bc BK489 4, (bx bel hw490_0), (bx bel hw490_1), (bx bel hw490_2), (bx bel hw490_3), (bx bel hw490_4)⟩ (fun hHeld => ?_); clear hK K; refine nm 30 ?_; refine pure_ (i := 7) (N := some 31) (v := ?_) (a' := ?_) (bA 8 255) rfl rfl (any_of HT_.out (by kernel_rfl)) (fun _ _ _ h => h) (Or.inl ⟨by rfl, ?_⟩) ?_ ?_
       rotate_left
       ·
        intro w'
        go_simp
        with_reducible rfl
       rotate_left
       ·
        simp only [Act.put, lsa, lsz, lss, i64_w, i32_w]
        rfl
       refine done_ (done_of HT_.out (by kernel_rfl)) ?_
       try go_wp2
       go_roundg k1
       case measure => have := HK1.out; omega
       case rel => exact ⟨(x9_1), (ji6), srf, (by first | rfl | (simp; done) | (simp only [← hji6] <;> (first | rfl | simp)) | (simp [*]; done)), H', ⟨by have := HK1.out; omega⟩, ⟨bkl BK489.out⟩, ⟨bel⟩⟩
     ·
      rw [if_neg c8] at H; exact absurd H (by simp)
    ·
     rw [if_neg c7] at H; exact absurd H (by simp)
   ·
    rw [if_neg c5] at H; have c5b0 : decide (x9_1 < x10_1) = false := decide_eq_false c5; clear c5
    by_cases c15 : x9_1 < (l0.length : Int)
    ·
     rw [if_pos c15] at H; have c15b0 : decide (x9_1 < (l0.length : Int)) = true := decide_eq_true c15; clear c15
     by_cases c16 : 0 ≤ x9_1
     ·
      rw [if_pos c16] at H; have c16b0 : decide (0 ≤ x9_1) = true := decide_eq_true c16; clear c16
      by_cases c17 : x9_1 < (l0.length : Int)
      ·
       rw [if_pos c17] at H; have c17b0 : decide (x9_1 < (l0.length : Int)) = true := decide_eq_true c17; clear c17; replace H := obm H; obtain ⟨t493, A180, H⟩ := H; have A18 := aS A180; clear A180
       simp only [Option.some.injEq, Prod.mk.injEq] at H
       obtain ⟨rfl, rfl⟩ := H
       try go_wp2
       replace BK489 := aS (blk_drew BK489.out); replace HB := aS (bdo HB.out); have p492 : 0 ≤ (x9_1 : Int) := oda; have q492 : x9_1 < (l0.length : Int) := oda; obtain ⟨ad492, e492, hx492_0, hx492_1, hx492_2, hx492_3, hx492_4⟩ := at_T42 HR0.out x9_1 p492 q492; have hw492_4 := hx492_4; have hw492_3 := hx492_3; have hw492_2 := hx492_2; have hw492_1 := hx492_1; have hw492_0 := hx492_0; cases e492; replace hx492_0 := bx bel hx492_0; replace hx492_1 := bx bel hx492_1; replace hx492_2 := bx bel hx492_2; replace hx492_3 := bx bel hx492_3; replace hx492_4 := bx bel hx492_4; replace p492 := eq_true p492; replace q492 := eq_true q492; refine start_ (n := 16) (S := fun w' => w'.cell? ⟨gb489, 0, none⟩ = some (.string a1_0) ∧ w'.cell? ⟨gb489, 1, none⟩ = some (.string a1_1) ∧ w'.cell? ⟨gb489, 2, none⟩ = some (.int .i64 a1_2) ∧ w'.cell? ⟨gb489, 3, none⟩ = some (.string a1_3) ∧ w'.cell? ⟨gb489, 4, none⟩ = some (.bool a1_4) ∧ w'.cell? (ad492.add ((x9_1).toNat * 5)) = some (.string ((rd_T42 l0 x9_1).f0)) ∧ w'.cell? ⟨(ad492.add ((x9_1).toNat * 5)).block, (ad492.add ((x9_1).toNat * 5)).off + 1, none⟩ = some (.string ((rd_T42 l0 x9_1).f1)) ∧ w'.cell? ⟨(ad492.add ((x9_1).toNat * 5)).block, (ad492.add ((x9_1).toNat * 5)).off + 2, none⟩ = some (.int .i64 ((rd_T42 l0 x9_1).f2)) ∧ w'.cell? ⟨(ad492.add ((x9_1).toNat * 5)).block, (ad492.add ((x9_1).toNat * 5)).off + 3, none⟩ = some (.string ((rd_T42 l0 x9_1).f3)) ∧ w'.cell? ⟨(ad492.add ((x9_1).toNat * 5)).block, (ad492.add ((x9_1).toNat * 5)).off + 4, none⟩ = some (.bool ((rd_T42 l0 x9_1).f4))) (ds := []) (bA 16 0) (by kernel_rfl) rfl rfl ⟨bc BK489 0, bc BK489 1, bc BK489 2, bc BK489 3, bc BK489 4, (bx bel hw492_0), (bx bel hw492_1), (bx bel hw492_2), (bx bel hw492_3), (bx bel hw492_4)⟩ (fun hHeld => ?_); refine with_tabW api_Cell_65.tab8 api_Cell_65.bits8 (fun HT_ HW_ => ?_)
       generalize wr.drew = w19 at BK489 HB hx492_0 hx492_1 hx492_2 hx492_3 hx492_4 hHeld ⊢
       refine along_ [(0, 35), (1, 36), (2, 37), (3, 38), (4, 39), (5, 40), (6, 41), (7, 42), (8, 43), (9, 44), (10, 45)] ?_
       iterate 11 (first | (refine pure3 HT_ ?_) | (refine take3 HT_ HW_ hHeld ?_))
       refine lay_ (bA 16 2047) (by kernel_rfl) ?_; refine one3 11 (N := some 46) (bA 16 4095) HT_ (fun K hK => ?_); refine Kd.goesV_ Try.func46 (by kernel_rfl) rfl #[.agg #[.string ((rd_T42 l0 x9_1).f0), .string ((rd_T42 l0 x9_1).f1), .int .i64 ((rd_T42 l0 x9_1).f2), .string ((rd_T42 l0 x9_1).f3), .bool ((rd_T42 l0 x9_1).f4)], .agg #[.string a1_0, .string a1_1, .int .i64 a1_2, .string a1_3, .bool a1_4]] (by rfl) rfl rfl rfl agn ?_
       with_reducible refine (cell_Compare.calls k1 ((rd_T42 l0 x9_1).f0) ((rd_T42 l0 x9_1).f1) ((rd_T42 l0 x9_1).f2) ((rd_T42 l0 x9_1).f3) ((rd_T42 l0 x9_1).f4) a1_0 a1_1 a1_2 a1_3 a1_4 t493 _ A18.out).mono ?_
       rintro e w20 ⟨rfl, hb⟩
       refine ⟨_, rfl, ?_⟩; replace BK489 := bbl BK489 hb; replace HB := bstep hb; (try clear hb); (try clear hk); (try clear hi); refine hK.out _ _ ⟨bc BK489 0, bc BK489 1, bc BK489 2, bc BK489 3, bc BK489 4, (bx bel hw492_0), (bx bel hw492_1), (bx bel hw492_2), (bx bel hw492_3), (bx bel hw492_4)⟩ (fun hHeld => ?_); clear hK K; refine nm 46 ?_; refine along_ [(12, 47), (13, 48), (14, 6), (15, 7)] ?_
       iterate 4 (refine pure3 HT_ ?_)
       refine lay_ (bA 16 65535) (by kernel_rfl) ?_; refine done_ (done_of HT_.out (by kernel_rfl)) ?_
       try go_wp2
       go_ret2
       exact ⟨rf3, bel⟩
      ·
       rw [if_neg c17] at H; exact absurd H (by simp)
     ·
      rw [if_neg c16] at H; exact absurd H (by simp)
    ·
     rw [if_neg c15] at H; have c15b0 : decide (x9_1 < (l0.length : Int)) = false := decide_eq_false c15; clear c15
     simp only [Option.some.injEq, Prod.mk.injEq] at H
     obtain ⟨rfl, rfl⟩ := H
     try go_wp2
     replace BK489 := aS (blk_drew BK489.out); replace HB := aS (bdo HB.out); refine start_ (n := 16) (S := fun w' => True) (ds := []) (bA 16 0) (by kernel_rfl) rfl rfl trivial (fun hHeld => ?_); refine with_tabW api_Cell_65.tab8 api_Cell_65.bits8 (fun HT_ HW_ => ?_)
     generalize wr.drew = w21 at BK489 HB hHeld ⊢
     refine along_ [(0, 35), (1, 36), (2, 37), (3, 38), (4, 39), (5, 40), (6, 41), (7, 42), (8, 43), (9, 44), (10, 45), (11, 46), (12, 47), (13, 48), (14, 6), (15, 7)] ?_
     iterate 16 (first | (refine skip3 HT_ ?_) | (refine pure3 HT_ ?_))
     refine lay_ (bA 16 65535) (by kernel_rfl) ?_; refine done_ (done_of HT_.out (by kernel_rfl)) ?_
     try go_wp2
     go_ret2
     exact ⟨rf3, bel⟩

end Go.Proofs.Ytinhpolmanccgaa.X
