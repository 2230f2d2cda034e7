-- written by a program of this session's, over the kit's print
import Derived.Test.YtfbkljpfopiegaaXx0
import Derived.Test.YtfbkljpfopiegaaXx1
import Derived.Test.YtfbkljpfopiegaaXx2
import Derived.Test.YtfbkljpfopiegaaXx3
namespace Go.Proofs.Ytfbkljpfopiegaa.X
open Go.RowKit Go.Proofs.YtfbkljpfopiegaaW.PrintWords Go.Proofs.YtfbkljpfopiegaaW.PrintLast Go.Proofs.YtfbkljpfopiegaaW.PrintMore
attribute [local go_sem] max2_int min2_int max_two min_two max_three min_three max_four min_four gtr_str   -- for this text's walks alone
set_option linter.unusedVariables false
set_option linter.unusedSimpArgs false

/-! ### shardloglaw06_awake: function 9 -/
def shardloglaw06_awake.f (k : Nat)  : Option (Bool) := (frame_Put.f k (([97, 98] : List Int))).bind fun t211 => ((some (([1, 2] : List Int) : List Int)).bind fun y214 => (if t211.length + y214.length < 140737488355328 then ((frame_Scan.f k (t211 ++ y214)).bind fun bt220 => ((frame_Put.f k ([] : List Int)).bind fun t224 => ((frame_Cut.f k t224).bind fun bt227 => ((frame_Put.f k ([] : List Int)).bind fun t234 => (if (t234.length : Int) = 12 then (if (bt220.1.length : Int) = 1 then (if 0 < (bt220.1.length : Int) then (if (strOfNums (rd_L1 bt220.1 0)).toList = ([97, 98] : List UInt8) then (if bt220.2 = 14 then (if bt227.2.2 = true then (if (bt227.1.length : Int) = 0 then (if (bt227.2.1.length : Int) = 0 then ((frame_All.f k (([(([1] : List Int)), (([2] : List Int))] : List (List Int)))).bind fun t247 => (some ((t247.length : Int) == 26))) else (none)) else (none)) else (none)) else (none)) else (none)) else (none)) else (none)) else (none)))))) else (none)))
theorem shardloglaw06_awake.mono : ∀ k, LeO (shardloglaw06_awake.f k ) (shardloglaw06_awake.f (k + 1) ) := by
 intro  k
 unfold shardloglaw06_awake.f
 repeat' first
   | (with_reducible exact frame_All.mono _ _)
   | (with_reducible exact frame_Cut.mono _ _)
   | (with_reducible exact frame_Put.mono _ _)
   | (with_reducible exact frame_Scan.mono _ _)
   | (with_reducible exact LeO.refl _)
   | (with_reducible exact LeO.none _)
   | (with_reducible refine LeO.ite ?_ ?_)
   | (with_reducible refine LeO.bind ?_ (fun _ => ?_))
   | exact frame_All.mono _ _
   | exact frame_Cut.mono _ _
   | exact frame_Put.mono _ _
   | exact frame_Scan.mono _ _
   | exact LeO.none _
   | refine LeO.ite ?_ ?_
   | refine LeO.bind ?_ (fun _ => ?_)
set_option maxHeartbeats 8000000 in
set_option maxRecDepth 100000 in
theorem shardloglaw06_awake.calls (k : Nat)  (r : Bool) (w : World) (h : shardloglaw06_awake.f k  = some r) :
  Calls Try.prog 9 #[] w fun e w' => e = .returned (.bool r) ∧ Below w.heap.size w w' := by
 have HB := aS (Below.refl w.heap.size w)
 have H : ((frame_Put.f k (([97, 98] : List Int))).bind fun t211 => ((some (([1, 2] : List Int) : List Int)).bind fun y214 => (if t211.length + y214.length < 140737488355328 then ((frame_Scan.f k (t211 ++ y214)).bind fun bt220 => ((frame_Put.f k ([] : List Int)).bind fun t224 => ((frame_Cut.f k t224).bind fun bt227 => ((frame_Put.f k ([] : List Int)).bind fun t234 => (if (t234.length : Int) = 12 then (if (bt220.1.length : Int) = 1 then (if 0 < (bt220.1.length : Int) then (if (strOfNums (rd_L1 bt220.1 0)).toList = ([97, 98] : List UInt8) then (if bt220.2 = 14 then (if bt227.2.2 = true then (if (bt227.1.length : Int) = 0 then (if (bt227.2.1.length : Int) = 0 then ((frame_All.f k (([(([1] : List Int)), (([2] : List Int))] : List (List Int)))).bind fun t247 => (some ((t247.length : Int) == 26))) else (none)) else (none)) else (none)) else (none)) else (none)) else (none)) else (none)) else (none)))))) else (none)))) = some r := h
 clear h
 obtain ⟨y208, hy208⟩ : ∃ y_ : List Int, y_ = (([97, 98] : List Int)) := ⟨_, rfl⟩
 replace H : ((frame_Put.f k y208).bind fun t211 => ((some (([1, 2] : List Int) : List Int)).bind fun y214 => (if t211.length + y214.length < 140737488355328 then ((frame_Scan.f k (t211 ++ y214)).bind fun bt220 => ((frame_Put.f k ([] : List Int)).bind fun t224 => ((frame_Cut.f k t224).bind fun bt227 => ((frame_Put.f k ([] : List Int)).bind fun t234 => (if (t234.length : Int) = 12 then (if (bt220.1.length : Int) = 1 then (if 0 < (bt220.1.length : Int) then (if (strOfNums (rd_L1 bt220.1 0)).toList = ([97, 98] : List UInt8) then (if bt220.2 = 14 then (if bt227.2.2 = true then (if (bt227.1.length : Int) = 0 then (if (bt227.2.1.length : Int) = 0 then ((frame_All.f k (([(([1] : List Int)), (([2] : List Int))] : List (List Int)))).bind fun t247 => (some ((t247.length : Int) == 26))) else (none)) else (none)) else (none)) else (none)) else (none)) else (none)) else (none)) else (none)))))) else (none)))) = some r := by first | (rw [hy208]; with_reducible exact H) | (have H2_ := (Option.bind_some _ _).symm.trans H; rw [hy208]; with_reducible exact H2_) | (have H2_ := (Option.bind_some _ _).symm.trans H; with_reducible exact H2_) | with_reducible exact H | (rw [hy208]; exact H) | exact H
 have Ny208 := aS hy208
 clear hy208
 replace H := obm H
 obtain ⟨t211, A10, H⟩ := H
 replace H : ((some (([1, 2] : List Int) : List Int)).bind fun y214 => (if t211.length + y214.length < 140737488355328 then ((frame_Scan.f k (t211 ++ y214)).bind fun bt220 => ((frame_Put.f k ([] : List Int)).bind fun t224 => ((frame_Cut.f k t224).bind fun bt227 => ((frame_Put.f k ([] : List Int)).bind fun t234 => (if (t234.length : Int) = 12 then (if (bt220.1.length : Int) = 1 then (if 0 < (bt220.1.length : Int) then (if (strOfNums (rd_L1 bt220.1 0)).toList = ([97, 98] : List UInt8) then (if bt220.2 = 14 then (if bt227.2.2 = true then (if (bt227.1.length : Int) = 0 then (if (bt227.2.1.length : Int) = 0 then ((frame_All.f k (([(([1] : List Int)), (([2] : List Int))] : List (List Int)))).bind fun t247 => (some ((t247.length : Int) == 26))) else (none)) else (none)) else (none)) else (none)) else (none)) else (none)) else (none)) else (none)))))) else (none))) = some r := H
 have A1 := aS A10
 clear A10
 obtain ⟨y214, hy214⟩ : ∃ y_ : List Int, y_ = (([1, 2] : List Int)) := ⟨_, rfl⟩
 replace H : (if t211.length + y214.length < 140737488355328 then ((frame_Scan.f k (t211 ++ y214)).bind fun bt220 => ((frame_Put.f k ([] : List Int)).bind fun t224 => ((frame_Cut.f k t224).bind fun bt227 => ((frame_Put.f k ([] : List Int)).bind fun t234 => (if (t234.length : Int) = 12 then (if (bt220.1.length : Int) = 1 then (if 0 < (bt220.1.length : Int) then (if (strOfNums (rd_L1 bt220.1 0)).toList = ([97, 98] : List UInt8) then (if bt220.2 = 14 then (if bt227.2.2 = true then (if (bt227.1.length : Int) = 0 then (if (bt227.2.1.length : Int) = 0 then ((frame_All.f k (([(([1] : List Int)), (([2] : List Int))] : List (List Int)))).bind fun t247 => (some ((t247.length : Int) == 26))) else (none)) else (none)) else (none)) else (none)) else (none)) else (none)) else (none)) else (none)))))) else (none)) = some r := by first | (rw [hy214]; with_reducible exact H) | (have H2_ := (Option.bind_some _ _).symm.trans H; rw [hy214]; with_reducible exact H2_) | (have H2_ := (Option.bind_some _ _).symm.trans H; with_reducible exact H2_) | with_reducible exact H | (rw [hy214]; exact H) | exact H
 have Ny214 := aS hy214
 clear hy214
 by_cases c2 : t211.length + y214.length < 140737488355328
 ·
  rw [if_pos c2] at H
  have LMc2 := aS c2
  clear c2
  obtain ⟨y217, hy217⟩ : ∃ y_ : List Int, y_ = (t211 ++ y214) := ⟨_, rfl⟩
  replace H : ((frame_Scan.f k y217).bind fun bt220 => ((frame_Put.f k ([] : List Int)).bind fun t224 => ((frame_Cut.f k t224).bind fun bt227 => ((frame_Put.f k ([] : List Int)).bind fun t234 => (if (t234.length : Int) = 12 then (if (bt220.1.length : Int) = 1 then (if 0 < (bt220.1.length : Int) then (if (strOfNums (rd_L1 bt220.1 0)).toList = ([97, 98] : List UInt8) then (if bt220.2 = 14 then (if bt227.2.2 = true then (if (bt227.1.length : Int) = 0 then (if (bt227.2.1.length : Int) = 0 then ((frame_All.f k (([(([1] : List Int)), (([2] : List Int))] : List (List Int)))).bind fun t247 => (some ((t247.length : Int) == 26))) else (none)) else (none)) else (none)) else (none)) else (none)) else (none)) else (none)) else (none)))))) = some r := by first | (rw [hy217]; with_reducible exact H) | (have H2_ := (Option.bind_some _ _).symm.trans H; rw [hy217]; with_reducible exact H2_) | (have H2_ := (Option.bind_some _ _).symm.trans H; with_reducible exact H2_) | with_reducible exact H | (rw [hy217]; exact H) | exact H
  have Ny217 := aS hy217
  clear hy217
  replace H := obm H
  obtain ⟨⟨t220, t223⟩, A30, H⟩ := H
  replace H : ((frame_Put.f k ([] : List Int)).bind fun t224 => ((frame_Cut.f k t224).bind fun bt227 => ((frame_Put.f k ([] : List Int)).bind fun t234 => (if (t234.length : Int) = 12 then (if (t220.length : Int) = 1 then (if 0 < (t220.length : Int) then (if (strOfNums (rd_L1 t220 0)).toList = ([97, 98] : List UInt8) then (if t223 = 14 then (if bt227.2.2 = true then (if (bt227.1.length : Int) = 0 then (if (bt227.2.1.length : Int) = 0 then ((frame_All.f k (([(([1] : List Int)), (([2] : List Int))] : List (List Int)))).bind fun t247 => (some ((t247.length : Int) == 26))) else (none)) else (none)) else (none)) else (none)) else (none)) else (none)) else (none)) else (none))))) = some r := H
  have A3 := aS A30
  clear A30
  replace H := obm H
  obtain ⟨t224, A40, H⟩ := H
  replace H : ((frame_Cut.f k t224).bind fun bt227 => ((frame_Put.f k ([] : List Int)).bind fun t234 => (if (t234.length : Int) = 12 then (if (t220.length : Int) = 1 then (if 0 < (t220.length : Int) then (if (strOfNums (rd_L1 t220 0)).toList = ([97, 98] : List UInt8) then (if t223 = 14 then (if bt227.2.2 = true then (if (bt227.1.length : Int) = 0 then (if (bt227.2.1.length : Int) = 0 then ((frame_All.f k (([(([1] : List Int)), (([2] : List Int))] : List (List Int)))).bind fun t247 => (some ((t247.length : Int) == 26))) else (none)) else (none)) else (none)) else (none)) else (none)) else (none)) else (none)) else (none)))) = some r := H
  have A4 := aS A40
  clear A40
  replace H := obm H
  obtain ⟨⟨t227, t230, t233⟩, A50, H⟩ := H
  replace H : ((frame_Put.f k ([] : List Int)).bind fun t234 => (if (t234.length : Int) = 12 then (if (t220.length : Int) = 1 then (if 0 < (t220.length : Int) then (if (strOfNums (rd_L1 t220 0)).toList = ([97, 98] : List UInt8) then (if t223 = 14 then (if t233 = true then (if (t227.length : Int) = 0 then (if (t230.length : Int) = 0 then ((frame_All.f k (([(([1] : List Int)), (([2] : List Int))] : List (List Int)))).bind fun t247 => (some ((t247.length : Int) == 26))) else (none)) else (none)) else (none)) else (none)) else (none)) else (none)) else (none)) else (none))) = some r := H
  have A5 := aS A50
  clear A50
  replace H := obm H
  obtain ⟨t234, A60, H⟩ := H
  replace H : (if (t234.length : Int) = 12 then (if (t220.length : Int) = 1 then (if 0 < (t220.length : Int) then (if (strOfNums (rd_L1 t220 0)).toList = ([97, 98] : List UInt8) then (if t223 = 14 then (if t233 = true then (if (t227.length : Int) = 0 then (if (t230.length : Int) = 0 then ((frame_All.f k (([(([1] : List Int)), (([2] : List Int))] : List (List Int)))).bind fun t247 => (some ((t247.length : Int) == 26))) else (none)) else (none)) else (none)) else (none)) else (none)) else (none)) else (none)) else (none)) = some r := H
  have A6 := aS A60
  clear A60
  by_cases c7 : (t234.length : Int) = 12
  ·
   rw [if_pos c7] at H
   have c7b0 : ((t234.length : Int) == 12) = true := beq_iff_eq.mpr c7
   have c7b1 : ((t234.length : Int) != 12) = false := bne_eq_false_iff_eq.mpr c7
   clear c7
   by_cases c8 : (t220.length : Int) = 1
   ·
    rw [if_pos c8] at H
    have c8b0 : ((t220.length : Int) == 1) = true := beq_iff_eq.mpr c8
    have c8b1 : ((t220.length : Int) != 1) = false := bne_eq_false_iff_eq.mpr c8
    clear c8
    by_cases c9 : 0 < (t220.length : Int)
    ·
     rw [if_pos c9] at H
     have c9b0 : decide (0 < (t220.length : Int)) = true := decide_eq_true c9
     have c9b1 : decide (0 < t220.length) = true := decide_eq_true (by omega)
     clear c9
     by_cases c10 : (strOfNums (rd_L1 t220 0)).toList = ([97, 98] : List UInt8)
     ·
      rw [if_pos c10] at H
      have c10b0 : ((strOfNums (rd_L1 t220 0)).toList == ([97, 98] : List UInt8)) = true := beq_iff_eq.mpr c10
      have c10b1 : ((strOfNums (rd_L1 t220 0)).toList != ([97, 98] : List UInt8)) = false := bne_eq_false_iff_eq.mpr c10
      clear c10
      by_cases c11 : t223 = 14
      ·
       rw [if_pos c11] at H
       have c11b0 : (t223 == 14) = true := beq_iff_eq.mpr c11
       have c11b1 : (t223 != 14) = false := bne_eq_false_iff_eq.mpr c11
       clear c11
       by_cases c12 : t233 = true
       ·
        subst c12
        have H1 : (if (t227.length : Int) = 0 then (if (t230.length : Int) = 0 then ((frame_All.f k (([(([1] : List Int)), (([2] : List Int))] : List (List Int)))).bind fun t247 => (some ((t247.length : Int) == 26))) else (none)) else (none)) = some r := by rw [if_pos rfl] at H; exact H
        clear H; have H := H1; clear H1
        by_cases c13 : (t227.length : Int) = 0
        ·
         rw [if_pos c13] at H
         have c13b0 : ((t227.length : Int) == 0) = true := beq_iff_eq.mpr c13
         have c13b1 : ((t227.length : Int) != 0) = false := bne_eq_false_iff_eq.mpr c13
         clear c13
         by_cases c14 : (t230.length : Int) = 0
         ·
          rw [if_pos c14] at H
          have c14b0 : ((t230.length : Int) == 0) = true := beq_iff_eq.mpr c14
          have c14b1 : ((t230.length : Int) != 0) = false := bne_eq_false_iff_eq.mpr c14
          clear c14
          obtain ⟨y238, hy238⟩ : ∃ y_ : List Int, y_ = (([1] : List Int)) := ⟨_, rfl⟩
          replace H : ((frame_All.f k (([y238, (([2] : List Int))] : List (List Int)))).bind fun t247 => (some ((t247.length : Int) == 26))) = some r := by first | (rw [hy238]; with_reducible exact H) | (have H2_ := (Option.bind_some _ _).symm.trans H; rw [hy238]; with_reducible exact H2_) | (have H2_ := (Option.bind_some _ _).symm.trans H; with_reducible exact H2_) | with_reducible exact H | (rw [hy238]; exact H) | exact H
          have Ny238 := aS hy238
          clear hy238
          obtain ⟨y241, hy241⟩ : ∃ y_ : List Int, y_ = (([2] : List Int)) := ⟨_, rfl⟩
          replace H : ((frame_All.f k (([y238, y241] : List (List Int)))).bind fun t247 => (some ((t247.length : Int) == 26))) = some r := by first | (rw [hy241]; with_reducible exact H) | (have H2_ := (Option.bind_some _ _).symm.trans H; rw [hy241]; with_reducible exact H2_) | (have H2_ := (Option.bind_some _ _).symm.trans H; with_reducible exact H2_) | with_reducible exact H | (rw [hy241]; exact H) | exact H
          have Ny241 := aS hy241
          clear hy241
          obtain ⟨y244, hy244⟩ : ∃ y_ : List (List Int), y_ = (([y238, y241] : List (List Int))) := ⟨_, rfl⟩
          replace H : ((frame_All.f k y244).bind fun t247 => (some ((t247.length : Int) == 26))) = some r := by first | (rw [hy244]; with_reducible exact H) | (have H2_ := (Option.bind_some _ _).symm.trans H; rw [hy244]; with_reducible exact H2_) | (have H2_ := (Option.bind_some _ _).symm.trans H; with_reducible exact H2_) | with_reducible exact H | (rw [hy244]; exact H) | exact H
          have Ny244 := aS hy244
          clear hy244
          replace H := obm H
          obtain ⟨t247, A150, H⟩ := H
          replace H : (some ((t247.length : Int) == 26)) = some r := H
          have A15 := aS A150
          clear A150
          obtain rfl := Option.some.inj H
          go_enter Try.func9, Try.ntmps9
          go_wp2_with (first | ((with_reducible refine gate_dst (N := 7) rfl ?_); (try (refine gate_guard (by rfl) ?_; dsimp only)); refine Kd.V_const rfl (N := 7) rfl rfl 25 5 (xs := ([97, 98] : List Int)) ?hr rfl (fun _ => rfl) Try.underlying25 Try.underlying5 (by simp) ?_; (case hr => first | (go_simp; done) | (go_simp; rfl)); intro v209 w16 ho17 hb; rw [← Ny208.out] at ho17; have n0_ := aS (Kd.V_lower (Kd.V_mono (ok' := fun k_ => True) ho17 (fun k_ hk_ => trivial)) (below_size (by repeat (first | (with_reducible first | exact HB.out | apply bal | apply bdN | apply bdo) | exact HB.out)))); have n1_ := aS (below_step (by repeat (first | (with_reducible first | exact HB.out | apply bal | apply bdN | apply bdo) | exact HB.out)) hb); clear HB; have HO210 := n0_; have HB := n1_; clear n0_ n1_; clear hb ho17; obtain ⟨Ao18, co18, eo18⟩ := Kd.V_slice HO210.out; subst eo18) | ((with_reducible refine gate_callee (f := 12) rfl ?_); refine goesL_ (some 9) rfl rfl Try.func12 (by kernel_rfl) rfl #[.slice Ao18 y208.length co18] rfl (by (try simp only [List.map_toArray, List.map_cons, List.map_nil]); first | done | rfl | (simp only [lld, llt]; rfl)) ?_; (with_reducible refine (frame_Put.calls k (fun k_ => True) _ _ y208 t211 _ ?side1 A1.out).mono ?_); (case side1 => exact HO210.out); rintro e w19 ⟨v212, rfl, ho0, hb⟩; refine ⟨_, rfl, ?_⟩; have n0_ := aS (Kd.V_elder' (by (with_reducible repeat (first | apply Kd.V_alloc | apply Kd.V_drewN | apply Kd.V_drew)); exact HO210.out) (by first | exact Kd.R_base ho0 | exact Kd.S_base ho0 | exact Kd.R_base ho0 | exact Kd.V_base ho0) hb); have n1_ := aS (Kd.R_lower (Kd.R_mono (ok' := fun k_ => True) ho0 (fun _ hk_ => trivial)) (below_size (by repeat (first | (with_reducible first | exact HB.out | apply bal | apply bdN | apply bdo) | exact HB.out)))); have n2_ := aS (below_step (by repeat (first | (with_reducible first | exact HB.out | apply bal | apply bdN | apply bdo) | exact HB.out)) hb); clear HO210; clear HB; have HO210 := n0_; have HO213 := n1_; have HB := n2_; clear n0_ n1_ n2_; (try clear hb); (try clear hb2); (try clear hk); (try clear hi); (try clear ho0)) | ((with_reducible refine gate_dst (N := 10) rfl ?_); (try (refine gate_guard (by rfl) ?_; dsimp only)); refine Kd.R_lit (Kd.int .u8) _ 5 ?hg (N := 10) ?hd (xs := ([1, 2] : List Int)) (inner := [.int .u8 1, .int .u8 2]) (ok := fun _ => True) (okp := fun _ => True) ?hr ?hp (fun _ hk => hk) trivial (Below.refl _ _) (Nat.le_refl _) (by simp) ?_; (case hd => rfl); (case hg => rfl); (case hr => first | (go_simp; done) | (go_simp; rfl)); (case hp => exact (Reps.one (show Kd.M (Kd.int .u8) _ _ _ 1 [.int .u8 1] from rfl) (Reps.one (show Kd.M (Kd.int .u8) _ _ _ 2 [.int .u8 2] from rfl) (Reps.none _ _)))); intro v215 w20 ho21 hb hg_ hnew_; clear hg_ hnew_; (first | rw [← Ny214.out] at ho21 | (simp only [Int.reduceToNat] at ho21; rw [← Ny214.out] at ho21)); have n0_ := aS (Kd.V_elder' (by (with_reducible repeat (first | apply Kd.V_alloc | apply Kd.V_drewN | apply Kd.V_drew)); exact HO210.out) (by first | exact Kd.R_base ho21 | exact Kd.S_base ho21 | exact Kd.R_base ho21 | exact Kd.V_base ho21) hb); have n1_ := aS (Kd.R_elder' (by (with_reducible repeat (first | apply Kd.R_alloc | apply Kd.R_drewN | apply Kd.R_drew)); exact HO213.out) (by first | exact Kd.R_base ho21 | exact Kd.S_base ho21 | exact Kd.R_base ho21 | exact Kd.V_base ho21) hb); have n2_ := aS (Kd.R_lower (Kd.R_new' ho21 (Kd.R_lt (by (with_reducible repeat (first | apply Kd.R_alloc | apply Kd.R_drewN | apply Kd.R_drew)); exact HO213.out))) (below_size (by repeat (first | (with_reducible first | exact HB.out | apply bal | apply bdN | apply bdo) | exact HB.out)))); have n3_ := aS (below_step (by repeat (first | (with_reducible first | exact HB.out | apply bal | apply bdN | apply bdo) | exact HB.out)) hb); clear HO210; clear HO213; clear HB; have HO210 := n0_; have HO213 := n1_; have HO216 := n2_; have HB := n3_; clear n0_ n1_ n2_ n3_; clear hb ho21; obtain ⟨Ao23, co23, eo23⟩ := Kd.R_slice HO216.out; subst eo23) | ((with_reducible refine gate_builtin (b := .append) (xs := #[.tmp 9, .tmp 10]) rfl ?_); (try (refine gate_guard (by rfl) ?_; dsimp only)); at_builtin; refine Kd.R_append_rows (Kd.int .u8) (w0 := w) w.heap.size rfl (.tmp 9) (.tmp 10) 25 5 (.int .u8 0) 1 rfl Try.underlying25 info5 rfl (by decide) (by omega) v212 t211 y214 _ _ _ (fun k_ => some k_ ≠ (.slice Ao23 y214.length co23 : Value).ownBlock) (fun _ => False) rfl rfl ?aO ?aR (fun _ _ h => h) (fun _ h => h.elim) ?aF ?aB ?aS ?aL ?_; (case aR => repeat (first | exact (Kd.R_reads' HO216.out).2.2 | (with_reducible refine Kd.C_alloc ?_ _) | (with_reducible refine Kd.C_drewN ?_ _) | (with_reducible refine Kd.C_drew ?_))); (case aB => exact (by repeat (first | (with_reducible first | exact HB.out | apply bal | apply bdN | apply bdo) | exact HB.out))); (case aF => exact (fun k_ hk => Kd.fresh' (Kd.R_lt (by (with_reducible repeat (first | apply Kd.R_alloc | apply Kd.R_drewN | apply Kd.R_drew)); exact HO216.out)) k_ hk)); (case aO => exact (by (with_reducible repeat (first | apply Kd.R_alloc | apply Kd.R_drewN | apply Kd.R_drew)); exact Kd.R_mono HO213.out (fun _ hk => hk.2))); (case aS => exact (below_size (by repeat (first | (with_reducible first | exact HB.out | apply bal | apply bdN | apply bdo) | exact HB.out)))); (case aL => have := LMc2.out; omega); intro v218 w22 ho hb hg hat; rw [← Ny217.out] at ho; have n0_ := aS (Kd.V_afterv (ok := (fun k_ => some k_ ≠ (.slice Ao23 y214.length co23 : Value).ownBlock)) (by (with_reducible repeat (first | apply Kd.V_alloc | apply Kd.V_drewN | apply Kd.V_drew)); exact Kd.V_mono HO210.out (fun _ hk => ⟨hk.2, hk.1.2⟩)) hg hat); have n1_ := aS (Kd.R_after (ok := (fun _ => True)) (by (with_reducible repeat (first | apply Kd.R_alloc | apply Kd.R_drewN | apply Kd.R_drew)); exact HO216.out) hg hat); have n2_ := aS (hb); have n3_ := aS (ho); clear HO210; clear HO216; clear HB; clear HO213; have HO210 := n0_; have HO216 := n1_; have HB := n2_; have HO219 := n3_; clear n0_ n1_ n2_ n3_; clear ho hb hg hat; obtain ⟨Ao24, co24, eo24⟩ := Kd.R_slice HO219.out; subst eo24) | ((with_reducible refine gate_callee (f := 15) rfl ?_); refine goesL_ (some 12) rfl rfl Try.func15 (by kernel_rfl) rfl #[.slice Ao24 y217.length co24] rfl (by (try simp only [List.map_toArray, List.map_cons, List.map_nil]); first | done | rfl | (simp only [lld, llt]; rfl)) ?_; (with_reducible refine (frame_Scan.calls k (fun k_ => some k_ = (.slice Ao24 y217.length co24 : Value).ownBlock) _ _ y217 t220 t223 _ ?side1 A3.out).mono ?_); (case side1 => exact Kd.R_V (Kd.R_tight rfl (HO219.out))); rintro e w25 ⟨v221, rfl, ho0, hb⟩; refine ⟨_, rfl, ?_⟩; have n0_ := aS (Kd.V_elder' (by (with_reducible repeat (first | apply Kd.V_alloc | apply Kd.V_drewN | apply Kd.V_drew)); exact HO210.out) (by first | exact Kd.N_base ho0 | exact Kd.S_base ho0 | exact Kd.R_base ho0 | exact Kd.V_base ho0) hb); have n1_ := aS (Kd.R_below (by (with_reducible repeat (first | apply Kd.R_alloc | apply Kd.R_drewN | apply Kd.R_drew)); exact HO216.out) hb); have n2_ := aS (Kd.R_below (by (with_reducible repeat (first | apply Kd.R_alloc | apply Kd.R_drewN | apply Kd.R_drew)); exact HO219.out) hb); have n3_ := aS (Kd.N_lower (Kd.N_mono (ok' := fun k_ => some k_ ≠ (.slice Ao23 y214.length co23 : Value).ownBlock) ho0 (fun k_ hk_ => Or.elim hk_ (fun hs_ => ((HO219.out).1 k_ hs_.symm)) (fun hn_ => (Kd.fresh' (Kd.R_lt (by (with_reducible repeat (first | apply Kd.R_alloc | apply Kd.R_drewN | apply Kd.R_drew)); exact HO216.out)) k_ hn_)))) (below_size (by repeat (first | (with_reducible first | exact HB.out | apply bal | apply bdN | apply bdo) | exact HB.out)))); have n4_ := aS (below_step (by repeat (first | (with_reducible first | exact HB.out | apply bal | apply bdN | apply bdo) | exact HB.out)) hb); clear HO210; clear HO216; clear HO219; clear HB; have HO210 := n0_; have HO216 := n1_; have HO219 := n2_; have HO222 := n3_; have HB := n4_; clear n0_ n1_ n2_ n3_ n4_; (try clear hb); (try clear hb2); (try clear hk); (try clear hi); (try clear ho0)) | ((with_reducible refine gate_callee (f := 12) rfl ?_); refine goesL_ (some 16) rfl rfl Try.func12 (by kernel_rfl) rfl #[.slice none 0 0] rfl (by (try simp only [List.map_toArray, List.map_cons, List.map_nil]); first | done | rfl | (simp only [lld, llt]; rfl)) ?_; (refine (frame_Put.calls k (fun k_ => False) _ _ ([] : List Int) t224 _ ?side1 A4.out).mono ?_); (case side1 => exact Kd.V_nil _ _ _ _ _); rintro e w26 ⟨v225, rfl, ho0, hb⟩; refine ⟨_, rfl, ?_⟩; have n0_ := aS (Kd.V_elder' (by (with_reducible repeat (first | apply Kd.V_alloc | apply Kd.V_drewN | apply Kd.V_drew)); exact HO210.out) (by first | exact Kd.R_base ho0 | exact Kd.S_base ho0 | exact Kd.R_base ho0 | exact Kd.V_base ho0) hb); have n1_ := aS (Kd.R_elder' (by (with_reducible repeat (first | apply Kd.R_alloc | apply Kd.R_drewN | apply Kd.R_drew)); exact HO216.out) (by first | exact Kd.R_base ho0 | exact Kd.S_base ho0 | exact Kd.R_base ho0 | exact Kd.V_base ho0) hb); have n2_ := aS (Kd.R_elder' (by (with_reducible repeat (first | apply Kd.R_alloc | apply Kd.R_drewN | apply Kd.R_drew)); exact HO219.out) (by first | exact Kd.R_base ho0 | exact Kd.S_base ho0 | exact Kd.R_base ho0 | exact Kd.V_base ho0) hb); have n3_ := aS (Kd.N_elder' (by (with_reducible repeat (first | apply Kd.N_alloc | apply Kd.N_drewN | apply Kd.N_drew)); exact HO222.out) (by first | exact Kd.R_base ho0 | exact Kd.S_base ho0 | exact Kd.R_base ho0 | exact Kd.V_base ho0) hb); have n4_ := aS (Kd.R_lower (Kd.R_new' (Kd.R_new' (Kd.R_mono (ok' := fun k_ => True) ho0 (fun _ hk_ => trivial)) (Kd.R_lt (by (with_reducible repeat (first | apply Kd.R_alloc | apply Kd.R_drewN | apply Kd.R_drew)); exact HO216.out))) (Kd.R_lt (by (with_reducible repeat (first | apply Kd.R_alloc | apply Kd.R_drewN | apply Kd.R_drew)); exact HO219.out))) (below_size (by repeat (first | (with_reducible first | exact HB.out | apply bal | apply bdN | apply bdo) | exact HB.out)))); have n5_ := aS (below_step (by repeat (first | (with_reducible first | exact HB.out | apply bal | apply bdN | apply bdo) | exact HB.out)) hb); clear HO210; clear HO216; clear HO219; clear HO222; clear HB; have HO210 := n0_; have HO216 := n1_; have HO219 := n2_; have HO222 := n3_; have HO226 := n4_; have HB := n5_; clear n0_ n1_ n2_ n3_ n4_ n5_; (try clear hb); (try clear hb2); (try clear hk); (try clear hi); (try clear ho0); obtain ⟨Ao27, co27, eo27⟩ := Kd.R_slice HO226.out; subst eo27) | ((with_reducible refine gate_callee (f := 17) rfl ?_); refine goesL_ (some 17) rfl rfl Try.func17 (by kernel_rfl) rfl #[.slice Ao27 t224.length co27] rfl (by (try simp only [List.map_toArray, List.map_cons, List.map_nil]); first | done | rfl | (simp only [lld, llt]; rfl)) ?_; (with_reducible refine (frame_Cut.calls k (fun k_ => some k_ = (.slice Ao27 t224.length co27 : Value).ownBlock) _ _ t224 t227 t230 true _ ?side1 A5.out).mono ?_); (case side1 => exact Kd.R_V (Kd.R_tight rfl (Kd.R_apart' (HO226.out) (Kd.N_typed HO222.out) (by decide)))); rintro e w28 ⟨v228, v231, rfl, ho0, ho1, hb⟩; refine ⟨_, rfl, ?_⟩; have n0_ := aS (Kd.V_below (by (with_reducible repeat (first | apply Kd.V_alloc | apply Kd.V_drewN | apply Kd.V_drew)); exact HO210.out) hb); have n1_ := aS (Kd.R_below (by (with_reducible repeat (first | apply Kd.R_alloc | apply Kd.R_drewN | apply Kd.R_drew)); exact HO216.out) hb); have n2_ := aS (Kd.R_below (by (with_reducible repeat (first | apply Kd.R_alloc | apply Kd.R_drewN | apply Kd.R_drew)); exact HO219.out) hb); have n3_ := aS (Kd.N_below (by (with_reducible repeat (first | apply Kd.N_alloc | apply Kd.N_drewN | apply Kd.N_drew)); exact HO222.out) hb); have n4_ := aS (Kd.R_below (by (with_reducible repeat (first | apply Kd.R_alloc | apply Kd.R_drewN | apply Kd.R_drew)); exact HO226.out) hb); have n5_ := aS (Kd.V_lower (Kd.V_mono (ok' := fun k_ => some k_ ≠ (.slice Ao23 y214.length co23 : Value).ownBlock ∧ some k_ ≠ (.slice Ao24 y217.length co24 : Value).ownBlock ∧ some k_ ≠ (v221 : Value).ownBlock) ho0 (fun k_ hk_ => ⟨Or.elim hk_ (fun hs_ => ((Kd.R_apart' (HO226.out) (Kd.N_typed HO222.out) (by decide)).1 k_ hs_.symm).1.1.2) (fun hn_ => (Kd.fresh' (Kd.R_lt (by (with_reducible repeat (first | apply Kd.R_alloc | apply Kd.R_drewN | apply Kd.R_drew)); exact HO216.out)) k_ hn_)), Or.elim hk_ (fun hs_ => ((Kd.R_apart' (HO226.out) (Kd.N_typed HO222.out) (by decide)).1 k_ hs_.symm).1.2) (fun hn_ => (Kd.fresh' (Kd.R_lt (by (with_reducible repeat (first | apply Kd.R_alloc | apply Kd.R_drewN | apply Kd.R_drew)); exact HO219.out)) k_ hn_)), Or.elim hk_ (fun hs_ => ((Kd.R_apart' (HO226.out) (Kd.N_typed HO222.out) (by decide)).1 k_ hs_.symm).2) (fun hn_ => (Kd.fresh' (Kd.N_lt (by (with_reducible repeat (first | apply Kd.N_alloc | apply Kd.N_drewN | apply Kd.N_drew)); exact HO222.out)) k_ hn_))⟩)) (below_size (by repeat (first | (with_reducible first | exact HB.out | apply bal | apply bdN | apply bdo) | exact HB.out)))); have n6_ := aS (Kd.V_lower (Kd.V_mono (ok' := fun k_ => some k_ ≠ (.slice Ao23 y214.length co23 : Value).ownBlock ∧ some k_ ≠ (.slice Ao24 y217.length co24 : Value).ownBlock ∧ some k_ ≠ (v221 : Value).ownBlock) ho1 (fun k_ hk_ => ⟨Or.elim hk_ (fun hs_ => ((Kd.R_apart' (HO226.out) (Kd.N_typed HO222.out) (by decide)).1 k_ hs_.symm).1.1.2) (fun hn_ => (Kd.fresh' (Kd.R_lt (by (with_reducible repeat (first | apply Kd.R_alloc | apply Kd.R_drewN | apply Kd.R_drew)); exact HO216.out)) k_ hn_)), Or.elim hk_ (fun hs_ => ((Kd.R_apart' (HO226.out) (Kd.N_typed HO222.out) (by decide)).1 k_ hs_.symm).1.2) (fun hn_ => (Kd.fresh' (Kd.R_lt (by (with_reducible repeat (first | apply Kd.R_alloc | apply Kd.R_drewN | apply Kd.R_drew)); exact HO219.out)) k_ hn_)), Or.elim hk_ (fun hs_ => ((Kd.R_apart' (HO226.out) (Kd.N_typed HO222.out) (by decide)).1 k_ hs_.symm).2) (fun hn_ => (Kd.fresh' (Kd.N_lt (by (with_reducible repeat (first | apply Kd.N_alloc | apply Kd.N_drewN | apply Kd.N_drew)); exact HO222.out)) k_ hn_))⟩)) (below_size (by repeat (first | (with_reducible first | exact HB.out | apply bal | apply bdN | apply bdo) | exact HB.out)))); have n7_ := aS (below_step (by repeat (first | (with_reducible first | exact HB.out | apply bal | apply bdN | apply bdo) | exact HB.out)) hb); clear HO210; clear HO216; clear HO219; clear HO222; clear HO226; clear HB; have HO210 := n0_; have HO216 := n1_; have HO219 := n2_; have HO222 := n3_; have HO226 := n4_; have HO229 := n5_; have HO232 := n6_; have HB := n7_; clear n0_ n1_ n2_ n3_ n4_ n5_ n6_ n7_; (try clear hb); (try clear hb2); (try clear hk); (try clear hi); (try clear ho0); (try clear ho1)) | ((with_reducible refine gate_callee (f := 12) rfl ?_); refine goesL_ (some 21) rfl rfl Try.func12 (by kernel_rfl) rfl #[.slice none 0 0] rfl (by (try simp only [List.map_toArray, List.map_cons, List.map_nil]); first | done | rfl | (simp only [lld, llt]; rfl)) ?_; (refine (frame_Put.calls k (fun k_ => False) _ _ ([] : List Int) t234 _ ?side1 A6.out).mono ?_); (case side1 => exact Kd.V_nil _ _ _ _ _); rintro e w29 ⟨v235, rfl, ho0, hb⟩; refine ⟨_, rfl, ?_⟩; have n0_ := aS (Kd.V_elder' (by (with_reducible repeat (first | apply Kd.V_alloc | apply Kd.V_drewN | apply Kd.V_drew)); exact HO210.out) (by first | exact Kd.R_base ho0 | exact Kd.S_base ho0 | exact Kd.R_base ho0 | exact Kd.V_base ho0) hb); have n1_ := aS (Kd.R_elder' (by (with_reducible repeat (first | apply Kd.R_alloc | apply Kd.R_drewN | apply Kd.R_drew)); exact HO216.out) (by first | exact Kd.R_base ho0 | exact Kd.S_base ho0 | exact Kd.R_base ho0 | exact Kd.V_base ho0) hb); have n2_ := aS (Kd.R_elder' (by (with_reducible repeat (first | apply Kd.R_alloc | apply Kd.R_drewN | apply Kd.R_drew)); exact HO219.out) (by first | exact Kd.R_base ho0 | exact Kd.S_base ho0 | exact Kd.R_base ho0 | exact Kd.V_base ho0) hb); have n3_ := aS (Kd.N_elder' (by (with_reducible repeat (first | apply Kd.N_alloc | apply Kd.N_drewN | apply Kd.N_drew)); exact HO222.out) (by first | exact Kd.R_base ho0 | exact Kd.S_base ho0 | exact Kd.R_base ho0 | exact Kd.V_base ho0) hb); have n4_ := aS (Kd.R_elder' (by (with_reducible repeat (first | apply Kd.R_alloc | apply Kd.R_drewN | apply Kd.R_drew)); exact HO226.out) (by first | exact Kd.R_base ho0 | exact Kd.S_base ho0 | exact Kd.R_base ho0 | exact Kd.V_base ho0) hb); have n5_ := aS (Kd.V_elder' (by (with_reducible repeat (first | apply Kd.V_alloc | apply Kd.V_drewN | apply Kd.V_drew)); exact HO229.out) (by first | exact Kd.R_base ho0 | exact Kd.S_base ho0 | exact Kd.R_base ho0 | exact Kd.V_base ho0) hb); have n6_ := aS (Kd.V_elder' (by (with_reducible repeat (first | apply Kd.V_alloc | apply Kd.V_drewN | apply Kd.V_drew)); exact HO232.out) (by first | exact Kd.R_base ho0 | exact Kd.S_base ho0 | exact Kd.R_base ho0 | exact Kd.V_base ho0) hb); have n7_ := aS (Kd.R_lower (Kd.R_new' (Kd.R_new' (Kd.R_new' (Kd.R_mono (ok' := fun k_ => True) ho0 (fun _ hk_ => trivial)) (Kd.R_lt (by (with_reducible repeat (first | apply Kd.R_alloc | apply Kd.R_drewN | apply Kd.R_drew)); exact HO216.out))) (Kd.R_lt (by (with_reducible repeat (first | apply Kd.R_alloc | apply Kd.R_drewN | apply Kd.R_drew)); exact HO219.out))) (Kd.R_lt (by (with_reducible repeat (first | apply Kd.R_alloc | apply Kd.R_drewN | apply Kd.R_drew)); exact HO226.out))) (below_size (by repeat (first | (with_reducible first | exact HB.out | apply bal | apply bdN | apply bdo) | exact HB.out)))); have n8_ := aS (below_step (by repeat (first | (with_reducible first | exact HB.out | apply bal | apply bdN | apply bdo) | exact HB.out)) hb); clear HO210; clear HO216; clear HO219; clear HO222; clear HO226; clear HO229; clear HO232; clear HB; have HO210 := n0_; have HO216 := n1_; have HO219 := n2_; have HO222 := n3_; have HO226 := n4_; have HO229 := n5_; have HO232 := n6_; have HO236 := n7_; have HB := n8_; clear n0_ n1_ n2_ n3_ n4_ n5_ n6_ n7_ n8_; (try clear hb); (try clear hb2); (try clear hk); (try clear hi); (try clear ho0); obtain ⟨Ao30, co30, eo30⟩ := Kd.R_slice HO236.out; subst eo30; obtain ⟨Ao31, co31, eo31⟩ := Kd.N_slice HO222.out; subst eo31; have p237 : 0 ≤ (0 : Int) := (by omega); have q237 : 0 < (t220.length : Int) := odt (by first | (with_reducible assumption) | assumption); obtain ⟨ad237, A237_0, c237_0, e237, hx237_0, hl237_0, hi237_0⟩ := at_L1 (Kd.N_reads' HO222.out).2.2 0 p237 q237; cases e237; obtain ⟨ce237, hce237, hMe237, hcc237⟩ := Kd.N_get HO222.out [] 0 p237 (by first | exact q237 | exact odt (by first | (with_reducible assumption) | assumption) | (have e_ := (Kd.N_reads' HO222.out).1; omega)); obtain ⟨ua237_0, uc237_0, rfl, ul237_0, ge237_0⟩ := Kd.FK_slice_open hMe237; have hv237_0 := hcc237 0 _ rfl; rw [Nat.add_zero, show ((Kd.slice 5 (Kd.int .u8))).sz = 1 from rfl, Nat.mul_one] at hv237_0; replace hv237_0 := Option.some.inj (hv237_0.symm.trans hx237_0); injection hv237_0 with hva_ hvn_ hvc_; rw [hva_] at ge237_0; rw [hvc_] at ul237_0; have HL237_0 := aS (show Kd.V (Kd.int .u8) 5 _ w.heap.size _ _ (rd_L1 t220 0) from Kd.V_mk ul237_0 ge237_0); clear hva_ hvn_ hvc_ ge237_0 ul237_0; clear hcc237 hce237; have qi237 : (0 < t220.length) = True := eq_true (by omega); (try rw [show ((0 : Int)).toNat = 0 from rfl] at hx237_0); (try rw [Addr.add_zero'] at hx237_0); have HR237_0 := aS hi237_0; have HC237_0 := aS hl237_0; clear hi237_0 hl237_0; replace p237 := eq_true p237; replace q237 := eq_true q237; have hcv32 := Kd.C_string (P := Try.prog) (A := A237_0) (c := c237_0) Try.underlying25 Try.underlying5 Try.underlying9 (by repeat (first | (with_reducible exact HR237_0.out) | (with_reducible refine Kd.C_alloc ?_ _) | (with_reducible refine Kd.C_drewN ?_ _) | (with_reducible refine Kd.C_drew ?_) | exact HR237_0.out)); have hcv33 := fun (m_ : Nat) => Kd.C_string (P := Try.prog) (A := A237_0) (c := c237_0) Try.underlying25 Try.underlying5 Try.underlying9 (Kd.C_drewN ((by repeat (first | (with_reducible exact HR237_0.out) | (with_reducible refine Kd.C_alloc ?_ _) | (with_reducible refine Kd.C_drewN ?_ _) | (with_reducible refine Kd.C_drew ?_) | exact HR237_0.out))) m_); obtain ⟨Ao34, co34, eo34⟩ := Kd.V_slice HO229.out; subst eo34; obtain ⟨Ao35, co35, eo35⟩ := Kd.V_slice HO232.out; subst eo35) | ((with_reducible refine gate_dst (N := 54) rfl ?_); (try (refine gate_guard (by rfl) ?_; dsimp only)); refine Kd.R_lit (Kd.int .u8) _ 5 ?hg (N := 54) ?hd (xs := ([1] : List Int)) (inner := [.int .u8 1]) (ok := fun _ => True) (okp := fun _ => True) ?hr ?hp (fun _ hk => hk) trivial (Below.refl _ _) (Nat.le_refl _) (by simp) ?_; (case hd => rfl); (case hg => rfl); (case hr => first | (go_simp; done) | (go_simp; rfl)); (case hp => exact (Reps.one (show Kd.M (Kd.int .u8) _ _ _ 1 [.int .u8 1] from rfl) (Reps.none _ _))); intro v239 w36 ho37 hb hg_ hnew_; clear hg_ hnew_; (first | rw [← Ny238.out] at ho37 | (simp only [Int.reduceToNat] at ho37; rw [← Ny238.out] at ho37)); have n0_ := aS (Kd.V_elder' (by (with_reducible repeat (first | apply Kd.V_alloc | apply Kd.V_drewN | apply Kd.V_drew)); exact HO210.out) (by first | exact Kd.R_base ho37 | exact Kd.S_base ho37 | exact Kd.R_base ho37 | exact Kd.V_base ho37) hb); have n1_ := aS (Kd.R_elder' (by (with_reducible repeat (first | apply Kd.R_alloc | apply Kd.R_drewN | apply Kd.R_drew)); exact HO216.out) (by first | exact Kd.R_base ho37 | exact Kd.S_base ho37 | exact Kd.R_base ho37 | exact Kd.V_base ho37) hb); have n2_ := aS (Kd.R_elder' (by (with_reducible repeat (first | apply Kd.R_alloc | apply Kd.R_drewN | apply Kd.R_drew)); exact HO219.out) (by first | exact Kd.R_base ho37 | exact Kd.S_base ho37 | exact Kd.R_base ho37 | exact Kd.V_base ho37) hb); have n3_ := aS (Kd.N_elder' (by (with_reducible repeat (first | apply Kd.N_alloc | apply Kd.N_drewN | apply Kd.N_drew)); exact HO222.out) (by first | exact Kd.R_base ho37 | exact Kd.S_base ho37 | exact Kd.R_base ho37 | exact Kd.V_base ho37) hb); have n4_ := aS (Kd.R_elder' (by (with_reducible repeat (first | apply Kd.R_alloc | apply Kd.R_drewN | apply Kd.R_drew)); exact HO226.out) (by first | exact Kd.R_base ho37 | exact Kd.S_base ho37 | exact Kd.R_base ho37 | exact Kd.V_base ho37) hb); have n5_ := aS (Kd.V_elder' (by (with_reducible repeat (first | apply Kd.V_alloc | apply Kd.V_drewN | apply Kd.V_drew)); exact HO229.out) (by first | exact Kd.R_base ho37 | exact Kd.S_base ho37 | exact Kd.R_base ho37 | exact Kd.V_base ho37) hb); have n6_ := aS (Kd.V_elder' (by (with_reducible repeat (first | apply Kd.V_alloc | apply Kd.V_drewN | apply Kd.V_drew)); exact HO232.out) (by first | exact Kd.R_base ho37 | exact Kd.S_base ho37 | exact Kd.R_base ho37 | exact Kd.V_base ho37) hb); have n7_ := aS (Kd.R_elder' (by (with_reducible repeat (first | apply Kd.R_alloc | apply Kd.R_drewN | apply Kd.R_drew)); exact HO236.out) (by first | exact Kd.R_base ho37 | exact Kd.S_base ho37 | exact Kd.R_base ho37 | exact Kd.V_base ho37) hb); have n8_ := aS (Kd.V_elder' (by (with_reducible repeat (first | apply Kd.V_alloc | apply Kd.V_drewN | apply Kd.V_drew)); exact HL237_0.out) (by first | exact Kd.R_base ho37 | exact Kd.S_base ho37 | exact Kd.R_base ho37 | exact Kd.V_base ho37) hb); have n9_ := aS (Kd.R_lower (Kd.R_new' (Kd.R_new' (Kd.R_new' (Kd.R_new' ho37 (Kd.R_lt (by (with_reducible repeat (first | apply Kd.R_alloc | apply Kd.R_drewN | apply Kd.R_drew)); exact HO216.out))) (Kd.R_lt (by (with_reducible repeat (first | apply Kd.R_alloc | apply Kd.R_drewN | apply Kd.R_drew)); exact HO219.out))) (Kd.R_lt (by (with_reducible repeat (first | apply Kd.R_alloc | apply Kd.R_drewN | apply Kd.R_drew)); exact HO226.out))) (Kd.R_lt (by (with_reducible repeat (first | apply Kd.R_alloc | apply Kd.R_drewN | apply Kd.R_drew)); exact HO236.out))) (below_size (by repeat (first | (with_reducible first | exact HB.out | apply bal | apply bdN | apply bdo) | exact HB.out)))); have n10_ := aS (Kd.C_below (by repeat (first | (with_reducible exact HR237_0.out) | (with_reducible refine Kd.C_alloc ?_ _) | (with_reducible refine Kd.C_drewN ?_ _) | (with_reducible refine Kd.C_drew ?_) | exact HR237_0.out)) hb); have n11_ := aS (below_step (by repeat (first | (with_reducible first | exact HB.out | apply bal | apply bdN | apply bdo) | exact HB.out)) hb); clear HO210; clear HO216; clear HO219; clear HO222; clear HO226; clear HO229; clear HO232; clear HO236; clear HL237_0; clear HR237_0; clear HB; have HO210 := n0_; have HO216 := n1_; have HO219 := n2_; have HO222 := n3_; have HO226 := n4_; have HO229 := n5_; have HO232 := n6_; have HO236 := n7_; have HL237_0 := n8_; have HO240 := n9_; have HR237_0 := n10_; have HB := n11_; clear n0_ n1_ n2_ n3_ n4_ n5_ n6_ n7_ n8_ n9_ n10_ n11_; clear hb ho37) | ((with_reducible refine gate_dst (N := 55) rfl ?_); (try (refine gate_guard (by rfl) ?_; dsimp only)); refine Kd.R_lit (Kd.int .u8) _ 5 ?hg (N := 55) ?hd (xs := ([2] : List Int)) (inner := [.int .u8 2]) (ok := fun _ => True) (okp := fun _ => True) ?hr ?hp (fun _ hk => hk) trivial (Below.refl _ _) (Nat.le_refl _) (by simp) ?_; (case hd => rfl); (case hg => rfl); (case hr => first | (go_simp; done) | (go_simp; rfl)); (case hp => exact (Reps.one (show Kd.M (Kd.int .u8) _ _ _ 2 [.int .u8 2] from rfl) (Reps.none _ _))); intro v242 w38 ho39 hb hg_ hnew_; clear hg_ hnew_; (first | rw [← Ny241.out] at ho39 | (simp only [Int.reduceToNat] at ho39; rw [← Ny241.out] at ho39)); have n0_ := aS (Kd.V_elder' (by (with_reducible repeat (first | apply Kd.V_alloc | apply Kd.V_drewN | apply Kd.V_drew)); exact HO210.out) (by first | exact Kd.R_base ho39 | exact Kd.S_base ho39 | exact Kd.R_base ho39 | exact Kd.V_base ho39) hb); have n1_ := aS (Kd.R_elder' (by (with_reducible repeat (first | apply Kd.R_alloc | apply Kd.R_drewN | apply Kd.R_drew)); exact HO216.out) (by first | exact Kd.R_base ho39 | exact Kd.S_base ho39 | exact Kd.R_base ho39 | exact Kd.V_base ho39) hb); have n2_ := aS (Kd.R_elder' (by (with_reducible repeat (first | apply Kd.R_alloc | apply Kd.R_drewN | apply Kd.R_drew)); exact HO219.out) (by first | exact Kd.R_base ho39 | exact Kd.S_base ho39 | exact Kd.R_base ho39 | exact Kd.V_base ho39) hb); have n3_ := aS (Kd.N_elder' (by (with_reducible repeat (first | apply Kd.N_alloc | apply Kd.N_drewN | apply Kd.N_drew)); exact HO222.out) (by first | exact Kd.R_base ho39 | exact Kd.S_base ho39 | exact Kd.R_base ho39 | exact Kd.V_base ho39) hb); have n4_ := aS (Kd.R_elder' (by (with_reducible repeat (first | apply Kd.R_alloc | apply Kd.R_drewN | apply Kd.R_drew)); exact HO226.out) (by first | exact Kd.R_base ho39 | exact Kd.S_base ho39 | exact Kd.R_base ho39 | exact Kd.V_base ho39) hb); have n5_ := aS (Kd.V_elder' (by (with_reducible repeat (first | apply Kd.V_alloc | apply Kd.V_drewN | apply Kd.V_drew)); exact HO229.out) (by first | exact Kd.R_base ho39 | exact Kd.S_base ho39 | exact Kd.R_base ho39 | exact Kd.V_base ho39) hb); have n6_ := aS (Kd.V_elder' (by (with_reducible repeat (first | apply Kd.V_alloc | apply Kd.V_drewN | apply Kd.V_drew)); exact HO232.out) (by first | exact Kd.R_base ho39 | exact Kd.S_base ho39 | exact Kd.R_base ho39 | exact Kd.V_base ho39) hb); have n7_ := aS (Kd.R_elder' (by (with_reducible repeat (first | apply Kd.R_alloc | apply Kd.R_drewN | apply Kd.R_drew)); exact HO236.out) (by first | exact Kd.R_base ho39 | exact Kd.S_base ho39 | exact Kd.R_base ho39 | exact Kd.V_base ho39) hb); have n8_ := aS (Kd.V_elder' (by (with_reducible repeat (first | apply Kd.V_alloc | apply Kd.V_drewN | apply Kd.V_drew)); exact HL237_0.out) (by first | exact Kd.R_base ho39 | exact Kd.S_base ho39 | exact Kd.R_base ho39 | exact Kd.V_base ho39) hb); have n9_ := aS (Kd.R_elder' (by (with_reducible repeat (first | apply Kd.R_alloc | apply Kd.R_drewN | apply Kd.R_drew)); exact HO240.out) (by first | exact Kd.R_base ho39 | exact Kd.S_base ho39 | exact Kd.R_base ho39 | exact Kd.V_base ho39) hb); have n10_ := aS (Kd.R_lower (Kd.R_new' (Kd.R_new' (Kd.R_new' (Kd.R_new' (Kd.R_new' ho39 (Kd.R_lt (by (with_reducible repeat (first | apply Kd.R_alloc | apply Kd.R_drewN | apply Kd.R_drew)); exact HO216.out))) (Kd.R_lt (by (with_reducible repeat (first | apply Kd.R_alloc | apply Kd.R_drewN | apply Kd.R_drew)); exact HO219.out))) (Kd.R_lt (by (with_reducible repeat (first | apply Kd.R_alloc | apply Kd.R_drewN | apply Kd.R_drew)); exact HO226.out))) (Kd.R_lt (by (with_reducible repeat (first | apply Kd.R_alloc | apply Kd.R_drewN | apply Kd.R_drew)); exact HO236.out))) (Kd.R_lt (by (with_reducible repeat (first | apply Kd.R_alloc | apply Kd.R_drewN | apply Kd.R_drew)); exact HO240.out))) (below_size (by repeat (first | (with_reducible first | exact HB.out | apply bal | apply bdN | apply bdo) | exact HB.out)))); have n11_ := aS (Kd.C_below (by repeat (first | (with_reducible exact HR237_0.out) | (with_reducible refine Kd.C_alloc ?_ _) | (with_reducible refine Kd.C_drewN ?_ _) | (with_reducible refine Kd.C_drew ?_) | exact HR237_0.out)) hb); have n12_ := aS (below_step (by repeat (first | (with_reducible first | exact HB.out | apply bal | apply bdN | apply bdo) | exact HB.out)) hb); clear HO210; clear HO216; clear HO219; clear HO222; clear HO226; clear HO229; clear HO232; clear HO236; clear HL237_0; clear HO240; clear HR237_0; clear HB; have HO210 := n0_; have HO216 := n1_; have HO219 := n2_; have HO222 := n3_; have HO226 := n4_; have HO229 := n5_; have HO232 := n6_; have HO236 := n7_; have HL237_0 := n8_; have HO240 := n9_; have HO243 := n10_; have HR237_0 := n11_; have HB := n12_; clear n0_ n1_ n2_ n3_ n4_ n5_ n6_ n7_ n8_ n9_ n10_ n11_ n12_; clear hb ho39; obtain ⟨Ao40, co40, eo40⟩ := Kd.R_slice HO240.out; subst eo40; obtain ⟨Ao41, co41, eo41⟩ := Kd.R_slice HO243.out; subst eo41) | ((with_reducible refine gate_dst (N := 56) rfl ?_); (try (refine gate_guard (by rfl) ?_; dsimp only)); refine Kd.N_lit (Kd.slice 5 (Kd.int .u8)) _ 25 ?hg (N' := 56) ?hd (xs := ([y238, y241] : List (List Int))) (inner := [.slice Ao40 y238.length co40, .slice Ao41 y241.length co41]) (ok := (fun k_ => some k_ ≠ (.slice Ao23 y214.length co23 : Value).ownBlock ∧ some k_ ≠ (.slice Ao24 y217.length co24 : Value).ownBlock ∧ some k_ ≠ (.slice (some ad237) t220.length co31 : Value).ownBlock ∧ some k_ ≠ (.slice Ao27 t224.length co27 : Value).ownBlock ∧ some k_ ≠ (.slice Ao30 t234.length co30 : Value).ownBlock)) (okp := (fun k_ => some k_ ≠ (.slice Ao23 y214.length co23 : Value).ownBlock ∧ some k_ ≠ (.slice Ao24 y217.length co24 : Value).ownBlock ∧ some k_ ≠ (.slice (some ad237) t220.length co31 : Value).ownBlock ∧ some k_ ≠ (.slice Ao27 t224.length co27 : Value).ownBlock ∧ some k_ ≠ (.slice Ao30 t234.length co30 : Value).ownBlock)) ?hr ?hp (fun _ hk => hk) ((show ∀ k_, w38.heap.size ≤ k_ → (fun k_ => some k_ ≠ (.slice Ao23 y214.length co23 : Value).ownBlock ∧ some k_ ≠ (.slice Ao24 y217.length co24 : Value).ownBlock ∧ some k_ ≠ (.slice (some ad237) t220.length co31 : Value).ownBlock ∧ some k_ ≠ (.slice Ao27 t224.length co27 : Value).ownBlock ∧ some k_ ≠ (.slice Ao30 t234.length co30 : Value).ownBlock) k_ from fun k_ hk => ⟨Kd.fresh' (Kd.R_lt (by (with_reducible repeat (first | apply Kd.R_alloc | apply Kd.R_drewN | apply Kd.R_drew)); exact HO216.out)) k_ hk, Kd.fresh' (Kd.R_lt (by (with_reducible repeat (first | apply Kd.R_alloc | apply Kd.R_drewN | apply Kd.R_drew)); exact HO219.out)) k_ hk, Kd.fresh' (Kd.N_lt (by (with_reducible repeat (first | apply Kd.N_alloc | apply Kd.N_drewN | apply Kd.N_drew)); exact HO222.out)) k_ hk, Kd.fresh' (Kd.R_lt (by (with_reducible repeat (first | apply Kd.R_alloc | apply Kd.R_drewN | apply Kd.R_drew)); exact HO226.out)) k_ hk, Kd.fresh' (Kd.R_lt (by (with_reducible repeat (first | apply Kd.R_alloc | apply Kd.R_drewN | apply Kd.R_drew)); exact HO236.out)) k_ hk⟩) _ (Nat.le_refl _)) (Below.refl _ _) (Nat.le_refl _) (by simp) ?_; (case hd => rfl); (case hg => rfl); (case hr => first | (go_simp; done) | (go_simp; rfl)); (case hp => exact (Reps.one (show Kd.FK (Kd.slice 5 (Kd.int .u8)) _ _ y238 [.slice Ao40 y238.length co40] from (Kd.FK_slice_mk (Kd.R_reads' (Kd.R_mono (ok' := (fun k_ => some k_ ≠ (.slice Ao23 y214.length co23 : Value).ownBlock ∧ some k_ ≠ (.slice Ao24 y217.length co24 : Value).ownBlock ∧ some k_ ≠ (.slice (some ad237) t220.length co31 : Value).ownBlock ∧ some k_ ≠ (.slice Ao27 t224.length co27 : Value).ownBlock ∧ some k_ ≠ (.slice Ao30 t234.length co30 : Value).ownBlock)) (Kd.R_apart' (HO240.out) (Kd.N_typed HO222.out) (by decide)) (fun k_ hk => ⟨hk.1.1.1.1.1.2, ⟨hk.1.1.1.1.2, ⟨hk.2, ⟨hk.1.1.1.2, hk.1.1.2⟩⟩⟩⟩))).2.1 (Kd.R_F (Kd.R_mono (ok' := (fun k_ => some k_ ≠ (.slice Ao23 y214.length co23 : Value).ownBlock ∧ some k_ ≠ (.slice Ao24 y217.length co24 : Value).ownBlock ∧ some k_ ≠ (.slice (some ad237) t220.length co31 : Value).ownBlock ∧ some k_ ≠ (.slice Ao27 t224.length co27 : Value).ownBlock ∧ some k_ ≠ (.slice Ao30 t234.length co30 : Value).ownBlock)) (Kd.R_apart' (HO240.out) (Kd.N_typed HO222.out) (by decide)) (fun k_ hk => ⟨hk.1.1.1.1.1.2, ⟨hk.1.1.1.1.2, ⟨hk.2, ⟨hk.1.1.1.2, hk.1.1.2⟩⟩⟩⟩))))) (Reps.one (show Kd.FK (Kd.slice 5 (Kd.int .u8)) _ _ y241 [.slice Ao41 y241.length co41] from (Kd.FK_slice_mk (Kd.R_reads' (Kd.R_mono (ok' := (fun k_ => some k_ ≠ (.slice Ao23 y214.length co23 : Value).ownBlock ∧ some k_ ≠ (.slice Ao24 y217.length co24 : Value).ownBlock ∧ some k_ ≠ (.slice (some ad237) t220.length co31 : Value).ownBlock ∧ some k_ ≠ (.slice Ao27 t224.length co27 : Value).ownBlock ∧ some k_ ≠ (.slice Ao30 t234.length co30 : Value).ownBlock)) (Kd.R_apart' (HO243.out) (Kd.N_typed HO222.out) (by decide)) (fun k_ hk => ⟨hk.1.1.1.1.1.2, ⟨hk.1.1.1.1.2, ⟨hk.2, ⟨hk.1.1.1.2, hk.1.1.2⟩⟩⟩⟩))).2.1 (Kd.R_F (Kd.R_mono (ok' := (fun k_ => some k_ ≠ (.slice Ao23 y214.length co23 : Value).ownBlock ∧ some k_ ≠ (.slice Ao24 y217.length co24 : Value).ownBlock ∧ some k_ ≠ (.slice (some ad237) t220.length co31 : Value).ownBlock ∧ some k_ ≠ (.slice Ao27 t224.length co27 : Value).ownBlock ∧ some k_ ≠ (.slice Ao30 t234.length co30 : Value).ownBlock)) (Kd.R_apart' (HO243.out) (Kd.N_typed HO222.out) (by decide)) (fun k_ hk => ⟨hk.1.1.1.1.1.2, ⟨hk.1.1.1.1.2, ⟨hk.2, ⟨hk.1.1.1.2, hk.1.1.2⟩⟩⟩⟩))))) (Reps.none _ _)))); intro v245 w42 ho43 hb hg_ hnew_; clear hg_ hnew_; (first | rw [← Ny244.out] at ho43 | (simp only [Int.reduceToNat] at ho43; rw [← Ny244.out] at ho43)); have n0_ := aS (Kd.V_elder' (by (with_reducible repeat (first | apply Kd.V_alloc | apply Kd.V_drewN | apply Kd.V_drew)); exact HO210.out) (by first | exact Kd.N_base ho43 | exact Kd.S_base ho43 | exact Kd.R_base ho43 | exact Kd.V_base ho43) hb); have n1_ := aS (Kd.R_below (by (with_reducible repeat (first | apply Kd.R_alloc | apply Kd.R_drewN | apply Kd.R_drew)); exact HO216.out) hb); have n2_ := aS (Kd.R_below (by (with_reducible repeat (first | apply Kd.R_alloc | apply Kd.R_drewN | apply Kd.R_drew)); exact HO219.out) hb); have n3_ := aS (Kd.N_elder' (by (with_reducible repeat (first | apply Kd.N_alloc | apply Kd.N_drewN | apply Kd.N_drew)); exact HO222.out) (by first | exact Kd.N_base ho43 | exact Kd.S_base ho43 | exact Kd.R_base ho43 | exact Kd.V_base ho43) hb); have n4_ := aS (Kd.R_below (by (with_reducible repeat (first | apply Kd.R_alloc | apply Kd.R_drewN | apply Kd.R_drew)); exact HO226.out) hb); have n5_ := aS (Kd.V_elder' (by (with_reducible repeat (first | apply Kd.V_alloc | apply Kd.V_drewN | apply Kd.V_drew)); exact HO229.out) (by first | exact Kd.N_base ho43 | exact Kd.S_base ho43 | exact Kd.R_base ho43 | exact Kd.V_base ho43) hb); have n6_ := aS (Kd.V_elder' (by (with_reducible repeat (first | apply Kd.V_alloc | apply Kd.V_drewN | apply Kd.V_drew)); exact HO232.out) (by first | exact Kd.N_base ho43 | exact Kd.S_base ho43 | exact Kd.R_base ho43 | exact Kd.V_base ho43) hb); have n7_ := aS (Kd.R_below (by (with_reducible repeat (first | apply Kd.R_alloc | apply Kd.R_drewN | apply Kd.R_drew)); exact HO236.out) hb); have n8_ := aS (Kd.V_elder' (by (with_reducible repeat (first | apply Kd.V_alloc | apply Kd.V_drewN | apply Kd.V_drew)); exact HL237_0.out) (by first | exact Kd.N_base ho43 | exact Kd.S_base ho43 | exact Kd.R_base ho43 | exact Kd.V_base ho43) hb); have n9_ := aS (Kd.N_lower ho43 (below_size (by repeat (first | (with_reducible first | exact HB.out | apply bal | apply bdN | apply bdo) | exact HB.out)))); have n10_ := aS (Kd.C_below (by repeat (first | (with_reducible exact HR237_0.out) | (with_reducible refine Kd.C_alloc ?_ _) | (with_reducible refine Kd.C_drewN ?_ _) | (with_reducible refine Kd.C_drew ?_) | exact HR237_0.out)) hb); have n11_ := aS (below_step (by repeat (first | (with_reducible first | exact HB.out | apply bal | apply bdN | apply bdo) | exact HB.out)) hb); clear HO210; clear HO216; clear HO219; clear HO222; clear HO226; clear HO229; clear HO232; clear HO236; clear HL237_0; clear HR237_0; clear HB; clear HO240; clear HO243; have HO210 := n0_; have HO216 := n1_; have HO219 := n2_; have HO222 := n3_; have HO226 := n4_; have HO229 := n5_; have HO232 := n6_; have HO236 := n7_; have HL237_0 := n8_; have HO246 := n9_; have HR237_0 := n10_; have HB := n11_; clear n0_ n1_ n2_ n3_ n4_ n5_ n6_ n7_ n8_ n9_ n10_ n11_; clear hb ho43; obtain ⟨Ao44, co44, eo44⟩ := Kd.N_slice HO246.out; subst eo44) | (go_at_call 14; (with_reducible refine (frame_All.calls k _ _ y244 t247 _ ?side1 ?side2 A15.out).mono ?_); (case side1 => repeat (first | exact (Kd.N_reads' HO246.out).2.2 | (with_reducible refine Kd.C_alloc ?_ _) | (with_reducible refine Kd.C_drewN ?_ _) | (with_reducible refine Kd.C_drew ?_))); (case side2 => exact (Kd.N_reads' HO246.out).2.1); rintro e w45 ⟨v248, rfl, ho0, hb⟩; have n0_ := aS (Kd.V_elder' (by (with_reducible repeat (first | apply Kd.V_alloc | apply Kd.V_drewN | apply Kd.V_drew)); exact HO210.out) (by first | exact Kd.R_base ho0 | exact Kd.S_base ho0 | exact Kd.R_base ho0 | exact Kd.V_base ho0) hb); have n1_ := aS (Kd.R_elder' (by (with_reducible repeat (first | apply Kd.R_alloc | apply Kd.R_drewN | apply Kd.R_drew)); exact HO216.out) (by first | exact Kd.R_base ho0 | exact Kd.S_base ho0 | exact Kd.R_base ho0 | exact Kd.V_base ho0) hb); have n2_ := aS (Kd.R_elder' (by (with_reducible repeat (first | apply Kd.R_alloc | apply Kd.R_drewN | apply Kd.R_drew)); exact HO219.out) (by first | exact Kd.R_base ho0 | exact Kd.S_base ho0 | exact Kd.R_base ho0 | exact Kd.V_base ho0) hb); have n3_ := aS (Kd.N_elder' (by (with_reducible repeat (first | apply Kd.N_alloc | apply Kd.N_drewN | apply Kd.N_drew)); exact HO222.out) (by first | exact Kd.R_base ho0 | exact Kd.S_base ho0 | exact Kd.R_base ho0 | exact Kd.V_base ho0) hb); have n4_ := aS (Kd.R_elder' (by (with_reducible repeat (first | apply Kd.R_alloc | apply Kd.R_drewN | apply Kd.R_drew)); exact HO226.out) (by first | exact Kd.R_base ho0 | exact Kd.S_base ho0 | exact Kd.R_base ho0 | exact Kd.V_base ho0) hb); have n5_ := aS (Kd.V_elder' (by (with_reducible repeat (first | apply Kd.V_alloc | apply Kd.V_drewN | apply Kd.V_drew)); exact HO229.out) (by first | exact Kd.R_base ho0 | exact Kd.S_base ho0 | exact Kd.R_base ho0 | exact Kd.V_base ho0) hb); have n6_ := aS (Kd.V_elder' (by (with_reducible repeat (first | apply Kd.V_alloc | apply Kd.V_drewN | apply Kd.V_drew)); exact HO232.out) (by first | exact Kd.R_base ho0 | exact Kd.S_base ho0 | exact Kd.R_base ho0 | exact Kd.V_base ho0) hb); have n7_ := aS (Kd.R_elder' (by (with_reducible repeat (first | apply Kd.R_alloc | apply Kd.R_drewN | apply Kd.R_drew)); exact HO236.out) (by first | exact Kd.R_base ho0 | exact Kd.S_base ho0 | exact Kd.R_base ho0 | exact Kd.V_base ho0) hb); have n8_ := aS (Kd.V_elder' (by (with_reducible repeat (first | apply Kd.V_alloc | apply Kd.V_drewN | apply Kd.V_drew)); exact HL237_0.out) (by first | exact Kd.R_base ho0 | exact Kd.S_base ho0 | exact Kd.R_base ho0 | exact Kd.V_base ho0) hb); have n9_ := aS (Kd.N_elder' (by (with_reducible repeat (first | apply Kd.N_alloc | apply Kd.N_drewN | apply Kd.N_drew)); exact HO246.out) (by first | exact Kd.R_base ho0 | exact Kd.S_base ho0 | exact Kd.R_base ho0 | exact Kd.V_base ho0) hb); have n10_ := aS (Kd.R_lower (Kd.R_new' (Kd.R_new' (Kd.R_new' (Kd.R_new' ho0 (Kd.R_lt (by (with_reducible repeat (first | apply Kd.R_alloc | apply Kd.R_drewN | apply Kd.R_drew)); exact HO216.out))) (Kd.R_lt (by (with_reducible repeat (first | apply Kd.R_alloc | apply Kd.R_drewN | apply Kd.R_drew)); exact HO219.out))) (Kd.R_lt (by (with_reducible repeat (first | apply Kd.R_alloc | apply Kd.R_drewN | apply Kd.R_drew)); exact HO226.out))) (Kd.R_lt (by (with_reducible repeat (first | apply Kd.R_alloc | apply Kd.R_drewN | apply Kd.R_drew)); exact HO236.out))) (below_size (by repeat (first | (with_reducible first | exact HB.out | apply bal | apply bdN | apply bdo) | exact HB.out)))); have n11_ := aS (Kd.C_below (by repeat (first | (with_reducible exact HR237_0.out) | (with_reducible refine Kd.C_alloc ?_ _) | (with_reducible refine Kd.C_drewN ?_ _) | (with_reducible refine Kd.C_drew ?_) | exact HR237_0.out)) hb); have n12_ := aS (below_step (by repeat (first | (with_reducible first | exact HB.out | apply bal | apply bdN | apply bdo) | exact HB.out)) hb); clear HO210; clear HO216; clear HO219; clear HO222; clear HO226; clear HO229; clear HO232; clear HO236; clear HL237_0; clear HO246; clear HR237_0; clear HB; have HO210 := n0_; have HO216 := n1_; have HO219 := n2_; have HO222 := n3_; have HO226 := n4_; have HO229 := n5_; have HO232 := n6_; have HO236 := n7_; have HL237_0 := n8_; have HO246 := n9_; have HO249 := n10_; have HR237_0 := n11_; have HB := n12_; clear n0_ n1_ n2_ n3_ n4_ n5_ n6_ n7_ n8_ n9_ n10_ n11_ n12_; (try clear hb); (try clear hb2); (try clear hk); (try clear hi); (try clear ho0); obtain ⟨Ao46, co46, eo46⟩ := Kd.R_slice HO249.out; subst eo46))
          go_ret
          exact ⟨by first | rfl | (simp [errW_none, errW_some] <;> rfl) | (simp [*, errW_none, errW_some] <;> rfl), by repeat (first | (with_reducible first | exact HB.out | apply bal | apply bdN | apply bdo) | exact HB.out)⟩
         ·
          rw [if_neg c14] at H
          exact absurd H (by simp)
        ·
         rw [if_neg c13] at H
         exact absurd H (by simp)
       ·
        replace c12 := Bool.eq_false_iff.mpr c12
        subst c12
        have H1 : (none) = some r := by rw [if_neg (show ¬ (false = true) by decide)] at H; exact H
        clear H; have H := H1; clear H1
        exact absurd H (by simp)
      ·
       rw [if_neg c11] at H
       exact absurd H (by simp)
     ·
      rw [if_neg c10] at H
      exact absurd H (by simp)
    ·
     rw [if_neg c9] at H
     exact absurd H (by simp)
   ·
    rw [if_neg c8] at H
    exact absurd H (by simp)
  ·
   rw [if_neg c7] at H
   exact absurd H (by simp)
 ·
  rw [if_neg c2] at H
  exact absurd H (by simp)

/-! ### shardlogref06_Few: function 10 -/
mutual
def shardlogref06_Few.l0 : Nat → List (List Int) → Int → Int → Option (Bool)
 | 0, _, _, _ => none
 | k + 1, x0, x3, x4 => if x4 < (x0.length : Int) then (shardlogref06_Few.j1 k x0 x3 x4 (decide (x4 < 200))) else (shardlogref06_Few.j1 k x0 x3 x4 false)
def shardlogref06_Few.j1 : Nat → List (List Int) → Int → Int → Bool → Option (Bool)
 | 0, _, _, _, _ => none
 | k + 1, x0, x3, x4, x12 => if x12 = true then (if 0 ≤ x4 then (if x4 < (x0.length : Int) then (if (wrap64 (x3 + ((rd_L1 x0 x4).length : Int))) > 5000 then (some false) else (shardlogref06_Few.l0 k x0 (wrap64 (x3 + ((rd_L1 x0 x4).length : Int))) (wrap64 (x4 + 1)))) else (none)) else (none)) else (some (decide ((x0.length : Int) ≤ 100)))
end
def shardlogref06_Few.f (k : Nat) (l0 : List (List Int)) : Option (Bool) := shardlogref06_Few.l0 k l0 0 0
theorem shardlogref06_Few.mono_l : ∀ k, (∀ y0 y1 y2, LeO (shardlogref06_Few.l0 k y0 y1 y2) (shardlogref06_Few.l0 (k + 1) y0 y1 y2)) ∧ (∀ y0 y1 y2 y3, LeO (shardlogref06_Few.j1 k y0 y1 y2 y3) (shardlogref06_Few.j1 (k + 1) y0 y1 y2 y3))
 | 0 => ⟨fun _ _ _ r h => by simp [shardlogref06_Few.l0] at h, fun _ _ _ _ r h => by simp [shardlogref06_Few.j1] at h⟩
 | k + 1 => by
  obtain ⟨ih0, ih1⟩ := shardlogref06_Few.mono_l k
  refine ⟨?_, ?_⟩
  ·
   intro y0 y1 y2
   unfold shardlogref06_Few.l0
   repeat' first
   | (with_reducible exact ih0 _ _ _)
   | (with_reducible exact ih1 _ _ _ _)
   | (with_reducible exact LeO.refl _)
   | (with_reducible exact LeO.none _)
   | (with_reducible refine LeO.ite ?_ ?_)
   | (with_reducible refine LeO.bind ?_ (fun _ => ?_))
   | exact ih0 _ _ _
   | exact ih1 _ _ _ _
   | exact LeO.none _
   | refine LeO.ite ?_ ?_
   | refine LeO.bind ?_ (fun _ => ?_)
  ·
   intro y0 y1 y2 y3
   unfold shardlogref06_Few.j1
   repeat' first
   | (with_reducible exact ih0 _ _ _)
   | (with_reducible exact ih1 _ _ _ _)
   | (with_reducible exact LeO.refl _)
   | (with_reducible exact LeO.none _)
   | (with_reducible refine LeO.ite ?_ ?_)
   | (with_reducible refine LeO.bind ?_ (fun _ => ?_))
   | exact ih0 _ _ _
   | exact ih1 _ _ _ _
   | exact LeO.none _
   | refine LeO.ite ?_ ?_
   | refine LeO.bind ?_ (fun _ => ?_)
theorem shardlogref06_Few.mono : ∀ a0 k, LeO (shardlogref06_Few.f k a0) (shardlogref06_Few.f (k + 1) a0) := by
 intro a0 k
 obtain ⟨ih0, ih1⟩ := shardlogref06_Few.mono_l k
 unfold shardlogref06_Few.f
 repeat' first
   | (with_reducible exact ih0 _ _ _)
   | (with_reducible exact ih1 _ _ _ _)
   | (with_reducible exact LeO.refl _)
   | (with_reducible exact LeO.none _)
   | (with_reducible refine LeO.ite ?_ ?_)
   | (with_reducible refine LeO.bind ?_ (fun _ => ?_))
   | exact ih0 _ _ _
   | exact ih1 _ _ _ _
   | exact LeO.none _
   | refine LeO.ite ?_ ?_
   | refine LeO.bind ?_ (fun _ => ?_)
set_option maxHeartbeats 8000000 in
set_option maxRecDepth 100000 in
theorem shardlogref06_Few.calls (k : Nat) (A0 : Option Addr) (c0 : Nat) (l0 : List (List Int)) (r : Bool) (w : World) (hr0 : Kd.C (Kd.slice 5 (Kd.int .u8)) w A0 l0.length l0) (hc0 : l0.length ≤ c0) (h : shardlogref06_Few.f k l0 = some r) :
  Calls Try.prog 10 #[.slice A0 l0.length c0] w fun e w' => e = .returned (.bool r) ∧ Drawn0 w w' := by
 have HR0 := aS hr0
 have HC0 := aS hc0
 clear hr0 hc0
 have H : (shardlogref06_Few.l0 k l0 0 0) = some r := h
 clear h
 have H' := aS H
 clear H
 go_enter Try.func10, Try.ntmps10
 go_wp2
 go_loopg [3, 4] k (fun kq v3 v4 w' => ∃ (x3_1 : Int) (x4_1 : Int), v3 = .int .i64 x3_1 ∧ v4 = .int .i64 x4_1 ∧ Aside0 (shardlogref06_Few.l0 kq l0 x3_1 x4_1 = some r) ∧ Aside0 (kq ≤ k) ∧ Drawn0 w w')
 case atStart => exact ⟨(0), (0), (by first | rfl | (simp; done) | (simp [*]; done) | (simp; exact (by decide : ∀ a_ b_ : Bool, (a_ == b_) = (!a_ != b_)) _ _)), (by first | rfl | (simp; done) | (simp [*]; done) | (simp; exact (by decide : ∀ a_ b_ : Bool, (a_ == b_) = (!a_ != b_)) _ _)), H', ⟨Nat.le_refl _⟩, by repeat (first | exact Drawn0.refl _ | apply Drawn0.step)⟩
 case round =>
  clear H'; (try clear c1)
  obtain ⟨x3_1, x4_1, rfl, rfl, HA, HK1, ⟨m1, rfl⟩⟩ := hrel
  cases gk with
  | zero => exact absurd HA.out (by simp [shardlogref06_Few.l0])
  | succ k1 =>
   have H := HA.out; clear HA
   simp only [shardlogref06_Few.l0] at H
   have HC2 := aS H
   clear H
   go_upto_region 3 with (fail)
   go_cut [12] (fun v12 wc => ∃ (kq : Nat) (x12_1 : Bool), v12 = .bool x12_1 ∧ Aside0 (shardlogref06_Few.j1 kq l0 x3_1 x4_1 x12_1 = some r) ∧ Aside0 (kq ≤ k1) ∧ Drawn0 w wc)
   case first =>
    have H := HC2.out; clear HC2
    by_cases c3 : x4_1 < (l0.length : Int)
    ·
     rw [if_pos c3] at H
     have c3b0 : decide (x4_1 < (l0.length : Int)) = true := decide_eq_true c3
     clear c3
     (first | rw [c3b0] | (simp only [i64_w, i32_w]; rw [c3b0]) | skip)
     have H' := aS H
     clear H
     go_wp2
     go_meet
     case rel => exact ⟨_, (decide (x4_1 < 200)), (by first | rfl | (simp; done) | (simp [*]; done) | (simp; exact (by decide : ∀ a_ b_ : Bool, (a_ == b_) = (!a_ != b_)) _ _)), H', ⟨by have := HK1.out; first | omega | exact Nat.le_refl _⟩, by repeat (first | exact Drawn0.refl _ | apply Drawn0.step)⟩
    ·
     rw [if_neg c3] at H
     have c3b0 : decide (x4_1 < (l0.length : Int)) = false := decide_eq_false c3
     clear c3
     (first | rw [c3b0] | (simp only [i64_w, i32_w]; rw [c3b0]) | skip)
     have H' := aS H
     clear H
     go_wp2
     go_meet
     case rel => exact ⟨_, (false), (by first | rfl | (simp; done) | (simp [*]; done) | (simp; exact (by decide : ∀ a_ b_ : Bool, (a_ == b_) = (!a_ != b_)) _ _)), H', ⟨by have := HK1.out; first | omega | exact Nat.le_refl _⟩, by repeat (first | exact Drawn0.refl _ | apply Drawn0.step)⟩
   case rest =>
    clear HC2; (try clear c1); (try clear p2); (try clear c3); (try clear c3b0)
    obtain ⟨kq, x12_1, rfl, HA, HJ1, ⟨mc1, rfl⟩⟩ := hcut
    cases kq with
    | zero => exact absurd HA.out (by simp [shardlogref06_Few.j1])
    | succ kj1 =>
     have H := HA.out; clear HA
     simp only [shardlogref06_Few.j1] at H
     by_cases c4 : x12_1 = true
     ·
      subst c4
      have H1 : (if 0 ≤ x4_1 then (if x4_1 < (l0.length : Int) then (if (wrap64 (x3_1 + ((rd_L1 l0 x4_1).length : Int))) > 5000 then (some false) else (shardlogref06_Few.l0 kj1 l0 (wrap64 (x3_1 + ((rd_L1 l0 x4_1).length : Int))) (wrap64 (x4_1 + 1)))) else (none)) else (none)) = some r := by rw [if_pos rfl] at H; exact H
      clear H; have H := H1; clear H1
      by_cases c5 : 0 ≤ x4_1
      ·
       rw [if_pos c5] at H
       have c5b0 : decide (0 ≤ x4_1) = true := decide_eq_true c5
       clear c5
       by_cases c6 : x4_1 < (l0.length : Int)
       ·
        rw [if_pos c6] at H
        have c6b0 : decide (x4_1 < (l0.length : Int)) = true := decide_eq_true c6
        clear c6
        by_cases c7 : (wrap64 (x3_1 + ((rd_L1 l0 x4_1).length : Int))) > 5000
        ·
         rw [if_pos c7] at H
         have c7b0 : decide (5000 < (wrap64 (x3_1 + ((rd_L1 l0 x4_1).length : Int)))) = true := decide_eq_true c7
         clear c7
         obtain rfl := Option.some.inj H
         have p250 : 0 ≤ (x4_1 : Int) := odt (by first | (with_reducible assumption) | assumption)
         have q250 : x4_1 < (l0.length : Int) := odt (by first | (with_reducible assumption) | assumption)
         obtain ⟨ad250, A250_0, c250_0, e250, hx250_0, hl250_0, hi250_0⟩ := at_L1 HR0.out x4_1 p250 q250
         cases e250
         have HR250_0 := aS hi250_0
         have HC250_0 := aS hl250_0
         clear hi250_0 hl250_0
         replace p250 := eq_true p250
         replace q250 := eq_true q250
         go_wp2
         go_ret
         exact ⟨by first | rfl | (simp; done) | (simp [*]; done) | (simp; exact (by decide : ∀ a_ b_ : Bool, (a_ == b_) = (!a_ != b_)) _ _), by repeat (first | exact Drawn0.refl _ | apply Drawn0.step)⟩
        ·
         rw [if_neg c7] at H
         have c7b0 : decide (5000 < (wrap64 (x3_1 + ((rd_L1 l0 x4_1).length : Int)))) = false := decide_eq_false c7
         clear c7
         have H' := aS H
         clear H
         have p250 : 0 ≤ (x4_1 : Int) := odt (by first | (with_reducible assumption) | assumption)
         have q250 : x4_1 < (l0.length : Int) := odt (by first | (with_reducible assumption) | assumption)
         obtain ⟨ad250, A250_0, c250_0, e250, hx250_0, hl250_0, hi250_0⟩ := at_L1 HR0.out x4_1 p250 q250
         cases e250
         have HR250_0 := aS hi250_0
         have HC250_0 := aS hl250_0
         clear hi250_0 hl250_0
         replace p250 := eq_true p250
         replace q250 := eq_true q250
         go_wp2
         go_roundg kj1
         case measure => have := HK1.out; have := HJ1.out; omega
         case rel => exact ⟨(wrap64 (x3_1 + ((rd_L1 l0 x4_1).length : Int))), (wrap64 (x4_1 + 1)), (by first | rfl | (simp; done) | (simp [*]; done) | (simp; exact (by decide : ∀ a_ b_ : Bool, (a_ == b_) = (!a_ != b_)) _ _)), (by first | rfl | (simp; done) | (simp [*]; done) | (simp; exact (by decide : ∀ a_ b_ : Bool, (a_ == b_) = (!a_ != b_)) _ _)), H', ⟨by have := HK1.out; have := HJ1.out; omega⟩, by repeat (first | exact Drawn0.refl _ | apply Drawn0.step)⟩
       ·
        rw [if_neg c6] at H
        exact absurd H (by simp)
      ·
       rw [if_neg c5] at H
       exact absurd H (by simp)
     ·
      replace c4 := Bool.eq_false_iff.mpr c4
      subst c4
      have H1 : (some (decide ((l0.length : Int) ≤ 100))) = some r := by rw [if_neg (show ¬ (false = true) by decide)] at H; exact H
      clear H; have H := H1; clear H1
      obtain rfl := Option.some.inj H
      go_wp2
      go_ret
      exact ⟨by first | rfl | (simp; done) | (simp [*]; done) | (simp; exact (by decide : ∀ a_ b_ : Bool, (a_ == b_) = (!a_ != b_)) _ _), by repeat (first | exact Drawn0.refl _ | apply Drawn0.step)⟩

/-! ### shardlogref01_Same: function 11 -/
def shardlogref01_Same.f (l0 : List Int) (l1 : List Int) : Option (Bool) := some ((strOfNums l0).toList == (strOfNums l1).toList)
set_option maxHeartbeats 8000000 in
set_option maxRecDepth 100000 in
theorem shardlogref01_Same.calls (A0 : Option Addr) (c0 : Nat) (l0 : List Int) (A1 : Option Addr) (c1 : Nat) (l1 : List Int) (r : Bool) (w : World) (hr0 : Kd.C (Kd.int .u8) w A0 l0.length l0) (hc0 : l0.length ≤ c0) (hr1 : Kd.C (Kd.int .u8) w A1 l1.length l1) (hc1 : l1.length ≤ c1) (h : shardlogref01_Same.f l0 l1 = some r) :
  Calls Try.prog 11 #[.slice A0 l0.length c0, .slice A1 l1.length c1] w fun e w' => e = .returned (.bool r) ∧ Drawn0 w w' := by
 have HR0 := aS hr0
 have HC0 := aS hc0
 clear hr0 hc0
 have HR1 := aS hr1
 have HC1 := aS hc1
 clear hr1 hc1
 have H : (some ((strOfNums l0).toList == (strOfNums l1).toList)) = some r := h
 clear h
 obtain rfl := Option.some.inj H
 have hcv3 := Kd.C_string (P := Try.prog) (A := A0) (c := c0) Try.underlying25 Try.underlying5 Try.underlying9 HR0.out
 have hcv4 := fun (m_ : Nat) => Kd.C_string (P := Try.prog) (A := A0) (c := c0) Try.underlying25 Try.underlying5 Try.underlying9 (Kd.C_drewN (HR0.out) m_)
 have hcv5 := Kd.C_string (P := Try.prog) (A := A1) (c := c1) Try.underlying25 Try.underlying5 Try.underlying9 HR1.out
 have hcv6 := fun (m_ : Nat) => Kd.C_string (P := Try.prog) (A := A1) (c := c1) Try.underlying25 Try.underlying5 Try.underlying9 (Kd.C_drewN (HR1.out) m_)
 go_enter Try.func11, Try.ntmps11
 go_wp2
 go_ret
 exact ⟨by first | rfl | (simp; done) | (simp [*]; done) | (simp; exact (by decide : ∀ a_ b_ : Bool, (a_ == b_) = (!a_ != b_)) _ _), by repeat (first | exact Drawn0.refl _ | apply Drawn0.step)⟩

/-! ### shardloglaw06_FrameKeeps: function 7 -/
/-- Where an element stands, and that its bytes may be written. -/
theorem wl_at {w : World} {base : Nat} {ok : Nat → Prop} {A : Option Addr} {n c : Nat} {ns : List Nat} (h : wl.R 25 w base ok (.slice A n c) ns) (i : Nat) (hi : i < n) :
  ∃ gx B cb, A = some ⟨gx, 0, none⟩ ∧ w.cell? ⟨gx, i, none⟩ = some (.slice B (ns.getD i 0) cb) ∧ ns.getD i 0 ≤ cb ∧ WrB w base ok B (ns.getD i 0) := by
 obtain ⟨hn, hc, hC⟩ := Kd.R_reads' h
 obtain ⟨gx, rfl⟩ : ∃ gx, A = some ⟨gx, 0, none⟩ := by
  obtain ⟨_, inner, ho, _⟩ := h
  rcases ho.2 with ⟨hv, h0⟩ | ⟨g, cap', cur, hv, _⟩
  ·
   injection hv with _ hv _
   omega
  ·
   injection hv with hv _ _
   exact ⟨g, hv⟩
 obtain ⟨cs, hl, hM, hcell, _⟩ := Kd.R_elem h 0 (i : Int) (by omega) (by omega)
 rw [Int.toNat_natCast] at hM hcell
 obtain ⟨B, cb, rfl, hle, hw⟩ := wl_open hM
 refine ⟨gx, B, cb, rfl, ?_, hle, hw.imp id ?_⟩
 ·
  have := hcell 0 _ rfl
  rw [Nat.add_zero, show wl.sz = 1 from rfl, Nat.mul_one] at this
  exact this
 ·
  rintro ⟨g, cells, h1, h2, h3⟩
  exact ⟨g, cells, h1, h2.1, h3⟩
theorem wrap_succ {q m : Nat} (h1 : m < 4294967296) (h2 : q < m) : wrap64 ((q : Int) + 1) = ((q + 1 : Nat) : Int) := by unfold wrap64; omega
theorem meas_ {q m : Nat} (h1 : m < 4294967296) (h2 : q < m) : m - (intOf (.int .i64 (wrap64 ((q : Int) + 1)))).toNat < m - (intOf (.int .i64 (q : Int))).toNat := by
 rw [wrap_succ h1 h2]
 simp only [intOf]
 omega
theorem store_one {P : Program} {ops : Array Oper} {o : Oper} {a : Act} {Q : Exit → Act → World → Prop} {Kc : Act → World → Prop} {W w1 : World} {N : Option Tmp} (hw : Region.wanted o (yielded ops a.tmps) = true) (hN : o.dst = N) (hrun : (execOp a.eval o).run P W = .ok .skip w1) (h : Kc (a.put N undef) w1) : if Region.wanted o (yielded ops a.tmps) = true then Oper.wp P o a W Kc Q else Kc (a.put N undef) W := by
 rw [if_pos hw]
 unfold Oper.wp
 rw [hrun]
 subst hN
 exact h
def shardloglaw06_FrameKeeps.j0 (k : Nat) (l0 : List (List Int)) (x : Bool) : Option Bool :=
 if x = true then (shardloglaw06_awake.f k).bind fun t => some t else (frame_All.f k l0).bind fun b => if b.length < 4294967296 then (frame_Scan.f k b).bind fun t => if t.1.length < 4294967296 ∧ ∀ r ∈ t.1, r.length < 4294967296 then shardlogref01_Same.f b b else none else none
def shardloglaw06_FrameKeeps.f (k : Nat) (l0 : List (List Int)) : Option Bool :=
 (shardloglaw06_awake.f k).bind fun t => if t = true then (shardlogref06_Few.f k l0).bind fun u => shardloglaw06_FrameKeeps.j0 k l0 (!u) else shardloglaw06_FrameKeeps.j0 k l0 true
theorem shardloglaw06_FrameKeeps.j0_mono (k l0 x) : LeO (shardloglaw06_FrameKeeps.j0 k l0 x) (shardloglaw06_FrameKeeps.j0 (k + 1) l0 x) :=
 LeO.ite (LeO.bind (shardloglaw06_awake.mono _) fun _ => LeO.refl _) (LeO.bind (frame_All.mono _ _) fun _ => LeO.ite (LeO.bind (frame_Scan.mono _ _) fun _ => LeO.refl _) (LeO.refl _))
theorem shardloglaw06_FrameKeeps.mono : ∀ a0 k, LeO (shardloglaw06_FrameKeeps.f k a0) (shardloglaw06_FrameKeeps.f (k + 1) a0) := fun a0 k =>
 LeO.bind (shardloglaw06_awake.mono _) fun _ => LeO.ite (LeO.bind (shardlogref06_Few.mono _ _) fun _ => shardloglaw06_FrameKeeps.j0_mono _ _ _) (shardloglaw06_FrameKeeps.j0_mono _ _ _)
set_option maxHeartbeats 8000000 in
set_option maxRecDepth 100000 in
theorem shardloglaw06_FrameKeeps.calls (k : Nat) (A0 : Option Addr) (c0 : Nat) (l0 : List (List Int)) (r : Bool) (w : World) (hr0 : Kd.C (Kd.slice 5 (Kd.int .u8)) w A0 l0.length l0) (hc0 : l0.length ≤ c0) (h : shardloglaw06_FrameKeeps.f k l0 = some r) :
  Calls Try.prog 7 #[.slice A0 l0.length c0] w fun e w' => e = .returned (.bool r) ∧ Below w.heap.size w w' := by
 have HR0 := aS hr0
 have HC0 := aS hc0
 clear hr0 hc0
 have HB := aS (Below.refl w.heap.size w)
 have HC3 := aS h
 clear h
 go_enter Try.func7, Try.ntmps7
 go_upto_region 1 with (fail)
 go_cut [15] (fun v15 wc => ∃ (x15 : Bool), v15 = .bool x15 ∧ Aside0 (shardloglaw06_FrameKeeps.j0 k l0 x15 = some r) ∧ Aside0 (Below w.heap.size w wc))
 case first =>
  have H := HC3.out; clear HC3
  unfold shardloglaw06_FrameKeeps.f at H
  obtain ⟨t, A40, H⟩ := obm H
  have A4 := aS A40
  clear A40
  cases t with
  | true =>
   rw [if_pos rfl] at H
   obtain ⟨u, A60, H⟩ := obm H
   have A6 := aS A60
   clear A60
   have H' := aS H
   clear H
   go_wp2_with (first | ((with_reducible refine gate_callee (f := 9) rfl ?_); refine goesL_ (some 9) rfl rfl Try.func9 (by kernel_rfl) rfl #[] rfl (by (try simp only [List.map_toArray, List.map_cons, List.map_nil]); first | done | rfl) ?_; (with_reducible refine (shardloglaw06_awake.calls k true _ A4.out).mono ?_); rintro e w8 ⟨rfl, hb⟩; refine ⟨_, rfl, ?_⟩; have n0_ := aS (below_step (by repeat (first | (with_reducible first | exact HB.out | apply bal | apply bdN | apply bdo) | exact HB.out)) hb); clear HB; have HB := n0_; clear n0_ hb) | (go_at_call 10; (with_reducible refine (shardlogref06_Few.calls k _ _ l0 u _ ?side1 ?side2 A6.out).mono ?_); (case side1 => repeat (first | exact (Kd.C_below HR0.out HB.out) | (with_reducible refine Kd.C_alloc ?_ _) | (with_reducible refine Kd.C_drewN ?_ _) | (with_reducible refine Kd.C_drew ?_))); (case side2 => exact HC0.out); rintro e w9 ⟨rfl, hdr⟩; (have n0_ := aS (below_step (by repeat (first | (with_reducible first | exact HB.out | apply bal | apply bdN | apply bdo) | exact HB.out)) hdr.below)); clear HB; have HB := n0_; clear n0_ hdr))
   go_meet
   case rel => exact ⟨_, (by first | rfl | (simp; done) | (simp [*]; done)), H', ⟨(by repeat (first | (with_reducible first | exact HB.out | apply bal | apply bdN | apply bdo) | exact HB.out))⟩⟩
  | false =>
   rw [if_neg Bool.false_ne_true] at H
   have H' := aS H
   clear H
   go_wp2_with (first | ((with_reducible refine gate_callee (f := 9) rfl ?_); refine goesL_ (some 9) rfl rfl Try.func9 (by kernel_rfl) rfl #[] rfl (by (try simp only [List.map_toArray, List.map_cons, List.map_nil]); first | done | rfl) ?_; (with_reducible refine (shardloglaw06_awake.calls k false _ A4.out).mono ?_); rintro e w8 ⟨rfl, hb⟩; refine ⟨_, rfl, ?_⟩; have n0_ := aS (below_step (by repeat (first | (with_reducible first | exact HB.out | apply bal | apply bdN | apply bdo) | exact HB.out)) hb); clear HB; have HB := n0_; clear n0_ hb))
   go_meet
   case rel => exact ⟨_, (by first | rfl | (simp; done) | (simp [*]; done)), H', ⟨(by repeat (first | (with_reducible first | exact HB.out | apply bal | apply bdN | apply bdo) | exact HB.out))⟩⟩
 case rest =>
  clear HC3
  obtain ⟨x15, rfl, HA, HB⟩ := hcut
  have H := HA.out; clear HA
  unfold shardloglaw06_FrameKeeps.j0 at H
  cases x15 with
  | true =>
   rw [if_pos rfl] at H
   obtain ⟨t, A40, H⟩ := obm H
   have A4 := aS A40
   clear A40
   obtain rfl := Option.some.inj H
   go_wp2_with (first | ((with_reducible refine gate_callee (f := 9) rfl ?_); refine goesL_ (some 16) rfl rfl Try.func9 (by kernel_rfl) rfl #[] rfl (by (try simp only [List.map_toArray, List.map_cons, List.map_nil]); first | done | rfl) ?_; (with_reducible refine (shardloglaw06_awake.calls k _ _ A4.out).mono ?_); rintro e w8 ⟨rfl, hb⟩; refine ⟨_, rfl, ?_⟩; have n0_ := aS (below_step (by repeat (first | (with_reducible first | exact HB.out | apply bal | apply bdN | apply bdo) | exact HB.out)) hb); clear HB; have HB := n0_; clear n0_ hb))
   go_ret
   exact ⟨rfl, (by repeat (first | (with_reducible first | exact HB.out | apply bal | apply bdN | apply bdo) | exact HB.out))⟩
  | false =>
   rw [if_neg Bool.false_ne_true] at H
   obtain ⟨b, A10, H⟩ := obm H
   by_cases hl : b.length < 4294967296
   rotate_left
   ·
    rw [if_neg hl] at H
    cases H
   rw [if_pos hl] at H
   obtain ⟨⟨t1, t2⟩, A20, H⟩ := obm H
   by_cases hm : (t1, t2).1.length < 4294967296 ∧ ∀ q ∈ (t1, t2).1, q.length < 4294967296
   rotate_left
   ·
    rw [if_neg hm] at H
    cases H
   rw [if_pos hm] at H
   have A1 := aS A10
   have A2 := aS A20
   have AS := aS H
   have HL := aS hl
   have HM := aS (show t1.length < 4294967296 ∧ ∀ q ∈ t1, q.length < 4294967296 from hm)
   clear A10 A20 H hl hm
   go_wp2_with (first | ((with_reducible refine gate_callee (f := 14) rfl ?_); refine goesL_ (some 18) rfl rfl Try.func14 (by kernel_rfl) rfl #[.slice A0 l0.length c0] rfl (by (try simp only [List.map_toArray, List.map_cons, List.map_nil]); first | done | rfl) ?_; (with_reducible refine (frame_All.calls k _ _ l0 b _ ?side1 ?side2 A1.out).mono ?_); (case side1 => repeat (first | exact (Kd.C_below HR0.out HB.out) | (with_reducible refine Kd.C_alloc ?_ _) | (with_reducible refine Kd.C_drewN ?_ _) | (with_reducible refine Kd.C_drew ?_))); (case side2 => exact HC0.out); rintro e w3 ⟨vb, rfl, ho0, hb⟩; refine ⟨_, rfl, ?_⟩; obtain ⟨Ab, cb, rfl⟩ := Kd.R_slice ho0; have hcb := aS (Kd.R_reads' ho0).2.1; have FB := aS (Kd.R_F ho0); have n1_ := aS (below_step (by repeat (first | (with_reducible first | exact HB.out | apply bal | apply bdN | apply bdo) | exact HB.out)) hb); clear HB; have HB := n1_; clear n1_ hb ho0) | ((with_reducible refine gate_dst (N := 19) rfl ?_); refine Kd.R_lit (Kd.int .u8) _ 5 ?hg (N := 19) ?hd (xs := ([] : List Int)) (inner := []) (ok := fun _ => True) (okp := fun _ => True) ?hr ?hp (fun _ hk => hk) trivial (Below.refl _ _) (Nat.le_refl _) (by simp) ?_; (case hd => rfl); (case hg => rfl); (case hr => first | (go_simp; done) | (go_simp; rfl)); (case hp => exact (Reps.none _ _)); intro v19 w4 ho hb4 hg_ hnew_; clear hg_ hnew_; have HO := aS ho; have H4 := aS hb4; clear ho hb4) | ((with_reducible refine gate_builtin (b := .append) (xs := #[.tmp 19, .tmp 20]) rfl ?_); at_builtin; refine Kd.R_append_rows (Kd.int .u8) _ rfl (.tmp 19) (.tmp 20) 25 5 (.int .u8 0) 1 rfl Try.underlying25 info5 rfl (by decide) (by omega) v19 [] b _ _ _ (fun _ => True) (fun _ => False) rfl rfl HO.out (Kd.F_now (Kd.F_below (by (with_reducible repeat (first | apply Kd.F_alloc | apply Kd.F_drewN | apply Kd.F_drew)); exact FB.out) H4.out)) (fun _ _ h => h) (fun _ h => h.elim) (fun _ _ => trivial) H4.out H4.out.size (by have := HL.out; simp only [List.length_nil]; omega) ?_; intro v21 w5 ho hb5 hg hat; clear hg hat; rw [List.nil_append] at ho; obtain ⟨Aw, cw, rfl⟩ := Kd.R_slice ho; have hcw := aS (Kd.R_reads' ho).2.1; have FW := aS (Kd.R_F ho); have n0_ := aS (Kd.F_below (by (with_reducible repeat (first | apply Kd.F_alloc | apply Kd.F_drewN | apply Kd.F_drew)); exact FB.out) hb5); have n1_ := aS (below_step (by repeat (first | (with_reducible first | exact HB.out | apply bal | apply bdN | apply bdo) | exact HB.out)) hb5); clear FB HB HO H4 ho hb5; have FB := n0_; have HB := n1_; clear n0_ n1_) | ((with_reducible refine gate_callee (f := 15) rfl ?_); refine goesL_ (some 24) rfl rfl Try.func15 (by kernel_rfl) rfl #[.slice Ab b.length cb] rfl (by (try simp only [List.map_toArray, List.map_cons, List.map_nil]); first | done | rfl) ?_; (with_reducible refine (frame_Scan.calls3 k (fun _ => True) _ _ b t1 t2 _ ?side1 A2.out).mono ?_); (case side1 => exact Kd.V_mk hcb.out (by (with_reducible repeat (first | apply Kd.F_alloc | apply Kd.F_drewN | apply Kd.F_drew)); exact FB.out)); rintro e w6 ⟨vx, rfl, ho0, hb⟩; refine ⟨_, rfl, ?_⟩; obtain ⟨Ax, cx, rfl⟩ := Kd.R_slice ho0; rw [List.length_map] at ho0; have HX := aS ho0; have H6 := aS hb; clear ho0 hb))
   obtain ⟨n, hn⟩ : ∃ n_ : Nat, n_ = t1.length := ⟨_, rfl⟩
   obtain ⟨ns, hns⟩ : ∃ n_ : List Nat, n_ = t1.map List.length := ⟨_, rfl⟩
   have HN := aS (show n < 4294967296 ∧ ∀ i, ns.getD i 0 < 4294967296 from ⟨by rw [hn]; exact HM.out.1, fun i => by
    rw [hns, List.getD_eq_getElem?_getD, List.getElem?_map]
    cases e : t1[i]? with
    | none => simp
    | some q => exact HM.out.2 q (List.mem_of_getElem? e)⟩)
   rw [← hn, ← hns] at HX
   try rw [List.length_map]
   try rw [← hn]
   have HNE := aS hn
   clear hn hns HM HNE
   go_loopw [7] (fun v7 wr => ∃ i : Nat, v7 = .int .i64 (i : Int) ∧ Aside0 (i ≤ n) ∧ Aside0 (wl.R 25 wr w5.heap.size (fun _ => True) (.slice Ax n cx) ns) ∧ Aside0 (Below w5.heap.size w5 wr)) (fun i _ => n - (intOf i).toNat)
   case atStart => exact ⟨0, rfl, ⟨Nat.zero_le _⟩, HX, H6⟩
   case round =>
    clear HX H6
    obtain ⟨i, rfl, hi, HX, H6⟩ := hrel
    by_cases hin : i < n
    ·
     have b1 : decide ((i : Int) < (n : Int)) = true := decide_eq_true (by omega)
     have b1n : decide (i < n) = true := decide_eq_true hin
     have HI := aS hin
     clear hin hi
     go_wp2
     clear b1 b1n
     obtain ⟨m, hm⟩ : ∃ m_ : Nat, m_ = ns.getD i 0 := ⟨_, rfl⟩
     have HM := aS hm
     have HMB := aS (show m < 4294967296 by rw [hm]; exact HN.out.2 i)
     clear hm
     go_loopw [8] (fun v8 wr => ∃ q : Nat, v8 = .int .i64 (q : Int) ∧ Aside0 (wl.R 25 wr w5.heap.size (fun _ => True) (.slice Ax n cx) ns) ∧ Aside0 (Below w5.heap.size w5 wr) ∧ Aside0 (q ≤ m)) (fun q _ => m - (intOf q).toNat)
     case atStart => exact ⟨0, rfl, HX, H6, ⟨Nat.zero_le _⟩⟩
     case round =>
      clear HX H6
      obtain ⟨q, rfl, HX, H6, hq⟩ := hrel
      obtain ⟨gx, B, cB, rfl, hx, hxl, hW⟩ := wl_at HX.out i HI.out
      rw [← HM.out] at hx hxl hW
      have p1 : ((0 : Int) ≤ (i : Int)) = True := eq_true (by omega)
      have p2 : ((i : Int) < (n : Int)) = True := eq_true (by have := HI.out; omega)
      have p2n : (i < n) = True := eq_true HI.out
      have HXL := aS hxl
      have HW := aS hW
      clear hxl hW
      have HQ0 := hq.out
      by_cases hqm : q < m
      ·
       have b2 : decide ((q : Int) < (m : Int)) = true := decide_eq_true (by omega)
       have b2n : decide (q < m) = true := decide_eq_true hqm
       have p3 : ((0 : Int) ≤ (q : Int)) = True := eq_true (by omega)
       have p4 : ((q : Int) < (m : Int)) = True := eq_true (by omega)
       have p4n : (q < m) = True := eq_true hqm
       have HQ := aS hqm
       obtain ⟨g, cells, rfl, _, hgb, hgc, hgi⟩ : ∃ g cells, B = some ⟨g, 0, none⟩ ∧ True ∧ w5.heap.size ≤ g ∧ wr.heap[g]? = some (.cells cells 5 (0, 0)) ∧ ∀ j, j < m → ∃ z, cells[j]? = some (.int .u8 z) := HW.out.resolve_left (by omega)
       obtain ⟨z, hz⟩ := hgi q hqm
       have hy : wr.cell? ⟨g, q, none⟩ = some (.int .u8 z) := by simp [World.cell?, hgc, hz]
       have hf : wr.frozen? ⟨g, q, none⟩ = false := by simp [World.frozen?, hgc]
       have HGB := aS hgb
       have HGC := aS hgc
       have HGZ := aS hz
       clear hgb hgc hgi hz hqm hq HQ0
       go_wp2
       refine start_ (n := 15) (ds := [14]) (S := fun w' => w'.cell? ⟨gx, i, none⟩ = some (.slice (some ⟨g, 0, none⟩) m cB) ∧ w'.cell? ⟨g, q, none⟩ = some (.int .u8 z)) #[false, false, false, false, false, false, false, false, false, false, false, false, false, false, false] (by kernel_rfl) rfl rfl ⟨hx, hy⟩ (fun hHeld => ?_)
       refine pure_ (i := 0) (N := (some 42)) (v := ?_) (a' := ?_) #[true, false, false, false, false, false, false, false, false, false, false, false, false, false, false] rfl rfl (by kernel_rfl) (fun _ _ _ h => h) (Or.inl ⟨by rfl, ?_⟩) ?_ ?_
       rotate_left
       ·
        intro w'
        go_simp
        with_reducible rfl
       rotate_left
       ·
        simp only [Act.put, lsa, lsz, lss, i64_w, i32_w]
        rfl
       refine pure_ (i := 1) (N := (some 43)) (v := ?_) (a' := ?_) #[true, true, false, false, false, false, false, false, false, false, false, false, false, false, false] rfl rfl (by kernel_rfl) (fun _ _ _ h => h) (Or.inl ⟨by rfl, ?_⟩) ?_ ?_
       rotate_left
       ·
        intro w'
        go_simp
        with_reducible rfl
       rotate_left
       ·
        simp only [Act.put, lsa, lsz, lss, i64_w, i32_w]
        rfl
       refine pure_ (i := 2) (N := (some 44)) (v := ?_) (a' := ?_) #[true, true, true, false, false, false, false, false, false, false, false, false, false, false, false] rfl rfl (by kernel_rfl) (fun _ _ _ h => h) (Or.inl ⟨by rfl, ?_⟩) ?_ ?_
       rotate_left
       ·
        intro w'
        go_simp
        with_reducible rfl
       rotate_left
       ·
        simp only [Act.put, lsa, lsz, lss, i64_w, i32_w]
        rfl
       refine pure_ (i := 4) (N := (some 46)) (v := ?_) (a' := ?_) #[true, true, true, false, true, false, false, false, false, false, false, false, false, false, false] rfl rfl (by kernel_rfl) (fun _ _ _ h => h) (Or.inl ⟨by rfl, ?_⟩) ?_ ?_
       rotate_left
       ·
        intro w'
        go_simp
        with_reducible rfl
       rotate_left
       ·
        simp only [Act.put, lsa, lsz, lss, i64_w, i32_w]
        rfl
       refine pure_ (i := 5) (N := (some 47)) (v := ?_) (a' := ?_) #[true, true, true, false, true, true, false, false, false, false, false, false, false, false, false] rfl rfl (by kernel_rfl) (fun _ _ _ h => h) (Or.inl ⟨by rfl, ?_⟩) ?_ ?_
       rotate_left
       ·
        intro w'
        go_simp
        with_reducible rfl
       rotate_left
       ·
        simp only [Act.put, lsa, lsz, lss, i64_w, i32_w]
        rfl
       refine pure_ (i := 6) (N := (some 48)) (v := ?_) (a' := ?_) #[true, true, true, false, true, true, true, false, false, false, false, false, false, false, false] rfl rfl (by kernel_rfl) (fun _ _ _ h => h) (Or.inl ⟨by rfl, ?_⟩) ?_ ?_
       rotate_left
       ·
        intro w'
        go_simp
        with_reducible rfl
       rotate_left
       ·
        simp only [Act.put, lsa, lsz, lss, i64_w, i32_w]
        rfl
       refine pure_ (i := 7) (N := (some 49)) (v := ?_) (a' := ?_) #[true, true, true, false, true, true, true, true, false, false, false, false, false, false, false] rfl rfl (by kernel_rfl) (fun _ _ _ h => h) (Or.inl ⟨by rfl, ?_⟩) ?_ ?_
       rotate_left
       ·
        intro w'
        go_simp
        with_reducible rfl
       rotate_left
       ·
        simp only [Act.put, lsa, lsz, lss, i64_w, i32_w]
        rfl
       refine pure_ (i := 9) (N := (some 51)) (v := ?_) (a' := ?_) #[true, true, true, false, true, true, true, true, false, true, false, false, false, false, false] rfl rfl (by kernel_rfl) (fun _ _ _ h => h) (Or.inl ⟨by rfl, ?_⟩) ?_ ?_
       rotate_left
       ·
        intro w'
        go_simp
        with_reducible rfl
       rotate_left
       ·
        simp only [Act.put, lsa, lsz, lss, i64_w, i32_w]
        rfl
       refine take_ (i := 3) (N := (some 45)) (v := .slice (some ⟨g, 0, none⟩) m cB) (a' := ?a3) #[true, true, true, true, true, true, true, true, false, true, false, false, false, false, false] rfl rfl (by kernel_rfl) (fun _ _ _ h => h) ?hy3 hHeld ?ha3 ?hh3
       case hy3 => exact Or.inl ⟨by rfl, fun w' hw' => by obtain ⟨y0, y1⟩ := hw'; go_simp⟩
       case ha3 =>
        simp only [Act.put, lsa, lsz, lss, i64_w, i32_w]
        rfl
       refine take_ (i := 8) (N := (some 50)) (v := .slice (some ⟨g, 0, none⟩) m cB) (a' := ?a8) #[true, true, true, true, true, true, true, true, true, true, false, false, false, false, false] rfl rfl (by kernel_rfl) (fun _ _ _ h => h) ?hy8 hHeld ?ha8 ?hh8
       case hy8 => exact Or.inl ⟨by rfl, fun w' hw' => by obtain ⟨y0, y1⟩ := hw'; go_simp⟩
       case ha8 =>
        simp only [Act.put, lsa, lsz, lss, i64_w, i32_w]
        rfl
       refine pure_ (i := 10) (N := (some 52)) (v := ?_) (a' := ?_) #[true, true, true, true, true, true, true, true, true, true, true, false, false, false, false] rfl rfl (by kernel_rfl) (fun _ _ _ h => h) (Or.inl ⟨by rfl, ?_⟩) ?_ ?_
       rotate_left
       ·
        intro w'
        go_simp
        with_reducible rfl
       rotate_left
       ·
        simp only [Act.put, lsa, lsz, lss, i64_w, i32_w]
        rfl
       refine take_ (i := 11) (N := (some 53)) (v := .int .u8 z) (a' := ?a11) #[true, true, true, true, true, true, true, true, true, true, true, true, false, false, false] rfl rfl (by kernel_rfl) (fun _ _ _ h => h) ?hy11 hHeld ?ha11 ?hh11
       case hy11 => exact Or.inl ⟨by rfl, fun w' hw' => by obtain ⟨y0, y1⟩ := hw'; go_simp⟩
       case ha11 =>
        simp only [Act.put, lsa, lsz, lss, i64_w, i32_w]
        rfl
       refine pure_ (i := 12) (N := (some 54)) (v := ?_) (a' := ?_) #[true, true, true, true, true, true, true, true, true, true, true, true, true, false, false] rfl rfl (by kernel_rfl) (fun _ _ _ h => h) (Or.inl ⟨by rfl, ?_⟩) ?_ ?_
       rotate_left
       ·
        intro w'
        go_simp
        with_reducible rfl
       rotate_left
       ·
        simp only [Act.put, lsa, lsz, lss, i64_w, i32_w]
        rfl
       refine pure_ (i := 13) (N := (some 55)) (v := ?_) (a' := ?_) #[true, true, true, true, true, true, true, true, true, true, true, true, true, true, false] rfl rfl (by kernel_rfl) (fun _ _ _ h => h) (Or.inl ⟨by rfl, ?_⟩) ?_ ?_
       rotate_left
       ·
        intro w'
        go_simp
        with_reducible rfl
       rotate_left
       ·
        simp only [Act.put, lsa, lsz, lss, i64_w, i32_w]
        rfl
       refine last_ (i := 14) (N := none) #[true, true, true, true, true, true, true, true, true, true, true, true, true, true, true] rfl rfl (by kernel_rfl) (by decide) (fun K hK => ?_)
       refine store_one (by rfl) rfl (w1 := (World.drew wr).setCell ⟨g, q, none⟩ (.int .u8 (Go.bits .xor .u8 z 255))) ?hrun ?_
       case hrun => first | (go_simp; done) | (go_simp; rfl)
       refine hK.out _ _ ?_
       clear hK K
       refine done_ (by kernel_rfl) ?_
       try go_wp2
       go_roundw
       case rel => exact ⟨q + 1, (by rw [wrap_succ HMB.out HQ.out]), ⟨wl_set (Kd.R_drew HX.out) HGC.out q _⟩, ⟨Below.setCell (below_drew H6.out) HGB.out _⟩, ⟨by have := HQ.out; omega⟩⟩
       case measure => exact meas_ HMB.out HQ.out
      ·
       have b2 : decide ((q : Int) < (m : Int)) = false := decide_eq_false (by omega)
       have b2n : decide (q < m) = false := decide_eq_false hqm
       clear hqm hq HQ0
       go_wp2
       go_roundw
       case rel => exact ⟨i + 1, (by rw [wrap_succ HN.out.1 HI.out]), ⟨HI.out⟩, HX, H6⟩
       case measure => exact meas_ HN.out.1 HI.out
    ·
     have b1 : decide ((i : Int) < (n : Int)) = false := decide_eq_false (by omega)
     have b1n : decide (i < n) = false := decide_eq_false hin
     clear hin hi
     go_wp2_with (first | (go_at_call 11; (with_reducible refine (shardlogref01_Same.calls _ _ b _ _ b r _ ?side1 ?side2 ?side3 ?side4 AS.out).mono ?_); (case side1 => repeat (first | exact (Kd.C_below (Kd.F_now FB.out) H6.out) | (with_reducible refine Kd.C_alloc ?_ _) | (with_reducible refine Kd.C_drewN ?_ _) | (with_reducible refine Kd.C_drew ?_))); (case side2 => exact hcb.out); (case side3 => repeat (first | exact (Kd.C_below (Kd.F_now FW.out) H6.out) | (with_reducible refine Kd.C_alloc ?_ _) | (with_reducible refine Kd.C_drewN ?_ _) | (with_reducible refine Kd.C_drew ?_))); (case side4 => exact hcw.out); rintro e w' ⟨rfl, ⟨nd, rfl⟩⟩; (try first | exact ⟨rfl, _, World.drewN_drewN _ _ _⟩)))
     go_ret
     exact ⟨rfl, by repeat (first | (with_reducible first | exact below_step HB.out H6.out | apply bal | apply bdN | apply bdo) | exact below_step HB.out H6.out)⟩


/-- THE ONE PURE STATEMENT of shardloglaw06_FrameKeeps. -/
def shardloglaw06_FrameKeeps.Pure : Prop := ∀ (l0 : List (List Int)), (l0.length ≤ maxLen ∧ l0.length * 24 ≤ 140737488351232 ∧ ∀ y0_ ∈ l0, (y0_.length ≤ maxLen ∧ y0_.length * 1 ≤ 140737488351232 ∧ ∀ y1_ ∈ y0_, (Lit.int .u8 y1_).wf = true)) → ∃ k, shardloglaw06_FrameKeeps.f k l0 = some true
theorem shardloglaw06_FrameKeeps.walk (P : shardloglaw06_FrameKeeps.Pure) (A0 : Option Addr) (c0 : Nat) (l0 : List (List Int)) (w : World) (wf0 : (l0.length ≤ maxLen ∧ l0.length * 24 ≤ 140737488351232 ∧ ∀ y0_ ∈ l0, (y0_.length ≤ maxLen ∧ y0_.length * 1 ≤ 140737488351232 ∧ ∀ y1_ ∈ y0_, (Lit.int .u8 y1_).wf = true))) (hr0 : Kd.C (Kd.slice 5 (Kd.int .u8)) w A0 l0.length l0) (hc0 : l0.length ≤ c0) :
  Calls Try.prog 7 #[.slice A0 l0.length c0] w fun e w' => e = .returned (.bool true) ∧ Below w.heap.size w w' := by
 obtain ⟨k, h⟩ := P l0 wf0
 refine (shardloglaw06_FrameKeeps.calls k A0 c0 l0 true w hr0 hc0 h).mono ?_
 rintro e w' ⟨rfl, hd⟩
 exact ⟨rfl, hd⟩

end Go.Proofs.Ytfbkljpfopiegaa.X
