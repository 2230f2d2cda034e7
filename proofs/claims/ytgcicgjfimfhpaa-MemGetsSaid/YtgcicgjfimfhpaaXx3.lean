-- written by a program of this session's, over the kit's print
import Derived.Test.YtgcicgjfimfhpaaXx0
import Derived.Test.YtgcicgjfimfhpaaXx2
namespace Go.Proofs.Ytgcicgjfimfhpaa.X
open Go.RowKit Go.Proofs.YtgcicgjfimfhpaaW.PrintWords Go.Proofs.YtgcicgjfimfhpaaW.PrintLast Go.Proofs.YtgcicgjfimfhpaaW.PrintMore
attribute [local go_sem] max2_int min2_int max_two min_two max_three min_three max_four min_four gtr_str   -- for this text's walks alone
set_option linter.unusedVariables false
set_option linter.unusedSimpArgs false

/-! ### slices_Concat_byte_byte: function 44 -/
theorem slices_Concat_byte_byte_g0 (w : World) : Calls Try.prog 49 #[.slice none 0 0, .int .i64 0] w fun e w' => e = .returned (.slice none 0 0) ∧ w = w' := by
 go_enter Try.func49, Try.ntmps49
 go_wp2
 go_ret
 exact ⟨rfl, rfl⟩
theorem slices_Concat_byte_byte_g1 (n : Int) (w : World) (h0 : 0 < n) (hn : n ≤ 140737488355328) : Calls Try.prog 49 #[.slice none 0 0, .int .i64 n] w fun e w' => ∃ v0_ : Value, e = .returned v0_ ∧ Kd.R (Kd.int .u8) 5 w' w.heap.size (fun _ => True) v0_ [] ∧ Below w.heap.size w w' := by
 have p1 : ¬ n < 0 := by omega
 have p3 : 0 ≤ n := by omega
 obtain ⟨i0, hi0, _, _, _⟩ := info_parts info5
 have hcut0 := cut_to (P := Try.prog) 31 5 .i64 Try.underlying31 hi0 none 0 0 0 (by omega) (by omega) (by omega)
 go_enter Try.func49, Try.ntmps49
 go_wp2_with (first
  | (at_builtin; refine Kd.R_append_zeros (Kd.int .u8) (w0 := w) w.heap.size rfl (.tmp 20) (.tmp 21) 31 3 5 (.int .u8 0) 1 rfl Try.underlying31 Try.underlying3 info5 rfl (by decide) (by omega) (.slice none 0 0) [] 0 (n : Int) (fun _ => True) rfl rfl rfl (fun _ _ => trivial) (Kd.R_nil _ _ _ _ _) p3 (Below.refl _ _) (Nat.le_refl _) (by simp; omega) ?_; intro v1 w1 ho hb hg hat; clear hg hat; obtain ⟨A1, c1, rfl⟩ := Kd.R_slice ho; have ht := Kd.R_take (m := 0) ho (Nat.zero_le _); have HO := aS ht; have HB := aS hb; have hcut1 := cut_to (P := Try.prog) 31 5 .i64 Try.underlying31 hi0 A1 ([] ++ List.replicate n.toNat (0 : Int)).length c1 0 (by omega) (by omega) (Kd.R_reads' ho).2.1; clear ho hb ht))
 go_ret
 exact ⟨_, rfl, HO.out, HB.out⟩
def slices_Concat_byte_byte.f (l0 : List (List Int)) : Option (List Int) := if lenSum l0 ≤ 140737488355328 then some l0.flatten else none
set_option maxHeartbeats 2000000 in
theorem slices_Concat_byte_byte.calls (A0 : Option Addr) (c0 : Nat) (l0 : List (List Int)) (r : List Int) (w : World) (hr0 : Kd.C (Kd.slice 5 (Kd.int .u8)) w A0 l0.length l0) (hc0 : l0.length ≤ c0) (h : slices_Concat_byte_byte.f l0 = some r) :
  Calls Try.prog 44 #[.slice A0 l0.length c0] w fun e w' => ∃ v0_ : Value, e = .returned (v0_) ∧ Kd.R (Kd.int .u8) 5 w' w.heap.size (fun _ => True) v0_ r ∧ Below w.heap.size w w' := by
 unfold slices_Concat_byte_byte.f at h
 split at h
 rotate_left
 ·
  cases h
 rename_i hlim
 obtain rfl := Option.some.inj h
 clear h
 have HL := aS hlim
 have HR := aS hr0
 have HM := aS (Kd.C_max hr0)
 clear hlim hr0 hc0
 go_enter Try.func44, Try.ntmps44
 go_wp2
 go_loop [3, 11] (fun s i => ∃ k : Nat, i = .int .i64 (k : Int) ∧ s = .int .i64 ((lenSum (l0.take k) : Nat) : Int) ∧ Aside0 (k ≤ l0.length)) (fun _ i => l0.length - (intOf i).toNat)
 case atStart => exact ⟨0, rfl, by simp [lenSum], ⟨Nat.zero_le _⟩⟩
 case round =>
  obtain ⟨k, rfl, rfl, hk⟩ := hrel
  by_cases hlt : k < l0.length
  ·
   obtain ⟨ad, A1, c1, rfl, hcell, hl1, hC1⟩ := at_L5 HR.out (k : Int) (by omega) (by omega)
   rw [Int.toNat_natCast] at hcell
   have b1 : lenSum (l0.take (k + 1)) = lenSum (l0.take k) + (rd_L5 l0 (k : Int)).length := lenSum_take l0 k hlt
   have b2 := lenSum_le l0 (k + 1)
   have b3 := HL.out
   have b4 : ((lenSum (l0.take k) : Nat) : Int) + ((rd_L5 l0 (k : Int)).length : Int) ≤ 140737488355328 := by omega
   have e1 : ((lenSum (l0.take k) : Nat) : Int) + ((rd_L5 l0 (k : Int)).length : Int) = ((lenSum (l0.take (k + 1)) : Nat) : Int) := by omega
   have E1 := aS e1
   have b5 := HM.out; clear b1 b2 b3 e1 hl1 hC1
   go_wp2
   go_round
   case rel => exact ⟨k + 1, by go_num, by rw [E1.out], ⟨by omega⟩⟩
   case measure => simp [intOf]; omega
  ·
   have hkl : k = l0.length := by have := hk.out; omega
   subst hkl
   rw [List.take_length]
   have b0 := HL.out
   by_cases hz : lenSum l0 = 0
   all_goals
    go_wp2_with (first
     | (go_at_call 49; rw [hz]; refine (slices_Concat_byte_byte_g0 _).mono ?_; rintro e w1 ⟨rfl, rfl⟩; have HB := aS (Below.refl w.heap.size w); have HO := aS (Kd.R_nil (Kd.int .u8) 5 w w.heap.size (fun _ => True)))
     | (go_at_call 49; refine (slices_Concat_byte_byte_g1 _ _ (by omega) (by omega)).mono ?_; rintro e w1 ⟨v0, rfl, ho, hb⟩; have HO := aS ho; have HB := aS hb; clear ho hb))
    go_loopw [6, 27] (fun v i w2 => ∃ k : Nat, i = .int .i64 (k : Int) ∧ Aside0 (k ≤ l0.length) ∧ Aside0 (Kd.R (Kd.int .u8) 5 w2 w.heap.size (fun _ => True) v (l0.take k).flatten) ∧ Aside0 (Below w.heap.size w w2)) (fun _ i _ => l0.length - (intOf i).toNat)
    case atStart => exact ⟨0, rfl, ⟨Nat.zero_le _⟩, HO, HB⟩
    case round =>
     clear HO HB
     obtain ⟨k, rfl, hk1, HO1, HB1⟩ := hrel
     by_cases hlt : k < l0.length
     ·
      obtain ⟨ad, A1, c1, rfl, hcell, hl1, hC1⟩ := at_L5 (Kd.C_below HR.out HB1.out) (k : Int) (by omega) (by omega)
      rw [Int.toNat_natCast] at hcell
      have b1 : lenSum (l0.take (k + 1)) = lenSum (l0.take k) + (rd_L5 l0 (k : Int)).length := lenSum_take l0 k hlt
      have b2 := lenSum_le l0 (k + 1)
      have b3 : lenSum (l0.take k) + (rd_L5 l0 (k : Int)).length ≤ 140737488355328 := by omega
      have B3 := aS b3
      have F3 := aS (show (l0.take (k + 1)).flatten = (l0.take k).flatten ++ rd_L5 l0 (k : Int) from flat_take l0 k hlt)
      have HC1 := aS hC1
      have b5 := HM.out; clear b1 b2 hl1 hC1 b0 b3
      go_wp2_with (first
       | (at_builtin; refine Kd.R_append_row (Value.int .u8) (0 : Int) (h1 := fun _ => rfl) (w0 := w) w.heap.size rfl (.tmp 31) (.tmp 32) 31 5 _ 1 rfl Try.underlying31 info5 rfl (by decide) _ (l0.take k).flatten (rd_L5 l0 (k : Int)) A1 (rd_L5 l0 (k : Int)).length c1 (fun _ => True) rfl rfl (fun _ _ => trivial) HO1.out HC1.out HB1.out HB1.out.size (by rw [flat_length]; have := B3.out; omega) ?_; intro v2 w3 ho hb hg hat; clear hg hat; rw [← F3.out] at ho; have HO2 := aS ho; have HB2 := aS hb; clear ho hb))
      go_roundw
      case rel => exact ⟨k + 1, by go_num, ⟨by omega⟩, HO2, HB2⟩
      case measure => simp [intOf]; omega
     ·
      have hkl : k = l0.length := by have := hk1.out; omega
      subst hkl
      rw [List.take_length] at HO1
      go_wp2
      go_ret
      exact ⟨_, rfl, HO1.out, HB1.out⟩

/-! ### wire_Num: function 46 -/
def wire_Num.f (a0 : Int) : Option (List Int) := if a0 < 0 then (some ([] : List Int)) else (if a0 > 4294967295 then (some ([] : List Int)) else (some (([(a0 / 16777216) % 256, (a0 / 65536) % 256, (a0 / 256) % 256, (a0) % 256] : List Int))))
set_option maxHeartbeats 8000000 in
set_option maxRecDepth 100000 in
theorem wire_Num.calls (a0 : Int) (r : List Int) (w : World) (h : wire_Num.f a0 = some r) :
  Calls Try.prog 46 #[.int .i64 a0] w fun e w' => ∃ v0_ : Value, e = .returned (v0_) ∧ Kd.R (Kd.int .u8) 5 w' w.heap.size (fun _ => True) v0_ r ∧ Below w.heap.size w w' := by
 have HB := aS (Below.refl w.heap.size w)
 have H : (if a0 < 0 then (some ([] : List Int)) else (if a0 > 4294967295 then (some ([] : List Int)) else (some (([(a0 / 16777216) % 256, (a0 / 65536) % 256, (a0 / 256) % 256, (a0) % 256] : List Int))))) = some r := h
 clear h
 by_cases c2 : a0 < 0
 ·
  rw [if_pos c2] at H
  have c2b0 : decide (a0 < 0) = true := decide_eq_true c2
  clear c2
  obtain rfl := Option.some.inj H
  go_enter Try.func46, Try.ntmps46
  go_wp2
  go_ret
  exact ⟨_, rf3, by first | exact Kd.R_nil _ _ _ _ _ | exact Kd.N_nil _ _ _ _ _ | exact Kd.V_nil _ _ _ _ _ | exact Kd.Q_nil _ _ _ _ _ | exact Kd.S_nil _ _ _ _ _, bel⟩
 ·
  rw [if_neg c2] at H
  have c2b0 : decide (a0 < 0) = false := decide_eq_false c2
  clear c2
  by_cases c3 : a0 > 4294967295
  ·
   rw [if_pos c3] at H
   have c3b0 : decide (4294967295 < a0) = true := decide_eq_true c3
   clear c3
   obtain rfl := Option.some.inj H
   go_enter Try.func46, Try.ntmps46
   go_wp2
   go_ret
   exact ⟨_, rf3, by first | exact Kd.R_nil _ _ _ _ _ | exact Kd.N_nil _ _ _ _ _ | exact Kd.V_nil _ _ _ _ _ | exact Kd.Q_nil _ _ _ _ _ | exact Kd.S_nil _ _ _ _ _, bel⟩
  ·
   rw [if_neg c3] at H
   have c3b0 : decide (4294967295 < a0) = false := decide_eq_false c3
   clear c3
   obtain ⟨y123, hy123⟩ : ∃ y_ : List Int, y_ = (([(a0 / 16777216) % 256, (a0 / 65536) % 256, (a0 / 256) % 256, (a0) % 256] : List Int)) := ⟨_, rfl⟩
   replace H : (some y123) = some r := by first | (rw [hy123]; with_reducible exact H) | (have H2_ := (Option.bind_some _ _).symm.trans H; rw [hy123]; with_reducible exact H2_) | (have H2_ := (Option.bind_some _ _).symm.trans H; with_reducible exact H2_) | with_reducible exact H | (rw [hy123]; exact H) | exact H
   have Ny123 := aS hy123
   clear hy123
   obtain rfl := Option.some.inj H
   go_enter Try.func46, Try.ntmps46
   go_wp2_with (first | ((with_reducible refine gate_dst (N := 20) rfl ?_); refine Kd.R_lit (Kd.int .u8) _ 5 ?hg (N := 20) ?hd (xs := ([(a0 / 16777216) % 256, (a0 / 65536) % 256, (a0 / 256) % 256, (a0) % 256] : List Int)) (inner := [.int .u8 ((a0 / 16777216) % 256), .int .u8 ((a0 / 65536) % 256), .int .u8 ((a0 / 256) % 256), .int .u8 ((a0) % 256)]) (ok := fun _ => True) (okp := fun _ => True) ?hr ?hp (fun _ hk => hk) trivial (Below.refl _ _) (Nat.le_refl _) (by simp) ?_; (case hd => rfl); (case hg => rfl); (case hr => first | (go_simp; done) | (go_simp; rfl)); (case hp => exact (Reps.one (show Kd.M (Kd.int .u8) _ _ _ ((a0 / 16777216) % 256) [.int .u8 ((a0 / 16777216) % 256)] from rfl) (Reps.one (show Kd.M (Kd.int .u8) _ _ _ ((a0 / 65536) % 256) [.int .u8 ((a0 / 65536) % 256)] from rfl) (Reps.one (show Kd.M (Kd.int .u8) _ _ _ ((a0 / 256) % 256) [.int .u8 ((a0 / 256) % 256)] from rfl) (Reps.one (show Kd.M (Kd.int .u8) _ _ _ ((a0) % 256) [.int .u8 ((a0) % 256)] from rfl) (Reps.none _ _)))))); intro v124 w4 ho5 hb hg_ hnew_; clear hg_ hnew_; (first | rw [← Ny123.out] at ho5 | (simp only [Int.reduceToNat] at ho5; rw [← Ny123.out] at ho5)); have n0_ := aS (Kd.R_lower ho5 (below_size bel)); have n1_ := bstep hb; clear HB; have HO125 := n0_; have HB := n1_; clear n0_ n1_; clear hb ho5))
   go_ret
   exact ⟨_, rf3, by (with_reducible repeat (first | apply Kd.R_alloc | apply Kd.R_drewN | apply Kd.R_drew)); exact HO125.out, bel⟩

/-! ### wire_Text: function 45 -/
def wire_Text.f (a0 : ByteArray) : Option (List Int) := (wire_Num.f (a0.size : Int)).bind fun t126 => (if t126.length + a0.size < 140737488355328 then (some (t126 ++ bytesOf a0)) else (none))
set_option maxHeartbeats 8000000 in
set_option maxRecDepth 100000 in
theorem wire_Text.calls (a0 : ByteArray) (r : List Int) (w : World) (h : wire_Text.f a0 = some r) :
  Calls Try.prog 45 #[.string a0] w fun e w' => ∃ v0_ : Value, e = .returned (v0_) ∧ Kd.R (Kd.int .u8) 5 w' w.heap.size (fun _ => True) v0_ r ∧ Below w.heap.size w w' := by
 have HB := aS (Below.refl w.heap.size w)
 have H : ((wire_Num.f (a0.size : Int)).bind fun t126 => (if t126.length + a0.size < 140737488355328 then (some (t126 ++ bytesOf a0)) else (none))) = some r := h
 clear h
 replace H := obm H
 obtain ⟨t126, A20, H⟩ := H
 replace H : (if t126.length + a0.size < 140737488355328 then (some (t126 ++ bytesOf a0)) else (none)) = some r := H
 have A2 := aS A20
 clear A20
 by_cases c3 : t126.length + a0.size < 140737488355328
 ·
  rw [if_pos c3] at H
  have LMc3 := aS c3
  clear c3
  obtain ⟨y129, hy129⟩ : ∃ y_ : List Int, y_ = (t126 ++ bytesOf a0) := ⟨_, rfl⟩
  replace H : (some y129) = some r := by first | (rw [hy129]; with_reducible exact H) | (have H2_ := (Option.bind_some _ _).symm.trans H; rw [hy129]; with_reducible exact H2_) | (have H2_ := (Option.bind_some _ _).symm.trans H; with_reducible exact H2_) | with_reducible exact H | (rw [hy129]; exact H) | exact H
  have Ny129 := aS hy129
  clear hy129
  obtain rfl := Option.some.inj H
  go_enter Try.func45, Try.ntmps45
  go_wp2_with (first | ((with_reducible refine gate_callee (f := 46) rfl ?_); refine goesL_ (some 5) rfl rfl Try.func46 (by kernel_rfl) rfl #[.int .i64 (a0.size : Int)] rfl agn ?_; (with_reducible refine (wire_Num.calls (a0.size : Int) t126 _ A2.out).mono ?_); rintro e w4 ⟨v127, rfl, ho0, hb⟩; refine ⟨_, rfl, ?_⟩; have n0_ := aS (Kd.R_lower ho0 (below_size bel)); have n1_ := bstep hb; clear HB; have HO128 := n0_; have HB := n1_; clear n0_ n1_; (try clear hb); (try clear hb2); (try clear hk); (try clear hi); (try clear ho0)) | (at_builtin; refine print_append_str (w0 := w) w.heap.size rfl (.tmp 5) _ 31 9 5 rfl Try.underlying31 Try.underlying9 info5 v127 t126 a0 rfl rfl ?aO ?aB ?aS ?aL ?_; (case aB => exact bel); (case aO => exact (Kd.own_of_R (rel HO128.out))); (case aS => exact (below_size bel)); (case aL => have := LMc3.out; omega); intro v130 w5 ho0 hb hg; have ho := Kd.R_of_own (h1 := fun _ => rfl) (ok := fun _ => True) ho0 (fun _ _ => trivial); clear ho0; have hat := True.intro; rw [← Ny129.out] at ho; change Kd.R (Kd.int .u8) 5 w5 w.heap.size (fun _ => True) v130 y129 at ho; have n0_ := aS (hb); have n1_ := aS (ho); clear HB; clear HO128; have HB := n0_; have HO131 := n1_; clear n0_ n1_; clear ho hb hg hat))
  go_ret
  exact ⟨_, rf3, by (with_reducible repeat (first | apply Kd.R_alloc | apply Kd.R_drewN | apply Kd.R_drew)); exact HO131.out, bel⟩
 ·
  rw [if_neg c3] at H
  exact absurd H (by simp)

/-! ### cell_flag: function 47 -/
def cell_flag.f (a0 : Bool) : Option (Int) := if a0 = true then (some 1) else (some 0)
set_option maxHeartbeats 8000000 in
set_option maxRecDepth 100000 in
theorem cell_flag.calls (a0 : Bool) (r : Int) (w : World) (h : cell_flag.f a0 = some r) :
  Calls Try.prog 47 #[.bool a0] w fun e w' => e = .returned (.int .u8 r) ∧ Drawn0 w w' := by
 have H : (if a0 = true then (some 1) else (some 0)) = some r := h
 clear h
 by_cases c2 : a0 = true
 ·
  subst c2
  have H1 : (some 1) = some r := by rw [if_pos rfl] at H; exact H
  clear H; have H := H1; clear H1
  obtain rfl := Option.some.inj H
  go_enter Try.func47, Try.ntmps47
  go_wp2
  go_ret
  exact ⟨by first | rfl | (simp; done) | (simp [*]; done) | (simp; exact (by decide : ∀ a_ b_ : Bool, (a_ == b_) = (!a_ != b_)) _ _), by repeat (first | exact Drawn0.refl _ | apply Drawn0.step)⟩
 ·
  replace c2 := Bool.eq_false_iff.mpr c2
  subst c2
  have H1 : (some 0) = some r := by rw [if_neg (show ¬ (false = true) by decide)] at H; exact H
  clear H; have H := H1; clear H1
  obtain rfl := Option.some.inj H
  go_enter Try.func47, Try.ntmps47
  go_wp2
  go_ret
  exact ⟨by first | rfl | (simp; done) | (simp [*]; done) | (simp; exact (by decide : ∀ a_ b_ : Bool, (a_ == b_) = (!a_ != b_)) _ _), by repeat (first | exact Drawn0.refl _ | apply Drawn0.step)⟩

/-! ### cell_Put: function 39 -/
def cell_Put.f (a0_0 : ByteArray) (a0_1 : ByteArray) (a0_2 : Int) (a0_3 : ByteArray) (a0_4 : Bool) : Option (List Int) := (wire_Text.f a0_0).bind fun t133 => ((wire_Text.f a0_1).bind fun t136 => ((wire_Num.f a0_2).bind fun t139 => ((cell_flag.f a0_4).bind fun t142 => ((wire_Text.f a0_3).bind fun t146 => ((slices_Concat_byte_byte.f (([t133, t136, t139, (([t142] : List Int)), t146] : List (List Int)))).bind fun t152 => (some t152))))))
def cell_Put.T1 : Bool × List (List Nat × List Nat) := (true, [([], []), ([0], [0]), ([1], [1]), ([], []), ([3], [3]), ([4, 2], [4]), ([], []), ([6], [6]), ([7, 5], [7]), ([], []), ([9], [9]), ([10, 8], [10]), ([11], [11]), ([], []), ([13], [13]), ([14, 11], [14]), ([2, 5, 8, 12, 15], [2, 5, 8, 12, 15]), ([16, 15], [16]), ([17, 17, 0, 1, 2, 3, 4, 5, 6, 7, 8, 9, 10, 11, 12, 13, 14, 15, 16, 17], [17])])
def cell_Put.B1 : List Nat := [0, 1, 3, 0, 8, 31, 0, 64, 255, 0, 512, 2047, 4095, 0, 8192, 28671, 65535, 131071, 262143]
theorem cell_Put.tab1 : rtab .any (opsOf Try.f39 1) = cell_Put.T1 := by kernel_rfl
theorem cell_Put.bits1 : waitsOk cell_Put.T1.2 cell_Put.B1 = true := by kernel_rfl
set_option maxHeartbeats 8000000 in
set_option maxRecDepth 100000 in
theorem cell_Put.calls (a0_0 : ByteArray) (a0_1 : ByteArray) (a0_2 : Int) (a0_3 : ByteArray) (a0_4 : Bool) (r : List Int) (w : World) (h : cell_Put.f a0_0 a0_1 a0_2 a0_3 a0_4 = some r) :
  Calls Try.prog 39 #[.agg #[.string a0_0, .string a0_1, .int .i64 a0_2, .string a0_3, .bool a0_4]] w fun e w' => ∃ v0_ : Value, e = .returned (v0_) ∧ Kd.R (Kd.int .u8) 5 w' w.heap.size (fun _ => True) v0_ r ∧ Below w.heap.size w w' := by
 have hu29 := Try.underlying29
 have HB := aS (Below.refl w.heap.size w)
 have H : ((wire_Text.f a0_0).bind fun t133 => ((wire_Text.f a0_1).bind fun t136 => ((wire_Num.f a0_2).bind fun t139 => ((cell_flag.f a0_4).bind fun t142 => ((wire_Text.f a0_3).bind fun t146 => ((slices_Concat_byte_byte.f (([t133, t136, t139, (([t142] : List Int)), t146] : List (List Int)))).bind fun t152 => (some t152))))))) = some r := h
 clear h
 replace H := obm H
 obtain ⟨t133, A20, H⟩ := H
 replace H : ((wire_Text.f a0_1).bind fun t136 => ((wire_Num.f a0_2).bind fun t139 => ((cell_flag.f a0_4).bind fun t142 => ((wire_Text.f a0_3).bind fun t146 => ((slices_Concat_byte_byte.f (([t133, t136, t139, (([t142] : List Int)), t146] : List (List Int)))).bind fun t152 => (some t152)))))) = some r := H
 have A2 := aS A20
 clear A20
 replace H := obm H
 obtain ⟨t136, A30, H⟩ := H
 replace H : ((wire_Num.f a0_2).bind fun t139 => ((cell_flag.f a0_4).bind fun t142 => ((wire_Text.f a0_3).bind fun t146 => ((slices_Concat_byte_byte.f (([t133, t136, t139, (([t142] : List Int)), t146] : List (List Int)))).bind fun t152 => (some t152))))) = some r := H
 have A3 := aS A30
 clear A30
 replace H := obm H
 obtain ⟨t139, A40, H⟩ := H
 replace H : ((cell_flag.f a0_4).bind fun t142 => ((wire_Text.f a0_3).bind fun t146 => ((slices_Concat_byte_byte.f (([t133, t136, t139, (([t142] : List Int)), t146] : List (List Int)))).bind fun t152 => (some t152)))) = some r := H
 have A4 := aS A40
 clear A40
 replace H := obm H
 obtain ⟨t142, A50, H⟩ := H
 replace H : ((wire_Text.f a0_3).bind fun t146 => ((slices_Concat_byte_byte.f (([t133, t136, t139, (([t142] : List Int)), t146] : List (List Int)))).bind fun t152 => (some t152))) = some r := H
 have A5 := aS A50
 clear A50
 obtain ⟨y143, hy143⟩ : ∃ y_ : List Int, y_ = (([t142] : List Int)) := ⟨_, rfl⟩
 replace H : ((wire_Text.f a0_3).bind fun t146 => ((slices_Concat_byte_byte.f (([t133, t136, t139, y143, t146] : List (List Int)))).bind fun t152 => (some t152))) = some r := by first | (rw [hy143]; with_reducible exact H) | (have H2_ := (Option.bind_some _ _).symm.trans H; rw [hy143]; with_reducible exact H2_) | (have H2_ := (Option.bind_some _ _).symm.trans H; with_reducible exact H2_) | with_reducible exact H | (rw [hy143]; exact H) | exact H
 have Ny143 := aS hy143
 clear hy143
 replace H := obm H
 obtain ⟨t146, A60, H⟩ := H
 replace H : ((slices_Concat_byte_byte.f (([t133, t136, t139, y143, t146] : List (List Int)))).bind fun t152 => (some t152)) = some r := H
 have A6 := aS A60
 clear A60
 obtain ⟨y149, hy149⟩ : ∃ y_ : List (List Int), y_ = (([t133, t136, t139, y143, t146] : List (List Int))) := ⟨_, rfl⟩
 replace H : ((slices_Concat_byte_byte.f y149).bind fun t152 => (some t152)) = some r := by first | (rw [hy149]; with_reducible exact H) | (have H2_ := (Option.bind_some _ _).symm.trans H; rw [hy149]; with_reducible exact H2_) | (have H2_ := (Option.bind_some _ _).symm.trans H; with_reducible exact H2_) | with_reducible exact H | (rw [hy149]; exact H) | exact H
 have Ny149 := aS hy149
 clear hy149
 replace H := obm H
 obtain ⟨t152, A70, H⟩ := H
 replace H : (some t152) = some r := H
 have A7 := aS A70
 clear A70
 obtain rfl := Option.some.inj H
 go_enter Try.func39, Try.ntmps39
 try go_wp2_with (first | ((with_reducible refine gate_dst (N := 1) rfl ?_); refine box_event ?hg (N := 1) ?hd (cs := #[.string a0_0, .string a0_1, .int .i64 a0_2, .string a0_3, .bool a0_4]) (t := 29) ?hr ?_; (case hd => rfl); (case hg => rfl); (case hr => first | (go_simp; done) | (go_simp; rfl)); intro gb132 hg w8 hbox hb; have n0_ := bstep hb; have n1_ := aS (hbox); have n2_ := bsize hg; have n3_ := bsize hg; clear HB; have HB := n0_; have BK132 := n1_; have GW132 := n2_; have GE132 := n3_; clear n0_ n1_ n2_ n3_; clear hb hbox hg))
 have n0_ := aS (blk_drew BK132.out)
 have n1_ := aS (bdo HB.out)
 clear BK132; clear HB
 have BK132 := n0_
 have HB := n1_
 clear n0_ n1_
 refine start_ (n := 19) (S := fun w' => w'.cell? ⟨gb132, 0, none⟩ = some (.string a0_0) ∧ w'.cell? ⟨gb132, 1, none⟩ = some (.string a0_1) ∧ w'.cell? ⟨gb132, 2, none⟩ = some (.int .i64 a0_2) ∧ w'.cell? ⟨gb132, 3, none⟩ = some (.string a0_3) ∧ w'.cell? ⟨gb132, 4, none⟩ = some (.bool a0_4)) (ds := []) #[false, false, false, false, false, false, false, false, false, false, false, false, false, false, false, false, false, false, false] (by kernel_rfl) rfl rfl ⟨(blk_cell BK132.out 0).trans rfl, (blk_cell BK132.out 1).trans rfl, (blk_cell BK132.out 2).trans rfl, (blk_cell BK132.out 3).trans rfl, (blk_cell BK132.out 4).trans rfl⟩ (fun hHeld => ?_); refine with_tabW cell_Put.tab1 cell_Put.bits1 (fun HT_ HW_ => ?_)
 generalize w8.drew = w9 at BK132 HB hHeld ⊢
 refine along_ [(0, 3), (3, 6), (6, 9), (9, 12), (13, 16), (1, 4), (4, 7), (7, 10), (10, 13), (14, 17)] ?_
 iterate 10 (first | (apply pure1 HT_; (case hi => rfl); (case hN => rfl); (case hw => rfl); (case hc => kernel_rfl); (case hQ => exact fun _ _ _ h => h); (case hy => intro w'; go_simp; with_reducible rfl); (case ha => simp only [Act.put, lsa, lsz, lss, i64_w, i32_w]; rfl)) | (apply take1 HT_ HW_ hHeld; (case hi => rfl); (case hN => rfl); (case hw => rfl); (case hc => kernel_rfl); (case hQ => exact fun _ _ _ h => h); (case hy => intro w' hs_; go_simp; with_reducible rfl); (case ha => simp only [Act.put, lsa, lsz, lss, i64_w, i32_w]; rfl)))
 refine lay_ #[true, true, false, true, true, false, true, true, false, true, true, false, false, true, true, false, false, false, false] (by kernel_rfl) ?_
 refine one_ (i := 2) (N := some 5) #[true, true, true, true, true, false, true, true, false, true, true, false, false, true, true, false, false, false, false] rfl rfl (one_of HT_.out (by kernel_rfl)) (by decide) (fun K hK => ?_)
 refine goes_ Try.func45 (by kernel_rfl) rfl #[.string a0_0] (by rfl) rfl rfl agn ?_
 with_reducible refine (wire_Text.calls a0_0 t133 _ A2.out).mono ?_
 rintro e w10 ⟨v134, rfl, ho0, hb⟩
 refine ⟨_, rfl, ?_⟩
 have n0_ := aS (Kd.R_lower ho0 (below_size bel))
 have n1_ := aS (blk_below (g := gb132) (o := .cells #[.string a0_0, .string a0_1, .int .i64 a0_2, .string a0_3, .bool a0_4] 29 (0, 0)) (bkl BK132.out) hb)
 have n2_ := bstep hb
 clear BK132; clear HB
 have HO135 := n0_
 have BK132 := n1_
 have HB := n2_
 clear n0_ n1_ n2_; (try clear hb); (try clear hb2); (try clear hk); (try clear hi); (try clear ho0)
 refine hK.out _ _ ⟨(blk_cell BK132.out 0).trans rfl, (blk_cell BK132.out 1).trans rfl, (blk_cell BK132.out 2).trans rfl, (blk_cell BK132.out 3).trans rfl, (blk_cell BK132.out 4).trans rfl⟩ (fun hHeld => ?_)
 clear hK K
 refine norm_ (a' := ?_) ?_ ?_
 rotate_left
 ·
  show Act.put _ (some 5) _ = _
  simp only [Act.put, lsa, lsz, lss, i64_w, i32_w]
  rfl
 refine one_ (i := 5) (N := some 8) #[true, true, true, true, true, true, true, true, false, true, true, false, false, true, true, false, false, false, false] rfl rfl (one_of HT_.out (by kernel_rfl)) (by decide) (fun K hK => ?_)
 refine goes_ Try.func45 (by kernel_rfl) rfl #[.string a0_1] (by rfl) rfl rfl agn ?_
 with_reducible refine (wire_Text.calls a0_1 t136 _ A3.out).mono ?_
 rintro e w11 ⟨v137, rfl, ho0, hb⟩
 refine ⟨_, rfl, ?_⟩
 have n0_ := aS (Kd.R_elder' (rel HO135.out) (by first | exact Kd.R_base ho0 | exact Kd.S_base ho0 | exact Kd.R_base ho0 | exact Kd.V_base ho0) hb)
 have n1_ := aS (Kd.R_lower (Kd.R_new' ho0 (Kd.R_lt (rel HO135.out))) (below_size bel))
 have n2_ := aS (blk_below (g := gb132) (o := .cells #[.string a0_0, .string a0_1, .int .i64 a0_2, .string a0_3, .bool a0_4] 29 (0, 0)) (bkl BK132.out) hb)
 have n3_ := bstep hb
 clear HO135; clear BK132; clear HB
 have HO135 := n0_
 have HO138 := n1_
 have BK132 := n2_
 have HB := n3_
 clear n0_ n1_ n2_ n3_; (try clear hb); (try clear hb2); (try clear hk); (try clear hi); (try clear ho0)
 refine hK.out _ _ ⟨(blk_cell BK132.out 0).trans rfl, (blk_cell BK132.out 1).trans rfl, (blk_cell BK132.out 2).trans rfl, (blk_cell BK132.out 3).trans rfl, (blk_cell BK132.out 4).trans rfl⟩ (fun hHeld => ?_)
 clear hK K
 refine norm_ (a' := ?_) ?_ ?_
 rotate_left
 ·
  show Act.put _ (some 8) _ = _
  simp only [Act.put, lsa, lsz, lss, i64_w, i32_w]
  rfl
 refine one_ (i := 8) (N := some 11) #[true, true, true, true, true, true, true, true, true, true, true, false, false, true, true, false, false, false, false] rfl rfl (one_of HT_.out (by kernel_rfl)) (by decide) (fun K hK => ?_)
 refine goes_ Try.func46 (by kernel_rfl) rfl #[.int .i64 a0_2] (by rfl) rfl rfl agn ?_
 with_reducible refine (wire_Num.calls a0_2 t139 _ A4.out).mono ?_
 rintro e w12 ⟨v140, rfl, ho0, hb⟩
 refine ⟨_, rfl, ?_⟩
 have n0_ := aS (Kd.R_elder' (rel HO135.out) (by first | exact Kd.R_base ho0 | exact Kd.S_base ho0 | exact Kd.R_base ho0 | exact Kd.V_base ho0) hb)
 have n1_ := aS (Kd.R_elder' (rel HO138.out) (by first | exact Kd.R_base ho0 | exact Kd.S_base ho0 | exact Kd.R_base ho0 | exact Kd.V_base ho0) hb)
 have n2_ := aS (Kd.R_lower (Kd.R_new' (Kd.R_new' ho0 (Kd.R_lt (rel HO135.out))) (Kd.R_lt (rel HO138.out))) (below_size bel))
 have n3_ := aS (blk_below (g := gb132) (o := .cells #[.string a0_0, .string a0_1, .int .i64 a0_2, .string a0_3, .bool a0_4] 29 (0, 0)) (bkl BK132.out) hb)
 have n4_ := bstep hb
 clear HO135; clear HO138; clear BK132; clear HB
 have HO135 := n0_
 have HO138 := n1_
 have HO141 := n2_
 have BK132 := n3_
 have HB := n4_
 clear n0_ n1_ n2_ n3_ n4_; (try clear hb); (try clear hb2); (try clear hk); (try clear hi); (try clear ho0)
 refine hK.out _ _ ⟨(blk_cell BK132.out 0).trans rfl, (blk_cell BK132.out 1).trans rfl, (blk_cell BK132.out 2).trans rfl, (blk_cell BK132.out 3).trans rfl, (blk_cell BK132.out 4).trans rfl⟩ (fun hHeld => ?_)
 clear hK K
 refine norm_ (a' := ?_) ?_ ?_
 rotate_left
 ·
  show Act.put _ (some 11) _ = _
  simp only [Act.put, lsa, lsz, lss, i64_w, i32_w]
  rfl
 refine one_ (i := 11) (N := some 14) #[true, true, true, true, true, true, true, true, true, true, true, true, false, true, true, false, false, false, false] rfl rfl (one_of HT_.out (by kernel_rfl)) (by decide) (fun K hK => ?_)
 refine goes_ Try.func47 (by kernel_rfl) rfl #[.bool a0_4] (by rfl) rfl rfl agn ?_
 with_reducible refine (cell_flag.calls a0_4 t142 _ A5.out).mono ?_
 rintro e w' ⟨rfl, ⟨nd, rfl⟩⟩
 refine ⟨_, rfl, ?_⟩
 refine hK.out _ _ ⟨(blk_cell BK132.out 0).trans rfl, (blk_cell BK132.out 1).trans rfl, (blk_cell BK132.out 2).trans rfl, (blk_cell BK132.out 3).trans rfl, (blk_cell BK132.out 4).trans rfl⟩ (fun hHeld => ?_)
 clear hK K
 refine norm_ (a' := ?_) ?_ ?_
 rotate_left
 ·
  show Act.put _ (some 14) _ = _
  simp only [Act.put, lsa, lsz, lss, i64_w, i32_w]
  rfl
 refine join_ (σ := Value × Value) 3 #[true, true, true, true, true, true, true, true, true, true, true, true, true, true, true, true, false, false, false] (fun s_ => [(15, s_.1), (18, s_.2)]) (fun s_ w' => (w'.cell? ⟨gb132, 0, none⟩ = some (.string a0_0) ∧ w'.cell? ⟨gb132, 1, none⟩ = some (.string a0_1) ∧ w'.cell? ⟨gb132, 2, none⟩ = some (.int .i64 a0_2) ∧ w'.cell? ⟨gb132, 3, none⟩ = some (.string a0_3) ∧ w'.cell? ⟨gb132, 4, none⟩ = some (.bool a0_4)) ∧ (Kd.R (Kd.int .u8) 5 w' w.heap.size (fun k_ => some k_ ≠ (v137 : Value).ownBlock ∧ some k_ ≠ (v140 : Value).ownBlock ∧ some k_ ≠ (s_.1 : Value).ownBlock ∧ some k_ ≠ (s_.2 : Value).ownBlock) v134 t133) ∧ (Kd.R (Kd.int .u8) 5 w' w.heap.size (fun k_ => some k_ ≠ (v134 : Value).ownBlock ∧ some k_ ≠ (v140 : Value).ownBlock ∧ some k_ ≠ (s_.1 : Value).ownBlock ∧ some k_ ≠ (s_.2 : Value).ownBlock) v137 t136) ∧ (Kd.R (Kd.int .u8) 5 w' w.heap.size (fun k_ => some k_ ≠ (v134 : Value).ownBlock ∧ some k_ ≠ (v137 : Value).ownBlock ∧ some k_ ≠ (s_.1 : Value).ownBlock ∧ some k_ ≠ (s_.2 : Value).ownBlock) v140 t139) ∧ (Kd.R (Kd.int .u8) 5 w' w.heap.size (fun k_ => some k_ ≠ (v134 : Value).ownBlock ∧ some k_ ≠ (v137 : Value).ownBlock ∧ some k_ ≠ (v140 : Value).ownBlock ∧ some k_ ≠ (s_.2 : Value).ownBlock) s_.1 y143) ∧ (Kd.R (Kd.int .u8) 5 w' w.heap.size (fun k_ => some k_ ≠ (v134 : Value).ownBlock ∧ some k_ ≠ (v137 : Value).ownBlock ∧ some k_ ≠ (v140 : Value).ownBlock ∧ some k_ ≠ (s_.1 : Value).ownBlock) s_.2 t146) ∧ (w'.heap[gb132]? = some (.cells #[.string a0_0, .string a0_1, .int .i64 a0_2, .string a0_3, .bool a0_4] 29 (0, 0))) ∧ (Below w.heap.size w w')) ?_ ?_
 rotate_left
 ·
  intro hCont
  refine two_ (i := 12) (j := 15) (Ni := some 15) (Nj := some 18) #[true, true, true, true, true, true, true, true, true, true, true, true, true, true, true, false, false, false, false] #[true, true, true, true, true, true, true, true, true, true, true, true, false, true, true, true, false, false, false] rfl rfl rfl rfl (two_of HT_.out (by kernel_rfl)) (by decide) (by decide) (fun K hK => ?_) (fun K hK => ?_)
  ·
   skip
   refine Kd.R_lit_step (Kd.int .u8) _ 5 ?hg (N := 15) ?hd (xs := ([t142] : List Int)) (inner := [.int .u8 t142]) (ok := fun _ => True) (okp := fun _ => True) ?hr ?hp (fun _ hk => hk) trivial (Below.refl _ _) (Nat.le_refl _) (by simp) ?_; (case hd => rfl); (case hg => rfl); (case hr => first | (go_simp; done) | (go_simp; rfl)); (case hp => exact (Reps.one (show Kd.M (Kd.int .u8) _ _ _ t142 [.int .u8 t142] from rfl) (Reps.none _ _)))
   intro v144 w13 ho14 hb hg_ hnew_
   clear hg_ hnew_
   (first | rw [← Ny143.out] at ho14 | (simp only [Int.reduceToNat] at ho14; rw [← Ny143.out] at ho14))
   have n0_ := aS (Kd.R_elder' (rel HO135.out) (by first | exact Kd.R_base ho14 | exact Kd.S_base ho14 | exact Kd.R_base ho14 | exact Kd.V_base ho14) hb)
   have n1_ := aS (Kd.R_elder' (rel HO138.out) (by first | exact Kd.R_base ho14 | exact Kd.S_base ho14 | exact Kd.R_base ho14 | exact Kd.V_base ho14) hb)
   have n2_ := aS (Kd.R_elder' (rel HO141.out) (by first | exact Kd.R_base ho14 | exact Kd.S_base ho14 | exact Kd.R_base ho14 | exact Kd.V_base ho14) hb)
   have n3_ := aS (Kd.R_lower (Kd.R_new' (Kd.R_new' (Kd.R_new' ho14 (Kd.R_lt (rel HO135.out))) (Kd.R_lt (rel HO138.out))) (Kd.R_lt (rel HO141.out))) (below_size bel))
   have n4_ := aS (blk_below (g := gb132) (o := .cells #[.string a0_0, .string a0_1, .int .i64 a0_2, .string a0_3, .bool a0_4] 29 (0, 0)) (bkl BK132.out) hb)
   have n5_ := bstep hb
   clear HO135; clear HO138; clear HO141; clear BK132; clear HB
   have HO135 := n0_
   have HO138 := n1_
   have HO141 := n2_
   have HO145 := n3_
   have BK132 := n4_
   have HB := n5_
   clear n0_ n1_ n2_ n3_ n4_ n5_; clear hb ho14
   refine hK.out _ _ ⟨(blk_cell BK132.out 0).trans rfl, (blk_cell BK132.out 1).trans rfl, (blk_cell BK132.out 2).trans rfl, (blk_cell BK132.out 3).trans rfl, (blk_cell BK132.out 4).trans rfl⟩ (fun hHeld => ?_)
   clear hK K
   refine norm_ (a' := ?_) ?_ ?_
   rotate_left
   ·
    show Act.put _ (some 15) _ = _
    simp only [Act.put, lsa, lsz, lss, i64_w, i32_w]
    rfl
   refine one_ (i := 15) (N := some 18) #[true, true, true, true, true, true, true, true, true, true, true, true, true, true, true, true, false, false, false] rfl rfl (one_of HT_.out (by kernel_rfl)) (by decide) (fun K hK => ?_)
   refine goes_ Try.func45 (by kernel_rfl) rfl #[.string a0_3] (by rfl) rfl rfl agn ?_
   with_reducible refine (wire_Text.calls a0_3 t146 _ A6.out).mono ?_
   rintro e w15 ⟨v147, rfl, ho0, hb⟩
   refine ⟨_, rfl, ?_⟩
   have n0_ := aS (Kd.R_elder' (rel HO135.out) (by first | exact Kd.R_base ho0 | exact Kd.S_base ho0 | exact Kd.R_base ho0 | exact Kd.V_base ho0) hb)
   have n1_ := aS (Kd.R_elder' (rel HO138.out) (by first | exact Kd.R_base ho0 | exact Kd.S_base ho0 | exact Kd.R_base ho0 | exact Kd.V_base ho0) hb)
   have n2_ := aS (Kd.R_elder' (rel HO141.out) (by first | exact Kd.R_base ho0 | exact Kd.S_base ho0 | exact Kd.R_base ho0 | exact Kd.V_base ho0) hb)
   have n3_ := aS (Kd.R_elder' (rel HO145.out) (by first | exact Kd.R_base ho0 | exact Kd.S_base ho0 | exact Kd.R_base ho0 | exact Kd.V_base ho0) hb)
   have n4_ := aS (Kd.R_lower (Kd.R_new' (Kd.R_new' (Kd.R_new' (Kd.R_new' ho0 (Kd.R_lt (rel HO135.out))) (Kd.R_lt (rel HO138.out))) (Kd.R_lt (rel HO141.out))) (Kd.R_lt (rel HO145.out))) (below_size bel))
   have n5_ := aS (blk_below (g := gb132) (o := .cells #[.string a0_0, .string a0_1, .int .i64 a0_2, .string a0_3, .bool a0_4] 29 (0, 0)) (bkl BK132.out) hb)
   have n6_ := bstep hb
   clear HO135; clear HO138; clear HO141; clear HO145; clear BK132; clear HB
   have HO135 := n0_
   have HO138 := n1_
   have HO141 := n2_
   have HO145 := n3_
   have HO148 := n4_
   have BK132 := n5_
   have HB := n6_
   clear n0_ n1_ n2_ n3_ n4_ n5_ n6_; (try clear hb); (try clear hb2); (try clear hk); (try clear hi); (try clear ho0)
   refine hK.out _ _ ⟨(blk_cell BK132.out 0).trans rfl, (blk_cell BK132.out 1).trans rfl, (blk_cell BK132.out 2).trans rfl, (blk_cell BK132.out 3).trans rfl, (blk_cell BK132.out 4).trans rfl⟩ (fun hHeld => ?_)
   clear hK K
   refine norm_ (a' := ?_) ?_ ?_
   rotate_left
   ·
    show Act.put _ (some 18) _ = _
    simp only [Act.put, lsa, lsz, lss, i64_w, i32_w]
    rfl
   exact norm_ (by simp only [putAll, Act.put, lsa, lsz, lss]) (hCont (v144, v147) _ ⟨hHeld, (by (with_reducible repeat (first | apply Kd.R_alloc | apply Kd.R_drewN | apply Kd.R_drew)); exact Kd.R_mono HO135.out (fun _ hk => ⟨hk.1.1.1.2, ⟨hk.1.1.2, ⟨hk.1.2, hk.2⟩⟩⟩)), (by (with_reducible repeat (first | apply Kd.R_alloc | apply Kd.R_drewN | apply Kd.R_drew)); exact Kd.R_mono HO138.out (fun _ hk => ⟨hk.1.1.1.2, ⟨hk.1.1.2, ⟨hk.1.2, hk.2⟩⟩⟩)), (by (with_reducible repeat (first | apply Kd.R_alloc | apply Kd.R_drewN | apply Kd.R_drew)); exact Kd.R_mono HO141.out (fun _ hk => ⟨hk.1.1.1.2, ⟨hk.1.1.2, ⟨hk.1.2, hk.2⟩⟩⟩)), (by (with_reducible repeat (first | apply Kd.R_alloc | apply Kd.R_drewN | apply Kd.R_drew)); exact Kd.R_mono HO145.out (fun _ hk => ⟨hk.1.1.1.2, ⟨hk.1.1.2, ⟨hk.1.2, hk.2⟩⟩⟩)), (by (with_reducible repeat (first | apply Kd.R_alloc | apply Kd.R_drewN | apply Kd.R_drew)); exact Kd.R_mono HO148.out (fun _ hk => ⟨hk.1.1.1.2, ⟨hk.1.1.2, ⟨hk.1.2, hk.2⟩⟩⟩)), (bkl BK132.out), bel⟩)
  ·
   skip
   refine goes_ Try.func45 (by kernel_rfl) rfl #[.string a0_3] (by rfl) rfl rfl agn ?_
   with_reducible refine (wire_Text.calls a0_3 t146 _ A6.out).mono ?_
   rintro e w13 ⟨v147, rfl, ho0, hb⟩
   refine ⟨_, rfl, ?_⟩
   have n0_ := aS (Kd.R_elder' (rel HO135.out) (by first | exact Kd.R_base ho0 | exact Kd.S_base ho0 | exact Kd.R_base ho0 | exact Kd.V_base ho0) hb)
   have n1_ := aS (Kd.R_elder' (rel HO138.out) (by first | exact Kd.R_base ho0 | exact Kd.S_base ho0 | exact Kd.R_base ho0 | exact Kd.V_base ho0) hb)
   have n2_ := aS (Kd.R_elder' (rel HO141.out) (by first | exact Kd.R_base ho0 | exact Kd.S_base ho0 | exact Kd.R_base ho0 | exact Kd.V_base ho0) hb)
   have n3_ := aS (Kd.R_lower (Kd.R_new' (Kd.R_new' (Kd.R_new' ho0 (Kd.R_lt (rel HO135.out))) (Kd.R_lt (rel HO138.out))) (Kd.R_lt (rel HO141.out))) (below_size bel))
   have n4_ := aS (blk_below (g := gb132) (o := .cells #[.string a0_0, .string a0_1, .int .i64 a0_2, .string a0_3, .bool a0_4] 29 (0, 0)) (bkl BK132.out) hb)
   have n5_ := bstep hb
   clear HO135; clear HO138; clear HO141; clear BK132; clear HB
   have HO135 := n0_
   have HO138 := n1_
   have HO141 := n2_
   have HO148 := n3_
   have BK132 := n4_
   have HB := n5_
   clear n0_ n1_ n2_ n3_ n4_ n5_; (try clear hb); (try clear hb2); (try clear hk); (try clear hi); (try clear ho0)
   refine hK.out _ _ ⟨(blk_cell BK132.out 0).trans rfl, (blk_cell BK132.out 1).trans rfl, (blk_cell BK132.out 2).trans rfl, (blk_cell BK132.out 3).trans rfl, (blk_cell BK132.out 4).trans rfl⟩ (fun hHeld => ?_)
   clear hK K
   refine norm_ (a' := ?_) ?_ ?_
   rotate_left
   ·
    show Act.put _ (some 18) _ = _
    simp only [Act.put, lsa, lsz, lss, i64_w, i32_w]
    rfl
   refine one_ (i := 12) (N := some 15) #[true, true, true, true, true, true, true, true, true, true, true, true, true, true, true, true, false, false, false] rfl rfl (one_of HT_.out (by kernel_rfl)) (by decide) (fun K hK => ?_)
   refine Kd.R_lit_step (Kd.int .u8) _ 5 ?hg (N := 15) ?hd (xs := ([t142] : List Int)) (inner := [.int .u8 t142]) (ok := fun _ => True) (okp := fun _ => True) ?hr ?hp (fun _ hk => hk) trivial (Below.refl _ _) (Nat.le_refl _) (by simp) ?_; (case hd => rfl); (case hg => rfl); (case hr => first | (go_simp; done) | (go_simp; rfl)); (case hp => exact (Reps.one (show Kd.M (Kd.int .u8) _ _ _ t142 [.int .u8 t142] from rfl) (Reps.none _ _)))
   intro v144 w14 ho15 hb hg_ hnew_
   clear hg_ hnew_
   (first | rw [← Ny143.out] at ho15 | (simp only [Int.reduceToNat] at ho15; rw [← Ny143.out] at ho15))
   have n0_ := aS (Kd.R_elder' (rel HO135.out) (by first | exact Kd.R_base ho15 | exact Kd.S_base ho15 | exact Kd.R_base ho15 | exact Kd.V_base ho15) hb)
   have n1_ := aS (Kd.R_elder' (rel HO138.out) (by first | exact Kd.R_base ho15 | exact Kd.S_base ho15 | exact Kd.R_base ho15 | exact Kd.V_base ho15) hb)
   have n2_ := aS (Kd.R_elder' (rel HO141.out) (by first | exact Kd.R_base ho15 | exact Kd.S_base ho15 | exact Kd.R_base ho15 | exact Kd.V_base ho15) hb)
   have n3_ := aS (Kd.R_elder' (rel HO148.out) (by first | exact Kd.R_base ho15 | exact Kd.S_base ho15 | exact Kd.R_base ho15 | exact Kd.V_base ho15) hb)
   have n4_ := aS (Kd.R_lower (Kd.R_new' (Kd.R_new' (Kd.R_new' (Kd.R_new' ho15 (Kd.R_lt (rel HO135.out))) (Kd.R_lt (rel HO138.out))) (Kd.R_lt (rel HO141.out))) (Kd.R_lt (rel HO148.out))) (below_size bel))
   have n5_ := aS (blk_below (g := gb132) (o := .cells #[.string a0_0, .string a0_1, .int .i64 a0_2, .string a0_3, .bool a0_4] 29 (0, 0)) (bkl BK132.out) hb)
   have n6_ := bstep hb
   clear HO135; clear HO138; clear HO141; clear HO148; clear BK132; clear HB
   have HO135 := n0_
   have HO138 := n1_
   have HO141 := n2_
   have HO148 := n3_
   have HO145 := n4_
   have BK132 := n5_
   have HB := n6_
   clear n0_ n1_ n2_ n3_ n4_ n5_ n6_; clear hb ho15
   refine hK.out _ _ ⟨(blk_cell BK132.out 0).trans rfl, (blk_cell BK132.out 1).trans rfl, (blk_cell BK132.out 2).trans rfl, (blk_cell BK132.out 3).trans rfl, (blk_cell BK132.out 4).trans rfl⟩ (fun hHeld => ?_)
   clear hK K
   refine norm_ (a' := ?_) ?_ ?_
   rotate_left
   ·
    show Act.put _ (some 15) _ = _
    simp only [Act.put, lsa, lsz, lss, i64_w, i32_w]
    rfl
   exact norm_ (by simp only [putAll, Act.put, lsa, lsz, lss]) (hCont (v144, v147) _ ⟨hHeld, (by (with_reducible repeat (first | apply Kd.R_alloc | apply Kd.R_drewN | apply Kd.R_drew)); exact Kd.R_mono HO135.out (fun _ hk => ⟨hk.1.1.1.2, ⟨hk.1.1.2, ⟨hk.2, hk.1.2⟩⟩⟩)), (by (with_reducible repeat (first | apply Kd.R_alloc | apply Kd.R_drewN | apply Kd.R_drew)); exact Kd.R_mono HO138.out (fun _ hk => ⟨hk.1.1.1.2, ⟨hk.1.1.2, ⟨hk.2, hk.1.2⟩⟩⟩)), (by (with_reducible repeat (first | apply Kd.R_alloc | apply Kd.R_drewN | apply Kd.R_drew)); exact Kd.R_mono HO141.out (fun _ hk => ⟨hk.1.1.1.2, ⟨hk.1.1.2, ⟨hk.2, hk.1.2⟩⟩⟩)), (by (with_reducible repeat (first | apply Kd.R_alloc | apply Kd.R_drewN | apply Kd.R_drew)); exact Kd.R_mono HO145.out (fun _ hk => ⟨hk.1.1.1.2, ⟨hk.1.1.2, ⟨hk.1.2, hk.2⟩⟩⟩)), (by (with_reducible repeat (first | apply Kd.R_alloc | apply Kd.R_drewN | apply Kd.R_drew)); exact Kd.R_mono HO148.out (fun _ hk => ⟨hk.1.1.1.2, ⟨hk.1.1.2, ⟨hk.1.2, hk.2⟩⟩⟩)), (bkl BK132.out), bel⟩)
 rintro ⟨v144, v147⟩ w16 ⟨hS_, h0_, h1_, h2_, h3_, h4_, h5_, h6_⟩
 have n0_ : Aside0 (Kd.R (Kd.int .u8) 5 w16 w.heap.size (fun k_ => some k_ ≠ (v137 : Value).ownBlock ∧ some k_ ≠ (v140 : Value).ownBlock ∧ some k_ ≠ (v144 : Value).ownBlock ∧ some k_ ≠ (v147 : Value).ownBlock) v134 t133) := ⟨h0_⟩
 have n1_ : Aside0 (Kd.R (Kd.int .u8) 5 w16 w.heap.size (fun k_ => some k_ ≠ (v134 : Value).ownBlock ∧ some k_ ≠ (v140 : Value).ownBlock ∧ some k_ ≠ (v144 : Value).ownBlock ∧ some k_ ≠ (v147 : Value).ownBlock) v137 t136) := ⟨h1_⟩
 have n2_ : Aside0 (Kd.R (Kd.int .u8) 5 w16 w.heap.size (fun k_ => some k_ ≠ (v134 : Value).ownBlock ∧ some k_ ≠ (v137 : Value).ownBlock ∧ some k_ ≠ (v144 : Value).ownBlock ∧ some k_ ≠ (v147 : Value).ownBlock) v140 t139) := ⟨h2_⟩
 have n3_ : Aside0 (Kd.R (Kd.int .u8) 5 w16 w.heap.size (fun k_ => some k_ ≠ (v134 : Value).ownBlock ∧ some k_ ≠ (v137 : Value).ownBlock ∧ some k_ ≠ (v140 : Value).ownBlock ∧ some k_ ≠ (v147 : Value).ownBlock) v144 y143) := ⟨h3_⟩
 have n4_ : Aside0 (Kd.R (Kd.int .u8) 5 w16 w.heap.size (fun k_ => some k_ ≠ (v134 : Value).ownBlock ∧ some k_ ≠ (v137 : Value).ownBlock ∧ some k_ ≠ (v140 : Value).ownBlock ∧ some k_ ≠ (v144 : Value).ownBlock) v147 t146) := ⟨h4_⟩
 have n5_ : Aside0 (w16.heap[gb132]? = some (.cells #[.string a0_0, .string a0_1, .int .i64 a0_2, .string a0_3, .bool a0_4] 29 (0, 0))) := ⟨h5_⟩
 have n6_ : Aside0 (Below w.heap.size w w16) := ⟨h6_⟩
 clear BK132; clear HB; clear h0_ h1_ h2_ h3_ h4_ h5_ h6_
 have HO135 := n0_
 have HO138 := n1_
 have HO141 := n2_
 have HO145 := n3_
 have HO148 := n4_
 have BK132 := n5_
 have HB := n6_
 clear n0_ n1_ n2_ n3_ n4_ n5_ n6_
 have hHeld : w16.cell? ⟨gb132, 0, none⟩ = some (.string a0_0) ∧ w16.cell? ⟨gb132, 1, none⟩ = some (.string a0_1) ∧ w16.cell? ⟨gb132, 2, none⟩ = some (.int .i64 a0_2) ∧ w16.cell? ⟨gb132, 3, none⟩ = some (.string a0_3) ∧ w16.cell? ⟨gb132, 4, none⟩ = some (.bool a0_4) := hS_
 obtain ⟨Ao17, co17, eo17⟩ := Kd.R_slice HO135.out
 (first | subst eo17 | (injection eo17 with f1_ f2_ f3_; have f4_ := f1_.symm; have f5_ := f3_.symm; clear f1_ f2_ f3_; subst f4_; subst f5_))
 obtain ⟨Ao18, co18, eo18⟩ := Kd.R_slice HO138.out
 (first | subst eo18 | (injection eo18 with f1_ f2_ f3_; have f4_ := f1_.symm; have f5_ := f3_.symm; clear f1_ f2_ f3_; subst f4_; subst f5_))
 obtain ⟨Ao19, co19, eo19⟩ := Kd.R_slice HO141.out
 (first | subst eo19 | (injection eo19 with f1_ f2_ f3_; have f4_ := f1_.symm; have f5_ := f3_.symm; clear f1_ f2_ f3_; subst f4_; subst f5_))
 obtain ⟨Ao20, co20, eo20⟩ := Kd.R_slice HO145.out
 (first | subst eo20 | (injection eo20 with f1_ f2_ f3_; have f4_ := f1_.symm; have f5_ := f3_.symm; clear f1_ f2_ f3_; subst f4_; subst f5_))
 obtain ⟨Ao21, co21, eo21⟩ := Kd.R_slice HO148.out
 (first | subst eo21 | (injection eo21 with f1_ f2_ f3_; have f4_ := f1_.symm; have f5_ := f3_.symm; clear f1_ f2_ f3_; subst f4_; subst f5_))
 refine norm_ (a' := ?_) ?_ ?_
 rotate_left
 ·
  simp only [putAll, Act.put, lsa, lsz, lss]
  rfl
 refine one_ (i := 16) (N := some 19) #[true, true, true, true, true, true, true, true, true, true, true, true, true, true, true, true, true, false, false] rfl rfl (one_of HT_.out (by kernel_rfl)) (by decide) (fun K hK => ?_)
 refine Kd.N_lit_step (Kd.slice 5 (Kd.int .u8)) _ 31 ?hg (N' := 19) ?hd (xs := ([t133, t136, t139, y143, t146] : List (List Int))) (inner := [.slice Ao17 t133.length co17, .slice Ao18 t136.length co18, .slice Ao19 t139.length co19, .slice Ao20 y143.length co20, .slice Ao21 t146.length co21]) (ok := (fun k_ => k_ ≠ gb132)) (okp := (fun k_ => k_ ≠ gb132)) ?hr ?hp (fun _ hk => hk) ((show ∀ k_, w16.heap.size ≤ k_ → (fun k_ => k_ ≠ gb132) k_ from fun k_ hk => Kd.freshB (g := gb132) (o := .cells #[.string a0_0, .string a0_1, .int .i64 a0_2, .string a0_3, .bool a0_4] 29 (0, 0)) (bkl BK132.out) k_ hk) _ (Nat.le_refl _)) (Below.refl _ _) (Nat.le_refl _) (by simp) ?_; (case hd => rfl); (case hg => rfl); (case hr => first | (go_simp; done) | (go_simp; rfl)); (case hp => exact (Reps.one (show Kd.FK (Kd.slice 5 (Kd.int .u8)) _ _ t133 [.slice Ao17 t133.length co17] from (Kd.FK_slice_mk (Kd.R_reads' (Kd.R_mono (ok' := (fun k_ => k_ ≠ gb132)) (Kd.R_types (HO135.out) BK132.out (by decide)) (fun k_ hk => hk.2))).2.1 (Kd.R_F (Kd.R_mono (ok' := (fun k_ => k_ ≠ gb132)) (Kd.R_types (HO135.out) BK132.out (by decide)) (fun k_ hk => hk.2))))) (Reps.one (show Kd.FK (Kd.slice 5 (Kd.int .u8)) _ _ t136 [.slice Ao18 t136.length co18] from (Kd.FK_slice_mk (Kd.R_reads' (Kd.R_mono (ok' := (fun k_ => k_ ≠ gb132)) (Kd.R_types (HO138.out) BK132.out (by decide)) (fun k_ hk => hk.2))).2.1 (Kd.R_F (Kd.R_mono (ok' := (fun k_ => k_ ≠ gb132)) (Kd.R_types (HO138.out) BK132.out (by decide)) (fun k_ hk => hk.2))))) (Reps.one (show Kd.FK (Kd.slice 5 (Kd.int .u8)) _ _ t139 [.slice Ao19 t139.length co19] from (Kd.FK_slice_mk (Kd.R_reads' (Kd.R_mono (ok' := (fun k_ => k_ ≠ gb132)) (Kd.R_types (HO141.out) BK132.out (by decide)) (fun k_ hk => hk.2))).2.1 (Kd.R_F (Kd.R_mono (ok' := (fun k_ => k_ ≠ gb132)) (Kd.R_types (HO141.out) BK132.out (by decide)) (fun k_ hk => hk.2))))) (Reps.one (show Kd.FK (Kd.slice 5 (Kd.int .u8)) _ _ y143 [.slice Ao20 y143.length co20] from (Kd.FK_slice_mk (Kd.R_reads' (Kd.R_mono (ok' := (fun k_ => k_ ≠ gb132)) (Kd.R_types (HO145.out) BK132.out (by decide)) (fun k_ hk => hk.2))).2.1 (Kd.R_F (Kd.R_mono (ok' := (fun k_ => k_ ≠ gb132)) (Kd.R_types (HO145.out) BK132.out (by decide)) (fun k_ hk => hk.2))))) (Reps.one (show Kd.FK (Kd.slice 5 (Kd.int .u8)) _ _ t146 [.slice Ao21 t146.length co21] from (Kd.FK_slice_mk (Kd.R_reads' (Kd.R_mono (ok' := (fun k_ => k_ ≠ gb132)) (Kd.R_types (HO148.out) BK132.out (by decide)) (fun k_ hk => hk.2))).2.1 (Kd.R_F (Kd.R_mono (ok' := (fun k_ => k_ ≠ gb132)) (Kd.R_types (HO148.out) BK132.out (by decide)) (fun k_ hk => hk.2))))) (Reps.none _ _)))))))
 intro v150 w22 ho23 hb hg_ hnew_
 clear hg_ hnew_
 (first | rw [← Ny149.out] at ho23 | (simp only [Int.reduceToNat] at ho23; rw [← Ny149.out] at ho23))
 have n0_ := aS (Kd.N_lower ho23 (below_size bel))
 have n1_ := aS (blk_below (g := gb132) (o := .cells #[.string a0_0, .string a0_1, .int .i64 a0_2, .string a0_3, .bool a0_4] 29 (0, 0)) (bkl BK132.out) hb)
 have n2_ := bstep hb
 clear BK132; clear HB; clear HO135; clear HO138; clear HO141; clear HO145; clear HO148
 have HO151 := n0_
 have BK132 := n1_
 have HB := n2_
 clear n0_ n1_ n2_; clear hb ho23
 obtain ⟨Ao24, co24, eo24⟩ := Kd.N_slice HO151.out
 (first | subst eo24 | (injection eo24 with f1_ f2_ f3_; have f4_ := f1_.symm; have f5_ := f3_.symm; clear f1_ f2_ f3_; subst f4_; subst f5_))
 refine hK.out _ _ ⟨(blk_cell BK132.out 0).trans rfl, (blk_cell BK132.out 1).trans rfl, (blk_cell BK132.out 2).trans rfl, (blk_cell BK132.out 3).trans rfl, (blk_cell BK132.out 4).trans rfl⟩ (fun hHeld => ?_)
 clear hK K
 refine norm_ (a' := ?_) ?_ ?_
 rotate_left
 ·
  show Act.put _ (some 19) _ = _
  simp only [Act.put, lsa, lsz, lss, i64_w, i32_w]
  rfl
 refine one_ (i := 17) (N := some 20) #[true, true, true, true, true, true, true, true, true, true, true, true, true, true, true, true, true, true, false] rfl rfl (one_of HT_.out (by kernel_rfl)) (by decide) (fun K hK => ?_)
 refine goes_ Try.func44 (by kernel_rfl) rfl #[.slice Ao24 y149.length co24] (by rfl) rfl rfl agn ?_
 with_reducible refine (slices_Concat_byte_byte.calls _ _ y149 t152 _ ?side1 ?side2 A7.out).mono ?_
 (case side1 => exact cel ((Kd.N_reads' HO151.out).2.2))
 (case side2 => exact (Kd.N_reads' HO151.out).2.1)
 rintro e w25 ⟨v153, rfl, ho0, hb⟩
 refine ⟨_, rfl, ?_⟩
 have n0_ := aS (Kd.N_elder' (by (with_reducible repeat (first | apply Kd.N_alloc | apply Kd.N_drewN | apply Kd.N_drew)); exact HO151.out) (by first | exact Kd.R_base ho0 | exact Kd.S_base ho0 | exact Kd.R_base ho0 | exact Kd.V_base ho0) hb)
 have n1_ := aS (Kd.R_lower ho0 (below_size bel))
 have n2_ := aS (blk_below (g := gb132) (o := .cells #[.string a0_0, .string a0_1, .int .i64 a0_2, .string a0_3, .bool a0_4] 29 (0, 0)) (bkl BK132.out) hb)
 have n3_ := bstep hb
 clear HO151; clear BK132; clear HB
 have HO151 := n0_
 have HO154 := n1_
 have BK132 := n2_
 have HB := n3_
 clear n0_ n1_ n2_ n3_; (try clear hb); (try clear hb2); (try clear hk); (try clear hi); (try clear ho0)
 refine hK.out _ _ ⟨(blk_cell BK132.out 0).trans rfl, (blk_cell BK132.out 1).trans rfl, (blk_cell BK132.out 2).trans rfl, (blk_cell BK132.out 3).trans rfl, (blk_cell BK132.out 4).trans rfl⟩ (fun hHeld => ?_)
 clear hK K
 refine norm_ (a' := ?_) ?_ ?_
 rotate_left
 ·
  show Act.put _ (some 20) _ = _
  simp only [Act.put, lsa, lsz, lss, i64_w, i32_w]
  rfl
 refine pure_ (i := 18) (N := some 2) (v := ?_) (a' := ?_) #[true, true, true, true, true, true, true, true, true, true, true, true, true, true, true, true, true, true, true] rfl rfl (any_of HT_.out (by kernel_rfl)) (fun _ _ _ h => h) (Or.inl ⟨by rfl, ?_⟩) ?_ ?_
 rotate_left
 ·
  intro w'
  go_simp
  with_reducible rfl
 rotate_left
 ·
  simp only [Act.put, lsa, lsz, lss, i64_w, i32_w]
  rfl
 refine done_ (done_of HT_.out (by kernel_rfl)) ?_
 try go_wp2
 go_ret
 exact ⟨_, rf3, by (with_reducible repeat (first | apply Kd.R_alloc | apply Kd.R_drewN | apply Kd.R_drew)); exact HO154.out, bel⟩

/-! ### mem_weigh: function 28 -/
def mem_weigh.f (a0_0 : ByteArray) (a0_1 : ByteArray) (a0_2 : Int) (a0_3 : ByteArray) (a0_4 : Bool) : Option (Int) := (cell_Put.f a0_0 a0_1 a0_2 a0_3 a0_4).bind fun t156 => (some (t156.length : Int))
set_option maxHeartbeats 8000000 in
set_option maxRecDepth 100000 in
theorem mem_weigh.calls (a0_0 : ByteArray) (a0_1 : ByteArray) (a0_2 : Int) (a0_3 : ByteArray) (a0_4 : Bool) (r : Int) (w : World) (h : mem_weigh.f a0_0 a0_1 a0_2 a0_3 a0_4 = some r) :
  Calls Try.prog 28 #[.agg #[.string a0_0, .string a0_1, .int .i64 a0_2, .string a0_3, .bool a0_4]] w fun e w' => e = .returned (.int .i64 r) ∧ Below w.heap.size w w' := by
 have hu29 := Try.underlying29
 have HB := aS (Below.refl w.heap.size w)
 have H : ((cell_Put.f a0_0 a0_1 a0_2 a0_3 a0_4).bind fun t156 => (some (t156.length : Int))) = some r := h
 clear h
 replace H := obm H
 obtain ⟨t156, A20, H⟩ := H
 replace H : (some (t156.length : Int)) = some r := H
 have A2 := aS A20
 clear A20
 obtain rfl := Option.some.inj H
 go_enter Try.func28, Try.ntmps28
 go_wp2_with (first | ((with_reducible refine gate_dst (N := 1) rfl ?_); refine box_event ?hg (N := 1) ?hd (cs := #[.string a0_0, .string a0_1, .int .i64 a0_2, .string a0_3, .bool a0_4]) (t := 29) ?hr ?_; (case hd => rfl); (case hg => rfl); (case hr => first | (go_simp; done) | (go_simp; rfl)); intro gb155 hg w3 hbox hb; have n0_ := bstep hb; have n1_ := aS (hbox); have n2_ := bsize hg; have n3_ := bsize hg; clear HB; have HB := n0_; have BK155 := n1_; have GW155 := n2_; have GE155 := n3_; clear n0_ n1_ n2_ n3_; clear hb hbox hg; have hcz4 := cK5 BK155) | ((with_reducible refine gate_callee (f := 39) rfl ?_); refine goesL_ (some 4) rfl rfl Try.func39 (by kernel_rfl) rfl #[.agg #[.string a0_0, .string a0_1, .int .i64 a0_2, .string a0_3, .bool a0_4]] rfl agn ?_; (with_reducible refine (cell_Put.calls a0_0 a0_1 a0_2 a0_3 a0_4 t156 _ A2.out).mono ?_); rintro e w5 ⟨v157, rfl, ho0, hb⟩; refine ⟨_, rfl, ?_⟩; have n0_ := aS (Kd.R_lower ho0 (below_size bel)); have n1_ := aS (blk_below (g := gb155) (o := .cells #[.string a0_0, .string a0_1, .int .i64 a0_2, .string a0_3, .bool a0_4] 29 (0, 0)) (bkl BK155.out) hb); have n2_ := bstep hb; clear BK155; clear HB; have HO158 := n0_; have BK155 := n1_; have HB := n2_; clear n0_ n1_ n2_; (try clear hb); (try clear hb2); (try clear hk); (try clear hi); (try clear ho0); obtain ⟨Ao6, co6, eo6⟩ := Kd.R_slice HO158.out; subst eo6))
 go_ret
 exact ⟨rf3, bel⟩

-- NOT PRINTED: function 40 (api_Cell_40)

-- NOT PRINTED: function 50 (api_Cell_50)

-- NOT PRINTED: function 48 (api_Cell_48)

-- NOT PRINTED: function 41 (api_Cell_41)

/-! ### api_Cell_29: function 29 -/
set_option maxHeartbeats 8000000 in
set_option maxRecDepth 100000 in
theorem api_Cell_29.ins (w : World) (base : Nat) (ok : Nat → Prop) (v : Value) (xs : List S29) (x : S29) (i : Nat) (vb : Nat) (HO : Kd.R k29 29 w base ok v xs) (hfresh : ∀ k, w.heap.size ≤ k → ok k) (hbase : base ≤ w.heap.size) (hi : i ≤ xs.length)
  (hvb : w.heap[vb]? = some (.cells [.string x.f0, .string x.f1, .int .i64 x.f2, .string x.f3, .bool x.f4].toArray 29 (0, 0))) (hne : some vb ≠ v.ownBlock) (hl : (xs.length + 1) * 64 ≤ 140737488355328) :
  Calls Try.prog 29 #[v, .int .i64 i, .slice (some ⟨vb, 0, none⟩) 1 1] w fun e w' => ∃ v1 : Value, e = .returned v1 ∧ Kd.R k29 29 w' base ok v1 (xs.take i ++ x :: xs.drop i) ∧ w.grownBy w' v.ownBlock ∧ (v1.ownBlock = v.ownBlock ∨ ∃ b, v1.ownBlock = some b ∧ w.heap.size ≤ b) := by
 obtain ⟨A, c, rfl, hnc, hC⟩ := Kd.R_reads HO
 obtain ⟨i0, hi0, hz⟩ := Option.map_eq_some_iff.1 info29
 simp only [Prod.mk.injEq] at hz
 obtain ⟨hz0, hz1, hz2⟩ := hz
 have u22 := Try.underlying22
 have hcut1 := cut_from (P := Try.prog) 22 29 .i64 u22 hi0 5 hz1 A xs.length c i (by omega) (by omega)
 rcases Nat.lt_or_ge i xs.length with hlt | hge
 case inr =>
  obtain rfl : i = xs.length := by omega
  have HOa := aS HO
  have HX := aS (reads_lit (R := (k29).K w) (x := x) (size := 5) hvb rfl (k29_mk w x))
  clear HO hC
  go_enter Try.func29, Try.ntmps29
  go_wp2_with (at_builtin; refine Kd.R_append_rows k29 (Rr := (k29).K w) (w0 := w) base rfl _ _ 22 29 _ _ rfl u22 info29 rfl (by decide) (by decide) (.slice A xs.length c) xs [x] _ _ _ ok (fun _ => False) rfl rfl HOa.out HX.out (fun _ _ hp => hp) (fun _ hk => hk.elim) hfresh (Below.refl _ _) hbase (by omega) ?_; (intro v1 w1 ho hb hg hat); have AO := aS ho; have AG := aS hg; have AT := aS hat; clear ho hb hg hat)
  all_goals (go_ret; refine ⟨v1, rfl, ?_, (by first | exact AG.out | (cases A <;> exact AG.out)), (by first | exact AT.out | (cases A <;> exact AT.out))⟩; first | (rw [List.take_length, List.drop_length]; exact AO.out) | exact AO.out)
 case inl =>
  clear hC
  obtain ⟨hok, inner, hown, hr⟩ := HO
  rcases hown.2 with ⟨_, h0⟩ | ⟨g, cap, cur, hv, hbg, hh, _, hcm, hcs, htake⟩
  ·
   omega
  injection hv with ha _ hc
  subst ha; subst hc
  have hone := row_one hr
  replace hcs : cur.size = c * 5 := hcs
  replace htake : cur.toList.take (xs.length * 5) = inner := htake
  have hin : inner.length = xs.length * 5 := hr.1
  have hdr : (inner.drop (i * 5)).length = (xs.length - i) * 5 := by rw [lld, hin, Nat.sub_mul]
  have hgv : g ≠ vb := fun he => hne (by rw [he]; rfl)
  have hsz : (Try.prog.info? 29).map (·.size) = some 5 := by rw [hi0]; simp [hz1]
  have hw1 : IntKind.i64.wrap ((i : Int) + 1) = (i : Int) + 1 := by rw [IntKind.wrap_i64]; omega
  have hw2 : IntKind.i64.wrap ((xs.length : Int) + 1) = (xs.length : Int) + 1 := by rw [IntKind.wrap_i64]; omega
  have hne0 : ¬ ((i : Int) = (xs.length : Int)) := by omega
  have hvc : ∀ (W : World), W.heap[vb]? = w.heap[vb]? → ∀ j v, [Value.string x.f0, .string x.f1, .int .i64 x.f2, .string x.f3, .bool x.f4][j]? = some v → W.cell? ((⟨vb, 0, none⟩ : Addr).add j) = some v := fun W hW j v hj => by
   rw [add_at, Nat.zero_add, cell_of_row W vb j _ 29 (0, 0) (hW.trans hvb)]
   simpa using hj
  have hic : ∀ (W : World), W.heap[g]? = w.heap[g]? → ∀ j v, (inner.drop (i * 5))[j]? = some v → W.cell? ((⟨g, i * 5, none⟩ : Addr).add j) = some v := fun W hW j v hj => by
   rw [add_at, cell_of_row W g _ cur 29 (0, 0) (hW.trans hh)]
   rw [List.getElem?_drop, ← htake, List.getElem?_take] at hj
   split at hj
   ·
    rw [← Array.getElem?_toList]; exact hj
   ·
    cases hj
  have hvone : ∀ v ∈ [Value.string x.f0, .string x.f1, .int .i64 x.f2, .string x.f3, .bool x.f4], v.oneCell' = true := (k29).K_one (k29_mk w x)
  have hione : ∀ v ∈ inner.drop (i * 5), v.oneCell' = true := fun v hv => hone v (List.mem_of_mem_drop hv)
  have mixed : Try.prog.follows .mixedOrders = true := by kernel_rfl
  rcases Nat.lt_or_ge xs.length c with hroom | hroom
  case inl =>
   have hgt : ¬ ((c : Int) < (xs.length : Int) + 1) := by omega
   have hcut2 : ∀ W : World, (Instr.slice 22 (.slice (some ⟨g, 0, none⟩) xs.length c) none (some (.int .i64 ((xs.length : Int) + 1))) none).run Try.prog W = .ok (.slice (some ⟨g, 0, none⟩) (xs.length + 1) c) W := cut_room (P := Try.prog) 22 29 .i64 u22 hi0 _ xs.length c ((xs.length : Int) + 1) (by omega) (by omega)
   have hcut3 : ∀ W : World, (Instr.slice 22 (.slice (some ⟨g, 0, none⟩) (xs.length + 1) c) (some (.int .i64 ((i : Int) + 1))) none none).run Try.prog W = .ok (.slice (some ⟨g, (i + 1) * 5, none⟩) (xs.length - i) (c - (i + 1))) W := fun W => by
    have h := cut_from (P := Try.prog) 22 29 .i64 u22 hi0 5 hz1 (some ⟨g, 0, none⟩) (xs.length + 1) c ((i : Int) + 1) (by omega) (by omega) W
    rw [if_neg (by omega), Option.map_some, add_at, Nat.zero_add] at h
    rw [h]; congr 2 <;> omega
   have hcut4 : ∀ W : World, (Instr.slice 22 (.slice (some ⟨g, 0, none⟩) (xs.length + 1) c) (some (.int .i64 (i : Int))) none none).run Try.prog W = .ok (.slice (some ⟨g, i * 5, none⟩) (xs.length + 1 - i) (c - i)) W := fun W => by
    have h := cut_from (P := Try.prog) 22 29 .i64 u22 hi0 5 hz1 (some ⟨g, 0, none⟩) (xs.length + 1) c (i : Int) (by omega) (by omega) W
    rw [if_neg (by omega), Option.map_some, add_at, Nat.zero_add] at h
    rw [h]; congr 2
   have hov : ∀ lb cb, (callFunc 40 #[.slice (some ⟨vb, 0, none⟩) 1 1, .slice (some ⟨g, (i + 1) * 5, none⟩) lb cb]).run Try.prog w = .ok (.value (.bool false)) w := fun lb cb => by
    rw [run_callFunc_extern Try.func40 (by kernel_rfl) (by kernel_rfl) (by kernel_rfl) (e := Extern.SlicesOverlaps.overlaps #[22, 22] #[4]) (by kernel_rfl),
     Lib.run_overlaps_apart w 22 4 29 u22 5 (fun w => by simp [sizeOf, typeInfo, hi0, hz1]) ⟨vb, 0, none⟩ ⟨g, (i + 1) * 5, none⟩ 1 1 lb cb (Ne.symm hgv) 29 29 5 cur.size (by simp [World.shape?, hvb]) (by simp [World.shape?, hh]) (by omega) (blk_frozen hvb _) (blk_frozen hvb _)]
    rfl
   obtain ⟨cur', hb1, hb2, hb3, hb4⟩ := ins_shift_blk (w := w.drew) (cs := [Value.string x.f0, .string x.f1, .int .i64 x.f2, .string x.f3, .bool x.f4]) (n := xs.length) (i := i) (sz := 5) hh rfl hi (by omega) hcs
   rw [htake] at hb1 hb3 hb4
   have hc1 : ∀ ty dc sc, (Builtin.copy_ #[22, 22] ty #[.slice (some ⟨g, (i + 1) * 5, none⟩) (xs.length - i) dc, .slice (some ⟨g, i * 5, none⟩) (xs.length + 1 - i) sc]).run Try.prog w.drew = .ok (goInt (Nat.min (xs.length + 1 - i) (xs.length - i))) (w.drew.setCells g ((i + 1) * 5) (inner.drop (i * 5))) := fun ty dc sc =>
    run_copy_blk w.drew _ _ ty 29 g _ _ dc 5 _ _ sc _ u22 hsz (by rw [hdr, show Nat.min (xs.length + 1 - i) (xs.length - i) = xs.length - i from Nat.min_eq_right (by omega)]) (hic w.drew rfl) hh (by rw [hdr]; omega) hione
   obtain ⟨c1, hd1, hd2, hd3⟩ := setCells_row (inner.drop (i * 5)) ((i + 1) * 5) w.drew cur hh (by rw [hdr]; omega)
   obtain ⟨W1, hW1⟩ : ∃ W1, W1 = w.drew.setCells g ((i + 1) * 5) (inner.drop (i * 5)) := ⟨_, rfl⟩
   rw [← hW1] at hc1 hd1 hb1 hb4
   have hc2 : ∀ ty dc, (Builtin.copy_ #[22, 22] ty #[.slice (some ⟨g, i * 5, none⟩) (xs.length + 1 - i) dc, .slice (some ⟨vb, 0, none⟩) 1 1]).run Try.prog W1 = .ok (goInt (Nat.min 1 (xs.length + 1 - i))) (W1.setCells g (i * 5) [Value.string x.f0, .string x.f1, .int .i64 x.f2, .string x.f3, .bool x.f4]) := fun ty dc =>
    run_copy_blk W1 _ _ ty 29 g _ _ dc 5 _ _ 1 _ u22 hsz (by rw [show Nat.min 1 (xs.length + 1 - i) = 1 from Nat.min_eq_left (by omega)]; rfl) (hvc W1 (by rw [hW1, setCells_far _ _ vb (Ne.symm hgv)]; rfl)) hd1 (by simp; omega) hvone
   obtain ⟨W2, hW2⟩ : ∃ W2, W2 = W1.setCells g (i * 5) [Value.string x.f0, .string x.f1, .int .i64 x.f2, .string x.f3, .bool x.f4] := ⟨_, rfl⟩
   rw [← hW2] at hc2 hb1 hb4
   have R2 : Kd.R k29 29 W2 base ok (.slice (some ⟨g, 0, none⟩) (xs.length + 1) c) (xs.take i ++ x :: xs.drop i) := R_ins (d := k29) rfl hr (k29_mkM w base (fun _ => True) x) hi hb1 hbg (by omega) hcm hb2 (hok g rfl) hb3
   have RA := aS R2
   have RG := aS (show w.grownBy W2 (some g) from ⟨hb4.os, hb4.tape, hb4.output, hb4.size, hb4.block⟩)
   clear R2 hb1 hb2 hb3 hb4 hd1 hd2 hd3 hW1 hW2 hr hok hown hh hcs htake hin hdr hic hvc hone hione hvone
   go_enter Try.func29, Try.ntmps29
   go_wp2_with (simp only [hov])
   go_region_law_o (refine step_copy_runI rfl _ _ 22 22 rfl _ _ (by simp [Act.eval, Act.put]) (by simp [Act.eval, Act.put]) (hc1 _ _ _) ?_)
   go_wp2_with (at_builtin; refine wpList_copy_runI _ rfl _ _ 22 22 rfl _ _ rfl rfl (hc2 _ _) ?_)
   go_ret
   exact ⟨_, rfl, RA.out, RG.out, .inl rfl⟩
  case inr =>
   obtain rfl : c = xs.length := by omega
   have hgt : (xs.length : Int) < (xs.length : Int) + 1 := by omega
   obtain ⟨G, hG⟩ : ∃ G, G = grownCap w (xs.length + 1) xs.length 29 := ⟨_, rfl⟩
   have hGn : xs.length + 1 ≤ G := by rw [hG]; exact grownCap_ge w _ _ _
   have hGm : G ≤ maxLen := by rw [hG]; exact grownCap_le_maxLen w _ _ _ (by unfold maxLen; omega)
   have hold : (Builtin.firstCells i0.size i (.slice (some ⟨g, 0, none⟩) i xs.length)).run Try.prog w.drew = .ok (inner.take (i * 5)).toArray w.drew := by
    rw [hz1]
    refine run_firstCells_some (w := w.drew) 5 i ⟨g, 0, none⟩ i xs.length (inner.take (i * 5)) (by rw [llt, hin]; omega) (fun j v hj => ?_)
    rw [List.getElem?_take] at hj
    split at hj
    ·
     rw [add_at, Nat.zero_add, cell_of_row w.drew g j cur 29 (0, 0) hh]
     rw [← htake, List.getElem?_take] at hj
     split at hj
     ·
      rw [← Array.getElem?_toList]; exact hj
     ·
      cases hj
    ·
     cases hj
   obtain ⟨ROW, hROW⟩ : ∃ ROW : Array Value, ROW = (inner.take (i * 5)).toArray ++ Builtin.zeroCells (Value.agg #[.string ⟨#[]⟩, .string ⟨#[]⟩, .int .i64 0, .string ⟨#[]⟩, .bool false]).cells (xs.length + 1 - i) ++ Builtin.zeroCells (Value.agg #[.string ⟨#[]⟩, .string ⟨#[]⟩, .int .i64 0, .string ⟨#[]⟩, .bool false]).cells (G - (xs.length + 1)) := ⟨_, rfl⟩
   have hk1 : IntKind.i64.wrap ((xs.length : Int) + 1 - (i : Int)) = (xs.length : Int) + 1 - (i : Int) := by rw [IntKind.wrap_i64]; omega
   have hrz : ∀ ty, (Builtin.append_ #[22, 3] ty #[.slice (some ⟨g, 0, none⟩) i xs.length, .int .i64 ((xs.length : Int) + 1 - (i : Int))]).run Try.prog w = .ok (.slice (some ⟨w.heap.size, 0, none⟩) (xs.length + 1) G) (w.drew.alloc (.cells ROW 29)) := fun ty => by
    have h := Lib.run_append_grow_zeros (P := Try.prog) w 22 3 ty 29 i0 _ .i64 .i64 u22 Try.underlying3 hi0 hz0 (some ⟨g, 0, none⟩) i xs.length (inner.take (i * 5)) hold (xs.length + 1 - i) (by omega) (by omega) (by omega) (by omega) (by rw [hz2]; omega) (by rw [hz2, show i + (xs.length + 1 - i) = xs.length + 1 by omega]; exact growslice_fits (by omega) hl)
    rw [show i + (xs.length + 1 - i) = xs.length + 1 by omega, ← hG, ← hROW] at h
    rw [show (xs.length : Int) + 1 - (i : Int) = ((xs.length + 1 - i : Nat) : Int) by omega]
    exact h
   have hRs : ROW.size = G * 5 := by
    rw [hROW]
    simp only [Array.size_append, List.size_toArray, llt, hin, Builtin.zeroCells, Array.size_map, Array.size_range, Value.cells]
    simp [Value.cells]
    omega
   have hRt : ROW.toList.take (i * 5) = inner.take (i * 5) := by
    rw [hROW, Array.append_assoc, Array.toList_append]
    exact List.take_left' (by rw [llt, hin]; omega)
   have hcutA : ∀ W : World, (Instr.slice 22 (.slice (some ⟨g, 0, none⟩) xs.length xs.length) none (some (.int .i64 (i : Int))) none).run Try.prog W = .ok (.slice (some ⟨g, 0, none⟩) i xs.length) W := cut_to (P := Try.prog) 22 29 .i64 u22 hi0 _ xs.length xs.length (i : Int) (by omega) (by omega) (by omega)
   have hcutB : ∀ W : World, (Instr.slice 22 (.slice (some ⟨w.heap.size, 0, none⟩) (xs.length + 1) G) (some (.int .i64 (i : Int))) none none).run Try.prog W = .ok (.slice (some ⟨w.heap.size, i * 5, none⟩) (xs.length + 1 - i) (G - i)) W := fun W => by
    have h := cut_from (P := Try.prog) 22 29 .i64 u22 hi0 5 hz1 (some ⟨w.heap.size, 0, none⟩) (xs.length + 1) G (i : Int) (by omega) (by omega) W
    rw [if_neg (by omega), Option.map_some, add_at, Nat.zero_add] at h
    rw [h]; congr 2
   have hcutC : ∀ W : World, (Instr.slice 22 (.slice (some ⟨w.heap.size, 0, none⟩) (xs.length + 1) G) (some (.int .i64 ((i : Int) + 1))) none none).run Try.prog W = .ok (.slice (some ⟨w.heap.size, (i + 1) * 5, none⟩) (xs.length - i) (G - (i + 1))) W := fun W => by
    have h := cut_from (P := Try.prog) 22 29 .i64 u22 hi0 5 hz1 (some ⟨w.heap.size, 0, none⟩) (xs.length + 1) G ((i : Int) + 1) (by omega) (by omega) W
    rw [if_neg (by omega), Option.map_some, add_at, Nat.zero_add] at h
    rw [h]; congr 2 <;> omega
   have hcutD : ∀ W : World, (Instr.slice 22 (.slice (some ⟨g, 0, none⟩) xs.length xs.length) (some (.int .i64 (i : Int))) none none).run Try.prog W = .ok (.slice (some ⟨g, i * 5, none⟩) (xs.length - i) (xs.length - i)) W := fun W => by
    have h := cut_from (P := Try.prog) 22 29 .i64 u22 hi0 5 hz1 (some ⟨g, 0, none⟩) xs.length xs.length (i : Int) (by omega) (by omega) W
    rw [if_neg (by omega), Option.map_some, add_at, Nat.zero_add] at h
    rw [h]; congr 2
   clear hcut1
   have hgl : g < w.heap.size := blk_lt hh
   have hvl : vb < w.heap.size := blk_lt hvb
   obtain ⟨W0, hW0⟩ : ∃ W0, W0 = w.drew.alloc (.cells ROW 29) := ⟨_, rfl⟩
   have hn0 : W0.heap[w.heap.size]? = some (.cells ROW 29 (0, 0)) := by rw [hW0]; exact heap_alloc_new w.drew _
   have ho0 : ∀ k, k < w.heap.size → W0.heap[k]? = w.heap[k]? := fun k hk => by rw [hW0]; exact heap_alloc_old w.drew _ hk
   obtain ⟨W1, hW1⟩ : ∃ W1, W1 = W0.setCells w.heap.size (i * 5) [Value.string x.f0, .string x.f1, .int .i64 x.f2, .string x.f3, .bool x.f4] := ⟨_, rfl⟩
   have hc1 : ∀ ty dc, (Builtin.copy_ #[22, 22] ty #[.slice (some ⟨w.heap.size, i * 5, none⟩) (xs.length + 1 - i) dc, .slice (some ⟨vb, 0, none⟩) 1 1]).run Try.prog W0 = .ok (goInt (Nat.min 1 (xs.length + 1 - i))) W1 := fun ty dc => by
    rw [hW1]
    exact run_copy_blk W0 _ _ ty 29 w.heap.size _ _ dc 5 _ _ 1 _ u22 hsz (by rw [show Nat.min 1 (xs.length + 1 - i) = 1 from Nat.min_eq_left (by omega)]; rfl) (hvc W0 (ho0 vb hvl)) hn0 (by simp; omega) hvone
   obtain ⟨c1, hd1, hd2, hd3⟩ := setCells_row [Value.string x.f0, .string x.f1, .int .i64 x.f2, .string x.f3, .bool x.f4] (i * 5) W0 ROW hn0 (by simp; omega)
   rw [← hW1] at hd1
   obtain ⟨W2, hW2⟩ : ∃ W2, W2 = W1.drew.setCells w.heap.size ((i + 1) * 5) (inner.drop (i * 5)) := ⟨_, rfl⟩
   have hc2 : ∀ ty dc sc, (Builtin.copy_ #[22, 22] ty #[.slice (some ⟨w.heap.size, (i + 1) * 5, none⟩) (xs.length - i) dc, .slice (some ⟨g, i * 5, none⟩) (xs.length - i) sc]).run Try.prog W1.drew = .ok (goInt (Nat.min (xs.length - i) (xs.length - i))) W2 := fun ty dc sc => by
    rw [hW2]
    exact run_copy_blk W1.drew _ _ ty 29 w.heap.size _ _ dc 5 _ _ sc _ u22 hsz (by rw [hdr, show Nat.min (xs.length - i) (xs.length - i) = xs.length - i from Nat.min_self _]) (hic W1.drew (by show W1.heap[g]? = _; rw [hW1, setCells_far _ _ g (by omega)]; exact ho0 g hgl)) hd1 (by rw [hdr]; omega) hione
   have hfin : W2 = (W0.drew.setCells w.heap.size (i * 5) [Value.string x.f0, .string x.f1, .int .i64 x.f2, .string x.f3, .bool x.f4]).setCells w.heap.size ((i + 1) * 5) (inner.drop (i * 5)) := by rw [hW2, hW1, drew_setCells]
   obtain ⟨cur', hb1, hb2, hb3⟩ := ins_grow_blk (w := W0.drew) (g := w.heap.size) (cs := [Value.string x.f0, .string x.f1, .int .i64 x.f2, .string x.f3, .bool x.f4]) (n := xs.length) (i := i) (sz := 5) (c := G) hn0 rfl hin hi hGn hRs hRt
   rw [← hfin] at hb1
   have R2 : Kd.R k29 29 W2 base ok (.slice (some ⟨w.heap.size, 0, none⟩) (xs.length + 1) G) (xs.take i ++ x :: xs.drop i) := R_ins (d := k29) rfl hr (k29_mkM w base (fun _ => True) x) hi hb1 hbase hGn hGm hb2 (hfresh _ (Nat.le_refl _)) hb3
   have RA := aS R2
   have s1 := setCells_same w.heap.size (inner.drop (i * 5)) ((i + 1) * 5) W1.drew
   have s2 := setCells_same w.heap.size [Value.string x.f0, .string x.f1, .int .i64 x.f2, .string x.f3, .bool x.f4] (i * 5) W0
   have RG : Aside0 (w.grownBy W2 (some g)) := aS ⟨by rw [hW2, s1.1]; show W1.os = _; rw [hW1, s2.1, hW0]; rfl, by rw [hW2, s1.2.1]; show W1.tape = _; rw [hW1, s2.2.1, hW0]; rfl, by rw [hW2, s1.2.2.1]; show W1.output = _; rw [hW1, s2.2.2.1, hW0]; rfl,
    by rw [hW2, s1.2.2.2]; show _ ≤ W1.heap.size; rw [hW1, s2.2.2.2, hW0]; show _ ≤ (w.heap.push _).size; rw [Array.size_push]; omega, fun k hk _ => by rw [hW2, setCells_far _ _ k (by omega)]; show W1.heap[k]? = _; rw [hW1, setCells_far _ _ k (by omega)]; exact ho0 k hk⟩
   rw [← hW0] at hrz
   have hGi : ¬ (G = i) := by omega
   clear s1 s2 R2 hfin hb1 hb2 hb3 hd1 hd2 hd3 hW1 hW2 hn0 ho0 hr hok hown hh hcs htake hin hdr hic hvc hone hione hvone hROW hRs hRt hG hold hW0
   go_enter Try.func29, Try.ntmps29
   go_wp2_with (first
    | (at_builtin; refine Lib.wpList_append_run _ rfl _ _ _ _ rfl _ _ rfl rfl _ _ (hrz _) ?_)
    | (at_builtin; refine wpList_copy_runI _ rfl _ _ 22 22 rfl _ _ rfl rfl (hc1 _ _) ?_))
   go_region_law_o (refine step_copy_runI rfl _ _ 22 22 rfl _ _ (by simp [Act.eval, Act.put]) (by simp [Act.eval, Act.put]) (hc2 _ _ _) ?_)
   go_wp2
   go_ret
   exact ⟨_, rfl, RA.out, RG.out, .inr ⟨_, rfl, Nat.le_refl _⟩⟩

/-! ### mem_Mem_Put: function 10 -/
def mem_Mem_Put.f (k : Nat) (xs : List S29) (n : Int) (c0 c1 : ByteArray) (c2 : Int) (c3 : ByteArray) (c4 : Bool) : Option (List S29 × Int × Bool) :=
 (cell_Right.f c0 c1 c2 c3 c4).bind fun ok => if ok = true then (api_Cell_26.f k xs c0 c1 c2 c3 c4).bind fun q => if q.2 = true then
  (if 0 ≤ q.1 ∧ q.1 < (xs.length : Int) then (mem_weigh.f (rd_T29 xs q.1).f0 (rd_T29 xs q.1).f1 (rd_T29 xs q.1).f2 (rd_T29 xs q.1).f3 (rd_T29 xs q.1).f4).bind fun a => (mem_weigh.f c0 c1 c2 c3 c4).bind fun b => some (xs.set q.1.toNat ⟨c0, c1, c2, c3, c4⟩, wrap64 (wrap64 (n - a) + b), true) else none)
  else (if 0 ≤ q.1 ∧ q.1 ≤ (xs.length : Int) ∧ (xs.length + 1) * 64 ≤ 140737488355328 then (mem_weigh.f c0 c1 c2 c3 c4).bind fun b => some (xs.take q.1.toNat ++ ⟨c0, c1, c2, c3, c4⟩ :: xs.drop q.1.toNat, wrap64 (n + b), true) else none) else some (xs, n, false)
theorem mem_Mem_Put.mono : ∀ k a0 a1 a2 a3 a4 a5 a6, LeO (mem_Mem_Put.f k a0 a1 a2 a3 a4 a5 a6) (mem_Mem_Put.f (k + 1) a0 a1 a2 a3 a4 a5 a6) := fun k a0 a1 a2 a3 a4 a5 a6 =>
 LeO.bind (LeO.refl _) fun _ => LeO.ite (LeO.bind (api_Cell_26.mono _ _ _ _ _ _ _) fun _ => LeO.refl _) (LeO.refl _)
set_option maxHeartbeats 8000000 in
set_option maxRecDepth 100000 in
theorem mem_Mem_Put.calls (k g base : Nat) (xs : List S29) (n : Int) (v : Value) (c0 c1 : ByteArray) (c2 : Int) (c3 : ByteArray) (c4 : Bool) (xs' : List S29) (n' : Int) (r : Bool) (w : World) (hA : mem_New.At w base g xs n v) (h : mem_Mem_Put.f k xs n c0 c1 c2 c3 c4 = some (xs', n', r)) :
  Calls Try.prog 10 #[.pointer (some ⟨g, 0, none⟩), .agg #[.string c0, .string c1, .int .i64 c2, .string c3, .bool c4]] w fun e w' => e = .returned (.bool r) ∧ ∃ v', mem_New.At w' base g xs' n' v' ∧ mem_New.Two w w' g v.ownBlock ∧ (v'.ownBlock = v.ownBlock ∨ ∃ b, v'.ownBlock = some b ∧ w.heap.size ≤ b) := by
 have hu29 := Try.underlying29; have hu22 := Try.underlying22; have hu46 := Try.underlying46
 have hsz : (Try.prog.info? 29).map (·.size) = some 5 := by
  obtain ⟨i0, hi0, hz⟩ := Option.map_eq_some_iff.1 info29
  simp only [Prod.mk.injEq] at hz
  rw [hi0]; simp [hz.2.1]
 obtain ⟨A, cc, rfl, hcl, _⟩ := hA.rows
 have HA := aS hA
 have HL := aS hcl
 have H := aS h
 clear h hA hcl
 go_enter Try.func10, Try.ntmps10
 go_upto_region 1 with ((with_reducible refine gate_dst (N := 3) rfl ?_); refine box_event ?hg (N := 3) ?hd (cs := #[.string c0, .string c1, .int .i64 c2, .string c3, .bool c4]) (t := 29) ?hr ?_; (case hd => rfl); (case hg => rfl); (case hr => (first | (go_simp; done) | (go_simp; rfl))); intro p3 hg w1 hb hbl; have B3 := aS hb; have P3 : Aside0 (w.heap.size ≤ p3) := aS (by rw [hg]; exact Nat.le_refl _); have HA1 := aS (HA.out.below hbl); have TW := aS (mem_New.Two.of_below hbl g (Value.slice A xs.length cc).ownBlock); clear hg hb hbl)
 have hpg : Aside0 (p3 ≠ g ∧ some p3 ≠ (Value.slice A xs.length cc).ownBlock) := aS ⟨by have := P3.out; have := HA.out.lt; omega, fun he => by have := P3.out; have := Kd.R_lt HA.out.2.2 p3 he.symm; omega⟩
 have hgv := aS HA.out.ne
 have GW := aS HA.out.lt
 clear HA; have h := H.out
 unfold mem_Mem_Put.f at h
 clear H
 replace h := obm h
 obtain ⟨ok, x1, h⟩ := h
 have X1 := aS x1
 have H := aS h
 clear x1 h
 have q3 := cK5 B3
 cases ok with
 | false =>
  have h := H.out
  rw [if_neg Bool.false_ne_true] at h
  obtain h := Option.some.inj h
  simp only [Prod.mk.injEq] at h
  obtain ⟨rfl, rfl, rfl⟩ := h
  clear H
  go_wp2_with (go_at_call 25; (with_reducible refine (cell_Right.calls c0 c1 c2 c3 c4 false _ X1.out).mono ?_); rintro e_ w2 ⟨rfl, hb⟩; have n0_ := aS (blk_below B3.out hb); have n1_ := aS (HA1.out.below hb); have n2_ := aS (TW.out.step hb); clear B3 HA1 TW q3; have B3 := n0_; have HA1 := n1_; have TW := n2_; clear n0_ n1_ n2_; clear hb)
  go_ret
  exact ⟨rfl, _, HA1.out, TW.out, .inl rfl⟩
 | true =>
 have h := H.out
 rw [if_pos rfl] at h
 clear H
 replace h := obm h
 obtain ⟨⟨q1, q2⟩, x2, h⟩ := h
 have X2 := aS x2
 have H := aS h
 clear x2 h
 go_upto_region 3 with (go_at_call 25; (with_reducible refine (cell_Right.calls c0 c1 c2 c3 c4 true _ X1.out).mono ?_); rintro e_ w2 ⟨rfl, hb⟩; have n0_ := aS (blk_below B3.out hb); have n1_ := aS (HA1.out.below hb); have n2_ := aS (TW.out.step hb); clear B3 HA1 TW q3; have B3 := n0_; have HA1 := n1_; have TW := n2_; clear n0_ n1_ n2_; clear hb)
 refine start_ (n := 11) (ds := []) (S := fun w' => w'.cell? ⟨g, 0, none⟩ = some (.slice A xs.length cc) ∧ w'.rangeAt p3 0 [.string c0, .string c1, .int .i64 c2, .string c3, .bool c4]) #[false, false, false, false, false, false, false, false, false, false, false] (by kernel_rfl) rfl rfl ⟨(blk_cell (blk_drew HA1.out.2.1) 0).trans rfl, range_of (blk_drew B3.out)⟩ (fun hHeld => ?_)
 generalize hw_ : World.drew _ = w3 at hHeld ⊢
 have B3d : Aside0 (w3.heap[p3]? = _) := aS (hw_ ▸ blk_drew B3.out)
 have HAd : Aside0 (mem_New.At w3 base g _ _ _) := aS (hw_ ▸ HA1.out.below (below_drew (Below.refl _ _)))
 have TWd : Aside0 (mem_New.Two w w3 g _) := aS (hw_ ▸ TW.out.step (below_drew (Below.refl _ _)))
 clear hw_ B3 HA1 TW
 refine with_tabW (T := (true, [([], []), ([0], [0]), ([1], [1]), ([2], [2]), ([], []), ([3, 4], [3, 4]), ([5], [5]), ([6], [6]), ([6], [6]), ([7, 5, 0, 1, 2, 3, 4, 5, 6, 7], [7]), ([8, 9, 0, 1, 2, 3, 4, 5, 6, 7, 8, 9], [8])])) (B := [0, 1, 3, 7, 0, 31, 63, 127, 127, 255, 1023]) (by kernel_rfl) (by kernel_rfl) (fun HT_ HW_ => ?_)
 refine along_ [(0, 11), (1, 12), (2, 13)] ?_
 iterate 3 (apply pure1 HT_; (case hi => rfl); (case hN => rfl); (case hw => rfl); (case hc => kernel_rfl); (case hQ => exact fun _ _ _ h => h); (case hy => intro w'; go_simp; with_reducible rfl); (case ha => simp only [Act.put, lsa, lsz, lss, i64_w, i32_w]; rfl))
 refine lay_ #[true, true, true, false, false, false, false, false, false, false, false] (by kernel_rfl) ?_
 refine along_ [(3, 14)] ?_
 iterate 1 (apply take1 HT_ HW_ hHeld; (case hi => rfl); (case hN => rfl); (case hw => rfl); (case hc => kernel_rfl); (case hQ => exact fun _ _ _ h => h); (case hy => intro w' hs_; go_simp; with_reducible rfl); (case ha => simp only [Act.put, lsa, lsz, lss, i64_w, i32_w]; rfl))
 refine lay_ #[true, true, true, true, false, false, false, false, false, false, false] (by kernel_rfl) ?_
 refine take_ (i := 4) (N := (some 15)) (v := .agg #[.string c0, .string c1, .int .i64 c2, .string c3, .bool c4]) (a' := ?_) #[true, true, true, true, true, false, false, false, false, false, false] rfl rfl (take_ofW HT_.out HW_.out (by kernel_rfl)) (fun _ _ _ h => h) (yieldsIf_load_mid (by rfl) 29 _ rfl p3 0 (by go_simp) _ _ (fun w' hw' => hw'.2) hu29 rfl hsz) hHeld ?_ ?_
 rotate_left
 ·
  simp only [Act.put, lsa, lsz, lss, i64_w, i32_w]
  rfl
 refine one_ (i := 5) (N := (some 16)) #[true, true, true, true, true, true, false, false, false, false, false] rfl rfl (one_of HT_.out (by kernel_rfl)) (by decide) (fun K hK => ?_)
 refine goes_ Try.func26 (by kernel_rfl) rfl #[.slice A xs.length cc, .agg #[.string c0, .string c1, .int .i64 c2, .string c3, .bool c4], .func (.func 27) #[] #[]] (by rfl) rfl rfl agn ?_
 with_reducible refine (api_Cell_26.calls k A cc xs c0 c1 c2 c3 c4 q1 q2 _ HAd.out.reads HL.out X2.out).mono ?_
 rintro e_ w4 ⟨rfl, hb⟩
 refine ⟨_, rfl, ?_⟩
 have B3 := aS (blk_below B3d.out hb)
 have HA1 := aS (HAd.out.below hb)
 have TW := aS (TWd.out.step hb)
 clear hb B3d HAd TWd
 refine hK.out _ _ ⟨(blk_cell HA1.out.2.1 0).trans rfl, range_of B3.out⟩ (fun hHeld => ?_)
 clear hK K
 refine norm_ (a' := ?_) ?_ ?_
 rotate_left
 ·
  show Act.put _ (some 16) _ = _
  simp only [Act.put, lsa, lsz, lss, i64_w, i32_w]
  rfl
 refine along_ [(6, 10), (7, 17), (8, 18), (9, 5), (10, 6)] ?_
 iterate 5 (apply pure1 HT_; (case hi => rfl); (case hN => rfl); (case hw => rfl); (case hc => kernel_rfl); (case hQ => exact fun _ _ _ h => h); (case hy => intro w'; go_simp; with_reducible rfl); (case ha => simp only [Act.put, lsa, lsz, lss, i64_w, i32_w]; rfl))
 refine lay_ #[true, true, true, true, true, true, true, true, true, true, true] (by kernel_rfl) ?_
 refine done_ (done_of HT_.out (by kernel_rfl)) ?_
 clear hHeld HT_ HW_
 cases q2 with
 | false =>
  have h := H.out; clear H
  replace h : (if 0 ≤ q1 ∧ q1 ≤ (xs.length : Int) ∧ (xs.length + 1) * 64 ≤ 140737488355328 then (mem_weigh.f c0 c1 c2 c3 c4).bind fun b => some (xs.take q1.toNat ++ ⟨c0, c1, c2, c3, c4⟩ :: xs.drop q1.toNat, wrap64 (n + b), true) else none) = some (xs', n', r) := h
  by_cases hq : 0 ≤ q1 ∧ q1 ≤ (xs.length : Int) ∧ (xs.length + 1) * 64 ≤ 140737488355328
  case neg => rw [if_neg hq] at h; cases h
  rw [if_pos hq] at h
  replace h := obm h
  obtain ⟨b8, x8, h⟩ := h
  have X8 := aS x8
  obtain h := Option.some.inj h
  simp only [Prod.mk.injEq] at h
  obtain ⟨rfl, rfl, rfl⟩ := h
  obtain ⟨i, rfl⟩ := Int.eq_ofNat_of_zero_le hq.1
  have HQ : Aside0 (i ≤ xs.length ∧ (xs.length + 1) * 64 ≤ 140737488355328) := aS ⟨by have := hq.2.1; omega, hq.2.2⟩
  clear x8 hq X2
  go_upto_region 7 with (fail)
  refine start_ (n := 12) (ds := [8, 11]) (S := fun w' => w'.cell? ⟨g, 0, none⟩ = some (.slice A xs.length cc) ∧ w'.rangeAt p3 0 [.string c0, .string c1, .int .i64 c2, .string c3, .bool c4]) #[false, false, false, false, false, false, false, false, false, false, false, false] (by kernel_rfl) rfl rfl ⟨(blk_cell (blk_drew HA1.out.2.1) 0).trans rfl, range_of (blk_drew B3.out)⟩ (fun hHeld => ?_)
  generalize hw_ : World.drew _ = w5 at hHeld ⊢
  have B3d : Aside0 (w5.heap[p3]? = _) := aS (hw_ ▸ blk_drew B3.out)
  have HAd : Aside0 (mem_New.At w5 base g _ _ _) := aS (hw_ ▸ HA1.out.below (below_drew (Below.refl _ _)))
  have TWd : Aside0 (mem_New.Two w w5 g _) := aS (hw_ ▸ TW.out.step (below_drew (Below.refl _ _)))
  clear hw_ B3 HA1 TW
  refine with_tabW (T := (true, [([], []), ([], []), ([1], [1]), ([2], [2]), ([3], [3]), ([], []), ([], []), ([6], [6]), ([4, 5, 7], [4, 5, 7]), ([0, 0, 1, 2, 3, 4, 5, 6, 7, 8], [0]), ([9, 0, 1, 2, 3, 4, 5, 6, 7, 8], [9]), ([10, 8, 8, 0, 1, 2, 3, 4, 5, 6, 7, 8], [8, 10])])) (B := [0, 0, 2, 6, 14, 0, 0, 64, 254, 511, 1023, 2047]) (by kernel_rfl) (by kernel_rfl) (fun HT_ HW_ => ?_)
  refine along_ [(0, 42), (1, 43), (2, 44), (3, 45), (5, 47)] ?_
  iterate 5 (apply pure1 HT_; (case hi => rfl); (case hN => rfl); (case hw => rfl); (case hc => kernel_rfl); (case hQ => exact fun _ _ _ h => h); (case hy => intro w'; go_simp; with_reducible rfl); (case ha => simp only [Act.put, lsa, lsz, lss, i64_w, i32_w]; rfl))
  refine lay_ #[true, true, true, true, false, true, false, false, false, false, false, false] (by kernel_rfl) ?_
  refine along_ [(4, 46)] ?_
  iterate 1 (apply take1 HT_ HW_ hHeld; (case hi => rfl); (case hN => rfl); (case hw => rfl); (case hc => kernel_rfl); (case hQ => exact fun _ _ _ h => h); (case hy => intro w' hs_; go_simp; with_reducible rfl); (case ha => simp only [Act.put, lsa, lsz, lss, i64_w, i32_w]; rfl))
  refine lay_ #[true, true, true, true, true, true, false, false, false, false, false, false] (by kernel_rfl) ?_
  refine take_ (i := 6) (N := (some 48)) (v := .agg #[.string c0, .string c1, .int .i64 c2, .string c3, .bool c4]) (a' := ?_) #[true, true, true, true, true, true, true, false, false, false, false, false] rfl rfl (take_ofW HT_.out HW_.out (by kernel_rfl)) (fun _ _ _ h => h) (yieldsIf_load_mid (by rfl) 29 _ rfl p3 0 (by go_simp) _ _ (fun w' hw' => hw'.2) hu29 rfl hsz) hHeld ?_ ?_
  rotate_left
  ·
   simp only [Act.put, lsa, lsz, lss, i64_w, i32_w]
   rfl
  refine one_ (i := 7) (N := (some 49)) #[true, true, true, true, true, true, true, true, false, false, false, false] rfl rfl (one_of HT_.out (by kernel_rfl)) (by decide) (fun K hK => ?_)
  refine value_ (w1 := ?_) (v := ?_) (by rfl) rfl ?_ ?_
  rotate_left 2
  ·
   go_simp
   constructor
   ·
    rfl
   ·
    rfl
  refine hK.out _ _ ⟨(blk_cell (blk_alloc HAd.out.2.1 _) 0).trans rfl, range_of (blk_alloc B3d.out _)⟩ (fun hHeld => ?_)
  clear hK K
  refine norm_ (a' := ?_) ?_ ?_
  rotate_left
  ·
   show Act.put _ (some 49) _ = _
   simp only [Act.put, lsa, lsz, lss, i64_w, i32_w]
   rfl
  have hv6 := heap_alloc_new w5 (.cells [.string c0, .string c1, .int .i64 c2, .string c3, .bool c4].toArray 29 (0, 0))
  have hbl6 := bal (Below.refl w5.heap.size w5) (.cells [.string c0, .string c1, .int .i64 c2, .string c3, .bool c4].toArray 29 (0, 0))
  have hw5 := HAd.out
  have VN : Aside0 (some w5.heap.size ≠ (Value.slice A xs.length cc).ownBlock) := aS (fun he => by have := Kd.R_lt HAd.out.2.2 _ he.symm; omega)
  have HA1 := aS (HAd.out.below hbl6)
  have B3 := aS (blk_below B3d.out hbl6)
  have TW := aS (TWd.out.step hbl6)
  have V6 := aS hv6
  clear hv6 hbl6 hw5 HAd B3d TWd
  refine last_ (i := 8) (N := (some 50)) #[true, true, true, true, true, true, true, true, true, false, false, false] rfl rfl (one_of HT_.out (by kernel_rfl)) (by decide) (fun K hK => ?_)
  
  refine goes_ Try.func29 (by kernel_rfl) rfl #[.slice A xs.length cc, .int .i64 i, .slice (some ⟨w5.heap.size, 0, none⟩) 1 1] (by rfl) rfl rfl agn ?_
  refine (api_Cell_29.ins _ base (fun _ => True) (.slice A xs.length cc) xs (⟨c0, c1, c2, c3, c4⟩ : S29) i w5.heap.size HA1.out.2.2 (fun _ _ => trivial) (by have := HA1.out.1; have := HA1.out.lt; omega) HQ.out.1 V6.out VN.out HQ.out.2).mono ?_
  rintro e_ w7 ⟨v1, rfl, ho, hg, hat⟩
  refine ⟨_, rfl, ?_⟩
  have G7 := aS (blk_grown HA1.out.2.1 hg HA1.out.ne)
  have B37 := aS (blk_grown B3.out hg hpg.out.2)
  have R7 := aS ho
  have T7 := aS (TW.out.trans (mem_New.Two.grown hg g) (.inl rfl))
  have AT : Aside0 (v1.ownBlock = (Value.slice A xs.length cc).ownBlock ∨ ∃ b, v1.ownBlock = some b ∧ w.heap.size ≤ b) := aS (hat.imp_right fun ⟨b, hb, hle⟩ => ⟨b, hb, by have := TW.out.size; omega⟩)
  have BG := aS HA1.out.1
  clear ho hg hat HA1 B3 TW V6 VN
  refine hK.out _ _ ?_
  clear hK K
  refine norm_ (a' := ?_) ?_ ?_
  rotate_left
  ·
   show Act.put _ (some 50) _ = _
   simp only [Act.put, lsa, lsz, lss, i64_w, i32_w]
   rfl
  refine along_ [(9, 51), (10, 52)] ?_
  iterate 2 (apply pure1 HT_; (case hi => rfl); (case hN => rfl); (case hw => rfl); (case hc => kernel_rfl); (case hQ => exact fun _ _ _ h => h); (case hy => intro w'; go_simp; with_reducible rfl); (case ha => simp only [Act.put, lsa, lsz, lss, i64_w, i32_w]; rfl))
  refine lay_ #[true, true, true, true, true, true, true, true, true, true, true, false] (by kernel_rfl) ?_
  refine last_ (i := 11) (N := none) #[true, true, true, true, true, true, true, true, true, true, true, true] rfl rfl (one_of HT_.out (by kernel_rfl)) (by decide) (fun K hK => ?_)
  rw [if_pos (by rfl)]
  obtain ⟨ys, hys⟩ : ∃ ys, ys = xs.take i ++ (⟨c0, c1, c2, c3, c4⟩ : S29) :: xs.drop i := ⟨_, rfl⟩
  have R8 : Aside0 (Kd.R _ _ w7 base _ v1 ys) := aS (hys ▸ R7.out)
  have HY := aS hys
  clear hys R7
  obtain ⟨A1, cc1, rfl⟩ := Kd.R_slice R8.out
  have hfz := blk_frozen G7.out 0
  have hcl := (blk_cell G7.out 0).trans rfl
  have HA1 : Aside0 (mem_New.At (w7.setCell ⟨g, 0, none⟩ (.slice A1 ys.length cc1)) base g ys n (.slice A1 ys.length cc1)) := aS ⟨BG.out, blk_put G7.out 0 _ rfl, Kd.R_set R8.out G7.out (by decide) 0 _⟩
  have TW := aS (T7.out.trans (mem_New.Two.set w7 g 0 (.slice A1 ys.length cc1) (Value.slice A xs.length cc).ownBlock) (.inl rfl))
  have B3 := aS (blk_far B37.out hpg.out.1 (.slice A1 ys.length cc1) (p := ⟨g, 0, none⟩))
  unfold Oper.wp
  go_simp
  refine hK.out _ _ ?_
  clear hK K
  refine done_ (done_of HT_.out (by kernel_rfl)) ?_
  clear hfz hcl HT_ HW_ G7 B37 R8 T7 BG
  go_upto_region 8 with (fail)
  refine start_ (n := 10) (ds := [9]) (S := fun w' => w'.cell? ⟨g, 1, none⟩ = some (.int .i64 n) ∧ w'.rangeAt p3 0 [.string c0, .string c1, .int .i64 c2, .string c3, .bool c4]) #[false, false, false, false, false, false, false, false, false, false] (by kernel_rfl) rfl rfl ⟨(blk_cell (blk_drew HA1.out.2.1) 1).trans rfl, range_of (blk_drew B3.out)⟩ (fun hHeld => ?_)
  generalize hw_ : World.drew _ = w20 at hHeld ⊢
  have B3d : Aside0 (w20.heap[p3]? = _) := aS (hw_ ▸ blk_drew B3.out)
  have HAd : Aside0 (mem_New.At w20 base g _ _ _) := aS (hw_ ▸ HA1.out.below (below_drew (Below.refl _ _)))
  have TWd : Aside0 (mem_New.Two w w20 g _) := aS (hw_ ▸ TW.out.step (below_drew (Below.refl _ _)))
  clear hw_ B3 HA1 TW
  refine with_tabW (T := (true, [([], []), ([0], [0]), ([1], [1]), ([2], [2]), ([], []), ([4], [4]), ([3, 5], [3, 5]), ([0, 0, 1, 2, 3, 4, 5, 6], [0]), ([7, 0, 1, 2, 3, 4, 5, 6], [7]), ([8, 6, 5, 0, 1, 2, 3, 4, 5, 6], [6, 8])])) (B := [0, 1, 3, 7, 0, 16, 63, 127, 255, 511]) (by kernel_rfl) (by kernel_rfl) (fun HT_ HW_ => ?_)
  refine along_ [(0, 53), (1, 54), (2, 55)] ?_
  iterate 3 (apply pure1 HT_; (case hi => rfl); (case hN => rfl); (case hw => rfl); (case hc => kernel_rfl); (case hQ => exact fun _ _ _ h => h); (case hy => intro w'; go_simp; with_reducible rfl); (case ha => simp only [Act.put, lsa, lsz, lss, i64_w, i32_w]; rfl))
  refine lay_ #[true, true, true, false, false, false, false, false, false, false] (by kernel_rfl) ?_
  refine along_ [(3, 56)] ?_
  iterate 1 (apply take1 HT_ HW_ hHeld; (case hi => rfl); (case hN => rfl); (case hw => rfl); (case hc => kernel_rfl); (case hQ => exact fun _ _ _ h => h); (case hy => intro w' hs_; go_simp; with_reducible rfl); (case ha => simp only [Act.put, lsa, lsz, lss, i64_w, i32_w]; rfl))
  refine lay_ #[true, true, true, true, false, false, false, false, false, false] (by kernel_rfl) ?_
  refine take_ (i := 4) (N := (some 57)) (v := .agg #[.string c0, .string c1, .int .i64 c2, .string c3, .bool c4]) (a' := ?_) #[true, true, true, true, true, false, false, false, false, false] rfl rfl (take_ofW HT_.out HW_.out (by kernel_rfl)) (fun _ _ _ h => h) (yieldsIf_load_mid (by rfl) 29 _ rfl p3 0 (by go_simp) _ _ (fun w' hw' => hw'.2) hu29 rfl hsz) hHeld ?_ ?_
  rotate_left
  ·
   simp only [Act.put, lsa, lsz, lss, i64_w, i32_w]
   rfl
  refine one_ (i := 5) (N := (some 58)) #[true, true, true, true, true, true, false, false, false, false] rfl rfl (one_of HT_.out (by kernel_rfl)) (by decide) (fun K hK => ?_)
  refine goes_ Try.func28 (by kernel_rfl) rfl #[.agg #[.string c0, .string c1, .int .i64 c2, .string c3, .bool c4]] (by rfl) rfl rfl agn ?_
  with_reducible refine (mem_weigh.calls c0 c1 c2 c3 c4 b8 _ X8.out).mono ?_
  rintro e_ w21 ⟨rfl, hb⟩
  refine ⟨_, rfl, ?_⟩
  have B3 := aS (blk_below B3d.out hb)
  have HA1 := aS (HAd.out.below hb)
  have TW := aS (TWd.out.step hb)
  clear hb B3d HAd TWd
  refine hK.out _ _ ⟨(blk_cell HA1.out.2.1 1).trans rfl, range_of B3.out⟩ (fun hHeld => ?_)
  clear hK K
  refine norm_ (a' := ?_) ?_ ?_
  rotate_left
  ·
   show Act.put _ (some 58) _ = _
   simp only [Act.put, lsa, lsz, lss, i64_w, i32_w]
   rfl
  refine along_ [(6, 59), (7, 60), (8, 61)] ?_
  iterate 3 (apply pure1 HT_; (case hi => rfl); (case hN => rfl); (case hw => rfl); (case hc => kernel_rfl); (case hQ => exact fun _ _ _ h => h); (case hy => intro w'; go_simp; with_reducible rfl); (case ha => simp only [Act.put, lsa, lsz, lss, i64_w, i32_w]; rfl))
  refine lay_ #[true, true, true, true, true, true, true, true, true, false] (by kernel_rfl) ?_
  refine last_ (i := 9) (N := none) #[true, true, true, true, true, true, true, true, true, true] rfl rfl (one_of HT_.out (by kernel_rfl)) (by decide) (fun K hK => ?_)
  rw [if_pos (by rfl)]
  have hfz := blk_frozen HA1.out.2.1 1
  have hcl := (blk_cell HA1.out.2.1 1).trans rfl
  have HA2 : Aside0 (mem_New.At (w21.setCell ⟨g, 1, none⟩ (.int .i64 (wrap64 (n + b8)))) base g ys (wrap64 (n + b8)) (.slice A1 ys.length cc1)) := aS ⟨HA1.out.1, blk_put HA1.out.2.1 1 _ rfl, Kd.R_set HA1.out.2.2 HA1.out.2.1 (by decide) 1 _⟩
  have TW2 := aS (TW.out.trans (mem_New.Two.set w21 g 1 (.int .i64 (wrap64 (n + b8))) (Value.slice A xs.length cc).ownBlock) (.inl rfl))
  unfold Oper.wp
  go_simp
  refine hK.out _ _ ?_
  clear hK K
  refine done_ (done_of HT_.out (by kernel_rfl)) ?_
  clear hfz hcl HT_ HW_
  go_wp2
  go_ret
  have e_ := HY.out
  subst e_
  exact ⟨rfl, _, HA2.out, TW2.out, AT.out⟩
 | true =>
  have h := H.out; clear H
  replace h : (if 0 ≤ q1 ∧ q1 < (xs.length : Int) then (mem_weigh.f (rd_T29 xs q1).f0 (rd_T29 xs q1).f1 (rd_T29 xs q1).f2 (rd_T29 xs q1).f3 (rd_T29 xs q1).f4).bind fun a => (mem_weigh.f c0 c1 c2 c3 c4).bind fun b => some (xs.set q1.toNat ⟨c0, c1, c2, c3, c4⟩, wrap64 (wrap64 (n - a) + b), true) else none) = some (xs', n', r) := h
  by_cases hq : 0 ≤ q1 ∧ q1 < (xs.length : Int)
  case neg => rw [if_neg hq] at h; cases h
  rw [if_pos hq] at h
  replace h := obm h
  obtain ⟨a5, x5, h⟩ := h
  replace h := obm h
  obtain ⟨b8, x8, h⟩ := h
  have X5 := aS x5
  have X8 := aS x8
  obtain h := Option.some.inj h
  simp only [Prod.mk.injEq] at h
  obtain ⟨rfl, rfl, rfl⟩ := h
  clear x5 x8
  have hq0 := hq.1
  have hq1 := hq.2
  obtain ⟨gr, cap, hv, _, _, cur_, hcur_⟩ := Kd.R_form HA1.out.2.2 (by omega)
  injection hv with ha _ hc
  subst ha; subst hc
  have hne : Aside0 (gr ≠ g ∧ p3 ≠ gr) := aS ⟨fun he => HA1.out.ne (by rw [he]; rfl), fun he => hpg.out.2 (by rw [he]; rfl)⟩
  have hn29 : Aside0 ((w4.heap[gr]? = some (.cells cur_ 29 (0, 0)))) := aS hcur_
  clear hq hcur_ X2
  have hix : ∀ W : World, (Instr.indexAt 22 (.slice (some ⟨gr, 0, none⟩) xs.length cc) (.int .i64 q1)).run Try.prog W = .ok (.pointer (some ⟨gr, q1.toNat * 5, none⟩)) W := by
   obtain ⟨i0, hi0, hz⟩ := Option.map_eq_some_iff.1 hsz
   exact index_at 22 29 hu22 hi0 5 hz gr xs.length cc q1 hq0 hq1
  obtain ⟨ce, _, hcM, hcc, _⟩ := Kd.R_elem HA1.out.2.2 z29 q1 hq0 hq1
  obtain rfl := k29_openM hcM
  clear hcM
  obtain ⟨xi, hxi⟩ : ∃ xi, xi = rd_T29 xs q1 := ⟨_, rfl⟩
  have RC : Aside0 (w4.rangeAt gr (q1.toNat * 5) [.string xi.f0, .string xi.f1, .int .i64 xi.f2, .string xi.f3, .bool xi.f4]) := aS (fun j u hj => hcc j u (by rw [hxi] at hj; exact hj))
  have X5 : Aside0 (mem_weigh.f xi.f0 xi.f1 xi.f2 xi.f3 xi.f4 = some a5) := aS (by rw [hxi]; exact X5.out)
  clear hcc hxi
  go_upto_region 5 with (fail)
  refine start_ (n := 16) (ds := [15]) (S := fun w' => w'.cell? ⟨g, 0, none⟩ = some (.slice (some ⟨gr, 0, none⟩) xs.length cc) ∧ w'.cell? ⟨g, 1, none⟩ = some (.int .i64 n) ∧ w'.rangeAt gr (q1.toNat * 5) [.string xi.f0, .string xi.f1, .int .i64 xi.f2, .string xi.f3, .bool xi.f4]) #[false, false, false, false, false, false, false, false, false, false, false, false, false, false, false, false] (by kernel_rfl) rfl rfl ⟨(blk_cell (blk_drew HA1.out.2.1) 0).trans rfl, (blk_cell (blk_drew HA1.out.2.1) 1).trans rfl, fun j u hj => RC.out j u hj⟩ (fun hHeld => ?_)
  generalize hw_ : World.drew _ = w8 at hHeld ⊢
  have B3d : Aside0 (w8.heap[p3]? = _) := aS (hw_ ▸ blk_drew B3.out)
  have HAd : Aside0 (mem_New.At w8 base g _ _ _) := aS (hw_ ▸ HA1.out.below (below_drew (Below.refl _ _)))
  have TWd : Aside0 (mem_New.Two w w8 g _) := aS (hw_ ▸ TW.out.step (below_drew (Below.refl _ _)))
  clear hw_ B3 HA1 TW; clear RC
  refine with_tabW (T := (true, [([], []), ([0], [0]), ([1], [1]), ([2], [2]), ([], []), ([4], [4]), ([5], [5]), ([6], [6]), ([], []), ([7, 8], [7, 8]), ([9], [9]), ([10], [10]), ([3, 11], [3, 11]), ([0, 0, 1, 2, 3, 4, 5, 6, 7, 8, 9, 10, 11, 12], [0]), ([13, 0, 1, 2, 3, 4, 5, 6, 7, 8, 9, 10, 11, 12], [13]), ([14, 12, 11, 0, 1, 2, 3, 4, 5, 6, 7, 8, 9, 10, 11, 12], [12, 14])])) (B := [0, 1, 3, 7, 0, 16, 48, 112, 0, 496, 1008, 2032, 4095, 8191, 16383, 32767]) (by kernel_rfl) (by kernel_rfl) (fun HT_ HW_ => ?_)
  refine along_ [(0, 20), (1, 21), (2, 22), (4, 24), (5, 25), (6, 26), (8, 28)] ?_
  iterate 7 (apply pure1 HT_; (case hi => rfl); (case hN => rfl); (case hw => rfl); (case hc => kernel_rfl); (case hQ => exact fun _ _ _ h => h); (case hy => intro w'; go_simp; with_reducible rfl); (case ha => simp only [Act.put, lsa, lsz, lss, i64_w, i32_w]; rfl))
  refine lay_ #[true, true, true, false, true, true, true, false, true, false, false, false, false, false, false, false] (by kernel_rfl) ?_
  refine along_ [(3, 23), (7, 27)] ?_
  iterate 2 (apply take1 HT_ HW_ hHeld; (case hi => rfl); (case hN => rfl); (case hw => rfl); (case hc => kernel_rfl); (case hQ => exact fun _ _ _ h => h); (case hy => intro w' hs_; go_simp; with_reducible rfl); (case ha => simp only [Act.put, lsa, lsz, lss, i64_w, i32_w]; rfl))
  refine lay_ #[true, true, true, true, true, true, true, true, true, false, false, false, false, false, false, false] (by kernel_rfl) ?_
  refine along_ [(9, 29)] ?_
  iterate 1 (apply pure1 HT_; (case hi => rfl); (case hN => rfl); (case hw => rfl); (case hc => kernel_rfl); (case hQ => exact fun _ _ _ h => h); (case hy => intro w'; go_simp; with_reducible rfl); (case ha => simp only [Act.put, lsa, lsz, lss, i64_w, i32_w]; rfl))
  refine lay_ #[true, true, true, true, true, true, true, true, true, true, false, false, false, false, false, false] (by kernel_rfl) ?_
  refine take_ (i := 10) (N := (some 30)) (v := .agg #[.string xi.f0, .string xi.f1, .int .i64 xi.f2, .string xi.f3, .bool xi.f4]) (a' := ?_) #[true, true, true, true, true, true, true, true, true, true, true, false, false, false, false, false] rfl rfl (take_ofW HT_.out HW_.out (by kernel_rfl)) (fun _ _ _ h => h) (yieldsIf_load_mid (by rfl) 29 _ rfl gr (q1.toNat * 5) (by go_simp) _ _ (fun w' hw' => hw'.2.2) hu29 rfl hsz) hHeld ?_ ?_
  rotate_left
  ·
   simp only [Act.put, lsa, lsz, lss, i64_w, i32_w]
   rfl
  refine one_ (i := 11) (N := (some 31)) #[true, true, true, true, true, true, true, true, true, true, true, true, false, false, false, false] rfl rfl (one_of HT_.out (by kernel_rfl)) (by decide) (fun K hK => ?_)
  refine goes_ Try.func28 (by kernel_rfl) rfl #[.agg #[.string xi.f0, .string xi.f1, .int .i64 xi.f2, .string xi.f3, .bool xi.f4]] (by rfl) rfl rfl agn ?_
  with_reducible refine (mem_weigh.calls xi.f0 xi.f1 xi.f2 xi.f3 xi.f4 a5 _ X5.out).mono ?_
  rintro e_ w9 ⟨rfl, hb⟩
  refine ⟨_, rfl, ?_⟩
  have RC := aS (show w9.rangeAt gr (q1.toNat * 5) [.string xi.f0, .string xi.f1, .int .i64 xi.f2, .string xi.f3, .bool xi.f4] from fun j u hj => pw_cell_below hb (hHeld.2.2 j u hj))
  have B3 := aS (blk_below B3d.out hb)
  have HA1 := aS (HAd.out.below hb)
  have TW := aS (TWd.out.step hb)
  clear hb B3d HAd TWd
  refine hK.out _ _ ⟨(blk_cell HA1.out.2.1 0).trans rfl, (blk_cell HA1.out.2.1 1).trans rfl, RC.out⟩ (fun hHeld => ?_)
  clear hK K
  refine norm_ (a' := ?_) ?_ ?_
  rotate_left
  ·
   show Act.put _ (some 31) _ = _
   simp only [Act.put, lsa, lsz, lss, i64_w, i32_w]
   rfl
  refine along_ [(12, 32), (13, 33), (14, 34)] ?_
  iterate 3 (apply pure1 HT_; (case hi => rfl); (case hN => rfl); (case hw => rfl); (case hc => kernel_rfl); (case hQ => exact fun _ _ _ h => h); (case hy => intro w'; go_simp; with_reducible rfl); (case ha => simp only [Act.put, lsa, lsz, lss, i64_w, i32_w]; rfl))
  refine lay_ #[true, true, true, true, true, true, true, true, true, true, true, true, true, true, true, false] (by kernel_rfl) ?_
  refine last_ (i := 15) (N := none) #[true, true, true, true, true, true, true, true, true, true, true, true, true, true, true, true] rfl rfl (one_of HT_.out (by kernel_rfl)) (by decide) (fun K hK => ?_)
  rw [if_pos (by rfl)]
  have hfz := blk_frozen HA1.out.2.1 1
  have hcl := (blk_cell HA1.out.2.1 1).trans rfl
  have HA2 : Aside0 (mem_New.At (w9.setCell ⟨g, 1, none⟩ (.int .i64 (wrap64 (n - a5)))) base g xs (wrap64 (n - a5)) (.slice (some ⟨gr, 0, none⟩) xs.length cc)) := aS ⟨HA1.out.1, blk_put HA1.out.2.1 1 _ rfl, Kd.R_set HA1.out.2.2 HA1.out.2.1 (by decide) 1 _⟩
  have TW2 := aS (TW.out.trans (mem_New.Two.set w9 g 1 (.int .i64 (wrap64 (n - a5))) (Value.slice (some ⟨gr, 0, none⟩) xs.length cc).ownBlock) (.inl rfl))
  have B32 := aS (blk_far B3.out hpg.out.1 (.int .i64 (wrap64 (n - a5))) (p := ⟨g, 1, none⟩))
  unfold Oper.wp
  go_simp
  refine hK.out _ _ ?_
  clear hK K
  refine done_ (done_of HT_.out (by kernel_rfl)) ?_
  clear hfz hcl HT_ HW_ HA1 TW B3 RC
  have HA1 := aS HA2.out
  have TW := aS TW2.out
  have B3 := aS B32.out
  clear HA2 TW2 B32
  generalize w9.setCell ⟨g, 1, none⟩ (.int .i64 (wrap64 (n - a5))) = w10 at HA1 TW B3 ⊢
  generalize hn5 : wrap64 (n - a5) = n5 at HA1 ⊢
  have HN5 := aS hn5
  clear hn5
  go_upto_region 6 with (fail)
  refine start_ (n := 8) (ds := [7]) (S := fun w' => w'.cell? ⟨g, 0, none⟩ = some (.slice (some ⟨gr, 0, none⟩) xs.length cc) ∧ w'.rangeAt p3 0 [.string c0, .string c1, .int .i64 c2, .string c3, .bool c4]) #[false, false, false, false, false, false, false, false] (by kernel_rfl) rfl rfl ⟨(blk_cell (blk_drew HA1.out.2.1) 0).trans rfl, range_of (blk_drew B3.out)⟩ (fun hHeld => ?_)
  generalize hw_ : World.drew _ = w11 at hHeld ⊢
  have B3d : Aside0 (w11.heap[p3]? = _) := aS (hw_ ▸ blk_drew B3.out)
  have HAd : Aside0 (mem_New.At w11 base g _ _ _) := aS (hw_ ▸ HA1.out.below (below_drew (Below.refl _ _)))
  have TWd : Aside0 (mem_New.Two w w11 g _) := aS (hw_ ▸ TW.out.step (below_drew (Below.refl _ _)))
  clear hw_ B3 HA1 TW
  refine with_tabW (T := (true, [([], []), ([0], [0]), ([1], [1]), ([2], [2]), ([], []), ([], []), ([3, 4, 0, 1, 2, 3, 4, 5], [3, 4]), ([6, 5, 0, 1, 2, 3, 4, 5], [5, 6])])) (B := [0, 1, 3, 7, 0, 0, 63, 127]) (by kernel_rfl) (by kernel_rfl) (fun HT_ HW_ => ?_)
  refine along_ [(0, 35), (1, 36), (2, 37), (4, 39)] ?_
  iterate 4 (apply pure1 HT_; (case hi => rfl); (case hN => rfl); (case hw => rfl); (case hc => kernel_rfl); (case hQ => exact fun _ _ _ h => h); (case hy => intro w'; go_simp; with_reducible rfl); (case ha => simp only [Act.put, lsa, lsz, lss, i64_w, i32_w]; rfl))
  refine lay_ #[true, true, true, false, true, false, false, false] (by kernel_rfl) ?_
  refine along_ [(3, 38)] ?_
  iterate 1 (apply take1 HT_ HW_ hHeld; (case hi => rfl); (case hN => rfl); (case hw => rfl); (case hc => kernel_rfl); (case hQ => exact fun _ _ _ h => h); (case hy => intro w' hs_; go_simp; with_reducible rfl); (case ha => simp only [Act.put, lsa, lsz, lss, i64_w, i32_w]; rfl))
  refine lay_ #[true, true, true, true, true, false, false, false] (by kernel_rfl) ?_
  refine take_ (i := 5) (N := (some 40)) (v := .agg #[.string c0, .string c1, .int .i64 c2, .string c3, .bool c4]) (a' := ?_) #[true, true, true, true, true, true, false, false] rfl rfl (take_ofW HT_.out HW_.out (by kernel_rfl)) (fun _ _ _ h => h) (yieldsIf_load_mid (by rfl) 29 _ rfl p3 0 (by go_simp) _ _ (fun w' hw' => hw'.2) hu29 rfl hsz) hHeld ?_ ?_
  rotate_left
  ·
   simp only [Act.put, lsa, lsz, lss, i64_w, i32_w]
   rfl
  refine along_ [(6, 41)] ?_
  iterate 1 (apply pure1 HT_; (case hi => rfl); (case hN => rfl); (case hw => rfl); (case hc => kernel_rfl); (case hQ => exact fun _ _ _ h => h); (case hy => intro w'; go_simp; with_reducible rfl); (case ha => simp only [Act.put, lsa, lsz, lss, i64_w, i32_w]; rfl))
  refine lay_ #[true, true, true, true, true, true, true, false] (by kernel_rfl) ?_
  refine last_ (i := 7) (N := none) #[true, true, true, true, true, true, true, true] rfl rfl (one_of HT_.out (by kernel_rfl)) (by decide) (fun K hK => ?_)
  obtain ⟨ce, hcel, _, hcc, _⟩ := Kd.R_elem HAd.out.2.2 z29 q1 hq0 hq1
  obtain ⟨hr2, hg2⟩ := Kd.R_seg HAd.out.2.2 q1 hq0 hq1 (c := ce) (seg := [.string c0, .string c1, .int .i64 c2, .string c3, .bool c4]) (j := 0) (x' := (⟨c0, c1, c2, c3, c4⟩ : S29)) (okp := fun _ => False) hcel hcc (Nat.le_refl 5) (by
   rw [List.take_zero, List.nil_append, List.drop_of_length_le (by rw [hcel]; exact Nat.le_refl 5), List.append_nil]
   exact k29_mkM w11 base (fun _ => False) (⟨c0, c1, c2, c3, c4⟩ : S29)) (fun _ hk => hk.elim)
  obtain ⟨ch, hh11⟩ := Kd.R_typed HAd.out.2.2 gr rfl
  have hsz11 := R_size HAd.out.2.2 hh11
  obtain ⟨w12, hw12⟩ : ∃ w12, w12 = w11.setCells gr (q1.toNat * 5) [.string c0, .string c1, .int .i64 c2, .string c3, .bool c4] := ⟨_, rfl⟩
  obtain ⟨ys, hys⟩ : ∃ ys, ys = xs.set q1.toNat (⟨c0, c1, c2, c3, c4⟩ : S29) := ⟨_, rfl⟩
  replace hr2 : Kd.R k29 29 w12 base (fun _ => True) (.slice (some ⟨gr, 0, none⟩) xs.length cc) ys := by rw [hw12, hys]; exact hr2
  replace hg2 : w11.grownBy w12 (some gr) := by rw [hw12]; exact hg2
  refine store_step (by rfl) 29 _ _ rfl rfl (by rfl) (.agg #[.string c0, .string c1, .int .i64 c2, .string c3, .bool c4]) (by rfl) [.string c0, .string c1, .int .i64 c2, .string c3, .bool c4] rfl hsz hh11 (by have h5 : xs.length * 5 ≤ ch.size := hsz11; show q1.toNat * 5 + 5 ≤ ch.size; omega) ((k29).K_one (k29_mk w11 (⟨c0, c1, c2, c3, c4⟩ : S29))) ?_
  have GA := blk_grown HAd.out.2.1 hg2 (fun he => hne.out.1 (by injection he with he; exact he.symm))
  have B3 := aS (blk_grown B3d.out hg2 (fun he => hne.out.2 (by injection he)))
  have HA1 : Aside0 (mem_New.At w12 base g ys n5 (.slice (some ⟨gr, 0, none⟩) xs.length cc)) := aS ⟨HAd.out.1, GA, hr2⟩
  have TW := aS (TWd.out.trans (mem_New.Two.grown hg2 g) (.inl rfl))
  have HY := aS hys
  rw [← hw12]
  clear hw12 hys hsz11
  refine hK.out _ _ ?_
  clear hK K
  refine done_ (done_of HT_.out (by kernel_rfl)) ?_
  clear GA hr2 hg2 hcc hcel hh11 HT_ HW_ B3d HAd TWd hHeld
  go_upto_region 8 with (fail)
  refine start_ (n := 10) (ds := [9]) (S := fun w' => w'.cell? ⟨g, 1, none⟩ = some (.int .i64 n5) ∧ w'.rangeAt p3 0 [.string c0, .string c1, .int .i64 c2, .string c3, .bool c4]) #[false, false, false, false, false, false, false, false, false, false] (by kernel_rfl) rfl rfl ⟨(blk_cell (blk_drew HA1.out.2.1) 1).trans rfl, range_of (blk_drew B3.out)⟩ (fun hHeld => ?_)
  generalize hw_ : World.drew _ = w20 at hHeld ⊢
  have B3d : Aside0 (w20.heap[p3]? = _) := aS (hw_ ▸ blk_drew B3.out)
  have HAd : Aside0 (mem_New.At w20 base g _ _ _) := aS (hw_ ▸ HA1.out.below (below_drew (Below.refl _ _)))
  have TWd : Aside0 (mem_New.Two w w20 g _) := aS (hw_ ▸ TW.out.step (below_drew (Below.refl _ _)))
  clear hw_ B3 HA1 TW
  refine with_tabW (T := (true, [([], []), ([0], [0]), ([1], [1]), ([2], [2]), ([], []), ([4], [4]), ([3, 5], [3, 5]), ([0, 0, 1, 2, 3, 4, 5, 6], [0]), ([7, 0, 1, 2, 3, 4, 5, 6], [7]), ([8, 6, 5, 0, 1, 2, 3, 4, 5, 6], [6, 8])])) (B := [0, 1, 3, 7, 0, 16, 63, 127, 255, 511]) (by kernel_rfl) (by kernel_rfl) (fun HT_ HW_ => ?_)
  refine along_ [(0, 53), (1, 54), (2, 55)] ?_
  iterate 3 (apply pure1 HT_; (case hi => rfl); (case hN => rfl); (case hw => rfl); (case hc => kernel_rfl); (case hQ => exact fun _ _ _ h => h); (case hy => intro w'; go_simp; with_reducible rfl); (case ha => simp only [Act.put, lsa, lsz, lss, i64_w, i32_w]; rfl))
  refine lay_ #[true, true, true, false, false, false, false, false, false, false] (by kernel_rfl) ?_
  refine along_ [(3, 56)] ?_
  iterate 1 (apply take1 HT_ HW_ hHeld; (case hi => rfl); (case hN => rfl); (case hw => rfl); (case hc => kernel_rfl); (case hQ => exact fun _ _ _ h => h); (case hy => intro w' hs_; go_simp; with_reducible rfl); (case ha => simp only [Act.put, lsa, lsz, lss, i64_w, i32_w]; rfl))
  refine lay_ #[true, true, true, true, false, false, false, false, false, false] (by kernel_rfl) ?_
  refine take_ (i := 4) (N := (some 57)) (v := .agg #[.string c0, .string c1, .int .i64 c2, .string c3, .bool c4]) (a' := ?_) #[true, true, true, true, true, false, false, false, false, false] rfl rfl (take_ofW HT_.out HW_.out (by kernel_rfl)) (fun _ _ _ h => h) (yieldsIf_load_mid (by rfl) 29 _ rfl p3 0 (by go_simp) _ _ (fun w' hw' => hw'.2) hu29 rfl hsz) hHeld ?_ ?_
  rotate_left
  ·
   simp only [Act.put, lsa, lsz, lss, i64_w, i32_w]
   rfl
  refine one_ (i := 5) (N := (some 58)) #[true, true, true, true, true, true, false, false, false, false] rfl rfl (one_of HT_.out (by kernel_rfl)) (by decide) (fun K hK => ?_)
  refine goes_ Try.func28 (by kernel_rfl) rfl #[.agg #[.string c0, .string c1, .int .i64 c2, .string c3, .bool c4]] (by rfl) rfl rfl agn ?_
  with_reducible refine (mem_weigh.calls c0 c1 c2 c3 c4 b8 _ X8.out).mono ?_
  rintro e_ w21 ⟨rfl, hb⟩
  refine ⟨_, rfl, ?_⟩
  have B3 := aS (blk_below B3d.out hb)
  have HA1 := aS (HAd.out.below hb)
  have TW := aS (TWd.out.step hb)
  clear hb B3d HAd TWd
  refine hK.out _ _ ⟨(blk_cell HA1.out.2.1 1).trans rfl, range_of B3.out⟩ (fun hHeld => ?_)
  clear hK K
  refine norm_ (a' := ?_) ?_ ?_
  rotate_left
  ·
   show Act.put _ (some 58) _ = _
   simp only [Act.put, lsa, lsz, lss, i64_w, i32_w]
   rfl
  refine along_ [(6, 59), (7, 60), (8, 61)] ?_
  iterate 3 (apply pure1 HT_; (case hi => rfl); (case hN => rfl); (case hw => rfl); (case hc => kernel_rfl); (case hQ => exact fun _ _ _ h => h); (case hy => intro w'; go_simp; with_reducible rfl); (case ha => simp only [Act.put, lsa, lsz, lss, i64_w, i32_w]; rfl))
  refine lay_ #[true, true, true, true, true, true, true, true, true, false] (by kernel_rfl) ?_
  refine last_ (i := 9) (N := none) #[true, true, true, true, true, true, true, true, true, true] rfl rfl (one_of HT_.out (by kernel_rfl)) (by decide) (fun K hK => ?_)
  rw [if_pos (by rfl)]
  have hfz := blk_frozen HA1.out.2.1 1
  have hcl := (blk_cell HA1.out.2.1 1).trans rfl
  have HA2 : Aside0 (mem_New.At (w21.setCell ⟨g, 1, none⟩ (.int .i64 (wrap64 (n5 + b8)))) base g ys (wrap64 (n5 + b8)) (.slice (some ⟨gr, 0, none⟩) xs.length cc)) := aS ⟨HA1.out.1, blk_put HA1.out.2.1 1 _ rfl, Kd.R_set HA1.out.2.2 HA1.out.2.1 (by decide) 1 _⟩
  have TW2 := aS (TW.out.trans (mem_New.Two.set w21 g 1 (.int .i64 (wrap64 (n5 + b8))) (Value.slice (some ⟨gr, 0, none⟩) xs.length cc).ownBlock) (.inl rfl))
  unfold Oper.wp
  go_simp
  refine hK.out _ _ ?_
  clear hK K
  refine done_ (done_of HT_.out (by kernel_rfl)) ?_
  clear hfz hcl HT_ HW_
  go_wp2
  go_ret
  have e_ := HY.out
  subst e_
  have e2_ := HN5.out
  subst e2_
  exact ⟨rfl, _, HA2.out, TW2.out, .inl rfl⟩

/-! ### api_Cell_33: function 33 -/
def api_Cell_33.f (l0 : List (S29)) : Option (List (S29)) := if l0.length * 64 ≤ 140737488355328 then some l0 else none
theorem api_Cell_33.calls (A0 : Option Addr) (c0 : Nat) (l0 r : List (S29)) (w : World) (hr0 : Kd.C k29 w A0 l0.length l0) (hc0 : l0.length ≤ c0) (h : api_Cell_33.f l0 = some r) :
  Calls Try.prog 33 #[.slice A0 l0.length c0] w fun e w' => ∃ v0_ : Value, e = .returned (v0_) ∧ Kd.R k29 29 w' w.heap.size (fun _ => True) v0_ r ∧ Below w.heap.size w w' := by
 unfold api_Cell_33.f at h
 split at h
 ·
  rename_i hlim
  obtain rfl := Option.some.inj h
  clear h
  have HL := aS hlim
  clear hlim
  have HR := aS hr0
  clear hr0
  have HC := aS hc0
  clear hc0
  cases A0 with
  | none =>
   have hl : l0 = [] := by
    rcases Nat.eq_zero_or_pos l0.length with h0 | h0
    ·
     exact List.eq_nil_of_length_eq_zero h0
    ·
     obtain ⟨ad, h, _⟩ := HR.out.2.2 h0
     cases h
   subst hl
   have hq := fun (w : World) (n c n' c' : Nat) => Lib.run_eql_slice_nil (P := Try.prog) w 22 29 none n c n' c' Try.underlying22
   go_enter Try.func33, Try.ntmps33
   go_wp2
   go_ret
   exact ⟨_, rfl, Kd.R_nil _ _ _ _ _, Below.refl _ _⟩
  | some ad =>
   have hq := fun (w : World) (n c n' c' : Nat) => Lib.run_eql_slice_nil (P := Try.prog) w 22 29 (some ad) n c n' c' Try.underlying22
   go_enter Try.func33, Try.ntmps33
   go_wp2_with (first
    | ((with_reducible refine gate_dst (N := 5) rfl ?_); refine Kd.R_lit k29 _ 29 ?hg (N := 5) ?hd (xs := []) (inner := []) (ok := fun _ => True) (okp := fun _ => True) ?hr ?hp (fun _ hk => hk) trivial (Below.refl _ _) (Nat.le_refl _) (by simp) ?_; (case hd => rfl); (case hg => rfl); (case hr => first | (go_simp; done) | (go_simp; rfl)); (case hp => exact Reps.none _ _); intro v1 w1 ho hb hg_ hnew_; clear hg_ hnew_; have HO := aS ho; have HB := aS hb; clear ho hb)
    | (at_builtin; refine Kd.R_append_rows k29 (Rr := (k29).K w) (w0 := w) w.heap.size rfl (.tmp 5) _ 22 29 _ _ rfl Try.underlying22 info29 rfl (by decide) (by decide) v1 [] l0 (some ad) l0.length c0 (fun _ => True) (fun _ => False) rfl rfl HO.out (HR.out.imp_ HB.out (fun _ _ hp => hp)) (fun _ _ hp => hp) (fun _ hk => hk.elim) (fun _ _ => trivial) HB.out HB.out.size (by have := HL.out; simp; omega) ?_; intro v2 w2 ho hb hg hat; clear hg hat; have HO2 := aS ho; have HB2 := aS hb; clear ho hb))
   go_ret
   exact ⟨_, rfl, HO2.out, HB2.out⟩
 ·
  cases h

/-! ### mem_Mem_Cells: function 15 -/
set_option maxHeartbeats 8000000 in
set_option maxRecDepth 100000 in
theorem mem_Mem_Cells.calls (g base : Nat) (xs r : List S29) (n : Int) (v : Value) (w : World) (hA : mem_New.At w base g xs n v) (h : api_Cell_33.f xs = some r) :
  Calls Try.prog 15 #[.pointer (some ⟨g, 0, none⟩)] w fun e w' => ∃ v0_ : Value, e = .returned v0_ ∧ Kd.R k29 29 w' w.heap.size (fun _ => True) v0_ r ∧ Below w.heap.size w w' := by
 have hu46 := Try.underlying46
 obtain ⟨A, cc, rfl, hcl, hC⟩ := hA.rows
 have B := aS hA.2.1
 have HC := aS hC
 have HL := aS hcl
 have X := aS h
 clear hA hcl hC h
 have q0 := cK2 B
 go_enter Try.func15, Try.ntmps15
 go_wp2_with (go_at_call 33; (with_reducible refine (api_Cell_33.calls A cc xs r _ HC.out HL.out X.out).mono ?_); rintro e_ w2 ⟨v0, rfl, ho, hb⟩; have HO := aS ho; have HB := aS hb; clear ho hb)
 go_ret
 exact ⟨v0, rfl, HO.out, HB.out⟩

/-! ### mem_Mem_Len: function 16 -/
set_option maxHeartbeats 8000000 in
set_option maxRecDepth 100000 in
theorem mem_Mem_Len.calls (g base : Nat) (xs : List S29) (n : Int) (v : Value) (w : World) (hA : mem_New.At w base g xs n v) :
  Calls Try.prog 16 #[.pointer (some ⟨g, 0, none⟩)] w fun e w' => e = .returned (.int .i64 (xs.length : Int)) ∧ Below w.heap.size w w' := by
 have hu46 := Try.underlying46; have hu22 := Try.underlying22
 obtain ⟨A, cc, rfl, hcl, hC⟩ := hA.rows
 have B := aS hA.2.1
 clear hA hcl hC
 have q0 := cK2 B
 go_enter Try.func16, Try.ntmps16
 go_wp2
 go_ret
 exact ⟨rfl, Below.refl _ _⟩

/-! ### mem_Mem_Size: function 17 -/
set_option maxHeartbeats 8000000 in
set_option maxRecDepth 100000 in
theorem mem_Mem_Size.calls (g base : Nat) (xs : List S29) (n : Int) (v : Value) (w : World) (hA : mem_New.At w base g xs n v) :
  Calls Try.prog 17 #[.pointer (some ⟨g, 0, none⟩)] w fun e w' => e = .returned (.int .i64 n) ∧ Below w.heap.size w w' := by
 have hu46 := Try.underlying46
 obtain ⟨A, cc, rfl, hcl, hC⟩ := hA.rows
 have B := aS hA.2.1
 clear hA hcl hC
 have q0 := cK2 B
 go_enter Try.func17, Try.ntmps17
 go_wp2
 go_ret
 exact ⟨rfl, Below.refl _ _⟩

/-! ### shardloglaw09_filled: function 19 -/
def shardloglaw09_filled.l0 (k : Nat) : List S29 → List S29 → Int → Option (List S29 × Int)
 | [], xs, n => some (xs, n)
 | c :: r, xs, n => (mem_Mem_Put.f k xs n c.f0 c.f1 c.f2 c.f3 c.f4).bind fun q => shardloglaw09_filled.l0 k r q.1 q.2.1
def shardloglaw09_filled.f (k : Nat) (l : List S29) : Option (List S29 × Int) := shardloglaw09_filled.l0 k l [] 0
theorem shardloglaw09_filled.mono_l (k : Nat) : ∀ l xs n, LeO (shardloglaw09_filled.l0 k l xs n) (shardloglaw09_filled.l0 (k + 1) l xs n)
 | [], _, _ => LeO.refl _
 | c :: r, xs, n => LeO.bind (mem_Mem_Put.mono _ _ _ _ _ _ _ _) fun _ => shardloglaw09_filled.mono_l k r _ _
theorem shardloglaw09_filled.mono : ∀ a0 k, LeO (shardloglaw09_filled.f k a0) (shardloglaw09_filled.f (k + 1) a0) := fun _ k => shardloglaw09_filled.mono_l k _ _ _
set_option maxHeartbeats 8000000 in
set_option maxRecDepth 100000 in
theorem shardloglaw09_filled.calls (k : Nat) (A0 : Option Addr) (c0 : Nat) (l xs : List S29) (n : Int) (w : World) (hr0 : Kd.C k29 w A0 l.length l) (hc0 : l.length ≤ c0) (h : shardloglaw09_filled.f k l = some (xs, n)) :
  Calls Try.prog 19 #[.slice A0 l.length c0] w fun e w' => ∃ g : Nat, e = .returned (.pointer (some ⟨g, 0, none⟩)) ∧ (∃ v : Value, mem_New.At w' w.heap.size g xs n v) ∧ Below w.heap.size w w' := by
 have hu22 := Try.underlying22; have hu29 := Try.underlying29
 have hmx : l.length ≤ 9223372036854775807 := hr0.2.1
 have HR := aS hr0
 have H : Aside0 (shardloglaw09_filled.l0 k l [] 0 = some (xs, n)) := aS h
 have HM := aS hmx
 clear hr0 h hmx hc0
 go_enter Try.func19, Try.ntmps19
 go_wp2_with (go_at_call 9; (with_reducible refine (mem_New.calls _).mono ?_); rintro e_ w1 ⟨g, rfl, ha, hb⟩; have HA := aS ha; have HB := aS hb; clear ha hb)
 go_loopw [4] (fun v4 wr => ∃ (i : Nat) (xs1 : List S29) (n1 : Int) (v1 : Value), v4 = .int .i64 (i : Int) ∧ Aside0 (i ≤ l.length) ∧ Aside0 (shardloglaw09_filled.l0 k (l.drop i) xs1 n1 = some (xs, n)) ∧ Aside0 (mem_New.At wr w.heap.size g xs1 n1 v1) ∧ Aside0 (Below w.heap.size w wr)) (fun i _ => l.length - (intOf i).toNat)
 case atStart => exact ⟨0, [], 0, _, rfl, ⟨Nat.zero_le _⟩, H, HA, HB⟩
 case round =>
  obtain ⟨i, xs1, n1, v1, rfl, hi, HA, HM1, HBr⟩ := hrel
  by_cases hlt : i < l.length
  ·
   have hq1 : (i : Int) < (l.length : Int) := by omega
   have hq0 : (0 : Int) ≤ (i : Int) := by omega
   obtain ⟨ad, e_, hx0, hx1, hx2, hx3, hx4⟩ := at_T29 (Kd.C_below HR.out HBr.out) (i : Int) hq0 hq1
   subst e_
   obtain ⟨x, hx⟩ : ∃ x, x = rd_T29 l (i : Int) := ⟨_, rfl⟩
   rw [← hx] at hx0 hx1 hx2 hx3 hx4
   have hxe : x = l[i] := by rw [hx]; unfold rd_T29; rw [Int.toNat_natCast, List.getD_eq_getElem?_getD, List.getElem?_eq_getElem hlt]; rfl
   have ha := HA.out
   rw [List.drop_eq_getElem_cons hlt, ← hxe] at ha
   unfold shardloglaw09_filled.l0 at ha
   replace ha := obm ha
   obtain ⟨⟨ys, m, r⟩, y1, ha⟩ := ha
   have Y1 := aS y1
   have HA2 := aS ha
   have hix : ∀ W : World, (Instr.indexAt 22 (.slice (some ad) l.length c0) (.int .i64 (i : Int))).run Try.prog W = .ok (.pointer (some (ad.add (i * 5)))) W := by
    obtain ⟨i0, hi0, hz⟩ := Option.map_eq_some_iff.1 info29
    simp only [Prod.mk.injEq] at hz
    exact index_ad 22 29 hu22 hi0 5 hz.2.1 ad l.length c0 (i : Int) hq0 hq1
   have hwr : wrap64 ((i : Int) + 1) = (i : Int) + 1 := by rw [← i64_w, IntKind.wrap_i64]; have := HM.out; omega
   rw [Int.toNat_natCast] at hx0 hx1 hx2 hx3 hx4
   clear hx hxe hi hq0 y1 ha HA
   go_wp2_with (go_at_call 10; (with_reducible refine (mem_Mem_Put.calls k g w.heap.size xs1 n1 v1 x.f0 x.f1 x.f2 x.f3 x.f4 ys m r _ HM1.out Y1.out).mono ?_); rintro e_ w2 ⟨rfl, v2, ha2, ht2, _⟩; have HM2 := aS ha2; have HB2 := aS (ht2.below HM1.out (Nat.le_refl _) HBr.out); clear ha2 ht2 HM1 HBr)
   go_roundw
   case rel => exact ⟨i + 1, ys, m, v2, by rw [hwr]; rfl, ⟨hlt⟩, HA2, HM2, HB2⟩
   case measure => exact meas1 hwr hlt
  ·
   have e_ : l.drop i = [] := List.drop_eq_nil_of_le (by omega)
   have hge : ¬ ((i : Int) < (l.length : Int)) := by omega
   have ha := HA.out
   rw [e_] at ha
   unfold shardloglaw09_filled.l0 at ha
   obtain ha := Option.some.inj ha
   simp only [Prod.mk.injEq] at ha
   obtain ⟨rfl, rfl⟩ := ha
   clear e_ HA
   go_wp2
   go_ret
   exact ⟨g, rfl, ⟨v1, HM1.out⟩, HBr.out⟩

end Go.Proofs.Ytgcicgjfimfhpaa.X
