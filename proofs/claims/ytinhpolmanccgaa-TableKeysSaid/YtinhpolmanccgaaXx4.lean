-- written by a program of this session's, over the kit's print
import Derived.Test.YtinhpolmanccgaaXx0
import Derived.Test.YtinhpolmanccgaaXx3
namespace Go.Proofs.Ytinhpolmanccgaa.X
open Go.RowKit Go.Proofs.YtinhpolmanccgaaW.PrintWords Go.Proofs.YtinhpolmanccgaaW.PrintLast Go.Proofs.YtinhpolmanccgaaW.PrintMore
attribute [local go_sem] max2_int min2_int max_two min_two max_three min_three max_four min_four gtr_str   -- for this text's walks alone
set_option linter.unusedVariables false
set_option linter.unusedSimpArgs false

/-! ### api_Cell_43: function 43 -/
def api_Cell_43.f (l0 : List (S42)) : Option (List (S42)) := if l0.length * 64 ≤ 140737488355328 then some l0 else none
theorem api_Cell_43.calls (A0 : Option Addr) (c0 : Nat) (l0 r : List (S42)) (w : World) (hr0 : Kd.C k42 w A0 l0.length l0) (hc0 : l0.length ≤ c0) (h : api_Cell_43.f l0 = some r) :
  Calls Try.prog 43 #[.slice A0 l0.length c0] w fun e w' => ∃ v0_ : Value, e = .returned (v0_) ∧ Kd.R k42 42 w' w.heap.size (fun _ => True) v0_ r ∧ Below w.heap.size w w' := by
 unfold api_Cell_43.f at h
 split at h
 ·
  rename_i hlim
  obtain rfl := Option.some.inj h
  clear h; have HL := aS hlim; clear hlim; have HR := aS hr0; clear hr0; have HC := aS hc0; clear hc0
  cases A0 with
  | none =>
   have hl : l0 = [] := by
    rcases Nat.eq_zero_or_pos l0.length with h0 | h0
    ·
     exact List.eq_nil_of_length_eq_zero h0
    ·
     obtain ⟨ad, h, _⟩ := HR.out.2.2 h0; cases h
   subst hl
   have hq := fun (w : World) (n c n' c' : Nat) => Lib.run_eql_slice_nil (P := Try.prog) w 22 42 none n c n' c' Try.underlying22
   go_enter Try.func43, Try.ntmps43
   go_wp2
   go_ret
   exact ⟨_, rfl, Kd.R_nil _ _ _ _ _, Below.refl _ _⟩
  | some ad =>
   have hq := fun (w : World) (n c n' c' : Nat) => Lib.run_eql_slice_nil (P := Try.prog) w 22 42 (some ad) n c n' c' Try.underlying22
   go_enter Try.func43, Try.ntmps43
   go_wp2_with (first
    | ((with_reducible refine gate_dst (N := 5) rfl ?_); refine Kd.R_lit k42 _ 42 ?hg (N := 5) ?hd (xs := []) (inner := []) (ok := fun _ => True) (okp := fun _ => True) ?hr ?hp (fun _ hk => hk) trivial (Below.refl _ _) (Nat.le_refl _) (by simp) ?_; (case hd => rfl); (case hg => rfl); (case hr => first | (go_simp; done) | (go_simp; rfl)); (case hp => exact Reps.none _ _); intro v1 w1 ho hb hg_ hnew_; clear hg_ hnew_; have HO := aS ho; have HB := aS hb; clear ho hb)
    | (at_builtin; refine Kd.R_append_rows k42 (Rr := (k42).K w) (w0 := w) w.heap.size rfl (.tmp 5) _ 22 42 _ _ rfl Try.underlying22 info42 rfl (by decide) (by decide) v1 [] l0 (some ad) l0.length c0 (fun _ => True) (fun _ => False) rfl rfl HO.out (HR.out.imp_ HB.out (fun _ _ hp => hp)) (fun _ _ hp => hp) (fun _ hk => hk.elim) (fun _ _ => trivial) HB.out HB.out.size (by have := HL.out; simp; omega) ?_; intro v2 w2 ho hb hg hat; clear hg hat; have HO2 := aS ho; have HB2 := aS hb; clear ho hb))
   go_ret
   exact ⟨_, rfl, HO2.out, HB2.out⟩
 ·
  cases h

/-! ### slices_Grow_byte_byte: function 72 -/
-- its contract stands with slices.Concat's

/-! ### slices_Concat_byte_byte: function 53 -/
theorem slices_Concat_byte_byte_g0 (w : World) : Calls Try.prog 72 #[.slice none 0 0, .int .i64 0] w fun e w' => e = .returned (.slice none 0 0) ∧ w = w' := by
 go_enter Try.func72, Try.ntmps72
 go_wp2
 go_ret
 exact ⟨rfl, rfl⟩
theorem slices_Concat_byte_byte_g1 (n : Int) (w : World) (h0 : 0 < n) (hn : n ≤ 140737488355328) : Calls Try.prog 72 #[.slice none 0 0, .int .i64 n] w fun e w' => ∃ v0_ : Value, e = .returned v0_ ∧ Kd.R (Kd.int .u8) 5 w' w.heap.size (fun _ => True) v0_ [] ∧ Below w.heap.size w w' := by
 have p1 : ¬ n < 0 := by omega
 have p3 : 0 ≤ n := by omega
 obtain ⟨i0, hi0, _, _, _⟩ := info_parts info5; have hcut0 := cut_to (P := Try.prog) 26 5 .i64 Try.underlying26 hi0 none 0 0 0 (by omega) (by omega) (by omega)
 go_enter Try.func72, Try.ntmps72
 go_wp2_with (first
  | (at_builtin; refine Kd.R_append_zeros (Kd.int .u8) (w0 := w) w.heap.size rfl (.tmp 20) (.tmp 21) 26 3 5 (.int .u8 0) 1 rfl Try.underlying26 Try.underlying3 info5 rfl (by decide) (by omega) (.slice none 0 0) [] 0 (n : Int) (fun _ => True) rfl rfl rfl (fun _ _ => trivial) (Kd.R_nil _ _ _ _ _) p3 (Below.refl _ _) (Nat.le_refl _) (by simp; omega) ?_; intro v1 w1 ho hb hg hat; clear hg hat; obtain ⟨A1, c1, rfl⟩ := Kd.R_slice ho; have ht := Kd.R_take (m := 0) ho (Nat.zero_le _); have HO := aS ht; have HB := aS hb; have hcut1 := cut_to (P := Try.prog) 26 5 .i64 Try.underlying26 hi0 A1 ([] ++ List.replicate n.toNat (0 : Int)).length c1 0 (by omega) (by omega) (Kd.R_reads' ho).2.1; clear ho hb ht))
 go_ret
 exact ⟨_, rfl, HO.out, HB.out⟩
def slices_Concat_byte_byte.f (l0 : List (List Int)) : Option (List Int) := if lenSum l0 ≤ 140737488355328 then some l0.flatten else none
set_option maxHeartbeats 2000000 in
theorem slices_Concat_byte_byte.calls (A0 : Option Addr) (c0 : Nat) (l0 : List (List Int)) (r : List Int) (w : World) (hr0 : Kd.C (Kd.slice 5 (Kd.int .u8)) w A0 l0.length l0) (hc0 : l0.length ≤ c0) (h : slices_Concat_byte_byte.f l0 = some r) :
  Calls Try.prog 53 #[.slice A0 l0.length c0] w fun e w' => ∃ v0_ : Value, e = .returned (v0_) ∧ Kd.R (Kd.int .u8) 5 w' w.heap.size (fun _ => True) v0_ r ∧ Below w.heap.size w w' := by
 unfold slices_Concat_byte_byte.f at h
 split at h
 rotate_left
 ·
  cases h
 rename_i hlim
 obtain rfl := Option.some.inj h
 clear h; have HL := aS hlim; have HR := aS hr0; have HM := aS (Kd.C_max hr0); clear hlim hr0 hc0
 go_enter Try.func53, Try.ntmps53
 go_wp2
 go_loop [3, 11] (fun s i => ∃ k : Nat, i = .int .i64 (k : Int) ∧ s = .int .i64 ((lenSum (l0.take k) : Nat) : Int) ∧ Aside0 (k ≤ l0.length)) (fun _ i => l0.length - (intOf i).toNat)
 case atStart => exact ⟨0, rfl, by simp [lenSum], ⟨Nat.zero_le _⟩⟩
 case round =>
  obtain ⟨k, rfl, rfl, hk⟩ := hrel
  by_cases hlt : k < l0.length
  ·
   obtain ⟨ad, A1, c1, rfl, hcell, hl1, hC1⟩ := at_L5 HR.out (k : Int) (by omega) (by omega); rw [Int.toNat_natCast] at hcell; have b1 : lenSum (l0.take (k + 1)) = lenSum (l0.take k) + (rd_L5 l0 (k : Int)).length := lenSum_take l0 k hlt; have b2 := lenSum_le l0 (k + 1); have b3 := HL.out
   have b4 : ((lenSum (l0.take k) : Nat) : Int) + ((rd_L5 l0 (k : Int)).length : Int) ≤ 140737488355328 := by omega
   have e1 : ((lenSum (l0.take k) : Nat) : Int) + ((rd_L5 l0 (k : Int)).length : Int) = ((lenSum (l0.take (k + 1)) : Nat) : Int) := by omega
   have E1 := aS e1; have b5 := HM.out; clear b1 b2 b3 e1 hl1 hC1
   go_wp2
   go_round
   case rel => exact ⟨k + 1, by go_num, by rw [E1.out], ⟨by omega⟩⟩
   case measure => simp [intOf]; omega
  ·
   have hkl : k = l0.length := by have := hk.out; omega
   subst hkl; rw [List.take_length]; have b0 := HL.out
   by_cases hz : lenSum l0 = 0
   all_goals
    go_wp2_with (first
     | (go_at_call 72; rw [hz]; refine (slices_Concat_byte_byte_g0 _).mono ?_; rintro e w1 ⟨rfl, rfl⟩; have HB := aS (Below.refl w.heap.size w); have HO := aS (Kd.R_nil (Kd.int .u8) 5 w w.heap.size (fun _ => True)))
     | (go_at_call 72; refine (slices_Concat_byte_byte_g1 _ _ (by omega) (by omega)).mono ?_; rintro e w1 ⟨v0, rfl, ho, hb⟩; have HO := aS ho; have HB := aS hb; clear ho hb))
    go_loopw [6, 27] (fun v i w2 => ∃ k : Nat, i = .int .i64 (k : Int) ∧ Aside0 (k ≤ l0.length) ∧ Aside0 (Kd.R (Kd.int .u8) 5 w2 w.heap.size (fun _ => True) v (l0.take k).flatten) ∧ Aside0 (Below w.heap.size w w2)) (fun _ i _ => l0.length - (intOf i).toNat)
    case atStart => exact ⟨0, rfl, ⟨Nat.zero_le _⟩, HO, HB⟩
    case round =>
     clear HO HB; obtain ⟨k, rfl, hk1, HO1, HB1⟩ := hrel
     by_cases hlt : k < l0.length
     ·
      obtain ⟨ad, A1, c1, rfl, hcell, hl1, hC1⟩ := at_L5 (Kd.C_below HR.out HB1.out) (k : Int) (by omega) (by omega); rw [Int.toNat_natCast] at hcell; have b1 : lenSum (l0.take (k + 1)) = lenSum (l0.take k) + (rd_L5 l0 (k : Int)).length := lenSum_take l0 k hlt; have b2 := lenSum_le l0 (k + 1)
      have b3 : lenSum (l0.take k) + (rd_L5 l0 (k : Int)).length ≤ 140737488355328 := by omega
      have B3 := aS b3; have F3 := aS (show (l0.take (k + 1)).flatten = (l0.take k).flatten ++ rd_L5 l0 (k : Int) from flat_take l0 k hlt); have HC1 := aS hC1; have b5 := HM.out; clear b1 b2 hl1 hC1 b0 b3
      go_wp2_with (first
       | (at_builtin; refine Kd.R_append_row (Value.int .u8) (0 : Int) (h1 := fun _ => rfl) (w0 := w) w.heap.size rfl (.tmp 31) (.tmp 32) 26 5 _ 1 rfl Try.underlying26 info5 rfl (by decide) _ (l0.take k).flatten (rd_L5 l0 (k : Int)) A1 (rd_L5 l0 (k : Int)).length c1 (fun _ => True) rfl rfl (fun _ _ => trivial) HO1.out HC1.out HB1.out HB1.out.size (by rw [flat_length]; have := B3.out; omega) ?_; intro v2 w3 ho hb hg hat; clear hg hat; rw [← F3.out] at ho; have HO2 := aS ho; have HB2 := aS hb; clear ho hb))
      go_roundw
      case rel => exact ⟨k + 1, by go_num, ⟨by omega⟩, HO2, HB2⟩
      case measure => simp [intOf]; omega
     ·
      have hkl : k = l0.length := by have := hk1.out; omega
      subst hkl; rw [List.take_length] at HO1
      go_wp2
      go_ret
      exact ⟨_, rfl, HO1.out, HB1.out⟩

/-! ### wire_Num: function 54 -/
def wire_Num.f (a0 : Int) : Option (List Int) := if a0 < 0 then (some ([] : List Int)) else (if a0 > 4294967295 then (some ([] : List Int)) else (some (([(a0 / 16777216) % 256, (a0 / 65536) % 256, (a0 / 256) % 256, (a0) % 256] : List Int))))
set_option maxHeartbeats 8000000 in
set_option maxRecDepth 100000 in
theorem wire_Num.calls (a0 : Int) (r : List Int) (w : World) (h : wire_Num.f a0 = some r) :
  Calls Try.prog 54 #[.int .i64 a0] w fun e w' => ∃ v0_ : Value, e = .returned (v0_) ∧ Kd.R (Kd.int .u8) 5 w' w.heap.size (fun _ => True) v0_ r ∧ Below w.heap.size w w' := by
 have HB := aS (Below.refl w.heap.size w); have H : (if a0 < 0 then (some ([] : List Int)) else (if a0 > 4294967295 then (some ([] : List Int)) else (some (([(a0 / 16777216) % 256, (a0 / 65536) % 256, (a0 / 256) % 256, (a0) % 256] : List Int))))) = some r := h; clear h
 by_cases c2 : a0 < 0
 ·
  rw [if_pos c2] at H; have c2b0 : decide (a0 < 0) = true := decide_eq_true c2; clear c2
  obtain rfl := Option.some.inj H
  go_enter Try.func54, Try.ntmps54
  go_wp2
  go_ret
  exact ⟨_, rf3, by first | exact Kd.R_nil _ _ _ _ _ | exact Kd.N_nil _ _ _ _ _ | exact Kd.V_nil _ _ _ _ _ | exact Kd.Q_nil _ _ _ _ _ | exact Kd.S_nil _ _ _ _ _, bel⟩
 ·
  rw [if_neg c2] at H; have c2b0 : decide (a0 < 0) = false := decide_eq_false c2; clear c2
  by_cases c3 : a0 > 4294967295
  ·
   rw [if_pos c3] at H; have c3b0 : decide (4294967295 < a0) = true := decide_eq_true c3; clear c3
   obtain rfl := Option.some.inj H
   go_enter Try.func54, Try.ntmps54
   go_wp2
   go_ret
   exact ⟨_, rf3, by first | exact Kd.R_nil _ _ _ _ _ | exact Kd.N_nil _ _ _ _ _ | exact Kd.V_nil _ _ _ _ _ | exact Kd.Q_nil _ _ _ _ _ | exact Kd.S_nil _ _ _ _ _, bel⟩
  ·
   rw [if_neg c3] at H; have c3b0 : decide (4294967295 < a0) = false := decide_eq_false c3; clear c3
   obtain ⟨y123, hy123⟩ : ∃ y_ : List Int, y_ = (([(a0 / 16777216) % 256, (a0 / 65536) % 256, (a0 / 256) % 256, (a0) % 256] : List Int)) := ⟨_, rfl⟩
   replace H : (some y123) = some r := hyr hy123 H; have Ny123 := aS hy123; clear hy123
   obtain rfl := Option.some.inj H
   go_enter Try.func54, Try.ntmps54
   go_wp2_with (first | ((with_reducible refine gate_dst (N := 20) rfl ?_); refine Kd.R_lit (Kd.int .u8) _ 5 ?hg (N := 20) ?hd (xs := ([(a0 / 16777216) % 256, (a0 / 65536) % 256, (a0 / 256) % 256, (a0) % 256] : List Int)) (inner := [.int .u8 ((a0 / 16777216) % 256), .int .u8 ((a0 / 65536) % 256), .int .u8 ((a0 / 256) % 256), .int .u8 ((a0) % 256)]) (ok := fun _ => True) (okp := fun _ => True) ?hr ?hp (fun _ hk => hk) trivial (Below.refl _ _) (Nat.le_refl _) (by simp) ?_; (case hd => rfl); (case hg => rfl); (case hr => first | (go_simp; done) | (go_simp; rfl)); (case hp => exact (Reps.one (show Kd.M (Kd.int .u8) _ _ _ ((a0 / 16777216) % 256) [.int .u8 ((a0 / 16777216) % 256)] from rfl) (Reps.one (show Kd.M (Kd.int .u8) _ _ _ ((a0 / 65536) % 256) [.int .u8 ((a0 / 65536) % 256)] from rfl) (Reps.one (show Kd.M (Kd.int .u8) _ _ _ ((a0 / 256) % 256) [.int .u8 ((a0 / 256) % 256)] from rfl) (Reps.one (show Kd.M (Kd.int .u8) _ _ _ ((a0) % 256) [.int .u8 ((a0) % 256)] from rfl) (Reps.none _ _)))))); intro v124 w4 ho5 hb hg_ hnew_; clear hg_ hnew_; (first | rw [← Ny123.out] at ho5 | (simp only [Int.reduceToNat] at ho5; rw [← Ny123.out] at ho5)); have HO125 := aS (Kd.R_lower ho5 (below_size bel)); replace HB := bstep hb; clear hb ho5))
   go_ret
   exact ⟨_, rf3, by (with_reducible repeat (first | apply Kd.R_alloc | apply Kd.R_drewN | apply Kd.R_drew)); exact HO125.out, bel⟩

/-! ### wire_Text: function 67 -/
def wire_Text.f (a0 : ByteArray) : Option (List Int) := (wire_Num.f (a0.size : Int)).bind fun t126 => (if t126.length + a0.size < 140737488355328 then (some (t126 ++ bytesOf a0)) else (none))
set_option maxHeartbeats 8000000 in
set_option maxRecDepth 100000 in
theorem wire_Text.calls (a0 : ByteArray) (r : List Int) (w : World) (h : wire_Text.f a0 = some r) :
  Calls Try.prog 67 #[.string a0] w fun e w' => ∃ v0_ : Value, e = .returned (v0_) ∧ Kd.R (Kd.int .u8) 5 w' w.heap.size (fun _ => True) v0_ r ∧ Below w.heap.size w w' := by
 have HB := aS (Below.refl w.heap.size w); have H : ((wire_Num.f (a0.size : Int)).bind fun t126 => (if t126.length + a0.size < 140737488355328 then (some (t126 ++ bytesOf a0)) else (none))) = some r := h; clear h; replace H := obm H; obtain ⟨t126, A20, H⟩ := H; have A2 := aS A20; clear A20
 by_cases c3 : t126.length + a0.size < 140737488355328
 ·
  rw [if_pos c3] at H; have LMc3 := aS c3; clear c3
  obtain ⟨y129, hy129⟩ : ∃ y_ : List Int, y_ = (t126 ++ bytesOf a0) := ⟨_, rfl⟩
  replace H : (some y129) = some r := hyr hy129 H; have Ny129 := aS hy129; clear hy129
  obtain rfl := Option.some.inj H
  go_enter Try.func67, Try.ntmps67
  go_wp2_with (first | ((with_reducible refine gate_callee (f := 54) rfl ?_); refine goesL_ (some 5) rfl rfl Try.func54 (by kernel_rfl) rfl #[.int .i64 (a0.size : Int)] rfl agn ?_; (with_reducible refine (wire_Num.calls (a0.size : Int) t126 _ A2.out).mono ?_); rintro e w4 ⟨v127, rfl, ho0, hb⟩; refine ⟨_, rfl, ?_⟩; have HO128 := aS (Kd.R_lower ho0 (below_size bel)); replace HB := bstep hb; (try clear hb); (try clear hk); (try clear hi); (try clear ho0)) | (at_builtin; refine print_append_str (w0 := w) w.heap.size rfl (.tmp 5) _ 26 9 5 rfl Try.underlying26 Try.underlying9 info5 v127 t126 a0 rfl rfl ?aO ?aB ?aS ?aL ?_; (case aB => exact bel); (case aO => exact (Kd.own_of_R (rel HO128.out))); (case aS => exact (below_size bel)); (case aL => have := LMc3.out; omega); intro v130 w5 ho0 hb hg; have ho := Kd.R_of_own (h1 := fun _ => rfl) (ok := fun _ => True) ho0 (fun _ _ => trivial); clear ho0; have hat := True.intro; rw [← Ny129.out] at ho; change Kd.R (Kd.int .u8) 5 w5 w.heap.size (fun _ => True) v130 y129 at ho; have n0_ := aS (hb); have n1_ := aS (ho); clear HB; clear HO128; have HB := n0_; have HO131 := n1_; clear n0_ n1_; clear ho hb hg hat))
  go_ret
  exact ⟨_, rf3, by (with_reducible repeat (first | apply Kd.R_alloc | apply Kd.R_drewN | apply Kd.R_drew)); exact HO131.out, bel⟩
 ·
  rw [if_neg c3] at H; exact absurd H (by simp)

/-! ### cell_flag: function 68 -/
def cell_flag.f (a0 : Bool) : Option (Int) := if a0 = true then (some 1) else (some 0)
set_option maxHeartbeats 8000000 in
set_option maxRecDepth 100000 in
theorem cell_flag.calls (a0 : Bool) (r : Int) (w : World) (h : cell_flag.f a0 = some r) :
  Calls Try.prog 68 #[.bool a0] w fun e w' => e = .returned (.int .u8 r) ∧ Drawn0 w w' := by
 have H : (if a0 = true then (some 1) else (some 0)) = some r := h; clear h
 by_cases c2 : a0 = true
 ·
  subst c2
  replace H := ifT H
  obtain rfl := Option.some.inj H
  go_enter Try.func68, Try.ntmps68
  go_wp2
  go_ret
  exact ⟨by first | rfl | (simp; done) | (simp [*]; done) | (simp; exact (by decide : ∀ a_ b_ : Bool, (a_ == b_) = (!a_ != b_)) _ _), by repeat (first | exact Drawn0.refl _ | apply Drawn0.step)⟩
 ·
  replace c2 := Bool.eq_false_iff.mpr c2; subst c2
  replace H := ifF H
  obtain rfl := Option.some.inj H
  go_enter Try.func68, Try.ntmps68
  go_wp2
  go_ret
  exact ⟨by first | rfl | (simp; done) | (simp [*]; done) | (simp; exact (by decide : ∀ a_ b_ : Bool, (a_ == b_) = (!a_ != b_)) _ _), by repeat (first | exact Drawn0.refl _ | apply Drawn0.step)⟩

/-! ### cell_Put: function 51 -/
def cell_Put.f (a0_0 : ByteArray) (a0_1 : ByteArray) (a0_2 : Int) (a0_3 : ByteArray) (a0_4 : Bool) : Option (List Int) := (wire_Text.f a0_0).bind fun t133 => ((wire_Text.f a0_1).bind fun t136 => ((wire_Num.f a0_2).bind fun t139 => ((cell_flag.f a0_4).bind fun t142 => ((wire_Text.f a0_3).bind fun t146 => ((slices_Concat_byte_byte.f (([t133, t136, t139, (([t142] : List Int)), t146] : List (List Int)))).bind fun t152 => (some t152))))))
def cell_Put.T1 : Bool × List (List Nat × List Nat) := (true, [([], []), ([0], [0]), ([1], [1]), ([], []), ([3], [3]), ([4, 2], [4]), ([], []), ([6], [6]), ([7, 5], [7]), ([], []), ([9], [9]), ([10, 8], [10]), ([11], [11]), ([], []), ([13], [13]), ([14, 11], [14]), ([2, 5, 8, 12, 15], [2, 5, 8, 12, 15]), ([16, 15], [16]), ([17, 17, 0, 1, 2, 3, 4, 5, 6, 7, 8, 9, 10, 11, 12, 13, 14, 15, 16, 17], [17])])
def cell_Put.B1 : List Nat := [0, 1, 3, 0, 8, 31, 0, 64, 255, 0, 512, 2047, 4095, 0, 8192, 28671, 65535, 131071, 262143]
theorem cell_Put.tab1 : rtab .any (opsOf Try.f51 1) = cell_Put.T1 := by kernel_rfl
theorem cell_Put.bits1 : waitsOk cell_Put.T1.2 cell_Put.B1 = true := by kernel_rfl
set_option maxHeartbeats 8000000 in
set_option maxRecDepth 100000 in
theorem cell_Put.calls (a0_0 : ByteArray) (a0_1 : ByteArray) (a0_2 : Int) (a0_3 : ByteArray) (a0_4 : Bool) (r : List Int) (w : World) (h : cell_Put.f a0_0 a0_1 a0_2 a0_3 a0_4 = some r) :
  Calls Try.prog 51 #[.agg #[.string a0_0, .string a0_1, .int .i64 a0_2, .string a0_3, .bool a0_4]] w fun e w' => ∃ v0_ : Value, e = .returned (v0_) ∧ Kd.R (Kd.int .u8) 5 w' w.heap.size (fun _ => True) v0_ r ∧ Below w.heap.size w w' := by
 have hu42 := Try.underlying42; have HB := aS (Below.refl w.heap.size w); have H : ((wire_Text.f a0_0).bind fun t133 => ((wire_Text.f a0_1).bind fun t136 => ((wire_Num.f a0_2).bind fun t139 => ((cell_flag.f a0_4).bind fun t142 => ((wire_Text.f a0_3).bind fun t146 => ((slices_Concat_byte_byte.f (([t133, t136, t139, (([t142] : List Int)), t146] : List (List Int)))).bind fun t152 => (some t152))))))) = some r := h; clear h; replace H := obm H; obtain ⟨t133, A20, H⟩ := H; have A2 := aS A20; clear A20; replace H := obm H; obtain ⟨t136, A30, H⟩ := H; have A3 := aS A30; clear A30; replace H := obm H; obtain ⟨t139, A40, H⟩ := H; have A4 := aS A40; clear A40; replace H := obm H; obtain ⟨t142, A50, H⟩ := H; have A5 := aS A50; clear A50
 obtain ⟨y143, hy143⟩ : ∃ y_ : List Int, y_ = (([t142] : List Int)) := ⟨_, rfl⟩
 (first | replace H := hyn hy143 H | rw [← hy143] at H); have Ny143 := aS hy143; clear hy143; replace H := obm H; obtain ⟨t146, A60, H⟩ := H; have A6 := aS A60; clear A60
 obtain ⟨y149, hy149⟩ : ∃ y_ : List (List Int), y_ = (([t133, t136, t139, y143, t146] : List (List Int))) := ⟨_, rfl⟩
 (first | replace H := hyn hy149 H | rw [← hy149] at H); have Ny149 := aS hy149; clear hy149; replace H := obm H; obtain ⟨t152, A70, H⟩ := H; have A7 := aS A70; clear A70
 obtain rfl := Option.some.inj H
 go_enter Try.func51, Try.ntmps51
 try go_wp2_with (first | ((with_reducible refine gate_dst (N := 1) rfl ?_); refine box_event ?hg (N := 1) ?hd (cs := #[.string a0_0, .string a0_1, .int .i64 a0_2, .string a0_3, .bool a0_4]) (t := 42) ?hr ?_; (case hd => rfl); (case hg => rfl); (case hr => first | (go_simp; done) | (go_simp; rfl)); intro gb132 hg w8 hbox hb; have BK132 := aS (hbox); have GW132 := bsize hg; have GE132 := bsize hg; replace HB := bstep hb; clear hb hbox hg))
 replace BK132 := aS (blk_drew BK132.out); replace HB := aS (bdo HB.out); refine start_ (n := 19) (S := fun w' => w'.cell? ⟨gb132, 0, none⟩ = some (.string a0_0) ∧ w'.cell? ⟨gb132, 1, none⟩ = some (.string a0_1) ∧ w'.cell? ⟨gb132, 2, none⟩ = some (.int .i64 a0_2) ∧ w'.cell? ⟨gb132, 3, none⟩ = some (.string a0_3) ∧ w'.cell? ⟨gb132, 4, none⟩ = some (.bool a0_4)) (ds := []) (bA 19 0) (by kernel_rfl) rfl rfl ⟨bc BK132 0, bc BK132 1, bc BK132 2, bc BK132 3, bc BK132 4⟩ (fun hHeld => ?_); refine with_tabW cell_Put.tab1 cell_Put.bits1 (fun HT_ HW_ => ?_)
 generalize w8.drew = w9 at BK132 HB hHeld ⊢
 refine along_ [(0, 3), (3, 6), (6, 9), (9, 12), (13, 16), (1, 4), (4, 7), (7, 10), (10, 13), (14, 17)] ?_
 iterate 10 (first | (refine pure3 HT_ ?_) | (refine take3 HT_ HW_ hHeld ?_))
 refine lay_ (bA 19 26331) (by kernel_rfl) ?_; refine one3 2 (N := some 5) (bA 19 26335) HT_ (fun K hK => ?_); refine goes_ Try.func67 (by kernel_rfl) rfl #[.string a0_0] (by rfl) rfl rfl agn ?_
 with_reducible refine (wire_Text.calls a0_0 t133 _ A2.out).mono ?_
 rintro e w10 ⟨v134, rfl, ho0, hb⟩
 refine ⟨_, rfl, ?_⟩; have HO135 := aS (Kd.R_lower ho0 (below_size bel)); replace BK132 := bbl BK132 hb; replace HB := bstep hb; (try clear hb); (try clear hk); (try clear hi); (try clear ho0); refine hK.out _ _ ⟨bc BK132 0, bc BK132 1, bc BK132 2, bc BK132 3, bc BK132 4⟩ (fun hHeld => ?_); clear hK K; refine nm 5 ?_; refine one3 5 (N := some 8) (bA 19 26367) HT_ (fun K hK => ?_); refine goes_ Try.func67 (by kernel_rfl) rfl #[.string a0_1] (by rfl) rfl rfl agn ?_
 with_reducible refine (wire_Text.calls a0_1 t136 _ A3.out).mono ?_
 rintro e w11 ⟨v137, rfl, ho0, hb⟩
 refine ⟨_, rfl, ?_⟩; have HO138 := aS (Kd.R_lower (Kd.R_new' ho0 (Kd.R_lt (rel HO135.out))) (below_size bel)); replace HO135 := aS (Kd.R_elder' (rel HO135.out) (ebs ho0) hb); replace BK132 := bbl BK132 hb; replace HB := bstep hb; (try clear hb); (try clear hk); (try clear hi); (try clear ho0); refine hK.out _ _ ⟨bc BK132 0, bc BK132 1, bc BK132 2, bc BK132 3, bc BK132 4⟩ (fun hHeld => ?_); clear hK K; refine nm 8 ?_; refine one3 8 (N := some 11) (bA 19 26623) HT_ (fun K hK => ?_); refine goes_ Try.func54 (by kernel_rfl) rfl #[.int .i64 a0_2] (by rfl) rfl rfl agn ?_
 with_reducible refine (wire_Num.calls a0_2 t139 _ A4.out).mono ?_
 rintro e w12 ⟨v140, rfl, ho0, hb⟩
 refine ⟨_, rfl, ?_⟩; have HO141 := aS (Kd.R_lower (Kd.R_new' (Kd.R_new' ho0 (Kd.R_lt (rel HO135.out))) (Kd.R_lt (rel HO138.out))) (below_size bel)); replace HO135 := aS (Kd.R_elder' (rel HO135.out) (ebs ho0) hb); replace HO138 := aS (Kd.R_elder' (rel HO138.out) (ebs ho0) hb); replace BK132 := bbl BK132 hb; replace HB := bstep hb; (try clear hb); (try clear hk); (try clear hi); (try clear ho0); refine hK.out _ _ ⟨bc BK132 0, bc BK132 1, bc BK132 2, bc BK132 3, bc BK132 4⟩ (fun hHeld => ?_); clear hK K; refine nm 11 ?_; refine one3 11 (N := some 14) (bA 19 28671) HT_ (fun K hK => ?_); refine goes_ Try.func68 (by kernel_rfl) rfl #[.bool a0_4] (by rfl) rfl rfl agn ?_
 with_reducible refine (cell_flag.calls a0_4 t142 _ A5.out).mono ?_
 rintro e w' ⟨rfl, ⟨nd, rfl⟩⟩
 refine ⟨_, rfl, ?_⟩; refine hK.out _ _ ⟨bc BK132 0, bc BK132 1, bc BK132 2, bc BK132 3, bc BK132 4⟩ (fun hHeld => ?_); clear hK K; refine nm 14 ?_; refine join_ (σ := Value × Value) 3 (bA 19 65535) (fun s_ => [(15, s_.1), (18, s_.2)]) (fun s_ w' => (w'.cell? ⟨gb132, 0, none⟩ = some (.string a0_0) ∧ w'.cell? ⟨gb132, 1, none⟩ = some (.string a0_1) ∧ w'.cell? ⟨gb132, 2, none⟩ = some (.int .i64 a0_2) ∧ w'.cell? ⟨gb132, 3, none⟩ = some (.string a0_3) ∧ w'.cell? ⟨gb132, 4, none⟩ = some (.bool a0_4)) ∧ (Kd.R (Kd.int .u8) 5 w' w.heap.size (fun k_ => some k_ ≠ (v137 : Value).ownBlock ∧ some k_ ≠ (v140 : Value).ownBlock ∧ some k_ ≠ (s_.1 : Value).ownBlock ∧ some k_ ≠ (s_.2 : Value).ownBlock) v134 t133) ∧ (Kd.R (Kd.int .u8) 5 w' w.heap.size (fun k_ => some k_ ≠ (v134 : Value).ownBlock ∧ some k_ ≠ (v140 : Value).ownBlock ∧ some k_ ≠ (s_.1 : Value).ownBlock ∧ some k_ ≠ (s_.2 : Value).ownBlock) v137 t136) ∧ (Kd.R (Kd.int .u8) 5 w' w.heap.size (fun k_ => some k_ ≠ (v134 : Value).ownBlock ∧ some k_ ≠ (v137 : Value).ownBlock ∧ some k_ ≠ (s_.1 : Value).ownBlock ∧ some k_ ≠ (s_.2 : Value).ownBlock) v140 t139) ∧ (Kd.R (Kd.int .u8) 5 w' w.heap.size (fun k_ => some k_ ≠ (v134 : Value).ownBlock ∧ some k_ ≠ (v137 : Value).ownBlock ∧ some k_ ≠ (v140 : Value).ownBlock ∧ some k_ ≠ (s_.2 : Value).ownBlock) s_.1 y143) ∧ (Kd.R (Kd.int .u8) 5 w' w.heap.size (fun k_ => some k_ ≠ (v134 : Value).ownBlock ∧ some k_ ≠ (v137 : Value).ownBlock ∧ some k_ ≠ (v140 : Value).ownBlock ∧ some k_ ≠ (s_.1 : Value).ownBlock) s_.2 t146) ∧ (w'.heap[gb132]? = some (.cells #[.string a0_0, .string a0_1, .int .i64 a0_2, .string a0_3, .bool a0_4] 42 (0, 0))) ∧ (Below w.heap.size w w')) ?_ ?_
 rotate_left
 ·
  intro hCont
  refine two_ (i := 12) (j := 15) (Ni := some 15) (Nj := some 18) (bA 19 32767) (bA 19 61439) rfl rfl rfl rfl (two_of HT_.out (by kernel_rfl)) (by decide) (by decide) (fun K hK => ?_) (fun K hK => ?_)
  ·
   skip
   refine Kd.R_lit_step (Kd.int .u8) _ 5 ?hg (N := 15) ?hd (xs := ([t142] : List Int)) (inner := [.int .u8 t142]) (ok := fun _ => True) (okp := fun _ => True) ?hr ?hp (fun _ hk => hk) trivial (Below.refl _ _) (Nat.le_refl _) (by simp) ?_; (case hd => rfl); (case hg => rfl); (case hr => first | (go_simp; done) | (go_simp; rfl)); (case hp => exact (Reps.one (show Kd.M (Kd.int .u8) _ _ _ t142 [.int .u8 t142] from rfl) (Reps.none _ _)))
   intro v144 w13 ho14 hb hg_ hnew_
   clear hg_ hnew_
   (first | rw [← Ny143.out] at ho14 | (simp only [Int.reduceToNat] at ho14; rw [← Ny143.out] at ho14))
   have HO145 := aS (Kd.R_lower (Kd.R_new' (Kd.R_new' (Kd.R_new' ho14 (Kd.R_lt (rel HO135.out))) (Kd.R_lt (rel HO138.out))) (Kd.R_lt (rel HO141.out))) (below_size bel)); replace HO135 := aS (Kd.R_elder' (rel HO135.out) (ebs ho14) hb); replace HO138 := aS (Kd.R_elder' (rel HO138.out) (ebs ho14) hb); replace HO141 := aS (Kd.R_elder' (rel HO141.out) (ebs ho14) hb); replace BK132 := bbl BK132 hb; replace HB := bstep hb; clear hb ho14; refine hK.out _ _ ⟨bc BK132 0, bc BK132 1, bc BK132 2, bc BK132 3, bc BK132 4⟩ (fun hHeld => ?_); clear hK K; refine nm 15 ?_; refine one3 15 (N := some 18) (bA 19 65535) HT_ (fun K hK => ?_); refine goes_ Try.func67 (by kernel_rfl) rfl #[.string a0_3] (by rfl) rfl rfl agn ?_
   with_reducible refine (wire_Text.calls a0_3 t146 _ A6.out).mono ?_
   rintro e w15 ⟨v147, rfl, ho0, hb⟩
   refine ⟨_, rfl, ?_⟩; have HO148 := aS (Kd.R_lower (Kd.R_new' (Kd.R_new' (Kd.R_new' (Kd.R_new' ho0 (Kd.R_lt (rel HO135.out))) (Kd.R_lt (rel HO138.out))) (Kd.R_lt (rel HO141.out))) (Kd.R_lt (rel HO145.out))) (below_size bel)); replace HO135 := aS (Kd.R_elder' (rel HO135.out) (ebs ho0) hb); replace HO138 := aS (Kd.R_elder' (rel HO138.out) (ebs ho0) hb); replace HO141 := aS (Kd.R_elder' (rel HO141.out) (ebs ho0) hb); replace HO145 := aS (Kd.R_elder' (rel HO145.out) (ebs ho0) hb); replace BK132 := bbl BK132 hb; replace HB := bstep hb; (try clear hb); (try clear hk); (try clear hi); (try clear ho0); refine hK.out _ _ ⟨bc BK132 0, bc BK132 1, bc BK132 2, bc BK132 3, bc BK132 4⟩ (fun hHeld => ?_); clear hK K; refine nm 18 ?_; exact norm_ (by simp only [putAll, Act.put, lsa, lsz, lss]) (hCont (v144, v147) _ ⟨hHeld, (by (with_reducible repeat (first | apply Kd.R_alloc | apply Kd.R_drewN | apply Kd.R_drew)); exact Kd.R_mono HO135.out (fun _ hk => ⟨hk.1.1.1.2, ⟨hk.1.1.2, ⟨hk.1.2, hk.2⟩⟩⟩)), (by (with_reducible repeat (first | apply Kd.R_alloc | apply Kd.R_drewN | apply Kd.R_drew)); exact Kd.R_mono HO138.out (fun _ hk => ⟨hk.1.1.1.2, ⟨hk.1.1.2, ⟨hk.1.2, hk.2⟩⟩⟩)), (by (with_reducible repeat (first | apply Kd.R_alloc | apply Kd.R_drewN | apply Kd.R_drew)); exact Kd.R_mono HO141.out (fun _ hk => ⟨hk.1.1.1.2, ⟨hk.1.1.2, ⟨hk.1.2, hk.2⟩⟩⟩)), (by (with_reducible repeat (first | apply Kd.R_alloc | apply Kd.R_drewN | apply Kd.R_drew)); exact Kd.R_mono HO145.out (fun _ hk => ⟨hk.1.1.1.2, ⟨hk.1.1.2, ⟨hk.1.2, hk.2⟩⟩⟩)), (by (with_reducible repeat (first | apply Kd.R_alloc | apply Kd.R_drewN | apply Kd.R_drew)); exact Kd.R_mono HO148.out (fun _ hk => ⟨hk.1.1.1.2, ⟨hk.1.1.2, ⟨hk.1.2, hk.2⟩⟩⟩)), (bkl BK132.out), bel⟩)
  ·
   skip
   refine goes_ Try.func67 (by kernel_rfl) rfl #[.string a0_3] (by rfl) rfl rfl agn ?_
   with_reducible refine (wire_Text.calls a0_3 t146 _ A6.out).mono ?_
   rintro e w13 ⟨v147, rfl, ho0, hb⟩
   refine ⟨_, rfl, ?_⟩; have HO148 := aS (Kd.R_lower (Kd.R_new' (Kd.R_new' (Kd.R_new' ho0 (Kd.R_lt (rel HO135.out))) (Kd.R_lt (rel HO138.out))) (Kd.R_lt (rel HO141.out))) (below_size bel)); replace HO135 := aS (Kd.R_elder' (rel HO135.out) (ebs ho0) hb); replace HO138 := aS (Kd.R_elder' (rel HO138.out) (ebs ho0) hb); replace HO141 := aS (Kd.R_elder' (rel HO141.out) (ebs ho0) hb); replace BK132 := bbl BK132 hb; replace HB := bstep hb; (try clear hb); (try clear hk); (try clear hi); (try clear ho0); refine hK.out _ _ ⟨bc BK132 0, bc BK132 1, bc BK132 2, bc BK132 3, bc BK132 4⟩ (fun hHeld => ?_); clear hK K; refine nm 18 ?_; refine one3 12 (N := some 15) (bA 19 65535) HT_ (fun K hK => ?_)
   refine Kd.R_lit_step (Kd.int .u8) _ 5 ?hg (N := 15) ?hd (xs := ([t142] : List Int)) (inner := [.int .u8 t142]) (ok := fun _ => True) (okp := fun _ => True) ?hr ?hp (fun _ hk => hk) trivial (Below.refl _ _) (Nat.le_refl _) (by simp) ?_; (case hd => rfl); (case hg => rfl); (case hr => first | (go_simp; done) | (go_simp; rfl)); (case hp => exact (Reps.one (show Kd.M (Kd.int .u8) _ _ _ t142 [.int .u8 t142] from rfl) (Reps.none _ _)))
   intro v144 w14 ho15 hb hg_ hnew_
   clear hg_ hnew_
   (first | rw [← Ny143.out] at ho15 | (simp only [Int.reduceToNat] at ho15; rw [← Ny143.out] at ho15))
   have HO145 := aS (Kd.R_lower (Kd.R_new' (Kd.R_new' (Kd.R_new' (Kd.R_new' ho15 (Kd.R_lt (rel HO135.out))) (Kd.R_lt (rel HO138.out))) (Kd.R_lt (rel HO141.out))) (Kd.R_lt (rel HO148.out))) (below_size bel)); replace HO135 := aS (Kd.R_elder' (rel HO135.out) (ebs ho15) hb); replace HO138 := aS (Kd.R_elder' (rel HO138.out) (ebs ho15) hb); replace HO141 := aS (Kd.R_elder' (rel HO141.out) (ebs ho15) hb); replace HO148 := aS (Kd.R_elder' (rel HO148.out) (ebs ho15) hb); replace BK132 := bbl BK132 hb; replace HB := bstep hb; clear hb ho15; refine hK.out _ _ ⟨bc BK132 0, bc BK132 1, bc BK132 2, bc BK132 3, bc BK132 4⟩ (fun hHeld => ?_); clear hK K; refine nm 15 ?_; exact norm_ (by simp only [putAll, Act.put, lsa, lsz, lss]) (hCont (v144, v147) _ ⟨hHeld, (by (with_reducible repeat (first | apply Kd.R_alloc | apply Kd.R_drewN | apply Kd.R_drew)); exact Kd.R_mono HO135.out (fun _ hk => ⟨hk.1.1.1.2, ⟨hk.1.1.2, ⟨hk.2, hk.1.2⟩⟩⟩)), (by (with_reducible repeat (first | apply Kd.R_alloc | apply Kd.R_drewN | apply Kd.R_drew)); exact Kd.R_mono HO138.out (fun _ hk => ⟨hk.1.1.1.2, ⟨hk.1.1.2, ⟨hk.2, hk.1.2⟩⟩⟩)), (by (with_reducible repeat (first | apply Kd.R_alloc | apply Kd.R_drewN | apply Kd.R_drew)); exact Kd.R_mono HO141.out (fun _ hk => ⟨hk.1.1.1.2, ⟨hk.1.1.2, ⟨hk.2, hk.1.2⟩⟩⟩)), (by (with_reducible repeat (first | apply Kd.R_alloc | apply Kd.R_drewN | apply Kd.R_drew)); exact Kd.R_mono HO145.out (fun _ hk => ⟨hk.1.1.1.2, ⟨hk.1.1.2, ⟨hk.1.2, hk.2⟩⟩⟩)), (by (with_reducible repeat (first | apply Kd.R_alloc | apply Kd.R_drewN | apply Kd.R_drew)); exact Kd.R_mono HO148.out (fun _ hk => ⟨hk.1.1.1.2, ⟨hk.1.1.2, ⟨hk.1.2, hk.2⟩⟩⟩)), (bkl BK132.out), bel⟩)
 rintro ⟨v144, v147⟩ w16 ⟨hS_, h0_, h1_, h2_, h3_, h4_, h5_, h6_⟩
 have n0_ : Aside0 (Kd.R (Kd.int .u8) 5 w16 w.heap.size (fun k_ => some k_ ≠ (v137 : Value).ownBlock ∧ some k_ ≠ (v140 : Value).ownBlock ∧ some k_ ≠ (v144 : Value).ownBlock ∧ some k_ ≠ (v147 : Value).ownBlock) v134 t133) := ⟨h0_⟩; have n1_ : Aside0 (Kd.R (Kd.int .u8) 5 w16 w.heap.size (fun k_ => some k_ ≠ (v134 : Value).ownBlock ∧ some k_ ≠ (v140 : Value).ownBlock ∧ some k_ ≠ (v144 : Value).ownBlock ∧ some k_ ≠ (v147 : Value).ownBlock) v137 t136) := ⟨h1_⟩; have n2_ : Aside0 (Kd.R (Kd.int .u8) 5 w16 w.heap.size (fun k_ => some k_ ≠ (v134 : Value).ownBlock ∧ some k_ ≠ (v137 : Value).ownBlock ∧ some k_ ≠ (v144 : Value).ownBlock ∧ some k_ ≠ (v147 : Value).ownBlock) v140 t139) := ⟨h2_⟩; have n3_ : Aside0 (Kd.R (Kd.int .u8) 5 w16 w.heap.size (fun k_ => some k_ ≠ (v134 : Value).ownBlock ∧ some k_ ≠ (v137 : Value).ownBlock ∧ some k_ ≠ (v140 : Value).ownBlock ∧ some k_ ≠ (v147 : Value).ownBlock) v144 y143) := ⟨h3_⟩; have n4_ : Aside0 (Kd.R (Kd.int .u8) 5 w16 w.heap.size (fun k_ => some k_ ≠ (v134 : Value).ownBlock ∧ some k_ ≠ (v137 : Value).ownBlock ∧ some k_ ≠ (v140 : Value).ownBlock ∧ some k_ ≠ (v144 : Value).ownBlock) v147 t146) := ⟨h4_⟩; have n5_ : Aside0 (w16.heap[gb132]? = some (.cells #[.string a0_0, .string a0_1, .int .i64 a0_2, .string a0_3, .bool a0_4] 42 (0, 0))) := ⟨h5_⟩; have n6_ : Aside0 (Below w.heap.size w w16) := ⟨h6_⟩; clear BK132; clear HB; clear h0_ h1_ h2_ h3_ h4_ h5_ h6_; have HO135 := n0_; have HO138 := n1_; have HO141 := n2_; have HO145 := n3_; have HO148 := n4_; have BK132 := n5_; have HB := n6_; clear n0_ n1_ n2_ n3_ n4_ n5_ n6_; have hHeld : w16.cell? ⟨gb132, 0, none⟩ = some (.string a0_0) ∧ w16.cell? ⟨gb132, 1, none⟩ = some (.string a0_1) ∧ w16.cell? ⟨gb132, 2, none⟩ = some (.int .i64 a0_2) ∧ w16.cell? ⟨gb132, 3, none⟩ = some (.string a0_3) ∧ w16.cell? ⟨gb132, 4, none⟩ = some (.bool a0_4) := hS_; obtain ⟨Ao17, co17, eo17⟩ := Kd.R_slice HO135.out
 (first | subst eo17 | (injection eo17 with f1_ f2_ f3_; have f4_ := f1_.symm; have f5_ := f3_.symm; clear f1_ f2_ f3_; subst f4_; subst f5_))
 obtain ⟨Ao18, co18, eo18⟩ := Kd.R_slice HO138.out
 (first | subst eo18 | (injection eo18 with f1_ f2_ f3_; have f4_ := f1_.symm; have f5_ := f3_.symm; clear f1_ f2_ f3_; subst f4_; subst f5_))
 obtain ⟨Ao19, co19, eo19⟩ := Kd.R_slice HO141.out
 (first | subst eo19 | (injection eo19 with f1_ f2_ f3_; have f4_ := f1_.symm; have f5_ := f3_.symm; clear f1_ f2_ f3_; subst f4_; subst f5_))
 obtain ⟨Ao20, co20, eo20⟩ := Kd.R_slice HO145.out
 (first | subst eo20 | (injection eo20 with f1_ f2_ f3_; have f4_ := f1_.symm; have f5_ := f3_.symm; clear f1_ f2_ f3_; subst f4_; subst f5_))
 obtain ⟨Ao21, co21, eo21⟩ := Kd.R_slice HO148.out
 (first | subst eo21 | (injection eo21 with f1_ f2_ f3_; have f4_ := f1_.symm; have f5_ := f3_.symm; clear f1_ f2_ f3_; subst f4_; subst f5_))
 refine norm_ (a' := ?_) ?_ ?_
 rotate_left
 ·
  simp only [putAll, Act.put, lsa, lsz, lss]
  rfl
 refine one3 16 (N := some 19) (bA 19 131071) HT_ (fun K hK => ?_)
 refine Kd.N_lit_step (Kd.slice 5 (Kd.int .u8)) _ 26 ?hg (N' := 19) ?hd (xs := ([t133, t136, t139, y143, t146] : List (List Int))) (inner := [.slice Ao17 t133.length co17, .slice Ao18 t136.length co18, .slice Ao19 t139.length co19, .slice Ao20 y143.length co20, .slice Ao21 t146.length co21]) (ok := (fun k_ => k_ ≠ gb132)) (okp := (fun k_ => k_ ≠ gb132)) ?hr ?hp (fun _ hk => hk) ((show ∀ k_, w16.heap.size ≤ k_ → (fun k_ => k_ ≠ gb132) k_ from fun k_ hk => Kd.freshB (g := gb132) (o := .cells #[.string a0_0, .string a0_1, .int .i64 a0_2, .string a0_3, .bool a0_4] 42 (0, 0)) (bkl BK132.out) k_ hk) _ (Nat.le_refl _)) (Below.refl _ _) (Nat.le_refl _) (by simp) ?_; (case hd => rfl); (case hg => rfl); (case hr => first | (go_simp; done) | (go_simp; rfl)); (case hp => exact (Reps.one (show Kd.FK (Kd.slice 5 (Kd.int .u8)) _ _ t133 [.slice Ao17 t133.length co17] from (Kd.FK_slice_mk (Kd.R_reads' (Kd.R_mono (ok' := (fun k_ => k_ ≠ gb132)) (Kd.R_types (HO135.out) BK132.out (by decide)) (fun k_ hk => hk.2))).2.1 (Kd.R_F (Kd.R_mono (ok' := (fun k_ => k_ ≠ gb132)) (Kd.R_types (HO135.out) BK132.out (by decide)) (fun k_ hk => hk.2))))) (Reps.one (show Kd.FK (Kd.slice 5 (Kd.int .u8)) _ _ t136 [.slice Ao18 t136.length co18] from (Kd.FK_slice_mk (Kd.R_reads' (Kd.R_mono (ok' := (fun k_ => k_ ≠ gb132)) (Kd.R_types (HO138.out) BK132.out (by decide)) (fun k_ hk => hk.2))).2.1 (Kd.R_F (Kd.R_mono (ok' := (fun k_ => k_ ≠ gb132)) (Kd.R_types (HO138.out) BK132.out (by decide)) (fun k_ hk => hk.2))))) (Reps.one (show Kd.FK (Kd.slice 5 (Kd.int .u8)) _ _ t139 [.slice Ao19 t139.length co19] from (Kd.FK_slice_mk (Kd.R_reads' (Kd.R_mono (ok' := (fun k_ => k_ ≠ gb132)) (Kd.R_types (HO141.out) BK132.out (by decide)) (fun k_ hk => hk.2))).2.1 (Kd.R_F (Kd.R_mono (ok' := (fun k_ => k_ ≠ gb132)) (Kd.R_types (HO141.out) BK132.out (by decide)) (fun k_ hk => hk.2))))) (Reps.one (show Kd.FK (Kd.slice 5 (Kd.int .u8)) _ _ y143 [.slice Ao20 y143.length co20] from (Kd.FK_slice_mk (Kd.R_reads' (Kd.R_mono (ok' := (fun k_ => k_ ≠ gb132)) (Kd.R_types (HO145.out) BK132.out (by decide)) (fun k_ hk => hk.2))).2.1 (Kd.R_F (Kd.R_mono (ok' := (fun k_ => k_ ≠ gb132)) (Kd.R_types (HO145.out) BK132.out (by decide)) (fun k_ hk => hk.2))))) (Reps.one (show Kd.FK (Kd.slice 5 (Kd.int .u8)) _ _ t146 [.slice Ao21 t146.length co21] from (Kd.FK_slice_mk (Kd.R_reads' (Kd.R_mono (ok' := (fun k_ => k_ ≠ gb132)) (Kd.R_types (HO148.out) BK132.out (by decide)) (fun k_ hk => hk.2))).2.1 (Kd.R_F (Kd.R_mono (ok' := (fun k_ => k_ ≠ gb132)) (Kd.R_types (HO148.out) BK132.out (by decide)) (fun k_ hk => hk.2))))) (Reps.none _ _)))))))
 intro v150 w22 ho23 hb hg_ hnew_
 clear hg_ hnew_
 (first | rw [← Ny149.out] at ho23 | (simp only [Int.reduceToNat] at ho23; rw [← Ny149.out] at ho23))
 have n0_ := aS (Kd.N_lower ho23 (below_size bel)); have n1_ := bbl BK132 hb; have n2_ := bstep hb; clear BK132; clear HB; clear HO135; clear HO138; clear HO141; clear HO145; clear HO148; have HO151 := n0_; have BK132 := n1_; have HB := n2_; clear n0_ n1_ n2_; clear hb ho23; obtain ⟨Ao24, co24, eo24⟩ := Kd.N_slice HO151.out
 (first | subst eo24 | (injection eo24 with f1_ f2_ f3_; have f4_ := f1_.symm; have f5_ := f3_.symm; clear f1_ f2_ f3_; subst f4_; subst f5_))
 refine hK.out _ _ ⟨bc BK132 0, bc BK132 1, bc BK132 2, bc BK132 3, bc BK132 4⟩ (fun hHeld => ?_); clear hK K; refine nm 19 ?_; refine one3 17 (N := some 20) (bA 19 262143) HT_ (fun K hK => ?_); refine goes_ Try.func53 (by kernel_rfl) rfl #[.slice Ao24 y149.length co24] (by rfl) rfl rfl agn ?_
 with_reducible refine (slices_Concat_byte_byte.calls _ _ y149 t152 _ ?side1 ?side2 A7.out).mono ?_
 (case side1 => exact cel ((Kd.N_reads' HO151.out).2.2))
 (case side2 => exact (Kd.N_reads' HO151.out).2.1)
 rintro e w25 ⟨v153, rfl, ho0, hb⟩
 refine ⟨_, rfl, ?_⟩; replace HO151 := aS (Kd.N_elder' (by (with_reducible repeat (first | apply Kd.N_alloc | apply Kd.N_drewN | apply Kd.N_drew)); exact HO151.out) (ebs ho0) hb); have HO154 := aS (Kd.R_lower ho0 (below_size bel)); replace BK132 := bbl BK132 hb; replace HB := bstep hb; (try clear hb); (try clear hk); (try clear hi); (try clear ho0); refine hK.out _ _ ⟨bc BK132 0, bc BK132 1, bc BK132 2, bc BK132 3, bc BK132 4⟩ (fun hHeld => ?_); clear hK K; refine nm 20 ?_; refine pure_ (i := 18) (N := some 2) (v := ?_) (a' := ?_) (bA 19 524287) rfl rfl (any_of HT_.out (by kernel_rfl)) (fun _ _ _ h => h) (Or.inl ⟨by rfl, ?_⟩) ?_ ?_
 rotate_left
 ·
  intro w'
  go_simp
  with_reducible rfl
 rotate_left
 ·
  simp only [Act.put, lsa, lsz, lss, i64_w, i32_w]
  rfl
 refine done_ (done_of HT_.out (by kernel_rfl)) ?_
 try go_wp2
 go_ret
 exact ⟨_, rf3, by (with_reducible repeat (first | apply Kd.R_alloc | apply Kd.R_drewN | apply Kd.R_drew)); exact HO154.out, bel⟩

/-! ### block_Cut: function 29 -/
mutual
def block_Cut.j0 : Nat → List (S42) → Int → Bool → Option ((List (List (S42))) × Int)
 | 0, _, _, _ => none
 | k + 1, x0, x1, x16 => if x16 = true then (some (([] : List (List (S42))), 1)) else (block_Cut.l0 k x0 x1 ([] : List (List (S42))))
def block_Cut.l0 : Nat → List (S42) → Int → List (List (S42)) → Option ((List (List (S42))) × Int)
 | 0, _, _, _ => none
 | k + 1, x0, x1, x6 => if (x0.length : Int) > 0 then (block_Cut.l1 k x0 x1 x6 0 x0 (x0.length : Int) 0) else (some (x6, 0))
def block_Cut.l1 : Nat → List (S42) → Int → List (List (S42)) → Int → List (S42) → Int → Int → Option ((List (List (S42))) × Int)
 | 0, _, _, _, _, _, _, _ => none
 | k + 1, x0, x1, x6, x7, x20, x21, x22 => if x22 < x21 then (if 0 ≤ x22 then (if x22 < (x20.length : Int) then ((cell_Put.f ((rd_T42 x20 x22).f0) ((rd_T42 x20 x22).f1) ((rd_T42 x20 x22).f2) ((rd_T42 x20 x22).f3) ((rd_T42 x20 x22).f4)).bind fun t164 => (if (wrap64 (x7 + (t164.length : Int))) ≥ x1 then (if 0 ≤ (wrap64 (x22 + 1)) then (if (wrap64 (x22 + 1)) ≤ (x0.length : Int) then ((api_Cell_43.f (x0.take ((wrap64 (x22 + 1)) : Int).toNat)).bind fun t172 => (if x6.length < 5864062014805 then (block_Cut.l0 k (x0.drop ((wrap64 (x22 + 1)) : Int).toNat) x1 (x6 ++ [t172])) else (none))) else (none)) else (none)) else (block_Cut.l1 k x0 x1 x6 (wrap64 (x7 + (t164.length : Int))) x20 x21 (wrap64 (x22 + 1))))) else (none)) else (none)) else ((api_Cell_43.f x0).bind fun t156 => (if x6.length < 5864062014805 then (some ((x6 ++ [t156]), 0)) else (none)))
end
def block_Cut.f (k : Nat) (l0 : List (S42)) (a1 : Int) : Option ((List (List (S42))) × Int) := (cell_Sorted.f k l0).bind fun t155 => (if t155 = true then (block_Cut.j0 k l0 a1 (decide (a1 < 1))) else (block_Cut.j0 k l0 a1 true))
theorem block_Cut.mono_l : ∀ k, (∀ y0 y1 y2, LeO (block_Cut.j0 k y0 y1 y2) (block_Cut.j0 (k + 1) y0 y1 y2)) ∧ (∀ y0 y1 y2, LeO (block_Cut.l0 k y0 y1 y2) (block_Cut.l0 (k + 1) y0 y1 y2)) ∧ (∀ y0 y1 y2 y3 y4 y5 y6, LeO (block_Cut.l1 k y0 y1 y2 y3 y4 y5 y6) (block_Cut.l1 (k + 1) y0 y1 y2 y3 y4 y5 y6))
 | 0 => ⟨fun _ _ _ r h => by simp [block_Cut.j0] at h, fun _ _ _ r h => by simp [block_Cut.l0] at h, fun _ _ _ _ _ _ _ r h => by simp [block_Cut.l1] at h⟩
 | k + 1 => by
  obtain ⟨ih0, ih1, ih2⟩ := block_Cut.mono_l k; refine ⟨?_, ?_, ?_⟩
  ·
   intro y0 y1 y2
   unfold block_Cut.j0
   have m0 := @cell_Sorted.mono; exact lmo
  ·
   intro y0 y1 y2
   unfold block_Cut.l0
   have m0 := @cell_Sorted.mono; exact lmo
  ·
   intro y0 y1 y2 y3 y4 y5 y6
   unfold block_Cut.l1
   have m0 := @cell_Sorted.mono; exact lmo
theorem block_Cut.mono : ∀ a0 a1 k, LeO (block_Cut.f k a0 a1) (block_Cut.f (k + 1) a0 a1) := by
 intro a0 a1 k
 obtain ⟨ih0, ih1, ih2⟩ := block_Cut.mono_l k
 unfold block_Cut.f
 have m0 := @cell_Sorted.mono; exact lmo
def block_Cut.T11 : Bool × List (List Nat × List Nat) := (true, [([], []), ([], []), ([], []), ([2], [2]), ([1, 3], [1, 3]), ([4], [4]), ([5], [5]), ([0, 6, 5], [0, 6]), ([], []), ([], []), ([9], [9]), ([8, 10], [8, 10]), ([7, 7, 0, 1, 2, 3, 4, 5, 6, 7], [0, 7]), ([11, 12, 0, 1, 2, 3, 4, 5, 6, 7, 8, 9, 10, 11, 12], [1, 8, 11])])
def block_Cut.B11 : List Nat := [0, 0, 0, 4, 14, 30, 62, 127, 0, 0, 512, 1792, 255, 8191]
theorem block_Cut.tab11 : rtab .any (opsOf Try.f29 11) = block_Cut.T11 := by kernel_rfl
theorem block_Cut.bits11 : waitsOk block_Cut.T11.2 block_Cut.B11 = true := by kernel_rfl
set_option maxHeartbeats 8000000 in
set_option maxRecDepth 100000 in
theorem block_Cut.calls (k : Nat) (P0_ : Nat → Prop) (A0 : Option Addr) (c0 : Nat) (l0 : List (S42)) (a1 : Int) (r1 : List (List (S42))) (r2 : Int) (w : World) (hs0 : Kd.V k42 42 w w.heap.size (fun k_ => P0_ k_) (.slice A0 l0.length c0) l0) (h : block_Cut.f k l0 a1 = some (r1, r2)) :
  Calls Try.prog 29 #[.slice A0 l0.length c0, .int .i64 a1] w fun e w' => ∃ v0_ : Value, e = .returned (.tuple #[v0_, .int .i64 r2]) ∧ Kd.S (Kd.slice 42 k42) 22 w' w.heap.size (fun k_ => (w.heap.size ≤ k_)) v0_ r1 ∧ Below w.heap.size w w' := by
 have hu42 := Try.underlying42; have HO0 := aS (show Kd.V k42 42 w w.heap.size (fun k_ => (P0_ k_ ∨ w.heap.size ≤ k_)) (.slice A0 l0.length c0) l0 from Kd.V_mono hs0 (fun k_ hk => .inl hk)); have HB := aS (Below.refl w.heap.size w); have H : ((cell_Sorted.f k l0).bind fun t155 => (if t155 = true then (block_Cut.j0 k l0 a1 (decide (a1 < 1))) else (block_Cut.j0 k l0 a1 true))) = some (r1, r2) := h; clear h; have HC3 := aS H; clear H
 go_enter Try.func29, Try.ntmps29
 go_upto_region 1 with (fail)
 apply wp_scope_straight
 go_upto_region 1 with (fail)
 go_cut [16] (fun v16 wc => ∃ (kq : Nat) (x16_2 : Bool), v16 = .bool x16_2 ∧ Aside0 (block_Cut.j0 kq l0 a1 x16_2 = some (r1, r2)) ∧ Aside0 (kq ≤ k) ∧ Aside0 (Kd.V k42 42 wc w.heap.size (fun k_ => (P0_ k_ ∨ w.heap.size ≤ k_)) (.slice A0 l0.length c0) l0) ∧ Aside0 (Below w.heap.size w wc))
 case first =>
  have H := HC3.out; clear HC3; replace H := obm H; obtain ⟨t155, A40, H⟩ := H; have A4 := aS A40; clear A40
  by_cases c5 : t155 = true
  ·
   subst c5
   replace H := ifT H
   have H' := aS H
   clear H
   go_wp2_with (first | ((with_reducible refine gate_callee (f := 40) rfl ?_); refine goesL_ (some 11) rfl rfl Try.func40 (by kernel_rfl) rfl #[.slice A0 l0.length c0] rfl agn ?_; (with_reducible refine (cell_Sorted.calls k _ _ l0 true _ ?side1 ?side2 A4.out).mono ?_); (case side1 => exact cel ((Kd.V_reads' HO0.out).2.2)); (case side2 => exact (Kd.V_reads' HO0.out).2.1); rintro e w6 ⟨rfl, hb⟩; refine ⟨_, rfl, ?_⟩; replace HO0 := aS (Kd.V_below (sel HO0.out) hb); replace HB := bstep hb; (try clear hb); (try clear hk); (try clear hi)))
   go_meet
   case rel => exact ⟨_, (decide (a1 < 1)), srf, H', ⟨by first | omega | exact Nat.le_refl _⟩, ⟨by (with_reducible repeat (first | apply Kd.V_alloc | apply Kd.V_drewN | apply Kd.V_drew)); exact HO0.out⟩, ⟨bel⟩⟩
  ·
   replace c5 := Bool.eq_false_iff.mpr c5; subst c5
   replace H := ifF H
   have H' := aS H
   clear H
   go_wp2_with (first | ((with_reducible refine gate_callee (f := 40) rfl ?_); refine goesL_ (some 11) rfl rfl Try.func40 (by kernel_rfl) rfl #[.slice A0 l0.length c0] rfl agn ?_; (with_reducible refine (cell_Sorted.calls k _ _ l0 false _ ?side1 ?side2 A4.out).mono ?_); (case side1 => exact cel ((Kd.V_reads' HO0.out).2.2)); (case side2 => exact (Kd.V_reads' HO0.out).2.1); rintro e w7 ⟨rfl, hb⟩; refine ⟨_, rfl, ?_⟩; replace HO0 := aS (Kd.V_below (sel HO0.out) hb); replace HB := bstep hb; (try clear hb); (try clear hk); (try clear hi)))
   go_meet
   case rel => exact ⟨_, (true), srf, H', ⟨by first | omega | exact Nat.le_refl _⟩, ⟨by (with_reducible repeat (first | apply Kd.V_alloc | apply Kd.V_drewN | apply Kd.V_drew)); exact HO0.out⟩, ⟨bel⟩⟩
 case rest =>
  clear HC3; obtain ⟨kq, x16_2, rfl, HA, HJ2, HO_0, HB⟩ := hcut
  cases kq with
  | zero => exact absurd HA.out (by simp [block_Cut.j0])
  | succ kj2 =>
   have H := HA.out; clear HA
   simp only [block_Cut.j0] at H
   by_cases c8 : x16_2 = true
   ·
    subst c8
    replace H := ifT H
    simp only [Option.some.injEq, Prod.mk.injEq] at H
    obtain ⟨rfl, rfl⟩ := H
    go_wp2
    (try simp only [Exit.noGoto_ret])
    go_ret2
    exact ⟨_, rf3, by first | exact Kd.S_nil _ _ _ _ _ | exact Kd.N_nil _ _ _ _ _ | exact Kd.V_nil _ _ _ _ _ | exact Kd.Q_nil _ _ _ _ _ | exact Kd.R_nil _ _ _ _ _, bel⟩
   ·
    replace c8 := Bool.eq_false_iff.mpr c8; subst c8
    replace H := ifF H
    have H' := aS H
    clear H
    go_wp2
    apply wp_label
    go_wp2
    go_loopg [0, 6] kj2 (fun kq v0 v6 w' => ∃ (x0_2 : List (S42)) (x6_2 : List (List (S42))), Aside0 (block_Cut.l0 kq x0_2 a1 x6_2 = some (r1, r2)) ∧ Aside0 (kq ≤ kj2) ∧ Aside0 (Kd.V k42 42 w' w.heap.size (fun k_ => (P0_ k_ ∨ w.heap.size ≤ k_) ∧ some k_ ≠ (v6 : Value).ownBlock) v0 x0_2) ∧ Aside0 (Kd.S (Kd.slice 42 k42) 22 w' w.heap.size (fun k_ => (w.heap.size ≤ k_)) v6 x6_2) ∧ Aside0 (Below w.heap.size w w'))
    case atStart => exact ⟨(l0), (([] : List (List (S42)))), H', ⟨Nat.le_refl _⟩, ⟨by (with_reducible repeat (first | apply Kd.V_alloc | apply Kd.V_drewN | apply Kd.V_drew)); exact Kd.V_mono HO_0.out (fun _ hk => ⟨hk, (by simp [Value.ownBlock])⟩)⟩, ⟨by first | exact Kd.S_nil _ _ _ _ _ | exact Kd.N_nil _ _ _ _ _ | exact Kd.V_nil _ _ _ _ _ | exact Kd.Q_nil _ _ _ _ _ | exact Kd.R_nil _ _ _ _ _⟩, ⟨bel⟩⟩
    case round =>
     clear H'; (try clear c8); (try clear HO_0); (try clear HB); obtain ⟨x0_2, x6_2, HA, HK2, HO_0, HO_6, HB⟩ := hrel
     cases gk with
     | zero => exact absurd HA.out (by simp [block_Cut.l0])
     | succ k2 =>
      have H := HA.out; clear HA
      simp only [block_Cut.l0] at H
      by_cases c9 : (x0_2.length : Int) > 0
      ·
       rw [if_pos c9] at H; have c9b0 : decide (0 < (x0_2.length : Int)) = true := decide_eq_true c9; have c9b1 : decide (0 < x0_2.length) = true := decide_eq_true (by omega); clear c9
       have H' := aS H
       clear H; obtain ⟨Ao10, co10, eo10⟩ := Kd.V_slice HO_0.out; subst eo10
       go_wp2
       go_loopg [0, 6, 7, 22] k2 (fun kq v0 v6 v7 v22 w' => ∃ (x0_3 : List (S42)) (x6_3 : List (List (S42))) (x7_3 : Int) (x22_3 : Int), v7 = .int .i64 x7_3 ∧ v22 = .int .i64 x22_3 ∧ Aside0 (block_Cut.l1 kq x0_3 a1 x6_3 x7_3 x0_2 (x0_2.length : Int) x22_3 = some (r1, r2)) ∧ Aside0 (kq ≤ k2) ∧ Aside0 (Kd.V k42 42 w' w.heap.size (fun k_ => (P0_ k_ ∨ w.heap.size ≤ k_) ∧ some k_ ≠ (v6 : Value).ownBlock) v0 x0_3) ∧ Aside0 (Kd.S (Kd.slice 42 k42) 22 w' w.heap.size (fun k_ => (w.heap.size ≤ k_)) v6 x6_3) ∧ Aside0 (Kd.V k42 42 w' w.heap.size (fun k_ => (P0_ k_ ∨ w.heap.size ≤ k_) ∧ some k_ ≠ (v6 : Value).ownBlock) (.slice Ao10 x0_2.length co10) x0_2) ∧ Aside0 (Below w.heap.size w w'))
       case atStart => exact ⟨(x0_2), (x6_2), (0), (0), srf, srf, H', ⟨Nat.le_refl _⟩, ⟨by (with_reducible repeat (first | apply Kd.V_alloc | apply Kd.V_drewN | apply Kd.V_drew)); exact HO_0.out⟩, ⟨by (with_reducible repeat (first | apply Kd.S_alloc | apply Kd.S_drewN | apply Kd.S_drew)); exact HO_6.out⟩, ⟨by (with_reducible repeat (first | apply Kd.V_alloc | apply Kd.V_drewN | apply Kd.V_drew)); exact HO_0.out⟩, ⟨bel⟩⟩
       case round =>
        clear H'; (try clear c8); (try clear c9); (try clear c9b0); (try clear c9b1); (try clear HO_0); (try clear HO_6); (try clear HB); obtain ⟨x0_3, x6_3, x7_3, x22_3, rfl, rfl, HA, HK3, HO_0, HO_6, HO_20, HB⟩ := hrel
        cases gk with
        | zero => exact absurd HA.out (by simp [block_Cut.l1])
        | succ k3 =>
         have H := HA.out; clear HA
         simp only [block_Cut.l1] at H
         by_cases c11 : x22_3 < (x0_2.length : Int)
         ·
          rw [if_pos c11] at H; have c11b0 : decide (x22_3 < (x0_2.length : Int)) = true := decide_eq_true c11; clear c11
          by_cases c12 : 0 ≤ x22_3
          ·
           rw [if_pos c12] at H; have c12b0 : decide (0 ≤ x22_3) = true := decide_eq_true c12; clear c12
           by_cases c13 : x22_3 < (x0_2.length : Int)
           ·
            rw [if_pos c13] at H; have c13b0 : decide (x22_3 < (x0_2.length : Int)) = true := decide_eq_true c13; clear c13; replace H := obm H; obtain ⟨t164, A140, H⟩ := H; have A14 := aS A140; clear A140
            by_cases c15 : (wrap64 (x7_3 + (t164.length : Int))) ≥ a1
            ·
             rw [if_pos c15] at H; have c15b0 : decide (a1 ≤ (wrap64 (x7_3 + (t164.length : Int)))) = true := decide_eq_true c15; clear c15
             obtain ⟨ji16, hji16⟩ : ∃ j_ : Int, (wrap64 (x22_3 + 1)) = j_ := ⟨_, rfl⟩
             replace H : (if 0 ≤ (ji16) then (if (ji16) ≤ (x0_3.length : Int) then ((api_Cell_43.f (x0_3.take ((ji16) : Int).toNat)).bind fun t172 => (if x6_3.length < 5864062014805 then (block_Cut.l0 k3 (x0_3.drop ((ji16) : Int).toNat) a1 (x6_3 ++ [t172])) else (none))) else (none)) else (none)) = some (r1, r2) := by first | (rw [hji16] at H; exact H) | (simp only [hji16] at H ⊢; exact H)
             (try rw [hji16] at A14)
             have hji16w : (IntKind.i64.wrap (x22_3 + 1)) = ji16 := (i64_w _).trans hji16
             by_cases c17 : 0 ≤ (ji16)
             ·
              rw [if_pos c17] at H; have c17b0 := eq_true c17; have c17b1 : decide (0 ≤ (ji16)) = true := decide_eq_true c17; clear c17
              by_cases c18 : (ji16) ≤ (x0_3.length : Int)
              ·
               rw [if_pos c18] at H; have c18b0 := eq_true c18; have c18b1 : decide ((ji16) ≤ (x0_3.length : Int)) = true := decide_eq_true c18; clear c18
               obtain ⟨y167, hy167⟩ : ∃ y_ : List (S42), y_ = (x0_3.take ((ji16) : Int).toNat) := ⟨_, rfl⟩
               (first | replace H := hyn hy167 H | rw [← hy167] at H); have Ny167 := aS hy167; clear hy167; replace H := obm H; obtain ⟨t172, A190, H⟩ := H; have A19 := aS A190; clear A190
               by_cases c20 : x6_3.length < 5864062014805
               ·
                rw [if_pos c20] at H; have LMc20 := aS c20; clear c20
                obtain ⟨y175, hy175⟩ : ∃ y_ : List (List (S42)), y_ = (x6_3 ++ [t172]) := ⟨_, rfl⟩
                (first | replace H := hyn hy175 H | rw [← hy175] at H); have Ny175 := aS hy175; clear hy175; have c21b0 := eq_true (oda : 0 ≤ (ji16)); have c22b0 := eq_true (oda : (ji16) ≤ (x0_3.length : Int))
                obtain ⟨y178, hy178⟩ : ∃ y_ : List (S42), y_ = (x0_3.drop ((ji16) : Int).toNat) := ⟨_, rfl⟩
                replace H : (block_Cut.l0 k3 y178 a1 y175) = some (r1, r2) := hyr hy178 H; have Ny178 := aS hy178; clear hy178
                have H' := aS H
                clear H; have p162 : 0 ≤ (x22_3 : Int) := oda; have q162 : x22_3 < (x0_2.length : Int) := oda; obtain ⟨ad162, e162, hx162_0, hx162_1, hx162_2, hx162_3, hx162_4⟩ := at_T42 (Kd.V_reads' HO_20.out).2.2 x22_3 p162 q162; cases e162; replace p162 := eq_true p162; replace q162 := eq_true q162
                try go_wp2_with (first | ((with_reducible refine gate_dst (N := 9) rfl ?_); refine box_event ?hg (N := 9) ?hd (cs := #[.string (⟨#[]⟩ : ByteArray), .string (⟨#[]⟩ : ByteArray), .int .i64 0, .string (⟨#[]⟩ : ByteArray), .bool false]) (t := 42) ?hr ?_; (case hd => rfl); (case hg => rfl); (case hr => first | (go_simp; done) | (go_simp; rfl)); intro gb163 hg w23 hbox hb; replace HO_0 := aS (Kd.V_below (Kd.V_elderB (sel HO_0.out) gb163 (Nat.le_of_eq hg.symm)) hb); replace HO_6 := aS (Kd.S_below (Kd.S_elderB (by (with_reducible repeat (first | apply Kd.S_alloc | apply Kd.S_drewN | apply Kd.S_drew)); exact HO_6.out) gb163 (Nat.le_of_eq hg.symm)) hb); replace HO_20 := aS (Kd.V_below (Kd.V_elderB (sel HO_20.out) gb163 (Nat.le_of_eq hg.symm)) hb); have BK163 := aS (hbox); have GW163 := bsize hg; have GE163 := bsize hg; replace HB := bstep hb; clear hb hbox hg; have hcz24 := cK5 BK163) | ((with_reducible refine gate_callee (f := 51) rfl ?_); refine goesL_ (some 29) rfl rfl Try.func51 (by kernel_rfl) rfl #[.agg #[.string ((rd_T42 x0_2 x22_3).f0), .string ((rd_T42 x0_2 x22_3).f1), .int .i64 ((rd_T42 x0_2 x22_3).f2), .string ((rd_T42 x0_2 x22_3).f3), .bool ((rd_T42 x0_2 x22_3).f4)]] rfl agn ?_; (with_reducible refine (cell_Put.calls ((rd_T42 x0_2 x22_3).f0) ((rd_T42 x0_2 x22_3).f1) ((rd_T42 x0_2 x22_3).f2) ((rd_T42 x0_2 x22_3).f3) ((rd_T42 x0_2 x22_3).f4) t164 _ A14.out).mono ?_); rintro e w25 ⟨v165, rfl, ho0, hb⟩; refine ⟨_, rfl, ?_⟩; replace HO_0 := aS (Kd.V_elder' (by (with_reducible repeat (first | apply Kd.V_alloc | apply Kd.V_drewN | apply Kd.V_drew)); exact (Kd.V_mono (Kd.V_far (p := ⟨gb163, 4, none⟩) (Kd.V_far (p := ⟨gb163, 3, none⟩) (Kd.V_far (p := ⟨gb163, 2, none⟩) (Kd.V_far (p := ⟨gb163, 1, none⟩) (Kd.V_far (p := ⟨gb163, 0, none⟩) (Kd.V_mono HO_0.out (fun k_ hk => (⟨hk, hk.2⟩ : _ ∧ k_ ≠ gb163))) (fun _ hk => hk.2) (.string ((rd_T42 x0_2 x22_3).f0))) (fun _ hk => hk.2) (.string ((rd_T42 x0_2 x22_3).f1))) (fun _ hk => hk.2) (.int .i64 ((rd_T42 x0_2 x22_3).f2))) (fun _ hk => hk.2) (.string ((rd_T42 x0_2 x22_3).f3))) (fun _ hk => hk.2) (.bool ((rd_T42 x0_2 x22_3).f4))) (fun _ h_ => h_.1))) (ebs ho0) hb); replace HO_6 := aS (Kd.S_below (by (with_reducible repeat (first | apply Kd.S_alloc | apply Kd.S_drewN | apply Kd.S_drew)); exact (Kd.S_mono (Kd.S_far (p := ⟨gb163, 4, none⟩) (Kd.S_far (p := ⟨gb163, 3, none⟩) (Kd.S_far (p := ⟨gb163, 2, none⟩) (Kd.S_far (p := ⟨gb163, 1, none⟩) (Kd.S_far (p := ⟨gb163, 0, none⟩) (Kd.S_mono HO_6.out (fun k_ hk => (⟨hk, hk.2⟩ : _ ∧ k_ ≠ gb163))) (fun _ hk => hk.2) (.string ((rd_T42 x0_2 x22_3).f0))) (fun _ hk => hk.2) (.string ((rd_T42 x0_2 x22_3).f1))) (fun _ hk => hk.2) (.int .i64 ((rd_T42 x0_2 x22_3).f2))) (fun _ hk => hk.2) (.string ((rd_T42 x0_2 x22_3).f3))) (fun _ hk => hk.2) (.bool ((rd_T42 x0_2 x22_3).f4))) (fun _ h_ => h_.1))) hb); replace HO_20 := aS (Kd.V_elder' (by (with_reducible repeat (first | apply Kd.V_alloc | apply Kd.V_drewN | apply Kd.V_drew)); exact (Kd.V_mono (Kd.V_far (p := ⟨gb163, 4, none⟩) (Kd.V_far (p := ⟨gb163, 3, none⟩) (Kd.V_far (p := ⟨gb163, 2, none⟩) (Kd.V_far (p := ⟨gb163, 1, none⟩) (Kd.V_far (p := ⟨gb163, 0, none⟩) (Kd.V_mono HO_20.out (fun k_ hk => (⟨hk, hk.2⟩ : _ ∧ k_ ≠ gb163))) (fun _ hk => hk.2) (.string ((rd_T42 x0_2 x22_3).f0))) (fun _ hk => hk.2) (.string ((rd_T42 x0_2 x22_3).f1))) (fun _ hk => hk.2) (.int .i64 ((rd_T42 x0_2 x22_3).f2))) (fun _ hk => hk.2) (.string ((rd_T42 x0_2 x22_3).f3))) (fun _ hk => hk.2) (.bool ((rd_T42 x0_2 x22_3).f4))) (fun _ h_ => h_.1))) (ebs ho0) hb); have HO166 := aS (Kd.R_lower (Kd.R_newM (M := fun k_ => (w.heap.size ≤ k_)) ho0 (below_size bel) (fun k_ h_ => h_)) (below_size bel)); replace BK163 := aS (blk_below (g := gb163) (o := .cells #[.string ((rd_T42 x0_2 x22_3).f0), .string ((rd_T42 x0_2 x22_3).f1), .int .i64 ((rd_T42 x0_2 x22_3).f2), .string ((rd_T42 x0_2 x22_3).f3), .bool ((rd_T42 x0_2 x22_3).f4)] 42 (0, 0)) (by (with_reducible repeat (first | refine blk_drewN ?_ _ | refine blk_drew ?_ | refine blk_alloc ?_ _)); refine blk_put (cs := #[.string ((rd_T42 x0_2 x22_3).f0), .string ((rd_T42 x0_2 x22_3).f1), .int .i64 ((rd_T42 x0_2 x22_3).f2), .string ((rd_T42 x0_2 x22_3).f3), .bool false]) ?_ 4 _ rfl; (with_reducible repeat (first | refine blk_drewN ?_ _ | refine blk_drew ?_ | refine blk_alloc ?_ _)); refine blk_put (cs := #[.string ((rd_T42 x0_2 x22_3).f0), .string ((rd_T42 x0_2 x22_3).f1), .int .i64 ((rd_T42 x0_2 x22_3).f2), .string (⟨#[]⟩ : ByteArray), .bool false]) ?_ 3 _ rfl; (with_reducible repeat (first | refine blk_drewN ?_ _ | refine blk_drew ?_ | refine blk_alloc ?_ _)); refine blk_put (cs := #[.string ((rd_T42 x0_2 x22_3).f0), .string ((rd_T42 x0_2 x22_3).f1), .int .i64 0, .string (⟨#[]⟩ : ByteArray), .bool false]) ?_ 2 _ rfl; (with_reducible repeat (first | refine blk_drewN ?_ _ | refine blk_drew ?_ | refine blk_alloc ?_ _)); refine blk_put (cs := #[.string ((rd_T42 x0_2 x22_3).f0), .string (⟨#[]⟩ : ByteArray), .int .i64 0, .string (⟨#[]⟩ : ByteArray), .bool false]) ?_ 1 _ rfl; (with_reducible repeat (first | refine blk_drewN ?_ _ | refine blk_drew ?_ | refine blk_alloc ?_ _)); refine blk_put (cs := #[.string (⟨#[]⟩ : ByteArray), .string (⟨#[]⟩ : ByteArray), .int .i64 0, .string (⟨#[]⟩ : ByteArray), .bool false]) ?_ 0 _ rfl; (with_reducible repeat (first | refine blk_drewN ?_ _ | refine blk_drew ?_ | refine blk_alloc ?_ _)); exact BK163.out) hb); replace HB := bstep hb; (try clear hb); (try clear hk); (try clear hi); (try clear ho0); obtain ⟨Ao26, co26, eo26⟩ := Kd.R_slice HO166.out; subst eo26))
                replace HO_0 := aS (Kd.V_drew HO_0.out); replace HO_6 := aS (Kd.S_drew HO_6.out); replace HO_20 := aS (Kd.V_drew HO_20.out); replace HO166 := aS (Kd.R_drew HO166.out); replace BK163 := aS (blk_drew BK163.out); replace HB := aS (bdo HB.out); obtain ⟨Ao29, co29, eo29⟩ := Kd.V_slice HO_0.out
                (first | subst eo29 | (injection eo29 with f1_ f2_ f3_; have f4_ := f1_.symm; have f5_ := f3_.symm; clear f1_ f2_ f3_; subst f4_; subst f5_))
                have q28 : ((ji16) : Int) ≤ ((x0_3.length : Int) : Int) := oda; obtain ⟨i028, hi028, _, hsz28, _⟩ := info_parts info42; have hroom28 : x0_3.length ≤ co29 := (Kd.V_reads' HO_0.out).2.1; have hC28 : Kd.F k42 _ _ Ao29 x0_3.length x0_3 := (Kd.V_at (base := w.heap.size) HO_0.out).2.2; have hcut28 := cut_to (P := Try.prog) 22 42 .i64 Try.underlying22 hi028 Ao29 x0_3.length co29 (ji16) (oda) q28 hroom28; have hr28 := Kd.F_take (m := ((ji16) : Int).toNat) hC28 (by omega); have hy28 : y167.length = ((ji16) : Int).toNat := (by rw [Ny167.out, llt]; omega); rw [← Ny167.out] at hr28; rw [← hy28] at hcut28; have HO171 := aS (show Kd.V k42 42 _ w.heap.size _ (.slice Ao29 y167.length co29) y167 from Kd.V_mk (by omega) hr28); have HC171 := aS (show y167.length ≤ co29 from by omega); clear hr28 hC28 hroom28 hi028 hsz28; have KY28 := aS hy28; clear hy28; replace q28 := eq_true q28; have q30 : ((ji16) : Int) ≤ ((x0_3.length : Int) : Int) := oda; obtain ⟨i030, hi030, _, hsz30, _⟩ := info_parts info42; have hroom30 : x0_3.length ≤ co29 := (Kd.V_reads' HO_0.out).2.1; have hC30 : Kd.F k42 _ _ Ao29 x0_3.length x0_3 := (Kd.V_at (base := w.heap.size) HO_0.out).2.2; have q030 : (0 : Int) ≤ ((ji16) : Int) := oda; have hcut30 := cut_from (P := Try.prog) 22 42 .i64 Try.underlying22 hi030 5 hsz30 Ao29 x0_3.length co29 (ji16) q030 q30; have hr30 := Kd.F_cut (m := ((ji16) : Int).toNat) (c := co29) hC30 (by omega) hroom30
                obtain ⟨A30, hA30⟩ : ∃ A1_, A1_ = (if co29 = ((ji16) : Int).toNat then Ao29 else (Ao29 : Option Addr).map (·.add (((ji16) : Int).toNat * 5))) := ⟨_, rfl⟩
                obtain ⟨c30, hc30⟩ : ∃ c1_, c1_ = co29 - ((ji16) : Int).toNat := ⟨_, rfl⟩
                have hy30 : y178.length = x0_3.length - ((ji16) : Int).toNat := (by rw [Ny178.out, lld] <;> omega); rw [show (x0_3).drop ((ji16) : Int).toNat = y178 from Ny178.out.symm] at hr30; replace hr30 : Kd.F k42 _ _ A30 y178.length y178 := (by rw [hA30]; exact hr30); rw [← hy30, ← hA30, ← hc30] at hcut30; have HO182 := aS (show Kd.V k42 42 _ w.heap.size _ (.slice A30 y178.length c30) y178 from Kd.V_mk (by rw [hy30, hc30]; exact Nat.sub_le_sub_right hroom30 _) hr30); have HC182 := aS (show y178.length ≤ c30 from by rw [hy30, hc30]; exact Nat.sub_le_sub_right hroom30 _); clear hr30 hC30 hroom30 hi030 hsz30 hc30; have KY30 := aS hy30; have KA30 := aS hA30; clear hy30 hA30; replace q30 := eq_true q30; refine start_ (n := 14) (S := fun w' => True) (ds := []) (bA 14 0) (by kernel_rfl) rfl rfl trivial (fun hHeld => ?_); refine with_tabW block_Cut.tab11 block_Cut.bits11 (fun HT_ HW_ => ?_)
                generalize w25.drew = w27 at HO_0 HO_6 HO_20 HO166 BK163 HB HO171 HO182 hHeld ⊢
                refine along_ [(0, 35), (1, 36), (2, 37), (3, 38), (4, 39), (8, 43), (9, 44), (10, 45), (11, 46)] ?_
                iterate 9 (refine pure3 HT_ ?_)
                refine lay_ (bA 14 3871) (by kernel_rfl) ?_; refine one3 5 (N := some 40) (bA 14 3903) HT_ (fun K hK => ?_); refine goes_ Try.func43 (by kernel_rfl) rfl #[.slice Ao29 y167.length co29] (by rfl) rfl rfl agn ?_
                with_reducible refine (api_Cell_43.calls _ _ y167 t172 _ ?side1 ?side2 A19.out).mono ?_
                (case side1 => exact cel ((Kd.V_reads' HO171.out).2.2))
                (case side2 => exact (Kd.V_reads' HO171.out).2.1)
                rintro e w31 ⟨v173, rfl, ho0, hb⟩
                refine ⟨_, rfl, ?_⟩; replace HO_0 := aS (Kd.V_elder' (sel HO_0.out) (ebs ho0) hb); replace HO_6 := aS (Kd.S_elder' (by (with_reducible repeat (first | apply Kd.S_alloc | apply Kd.S_drewN | apply Kd.S_drew)); exact HO_6.out) (ebs ho0) hb); replace HO_20 := aS (Kd.V_elder' (sel HO_20.out) (ebs ho0) hb); replace HO166 := aS (Kd.R_below (rel HO166.out) hb); replace HO171 := aS (Kd.V_elder' (sel HO171.out) (ebs ho0) hb); replace HO182 := aS (Kd.V_elder' (sel HO182.out) (ebs ho0) hb); have HO174 := aS (Kd.R_lower (Kd.R_newB (Kd.R_newM (M := fun k_ => (w.heap.size ≤ k_)) ho0 (below_size bel) (fun k_ h_ => h_)) (g := gb163) (o := .cells #[.string ((rd_T42 x0_2 x22_3).f0), .string ((rd_T42 x0_2 x22_3).f1), .int .i64 ((rd_T42 x0_2 x22_3).f2), .string ((rd_T42 x0_2 x22_3).f3), .bool ((rd_T42 x0_2 x22_3).f4)] 42 (0, 0)) (bkl BK163.out)) (below_size bel)); replace BK163 := bbl BK163 hb; replace HB := bstep hb; (try clear hb); (try clear hk); (try clear hi); (try clear ho0); obtain ⟨Ao33, co33, eo33⟩ := Kd.R_slice HO174.out
                (first | subst eo33 | (injection eo33 with f1_ f2_ f3_; have f4_ := f1_.symm; have f5_ := f3_.symm; clear f1_ f2_ f3_; subst f4_; subst f5_))
                refine hK.out _ _ trivial (fun hHeld => ?_); clear hK K; refine nm 40 ?_; refine one3 6 (N := some 41) (bA 14 3967) HT_ (fun K hK => ?_); refine value_ (w1 := ?_) (v := ?_) (by rfl) rfl ?_ ?_
                rotate_left 2
                ·
                 go_simp
                 constructor
                 ·
                  rfl
                 ·
                  rfl
                refine hK.out _ _ trivial (fun hHeld => ?_); clear hK K; refine nm 41 ?_; refine one3 7 (N := some 42) (bA 14 4095) HT_ (fun K hK => ?_); refine Kd.S_append_step (Kd.slice 42 k42) (w0 := w) w.heap.size (by rfl) (.tmp 35) (.tmp 41) 39 22 (.slice none 0 0) 24 rfl Try.underlying39 info22 rfl (by decide) (by omega) u6 x6_3 t172 [.slice Ao33 t172.length co33] (fun k_ => (w.heap.size ≤ k_) ∧ k_ ≠ gb163) (fun k_ => some k_ = (.slice Ao33 t172.length co33 : Value).ownBlock) rfl rfl ?aP (fun k_ hk_ => ((Kd.R_mono (ok' := fun k_ => ((fun k_ => (w.heap.size ≤ k_) ∧ k_ ≠ gb163)) k_ ∧ some k_ ≠ (u6 : Value).ownBlock) (Kd.R_apart' (HO174.out) (Kd.S_typed HO_6.out) (by decide)) (fun k_ hk => ⟨⟨hk.1.1.1, hk.1.2⟩, hk.2⟩))).1 k_ hk_.symm) ?aF ?aO ?aB ?aS ?aL ?_
                (case aP => exact Kd.M_row (Kd.R_mono (Kd.R_tight rfl (Kd.R_mono (ok' := fun k_ => ((fun k_ => (w.heap.size ≤ k_) ∧ k_ ≠ gb163)) k_ ∧ some k_ ≠ (u6 : Value).ownBlock) (Kd.R_apart' (HO174.out) (Kd.S_typed HO_6.out) (by decide)) (fun k_ hk => ⟨⟨hk.1.1.1, hk.1.2⟩, hk.2⟩))) (fun _ h_ => h_)))
                (case aB => exact bel)
                (case aF => exact (fun k_ hk => ⟨(Nat.le_trans (below_size bel) hk), Kd.freshB (g := gb163) (o := .cells #[.string ((rd_T42 x0_2 x22_3).f0), .string ((rd_T42 x0_2 x22_3).f1), .int .i64 ((rd_T42 x0_2 x22_3).f2), .string ((rd_T42 x0_2 x22_3).f3), .bool ((rd_T42 x0_2 x22_3).f4)] 42 (0, 0)) (bkl BK163.out) k_ hk⟩))
                (case aO => exact (by (with_reducible repeat (first | apply Kd.S_alloc | apply Kd.S_drewN | apply Kd.S_drew)); exact Kd.S_mono HO_6.out (fun k_ hk => ⟨⟨hk.1.1, hk.1.2⟩, fun e_ => hk.2 e_⟩)))
                (case aS => exact (below_size bel))
                (case aL => have := LMc20.out; omega)
                intro v176 w32 ho hb hg hat
                rw [← Ny175.out] at ho; have n0_ := aS (Kd.V_afterv (ok := (fun k_ => (P0_ k_ ∨ w.heap.size ≤ k_) ∧ some k_ ≠ (.slice Ao26 t164.length co26 : Value).ownBlock ∧ some k_ ≠ (.slice Ao33 t172.length co33 : Value).ownBlock ∧ k_ ≠ gb163)) (by (with_reducible repeat (first | apply Kd.V_alloc | apply Kd.V_drewN | apply Kd.V_drew)); exact Kd.V_mono HO_0.out (fun _ hk => ⟨⟨hk.1.1.1.1, ⟨hk.1.2, ⟨hk.2, hk.1.1.2⟩⟩⟩, hk.1.1.1.2⟩)) hg hat); have n1_ := aS (Kd.V_afterv (ok := (fun k_ => (P0_ k_ ∨ w.heap.size ≤ k_) ∧ some k_ ≠ (.slice Ao26 t164.length co26 : Value).ownBlock ∧ some k_ ≠ (.slice Ao33 t172.length co33 : Value).ownBlock ∧ k_ ≠ gb163)) (by (with_reducible repeat (first | apply Kd.V_alloc | apply Kd.V_drewN | apply Kd.V_drew)); exact Kd.V_mono HO_20.out (fun _ hk => ⟨⟨hk.1.1.1.1, ⟨hk.1.2, ⟨hk.2, hk.1.1.2⟩⟩⟩, hk.1.1.1.2⟩)) hg hat); have n2_ := aS (blk_grown (g := gb163) (o := .cells #[.string ((rd_T42 x0_2 x22_3).f0), .string ((rd_T42 x0_2 x22_3).f1), .int .i64 ((rd_T42 x0_2 x22_3).f2), .string ((rd_T42 x0_2 x22_3).f3), .bool ((rd_T42 x0_2 x22_3).f4)] 42 (0, 0)) (bkl BK163.out) hg (Kd.S_ne HO_6.out BK163.out (by decide))); have n3_ := aS (Kd.R_over' (rel HO166.out) (Kd.S_typed (by (with_reducible repeat (first | apply Kd.S_alloc | apply Kd.S_drewN | apply Kd.S_drew)); exact HO_6.out)) (by decide) hg); have n4_ := aS (Kd.V_afterv (ok := (fun k_ => (P0_ k_ ∨ w.heap.size ≤ k_) ∧ some k_ ≠ (.slice Ao26 t164.length co26 : Value).ownBlock ∧ some k_ ≠ (.slice Ao33 t172.length co33 : Value).ownBlock ∧ k_ ≠ gb163)) (by (with_reducible repeat (first | apply Kd.V_alloc | apply Kd.V_drewN | apply Kd.V_drew)); exact Kd.V_mono HO171.out (fun _ hk => ⟨⟨hk.1.1.1.1, ⟨hk.1.2, ⟨hk.2, hk.1.1.2⟩⟩⟩, hk.1.1.1.2⟩)) hg hat); have n5_ := aS (Kd.V_afterv (ok := (fun k_ => (P0_ k_ ∨ w.heap.size ≤ k_) ∧ some k_ ≠ (.slice Ao26 t164.length co26 : Value).ownBlock ∧ some k_ ≠ (.slice Ao33 t172.length co33 : Value).ownBlock ∧ k_ ≠ gb163)) (by (with_reducible repeat (first | apply Kd.V_alloc | apply Kd.V_drewN | apply Kd.V_drew)); exact Kd.V_mono HO182.out (fun _ hk => ⟨⟨hk.1.1.1.1, ⟨hk.1.2, ⟨hk.2, hk.1.1.2⟩⟩⟩, hk.1.1.1.2⟩)) hg hat); have n6_ := aS (hb); have n7_ := aS (ho); clear HO_0; clear HO_20; clear BK163; clear HO166; clear HO171; clear HO182; clear HB; clear HO_6; clear HO174; have HO_0 := n0_; have HO_20 := n1_; have BK163 := n2_; have HO166 := n3_; have HO171 := n4_; have HO182 := n5_; have HB := n6_; have HO177 := n7_; clear n0_ n1_ n2_ n3_ n4_ n5_ n6_ n7_; clear ho hb hg hat; refine hK.out _ _ trivial (fun hHeld => ?_); clear hK K; refine nm 42 ?_; refine along_ [(12, 6), (13, 0)] ?_
                iterate 2 (refine pure3 HT_ ?_)
                refine lay_ (bA 14 16383) (by kernel_rfl) ?_; refine done_ (done_of HT_.out (by kernel_rfl)) ?_
                try go_wp2
                go_roundg k3
                case measure => have := HJ2.out; have := HK2.out; have := HK3.out; omega
                case rel => exact ⟨(y178), (y175), H', ⟨by have := HJ2.out; have := HK2.out; have := HK3.out; omega⟩, ⟨by (with_reducible repeat (first | apply Kd.V_alloc | apply Kd.V_drewN | apply Kd.V_drew)); exact Kd.V_mono HO182.out (fun _ hk => ⟨hk.1.1, hk.2⟩)⟩, ⟨by (with_reducible repeat (first | apply Kd.S_alloc | apply Kd.S_drewN | apply Kd.S_drew)); exact Kd.S_mono HO177.out (fun _ hk => hk.1)⟩, ⟨bel⟩⟩
               ·
                rw [if_neg c20] at H; exact absurd H (by simp)
              ·
               rw [if_neg c18] at H; exact absurd H (by simp)
             ·
              rw [if_neg c17] at H; exact absurd H (by simp)
            ·
             rw [if_neg c15] at H; have c15b0 : decide (a1 ≤ (wrap64 (x7_3 + (t164.length : Int)))) = false := decide_eq_false c15; clear c15
             have H' := aS H
             clear H; have p162 : 0 ≤ (x22_3 : Int) := oda; have q162 : x22_3 < (x0_2.length : Int) := oda; obtain ⟨ad162, e162, hx162_0, hx162_1, hx162_2, hx162_3, hx162_4⟩ := at_T42 (Kd.V_reads' HO_20.out).2.2 x22_3 p162 q162; cases e162; replace p162 := eq_true p162; replace q162 := eq_true q162
             go_wp2_with (first | ((with_reducible refine gate_dst (N := 9) rfl ?_); refine box_event ?hg (N := 9) ?hd (cs := #[.string (⟨#[]⟩ : ByteArray), .string (⟨#[]⟩ : ByteArray), .int .i64 0, .string (⟨#[]⟩ : ByteArray), .bool false]) (t := 42) ?hr ?_; (case hd => rfl); (case hg => rfl); (case hr => first | (go_simp; done) | (go_simp; rfl)); intro gb163 hg w34 hbox hb; replace HO_0 := aS (Kd.V_below (Kd.V_elderB (sel HO_0.out) gb163 (Nat.le_of_eq hg.symm)) hb); replace HO_6 := aS (Kd.S_below (Kd.S_elderB (by (with_reducible repeat (first | apply Kd.S_alloc | apply Kd.S_drewN | apply Kd.S_drew)); exact HO_6.out) gb163 (Nat.le_of_eq hg.symm)) hb); replace HO_20 := aS (Kd.V_below (Kd.V_elderB (sel HO_20.out) gb163 (Nat.le_of_eq hg.symm)) hb); have BK163 := aS (hbox); have GW163 := bsize hg; have GE163 := bsize hg; replace HB := bstep hb; clear hb hbox hg; have hcz35 := cK5 BK163) | ((with_reducible refine gate_callee (f := 51) rfl ?_); refine goesL_ (some 29) rfl rfl Try.func51 (by kernel_rfl) rfl #[.agg #[.string ((rd_T42 x0_2 x22_3).f0), .string ((rd_T42 x0_2 x22_3).f1), .int .i64 ((rd_T42 x0_2 x22_3).f2), .string ((rd_T42 x0_2 x22_3).f3), .bool ((rd_T42 x0_2 x22_3).f4)]] rfl agn ?_; (with_reducible refine (cell_Put.calls ((rd_T42 x0_2 x22_3).f0) ((rd_T42 x0_2 x22_3).f1) ((rd_T42 x0_2 x22_3).f2) ((rd_T42 x0_2 x22_3).f3) ((rd_T42 x0_2 x22_3).f4) t164 _ A14.out).mono ?_); rintro e w36 ⟨v165, rfl, ho0, hb⟩; refine ⟨_, rfl, ?_⟩; replace HO_0 := aS (Kd.V_elder' (by (with_reducible repeat (first | apply Kd.V_alloc | apply Kd.V_drewN | apply Kd.V_drew)); exact (Kd.V_mono (Kd.V_far (p := ⟨gb163, 4, none⟩) (Kd.V_far (p := ⟨gb163, 3, none⟩) (Kd.V_far (p := ⟨gb163, 2, none⟩) (Kd.V_far (p := ⟨gb163, 1, none⟩) (Kd.V_far (p := ⟨gb163, 0, none⟩) (Kd.V_mono HO_0.out (fun k_ hk => (⟨hk, hk.2⟩ : _ ∧ k_ ≠ gb163))) (fun _ hk => hk.2) (.string ((rd_T42 x0_2 x22_3).f0))) (fun _ hk => hk.2) (.string ((rd_T42 x0_2 x22_3).f1))) (fun _ hk => hk.2) (.int .i64 ((rd_T42 x0_2 x22_3).f2))) (fun _ hk => hk.2) (.string ((rd_T42 x0_2 x22_3).f3))) (fun _ hk => hk.2) (.bool ((rd_T42 x0_2 x22_3).f4))) (fun _ h_ => h_.1))) (ebs ho0) hb); replace HO_6 := aS (Kd.S_below (by (with_reducible repeat (first | apply Kd.S_alloc | apply Kd.S_drewN | apply Kd.S_drew)); exact (Kd.S_mono (Kd.S_far (p := ⟨gb163, 4, none⟩) (Kd.S_far (p := ⟨gb163, 3, none⟩) (Kd.S_far (p := ⟨gb163, 2, none⟩) (Kd.S_far (p := ⟨gb163, 1, none⟩) (Kd.S_far (p := ⟨gb163, 0, none⟩) (Kd.S_mono HO_6.out (fun k_ hk => (⟨hk, hk.2⟩ : _ ∧ k_ ≠ gb163))) (fun _ hk => hk.2) (.string ((rd_T42 x0_2 x22_3).f0))) (fun _ hk => hk.2) (.string ((rd_T42 x0_2 x22_3).f1))) (fun _ hk => hk.2) (.int .i64 ((rd_T42 x0_2 x22_3).f2))) (fun _ hk => hk.2) (.string ((rd_T42 x0_2 x22_3).f3))) (fun _ hk => hk.2) (.bool ((rd_T42 x0_2 x22_3).f4))) (fun _ h_ => h_.1))) hb); replace HO_20 := aS (Kd.V_elder' (by (with_reducible repeat (first | apply Kd.V_alloc | apply Kd.V_drewN | apply Kd.V_drew)); exact (Kd.V_mono (Kd.V_far (p := ⟨gb163, 4, none⟩) (Kd.V_far (p := ⟨gb163, 3, none⟩) (Kd.V_far (p := ⟨gb163, 2, none⟩) (Kd.V_far (p := ⟨gb163, 1, none⟩) (Kd.V_far (p := ⟨gb163, 0, none⟩) (Kd.V_mono HO_20.out (fun k_ hk => (⟨hk, hk.2⟩ : _ ∧ k_ ≠ gb163))) (fun _ hk => hk.2) (.string ((rd_T42 x0_2 x22_3).f0))) (fun _ hk => hk.2) (.string ((rd_T42 x0_2 x22_3).f1))) (fun _ hk => hk.2) (.int .i64 ((rd_T42 x0_2 x22_3).f2))) (fun _ hk => hk.2) (.string ((rd_T42 x0_2 x22_3).f3))) (fun _ hk => hk.2) (.bool ((rd_T42 x0_2 x22_3).f4))) (fun _ h_ => h_.1))) (ebs ho0) hb); have HO166 := aS (Kd.R_lower (Kd.R_newM (M := fun k_ => (w.heap.size ≤ k_)) ho0 (below_size bel) (fun k_ h_ => h_)) (below_size bel)); replace BK163 := aS (blk_below (g := gb163) (o := .cells #[.string ((rd_T42 x0_2 x22_3).f0), .string ((rd_T42 x0_2 x22_3).f1), .int .i64 ((rd_T42 x0_2 x22_3).f2), .string ((rd_T42 x0_2 x22_3).f3), .bool ((rd_T42 x0_2 x22_3).f4)] 42 (0, 0)) (by (with_reducible repeat (first | refine blk_drewN ?_ _ | refine blk_drew ?_ | refine blk_alloc ?_ _)); refine blk_put (cs := #[.string ((rd_T42 x0_2 x22_3).f0), .string ((rd_T42 x0_2 x22_3).f1), .int .i64 ((rd_T42 x0_2 x22_3).f2), .string ((rd_T42 x0_2 x22_3).f3), .bool false]) ?_ 4 _ rfl; (with_reducible repeat (first | refine blk_drewN ?_ _ | refine blk_drew ?_ | refine blk_alloc ?_ _)); refine blk_put (cs := #[.string ((rd_T42 x0_2 x22_3).f0), .string ((rd_T42 x0_2 x22_3).f1), .int .i64 ((rd_T42 x0_2 x22_3).f2), .string (⟨#[]⟩ : ByteArray), .bool false]) ?_ 3 _ rfl; (with_reducible repeat (first | refine blk_drewN ?_ _ | refine blk_drew ?_ | refine blk_alloc ?_ _)); refine blk_put (cs := #[.string ((rd_T42 x0_2 x22_3).f0), .string ((rd_T42 x0_2 x22_3).f1), .int .i64 0, .string (⟨#[]⟩ : ByteArray), .bool false]) ?_ 2 _ rfl; (with_reducible repeat (first | refine blk_drewN ?_ _ | refine blk_drew ?_ | refine blk_alloc ?_ _)); refine blk_put (cs := #[.string ((rd_T42 x0_2 x22_3).f0), .string (⟨#[]⟩ : ByteArray), .int .i64 0, .string (⟨#[]⟩ : ByteArray), .bool false]) ?_ 1 _ rfl; (with_reducible repeat (first | refine blk_drewN ?_ _ | refine blk_drew ?_ | refine blk_alloc ?_ _)); refine blk_put (cs := #[.string (⟨#[]⟩ : ByteArray), .string (⟨#[]⟩ : ByteArray), .int .i64 0, .string (⟨#[]⟩ : ByteArray), .bool false]) ?_ 0 _ rfl; (with_reducible repeat (first | refine blk_drewN ?_ _ | refine blk_drew ?_ | refine blk_alloc ?_ _)); exact BK163.out) hb); replace HB := bstep hb; (try clear hb); (try clear hk); (try clear hi); (try clear ho0); obtain ⟨Ao37, co37, eo37⟩ := Kd.R_slice HO166.out; subst eo37))
             go_roundg k3
             case measure => have := HJ2.out; have := HK2.out; have := HK3.out; omega
             case rel => exact ⟨(x0_3), (x6_3), (wrap64 (x7_3 + (t164.length : Int))), (wrap64 (x22_3 + 1)), srf, srf, H', ⟨by have := HJ2.out; have := HK2.out; have := HK3.out; omega⟩, ⟨by (with_reducible repeat (first | apply Kd.V_alloc | apply Kd.V_drewN | apply Kd.V_drew)); exact Kd.V_mono HO_0.out (fun _ hk => ⟨hk.1.1.1, hk.1.1.2⟩)⟩, ⟨by (with_reducible repeat (first | apply Kd.S_alloc | apply Kd.S_drewN | apply Kd.S_drew)); exact Kd.S_mono HO_6.out (fun _ hk => hk.1)⟩, ⟨by (with_reducible repeat (first | apply Kd.V_alloc | apply Kd.V_drewN | apply Kd.V_drew)); exact Kd.V_mono HO_20.out (fun _ hk => ⟨hk.1.1.1, hk.1.1.2⟩)⟩, ⟨bel⟩⟩
           ·
            rw [if_neg c13] at H; exact absurd H (by simp)
          ·
           rw [if_neg c12] at H; exact absurd H (by simp)
         ·
          rw [if_neg c11] at H; have c11b0 : decide (x22_3 < (x0_2.length : Int)) = false := decide_eq_false c11; clear c11; replace H := obm H; obtain ⟨t156, A380, H⟩ := H; have A38 := aS A380; clear A380
          by_cases c39 : x6_3.length < 5864062014805
          ·
           rw [if_pos c39] at H; have LMc39 := aS c39; clear c39
           obtain ⟨y159, hy159⟩ : ∃ y_ : List (List (S42)), y_ = (x6_3 ++ [t156]) := ⟨_, rfl⟩
           replace H : (some (y159, 0)) = some (r1, r2) := hyr hy159 H; have Ny159 := aS hy159; clear hy159
           simp only [Option.some.injEq, Prod.mk.injEq] at H
           obtain ⟨rfl, rfl⟩ := H; obtain ⟨Ao40, co40, eo40⟩ := Kd.V_slice HO_0.out; subst eo40
           go_wp2_with (first | ((with_reducible refine gate_callee (f := 43) rfl ?_); refine goesL_ (some 50) rfl rfl Try.func43 (by kernel_rfl) rfl #[.slice Ao40 x0_3.length co40] rfl agn ?_; (with_reducible refine (api_Cell_43.calls _ _ x0_3 t156 _ ?side1 ?side2 A38.out).mono ?_); (case side1 => exact cel ((Kd.V_reads' HO_0.out).2.2)); (case side2 => exact (Kd.V_reads' HO_0.out).2.1); rintro e w41 ⟨v157, rfl, ho0, hb⟩; refine ⟨_, rfl, ?_⟩; replace HO_0 := aS (Kd.V_elder' (sel HO_0.out) (ebs ho0) hb); replace HO_6 := aS (Kd.S_elder' (by (with_reducible repeat (first | apply Kd.S_alloc | apply Kd.S_drewN | apply Kd.S_drew)); exact HO_6.out) (ebs ho0) hb); replace HO_20 := aS (Kd.V_elder' (sel HO_20.out) (ebs ho0) hb); have HO158 := aS (Kd.R_lower (Kd.R_newM (M := fun k_ => (w.heap.size ≤ k_)) ho0 (below_size bel) (fun k_ h_ => h_)) (below_size bel)); replace HB := bstep hb; (try clear hb); (try clear hk); (try clear hi); (try clear ho0); obtain ⟨Ao43, co43, eo43⟩ := Kd.R_slice HO158.out; subst eo43) | ((with_reducible refine gate_builtin (b := .append) (xs := #[.tmp 48, .tmp 51]) rfl ?_); at_builtin; refine Kd.S_append (Kd.slice 42 k42) (w0 := w) w.heap.size rfl (.tmp 48) (.tmp 51) 39 22 (.slice none 0 0) 24 rfl Try.underlying39 info22 rfl (by decide) (by omega) u6 x6_3 t156 [.slice Ao43 t156.length co43] (fun k_ => (w.heap.size ≤ k_)) (fun k_ => some k_ = (.slice Ao43 t156.length co43 : Value).ownBlock) rfl rfl ?aP (fun k_ hk_ => ((Kd.R_mono (ok' := fun k_ => ((fun k_ => (w.heap.size ≤ k_))) k_ ∧ some k_ ≠ (u6 : Value).ownBlock) (Kd.R_apart' (HO158.out) (Kd.S_typed HO_6.out) (by decide)) (fun k_ hk => ⟨hk.1.1, hk.2⟩))).1 k_ hk_.symm) ?aF ?aO ?aB ?aS ?aL ?_; (case aP => exact Kd.M_row (Kd.R_mono (Kd.R_tight rfl (Kd.R_mono (ok' := fun k_ => ((fun k_ => (w.heap.size ≤ k_))) k_ ∧ some k_ ≠ (u6 : Value).ownBlock) (Kd.R_apart' (HO158.out) (Kd.S_typed HO_6.out) (by decide)) (fun k_ hk => ⟨hk.1.1, hk.2⟩))) (fun _ h_ => h_))); (case aB => exact bel); (case aF => exact (fun k_ hk => (Nat.le_trans (below_size bel) hk))); (case aO => exact (by (with_reducible repeat (first | apply Kd.S_alloc | apply Kd.S_drewN | apply Kd.S_drew)); exact Kd.S_mono HO_6.out (fun k_ hk => ⟨hk.1, fun e_ => hk.2 e_⟩))); (case aS => exact (below_size bel)); (case aL => have := LMc39.out; omega); intro v160 w42 ho hb hg hat; rw [← Ny159.out] at ho; have n0_ := aS (Kd.V_afterv (ok := (fun k_ => (P0_ k_ ∨ w.heap.size ≤ k_) ∧ some k_ ≠ (.slice Ao43 t156.length co43 : Value).ownBlock)) (by (with_reducible repeat (first | apply Kd.V_alloc | apply Kd.V_drewN | apply Kd.V_drew)); exact Kd.V_mono HO_0.out (fun _ hk => ⟨⟨hk.1.1, hk.2⟩, hk.1.2⟩)) hg hat); have n1_ := aS (Kd.V_afterv (ok := (fun k_ => (P0_ k_ ∨ w.heap.size ≤ k_) ∧ some k_ ≠ (.slice Ao43 t156.length co43 : Value).ownBlock)) (by (with_reducible repeat (first | apply Kd.V_alloc | apply Kd.V_drewN | apply Kd.V_drew)); exact Kd.V_mono HO_20.out (fun _ hk => ⟨⟨hk.1.1, hk.2⟩, hk.1.2⟩)) hg hat); have n2_ := aS (hb); have n3_ := aS (ho); clear HO_0; clear HO_20; clear HB; clear HO_6; clear HO158; have HO_0 := n0_; have HO_20 := n1_; have HB := n2_; have HO161 := n3_; clear n0_ n1_ n2_ n3_; clear ho hb hg hat))
           (try simp only [Exit.noGoto_ret])
           go_ret2
           exact ⟨_, rf3, by (with_reducible repeat (first | apply Kd.S_alloc | apply Kd.S_drewN | apply Kd.S_drew)); exact HO161.out, bel⟩
          ·
           rw [if_neg c39] at H; exact absurd H (by simp)
      ·
       rw [if_neg c9] at H; have c9b0 : decide (0 < (x0_2.length : Int)) = false := decide_eq_false c9; have c9b1 : decide (0 < x0_2.length) = false := decide_eq_false (by omega); clear c9
       simp only [Option.some.injEq, Prod.mk.injEq] at H
       obtain ⟨rfl, rfl⟩ := H; obtain ⟨Ao44, co44, eo44⟩ := Kd.V_slice HO_0.out; subst eo44
       go_wp2
       (try simp only [Exit.noGoto_ret])
       go_ret2
       exact ⟨_, rf3, by (with_reducible repeat (first | apply Kd.S_alloc | apply Kd.S_drewN | apply Kd.S_drew)); exact HO_6.out, bel⟩

/-! ### check_word_eight: function 82 -/
def check_word_eight.bit (w : Int) : Int := if Go.bits .and .u32 w 1 = 1 then Go.bits .xor .u32 (w / 2) 2197175160 else w / 2
def check_word_eight.go : Nat → Int → Int
 | 0, w => w
 | m + 1, w => check_word_eight.go m (check_word_eight.bit w)
def check_word_eight.f (a0 a1 : Int) : Option Int := some (check_word_eight.go 8 (Go.bits .xor .u32 a0 (a1 % 4294967296)))
set_option maxHeartbeats 2000000 in
set_option maxRecDepth 100000 in
theorem check_word_eight.bit_calls (a0 : Int) (w : World) : Calls Try.prog 83 #[.int .u32 a0] w fun e w' => e = .returned (.int .u32 (check_word_eight.bit a0)) ∧ Below w.heap.size w w' := by
 go_enter Try.func83, Try.ntmps83
 go_wp2_with fail
 ·
  rename_i h
  refine bodyPost_ret (results_single rfl (.tmp .nil)) rfl ⟨?_, Below.refl _ _⟩; rw [check_word_eight.bit, if_pos (by simpa using h)]
  rfl
 ·
  rename_i h
  refine bodyPost_ret (results_single rfl (.tmp .nil)) rfl ⟨?_, Below.refl _ _⟩; rw [check_word_eight.bit, if_neg (by simpa using h)]
  rfl
set_option maxHeartbeats 2000000 in
set_option maxRecDepth 100000 in
theorem check_word_eight.calls (a0 a1 : Int) (r : Int) (w : World) (h : check_word_eight.f a0 a1 = some r) :
  Calls Try.prog 82 #[.int .u32 a0, .int .u8 a1] w fun e w' => e = .returned (.int .u32 r) ∧ Below w.heap.size w w' := by
 obtain rfl := Option.some.inj h
 clear h
 go_enter Try.func82, Try.ntmps82
 go_wp2_with fail
 go_loopw [0, 10] (fun v0 v10 w2 => ∃ (i : Nat) (x : Int), v10 = .int .i64 (i : Int) ∧ v0 = .int .u32 x ∧ Aside0 (i ≤ 8) ∧ Aside0 (check_word_eight.go (8 - i) x = check_word_eight.go 8 (Go.bits .xor .u32 a0 (a1 % 4294967296))) ∧ Aside0 (Below w.heap.size w w2)) (fun _ i _ => 8 - (intOf i).toNat)
 case atStart => exact ⟨0, _, rfl, rfl, ⟨by omega⟩, ⟨rfl⟩, ⟨Below.refl _ _⟩⟩
 case round =>
  obtain ⟨i, x, rfl, rfl, hi, HA, HB⟩ := hrel; have hi8 := hi.out
  by_cases hlt : i < 8
  ·
   obtain ⟨m, hm⟩ : ∃ m, 8 - i = m + 1 := ⟨7 - i, by omega⟩
   have ha := HA.out; rw [hm, check_word_eight.go] at ha; have HA2 := aS ha; have HM := aS hm; clear ha HA hm
   go_wp2_with (first
    | (go_at_call 83; (with_reducible refine (check_word_eight.bit_calls _ _).mono ?_); rintro e w3 ⟨rfl, hb⟩; have HB2 := aS hb; clear hb))
   go_roundw
   case rel =>
    have hm := HM.out; exact ⟨i + 1, _, by go_num, rfl, ⟨by omega⟩, ⟨by rw [show 8 - (i + 1) = m by omega]; exact HA2.out⟩, ⟨below_step HB.out HB2.out⟩⟩
   case measure => simp [intOf]; omega
  ·
   have hd : 8 - i = 0 := by omega
   have ha := HA.out; rw [hd, check_word_eight.go] at ha; have HA2 := aS ha; clear ha HA hd
   go_wp2_with fail
   refine bodyPost_ret (results_single rfl (.tmp .nil)) rfl ⟨?_, HB.out⟩; rw [← HA2.out]
   rfl

/-! ### check_More: function 81 -/
def check_More.l0 : Nat → Int → List Int → Int → Int → Option (Int)
 | 0, _, _, _, _ => none
 | k + 1, x5, x10, x11, x12 => if x12 < x11 then (if 0 ≤ x12 then (if x12 < (x10.length : Int) then ((check_word_eight.f x5 (rd x10 x12)).bind fun t184 => (check_More.l0 k t184 x10 x11 (wrap64 (x12 + 1)))) else (none)) else (none)) else (some (Go.bits .xor .u32 x5 4294967295))
def check_More.f (k : Nat) (a0 : Int) (l1 : List Int) : Option (Int) := check_More.l0 k (Go.bits .xor .u32 a0 4294967295) l1 (l1.length : Int) 0
theorem check_More.mono_l : ∀ k, (∀ y0 y1 y2 y3, LeO (check_More.l0 k y0 y1 y2 y3) (check_More.l0 (k + 1) y0 y1 y2 y3))
 | 0 => fun _ _ _ _ r h => by simp [check_More.l0] at h
 | k + 1 => by
  have ih0 := check_More.mono_l k
  ·
   intro y0 y1 y2 y3
   unfold check_More.l0
   exact lmo
theorem check_More.mono : ∀ a0 a1 k, LeO (check_More.f k a0 a1) (check_More.f (k + 1) a0 a1) := by
 intro a0 a1 k
 have ih0 := check_More.mono_l k
 unfold check_More.f
 exact lmo
set_option maxHeartbeats 8000000 in
set_option maxRecDepth 100000 in
theorem check_More.calls (k : Nat) (a0 : Int) (A1 : Option Addr) (c1 : Nat) (l1 : List Int) (r : Int) (w : World) (hr1 : Kd.C (Kd.int .u8) w A1 l1.length l1) (hc1 : l1.length ≤ c1) (h : check_More.f k a0 l1 = some r) :
  Calls Try.prog 81 #[.int .u32 a0, .slice A1 l1.length c1] w fun e w' => e = .returned (.int .u32 r) ∧ Below w.heap.size w w' := by
 have HR1 := aS hr1; have HC1 := aS hc1; clear hr1 hc1; have HB := aS (Below.refl w.heap.size w); have H : (check_More.l0 k (Go.bits .xor .u32 a0 4294967295) l1 (l1.length : Int) 0) = some r := h; clear h
 have H' := aS H
 clear H
 go_enter Try.func81, Try.ntmps81
 go_wp2
 go_loopg [5, 12] k (fun kq v5 v12 w' => ∃ (x5_1 : Int) (x12_1 : Int), v5 = .int .u32 x5_1 ∧ v12 = .int .i64 x12_1 ∧ Aside0 (check_More.l0 kq x5_1 l1 (l1.length : Int) x12_1 = some r) ∧ Aside0 (kq ≤ k) ∧ Aside0 (Below w.heap.size w w'))
 case atStart => exact ⟨(Go.bits .xor .u32 a0 4294967295), (0), srf, srf, H', ⟨Nat.le_refl _⟩, ⟨bel⟩⟩
 case round =>
  clear H'; (try clear c1); obtain ⟨x5_1, x12_1, rfl, rfl, HA, HK1, HB⟩ := hrel
  cases gk with
  | zero => exact absurd HA.out (by simp [check_More.l0])
  | succ k1 =>
   have H := HA.out; clear HA
   simp only [check_More.l0] at H
   by_cases c3 : x12_1 < (l1.length : Int)
   ·
    rw [if_pos c3] at H; have c3b0 : decide (x12_1 < (l1.length : Int)) = true := decide_eq_true c3; clear c3
    by_cases c4 : 0 ≤ x12_1
    ·
     rw [if_pos c4] at H; have c4b0 : decide (0 ≤ x12_1) = true := decide_eq_true c4; clear c4
     by_cases c5 : x12_1 < (l1.length : Int)
     ·
      rw [if_pos c5] at H; have c5b0 : decide (x12_1 < (l1.length : Int)) = true := decide_eq_true c5; clear c5; replace H := obm H; obtain ⟨t184, A60, H⟩ := H; have A6 := aS A60; clear A60
      have H' := aS H
      clear H; have p183 : 0 ≤ (x12_1 : Int) := oda; have q183 : x12_1 < (l1.length : Int) := oda; obtain ⟨ad183, e183, hx183_0⟩ := Kd.at_int HR1.out x12_1 p183 q183; cases e183; replace hx183_0 := bx bel hx183_0; replace p183 := eq_true p183; replace q183 := eq_true q183
      go_wp2_with (first | ((with_reducible refine gate_callee (f := 82) rfl ?_); refine goesL_ (some 18) rfl rfl Try.func82 (by kernel_rfl) rfl #[.int .u32 x5_1, .int .u8 (rd l1 x12_1)] rfl agn ?_; (with_reducible refine (check_word_eight.calls x5_1 (rd l1 x12_1) t184 _ A6.out).mono ?_); rintro e w7 ⟨rfl, hb⟩; refine ⟨_, rfl, ?_⟩; replace HB := bstep hb; (try clear hb); (try clear hk); (try clear hi)))
      go_roundg k1
      case measure => have := HK1.out; omega
      case rel => exact ⟨(t184), (wrap64 (x12_1 + 1)), srf, srf, H', ⟨by have := HK1.out; omega⟩, ⟨bel⟩⟩
     ·
      rw [if_neg c5] at H; exact absurd H (by simp)
    ·
     rw [if_neg c4] at H; exact absurd H (by simp)
   ·
    rw [if_neg c3] at H; have c3b0 : decide (x12_1 < (l1.length : Int)) = false := decide_eq_false c3; clear c3
    obtain rfl := Option.some.inj H
    go_wp2
    go_ret
    exact ⟨rf3, bel⟩

end Go.Proofs.Ytinhpolmanccgaa.X
