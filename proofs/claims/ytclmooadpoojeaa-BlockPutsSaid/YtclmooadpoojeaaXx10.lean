-- written by a program of this session's, over the kit's print
import Derived.Test.YtclmooadpoojeaaXx0
import Derived.Test.YtclmooadpoojeaaXx5
import Derived.Test.YtclmooadpoojeaaXx7
import Derived.Test.YtclmooadpoojeaaXx9
namespace Go.Proofs.Ytclmooadpoojeaa.X
open Go.RowKit Go.Proofs.YtclmooadpoojeaaW.PrintWords Go.Proofs.YtclmooadpoojeaaW.PrintLast Go.Proofs.YtclmooadpoojeaaW.PrintMore
attribute [local go_sem] max2_int min2_int max_two min_two max_three min_three max_four min_four gtr_str   -- for this text's walks alone
set_option linter.unusedVariables false
set_option linter.unusedSimpArgs false

/-! ### shardlogref02_Sum: function 45 -/
mutual
def shardlogref02_Sum.l0 : Nat → List Int → Int → Int → Option (Int)
 | 0, _, _, _ => none
 | k + 1, x0, x3, x4 => if x4 < (x0.length : Int) then (if 0 ≤ x4 then (shardlogref02_Sum.l1 k x0 (Go.bits .xor .u32 x3 ((rd x0 x4) % 4294967296)) x4 0) else (none)) else (some ((4294967295 - x3) % 4294967296))
def shardlogref02_Sum.l1 : Nat → List Int → Int → Int → Int → Option (Int)
 | 0, _, _, _, _ => none
 | k + 1, x0, x3, x4, x5 => if x5 < 8 then (if (Int.tmod x3 2) = 1 then (shardlogref02_Sum.l1 k x0 (Go.bits .xor .u32 ((Int.tdiv x3 2) % 4294967296) 2197175160) x4 (wrap64 (x5 + 1))) else (shardlogref02_Sum.l1 k x0 ((Int.tdiv x3 2) % 4294967296) x4 (wrap64 (x5 + 1)))) else (shardlogref02_Sum.l0 k x0 x3 (wrap64 (x4 + 1)))
end
def shardlogref02_Sum.f (k : Nat) (l0 : List Int) : Option (Int) := shardlogref02_Sum.l0 k l0 4294967295 0
theorem shardlogref02_Sum.mono_l : ∀ k, (∀ y0 y1 y2, LeO (shardlogref02_Sum.l0 k y0 y1 y2) (shardlogref02_Sum.l0 (k + 1) y0 y1 y2)) ∧ (∀ y0 y1 y2 y3, LeO (shardlogref02_Sum.l1 k y0 y1 y2 y3) (shardlogref02_Sum.l1 (k + 1) y0 y1 y2 y3))
 | 0 => ⟨fun _ _ _ r h => by simp [shardlogref02_Sum.l0] at h, fun _ _ _ _ r h => by simp [shardlogref02_Sum.l1] at h⟩
 | k + 1 => by
  obtain ⟨ih0, ih1⟩ := shardlogref02_Sum.mono_l k
  refine ⟨?_, ?_⟩
  ·
   intro y0 y1 y2
   unfold shardlogref02_Sum.l0
   repeat' first
   | (with_reducible exact ih0 _ _ _)
   | (with_reducible exact ih1 _ _ _ _)
   | (with_reducible exact LeO.refl _)
   | (with_reducible exact LeO.none _)
   | (with_reducible refine LeO.ite ?_ ?_)
   | (with_reducible refine LeO.bind ?_ (fun _ => ?_))
   | exact ih0 _ _ _
   | exact ih1 _ _ _ _
   | exact LeO.none _
   | refine LeO.ite ?_ ?_
   | refine LeO.bind ?_ (fun _ => ?_)
  ·
   intro y0 y1 y2 y3
   unfold shardlogref02_Sum.l1
   repeat' first
   | (with_reducible exact ih0 _ _ _)
   | (with_reducible exact ih1 _ _ _ _)
   | (with_reducible exact LeO.refl _)
   | (with_reducible exact LeO.none _)
   | (with_reducible refine LeO.ite ?_ ?_)
   | (with_reducible refine LeO.bind ?_ (fun _ => ?_))
   | exact ih0 _ _ _
   | exact ih1 _ _ _ _
   | exact LeO.none _
   | refine LeO.ite ?_ ?_
   | refine LeO.bind ?_ (fun _ => ?_)
theorem shardlogref02_Sum.mono : ∀ a0 k, LeO (shardlogref02_Sum.f k a0) (shardlogref02_Sum.f (k + 1) a0) := by
 intro a0 k
 obtain ⟨ih0, ih1⟩ := shardlogref02_Sum.mono_l k
 unfold shardlogref02_Sum.f
 repeat' first
   | (with_reducible exact ih0 _ _ _)
   | (with_reducible exact ih1 _ _ _ _)
   | (with_reducible exact LeO.refl _)
   | (with_reducible exact LeO.none _)
   | (with_reducible refine LeO.ite ?_ ?_)
   | (with_reducible refine LeO.bind ?_ (fun _ => ?_))
   | exact ih0 _ _ _
   | exact ih1 _ _ _ _
   | exact LeO.none _
   | refine LeO.ite ?_ ?_
   | refine LeO.bind ?_ (fun _ => ?_)
set_option maxHeartbeats 8000000 in
set_option maxRecDepth 100000 in
theorem shardlogref02_Sum.calls (k : Nat) (A0 : Option Addr) (c0 : Nat) (l0 : List Int) (r : Int) (w : World) (hr0 : Kd.C (Kd.int .u8) w A0 l0.length l0) (hc0 : l0.length ≤ c0) (h : shardlogref02_Sum.f k l0 = some r) :
  Calls Try.prog 45 #[.slice A0 l0.length c0] w fun e w' => e = .returned (.int .u32 r) ∧ Drawn0 w w' := by
 have HR0 := aS hr0
 have HC0 := aS hc0
 clear hr0 hc0
 have H : (shardlogref02_Sum.l0 k l0 4294967295 0) = some r := h
 clear h
 have H' := aS H
 clear H
 go_enter Try.func45, Try.ntmps45
 go_wp2
 go_loopg [3, 4] k (fun kq v3 v4 w' => ∃ (x3_1 : Int) (x4_1 : Int), v3 = .int .u32 x3_1 ∧ v4 = .int .i64 x4_1 ∧ Aside0 (shardlogref02_Sum.l0 kq l0 x3_1 x4_1 = some r) ∧ Aside0 (kq ≤ k) ∧ Drawn0 w w')
 case atStart => exact ⟨(4294967295), (0), (by first | rfl | (simp; done) | (simp [*]; done) | (simp; exact (by decide : ∀ a_ b_ : Bool, (a_ == b_) = (!a_ != b_)) _ _)), (by first | rfl | (simp; done) | (simp [*]; done) | (simp; exact (by decide : ∀ a_ b_ : Bool, (a_ == b_) = (!a_ != b_)) _ _)), H', ⟨Nat.le_refl _⟩, by repeat (first | exact Drawn0.refl _ | apply Drawn0.step)⟩
 case round =>
  clear H'
  obtain ⟨x3_1, x4_1, rfl, rfl, HA, HK1, ⟨m1, rfl⟩⟩ := hrel
  cases gk with
  | zero => exact absurd HA.out (by simp [shardlogref02_Sum.l0])
  | succ k1 =>
   have H := HA.out; clear HA
   simp only [shardlogref02_Sum.l0] at H
   by_cases c2 : x4_1 < (l0.length : Int)
   ·
    rw [if_pos c2] at H
    have c2b0 : decide (x4_1 < (l0.length : Int)) = true := decide_eq_true c2
    clear c2
    by_cases c3 : 0 ≤ x4_1
    ·
     rw [if_pos c3] at H
     have c3b0 : decide (0 ≤ x4_1) = true := decide_eq_true c3
     clear c3
     have H' := aS H
     clear H
     have p507 : 0 ≤ (x4_1 : Int) := odt (by first | (with_reducible assumption) | assumption)
     have q507 : x4_1 < (l0.length : Int) := odt (by first | (with_reducible assumption) | assumption)
     obtain ⟨ad507, e507, hx507_0⟩ := Kd.at_int HR0.out x4_1 p507 q507
     cases e507
     replace p507 := eq_true p507
     replace q507 := eq_true q507
     go_wp2
     go_loopg [3, 5] k1 (fun kq v3 v5 w' => ∃ (x3_2 : Int) (x5_2 : Int), v3 = .int .u32 x3_2 ∧ v5 = .int .i64 x5_2 ∧ Aside0 (shardlogref02_Sum.l1 kq l0 x3_2 x4_1 x5_2 = some r) ∧ Aside0 (kq ≤ k1) ∧ Drawn0 w w')
     case atStart => exact ⟨(Go.bits .xor .u32 x3_1 ((rd l0 x4_1) % 4294967296)), (0), (by first | rfl | (simp; done) | (simp [*]; done) | (simp; exact (by decide : ∀ a_ b_ : Bool, (a_ == b_) = (!a_ != b_)) _ _)), (by first | rfl | (simp; done) | (simp [*]; done) | (simp; exact (by decide : ∀ a_ b_ : Bool, (a_ == b_) = (!a_ != b_)) _ _)), H', ⟨Nat.le_refl _⟩, by repeat (first | exact Drawn0.refl _ | apply Drawn0.step)⟩
     case round =>
      clear H'; (try clear c2); (try clear c2b0); (try clear p2); (try clear c3); (try clear c3b0); (try clear hx507_0); (try clear p507); (try clear q507)
      obtain ⟨x3_2, x5_2, rfl, rfl, HA, HK2, ⟨m2, rfl⟩⟩ := hrel
      cases gk with
      | zero => exact absurd HA.out (by simp [shardlogref02_Sum.l1])
      | succ k2 =>
       have H := HA.out; clear HA
       simp only [shardlogref02_Sum.l1] at H
       by_cases c4 : x5_2 < 8
       ·
        rw [if_pos c4] at H
        have c4b0 : decide (x5_2 < 8) = true := decide_eq_true c4
        clear c4
        by_cases c5 : (Int.tmod x3_2 2) = 1
        ·
         rw [if_pos c5] at H
         have c5b0 : ((Int.tmod x3_2 2) == 1) = true := beq_iff_eq.mpr c5
         have c5b1 : ((Int.tmod x3_2 2) != 1) = false := bne_eq_false_iff_eq.mpr c5
         clear c5
         have H' := aS H
         clear H
         go_wp2
         go_roundg k2
         case measure => have := HK1.out; have := HK2.out; omega
         case rel => exact ⟨(Go.bits .xor .u32 ((Int.tdiv x3_2 2) % 4294967296) 2197175160), (wrap64 (x5_2 + 1)), (by first | rfl | (simp; done) | (simp [*]; done) | (simp; exact (by decide : ∀ a_ b_ : Bool, (a_ == b_) = (!a_ != b_)) _ _)), (by first | rfl | (simp; done) | (simp [*]; done) | (simp; exact (by decide : ∀ a_ b_ : Bool, (a_ == b_) = (!a_ != b_)) _ _)), H', ⟨by have := HK1.out; have := HK2.out; omega⟩, by repeat (first | exact Drawn0.refl _ | apply Drawn0.step)⟩
        ·
         rw [if_neg c5] at H
         have c5b0 : ((Int.tmod x3_2 2) == 1) = false := beq_eq_false_iff_ne.mpr c5
         have c5b1 : ((Int.tmod x3_2 2) != 1) = true := bne_iff_ne.mpr c5
         have H' := aS H
         clear H
         go_wp2
         go_roundg k2
         case measure => have := HK1.out; have := HK2.out; omega
         case rel => exact ⟨((Int.tdiv x3_2 2) % 4294967296), (wrap64 (x5_2 + 1)), (by first | rfl | (simp; done) | (simp [*]; done) | (simp; exact (by decide : ∀ a_ b_ : Bool, (a_ == b_) = (!a_ != b_)) _ _)), (by first | rfl | (simp; done) | (simp [*]; done) | (simp; exact (by decide : ∀ a_ b_ : Bool, (a_ == b_) = (!a_ != b_)) _ _)), H', ⟨by have := HK1.out; have := HK2.out; omega⟩, by repeat (first | exact Drawn0.refl _ | apply Drawn0.step)⟩
       ·
        rw [if_neg c4] at H
        have c4b0 : decide (x5_2 < 8) = false := decide_eq_false c4
        clear c4
        have H' := aS H
        clear H
        go_wp2
        go_roundg k2
        case measure => have := HK1.out; have := HK2.out; omega
        case rel => exact ⟨(x3_2), (wrap64 (x4_1 + 1)), (by first | rfl | (simp; done) | (simp [*]; done) | (simp; exact (by decide : ∀ a_ b_ : Bool, (a_ == b_) = (!a_ != b_)) _ _)), (by first | rfl | (simp; done) | (simp [*]; done) | (simp; exact (by decide : ∀ a_ b_ : Bool, (a_ == b_) = (!a_ != b_)) _ _)), H', ⟨by have := HK1.out; have := HK2.out; omega⟩, by repeat (first | exact Drawn0.refl _ | apply Drawn0.step)⟩
    ·
     rw [if_neg c3] at H
     exact absurd H (by simp)
   ·
    rw [if_neg c2] at H
    have c2b0 : decide (x4_1 < (l0.length : Int)) = false := decide_eq_false c2
    clear c2
    obtain rfl := Option.some.inj H
    go_wp2
    go_ret
    exact ⟨by first | rfl | (simp; done) | (simp [*]; done) | (simp; exact (by decide : ∀ a_ b_ : Bool, (a_ == b_) = (!a_ != b_)) _ _), by repeat (first | exact Drawn0.refl _ | apply Drawn0.step)⟩

/-! ### shardlogref06_Put: function 30 -/
def shardlogref06_Put.f (k : Nat) (l0 : List Int) : Option (List Int) := (shardlogref01_Num.f (l0.length : Int)).bind fun t508 => ((some (([] : List Int) : List Int)).bind fun y511 => (if y511.length + t508.length < 140737488355328 then ((some (y511 ++ t508 : List Int)).bind fun y514 => ((shardlogref02_Sum.f k t508).bind fun t517 => ((shardlogref01_Num.f (wrap64 (t517))).bind fun t518 => (if y514.length + t518.length < 140737488355328 then ((some (y514 ++ t518 : List Int)).bind fun y521 => ((shardlogref02_Sum.f k l0).bind fun t524 => ((shardlogref01_Num.f (wrap64 (t524))).bind fun t525 => (if y521.length + t525.length < 140737488355328 then ((some (y521 ++ t525 : List Int)).bind fun y528 => (if y528.length + l0.length < 140737488355328 then (some (y528 ++ l0)) else (none))) else (none))))) else (none))))) else (none)))
theorem shardlogref06_Put.mono : ∀ a0 k, LeO (shardlogref06_Put.f k a0) (shardlogref06_Put.f (k + 1) a0) := by
 intro a0 k
 unfold shardlogref06_Put.f
 repeat' first
   | (with_reducible exact shardlogref02_Sum.mono _ _)
   | (with_reducible exact LeO.refl _)
   | (with_reducible exact LeO.none _)
   | (with_reducible refine LeO.ite ?_ ?_)
   | (with_reducible refine LeO.bind ?_ (fun _ => ?_))
   | exact shardlogref02_Sum.mono _ _
   | exact LeO.none _
   | refine LeO.ite ?_ ?_
   | refine LeO.bind ?_ (fun _ => ?_)
set_option maxHeartbeats 8000000 in
set_option maxRecDepth 100000 in
theorem shardlogref06_Put.calls (k : Nat) (A0 : Option Addr) (c0 : Nat) (l0 : List Int) (r : List Int) (w : World) (hr0 : Kd.C (Kd.int .u8) w A0 l0.length l0) (hc0 : l0.length ≤ c0) (h : shardlogref06_Put.f k l0 = some r) :
  Calls Try.prog 30 #[.slice A0 l0.length c0] w fun e w' => ∃ v0_ : Value, e = .returned (v0_) ∧ Kd.R (Kd.int .u8) 5 w' w.heap.size (fun _ => True) v0_ r ∧ Below w.heap.size w w' := by
 have HR0 := aS hr0
 have HC0 := aS hc0
 clear hr0 hc0
 have HB := aS (Below.refl w.heap.size w)
 have H : ((shardlogref01_Num.f (l0.length : Int)).bind fun t508 => ((some (([] : List Int) : List Int)).bind fun y511 => (if y511.length + t508.length < 140737488355328 then ((some (y511 ++ t508 : List Int)).bind fun y514 => ((shardlogref02_Sum.f k t508).bind fun t517 => ((shardlogref01_Num.f (wrap64 (t517))).bind fun t518 => (if y514.length + t518.length < 140737488355328 then ((some (y514 ++ t518 : List Int)).bind fun y521 => ((shardlogref02_Sum.f k l0).bind fun t524 => ((shardlogref01_Num.f (wrap64 (t524))).bind fun t525 => (if y521.length + t525.length < 140737488355328 then ((some (y521 ++ t525 : List Int)).bind fun y528 => (if y528.length + l0.length < 140737488355328 then (some (y528 ++ l0)) else (none))) else (none))))) else (none))))) else (none)))) = some r := h
 clear h
 replace H := obm H
 obtain ⟨t508, A20, H⟩ := H
 replace H : ((some (([] : List Int) : List Int)).bind fun y511 => (if y511.length + t508.length < 140737488355328 then ((some (y511 ++ t508 : List Int)).bind fun y514 => ((shardlogref02_Sum.f k t508).bind fun t517 => ((shardlogref01_Num.f (wrap64 (t517))).bind fun t518 => (if y514.length + t518.length < 140737488355328 then ((some (y514 ++ t518 : List Int)).bind fun y521 => ((shardlogref02_Sum.f k l0).bind fun t524 => ((shardlogref01_Num.f (wrap64 (t524))).bind fun t525 => (if y521.length + t525.length < 140737488355328 then ((some (y521 ++ t525 : List Int)).bind fun y528 => (if y528.length + l0.length < 140737488355328 then (some (y528 ++ l0)) else (none))) else (none))))) else (none))))) else (none))) = some r := H
 have A2 := aS A20
 clear A20
 obtain ⟨y511, hy511⟩ : ∃ y_ : List Int, y_ = (([] : List Int)) := ⟨_, rfl⟩
 replace H : (if y511.length + t508.length < 140737488355328 then ((some (y511 ++ t508 : List Int)).bind fun y514 => ((shardlogref02_Sum.f k t508).bind fun t517 => ((shardlogref01_Num.f (wrap64 (t517))).bind fun t518 => (if y514.length + t518.length < 140737488355328 then ((some (y514 ++ t518 : List Int)).bind fun y521 => ((shardlogref02_Sum.f k l0).bind fun t524 => ((shardlogref01_Num.f (wrap64 (t524))).bind fun t525 => (if y521.length + t525.length < 140737488355328 then ((some (y521 ++ t525 : List Int)).bind fun y528 => (if y528.length + l0.length < 140737488355328 then (some (y528 ++ l0)) else (none))) else (none))))) else (none))))) else (none)) = some r := by first | (rw [hy511]; with_reducible exact H) | (have H2_ := (Option.bind_some _ _).symm.trans H; rw [hy511]; with_reducible exact H2_) | (have H2_ := (Option.bind_some _ _).symm.trans H; with_reducible exact H2_) | with_reducible exact H | (rw [hy511]; exact H) | exact H
 have Ny511 := aS hy511
 clear hy511
 by_cases c3 : y511.length + t508.length < 140737488355328
 ·
  rw [if_pos c3] at H
  have LMc3 := aS c3
  clear c3
  obtain ⟨y514, hy514⟩ : ∃ y_ : List Int, y_ = (y511 ++ t508) := ⟨_, rfl⟩
  replace H : ((shardlogref02_Sum.f k t508).bind fun t517 => ((shardlogref01_Num.f (wrap64 (t517))).bind fun t518 => (if y514.length + t518.length < 140737488355328 then ((some (y514 ++ t518 : List Int)).bind fun y521 => ((shardlogref02_Sum.f k l0).bind fun t524 => ((shardlogref01_Num.f (wrap64 (t524))).bind fun t525 => (if y521.length + t525.length < 140737488355328 then ((some (y521 ++ t525 : List Int)).bind fun y528 => (if y528.length + l0.length < 140737488355328 then (some (y528 ++ l0)) else (none))) else (none))))) else (none)))) = some r := by first | (rw [hy514]; with_reducible exact H) | (have H2_ := (Option.bind_some _ _).symm.trans H; rw [hy514]; with_reducible exact H2_) | (have H2_ := (Option.bind_some _ _).symm.trans H; with_reducible exact H2_) | with_reducible exact H | (rw [hy514]; exact H) | exact H
  have Ny514 := aS hy514
  clear hy514
  replace H := obm H
  obtain ⟨t517, A40, H⟩ := H
  replace H : ((shardlogref01_Num.f (wrap64 (t517))).bind fun t518 => (if y514.length + t518.length < 140737488355328 then ((some (y514 ++ t518 : List Int)).bind fun y521 => ((shardlogref02_Sum.f k l0).bind fun t524 => ((shardlogref01_Num.f (wrap64 (t524))).bind fun t525 => (if y521.length + t525.length < 140737488355328 then ((some (y521 ++ t525 : List Int)).bind fun y528 => (if y528.length + l0.length < 140737488355328 then (some (y528 ++ l0)) else (none))) else (none))))) else (none))) = some r := H
  have A4 := aS A40
  clear A40
  replace H := obm H
  obtain ⟨t518, A50, H⟩ := H
  replace H : (if y514.length + t518.length < 140737488355328 then ((some (y514 ++ t518 : List Int)).bind fun y521 => ((shardlogref02_Sum.f k l0).bind fun t524 => ((shardlogref01_Num.f (wrap64 (t524))).bind fun t525 => (if y521.length + t525.length < 140737488355328 then ((some (y521 ++ t525 : List Int)).bind fun y528 => (if y528.length + l0.length < 140737488355328 then (some (y528 ++ l0)) else (none))) else (none))))) else (none)) = some r := H
  have A5 := aS A50
  clear A50
  by_cases c6 : y514.length + t518.length < 140737488355328
  ·
   rw [if_pos c6] at H
   have LMc6 := aS c6
   clear c6
   obtain ⟨y521, hy521⟩ : ∃ y_ : List Int, y_ = (y514 ++ t518) := ⟨_, rfl⟩
   replace H : ((shardlogref02_Sum.f k l0).bind fun t524 => ((shardlogref01_Num.f (wrap64 (t524))).bind fun t525 => (if y521.length + t525.length < 140737488355328 then ((some (y521 ++ t525 : List Int)).bind fun y528 => (if y528.length + l0.length < 140737488355328 then (some (y528 ++ l0)) else (none))) else (none)))) = some r := by first | (rw [hy521]; with_reducible exact H) | (have H2_ := (Option.bind_some _ _).symm.trans H; rw [hy521]; with_reducible exact H2_) | (have H2_ := (Option.bind_some _ _).symm.trans H; with_reducible exact H2_) | with_reducible exact H | (rw [hy521]; exact H) | exact H
   have Ny521 := aS hy521
   clear hy521
   replace H := obm H
   obtain ⟨t524, A70, H⟩ := H
   replace H : ((shardlogref01_Num.f (wrap64 (t524))).bind fun t525 => (if y521.length + t525.length < 140737488355328 then ((some (y521 ++ t525 : List Int)).bind fun y528 => (if y528.length + l0.length < 140737488355328 then (some (y528 ++ l0)) else (none))) else (none))) = some r := H
   have A7 := aS A70
   clear A70
   replace H := obm H
   obtain ⟨t525, A80, H⟩ := H
   replace H : (if y521.length + t525.length < 140737488355328 then ((some (y521 ++ t525 : List Int)).bind fun y528 => (if y528.length + l0.length < 140737488355328 then (some (y528 ++ l0)) else (none))) else (none)) = some r := H
   have A8 := aS A80
   clear A80
   by_cases c9 : y521.length + t525.length < 140737488355328
   ·
    rw [if_pos c9] at H
    have LMc9 := aS c9
    clear c9
    obtain ⟨y528, hy528⟩ : ∃ y_ : List Int, y_ = (y521 ++ t525) := ⟨_, rfl⟩
    replace H : (if y528.length + l0.length < 140737488355328 then (some (y528 ++ l0)) else (none)) = some r := by first | (rw [hy528]; with_reducible exact H) | (have H2_ := (Option.bind_some _ _).symm.trans H; rw [hy528]; with_reducible exact H2_) | (have H2_ := (Option.bind_some _ _).symm.trans H; with_reducible exact H2_) | with_reducible exact H | (rw [hy528]; exact H) | exact H
    have Ny528 := aS hy528
    clear hy528
    by_cases c10 : y528.length + l0.length < 140737488355328
    ·
     rw [if_pos c10] at H
     have LMc10 := aS c10
     clear c10
     obtain ⟨y531, hy531⟩ : ∃ y_ : List Int, y_ = (y528 ++ l0) := ⟨_, rfl⟩
     replace H : (some y531) = some r := by first | (rw [hy531]; with_reducible exact H) | (have H2_ := (Option.bind_some _ _).symm.trans H; rw [hy531]; with_reducible exact H2_) | (have H2_ := (Option.bind_some _ _).symm.trans H; with_reducible exact H2_) | with_reducible exact H | (rw [hy531]; exact H) | exact H
     have Ny531 := aS hy531
     clear hy531
     obtain rfl := Option.some.inj H
     go_enter Try.func30, Try.ntmps30
     go_wp2_with (first | ((with_reducible refine gate_callee (f := 29) rfl ?_); refine goesL_ (some 7) rfl rfl Try.func29 (by kernel_rfl) rfl #[.int .i64 (l0.length : Int)] rfl (by (try simp only [List.map_toArray, List.map_cons, List.map_nil]); first | done | rfl | (simp only [lld, llt]; rfl)) ?_; (with_reducible refine (shardlogref01_Num.calls (l0.length : Int) t508 _ A2.out).mono ?_); rintro e w11 ⟨v509, rfl, ho0, hb⟩; refine ⟨_, rfl, ?_⟩; have n0_ := aS (Kd.R_lower ho0 (below_size (by repeat (first | (with_reducible first | exact HB.out | apply bal | apply bdN | apply bdo) | exact HB.out)))); have n1_ := aS (below_step (by repeat (first | (with_reducible first | exact HB.out | apply bal | apply bdN | apply bdo) | exact HB.out)) hb); clear HB; have HO510 := n0_; have HB := n1_; clear n0_ n1_; (try clear hb); (try clear hb2); (try clear hk); (try clear hi); (try clear ho0)) | ((with_reducible refine gate_dst (N := 8) rfl ?_); refine Kd.R_lit (Kd.int .u8) _ 5 ?hg (N := 8) ?hd (xs := ([] : List Int)) (inner := []) (ok := fun _ => True) (okp := fun _ => True) ?hr ?hp (fun _ hk => hk) trivial (Below.refl _ _) (Nat.le_refl _) (by simp) ?_; (case hd => rfl); (case hg => rfl); (case hr => first | (go_simp; done) | (go_simp; rfl)); (case hp => exact (Reps.none _ _)); intro v512 w12 ho13 hb hg_ hnew_; clear hg_ hnew_; (first | rw [← Ny511.out] at ho13 | (simp only [Int.reduceToNat] at ho13; rw [← Ny511.out] at ho13)); have n0_ := aS (Kd.R_elder' (by (with_reducible repeat (first | apply Kd.R_alloc | apply Kd.R_drewN | apply Kd.R_drew)); exact HO510.out) (by first | exact Kd.R_base ho13 | exact Kd.S_base ho13 | exact Kd.R_base ho13 | exact Kd.V_base ho13) hb); have n1_ := aS (Kd.R_lower (Kd.R_new' ho13 (Kd.R_lt (by (with_reducible repeat (first | apply Kd.R_alloc | apply Kd.R_drewN | apply Kd.R_drew)); exact HO510.out))) (below_size (by repeat (first | (with_reducible first | exact HB.out | apply bal | apply bdN | apply bdo) | exact HB.out)))); have n2_ := aS (below_step (by repeat (first | (with_reducible first | exact HB.out | apply bal | apply bdN | apply bdo) | exact HB.out)) hb); clear HO510; clear HB; have HO510 := n0_; have HO513 := n1_; have HB := n2_; clear n0_ n1_ n2_; clear hb ho13; obtain ⟨Ao15, co15, eo15⟩ := Kd.R_slice HO510.out; subst eo15) | ((with_reducible refine gate_builtin (b := .append) (xs := #[.tmp 8, .tmp 9]) rfl ?_); at_builtin; refine Kd.R_append_rows (Kd.int .u8) (w0 := w) w.heap.size rfl (.tmp 8) (.tmp 9) 33 5 (.int .u8 0) 1 rfl Try.underlying33 info5 rfl (by decide) (by omega) v512 y511 t508 _ _ _ (fun k_ => some k_ ≠ (.slice Ao15 t508.length co15 : Value).ownBlock) (fun _ => False) rfl rfl ?aO ?aR (fun _ _ h => h) (fun _ h => h.elim) ?aF ?aB ?aS ?aL ?_; (case aR => repeat (first | exact (Kd.R_reads' HO510.out).2.2 | (with_reducible refine Kd.C_alloc ?_ _) | (with_reducible refine Kd.C_drewN ?_ _) | (with_reducible refine Kd.C_drew ?_))); (case aB => exact (by repeat (first | (with_reducible first | exact HB.out | apply bal | apply bdN | apply bdo) | exact HB.out))); (case aF => exact (fun k_ hk => Kd.fresh' (Kd.R_lt (by (with_reducible repeat (first | apply Kd.R_alloc | apply Kd.R_drewN | apply Kd.R_drew)); exact HO510.out)) k_ hk)); (case aO => exact (by (with_reducible repeat (first | apply Kd.R_alloc | apply Kd.R_drewN | apply Kd.R_drew)); exact Kd.R_mono HO513.out (fun _ hk => hk.2))); (case aS => exact (below_size (by repeat (first | (with_reducible first | exact HB.out | apply bal | apply bdN | apply bdo) | exact HB.out)))); (case aL => have := LMc3.out; omega); intro v515 w14 ho hb hg hat; rw [← Ny514.out] at ho; have n0_ := aS (Kd.R_after (ok := (fun _ => True)) (by (with_reducible repeat (first | apply Kd.R_alloc | apply Kd.R_drewN | apply Kd.R_drew)); exact HO510.out) hg hat); have n1_ := aS (hb); have n2_ := aS (ho); clear HO510; clear HB; clear HO513; have HO510 := n0_; have HB := n1_; have HO516 := n2_; clear n0_ n1_ n2_; clear ho hb hg hat) | ((with_reducible refine gate_callee (f := 45) rfl ?_); refine goesL_ (some 12) rfl rfl Try.func45 (by kernel_rfl) rfl #[.slice Ao15 t508.length co15] rfl (by (try simp only [List.map_toArray, List.map_cons, List.map_nil]); first | done | rfl | (simp only [lld, llt]; rfl)) ?_; (with_reducible refine (shardlogref02_Sum.calls k _ _ t508 t517 _ ?side1 ?side2 A4.out).mono ?_); (case side1 => repeat (first | exact (Kd.R_reads' HO510.out).2.2 | (with_reducible refine Kd.C_alloc ?_ _) | (with_reducible refine Kd.C_drewN ?_ _) | (with_reducible refine Kd.C_drew ?_))); (case side2 => exact (Kd.R_reads' HO510.out).2.1); rintro e w' ⟨rfl, ⟨nd, rfl⟩⟩; refine ⟨_, rfl, ?_⟩) | ((with_reducible refine gate_callee (f := 29) rfl ?_); refine goesL_ (some 14) rfl rfl Try.func29 (by kernel_rfl) rfl #[.int .i64 (wrap64 (t517))] rfl (by (try simp only [List.map_toArray, List.map_cons, List.map_nil]); first | done | rfl | (simp only [lld, llt]; rfl)) ?_; (with_reducible refine (shardlogref01_Num.calls (wrap64 (t517)) t518 _ A5.out).mono ?_); rintro e w16 ⟨v519, rfl, ho0, hb⟩; refine ⟨_, rfl, ?_⟩; have n0_ := aS (Kd.R_elder' (by (with_reducible repeat (first | apply Kd.R_alloc | apply Kd.R_drewN | apply Kd.R_drew)); exact HO510.out) (by first | exact Kd.R_base ho0 | exact Kd.S_base ho0 | exact Kd.R_base ho0 | exact Kd.V_base ho0) hb); have n1_ := aS (Kd.R_elder' (by (with_reducible repeat (first | apply Kd.R_alloc | apply Kd.R_drewN | apply Kd.R_drew)); exact HO516.out) (by first | exact Kd.R_base ho0 | exact Kd.S_base ho0 | exact Kd.R_base ho0 | exact Kd.V_base ho0) hb); have n2_ := aS (Kd.R_lower (Kd.R_new' (Kd.R_new' ho0 (Kd.R_lt (by (with_reducible repeat (first | apply Kd.R_alloc | apply Kd.R_drewN | apply Kd.R_drew)); exact HO510.out))) (Kd.R_lt (by (with_reducible repeat (first | apply Kd.R_alloc | apply Kd.R_drewN | apply Kd.R_drew)); exact HO516.out))) (below_size (by repeat (first | (with_reducible first | exact HB.out | apply bal | apply bdN | apply bdo) | exact HB.out)))); have n3_ := aS (below_step (by repeat (first | (with_reducible first | exact HB.out | apply bal | apply bdN | apply bdo) | exact HB.out)) hb); clear HO510; clear HO516; clear HB; have HO510 := n0_; have HO516 := n1_; have HO520 := n2_; have HB := n3_; clear n0_ n1_ n2_ n3_; (try clear hb); (try clear hb2); (try clear hk); (try clear hi); (try clear ho0); obtain ⟨Ao18, co18, eo18⟩ := Kd.R_slice HO520.out; subst eo18) | ((with_reducible refine gate_builtin (b := .append) (xs := #[.tmp 10, .tmp 14]) rfl ?_); at_builtin; refine Kd.R_append_rows (Kd.int .u8) (w0 := w) w.heap.size rfl (.tmp 10) (.tmp 14) 33 5 (.int .u8 0) 1 rfl Try.underlying33 info5 rfl (by decide) (by omega) v515 y514 t518 _ _ _ (fun k_ => some k_ ≠ (.slice Ao15 t508.length co15 : Value).ownBlock ∧ some k_ ≠ (.slice Ao18 t518.length co18 : Value).ownBlock) (fun _ => False) rfl rfl ?aO ?aR (fun _ _ h => h) (fun _ h => h.elim) ?aF ?aB ?aS ?aL ?_; (case aR => repeat (first | exact (Kd.R_reads' HO520.out).2.2 | (with_reducible refine Kd.C_alloc ?_ _) | (with_reducible refine Kd.C_drewN ?_ _) | (with_reducible refine Kd.C_drew ?_))); (case aB => exact (by repeat (first | (with_reducible first | exact HB.out | apply bal | apply bdN | apply bdo) | exact HB.out))); (case aF => exact (fun k_ hk => ⟨Kd.fresh' (Kd.R_lt (by (with_reducible repeat (first | apply Kd.R_alloc | apply Kd.R_drewN | apply Kd.R_drew)); exact HO510.out)) k_ hk, Kd.fresh' (Kd.R_lt (by (with_reducible repeat (first | apply Kd.R_alloc | apply Kd.R_drewN | apply Kd.R_drew)); exact HO520.out)) k_ hk⟩)); (case aO => exact (by (with_reducible repeat (first | apply Kd.R_alloc | apply Kd.R_drewN | apply Kd.R_drew)); exact HO516.out)); (case aS => exact (below_size (by repeat (first | (with_reducible first | exact HB.out | apply bal | apply bdN | apply bdo) | exact HB.out)))); (case aL => have := LMc6.out; omega); intro v522 w17 ho hb hg hat; rw [← Ny521.out] at ho; have n0_ := aS (Kd.R_after (ok := (fun k_ => some k_ ≠ (.slice Ao18 t518.length co18 : Value).ownBlock)) (by (with_reducible repeat (first | apply Kd.R_alloc | apply Kd.R_drewN | apply Kd.R_drew)); exact Kd.R_mono HO510.out (fun _ hk => ⟨hk.2, hk.1.2⟩)) hg hat); have n1_ := aS (Kd.R_after (ok := (fun k_ => some k_ ≠ (.slice Ao15 t508.length co15 : Value).ownBlock)) (by (with_reducible repeat (first | apply Kd.R_alloc | apply Kd.R_drewN | apply Kd.R_drew)); exact Kd.R_mono HO520.out (fun _ hk => ⟨hk.1.2, hk.2⟩)) hg hat); have n2_ := aS (hb); have n3_ := aS (ho); clear HO510; clear HO520; clear HB; clear HO516; have HO510 := n0_; have HO520 := n1_; have HB := n2_; have HO523 := n3_; clear n0_ n1_ n2_ n3_; clear ho hb hg hat) | ((with_reducible refine gate_callee (f := 45) rfl ?_); refine goesL_ (some 18) rfl rfl Try.func45 (by kernel_rfl) rfl #[.slice A0 l0.length c0] rfl (by (try simp only [List.map_toArray, List.map_cons, List.map_nil]); first | done | rfl | (simp only [lld, llt]; rfl)) ?_; (with_reducible refine (shardlogref02_Sum.calls k _ _ l0 t524 _ ?side1 ?side2 A7.out).mono ?_); (case side1 => repeat (first | exact (Kd.C_below HR0.out HB.out) | (with_reducible refine Kd.C_alloc ?_ _) | (with_reducible refine Kd.C_drewN ?_ _) | (with_reducible refine Kd.C_drew ?_))); (case side2 => exact HC0.out); rintro e w' ⟨rfl, ⟨nd, rfl⟩⟩; refine ⟨_, rfl, ?_⟩) | ((with_reducible refine gate_callee (f := 29) rfl ?_); refine goesL_ (some 20) rfl rfl Try.func29 (by kernel_rfl) rfl #[.int .i64 (wrap64 (t524))] rfl (by (try simp only [List.map_toArray, List.map_cons, List.map_nil]); first | done | rfl | (simp only [lld, llt]; rfl)) ?_; (with_reducible refine (shardlogref01_Num.calls (wrap64 (t524)) t525 _ A8.out).mono ?_); rintro e w19 ⟨v526, rfl, ho0, hb⟩; refine ⟨_, rfl, ?_⟩; have n0_ := aS (Kd.R_elder' (by (with_reducible repeat (first | apply Kd.R_alloc | apply Kd.R_drewN | apply Kd.R_drew)); exact HO510.out) (by first | exact Kd.R_base ho0 | exact Kd.S_base ho0 | exact Kd.R_base ho0 | exact Kd.V_base ho0) hb); have n1_ := aS (Kd.R_elder' (by (with_reducible repeat (first | apply Kd.R_alloc | apply Kd.R_drewN | apply Kd.R_drew)); exact HO520.out) (by first | exact Kd.R_base ho0 | exact Kd.S_base ho0 | exact Kd.R_base ho0 | exact Kd.V_base ho0) hb); have n2_ := aS (Kd.R_elder' (by (with_reducible repeat (first | apply Kd.R_alloc | apply Kd.R_drewN | apply Kd.R_drew)); exact HO523.out) (by first | exact Kd.R_base ho0 | exact Kd.S_base ho0 | exact Kd.R_base ho0 | exact Kd.V_base ho0) hb); have n3_ := aS (Kd.R_lower (Kd.R_new' (Kd.R_new' (Kd.R_new' ho0 (Kd.R_lt (by (with_reducible repeat (first | apply Kd.R_alloc | apply Kd.R_drewN | apply Kd.R_drew)); exact HO510.out))) (Kd.R_lt (by (with_reducible repeat (first | apply Kd.R_alloc | apply Kd.R_drewN | apply Kd.R_drew)); exact HO520.out))) (Kd.R_lt (by (with_reducible repeat (first | apply Kd.R_alloc | apply Kd.R_drewN | apply Kd.R_drew)); exact HO523.out))) (below_size (by repeat (first | (with_reducible first | exact HB.out | apply bal | apply bdN | apply bdo) | exact HB.out)))); have n4_ := aS (below_step (by repeat (first | (with_reducible first | exact HB.out | apply bal | apply bdN | apply bdo) | exact HB.out)) hb); clear HO510; clear HO520; clear HO523; clear HB; have HO510 := n0_; have HO520 := n1_; have HO523 := n2_; have HO527 := n3_; have HB := n4_; clear n0_ n1_ n2_ n3_ n4_; (try clear hb); (try clear hb2); (try clear hk); (try clear hi); (try clear ho0); obtain ⟨Ao21, co21, eo21⟩ := Kd.R_slice HO527.out; subst eo21) | ((with_reducible refine gate_builtin (b := .append) (xs := #[.tmp 16, .tmp 20]) rfl ?_); at_builtin; refine Kd.R_append_rows (Kd.int .u8) (w0 := w) w.heap.size rfl (.tmp 16) (.tmp 20) 33 5 (.int .u8 0) 1 rfl Try.underlying33 info5 rfl (by decide) (by omega) v522 y521 t525 _ _ _ (fun k_ => some k_ ≠ (.slice Ao15 t508.length co15 : Value).ownBlock ∧ some k_ ≠ (.slice Ao18 t518.length co18 : Value).ownBlock ∧ some k_ ≠ (.slice Ao21 t525.length co21 : Value).ownBlock) (fun _ => False) rfl rfl ?aO ?aR (fun _ _ h => h) (fun _ h => h.elim) ?aF ?aB ?aS ?aL ?_; (case aR => repeat (first | exact (Kd.R_reads' HO527.out).2.2 | (with_reducible refine Kd.C_alloc ?_ _) | (with_reducible refine Kd.C_drewN ?_ _) | (with_reducible refine Kd.C_drew ?_))); (case aB => exact (by repeat (first | (with_reducible first | exact HB.out | apply bal | apply bdN | apply bdo) | exact HB.out))); (case aF => exact (fun k_ hk => ⟨Kd.fresh' (Kd.R_lt (by (with_reducible repeat (first | apply Kd.R_alloc | apply Kd.R_drewN | apply Kd.R_drew)); exact HO510.out)) k_ hk, Kd.fresh' (Kd.R_lt (by (with_reducible repeat (first | apply Kd.R_alloc | apply Kd.R_drewN | apply Kd.R_drew)); exact HO520.out)) k_ hk, Kd.fresh' (Kd.R_lt (by (with_reducible repeat (first | apply Kd.R_alloc | apply Kd.R_drewN | apply Kd.R_drew)); exact HO527.out)) k_ hk⟩)); (case aO => exact (by (with_reducible repeat (first | apply Kd.R_alloc | apply Kd.R_drewN | apply Kd.R_drew)); exact Kd.R_mono HO523.out (fun _ hk => ⟨hk.1.1, ⟨hk.1.2, hk.2⟩⟩))); (case aS => exact (below_size (by repeat (first | (with_reducible first | exact HB.out | apply bal | apply bdN | apply bdo) | exact HB.out)))); (case aL => have := LMc9.out; omega); intro v529 w20 ho hb hg hat; rw [← Ny528.out] at ho; have n0_ := aS (Kd.R_after (ok := (fun k_ => some k_ ≠ (.slice Ao18 t518.length co18 : Value).ownBlock ∧ some k_ ≠ (.slice Ao21 t525.length co21 : Value).ownBlock)) (by (with_reducible repeat (first | apply Kd.R_alloc | apply Kd.R_drewN | apply Kd.R_drew)); exact Kd.R_mono HO510.out (fun _ hk => ⟨⟨hk.1.1, hk.2⟩, hk.1.2⟩)) hg hat); have n1_ := aS (Kd.R_after (ok := (fun k_ => some k_ ≠ (.slice Ao15 t508.length co15 : Value).ownBlock ∧ some k_ ≠ (.slice Ao21 t525.length co21 : Value).ownBlock)) (by (with_reducible repeat (first | apply Kd.R_alloc | apply Kd.R_drewN | apply Kd.R_drew)); exact Kd.R_mono HO520.out (fun _ hk => ⟨⟨hk.1.1, hk.2⟩, hk.1.2⟩)) hg hat); have n2_ := aS (Kd.R_after (ok := (fun k_ => some k_ ≠ (.slice Ao15 t508.length co15 : Value).ownBlock ∧ some k_ ≠ (.slice Ao18 t518.length co18 : Value).ownBlock)) (by (with_reducible repeat (first | apply Kd.R_alloc | apply Kd.R_drewN | apply Kd.R_drew)); exact Kd.R_mono HO527.out (fun _ hk => ⟨⟨hk.1.1.2, hk.1.2⟩, hk.2⟩)) hg hat); have n3_ := aS (hb); have n4_ := aS (ho); clear HO510; clear HO520; clear HO527; clear HB; clear HO523; have HO510 := n0_; have HO520 := n1_; have HO527 := n2_; have HB := n3_; have HO530 := n4_; clear n0_ n1_ n2_ n3_ n4_; clear ho hb hg hat) | ((with_reducible refine gate_builtin (b := .append) (xs := #[.tmp 22, .tmp 23]) rfl ?_); at_builtin; refine Kd.R_append_rows (Kd.int .u8) (w0 := w) w.heap.size rfl (.tmp 22) (.tmp 23) 33 5 (.int .u8 0) 1 rfl Try.underlying33 info5 rfl (by decide) (by omega) v529 y528 l0 _ _ _ (fun k_ => some k_ ≠ (.slice Ao15 t508.length co15 : Value).ownBlock ∧ some k_ ≠ (.slice Ao18 t518.length co18 : Value).ownBlock ∧ some k_ ≠ (.slice Ao21 t525.length co21 : Value).ownBlock) (fun _ => False) rfl rfl ?aO ?aR (fun _ _ h => h) (fun _ h => h.elim) ?aF ?aB ?aS ?aL ?_; (case aR => repeat (first | exact (Kd.C_below HR0.out HB.out) | (with_reducible refine Kd.C_alloc ?_ _) | (with_reducible refine Kd.C_drewN ?_ _) | (with_reducible refine Kd.C_drew ?_))); (case aB => exact (by repeat (first | (with_reducible first | exact HB.out | apply bal | apply bdN | apply bdo) | exact HB.out))); (case aF => exact (fun k_ hk => ⟨Kd.fresh' (Kd.R_lt (by (with_reducible repeat (first | apply Kd.R_alloc | apply Kd.R_drewN | apply Kd.R_drew)); exact HO510.out)) k_ hk, Kd.fresh' (Kd.R_lt (by (with_reducible repeat (first | apply Kd.R_alloc | apply Kd.R_drewN | apply Kd.R_drew)); exact HO520.out)) k_ hk, Kd.fresh' (Kd.R_lt (by (with_reducible repeat (first | apply Kd.R_alloc | apply Kd.R_drewN | apply Kd.R_drew)); exact HO527.out)) k_ hk⟩)); (case aO => exact (by (with_reducible repeat (first | apply Kd.R_alloc | apply Kd.R_drewN | apply Kd.R_drew)); exact HO530.out)); (case aS => exact (below_size (by repeat (first | (with_reducible first | exact HB.out | apply bal | apply bdN | apply bdo) | exact HB.out)))); (case aL => have := LMc10.out; omega); intro v532 w22 ho hb hg hat; rw [← Ny531.out] at ho; have n0_ := aS (Kd.R_after (ok := (fun k_ => some k_ ≠ (.slice Ao18 t518.length co18 : Value).ownBlock ∧ some k_ ≠ (.slice Ao21 t525.length co21 : Value).ownBlock)) (by (with_reducible repeat (first | apply Kd.R_alloc | apply Kd.R_drewN | apply Kd.R_drew)); exact HO510.out) hg hat); have n1_ := aS (Kd.R_after (ok := (fun k_ => some k_ ≠ (.slice Ao15 t508.length co15 : Value).ownBlock ∧ some k_ ≠ (.slice Ao21 t525.length co21 : Value).ownBlock)) (by (with_reducible repeat (first | apply Kd.R_alloc | apply Kd.R_drewN | apply Kd.R_drew)); exact HO520.out) hg hat); have n2_ := aS (Kd.R_after (ok := (fun k_ => some k_ ≠ (.slice Ao15 t508.length co15 : Value).ownBlock ∧ some k_ ≠ (.slice Ao18 t518.length co18 : Value).ownBlock)) (by (with_reducible repeat (first | apply Kd.R_alloc | apply Kd.R_drewN | apply Kd.R_drew)); exact HO527.out) hg hat); have n3_ := aS (hb); have n4_ := aS (ho); clear HO510; clear HO520; clear HO527; clear HB; clear HO530; have HO510 := n0_; have HO520 := n1_; have HO527 := n2_; have HB := n3_; have HO533 := n4_; clear n0_ n1_ n2_ n3_ n4_; clear ho hb hg hat))
     go_ret
     exact ⟨_, by first | rfl | (simp [errW_none, errW_some] <;> rfl) | (simp [*, errW_none, errW_some] <;> rfl), by (with_reducible repeat (first | apply Kd.R_alloc | apply Kd.R_drewN | apply Kd.R_drew)); exact Kd.R_mono HO533.out (fun _ hk => trivial), by repeat (first | (with_reducible first | exact HB.out | apply bal | apply bdN | apply bdo) | exact HB.out)⟩
    ·
     rw [if_neg c10] at H
     exact absurd H (by simp)
   ·
    rw [if_neg c9] at H
    exact absurd H (by simp)
  ·
   rw [if_neg c6] at H
   exact absurd H (by simp)
 ·
  rw [if_neg c3] at H
  exact absurd H (by simp)

/-! ### shardlogref10_Put: function 17 -/
def shardlogref10_Put.l0 : Nat → List (S46) → List Int → Int → Option (List Int)
 | 0, _, _, _ => none
 | k + 1, x0, x3, x4 => if x4 < (x0.length : Int) then (if 0 ≤ x4 then ((shardlogref08_Put.f k ((rd_T46 x0 x4).f0) ((rd_T46 x0 x4).f1) ((rd_T46 x0 x4).f2) ((rd_T46 x0 x4).f3) ((rd_T46 x0 x4).f4)).bind fun t538 => (if x3.length + t538.length < 140737488355328 then (shardlogref10_Put.l0 k x0 (x3 ++ t538) (wrap64 (x4 + 1))) else (none))) else (none)) else ((shardlogref06_Put.f k x3).bind fun t544 => (some t544))
def shardlogref10_Put.f (k : Nat) (l0 : List (S46)) : Option (List Int) := (shardlogref01_Num.f (l0.length : Int)).bind fun t534 => (shardlogref10_Put.l0 k l0 t534 0)
theorem shardlogref10_Put.mono_l : ∀ k, (∀ y0 y1 y2, LeO (shardlogref10_Put.l0 k y0 y1 y2) (shardlogref10_Put.l0 (k + 1) y0 y1 y2))
 | 0 => fun _ _ _ r h => by simp [shardlogref10_Put.l0] at h
 | k + 1 => by
  have ih0 := shardlogref10_Put.mono_l k
  ·
   intro y0 y1 y2
   unfold shardlogref10_Put.l0
   repeat' first
   | (with_reducible exact ih0 _ _ _)
   | (with_reducible exact shardlogref06_Put.mono _ _)
   | (with_reducible exact shardlogref08_Put.mono _ _ _ _ _ _)
   | (with_reducible exact LeO.refl _)
   | (with_reducible exact LeO.none _)
   | (with_reducible refine LeO.ite ?_ ?_)
   | (with_reducible refine LeO.bind ?_ (fun _ => ?_))
   | exact ih0 _ _ _
   | exact shardlogref06_Put.mono _ _
   | exact shardlogref08_Put.mono _ _ _ _ _ _
   | exact LeO.none _
   | refine LeO.ite ?_ ?_
   | refine LeO.bind ?_ (fun _ => ?_)
theorem shardlogref10_Put.mono : ∀ a0 k, LeO (shardlogref10_Put.f k a0) (shardlogref10_Put.f (k + 1) a0) := by
 intro a0 k
 have ih0 := shardlogref10_Put.mono_l k
 unfold shardlogref10_Put.f
 repeat' first
   | (with_reducible exact ih0 _ _ _)
   | (with_reducible exact shardlogref06_Put.mono _ _)
   | (with_reducible exact shardlogref08_Put.mono _ _ _ _ _ _)
   | (with_reducible exact LeO.refl _)
   | (with_reducible exact LeO.none _)
   | (with_reducible refine LeO.ite ?_ ?_)
   | (with_reducible refine LeO.bind ?_ (fun _ => ?_))
   | exact ih0 _ _ _
   | exact shardlogref06_Put.mono _ _
   | exact shardlogref08_Put.mono _ _ _ _ _ _
   | exact LeO.none _
   | refine LeO.ite ?_ ?_
   | refine LeO.bind ?_ (fun _ => ?_)
set_option maxHeartbeats 8000000 in
set_option maxRecDepth 100000 in
theorem shardlogref10_Put.calls (k : Nat) (A0 : Option Addr) (c0 : Nat) (l0 : List (S46)) (r : List Int) (w : World) (hr0 : Kd.C k46 w A0 l0.length l0) (hc0 : l0.length ≤ c0) (h : shardlogref10_Put.f k l0 = some r) :
  Calls Try.prog 17 #[.slice A0 l0.length c0] w fun e w' => ∃ v0_ : Value, e = .returned (v0_) ∧ Kd.R (Kd.int .u8) 5 w' w.heap.size (fun _ => True) v0_ r ∧ Below w.heap.size w w' := by
 have hu46 := Try.underlying46
 have HR0 := aS hr0
 have HC0 := aS hc0
 clear hr0 hc0
 have HB := aS (Below.refl w.heap.size w)
 have H : ((shardlogref01_Num.f (l0.length : Int)).bind fun t534 => (shardlogref10_Put.l0 k l0 t534 0)) = some r := h
 clear h
 replace H := obm H
 obtain ⟨t534, A20, H⟩ := H
 replace H : (shardlogref10_Put.l0 k l0 t534 0) = some r := H
 have A2 := aS A20
 clear A20
 have H' := aS H
 clear H
 go_enter Try.func17, Try.ntmps17
 go_wp2_with (first | ((with_reducible refine gate_callee (f := 29) rfl ?_); refine goesL_ (some 7) rfl rfl Try.func29 (by kernel_rfl) rfl #[.int .i64 (l0.length : Int)] rfl (by (try simp only [List.map_toArray, List.map_cons, List.map_nil]); first | done | rfl | (simp only [lld, llt]; rfl)) ?_; (with_reducible refine (shardlogref01_Num.calls (l0.length : Int) t534 _ A2.out).mono ?_); rintro e w3 ⟨v535, rfl, ho0, hb⟩; refine ⟨_, rfl, ?_⟩; have n0_ := aS (Kd.R_lower ho0 (below_size (by repeat (first | (with_reducible first | exact HB.out | apply bal | apply bdN | apply bdo) | exact HB.out)))); have n1_ := aS (below_step (by repeat (first | (with_reducible first | exact HB.out | apply bal | apply bdN | apply bdo) | exact HB.out)) hb); clear HB; have HO536 := n0_; have HB := n1_; clear n0_ n1_; (try clear hb); (try clear hb2); (try clear hk); (try clear hi); (try clear ho0)))
 go_loopg [3, 4] k (fun kq v3 v4 w' => ∃ (x3_1 : List Int) (x4_1 : Int), v4 = .int .i64 x4_1 ∧ Aside0 (shardlogref10_Put.l0 kq l0 x3_1 x4_1 = some r) ∧ Aside0 (kq ≤ k) ∧ Aside0 (Kd.R (Kd.int .u8) 5 w' w.heap.size (fun _ => True) v3 x3_1) ∧ Aside0 (Below w.heap.size w w'))
 case atStart => exact ⟨(t534), (0), (by first | rfl | (simp; done) | (simp [*]; done) | (simp; exact (by decide : ∀ a_ b_ : Bool, (a_ == b_) = (!a_ != b_)) _ _)), H', ⟨Nat.le_refl _⟩, ⟨by (with_reducible repeat (first | apply Kd.R_alloc | apply Kd.R_drewN | apply Kd.R_drew)); exact HO536.out⟩, ⟨by repeat (first | (with_reducible first | exact HB.out | apply bal | apply bdN | apply bdo) | exact HB.out)⟩⟩
 case round =>
  clear H'; (try clear c1); (try clear c2); (try clear p2)
  obtain ⟨x3_1, x4_1, rfl, HA, HK1, HO_3, HB⟩ := hrel
  cases gk with
  | zero => exact absurd HA.out (by simp [shardlogref10_Put.l0])
  | succ k1 =>
   have H := HA.out; clear HA
   simp only [shardlogref10_Put.l0] at H
   by_cases c4 : x4_1 < (l0.length : Int)
   ·
    rw [if_pos c4] at H
    have c4b0 : decide (x4_1 < (l0.length : Int)) = true := decide_eq_true c4
    clear c4
    by_cases c5 : 0 ≤ x4_1
    ·
     rw [if_pos c5] at H
     have c5b0 : decide (0 ≤ x4_1) = true := decide_eq_true c5
     clear c5
     replace H := obm H
     obtain ⟨t538, A60, H⟩ := H
     replace H : (if x3_1.length + t538.length < 140737488355328 then (shardlogref10_Put.l0 k1 l0 (x3_1 ++ t538) (wrap64 (x4_1 + 1))) else (none)) = some r := H
     have A6 := aS A60
     clear A60
     by_cases c7 : x3_1.length + t538.length < 140737488355328
     ·
      rw [if_pos c7] at H
      have LMc7 := aS c7
      clear c7
      obtain ⟨y541, hy541⟩ : ∃ y_ : List Int, y_ = (x3_1 ++ t538) := ⟨_, rfl⟩
      replace H : (shardlogref10_Put.l0 k1 l0 y541 (wrap64 (x4_1 + 1))) = some r := by first | (rw [hy541]; with_reducible exact H) | (have H2_ := (Option.bind_some _ _).symm.trans H; rw [hy541]; with_reducible exact H2_) | (have H2_ := (Option.bind_some _ _).symm.trans H; with_reducible exact H2_) | with_reducible exact H | (rw [hy541]; exact H) | exact H
      have Ny541 := aS hy541
      clear hy541
      have H' := aS H
      clear H
      have p537 : 0 ≤ (x4_1 : Int) := odt (by first | (with_reducible assumption) | assumption)
      have q537 : x4_1 < (l0.length : Int) := odt (by first | (with_reducible assumption) | assumption)
      obtain ⟨ad537, e537, hx537_0, hx537_1, hx537_2, hx537_3, hx537_4⟩ := at_T46 HR0.out x4_1 p537 q537
      cases e537
      replace hx537_0 := (HB.out.cell (wbl w _ hx537_0)).trans hx537_0
      replace hx537_1 := (HB.out.cell (wbl w _ hx537_1)).trans hx537_1
      replace hx537_2 := (HB.out.cell (wbl w _ hx537_2)).trans hx537_2
      replace hx537_3 := (HB.out.cell (wbl w _ hx537_3)).trans hx537_3
      replace hx537_4 := (HB.out.cell (wbl w _ hx537_4)).trans hx537_4
      replace p537 := eq_true p537
      replace q537 := eq_true q537
      go_wp2_with (first | ((with_reducible refine gate_callee (f := 20) rfl ?_); refine goesL_ (some 19) rfl rfl Try.func20 (by kernel_rfl) rfl #[.agg #[.string ((rd_T46 l0 x4_1).f0), .string ((rd_T46 l0 x4_1).f1), .int .i64 ((rd_T46 l0 x4_1).f2), .string ((rd_T46 l0 x4_1).f3), .bool ((rd_T46 l0 x4_1).f4)]] rfl (by (try simp only [List.map_toArray, List.map_cons, List.map_nil]); first | done | rfl | (simp only [lld, llt]; rfl)) ?_; (with_reducible refine (shardlogref08_Put.calls k1 ((rd_T46 l0 x4_1).f0) ((rd_T46 l0 x4_1).f1) ((rd_T46 l0 x4_1).f2) ((rd_T46 l0 x4_1).f3) ((rd_T46 l0 x4_1).f4) t538 _ A6.out).mono ?_); rintro e w8 ⟨v539, rfl, ho0, hb⟩; refine ⟨_, rfl, ?_⟩; have n0_ := aS (Kd.R_elder' (by (with_reducible repeat (first | apply Kd.R_alloc | apply Kd.R_drewN | apply Kd.R_drew)); exact HO_3.out) (by first | exact Kd.R_base ho0 | exact Kd.S_base ho0 | exact Kd.R_base ho0 | exact Kd.V_base ho0) hb); have n1_ := aS (Kd.R_lower (Kd.R_new' ho0 (Kd.R_lt (by (with_reducible repeat (first | apply Kd.R_alloc | apply Kd.R_drewN | apply Kd.R_drew)); exact HO_3.out))) (below_size (by repeat (first | (with_reducible first | exact HB.out | apply bal | apply bdN | apply bdo) | exact HB.out)))); have n2_ := aS (below_step (by repeat (first | (with_reducible first | exact HB.out | apply bal | apply bdN | apply bdo) | exact HB.out)) hb); clear HO_3; clear HB; have HO_3 := n0_; have HO540 := n1_; have HB := n2_; clear n0_ n1_ n2_; (try clear hb); (try clear hb2); (try clear hk); (try clear hi); (try clear ho0); obtain ⟨Ao10, co10, eo10⟩ := Kd.R_slice HO540.out; subst eo10) | ((with_reducible refine gate_builtin (b := .append) (xs := #[.tmp 14, .tmp 19]) rfl ?_); at_builtin; refine Kd.R_append_rows (Kd.int .u8) (w0 := w) w.heap.size rfl (.tmp 14) (.tmp 19) 33 5 (.int .u8 0) 1 rfl Try.underlying33 info5 rfl (by decide) (by omega) u3 x3_1 t538 _ _ _ (fun k_ => some k_ ≠ (.slice Ao10 t538.length co10 : Value).ownBlock) (fun _ => False) rfl rfl ?aO ?aR (fun _ _ h => h) (fun _ h => h.elim) ?aF ?aB ?aS ?aL ?_; (case aR => repeat (first | exact (Kd.R_reads' HO540.out).2.2 | (with_reducible refine Kd.C_alloc ?_ _) | (with_reducible refine Kd.C_drewN ?_ _) | (with_reducible refine Kd.C_drew ?_))); (case aB => exact (by repeat (first | (with_reducible first | exact HB.out | apply bal | apply bdN | apply bdo) | exact HB.out))); (case aF => exact (fun k_ hk => Kd.fresh' (Kd.R_lt (by (with_reducible repeat (first | apply Kd.R_alloc | apply Kd.R_drewN | apply Kd.R_drew)); exact HO540.out)) k_ hk)); (case aO => exact (by (with_reducible repeat (first | apply Kd.R_alloc | apply Kd.R_drewN | apply Kd.R_drew)); exact Kd.R_mono HO_3.out (fun _ hk => hk.2))); (case aS => exact (below_size (by repeat (first | (with_reducible first | exact HB.out | apply bal | apply bdN | apply bdo) | exact HB.out)))); (case aL => have := LMc7.out; omega); intro v542 w9 ho hb hg hat; rw [← Ny541.out] at ho; have n0_ := aS (Kd.R_after (ok := (fun _ => True)) (by (with_reducible repeat (first | apply Kd.R_alloc | apply Kd.R_drewN | apply Kd.R_drew)); exact HO540.out) hg hat); have n1_ := aS (hb); have n2_ := aS (ho); clear HO540; clear HB; clear HO_3; have HO540 := n0_; have HB := n1_; have HO543 := n2_; clear n0_ n1_ n2_; clear ho hb hg hat))
      go_roundg k1
      case measure => have := HK1.out; omega
      case rel => exact ⟨(y541), (wrap64 (x4_1 + 1)), (by first | rfl | (simp; done) | (simp [*]; done) | (simp; exact (by decide : ∀ a_ b_ : Bool, (a_ == b_) = (!a_ != b_)) _ _)), H', ⟨by have := HK1.out; omega⟩, ⟨by (with_reducible repeat (first | apply Kd.R_alloc | apply Kd.R_drewN | apply Kd.R_drew)); exact Kd.R_mono HO543.out (fun _ hk => trivial)⟩, ⟨by repeat (first | (with_reducible first | exact HB.out | apply bal | apply bdN | apply bdo) | exact HB.out)⟩⟩
     ·
      rw [if_neg c7] at H
      exact absurd H (by simp)
    ·
     rw [if_neg c5] at H
     exact absurd H (by simp)
   ·
    rw [if_neg c4] at H
    have c4b0 : decide (x4_1 < (l0.length : Int)) = false := decide_eq_false c4
    clear c4
    replace H := obm H
    obtain ⟨t544, A110, H⟩ := H
    replace H : (some t544) = some r := H
    have A11 := aS A110
    clear A110
    obtain rfl := Option.some.inj H
    obtain ⟨Ao12, co12, eo12⟩ := Kd.R_slice HO_3.out
    subst eo12
    go_wp2_with (first | ((with_reducible refine gate_callee (f := 30) rfl ?_); refine goesL_ (some 22) rfl rfl Try.func30 (by kernel_rfl) rfl #[.slice Ao12 x3_1.length co12] rfl (by (try simp only [List.map_toArray, List.map_cons, List.map_nil]); first | done | rfl | (simp only [lld, llt]; rfl)) ?_; (with_reducible refine (shardlogref06_Put.calls k1 _ _ x3_1 t544 _ ?side1 ?side2 A11.out).mono ?_); (case side1 => repeat (first | exact (Kd.R_reads' HO_3.out).2.2 | (with_reducible refine Kd.C_alloc ?_ _) | (with_reducible refine Kd.C_drewN ?_ _) | (with_reducible refine Kd.C_drew ?_))); (case side2 => exact (Kd.R_reads' HO_3.out).2.1); rintro e w13 ⟨v545, rfl, ho0, hb⟩; refine ⟨_, rfl, ?_⟩; have n0_ := aS (Kd.R_elder' (by (with_reducible repeat (first | apply Kd.R_alloc | apply Kd.R_drewN | apply Kd.R_drew)); exact HO_3.out) (by first | exact Kd.R_base ho0 | exact Kd.S_base ho0 | exact Kd.R_base ho0 | exact Kd.V_base ho0) hb); have n1_ := aS (Kd.R_lower (Kd.R_new' ho0 (Kd.R_lt (by (with_reducible repeat (first | apply Kd.R_alloc | apply Kd.R_drewN | apply Kd.R_drew)); exact HO_3.out))) (below_size (by repeat (first | (with_reducible first | exact HB.out | apply bal | apply bdN | apply bdo) | exact HB.out)))); have n2_ := aS (below_step (by repeat (first | (with_reducible first | exact HB.out | apply bal | apply bdN | apply bdo) | exact HB.out)) hb); clear HO_3; clear HB; have HO_3 := n0_; have HO546 := n1_; have HB := n2_; clear n0_ n1_ n2_; (try clear hb); (try clear hb2); (try clear hk); (try clear hi); (try clear ho0)))
    go_ret
    exact ⟨_, by first | rfl | (simp [errW_none, errW_some] <;> rfl) | (simp [*, errW_none, errW_some] <;> rfl), by (with_reducible repeat (first | apply Kd.R_alloc | apply Kd.R_drewN | apply Kd.R_drew)); exact Kd.R_mono HO546.out (fun _ hk => trivial), by repeat (first | (with_reducible first | exact HB.out | apply bal | apply bdN | apply bdo) | exact HB.out)⟩

/-! ### shardloglaw10_BlockPuts: function 4 -/
mutual
def shardloglaw10_BlockPuts.j0 : Nat → List (S46) → Bool → Bool → Option (Bool)
 | 0, _, _, _ => none
 | k + 1, x0, x1, x13 => if x13 = true then ((shardloglaw10_awake.f k).bind fun t549 => (some t549)) else (if x1 = true then ((shardlogref08_Sort.f k x0).bind fun t550 => (shardloglaw10_BlockPuts.j1 k t550)) else (shardloglaw10_BlockPuts.j1 k x0))
def shardloglaw10_BlockPuts.j1 : Nat → List (S46) → Option (Bool)
 | 0, _ => none
 | k + 1, x0 => (block_Put.f k x0).bind fun bt553 => ((shardlogref08_Sorted.f k x0).bind fun t557 => (if t557 = true then (shardloglaw10_BlockPuts.j2 k x0 bt553.1 bt553.2 ((x0.length : Int) == 0)) else (shardloglaw10_BlockPuts.j2 k x0 bt553.1 bt553.2 true)))
def shardloglaw10_BlockPuts.j2 : Nat → List (S46) → List Int → Int → Bool → Option (Bool)
 | 0, _, _, _, _ => none
 | k + 1, x0, x5, x6, x30 => if x30 = true then (if x6 = 1 then (some ((x5.length : Int) == 0)) else (none)) else (if x6 = 0 then ((shardlogref10_Put.f k x0).bind fun t558 => ((shardlogref01_Same.f x5 t558).bind fun t561 => (some t561))) else (none))
end
def shardloglaw10_BlockPuts.f (k : Nat) (l0 : List (S46)) (a1 : Bool) : Option (Bool) := (shardloglaw10_awake.f k).bind fun t547 => (if t547 = true then ((shardlogref08_Few.f k l0).bind fun t548 => (shardloglaw10_BlockPuts.j0 k l0 a1 (!t548))) else (shardloglaw10_BlockPuts.j0 k l0 a1 true))
theorem shardloglaw10_BlockPuts.mono_l : ∀ k, (∀ y0 y1 y2, LeO (shardloglaw10_BlockPuts.j0 k y0 y1 y2) (shardloglaw10_BlockPuts.j0 (k + 1) y0 y1 y2)) ∧ (∀ y0, LeO (shardloglaw10_BlockPuts.j1 k y0) (shardloglaw10_BlockPuts.j1 (k + 1) y0)) ∧ (∀ y0 y1 y2 y3, LeO (shardloglaw10_BlockPuts.j2 k y0 y1 y2 y3) (shardloglaw10_BlockPuts.j2 (k + 1) y0 y1 y2 y3))
 | 0 => ⟨fun _ _ _ r h => by simp [shardloglaw10_BlockPuts.j0] at h, fun _ r h => by simp [shardloglaw10_BlockPuts.j1] at h, fun _ _ _ _ r h => by simp [shardloglaw10_BlockPuts.j2] at h⟩
 | k + 1 => by
  obtain ⟨ih0, ih1, ih2⟩ := shardloglaw10_BlockPuts.mono_l k
  refine ⟨?_, ?_, ?_⟩
  ·
   intro y0 y1 y2
   unfold shardloglaw10_BlockPuts.j0
   repeat' first
   | (with_reducible exact ih0 _ _ _)
   | (with_reducible exact ih1 _)
   | (with_reducible exact ih2 _ _ _ _)
   | (with_reducible exact block_Put.mono _ _)
   | (with_reducible exact shardloglaw10_awake.mono _)
   | (with_reducible exact shardlogref08_Few.mono _ _)
   | (with_reducible exact shardlogref08_Sort.mono _ _)
   | (with_reducible exact shardlogref08_Sorted.mono _ _)
   | (with_reducible exact shardlogref10_Put.mono _ _)
   | (with_reducible exact LeO.refl _)
   | (with_reducible exact LeO.none _)
   | (with_reducible refine LeO.ite ?_ ?_)
   | (with_reducible refine LeO.bind ?_ (fun _ => ?_))
   | exact ih0 _ _ _
   | exact ih1 _
   | exact ih2 _ _ _ _
   | exact block_Put.mono _ _
   | exact shardloglaw10_awake.mono _
   | exact shardlogref08_Few.mono _ _
   | exact shardlogref08_Sort.mono _ _
   | exact shardlogref08_Sorted.mono _ _
   | exact shardlogref10_Put.mono _ _
   | exact LeO.none _
   | refine LeO.ite ?_ ?_
   | refine LeO.bind ?_ (fun _ => ?_)
  ·
   intro y0
   unfold shardloglaw10_BlockPuts.j1
   repeat' first
   | (with_reducible exact ih0 _ _ _)
   | (with_reducible exact ih1 _)
   | (with_reducible exact ih2 _ _ _ _)
   | (with_reducible exact block_Put.mono _ _)
   | (with_reducible exact shardloglaw10_awake.mono _)
   | (with_reducible exact shardlogref08_Few.mono _ _)
   | (with_reducible exact shardlogref08_Sort.mono _ _)
   | (with_reducible exact shardlogref08_Sorted.mono _ _)
   | (with_reducible exact shardlogref10_Put.mono _ _)
   | (with_reducible exact LeO.refl _)
   | (with_reducible exact LeO.none _)
   | (with_reducible refine LeO.ite ?_ ?_)
   | (with_reducible refine LeO.bind ?_ (fun _ => ?_))
   | exact ih0 _ _ _
   | exact ih1 _
   | exact ih2 _ _ _ _
   | exact block_Put.mono _ _
   | exact shardloglaw10_awake.mono _
   | exact shardlogref08_Few.mono _ _
   | exact shardlogref08_Sort.mono _ _
   | exact shardlogref08_Sorted.mono _ _
   | exact shardlogref10_Put.mono _ _
   | exact LeO.none _
   | refine LeO.ite ?_ ?_
   | refine LeO.bind ?_ (fun _ => ?_)
  ·
   intro y0 y1 y2 y3
   unfold shardloglaw10_BlockPuts.j2
   repeat' first
   | (with_reducible exact ih0 _ _ _)
   | (with_reducible exact ih1 _)
   | (with_reducible exact ih2 _ _ _ _)
   | (with_reducible exact block_Put.mono _ _)
   | (with_reducible exact shardloglaw10_awake.mono _)
   | (with_reducible exact shardlogref08_Few.mono _ _)
   | (with_reducible exact shardlogref08_Sort.mono _ _)
   | (with_reducible exact shardlogref08_Sorted.mono _ _)
   | (with_reducible exact shardlogref10_Put.mono _ _)
   | (with_reducible exact LeO.refl _)
   | (with_reducible exact LeO.none _)
   | (with_reducible refine LeO.ite ?_ ?_)
   | (with_reducible refine LeO.bind ?_ (fun _ => ?_))
   | exact ih0 _ _ _
   | exact ih1 _
   | exact ih2 _ _ _ _
   | exact block_Put.mono _ _
   | exact shardloglaw10_awake.mono _
   | exact shardlogref08_Few.mono _ _
   | exact shardlogref08_Sort.mono _ _
   | exact shardlogref08_Sorted.mono _ _
   | exact shardlogref10_Put.mono _ _
   | exact LeO.none _
   | refine LeO.ite ?_ ?_
   | refine LeO.bind ?_ (fun _ => ?_)
theorem shardloglaw10_BlockPuts.mono : ∀ a0 a1 k, LeO (shardloglaw10_BlockPuts.f k a0 a1) (shardloglaw10_BlockPuts.f (k + 1) a0 a1) := by
 intro a0 a1 k
 obtain ⟨ih0, ih1, ih2⟩ := shardloglaw10_BlockPuts.mono_l k
 unfold shardloglaw10_BlockPuts.f
 repeat' first
   | (with_reducible exact ih0 _ _ _)
   | (with_reducible exact ih1 _)
   | (with_reducible exact ih2 _ _ _ _)
   | (with_reducible exact block_Put.mono _ _)
   | (with_reducible exact shardloglaw10_awake.mono _)
   | (with_reducible exact shardlogref08_Few.mono _ _)
   | (with_reducible exact shardlogref08_Sort.mono _ _)
   | (with_reducible exact shardlogref08_Sorted.mono _ _)
   | (with_reducible exact shardlogref10_Put.mono _ _)
   | (with_reducible exact LeO.refl _)
   | (with_reducible exact LeO.none _)
   | (with_reducible refine LeO.ite ?_ ?_)
   | (with_reducible refine LeO.bind ?_ (fun _ => ?_))
   | exact ih0 _ _ _
   | exact ih1 _
   | exact ih2 _ _ _ _
   | exact block_Put.mono _ _
   | exact shardloglaw10_awake.mono _
   | exact shardlogref08_Few.mono _ _
   | exact shardlogref08_Sort.mono _ _
   | exact shardlogref08_Sorted.mono _ _
   | exact shardlogref10_Put.mono _ _
   | exact LeO.none _
   | refine LeO.ite ?_ ?_
   | refine LeO.bind ?_ (fun _ => ?_)
set_option maxHeartbeats 8000000 in
set_option maxRecDepth 100000 in
theorem shardloglaw10_BlockPuts.calls (k : Nat) (P0_ : Nat → Prop) (A0 : Option Addr) (c0 : Nat) (l0 : List (S46)) (a1 : Bool) (r : Bool) (w : World) (hs0 : Kd.V k46 46 w w.heap.size (fun k_ => P0_ k_) (.slice A0 l0.length c0) l0) (h : shardloglaw10_BlockPuts.f k l0 a1 = some r) :
  Calls Try.prog 4 #[.slice A0 l0.length c0, .bool a1] w fun e w' => e = .returned (.bool r) ∧ Below w.heap.size w w' := by
 have HO0 := aS (show Kd.V k46 46 w w.heap.size (fun k_ => (P0_ k_ ∨ w.heap.size ≤ k_)) (.slice A0 l0.length c0) l0 from Kd.V_mono hs0 (fun k_ hk => .inl hk))
 have HB := aS (Below.refl w.heap.size w)
 have H : ((shardloglaw10_awake.f k).bind fun t547 => (if t547 = true then ((shardlogref08_Few.f k l0).bind fun t548 => (shardloglaw10_BlockPuts.j0 k l0 a1 (!t548))) else (shardloglaw10_BlockPuts.j0 k l0 a1 true))) = some r := h
 clear h
 have HC3 := aS H
 clear H
 go_enter Try.func4, Try.ntmps4
 go_upto_region 1 with (fail)
 go_cut [13] (fun v13 wc => ∃ (kq : Nat) (x13_2 : Bool), v13 = .bool x13_2 ∧ Aside0 (shardloglaw10_BlockPuts.j0 kq l0 a1 x13_2 = some r) ∧ Aside0 (kq ≤ k) ∧ Aside0 (Kd.V k46 46 wc w.heap.size (fun k_ => (P0_ k_ ∨ w.heap.size ≤ k_)) (.slice A0 l0.length c0) l0) ∧ Aside0 (Below w.heap.size w wc))
 case first =>
  have H := HC3.out; clear HC3
  replace H := obm H
  obtain ⟨t547, A40, H⟩ := H
  replace H : (if t547 = true then ((shardlogref08_Few.f k l0).bind fun t548 => (shardloglaw10_BlockPuts.j0 k l0 a1 (!t548))) else (shardloglaw10_BlockPuts.j0 k l0 a1 true)) = some r := H
  have A4 := aS A40
  clear A40
  by_cases c5 : t547 = true
  ·
   subst c5
   have H1 : ((shardlogref08_Few.f k l0).bind fun t548 => (shardloglaw10_BlockPuts.j0 k l0 a1 (!t548))) = some r := by rw [if_pos rfl] at H; exact H
   clear H; have H := H1; clear H1
   replace H := obm H
   obtain ⟨t548, A60, H⟩ := H
   replace H : (shardloglaw10_BlockPuts.j0 k l0 a1 (!t548)) = some r := H
   have A6 := aS A60
   clear A60
   have H' := aS H
   clear H
   go_wp2_with (first | ((with_reducible refine gate_callee (f := 8) rfl ?_); refine goesL_ (some 7) rfl rfl Try.func8 (by kernel_rfl) rfl #[] rfl (by (try simp only [List.map_toArray, List.map_cons, List.map_nil]); first | done | rfl | (simp only [lld, llt]; rfl)) ?_; (with_reducible refine (shardloglaw10_awake.calls k  true _ A4.out).mono ?_); rintro e w7 ⟨rfl, hb⟩; refine ⟨_, rfl, ?_⟩; have n0_ := aS (Kd.V_below (by (with_reducible repeat (first | apply Kd.V_alloc | apply Kd.V_drewN | apply Kd.V_drew)); exact HO0.out) hb); have n1_ := aS (below_step (by repeat (first | (with_reducible first | exact HB.out | apply bal | apply bdN | apply bdo) | exact HB.out)) hb); clear HO0; clear HB; have HO0 := n0_; have HB := n1_; clear n0_ n1_; (try clear hb); (try clear hb2); (try clear hk); (try clear hi)) | (go_at_call 9; (with_reducible refine (shardlogref08_Few.calls k _ _ l0 t548 _ ?side1 ?side2 A6.out).mono ?_); (case side1 => repeat (first | exact (Kd.V_reads' HO0.out).2.2 | (with_reducible refine Kd.C_alloc ?_ _) | (with_reducible refine Kd.C_drewN ?_ _) | (with_reducible refine Kd.C_drew ?_))); (case side2 => exact (Kd.V_reads' HO0.out).2.1); rintro e w8 ⟨rfl, hb⟩; have n0_ := aS (Kd.V_below (by (with_reducible repeat (first | apply Kd.V_alloc | apply Kd.V_drewN | apply Kd.V_drew)); exact HO0.out) hb); have n1_ := aS (below_step (by repeat (first | (with_reducible first | exact HB.out | apply bal | apply bdN | apply bdo) | exact HB.out)) hb); clear HO0; clear HB; have HO0 := n0_; have HB := n1_; clear n0_ n1_; (try clear hb); (try clear hb2); (try clear hk); (try clear hi)))
   go_meet
   case rel => exact ⟨_, (!t548), (by first | rfl | (simp; done) | (simp [*]; done) | (simp; exact (by decide : ∀ a_ b_ : Bool, (a_ == b_) = (!a_ != b_)) _ _)), H', ⟨by first | omega | exact Nat.le_refl _⟩, ⟨by (with_reducible repeat (first | apply Kd.V_alloc | apply Kd.V_drewN | apply Kd.V_drew)); exact HO0.out⟩, ⟨by repeat (first | (with_reducible first | exact HB.out | apply bal | apply bdN | apply bdo) | exact HB.out)⟩⟩
  ·
   replace c5 := Bool.eq_false_iff.mpr c5
   subst c5
   have H1 : (shardloglaw10_BlockPuts.j0 k l0 a1 true) = some r := by rw [if_neg (show ¬ (false = true) by decide)] at H; exact H
   clear H; have H := H1; clear H1
   have H' := aS H
   clear H
   go_wp2_with (first | ((with_reducible refine gate_callee (f := 8) rfl ?_); refine goesL_ (some 7) rfl rfl Try.func8 (by kernel_rfl) rfl #[] rfl (by (try simp only [List.map_toArray, List.map_cons, List.map_nil]); first | done | rfl | (simp only [lld, llt]; rfl)) ?_; (with_reducible refine (shardloglaw10_awake.calls k  false _ A4.out).mono ?_); rintro e w9 ⟨rfl, hb⟩; refine ⟨_, rfl, ?_⟩; have n0_ := aS (Kd.V_below (by (with_reducible repeat (first | apply Kd.V_alloc | apply Kd.V_drewN | apply Kd.V_drew)); exact HO0.out) hb); have n1_ := aS (below_step (by repeat (first | (with_reducible first | exact HB.out | apply bal | apply bdN | apply bdo) | exact HB.out)) hb); clear HO0; clear HB; have HO0 := n0_; have HB := n1_; clear n0_ n1_; (try clear hb); (try clear hb2); (try clear hk); (try clear hi)))
   go_meet
   case rel => exact ⟨_, (true), (by first | rfl | (simp; done) | (simp [*]; done) | (simp; exact (by decide : ∀ a_ b_ : Bool, (a_ == b_) = (!a_ != b_)) _ _)), H', ⟨by first | omega | exact Nat.le_refl _⟩, ⟨by (with_reducible repeat (first | apply Kd.V_alloc | apply Kd.V_drewN | apply Kd.V_drew)); exact HO0.out⟩, ⟨by repeat (first | (with_reducible first | exact HB.out | apply bal | apply bdN | apply bdo) | exact HB.out)⟩⟩
 case rest =>
  clear HC3; (try clear p2); (try clear c4); (try clear c5); (try clear c8)
  obtain ⟨kq, x13_2, rfl, HA, HJ2, HO_0, HB⟩ := hcut
  cases kq with
  | zero => exact absurd HA.out (by simp [shardloglaw10_BlockPuts.j0])
  | succ kj2 =>
   have H := HA.out; clear HA
   simp only [shardloglaw10_BlockPuts.j0] at H
   by_cases c10 : x13_2 = true
   ·
    subst c10
    have H1 : ((shardloglaw10_awake.f kj2).bind fun t549 => (some t549)) = some r := by rw [if_pos rfl] at H; exact H
    clear H; have H := H1; clear H1
    replace H := obm H
    obtain ⟨t549, A110, H⟩ := H
    replace H : (some t549) = some r := H
    have A11 := aS A110
    clear A110
    obtain rfl := Option.some.inj H
    go_wp2_with (first | ((with_reducible refine gate_callee (f := 8) rfl ?_); refine goesL_ (some 14) rfl rfl Try.func8 (by kernel_rfl) rfl #[] rfl (by (try simp only [List.map_toArray, List.map_cons, List.map_nil]); first | done | rfl | (simp only [lld, llt]; rfl)) ?_; (with_reducible refine (shardloglaw10_awake.calls kj2  t549 _ A11.out).mono ?_); rintro e w12 ⟨rfl, hb⟩; refine ⟨_, rfl, ?_⟩; have n0_ := aS (Kd.V_below (by (with_reducible repeat (first | apply Kd.V_alloc | apply Kd.V_drewN | apply Kd.V_drew)); exact HO_0.out) hb); have n1_ := aS (below_step (by repeat (first | (with_reducible first | exact HB.out | apply bal | apply bdN | apply bdo) | exact HB.out)) hb); clear HO_0; clear HB; have HO_0 := n0_; have HB := n1_; clear n0_ n1_; (try clear hb); (try clear hb2); (try clear hk); (try clear hi)))
    go_ret
    exact ⟨by first | rfl | (simp [errW_none, errW_some] <;> rfl) | (simp [*, errW_none, errW_some] <;> rfl), by repeat (first | (with_reducible first | exact HB.out | apply bal | apply bdN | apply bdo) | exact HB.out)⟩
   ·
    replace c10 := Bool.eq_false_iff.mpr c10
    subst c10
    have H1 : (if a1 = true then ((shardlogref08_Sort.f kj2 l0).bind fun t550 => (shardloglaw10_BlockPuts.j1 kj2 t550)) else (shardloglaw10_BlockPuts.j1 kj2 l0)) = some r := by rw [if_neg (show ¬ (false = true) by decide)] at H; exact H
    clear H; have H := H1; clear H1
    have HC13 := aS H
    clear H
    go_upto_if 15 with (fail)
    go_cut [0] (fun v0 wc => ∃ (kq : Nat) (x0_12 : List (S46)), Aside0 (shardloglaw10_BlockPuts.j1 kq x0_12 = some r) ∧ Aside0 (kq ≤ kj2) ∧ Aside0 (Kd.V k46 46 wc w.heap.size (fun k_ => (P0_ k_ ∨ w.heap.size ≤ k_)) v0 x0_12) ∧ Aside0 (Below w.heap.size w wc))
    case first =>
     have H := HC13.out; clear HC13
     by_cases c14 : a1 = true
     ·
      subst c14
      have H1 : ((shardlogref08_Sort.f kj2 l0).bind fun t550 => (shardloglaw10_BlockPuts.j1 kj2 t550)) = some r := by rw [if_pos rfl] at H; exact H
      clear H; have H := H1; clear H1
      replace H := obm H
      obtain ⟨t550, A150, H⟩ := H
      replace H : (shardloglaw10_BlockPuts.j1 kj2 t550) = some r := H
      have A15 := aS A150
      clear A150
      have H' := aS H
      clear H
      go_wp2_with (first | ((with_reducible refine gate_callee (f := 10) rfl ?_); refine goesL_ (some 17) rfl rfl Try.func10 (by kernel_rfl) rfl #[.slice A0 l0.length c0] rfl (by (try simp only [List.map_toArray, List.map_cons, List.map_nil]); first | done | rfl | (simp only [lld, llt]; rfl)) ?_; (with_reducible refine (shardlogref08_Sort.calls kj2 _ _ l0 t550 _ ?side1 ?side2 A15.out).mono ?_); (case side1 => repeat (first | exact (Kd.V_reads' HO_0.out).2.2 | (with_reducible refine Kd.C_alloc ?_ _) | (with_reducible refine Kd.C_drewN ?_ _) | (with_reducible refine Kd.C_drew ?_))); (case side2 => exact (Kd.V_reads' HO_0.out).2.1); rintro e w16 ⟨v551, rfl, ho0, hb⟩; refine ⟨_, rfl, ?_⟩; have n0_ := aS (Kd.V_elder' (by (with_reducible repeat (first | apply Kd.V_alloc | apply Kd.V_drewN | apply Kd.V_drew)); exact HO_0.out) (by first | exact Kd.R_base ho0 | exact Kd.S_base ho0 | exact Kd.R_base ho0 | exact Kd.V_base ho0) hb); have n1_ := aS (Kd.R_lower (Kd.R_newM (M := fun k_ => (w.heap.size ≤ k_)) ho0 (below_size (by repeat (first | (with_reducible first | exact HB.out | apply bal | apply bdN | apply bdo) | exact HB.out))) (fun k_ h_ => h_)) (below_size (by repeat (first | (with_reducible first | exact HB.out | apply bal | apply bdN | apply bdo) | exact HB.out)))); have n2_ := aS (below_step (by repeat (first | (with_reducible first | exact HB.out | apply bal | apply bdN | apply bdo) | exact HB.out)) hb); clear HO_0; clear HB; have HO_0 := n0_; have HO552 := n1_; have HB := n2_; clear n0_ n1_ n2_; (try clear hb); (try clear hb2); (try clear hk); (try clear hi); (try clear ho0)))
      go_meet
      case rel => exact ⟨_, (t550), H', ⟨by have := HJ2.out; first | omega | exact Nat.le_refl _⟩, ⟨Kd.V_mono (Kd.R_V (by (with_reducible repeat (first | apply Kd.R_alloc | apply Kd.R_drewN | apply Kd.R_drew)); exact Kd.R_mono HO552.out (fun _ hk => hk.1))) (fun k_ hk => by first | exact ⟨(.inr (hk.1)), hk.2⟩ | exact (.inr (hk)))⟩, ⟨by repeat (first | (with_reducible first | exact HB.out | apply bal | apply bdN | apply bdo) | exact HB.out)⟩⟩
     ·
      replace c14 := Bool.eq_false_iff.mpr c14
      subst c14
      have H1 : (shardloglaw10_BlockPuts.j1 kj2 l0) = some r := by rw [if_neg (show ¬ (false = true) by decide)] at H; exact H
      clear H; have H := H1; clear H1
      have H' := aS H
      clear H
      go_wp2
      go_meet
      case rel => exact ⟨_, (l0), H', ⟨by have := HJ2.out; first | omega | exact Nat.le_refl _⟩, ⟨by (with_reducible repeat (first | apply Kd.V_alloc | apply Kd.V_drewN | apply Kd.V_drew)); exact HO_0.out⟩, ⟨by repeat (first | (with_reducible first | exact HB.out | apply bal | apply bdN | apply bdo) | exact HB.out)⟩⟩
    case rest =>
     clear HC13; (try clear c1); (try clear p2); (try clear c4); (try clear c5); (try clear c8); (try clear c10); (try clear c14); (try clear p2)
     obtain ⟨kq, x0_12, HA, HJ12, HO_0, HB⟩ := hcut
     cases kq with
     | zero => exact absurd HA.out (by simp [shardloglaw10_BlockPuts.j1])
     | succ kj12 =>
      have H := HA.out; clear HA
      simp only [shardloglaw10_BlockPuts.j1] at H
      replace H := obm H
      obtain ⟨⟨t553, t554⟩, A170, H⟩ := H
      replace H : ((shardlogref08_Sorted.f kj12 x0_12).bind fun t557 => (if t557 = true then (shardloglaw10_BlockPuts.j2 kj12 x0_12 t553 t554 ((x0_12.length : Int) == 0)) else (shardloglaw10_BlockPuts.j2 kj12 x0_12 t553 t554 true))) = some r := H
      have A17 := aS A170
      clear A170
      have HC18 := aS H
      clear H
      obtain ⟨Ao19, co19, eo19⟩ := Kd.V_slice HO_0.out
      subst eo19
      go_upto_region 6 with (first | ((with_reducible refine gate_callee (f := 15) rfl ?_); refine goesL_ (some 20) rfl rfl Try.func15 (by kernel_rfl) rfl #[.slice Ao19 x0_12.length co19] rfl (by (try simp only [List.map_toArray, List.map_cons, List.map_nil]); first | done | rfl | (simp only [lld, llt]; rfl)) ?_; (with_reducible refine (block_Put.calls kj12 _ _ x0_12 t553 t554 _ ?side1 ?side2 A17.out).mono ?_); (case side1 => repeat (first | exact (Kd.V_reads' HO_0.out).2.2 | (with_reducible refine Kd.C_alloc ?_ _) | (with_reducible refine Kd.C_drewN ?_ _) | (with_reducible refine Kd.C_drew ?_))); (case side2 => exact (Kd.V_reads' HO_0.out).2.1); rintro e w20 ⟨v555, rfl, ho0, hb⟩; refine ⟨_, rfl, ?_⟩; have n0_ := aS (Kd.V_elder' (by (with_reducible repeat (first | apply Kd.V_alloc | apply Kd.V_drewN | apply Kd.V_drew)); exact HO_0.out) (by first | exact Kd.R_base ho0 | exact Kd.S_base ho0 | exact Kd.R_base ho0 | exact Kd.V_base ho0) hb); have n1_ := aS (Kd.R_lower (Kd.R_newM (M := fun k_ => (w.heap.size ≤ k_)) ho0 (below_size (by repeat (first | (with_reducible first | exact HB.out | apply bal | apply bdN | apply bdo) | exact HB.out))) (fun k_ h_ => h_)) (below_size (by repeat (first | (with_reducible first | exact HB.out | apply bal | apply bdN | apply bdo) | exact HB.out)))); have n2_ := aS (below_step (by repeat (first | (with_reducible first | exact HB.out | apply bal | apply bdN | apply bdo) | exact HB.out)) hb); clear HO_0; clear HB; have HO_0 := n0_; have HO556 := n1_; have HB := n2_; clear n0_ n1_ n2_; (try clear hb); (try clear hb2); (try clear hk); (try clear hi); (try clear ho0)))
      (try simp only [Act.put, lsa, lsz, lss])
      go_cut [30] (fun v30 wc => ∃ (kq : Nat) (x30_17 : Bool), v30 = .bool x30_17 ∧ Aside0 (shardloglaw10_BlockPuts.j2 kq x0_12 t553 t554 x30_17 = some r) ∧ Aside0 (kq ≤ kj12) ∧ Aside0 (Kd.V k46 46 wc w.heap.size (fun k_ => (P0_ k_ ∨ w.heap.size ≤ k_) ∧ some k_ ≠ (v555 : Value).ownBlock) (.slice Ao19 x0_12.length co19) x0_12) ∧ Aside0 (Kd.R (Kd.int .u8) 5 wc w.heap.size (fun k_ => (w.heap.size ≤ k_)) v555 t553) ∧ Aside0 (Below w.heap.size w wc))
      case first =>
       have H := HC18.out; clear HC18
       replace H := obm H
       obtain ⟨t557, A210, H⟩ := H
       replace H : (if t557 = true then (shardloglaw10_BlockPuts.j2 kj12 x0_12 t553 t554 ((x0_12.length : Int) == 0)) else (shardloglaw10_BlockPuts.j2 kj12 x0_12 t553 t554 true)) = some r := H
       have A21 := aS A210
       clear A210
       by_cases c22 : t557 = true
       ·
        subst c22
        have H1 : (shardloglaw10_BlockPuts.j2 kj12 x0_12 t553 t554 ((x0_12.length : Int) == 0)) = some r := by rw [if_pos rfl] at H; exact H
        clear H; have H := H1; clear H1
        have H' := aS H
        clear H
        go_wp2_with (first | ((with_reducible refine gate_callee (f := 12) rfl ?_); refine goesL_ (some 24) rfl rfl Try.func12 (by kernel_rfl) rfl #[.slice Ao19 x0_12.length co19] rfl (by (try simp only [List.map_toArray, List.map_cons, List.map_nil]); first | done | rfl | (simp only [lld, llt]; rfl)) ?_; (with_reducible refine (shardlogref08_Sorted.calls kj12 _ _ x0_12 true _ ?side1 ?side2 A21.out).mono ?_); (case side1 => repeat (first | exact (Kd.V_reads' HO_0.out).2.2 | (with_reducible refine Kd.C_alloc ?_ _) | (with_reducible refine Kd.C_drewN ?_ _) | (with_reducible refine Kd.C_drew ?_))); (case side2 => exact (Kd.V_reads' HO_0.out).2.1); rintro e w23 ⟨rfl, hb⟩; refine ⟨_, rfl, ?_⟩; have n0_ := aS (Kd.V_below (by (with_reducible repeat (first | apply Kd.V_alloc | apply Kd.V_drewN | apply Kd.V_drew)); exact HO_0.out) hb); have n1_ := aS (Kd.R_below (by (with_reducible repeat (first | apply Kd.R_alloc | apply Kd.R_drewN | apply Kd.R_drew)); exact HO556.out) hb); have n2_ := aS (below_step (by repeat (first | (with_reducible first | exact HB.out | apply bal | apply bdN | apply bdo) | exact HB.out)) hb); clear HO_0; clear HO556; clear HB; have HO_0 := n0_; have HO556 := n1_; have HB := n2_; clear n0_ n1_ n2_; (try clear hb); (try clear hb2); (try clear hk); (try clear hi)))
        go_meet
        case rel => exact ⟨_, (((x0_12.length : Int) == 0)), (by first | rfl | (simp; done) | (simp [*]; done) | (simp; exact (by decide : ∀ a_ b_ : Bool, (a_ == b_) = (!a_ != b_)) _ _)), H', ⟨by have := HJ2.out; have := HJ12.out; first | omega | exact Nat.le_refl _⟩, ⟨by (with_reducible repeat (first | apply Kd.V_alloc | apply Kd.V_drewN | apply Kd.V_drew)); exact HO_0.out⟩, ⟨by (with_reducible repeat (first | apply Kd.R_alloc | apply Kd.R_drewN | apply Kd.R_drew)); exact Kd.R_mono HO556.out (fun _ hk => hk.1)⟩, ⟨by repeat (first | (with_reducible first | exact HB.out | apply bal | apply bdN | apply bdo) | exact HB.out)⟩⟩
       ·
        replace c22 := Bool.eq_false_iff.mpr c22
        subst c22
        have H1 : (shardloglaw10_BlockPuts.j2 kj12 x0_12 t553 t554 true) = some r := by rw [if_neg (show ¬ (false = true) by decide)] at H; exact H
        clear H; have H := H1; clear H1
        have H' := aS H
        clear H
        go_wp2_with (first | ((with_reducible refine gate_callee (f := 12) rfl ?_); refine goesL_ (some 24) rfl rfl Try.func12 (by kernel_rfl) rfl #[.slice Ao19 x0_12.length co19] rfl (by (try simp only [List.map_toArray, List.map_cons, List.map_nil]); first | done | rfl | (simp only [lld, llt]; rfl)) ?_; (with_reducible refine (shardlogref08_Sorted.calls kj12 _ _ x0_12 false _ ?side1 ?side2 A21.out).mono ?_); (case side1 => repeat (first | exact (Kd.V_reads' HO_0.out).2.2 | (with_reducible refine Kd.C_alloc ?_ _) | (with_reducible refine Kd.C_drewN ?_ _) | (with_reducible refine Kd.C_drew ?_))); (case side2 => exact (Kd.V_reads' HO_0.out).2.1); rintro e w24 ⟨rfl, hb⟩; refine ⟨_, rfl, ?_⟩; have n0_ := aS (Kd.V_below (by (with_reducible repeat (first | apply Kd.V_alloc | apply Kd.V_drewN | apply Kd.V_drew)); exact HO_0.out) hb); have n1_ := aS (Kd.R_below (by (with_reducible repeat (first | apply Kd.R_alloc | apply Kd.R_drewN | apply Kd.R_drew)); exact HO556.out) hb); have n2_ := aS (below_step (by repeat (first | (with_reducible first | exact HB.out | apply bal | apply bdN | apply bdo) | exact HB.out)) hb); clear HO_0; clear HO556; clear HB; have HO_0 := n0_; have HO556 := n1_; have HB := n2_; clear n0_ n1_ n2_; (try clear hb); (try clear hb2); (try clear hk); (try clear hi)))
        go_meet
        case rel => exact ⟨_, (true), (by first | rfl | (simp; done) | (simp [*]; done) | (simp; exact (by decide : ∀ a_ b_ : Bool, (a_ == b_) = (!a_ != b_)) _ _)), H', ⟨by have := HJ2.out; have := HJ12.out; first | omega | exact Nat.le_refl _⟩, ⟨by (with_reducible repeat (first | apply Kd.V_alloc | apply Kd.V_drewN | apply Kd.V_drew)); exact HO_0.out⟩, ⟨by (with_reducible repeat (first | apply Kd.R_alloc | apply Kd.R_drewN | apply Kd.R_drew)); exact Kd.R_mono HO556.out (fun _ hk => hk.1)⟩, ⟨by repeat (first | (with_reducible first | exact HB.out | apply bal | apply bdN | apply bdo) | exact HB.out)⟩⟩
      case rest =>
       clear HC18; (try clear c1); (try clear c2); (try clear p2); (try clear c4); (try clear c5); (try clear c8); (try clear c10); (try clear c12); (try clear c14); (try clear c15); (try clear c22); (try clear p2)
       obtain ⟨kq, x30_17, rfl, HA, HJ17, HO_0, HO_5, HB⟩ := hcut
       cases kq with
       | zero => exact absurd HA.out (by simp [shardloglaw10_BlockPuts.j2])
       | succ kj17 =>
        have H := HA.out; clear HA
        simp only [shardloglaw10_BlockPuts.j2] at H
        by_cases c25 : x30_17 = true
        ·
         subst c25
         have H1 : (if t554 = 1 then (some ((t553.length : Int) == 0)) else (none)) = some r := by rw [if_pos rfl] at H; exact H
         clear H; have H := H1; clear H1
         by_cases c26 : t554 = 1
         ·
          rw [if_pos c26] at H
          have c26b0 : (t554 == 1) = true := beq_iff_eq.mpr c26
          have c26b1 : (t554 != 1) = false := bne_eq_false_iff_eq.mpr c26
          clear c26
          obtain rfl := Option.some.inj H
          obtain ⟨Ao27, co27, eo27⟩ := Kd.R_slice HO_5.out
          subst eo27
          go_wp2
          go_ret
          exact ⟨by first | rfl | (simp [errW_none, errW_some] <;> rfl) | (simp [*, errW_none, errW_some] <;> rfl), by repeat (first | (with_reducible first | exact HB.out | apply bal | apply bdN | apply bdo) | exact HB.out)⟩
         ·
          rw [if_neg c26] at H
          exact absurd H (by simp)
        ·
         replace c25 := Bool.eq_false_iff.mpr c25
         subst c25
         have H1 : (if t554 = 0 then ((shardlogref10_Put.f kj17 x0_12).bind fun t558 => ((shardlogref01_Same.f t553 t558).bind fun t561 => (some t561))) else (none)) = some r := by rw [if_neg (show ¬ (false = true) by decide)] at H; exact H
         clear H; have H := H1; clear H1
         by_cases c28 : t554 = 0
         ·
          rw [if_pos c28] at H
          have c28b0 : (t554 == 0) = true := beq_iff_eq.mpr c28
          have c28b1 : (t554 != 0) = false := bne_eq_false_iff_eq.mpr c28
          clear c28
          replace H := obm H
          obtain ⟨t558, A290, H⟩ := H
          replace H : ((shardlogref01_Same.f t553 t558).bind fun t561 => (some t561)) = some r := H
          have A29 := aS A290
          clear A290
          replace H := obm H
          obtain ⟨t561, A300, H⟩ := H
          replace H : (some t561) = some r := H
          have A30 := aS A300
          clear A300
          obtain rfl := Option.some.inj H
          go_wp2_with (first | (go_at_call 17; (with_reducible refine (shardlogref10_Put.calls kj17 _ _ x0_12 t558 _ ?side1 ?side2 A29.out).mono ?_); (case side1 => repeat (first | exact (Kd.V_reads' HO_0.out).2.2 | (with_reducible refine Kd.C_alloc ?_ _) | (with_reducible refine Kd.C_drewN ?_ _) | (with_reducible refine Kd.C_drew ?_))); (case side2 => exact (Kd.V_reads' HO_0.out).2.1); rintro e w31 ⟨v559, rfl, ho0, hb⟩; have n0_ := aS (Kd.V_elder' (by (with_reducible repeat (first | apply Kd.V_alloc | apply Kd.V_drewN | apply Kd.V_drew)); exact HO_0.out) (by first | exact Kd.R_base ho0 | exact Kd.S_base ho0 | exact Kd.R_base ho0 | exact Kd.V_base ho0) hb); have n1_ := aS (Kd.R_elder' (by (with_reducible repeat (first | apply Kd.R_alloc | apply Kd.R_drewN | apply Kd.R_drew)); exact HO_5.out) (by first | exact Kd.R_base ho0 | exact Kd.S_base ho0 | exact Kd.R_base ho0 | exact Kd.V_base ho0) hb); have n2_ := aS (Kd.R_lower (Kd.R_new' (Kd.R_newM (M := fun k_ => (w.heap.size ≤ k_)) ho0 (below_size (by repeat (first | (with_reducible first | exact HB.out | apply bal | apply bdN | apply bdo) | exact HB.out))) (fun k_ h_ => h_)) (Kd.R_lt (by (with_reducible repeat (first | apply Kd.R_alloc | apply Kd.R_drewN | apply Kd.R_drew)); exact HO_5.out))) (below_size (by repeat (first | (with_reducible first | exact HB.out | apply bal | apply bdN | apply bdo) | exact HB.out)))); have n3_ := aS (below_step (by repeat (first | (with_reducible first | exact HB.out | apply bal | apply bdN | apply bdo) | exact HB.out)) hb); clear HO_0; clear HO_5; clear HB; have HO_0 := n0_; have HO_5 := n1_; have HO560 := n2_; have HB := n3_; clear n0_ n1_ n2_ n3_; (try clear hb); (try clear hb2); (try clear hk); (try clear hi); (try clear ho0); obtain ⟨Ao32, co32, eo32⟩ := Kd.R_slice HO_5.out; subst eo32; obtain ⟨Ao33, co33, eo33⟩ := Kd.R_slice HO560.out; subst eo33) | (go_at_call 16; (with_reducible refine (shardlogref01_Same.calls _ _ t553 _ _ t558 t561 _ ?side1 ?side2 ?side3 ?side4 A30.out).mono ?_); (case side1 => repeat (first | exact (Kd.R_reads' HO_5.out).2.2 | (with_reducible refine Kd.C_alloc ?_ _) | (with_reducible refine Kd.C_drewN ?_ _) | (with_reducible refine Kd.C_drew ?_))); (case side2 => exact (Kd.R_reads' HO_5.out).2.1); (case side3 => repeat (first | exact (Kd.R_reads' HO560.out).2.2 | (with_reducible refine Kd.C_alloc ?_ _) | (with_reducible refine Kd.C_drewN ?_ _) | (with_reducible refine Kd.C_drew ?_))); (case side4 => exact (Kd.R_reads' HO560.out).2.1); rintro e w' ⟨rfl, ⟨nd, rfl⟩⟩))
          go_ret
          exact ⟨by first | rfl | (simp [errW_none, errW_some] <;> rfl) | (simp [*, errW_none, errW_some] <;> rfl), by repeat (first | (with_reducible first | exact HB.out | apply bal | apply bdN | apply bdo) | exact HB.out)⟩
         ·
          rw [if_neg c28] at H
          exact absurd H (by simp)

/-- THE ONE PURE STATEMENT of shardloglaw10_BlockPuts. -/
def shardloglaw10_BlockPuts.Pure : Prop := ∀ (l0 : List (S46)) (a1 : Bool), (l0.length ≤ maxLen ∧ l0.length * 64 ≤ 140737488351232 ∧ ∀ y0_ ∈ l0, (y0_.f0.size ≤ 140737488351232 ∧ y0_.f1.size ≤ 140737488351232 ∧ (Lit.int .i64 y0_.f2).wf = true ∧ y0_.f3.size ≤ 140737488351232 ∧ True)) → ∃ k, shardloglaw10_BlockPuts.f k l0 a1 = some true
theorem shardloglaw10_BlockPuts.walk (P : shardloglaw10_BlockPuts.Pure) (A0 : Option Addr) (c0 : Nat) (l0 : List (S46)) (a1 : Bool) (w : World) (wf0 : (l0.length ≤ maxLen ∧ l0.length * 64 ≤ 140737488351232 ∧ ∀ y0_ ∈ l0, (y0_.f0.size ≤ 140737488351232 ∧ y0_.f1.size ≤ 140737488351232 ∧ (Lit.int .i64 y0_.f2).wf = true ∧ y0_.f3.size ≤ 140737488351232 ∧ True))) (hr0 : Kd.C k46 w A0 l0.length l0) (hc0 : l0.length ≤ c0) :
  Calls Try.prog 4 #[.slice A0 l0.length c0, .bool a1] w fun e w' => e = .returned (.bool true) ∧ Below w.heap.size w w' := by
 obtain ⟨k, h⟩ := P l0 a1 wf0
 refine (shardloglaw10_BlockPuts.calls k (fun _ => True) A0 c0 l0 a1 true w (Kd.V_mk hc0 (fun W' hW => Kd.Heap.C k46_heap (fun k hk => hW k trivial hk) hr0)) h).mono ?_
 rintro e w' ⟨rfl, hd⟩
 exact ⟨rfl, hd⟩

end Go.Proofs.Ytclmooadpoojeaa.X
