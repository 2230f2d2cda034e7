/- The printed functions of wire for numbers answer what the plain ones do. -/
import Derived.Test.YtfbkljpfopiegaaQWire
import Derived.Test.YtfbkljpfopiegaaXx1
namespace Go.Proofs.Ytfbkljpfopiegaa.Pl
open Go.RowKit Go.Proofs.Ytfbkljpfopiegaa.X Go.Proofs.YtfbkljpfopiegaaW.PrintWords Go.Proofs.YtfbkljpfopiegaaW.PrintLast Go.Proofs.YtfbkljpfopiegaaW.PrintMore

theorem wire_Num_eq (n : Int) : wire_Num.f n = some (num n) := by
 unfold wire_Num.f num
 split
 ·
  rfl
 ·
  split
  ·
   rfl
  ·
   rfl
theorem clone_eq {l : List Int} (h : l.length ≤ 140737488355328) : slices_Clone_byte_byte.f l = some l := by
 unfold slices_Clone_byte_byte.f
 rw [if_pos (by omega)]
theorem or8 {x c : Int} (h0 : 0 ≤ x) (h1 : x < 16777216) (h2 : 0 ≤ c) (h3 : c < 256) : Go.bits .or .i64 (wrap64 (x * 256)) (wrap64 c) = x * 256 + c := by
 rw [w64 (by omega) (by omega), w64 (by omega) (by omega)]
 have hw : ∀ n : Int, 0 ≤ n → n < 2 ^ 32 → IntKind.i64.wrap n = n := by
  intro n h4 h5
  rw [IntKind.wrap_i64]
  omega
 exact bits_join .i64 32 (by decide) hw 8 (x * 256) c (by omega) (by omega) (by omega) h2 (by omega) (by omega)
theorem wire_CutNum_ev {b : List Int} (hb : Bytes b) (hl : b.length ≤ 140737488355328) : Ev (fun k => wire_CutNum.f k b) (cutNum b) := by
 unfold wire_CutNum.f cutNum
 by_cases h4 : b.length < 4
 ·
  rw [if_pos h4]
  exact Ev.pos (by omega) (Ev.now _)
 ·
  rw [if_neg h4]
  refine Ev.neg (by omega) (Ev.pos (by omega) (Ev.bind (Ev.now _) ?_))
  obtain ⟨x0, x1, x2, x3, r, rfl⟩ := four_form (b := b) (by omega)
  ·
   clear h4
   obtain ⟨a0, b0⟩ := hb x0 (by simp)
   obtain ⟨a1, b1⟩ := hb x1 (by simp)
   obtain ⟨a2, b2⟩ := hb x2 (by simp)
   obtain ⟨a3, b3⟩ := hb x3 (by simp)
   simp only [List.take_succ_cons, List.take_zero]
   have hlen : (([x0, x1, x2, x3] : List Int).length : Int) = 4 := rfl
   rw [hlen]
   refine Ev.step (f := fun k => wire_CutNum.l0 k (x0 :: x1 :: x2 :: x3 :: r) x0 [x0, x1, x2, x3] 4 1) (fun k => ?_) ?_
   ·
    simp only [wire_CutNum.l0]
    rw [if_pos (by omega), if_pos (by omega), if_pos (by rw [hlen]; omega)]
    rw [show rd [x0, x1, x2, x3] 0 = x0 from rfl, or8 (by omega) (by omega) a0 b0, w64 (by omega) (by omega)]
    simp
   refine Ev.step (f := fun k => wire_CutNum.l0 k (x0 :: x1 :: x2 :: x3 :: r) (x0 * 256 + x1) [x0, x1, x2, x3] 4 2) (fun k => ?_) ?_
   ·
    simp only [wire_CutNum.l0]
    rw [if_pos (by omega), if_pos (by omega), if_pos (by rw [hlen]; omega)]
    rw [show rd [x0, x1, x2, x3] 1 = x1 from rfl, or8 (by omega) (by omega) a1 b1, w64 (by omega) (by omega)]
    rfl
   refine Ev.step (f := fun k => wire_CutNum.l0 k (x0 :: x1 :: x2 :: x3 :: r) ((x0 * 256 + x1) * 256 + x2) [x0, x1, x2, x3] 4 3) (fun k => ?_) ?_
   ·
    simp only [wire_CutNum.l0]
    rw [if_pos (by omega), if_pos (by omega), if_pos (by rw [hlen]; omega)]
    rw [show rd [x0, x1, x2, x3] 2 = x2 from rfl, or8 (by omega) (by omega) a2 b2, w64 (by omega) (by omega)]
    rfl
   refine Ev.step (f := fun k => wire_CutNum.l0 k (x0 :: x1 :: x2 :: x3 :: r) (((x0 * 256 + x1) * 256 + x2) * 256 + x3) [x0, x1, x2, x3] 4 4) (fun k => ?_) ?_
   ·
    simp only [wire_CutNum.l0]
    rw [if_pos (by omega), if_pos (by omega), if_pos (by rw [hlen]; omega)]
    rw [show rd [x0, x1, x2, x3] 3 = x3 from rfl, or8 (by omega) (by omega) a3 b3, w64 (by omega) (by omega)]
    rfl
   refine Ev.step (f := fun _ => some (val4 (x0 :: x1 :: x2 :: x3 :: r), r, true)) (fun k => ?_) (Ev.now _)
   simp only [wire_CutNum.l0]
   rw [if_neg (by omega), if_pos (by simp only [List.length_cons]; omega)]
   rw [show (x0 :: x1 :: x2 :: x3 :: r).drop 4 = r from rfl, clone_eq (by simp only [List.length_cons] at hl; omega)]
   simp only [Option.bind_some, Option.some.injEq, Prod.mk.injEq, and_true]
   simp [val4, rd]
   omega
end Go.Proofs.Ytfbkljpfopiegaa.Pl
