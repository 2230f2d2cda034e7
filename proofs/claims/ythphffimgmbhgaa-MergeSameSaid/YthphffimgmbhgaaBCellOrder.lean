/- The printed order of cells answers the plain one. -/
import Derived.Test.YthphffimgmbhgaaQCellRight
import Derived.Test.YthphffimgmbhgaaXx2
namespace Go.Proofs.Ythphffimgmbhgaa.Pl
open Go.RowKit Go.Proofs.Ythphffimgmbhgaa.X Go.Proofs.YthphffimgmbhgaaW.PrintWords Go.Proofs.YthphffimgmbhgaaW.PrintLast Go.Proofs.YthphffimgmbhgaaW.PrintMore
theorem cmpString_eq (a b : ByteArray) : cmp_Compare_string.f a b = some (cmpT a b) := by
 unfold cmp_Compare_string.f cmp_isNaN_string.f cmpT
 rw [cmpB_less]
 simp only [Option.bind_some, bne_self_eq_false, Bool.false_eq_true, if_false]
 split
 ·
  rfl
 ·
  split <;> rfl
theorem cmpInt_eq (a b : Int) : cmp_Compare_int.f a b = some (cmpN a b) := by
 unfold cmp_Compare_int.f cmp_isNaN_int.f cmpN
 simp only [Option.bind_some, bne_self_eq_false, Bool.false_eq_true, if_false]
 split
 ·
  rfl
 ·
  split <;> rfl
theorem cmpOr_ev (a b c : Int) : Ev (fun k => cmp_Or_int.f k [a, b, c]) (if a = 0 then (if b = 0 then c else b) else a) := by
 unfold cmp_Or_int.f
 have hl : (([a, b, c] : List Int).length : Int) = 3 := rfl
 rw [hl]
 by_cases ha : a = 0
 ·
  rw [if_pos ha]
  refine Ev.step (f := fun k => cmp_Or_int.l0 k 0 [a, b, c] 3 1) (fun k => ?_) ?_
  ·
   simp only [cmp_Or_int.l0, hl]
   rw [if_pos (by omega), if_pos (by omega), if_pos (by omega), show rd [a, b, c] 0 = a from rfl, if_pos ha, w64 (by omega) (by omega)]
   rfl
  by_cases hb : b = 0
  ·
   rw [if_pos hb]
   refine Ev.step (f := fun k => cmp_Or_int.l0 k 0 [a, b, c] 3 2) (fun k => ?_) ?_
   ·
    simp only [cmp_Or_int.l0, hl]
    rw [if_pos (by omega), if_pos (by omega), if_pos (by omega), show rd [a, b, c] 1 = b from rfl, if_pos hb, w64 (by omega) (by omega)]
    rfl
   by_cases hc : c = 0
   ·
    refine Ev.step (f := fun k => cmp_Or_int.l0 k 0 [a, b, c] 3 3) (fun k => ?_) ?_
    ·
     simp only [cmp_Or_int.l0, hl]
     rw [if_pos (by omega), if_pos (by omega), if_pos (by omega), show rd [a, b, c] 2 = c from rfl, if_pos hc, w64 (by omega) (by omega)]
     rfl
    refine Ev.step (f := fun _ => some 0) (fun k => ?_) ((Ev.now 0).to hc.symm)
    simp only [cmp_Or_int.l0]
    rw [if_neg (by omega)]
   ·
    refine Ev.step (f := fun _ => some c) (fun k => ?_) (Ev.now _)
    simp only [cmp_Or_int.l0, hl]
    rw [if_pos (by omega), if_pos (by omega), if_pos (by omega), show rd [a, b, c] 2 = c from rfl, if_neg hc]
  ·
   rw [if_neg hb]
   refine Ev.step (f := fun _ => some b) (fun k => ?_) (Ev.now _)
   simp only [cmp_Or_int.l0, hl]
   rw [if_pos (by omega), if_pos (by omega), if_pos (by omega), show rd [a, b, c] 1 = b from rfl, if_neg hb]
 ·
  rw [if_neg ha]
  refine Ev.step (f := fun _ => some a) (fun k => ?_) (Ev.now _)
  simp only [cmp_Or_int.l0, hl]
  rw [if_pos (by omega), if_pos (by omega), if_pos (by omega), show rd [a, b, c] 0 = a from rfl, if_neg ha]
theorem cell_Compare_ev (r c : ByteArray) (t : Int) (v : ByteArray) (g : Bool) (r' c' : ByteArray) (t' : Int) (v' : ByteArray) (g' : Bool) : Ev (fun k => cell_Compare.f k r c t v g r' c' t' v' g') (cmpC r c t r' c' t') := by
 unfold cell_Compare.f
 simp only [cmpString_eq, cmpInt_eq, Option.bind_some]
 exact Ev.bind (cmpOr_ev _ _ _) (Ev.now _)
end Go.Proofs.Ythphffimgmbhgaa.Pl
