/- The reference's order of cells answers the plain one. -/
import Derived.Test.YthphffimgmbhgaaBCellOrder
import Derived.Test.YthphffimgmbhgaaBRefRight
import Derived.Test.YthphffimgmbhgaaXx6
namespace Go.Proofs.Ythphffimgmbhgaa.Pl
open Go.RowKit Go.Proofs.Ythphffimgmbhgaa.X Go.Proofs.YthphffimgmbhgaaW.PrintWords Go.Proofs.YthphffimgmbhgaaW.PrintLast Go.Proofs.YthphffimgmbhgaaW.PrintMore
theorem len_size (s : ByteArray) : s.toList.length = s.size := by
 rw [ByteArray.toList_eq, Array.length_toList]
 rfl
theorem bt_at (s : ByteArray) (i : Nat) (h : i < s.toList.length) : bt s (i : Int) = ((s.toList[i]).toNat : Int) := by
 have hs : i < s.size := by rw [len_size] at h; exact h
 unfold bt
 rw [dif_pos (by simpa using hs)]
 simp only [Int.toNat_natCast, ByteArray.toList_eq]
 rfl
theorem ref_CText_l0 (a b : ByteArray) (ha : a.size ≤ 140737488355328) (d : Nat) : ∀ i : Nat, i ≤ a.size → i ≤ b.size → a.size - i = d → Ev (fun k => shardlogref08_Text.l0 k a b (i : Int)) (cmpB (a.toList.drop i) (b.toList.drop i)) := by
 have la := len_size a
 have lb := len_size b
 induction d with
 | zero =>
  intro i h1 h2 hd
  rw [List.drop_eq_nil_of_le (show a.toList.length ≤ i by omega)]
  refine Ev.step (f := fun k => shardlogref08_Text.j1 k a b (i : Int) false) (fun k => ?_) ?_
  ·
   simp only [shardlogref08_Text.l0]
   rw [if_neg (by omega)]
  by_cases hl : b.size = i
  ·
   rw [List.drop_eq_nil_of_le (show b.toList.length ≤ i by omega)]
   refine Ev.step (f := fun _ => some 0) (fun k => ?_) (Ev.now _)
   simp only [shardlogref08_Text.j1, Bool.false_eq_true, if_false]
   rw [if_neg (by omega), if_neg (by omega)]
  ·
   rw [List.drop_eq_getElem_cons (by omega)]
   refine Ev.step (f := fun _ => some (-1)) (fun k => ?_) (Ev.now _)
   simp only [shardlogref08_Text.j1, Bool.false_eq_true, if_false]
   rw [if_pos (by omega)]
 | succ d ih =>
  intro i h1 h2 hd
  have hia : i < a.toList.length := by omega
  rw [List.drop_eq_getElem_cons hia]
  by_cases hl : b.size = i
  ·
   rw [List.drop_eq_nil_of_le (show b.toList.length ≤ i by omega)]
   refine Ev.step (f := fun k => shardlogref08_Text.j1 k a b (i : Int) false) (fun k => ?_) ?_
   ·
    simp only [shardlogref08_Text.l0]
    rw [if_pos (by omega), decide_eq_false (by omega)]
   refine Ev.step (f := fun _ => some 1) (fun k => ?_) (Ev.now _)
   simp only [shardlogref08_Text.j1, Bool.false_eq_true, if_false]
   rw [if_neg (by omega), if_pos (by omega)]
  ·
   have hib : i < b.toList.length := by omega
   rw [List.drop_eq_getElem_cons hib]
   refine Ev.step (f := fun k => shardlogref08_Text.j1 k a b (i : Int) true) (fun k => ?_) ?_
   ·
    simp only [shardlogref08_Text.l0]
    rw [if_pos (by omega), decide_eq_true (by omega)]
   have ba := bt_at a i hia
   have bb := bt_at b i hib
   unfold cmpB
   by_cases c1 : a.toList[i] < b.toList[i]
   ·
    rw [if_pos c1]
    have := UInt8.lt_iff_toNat_lt.1 c1
    refine Ev.step (f := fun _ => some (-1)) (fun k => ?_) (Ev.now _)
    simp only [shardlogref08_Text.j1, if_true]
    rw [if_pos (by omega), if_pos (by omega), if_pos (by omega), if_pos (by omega)]
   ·
    rw [if_neg c1]
    have n1 : ¬ (a.toList[i]).toNat < (b.toList[i]).toNat := fun h => c1 (UInt8.lt_iff_toNat_lt.2 h)
    by_cases c2 : b.toList[i] < a.toList[i]
    ·
     rw [if_pos c2]
     have := UInt8.lt_iff_toNat_lt.1 c2
     refine Ev.step (f := fun _ => some 1) (fun k => ?_) (Ev.now _)
     simp only [shardlogref08_Text.j1, if_true]
     rw [if_pos (by omega), if_pos (by omega), if_pos (by omega), if_neg (by omega), if_pos (by omega)]
    ·
     rw [if_neg c2]
     have n2 : ¬ (b.toList[i]).toNat < (a.toList[i]).toNat := fun h => c2 (UInt8.lt_iff_toNat_lt.2 h)
     refine Ev.step (f := fun k => shardlogref08_Text.l0 k a b ((i + 1 : Nat) : Int)) (fun k => ?_) (ih (i + 1) (by omega) (by omega) (by omega))
     simp only [shardlogref08_Text.j1, if_true]
     rw [if_pos (by omega), if_pos (by omega), if_pos (by omega), if_neg (by omega), if_neg (by omega), w64 (by omega) (by omega)]
     rfl
theorem ref_CText_ev {a b : ByteArray} (ha : a.size ≤ 140737488355328) : Ev (fun k => shardlogref08_Text.f k a b) (cmpT a b) := by
 unfold shardlogref08_Text.f
 have := ref_CText_l0 a b ha a.size 0 (by omega) (by omega) (by omega)
 exact this
theorem ref_CCompare_ev {r c : ByteArray} {t : Int} {v : ByteArray} {g : Bool} {r' c' : ByteArray} {t' : Int} {v' : ByteArray} {g' : Bool} (h1 : r.size ≤ 140737488355328) (h2 : c.size ≤ 140737488355328) : Ev (fun k => shardlogref08_Compare.f k r c t v g r' c' t' v' g') (cmpC r c t r' c' t') := by
 unfold shardlogref08_Compare.f cmpC
 by_cases e1 : r.toList = r'.toList
 ·
  have z1 : cmpT r r' = 0 := cmpB_zero.2 e1
  rw [if_pos z1]
  refine Ev.pos e1 ?_
  by_cases e2 : c.toList = c'.toList
  ·
   have z2 : cmpT c c' = 0 := cmpB_zero.2 e2
   rw [if_pos z2]
   refine Ev.pos e2 ?_
   unfold cmpN
   by_cases k1 : t' < t
   ·
    simp only [gt_iff_lt, k1, if_true]
    exact Ev.now _
   ·
    by_cases k2 : t < t'
    ·
     simp only [gt_iff_lt, k1, k2, if_true, if_false]
     exact Ev.now _
    ·
     simp only [gt_iff_lt, k1, k2, if_false]
     exact Ev.now _
  ·
   have z2 : ¬ cmpT c c' = 0 := fun h => e2 (cmpB_zero.1 h)
   rw [if_neg z2]
   exact Ev.neg e2 (Ev.bind (ref_CText_ev h2) (Ev.now _))
 ·
  have z1 : ¬ cmpT r r' = 0 := fun h => e1 (cmpB_zero.1 h)
  rw [if_neg z1]
  exact Ev.neg e1 (Ev.bind (ref_CText_ev h1) (Ev.now _))
end Go.Proofs.Ythphffimgmbhgaa.Pl
