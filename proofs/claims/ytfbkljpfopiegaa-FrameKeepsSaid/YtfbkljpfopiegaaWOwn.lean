/- Words of this session's own, of no program: what a conversion of a string to bytes makes, and the contract of slices.Clone, for whatever kind of element. -/
import Derived.Test.YtfbkljpfopiegaaWMore
import Derived.Test.YtfbkljpfopiegaaWLast
import Derived.Lib.ConvBytes
import Derived.Lib.SlBytesConst
import Derived.WalkSpells
namespace Go.Proofs.YtfbkljpfopiegaaW.PrintWords
open Go.RowKit
theorem lsa.{u} : type_of% @List.setIfInBounds_toArray.{u} := @List.setIfInBounds_toArray
theorem lsz.{u} : type_of% @List.set_cons_zero.{u} := @List.set_cons_zero
theorem lss.{u} : type_of% @List.set_cons_succ.{u} := @List.set_cons_succ
theorem aS : type_of% @Aside0.mk := @Aside0.mk
theorem bal : type_of% @below_alloc := @below_alloc
theorem bdN : type_of% @pw_below_drewN := @pw_below_drewN
theorem bdo : type_of% @below_drew1 := @below_drew1
theorem wbl : type_of% @World.block_lt_of_cell? := @World.block_lt_of_cell?
theorem odt : type_of% @of_decide_eq_true := @of_decide_eq_true
theorem llt.{u} : type_of% @List.length_take.{u} := @List.length_take
theorem lld.{u} : type_of% @List.length_drop.{u} := @List.length_drop
theorem obm.{u, v} {α : Type u} {β : Type v} {x : Option α} {f : α → Option β} {b : β} (h : x.bind f = some b) : ∃ a, x = some a ∧ f a = some b := Option.bind_eq_some_iff.mp h
theorem cut_to3 {P : Program} (t e : TypeId) (kh : IntKind) {i : TypeInfo} (ht : P.underlying t = some (.slice e)) (hi : P.info? e = some i) (A : Option Addr) (n c : Nat) (j : Int) (h0 : 0 ≤ j) (hm : j ≤ n) (hc : n ≤ c) :
  ∀ W : World, (Instr.slice t (.slice A n c) none (some (.int kh j)) (some (.int kh j))).run P W = .ok (.slice A j.toNat j.toNat) W := by
 intro W
 have hel : P.elem t = e := by simp [Program.elem, ht]
 have hu : P.underlying t = some (.slice (P.elem t)) := by rw [hel]; exact ht
 have ha : (A.map fun x => x.add 0) = A := by cases A <;> simp [Addr.add]
 have h1 : j ≤ (c : Int) := by omega
 have h2 : j ≤ max j 0 := by omega
 go_simp
 simp [sizeOf, typeInfo, hi, Result.andThen]
theorem less_total : ∀ a b : List UInt8, (!(Op.bytesLess a b || a == b)) = Op.bytesLess b a
 | [], [] => rfl
 | [], _ :: _ => rfl
 | _ :: _, [] => rfl
 | x :: a, y :: b => by
  have ih := less_total a b
  simp only [Op.bytesLess, ← ih]
  by_cases h1 : x < y
  ·
   have h2 : ¬ y < x := fun h => absurd (UInt8.lt_trans h1 h) (UInt8.lt_irrefl x)
   have h3 : ¬ y = x := fun h => by rw [h] at h1; exact UInt8.lt_irrefl x h1
   simp [h1, h2, h3]
  ·
   by_cases h2 : y < x
   ·
    have h3 : ¬ x = y := fun h => by rw [h] at h2; exact UInt8.lt_irrefl y h2
    simp [h1, h2, h3]
   ·
    have h3 : x = y := UInt8.le_antisymm (UInt8.not_lt.1 h2) (UInt8.not_lt.1 h1)
    subst h3
    simp [h1]
theorem gtr_str (t : TypeId) (a b : ByteArray) : binOp .gtr t (.string a) (.string b) = pure (.bool (Op.bytesLess b.toList a.toList)) := by
 rw [← less_total]
 simp [binOp, Op.stringOp]
def lenSum {α : Type} (l : List (List α)) : Nat := (l.map List.length).sum
theorem lenSum_take {α : Type} (l : List (List α)) (k : Nat) (h : k < l.length) : lenSum (l.take (k + 1)) = lenSum (l.take k) + (l.getD ((k : Int).toNat) []).length := by
 unfold lenSum
 rw [List.take_succ_eq_append_getElem h, List.map_append, List.sum_append, Int.toNat_natCast, List.getD_eq_getElem?_getD, List.getElem?_eq_getElem h]
 simp
theorem lenSum_le {α : Type} (l : List (List α)) (k : Nat) : lenSum (l.take k) ≤ lenSum l := by
 unfold lenSum
 conv => rhs; rw [← List.take_append_drop k l]
 rw [List.map_append, List.sum_append]
 omega
theorem flat_length {α : Type} (l : List (List α)) : l.flatten.length = lenSum l := by simp [lenSum, List.length_flatten]
theorem flat_take {α : Type} (l : List (List α)) (k : Nat) (h : k < l.length) : (l.take (k + 1)).flatten = (l.take k).flatten ++ l.getD ((k : Int).toNat) [] := by
 rw [List.take_succ_eq_append_getElem h, List.flatten_append, Int.toNat_natCast, List.getD_eq_getElem?_getD, List.getElem?_eq_getElem h]
 simp
namespace Kd
theorem V_marked (W : World) (e : TypeId) (xs : List Int) (hm : xs.length ≤ 9223372036854775807) : V (Kd.int .u8) e (W.alloc (.cells (xs.map (Value.int .u8)).toArray e (xs.length, xs.length + 1))) W.heap.size (fun k => W.heap.size ≤ k) (.slice (some ⟨W.heap.size, 0, none⟩) xs.length xs.length) xs := by
 refine ⟨_, _, rfl, Nat.le_refl _, fun W' hW => ⟨rfl, hm, fun _ => ⟨_, rfl, fun j p hj => ?_⟩⟩⟩
 refine ⟨[.int .u8 p], rfl, rfl, fun i u hi => ?_⟩
 have hj1 : j < xs.length := (List.getElem?_eq_some_iff.1 hj).1
 have hi0 : i = 0 := by have := (List.getElem?_eq_some_iff.1 hi).1; simp at this; omega
 subst hi0
 have hu : u = .int .u8 p := by simpa using hi.symm
 subst hu
 have ha : Addr.add ⟨W.heap.size, 0, none⟩ (j * 1 + 0) = ⟨W.heap.size, j, none⟩ := by
  unfold Addr.add
  by_cases h0 : j = 0 <;> simp [h0]
 show W'.cell? (Addr.add ⟨W.heap.size, 0, none⟩ (j * 1 + 0)) = _
 rw [ha, World.cell?_of_block (hW W.heap.size (Nat.le_refl _) (by simp))]
 have hb := heap_alloc_new W (.cells (xs.map (Value.int .u8)).toArray e (xs.length, xs.length + 1))
 unfold World.cell?
 rw [hb]
 simp [hj]
theorem V_const {P : Program} {ops : Array Oper} {rest : List Oper} {o o2 : Oper} {a : Act} {Q : Exit → Act → World → Prop} {W : World} (hgd : o.guard = none) {N : Tmp} (_hd : o.dst = some N) (hgd2 : o2.guard = none) (t e : TypeId) {xs : List Int}
  (hrun : (execOp a.eval o).run P W = .ok (.value (.slice (some ⟨W.heap.size, 0, none⟩) xs.length xs.length)) (W.alloc (.cells (xs.map (Value.int .u8)).toArray e)))
  (ho2 : o2.op = .convert t t (.tmp N)) (hx : ∀ v, (a.put o.dst v).eval (.tmp N) = v) (ht : P.underlying t = some (.slice e)) (he : P.underlying e = some (.int .u8)) (hm : xs.length ≤ 9223372036854775807)
  (h : ∀ v1 w1, V (Kd.int .u8) e w1 W.heap.size (fun k => W.heap.size ≤ k) v1 xs → Below W.heap.size W w1 → wpList P ops Q rest ((a.put o.dst v1).put o2.dst v1) w1) : wpList P ops Q (o :: o2 :: rest) a W := by
 refine event_run hgd hrun (event_run hgd2 (v := .slice (some ⟨W.heap.size, 0, none⟩) xs.length xs.length) (w1 := W.alloc (.cells (xs.map (Value.int .u8)).toArray e (xs.length, xs.length + 1))) ?_ (h _ _ (V_marked W e xs hm) (below_alloc (Below.refl _ _) _)))
 simp only [execOp, ho2, hx]
 have hr := Lib.run_convert_bytes_const (P := P) W t e (xs.map (Value.int .u8)).toArray xs.length xs.length ht he
 rw [Sem.run_bind, hr]
 simp [Result.andThen, Sem.run_pure]
open Go.Proofs.YtfbkljpfopiegaaW.PrintLast in
section
variable {P : Program} {ops : Array Oper} {rest : List Oper} {o : Oper} {a : Act} {Q : Exit → Act → World → Prop} {Kc : Act → World → Prop}
end
end Kd
end Go.Proofs.YtfbkljpfopiegaaW.PrintWords
