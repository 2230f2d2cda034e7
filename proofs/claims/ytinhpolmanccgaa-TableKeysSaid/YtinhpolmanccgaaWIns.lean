/- Words of this session's own, of no program: slices.Insert with one element: what its copies do to a row of elements of whatever size. -/
import Derived.Test.YtinhpolmanccgaaWOwn
import Derived.Lib.Overlaps
import Derived.Lib.AppendZerosOnto
import Derived.Shelf.Spec.SlicesInsert
namespace Go.Proofs.YtinhpolmanccgaaW.PrintWords
open Go.RowKit
theorem range_of {w : World} {g : Nat} {cs : Array Value} {t : TypeId} (h : w.heap[g]? = some (.cells cs t (0, 0))) : w.rangeAt g 0 cs.toList := fun j v hj => by
 rw [Nat.zero_add, cell_of_row w g j cs t (0, 0) h, ← Array.getElem?_toList]
 exact hj
theorem index_at {P : Program} (t e : TypeId) {i0 : TypeInfo} (ht : P.underlying t = some (.slice e)) (hi : P.info? e = some i0) (size : Nat) (hsz : i0.size = size) (g n c : Nat) (i : Int) (h0 : 0 ≤ i) (h1 : i < n) :
  ∀ W : World, (Instr.indexAt t (.slice (some ⟨g, 0, none⟩) n c) (.int .i64 i)).run P W = .ok (.pointer (some ⟨g, i.toNat * size, none⟩)) W := by
 intro W
 have hel : P.elem t = e := by simp [Program.elem, ht]
 rw [run_indexAt_slice W t _ n c .i64 i (by rw [hel]; exact ht), hel]
 simp [sizeOf, typeInfo, hi, hsz, h0, h1, Result.andThen, add_at]
theorem index_ad {P : Program} (t e : TypeId) {i0 : TypeInfo} (ht : P.underlying t = some (.slice e)) (hi : P.info? e = some i0) (size : Nat) (hsz : i0.size = size) (ad : Addr) (n c : Nat) (i : Int) (h0 : 0 ≤ i) (h1 : i < n) :
  ∀ W : World, (Instr.indexAt t (.slice (some ad) n c) (.int .i64 i)).run P W = .ok (.pointer (some (ad.add (i.toNat * size)))) W := by
 intro W
 have hel : P.elem t = e := by simp [Program.elem, ht]
 rw [run_indexAt_slice W t _ n c .i64 i (by rw [hel]; exact ht), hel]
 simp [sizeOf, typeInfo, hi, hsz, h0, h1, Result.andThen]
theorem meas0 {n i : Nat} (h : i < n) : n - ((i : Int) + 1).toNat < n - ((i : Int)).toNat := by omega
theorem meas1 {n i : Nat} {j : Int} (hj : j = (i : Int) + 1) (h : i < n) : n - (intOf (.int .i64 j)).toNat < n - (intOf (.int .i64 (i : Int))).toNat := by
 subst hj
 exact meas0 h
end Go.Proofs.YtinhpolmanccgaaW.PrintWords
