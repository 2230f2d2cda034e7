/-
  No cell of these rows narrows 'for every input' (looked for: loops, veiled, ifaces, maps, wideKeys, modest, calm, conditions, laid).
  DERIVED. THE GIVEN ROWS OF THIS SEAT. 3 by the template 'for every input the law returns true; each argument reads behind the call as it read before'; 0 by the template 'total and deterministic' (their statements: YtcbhfedcdnjljaaGreatTotals.lean).
  GIVEN WITH THE SEED: the statements are not yours to turn. If you find one false, say at which input.
  Laid BY PROGRAM, IN A SANDBOX (cutbox-rows.mjs): the forced cells as the released guide's own fill.sh prints them over the translation f01aef39ca4bc484… (all of the seat's roots in one cut). By AI agents, Wed Nov 11 2026. No macro, syntax, notation, axiom, sorry.
-/
import Derived.Test.YtcbhfedcdnjljaaGreatChecked
import GoSem.Claim
import GoSem.ClaimJoined
import GoSem.ClaimMapViews
import Derived.JoinedTies
import Derived.KernelRfl
namespace Go.Proofs.YtcbhfedcdnjljaaGreat
/- THE CELL 'sum', in the pinned program and in every row, IS THE sha256 OF THE DUMP (.gsa) THAT YtcbhfedcdnjljaaGreatProg.lean LOADS. Nothing in Lean hashes anything: it is a label: what it is worth is what the hold of that sum in a sandbox is worth. -/
noncomputable def Tryz.pinned : Pinned := { name := "ytcbhfedcdnjljaagreat", sum := "f01aef39ca4bc484cadca67f53646f89c0294885b980edaa6e988cde06222bb2", checked := Tryz.checked }
namespace Rows
def none {H : Type} : Left H := { results := [], args := [] }

/-- 'shardloglaw14.TreeModel': WHATEVER THE INPUT: true; the input reads as it did. -/
def treeModelSpec : ChangeSpec := { name := "treeModel", fn := fun _ => fun
  | [d1, d2] => { results := [.lit (.bool true)], args := [d1, d2] }
  | _ => none }
def treeModelRow : OpenClaim := { program := "ytcbhfedcdnjljaagreat", sum := "f01aef39ca4bc484cadca67f53646f89c0294885b980edaa6e988cde06222bb2", func := "shardlog/shardloglaw14.TreeModel", spec := "treeModel", inPlace := ["slices.overlaps[shardlog/api.Cell]"], unfollowed := true, recurses := true, apart := false }
def TreeModelSaid : Prop := treeModelRow.holds Tryz.pinned (OpenSpec.ofChange treeModelSpec)

/-- ITS FALSE NEIGHBOUR: 'it returns false'. Refute it at one input. -/
def treeModelWrong : ChangeSpec := { name := "treeModel", fn := fun _ => fun
  | [d1, d2] => { results := [.lit (.bool false)], args := [d1, d2] }
  | _ => none }
def TreeModelWrongFalsely : Prop := treeModelRow.holds Tryz.pinned (OpenSpec.ofChange treeModelWrong)

/-- 'shardloglaw14.TreeLevels': WHATEVER THE INPUT: true; the input reads as it did. -/
def treeLevelsSpec : ChangeSpec := { name := "treeLevels", fn := fun _ => fun
  | [d1, d2] => { results := [.lit (.bool true)], args := [d1, d2] }
  | _ => none }
def treeLevelsRow : OpenClaim := { program := "ytcbhfedcdnjljaagreat", sum := "f01aef39ca4bc484cadca67f53646f89c0294885b980edaa6e988cde06222bb2", func := "shardlog/shardloglaw14.TreeLevels", spec := "treeLevels", inPlace := ["slices.overlaps[shardlog/api.Cell]"], unfollowed := true, recurses := true, apart := false }
def TreeLevelsSaid : Prop := treeLevelsRow.holds Tryz.pinned (OpenSpec.ofChange treeLevelsSpec)

/-- ITS FALSE NEIGHBOUR: 'it returns false'. Refute it at one input. -/
def treeLevelsWrong : ChangeSpec := { name := "treeLevels", fn := fun _ => fun
  | [d1, d2] => { results := [.lit (.bool false)], args := [d1, d2] }
  | _ => none }
def TreeLevelsWrongFalsely : Prop := treeLevelsRow.holds Tryz.pinned (OpenSpec.ofChange treeLevelsWrong)

/-- 'shardloglaw14.TreeKeeps': WHATEVER THE INPUT: true; the input reads as it did. -/
def treeKeepsSpec : ChangeSpec := { name := "treeKeeps", fn := fun _ => fun
  | [d1, d2] => { results := [.lit (.bool true)], args := [d1, d2] }
  | _ => none }
def treeKeepsRow : OpenClaim := { program := "ytcbhfedcdnjljaagreat", sum := "f01aef39ca4bc484cadca67f53646f89c0294885b980edaa6e988cde06222bb2", func := "shardlog/shardloglaw14.TreeKeeps", spec := "treeKeeps", inPlace := ["slices.overlaps[shardlog/api.Cell]"], unfollowed := true, recurses := true, apart := false }
def TreeKeepsSaid : Prop := treeKeepsRow.holds Tryz.pinned (OpenSpec.ofChange treeKeepsSpec)

/-- ITS FALSE NEIGHBOUR: 'it returns false'. Refute it at one input. -/
def treeKeepsWrong : ChangeSpec := { name := "treeKeeps", fn := fun _ => fun
  | [d1, d2] => { results := [.lit (.bool false)], args := [d1, d2] }
  | _ => none }
def TreeKeepsWrongFalsely : Prop := treeKeepsRow.holds Tryz.pinned (OpenSpec.ofChange treeKeepsWrong)

/- THE SECOND FORM. 'bulk': how many values and letters a reading holds, each counted each time it is reached (what is shared counts as often as it is met; a slice's spare places count too). A statement '..UptoSaid' is the law's where the arguments, and the package variables that the reading takes, are together of bulk at most 1048576: NARROWER than '..Said'. Prove '..Said' where nothing that the law and all that it calls make is longer than what came in: it says more and counts as full. Else prove '..UptoSaid'. A law counts once. -/
mutual
def uptoBulk {H : Type} : DataW H → Nat
  | .lit (.string bytes) => bytes.length + 1
  | .lit _ => 1
  | .nil => 1
  | .ptr d => uptoBulk d + 1
  | .slice elems spare => uptoBulkAll elems + uptoBulkAll spare + 1
  | .agg parts => uptoBulkAll parts + 1
  | .iface _ d => uptoBulk d + 1
  | .map entries => uptoBulkEntries entries + 1
  | .held _ => 1
def uptoBulkAll {H : Type} : List (DataW H) → Nat
  | [] => 0
  | d :: r => uptoBulk d + uptoBulkAll r
def uptoBulkEntries {H : Type} : List (Lit × DataW H) → Nat
  | [] => 0
  | x :: r => uptoBulkEntry x + uptoBulkEntries r
def uptoBulkEntry {H : Type} : Lit × DataW H → Nat
  | (.string bytes, d) => bytes.length + uptoBulk d + 1
  | (_, d) => uptoBulk d + 1
 end
def uptoSmall : (H : Type) → List (DataW H) → Bool := fun _ ds => decide (uptoBulkAll ds ≤ 1048576)
def OpenSpec.upto (s : _root_.Go.ChangeSpec) : _root_.Go.OpenSpec := { _root_.Go.OpenSpec.ofChange s with cond := some uptoSmall }

/-- 'shardloglaw14.TreeModel', WHERE WHAT IT READS IS OF BULK AT MOST 1048576: true; the input reads as it did. -/
def treeModelUptoRow : OpenClaim := { program := "ytcbhfedcdnjljaagreat", sum := "f01aef39ca4bc484cadca67f53646f89c0294885b980edaa6e988cde06222bb2", func := "shardlog/shardloglaw14.TreeModel", spec := "treeModel", inPlace := ["slices.overlaps[shardlog/api.Cell]"], unfollowed := true, recurses := true, apart := false, narrowed := true }
def TreeModelUptoSaid : Prop := treeModelUptoRow.holds Tryz.pinned (OpenSpec.upto treeModelSpec)

/-- 'shardloglaw14.TreeLevels', WHERE WHAT IT READS IS OF BULK AT MOST 1048576: true; the input reads as it did. -/
def treeLevelsUptoRow : OpenClaim := { program := "ytcbhfedcdnjljaagreat", sum := "f01aef39ca4bc484cadca67f53646f89c0294885b980edaa6e988cde06222bb2", func := "shardlog/shardloglaw14.TreeLevels", spec := "treeLevels", inPlace := ["slices.overlaps[shardlog/api.Cell]"], unfollowed := true, recurses := true, apart := false, narrowed := true }
def TreeLevelsUptoSaid : Prop := treeLevelsUptoRow.holds Tryz.pinned (OpenSpec.upto treeLevelsSpec)

/-- 'shardloglaw14.TreeKeeps', WHERE WHAT IT READS IS OF BULK AT MOST 1048576: true; the input reads as it did. -/
def treeKeepsUptoRow : OpenClaim := { program := "ytcbhfedcdnjljaagreat", sum := "f01aef39ca4bc484cadca67f53646f89c0294885b980edaa6e988cde06222bb2", func := "shardlog/shardloglaw14.TreeKeeps", spec := "treeKeeps", inPlace := ["slices.overlaps[shardlog/api.Cell]"], unfollowed := true, recurses := true, apart := false, narrowed := true }
def TreeKeepsUptoSaid : Prop := treeKeepsUptoRow.holds Tryz.pinned (OpenSpec.upto treeKeepsSpec)

end Rows
end Go.Proofs.YtcbhfedcdnjljaaGreat
