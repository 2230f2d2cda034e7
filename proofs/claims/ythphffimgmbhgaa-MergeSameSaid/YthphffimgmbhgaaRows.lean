/-
  No cell of these rows narrows 'for every input' (looked for: loops, veiled, ifaces, maps, wideKeys, modest, calm, conditions, laid).
  DERIVED. THE GIVEN ROWS OF THIS SEAT. 7 by the template 'for every input the law returns true; each argument reads behind the call as it read before'; 0 by the template 'total and deterministic' (their statements: YthphffimgmbhgaaTotals.lean).
  GIVEN WITH THE SEED: the statements are not yours to turn. If you find one false, say at which input.
  Laid BY PROGRAM, IN A SANDBOX (cutbox-rows.mjs): the forced cells as the released guide's own fill.sh prints them over the translation b6cc6c4caa323116… (all of the seat's roots in one cut). By AI agents, Wed Nov 11 2026. No macro, syntax, notation, axiom, sorry.
-/
import Derived.Test.YthphffimgmbhgaaChecked
import GoSem.Claim
import GoSem.ClaimJoined
import GoSem.ClaimMapViews
import Derived.JoinedTies
import Derived.KernelRfl
namespace Go.Proofs.Ythphffimgmbhgaa
/- THE CELL 'sum', in the pinned program and in every row, IS THE sha256 OF THE DUMP (.gsa) THAT YthphffimgmbhgaaProg.lean LOADS. Nothing in Lean hashes anything: it is a label: what it is worth is what the hold of that sum in a sandbox is worth. -/
noncomputable def Try.pinned : Pinned := { name := "ythphffimgmbhgaa", sum := "b6cc6c4caa323116cd5a0a9f2c25c9828ea15da6fb06fa3c532ee8c6d832f2e8", checked := Try.checked }
namespace Rows
def none {H : Type} : Left H := { results := [], args := [] }

/-- 'shardloglaw13.MergeAll': WHATEVER THE INPUT: true; the input reads as it did. -/
def mergeAllSpec : ChangeSpec := { name := "mergeAll", fn := fun _ => fun
  | [d] => { results := [.lit (.bool true)], args := [d] }
  | _ => none }
def mergeAllRow : OpenClaim := { program := "ythphffimgmbhgaa", sum := "b6cc6c4caa323116cd5a0a9f2c25c9828ea15da6fb06fa3c532ee8c6d832f2e8", func := "shardlog/shardloglaw13.MergeAll", spec := "mergeAll", unfollowed := true, recurses := true, apart := false }
def MergeAllSaid : Prop := mergeAllRow.holds Try.pinned (OpenSpec.ofChange mergeAllSpec)

/-- ITS FALSE NEIGHBOUR: 'it returns false'. Refute it at one input. -/
def mergeAllWrong : ChangeSpec := { name := "mergeAll", fn := fun _ => fun
  | [d] => { results := [.lit (.bool false)], args := [d] }
  | _ => none }
def MergeAllWrongFalsely : Prop := mergeAllRow.holds Try.pinned (OpenSpec.ofChange mergeAllWrong)

/-- 'shardloglaw13.MergeCleans': WHATEVER THE INPUT: true; the input reads as it did. -/
def mergeCleansSpec : ChangeSpec := { name := "mergeCleans", fn := fun _ => fun
  | [d1, d2] => { results := [.lit (.bool true)], args := [d1, d2] }
  | _ => none }
def mergeCleansRow : OpenClaim := { program := "ythphffimgmbhgaa", sum := "b6cc6c4caa323116cd5a0a9f2c25c9828ea15da6fb06fa3c532ee8c6d832f2e8", func := "shardlog/shardloglaw13.MergeCleans", spec := "mergeCleans", unfollowed := true, recurses := true, apart := false }
def MergeCleansSaid : Prop := mergeCleansRow.holds Try.pinned (OpenSpec.ofChange mergeCleansSpec)

/-- ITS FALSE NEIGHBOUR: 'it returns false'. Refute it at one input. -/
def mergeCleansWrong : ChangeSpec := { name := "mergeCleans", fn := fun _ => fun
  | [d1, d2] => { results := [.lit (.bool false)], args := [d1, d2] }
  | _ => none }
def MergeCleansWrongFalsely : Prop := mergeCleansRow.holds Try.pinned (OpenSpec.ofChange mergeCleansWrong)

/-- 'shardloglaw13.MergeWins': WHATEVER THE INPUT: true; the input reads as it did. -/
def mergeWinsSpec : ChangeSpec := { name := "mergeWins", fn := fun _ => fun
  | [d] => { results := [.lit (.bool true)], args := [d] }
  | _ => none }
def mergeWinsRow : OpenClaim := { program := "ythphffimgmbhgaa", sum := "b6cc6c4caa323116cd5a0a9f2c25c9828ea15da6fb06fa3c532ee8c6d832f2e8", func := "shardlog/shardloglaw13.MergeWins", spec := "mergeWins", unfollowed := true, recurses := true, apart := false }
def MergeWinsSaid : Prop := mergeWinsRow.holds Try.pinned (OpenSpec.ofChange mergeWinsSpec)

/-- ITS FALSE NEIGHBOUR: 'it returns false'. Refute it at one input. -/
def mergeWinsWrong : ChangeSpec := { name := "mergeWins", fn := fun _ => fun
  | [d] => { results := [.lit (.bool false)], args := [d] }
  | _ => none }
def MergeWinsWrongFalsely : Prop := mergeWinsRow.holds Try.pinned (OpenSpec.ofChange mergeWinsWrong)

/-- 'shardloglaw13.MergeSees': WHATEVER THE INPUT: true; the input reads as it did. -/
def mergeSeesSpec : ChangeSpec := { name := "mergeSees", fn := fun _ => fun
  | [d1, d2, d3] => { results := [.lit (.bool true)], args := [d1, d2, d3] }
  | _ => none }
def mergeSeesRow : OpenClaim := { program := "ythphffimgmbhgaa", sum := "b6cc6c4caa323116cd5a0a9f2c25c9828ea15da6fb06fa3c532ee8c6d832f2e8", func := "shardlog/shardloglaw13.MergeSees", spec := "mergeSees", unfollowed := true, recurses := true, apart := false }
def MergeSeesSaid : Prop := mergeSeesRow.holds Try.pinned (OpenSpec.ofChange mergeSeesSpec)

/-- ITS FALSE NEIGHBOUR: 'it returns false'. Refute it at one input. -/
def mergeSeesWrong : ChangeSpec := { name := "mergeSees", fn := fun _ => fun
  | [d1, d2, d3] => { results := [.lit (.bool false)], args := [d1, d2, d3] }
  | _ => none }
def MergeSeesWrongFalsely : Prop := mergeSeesRow.holds Try.pinned (OpenSpec.ofChange mergeSeesWrong)

/-- 'shardloglaw13.MergeSteps': WHATEVER THE INPUT: true; the input reads as it did. -/
def mergeStepsSpec : ChangeSpec := { name := "mergeSteps", fn := fun _ => fun
  | [d1, d2] => { results := [.lit (.bool true)], args := [d1, d2] }
  | _ => none }
def mergeStepsRow : OpenClaim := { program := "ythphffimgmbhgaa", sum := "b6cc6c4caa323116cd5a0a9f2c25c9828ea15da6fb06fa3c532ee8c6d832f2e8", func := "shardlog/shardloglaw13.MergeSteps", spec := "mergeSteps", unfollowed := true, recurses := true, apart := false }
def MergeStepsSaid : Prop := mergeStepsRow.holds Try.pinned (OpenSpec.ofChange mergeStepsSpec)

/-- ITS FALSE NEIGHBOUR: 'it returns false'. Refute it at one input. -/
def mergeStepsWrong : ChangeSpec := { name := "mergeSteps", fn := fun _ => fun
  | [d1, d2] => { results := [.lit (.bool false)], args := [d1, d2] }
  | _ => none }
def MergeStepsWrongFalsely : Prop := mergeStepsRow.holds Try.pinned (OpenSpec.ofChange mergeStepsWrong)

/-- 'shardloglaw13.MergeKeeps': WHATEVER THE INPUT: true; the input reads as it did. -/
def mergeKeepsSpec : ChangeSpec := { name := "mergeKeeps", fn := fun _ => fun
  | [d] => { results := [.lit (.bool true)], args := [d] }
  | _ => none }
def mergeKeepsRow : OpenClaim := { program := "ythphffimgmbhgaa", sum := "b6cc6c4caa323116cd5a0a9f2c25c9828ea15da6fb06fa3c532ee8c6d832f2e8", func := "shardlog/shardloglaw13.MergeKeeps", spec := "mergeKeeps", unfollowed := true, recurses := true, apart := false }
def MergeKeepsSaid : Prop := mergeKeepsRow.holds Try.pinned (OpenSpec.ofChange mergeKeepsSpec)

/-- ITS FALSE NEIGHBOUR: 'it returns false'. Refute it at one input. -/
def mergeKeepsWrong : ChangeSpec := { name := "mergeKeeps", fn := fun _ => fun
  | [d] => { results := [.lit (.bool false)], args := [d] }
  | _ => none }
def MergeKeepsWrongFalsely : Prop := mergeKeepsRow.holds Try.pinned (OpenSpec.ofChange mergeKeepsWrong)

/-- 'shardloglaw13.MergeSame': WHATEVER THE INPUT: true; the input reads as it did. -/
def mergeSameSpec : ChangeSpec := { name := "mergeSame", fn := fun _ => fun
  | [d1, d2, d3] => { results := [.lit (.bool true)], args := [d1, d2, d3] }
  | _ => none }
def mergeSameRow : OpenClaim := { program := "ythphffimgmbhgaa", sum := "b6cc6c4caa323116cd5a0a9f2c25c9828ea15da6fb06fa3c532ee8c6d832f2e8", func := "shardlog/shardloglaw13.MergeSame", spec := "mergeSame", unfollowed := true, recurses := true, apart := false }
def MergeSameSaid : Prop := mergeSameRow.holds Try.pinned (OpenSpec.ofChange mergeSameSpec)

/-- ITS FALSE NEIGHBOUR: 'it returns false'. Refute it at one input. -/
def mergeSameWrong : ChangeSpec := { name := "mergeSame", fn := fun _ => fun
  | [d1, d2, d3] => { results := [.lit (.bool false)], args := [d1, d2, d3] }
  | _ => none }
def MergeSameWrongFalsely : Prop := mergeSameRow.holds Try.pinned (OpenSpec.ofChange mergeSameWrong)

/- THE SECOND FORM. 'bulk': how many values and letters a reading holds, each counted each time it is reached (what is shared counts as often as it is met; a slice's spare places count too). A statement '..UptoSaid' is the law's where the arguments, and the package variables that the reading takes, are together of bulk at most 1048576: NARROWER than '..Said'. Prove '..Said' where nothing that the law and all that it calls make is longer than what came in: it says more and counts as full. Else prove '..UptoSaid'. A law counts once. -/
mutual
def uptoBulk {H : Type} : DataW H → Nat
  | .lit (.string bytes) => bytes.length + 1
  | .lit _ => 1
  | .nil => 1
  | .ptr d => uptoBulk d + 1
  | .slice elems spare => uptoBulkAll elems + uptoBulkAll spare + 1
  | .agg parts => uptoBulkAll parts + 1
  | .iface _ d => uptoBulk d + 1
  | .map entries => uptoBulkEntries entries + 1
  | .held _ => 1
def uptoBulkAll {H : Type} : List (DataW H) → Nat
  | [] => 0
  | d :: r => uptoBulk d + uptoBulkAll r
def uptoBulkEntries {H : Type} : List (Lit × DataW H) → Nat
  | [] => 0
  | x :: r => uptoBulkEntry x + uptoBulkEntries r
def uptoBulkEntry {H : Type} : Lit × DataW H → Nat
  | (.string bytes, d) => bytes.length + uptoBulk d + 1
  | (_, d) => uptoBulk d + 1
 end
def uptoSmall : (H : Type) → List (DataW H) → Bool := fun _ ds => decide (uptoBulkAll ds ≤ 1048576)
def OpenSpec.upto (s : _root_.Go.ChangeSpec) : _root_.Go.OpenSpec := { _root_.Go.OpenSpec.ofChange s with cond := some uptoSmall }

/-- 'shardloglaw13.MergeAll', WHERE WHAT IT READS IS OF BULK AT MOST 1048576: true; the input reads as it did. -/
def mergeAllUptoRow : OpenClaim := { program := "ythphffimgmbhgaa", sum := "b6cc6c4caa323116cd5a0a9f2c25c9828ea15da6fb06fa3c532ee8c6d832f2e8", func := "shardlog/shardloglaw13.MergeAll", spec := "mergeAll", unfollowed := true, recurses := true, apart := false, narrowed := true }
def MergeAllUptoSaid : Prop := mergeAllUptoRow.holds Try.pinned (OpenSpec.upto mergeAllSpec)

/-- 'shardloglaw13.MergeCleans', WHERE WHAT IT READS IS OF BULK AT MOST 1048576: true; the input reads as it did. -/
def mergeCleansUptoRow : OpenClaim := { program := "ythphffimgmbhgaa", sum := "b6cc6c4caa323116cd5a0a9f2c25c9828ea15da6fb06fa3c532ee8c6d832f2e8", func := "shardlog/shardloglaw13.MergeCleans", spec := "mergeCleans", unfollowed := true, recurses := true, apart := false, narrowed := true }
def MergeCleansUptoSaid : Prop := mergeCleansUptoRow.holds Try.pinned (OpenSpec.upto mergeCleansSpec)

/-- 'shardloglaw13.MergeWins', WHERE WHAT IT READS IS OF BULK AT MOST 1048576: true; the input reads as it did. -/
def mergeWinsUptoRow : OpenClaim := { program := "ythphffimgmbhgaa", sum := "b6cc6c4caa323116cd5a0a9f2c25c9828ea15da6fb06fa3c532ee8c6d832f2e8", func := "shardlog/shardloglaw13.MergeWins", spec := "mergeWins", unfollowed := true, recurses := true, apart := false, narrowed := true }
def MergeWinsUptoSaid : Prop := mergeWinsUptoRow.holds Try.pinned (OpenSpec.upto mergeWinsSpec)

/-- 'shardloglaw13.MergeSees', WHERE WHAT IT READS IS OF BULK AT MOST 1048576: true; the input reads as it did. -/
def mergeSeesUptoRow : OpenClaim := { program := "ythphffimgmbhgaa", sum := "b6cc6c4caa323116cd5a0a9f2c25c9828ea15da6fb06fa3c532ee8c6d832f2e8", func := "shardlog/shardloglaw13.MergeSees", spec := "mergeSees", unfollowed := true, recurses := true, apart := false, narrowed := true }
def MergeSeesUptoSaid : Prop := mergeSeesUptoRow.holds Try.pinned (OpenSpec.upto mergeSeesSpec)

/-- 'shardloglaw13.MergeSteps', WHERE WHAT IT READS IS OF BULK AT MOST 1048576: true; the input reads as it did. -/
def mergeStepsUptoRow : OpenClaim := { program := "ythphffimgmbhgaa", sum := "b6cc6c4caa323116cd5a0a9f2c25c9828ea15da6fb06fa3c532ee8c6d832f2e8", func := "shardlog/shardloglaw13.MergeSteps", spec := "mergeSteps", unfollowed := true, recurses := true, apart := false, narrowed := true }
def MergeStepsUptoSaid : Prop := mergeStepsUptoRow.holds Try.pinned (OpenSpec.upto mergeStepsSpec)

/-- 'shardloglaw13.MergeKeeps', WHERE WHAT IT READS IS OF BULK AT MOST 1048576: true; the input reads as it did. -/
def mergeKeepsUptoRow : OpenClaim := { program := "ythphffimgmbhgaa", sum := "b6cc6c4caa323116cd5a0a9f2c25c9828ea15da6fb06fa3c532ee8c6d832f2e8", func := "shardlog/shardloglaw13.MergeKeeps", spec := "mergeKeeps", unfollowed := true, recurses := true, apart := false, narrowed := true }
def MergeKeepsUptoSaid : Prop := mergeKeepsUptoRow.holds Try.pinned (OpenSpec.upto mergeKeepsSpec)

/-- 'shardloglaw13.MergeSame', WHERE WHAT IT READS IS OF BULK AT MOST 1048576: true; the input reads as it did. -/
def mergeSameUptoRow : OpenClaim := { program := "ythphffimgmbhgaa", sum := "b6cc6c4caa323116cd5a0a9f2c25c9828ea15da6fb06fa3c532ee8c6d832f2e8", func := "shardlog/shardloglaw13.MergeSame", spec := "mergeSame", unfollowed := true, recurses := true, apart := false, narrowed := true }
def MergeSameUptoSaid : Prop := mergeSameUptoRow.holds Try.pinned (OpenSpec.upto mergeSameSpec)

end Rows
end Go.Proofs.Ythphffimgmbhgaa
