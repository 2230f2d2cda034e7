/-
  No cell of these rows narrows 'for every input' (looked for: loops, veiled, ifaces, maps, wideKeys, modest, calm, conditions, laid).
  DERIVED. THE GIVEN ROWS OF THIS SEAT. 4 by the template 'for every input the law returns true; each argument reads behind the call as it read before'; 0 by the template 'total and deterministic' (their statements: YtgcicgjfimfhpaaTotals.lean).
  GIVEN WITH THE SEED: the statements are not yours to turn. If you find one false, say at which input.
  Laid BY PROGRAM, IN A SANDBOX (cutbox-rows.mjs): the forced cells as the released guide's own fill.sh prints them over the translation 1026527b025f9b5c… (all of the seat's roots in one cut). By AI agents, Wed Nov 11 2026. No macro, syntax, notation, axiom, sorry.
-/
import Derived.Test.YtgcicgjfimfhpaaChecked
import GoSem.Claim
import GoSem.ClaimJoined
import GoSem.ClaimMapViews
import Derived.JoinedTies
import Derived.KernelRfl
namespace Go.Proofs.Ytgcicgjfimfhpaa
/- THE CELL 'sum', in the pinned program and in every row, IS THE sha256 OF THE DUMP (.gsa) THAT YtgcicgjfimfhpaaProg.lean LOADS. Nothing in Lean hashes anything: it is a label: what it is worth is what the hold of that sum in a sandbox is worth. -/
noncomputable def Try.pinned : Pinned := { name := "ytgcicgjfimfhpaa", sum := "1026527b025f9b5cd21ea650a83c938d4e7e8ca7f3e23ed6e088b63abb9b3685", checked := Try.checked }
namespace Rows
def none {H : Type} : Left H := { results := [], args := [] }

/-- 'shardloglaw09.MemModel': WHATEVER THE INPUT: true; the input reads as it did. -/
def memModelSpec : ChangeSpec := { name := "memModel", fn := fun _ => fun
  | [d] => { results := [.lit (.bool true)], args := [d] }
  | _ => none }
def memModelRow : OpenClaim := { program := "ytgcicgjfimfhpaa", sum := "1026527b025f9b5cd21ea650a83c938d4e7e8ca7f3e23ed6e088b63abb9b3685", func := "shardlog/shardloglaw09.MemModel", spec := "memModel", inPlace := ["slices.overlaps[shardlog/api.Cell]"], unfollowed := true, recurses := true, apart := false }
def MemModelSaid : Prop := memModelRow.holds Try.pinned (OpenSpec.ofChange memModelSpec)

/-- ITS FALSE NEIGHBOUR: 'it returns false'. Refute it at one input. -/
def memModelWrong : ChangeSpec := { name := "memModel", fn := fun _ => fun
  | [d] => { results := [.lit (.bool false)], args := [d] }
  | _ => none }
def MemModelWrongFalsely : Prop := memModelRow.holds Try.pinned (OpenSpec.ofChange memModelWrong)

/-- 'shardloglaw09.MemGets': WHATEVER THE INPUT: true; the input reads as it did. -/
def memGetsSpec : ChangeSpec := { name := "memGets", fn := fun _ => fun
  | [d1, d2, d3, d4, d5] => { results := [.lit (.bool true)], args := [d1, d2, d3, d4, d5] }
  | _ => none }
def memGetsRow : OpenClaim := { program := "ytgcicgjfimfhpaa", sum := "1026527b025f9b5cd21ea650a83c938d4e7e8ca7f3e23ed6e088b63abb9b3685", func := "shardlog/shardloglaw09.MemGets", spec := "memGets", inPlace := ["slices.overlaps[shardlog/api.Cell]"], unfollowed := true, recurses := true, apart := false }
def MemGetsSaid : Prop := memGetsRow.holds Try.pinned (OpenSpec.ofChange memGetsSpec)

/-- ITS FALSE NEIGHBOUR: 'it returns false'. Refute it at one input. -/
def memGetsWrong : ChangeSpec := { name := "memGets", fn := fun _ => fun
  | [d1, d2, d3, d4, d5] => { results := [.lit (.bool false)], args := [d1, d2, d3, d4, d5] }
  | _ => none }
def MemGetsWrongFalsely : Prop := memGetsRow.holds Try.pinned (OpenSpec.ofChange memGetsWrong)

/-- 'shardloglaw09.MemOrders': WHATEVER THE INPUT: true; the input reads as it did. -/
def memOrdersSpec : ChangeSpec := { name := "memOrders", fn := fun _ => fun
  | [d1, d2] => { results := [.lit (.bool true)], args := [d1, d2] }
  | _ => none }
def memOrdersRow : OpenClaim := { program := "ytgcicgjfimfhpaa", sum := "1026527b025f9b5cd21ea650a83c938d4e7e8ca7f3e23ed6e088b63abb9b3685", func := "shardlog/shardloglaw09.MemOrders", spec := "memOrders", inPlace := ["slices.overlaps[shardlog/api.Cell]"], unfollowed := true, recurses := true, apart := false }
def MemOrdersSaid : Prop := memOrdersRow.holds Try.pinned (OpenSpec.ofChange memOrdersSpec)

/-- ITS FALSE NEIGHBOUR: 'it returns false'. Refute it at one input. -/
def memOrdersWrong : ChangeSpec := { name := "memOrders", fn := fun _ => fun
  | [d1, d2] => { results := [.lit (.bool false)], args := [d1, d2] }
  | _ => none }
def MemOrdersWrongFalsely : Prop := memOrdersRow.holds Try.pinned (OpenSpec.ofChange memOrdersWrong)

/-- 'shardloglaw09.MemKeeps': WHATEVER THE INPUT: true; the input reads as it did. -/
def memKeepsSpec : ChangeSpec := { name := "memKeeps", fn := fun _ => fun
  | [d] => { results := [.lit (.bool true)], args := [d] }
  | _ => none }
def memKeepsRow : OpenClaim := { program := "ytgcicgjfimfhpaa", sum := "1026527b025f9b5cd21ea650a83c938d4e7e8ca7f3e23ed6e088b63abb9b3685", func := "shardlog/shardloglaw09.MemKeeps", spec := "memKeeps", inPlace := ["slices.overlaps[shardlog/api.Cell]"], unfollowed := true, recurses := true, apart := false }
def MemKeepsSaid : Prop := memKeepsRow.holds Try.pinned (OpenSpec.ofChange memKeepsSpec)

/-- ITS FALSE NEIGHBOUR: 'it returns false'. Refute it at one input. -/
def memKeepsWrong : ChangeSpec := { name := "memKeeps", fn := fun _ => fun
  | [d] => { results := [.lit (.bool false)], args := [d] }
  | _ => none }
def MemKeepsWrongFalsely : Prop := memKeepsRow.holds Try.pinned (OpenSpec.ofChange memKeepsWrong)

/- THE SECOND FORM. 'bulk': how many values and letters a reading holds, each counted each time it is reached (what is shared counts as often as it is met; a slice's spare places count too). A statement '..UptoSaid' is the law's where the arguments, and the package variables that the reading takes, are together of bulk at most 1048576: NARROWER than '..Said'. Prove '..Said' where nothing that the law and all that it calls make is longer than what came in: it says more and counts as full. Else prove '..UptoSaid'. A law counts once. -/
mutual
def uptoBulk {H : Type} : DataW H → Nat
  | .lit (.string bytes) => bytes.length + 1
  | .lit _ => 1
  | .nil => 1
  | .ptr d => uptoBulk d + 1
  | .slice elems spare => uptoBulkAll elems + uptoBulkAll spare + 1
  | .agg parts => uptoBulkAll parts + 1
  | .iface _ d => uptoBulk d + 1
  | .map entries => uptoBulkEntries entries + 1
  | .held _ => 1
def uptoBulkAll {H : Type} : List (DataW H) → Nat
  | [] => 0
  | d :: r => uptoBulk d + uptoBulkAll r
def uptoBulkEntries {H : Type} : List (Lit × DataW H) → Nat
  | [] => 0
  | x :: r => uptoBulkEntry x + uptoBulkEntries r
def uptoBulkEntry {H : Type} : Lit × DataW H → Nat
  | (.string bytes, d) => bytes.length + uptoBulk d + 1
  | (_, d) => uptoBulk d + 1
 end
def uptoSmall : (H : Type) → List (DataW H) → Bool := fun _ ds => decide (uptoBulkAll ds ≤ 1048576)
def OpenSpec.upto (s : _root_.Go.ChangeSpec) : _root_.Go.OpenSpec := { _root_.Go.OpenSpec.ofChange s with cond := some uptoSmall }

/-- 'shardloglaw09.MemModel', WHERE WHAT IT READS IS OF BULK AT MOST 1048576: true; the input reads as it did. -/
def memModelUptoRow : OpenClaim := { program := "ytgcicgjfimfhpaa", sum := "1026527b025f9b5cd21ea650a83c938d4e7e8ca7f3e23ed6e088b63abb9b3685", func := "shardlog/shardloglaw09.MemModel", spec := "memModel", inPlace := ["slices.overlaps[shardlog/api.Cell]"], unfollowed := true, recurses := true, apart := false, narrowed := true }
def MemModelUptoSaid : Prop := memModelUptoRow.holds Try.pinned (OpenSpec.upto memModelSpec)

/-- 'shardloglaw09.MemGets', WHERE WHAT IT READS IS OF BULK AT MOST 1048576: true; the input reads as it did. -/
def memGetsUptoRow : OpenClaim := { program := "ytgcicgjfimfhpaa", sum := "1026527b025f9b5cd21ea650a83c938d4e7e8ca7f3e23ed6e088b63abb9b3685", func := "shardlog/shardloglaw09.MemGets", spec := "memGets", inPlace := ["slices.overlaps[shardlog/api.Cell]"], unfollowed := true, recurses := true, apart := false, narrowed := true }
def MemGetsUptoSaid : Prop := memGetsUptoRow.holds Try.pinned (OpenSpec.upto memGetsSpec)

/-- 'shardloglaw09.MemOrders', WHERE WHAT IT READS IS OF BULK AT MOST 1048576: true; the input reads as it did. -/
def memOrdersUptoRow : OpenClaim := { program := "ytgcicgjfimfhpaa", sum := "1026527b025f9b5cd21ea650a83c938d4e7e8ca7f3e23ed6e088b63abb9b3685", func := "shardlog/shardloglaw09.MemOrders", spec := "memOrders", inPlace := ["slices.overlaps[shardlog/api.Cell]"], unfollowed := true, recurses := true, apart := false, narrowed := true }
def MemOrdersUptoSaid : Prop := memOrdersUptoRow.holds Try.pinned (OpenSpec.upto memOrdersSpec)

/-- 'shardloglaw09.MemKeeps', WHERE WHAT IT READS IS OF BULK AT MOST 1048576: true; the input reads as it did. -/
def memKeepsUptoRow : OpenClaim := { program := "ytgcicgjfimfhpaa", sum := "1026527b025f9b5cd21ea650a83c938d4e7e8ca7f3e23ed6e088b63abb9b3685", func := "shardlog/shardloglaw09.MemKeeps", spec := "memKeeps", inPlace := ["slices.overlaps[shardlog/api.Cell]"], unfollowed := true, recurses := true, apart := false, narrowed := true }
def MemKeepsUptoSaid : Prop := memKeepsUptoRow.holds Try.pinned (OpenSpec.upto memKeepsSpec)

end Rows
end Go.Proofs.Ytgcicgjfimfhpaa
