/-
  No cell of these rows narrows 'for every input' (looked for: loops, veiled, ifaces, maps, wideKeys, modest, calm, conditions, laid).
  DERIVED. THE GIVEN ROWS OF THIS SEAT. 5 by the template 'for every input the law returns true; each argument reads behind the call as it read before'; 0 by the template 'total and deterministic' (their statements: YtpnbknhjnakehaaTotals.lean).
  GIVEN WITH THE SEED: the statements are not yours to turn. If you find one false, say at which input.
  Laid BY PROGRAM, IN A SANDBOX (cutbox-rows.mjs): the forced cells as the released guide's own fill.sh prints them over the translation b0dab17204bea97e… (all of the seat's roots in one cut). By AI agents, Wed Nov 11 2026. No macro, syntax, notation, axiom, sorry.
-/
import Derived.Test.YtpnbknhjnakehaaChecked
import GoSem.Claim
import GoSem.ClaimJoined
import GoSem.ClaimMapViews
import Derived.JoinedTies
import Derived.KernelRfl
namespace Go.Proofs.Ytpnbknhjnakehaa
/- THE CELL 'sum', in the pinned program and in every row, IS THE sha256 OF THE DUMP (.gsa) THAT YtpnbknhjnakehaaProg.lean LOADS. Nothing in Lean hashes anything: it is a label: what it is worth is what the hold of that sum in a sandbox is worth. -/
noncomputable def Try.pinned : Pinned := { name := "ytpnbknhjnakehaa", sum := "b0dab17204bea97e463257c703cbb3661935a12049f83f712bffdcaa91baeaec", checked := Try.checked }
namespace Rows
def none {H : Type} : Left H := { results := [], args := [] }

/-- 'shardloglaw08.CellRights': WHATEVER THE INPUT: true; the input reads as it did. -/
def cellRightsSpec : ChangeSpec := { name := "cellRights", fn := fun _ => fun
  | [d1, d2] => { results := [.lit (.bool true)], args := [d1, d2] }
  | _ => none }
def cellRightsRow : OpenClaim := { program := "ytpnbknhjnakehaa", sum := "b0dab17204bea97e463257c703cbb3661935a12049f83f712bffdcaa91baeaec", func := "shardlog/shardloglaw08.CellRights", spec := "cellRights", unfollowed := true, recurses := true, apart := false }
def CellRightsSaid : Prop := cellRightsRow.holds Try.pinned (OpenSpec.ofChange cellRightsSpec)

/-- ITS FALSE NEIGHBOUR: 'it returns false'. Refute it at one input. -/
def cellRightsWrong : ChangeSpec := { name := "cellRights", fn := fun _ => fun
  | [d1, d2] => { results := [.lit (.bool false)], args := [d1, d2] }
  | _ => none }
def CellRightsWrongFalsely : Prop := cellRightsRow.holds Try.pinned (OpenSpec.ofChange cellRightsWrong)

/-- 'shardloglaw08.CellOrder': WHATEVER THE INPUT: true; the input reads as it did. -/
def cellOrderSpec : ChangeSpec := { name := "cellOrder", fn := fun _ => fun
  | [d1, d2, d3] => { results := [.lit (.bool true)], args := [d1, d2, d3] }
  | _ => none }
def cellOrderRow : OpenClaim := { program := "ytpnbknhjnakehaa", sum := "b0dab17204bea97e463257c703cbb3661935a12049f83f712bffdcaa91baeaec", func := "shardlog/shardloglaw08.CellOrder", spec := "cellOrder", unfollowed := true, recurses := true, apart := false }
def CellOrderSaid : Prop := cellOrderRow.holds Try.pinned (OpenSpec.ofChange cellOrderSpec)

/-- ITS FALSE NEIGHBOUR: 'it returns false'. Refute it at one input. -/
def cellOrderWrong : ChangeSpec := { name := "cellOrder", fn := fun _ => fun
  | [d1, d2, d3] => { results := [.lit (.bool false)], args := [d1, d2, d3] }
  | _ => none }
def CellOrderWrongFalsely : Prop := cellOrderRow.holds Try.pinned (OpenSpec.ofChange cellOrderWrong)

/-- 'shardloglaw08.CellBytes': WHATEVER THE INPUT: true; the input reads as it did. -/
def cellBytesSpec : ChangeSpec := { name := "cellBytes", fn := fun _ => fun
  | [d1, d2] => { results := [.lit (.bool true)], args := [d1, d2] }
  | _ => none }
def cellBytesRow : OpenClaim := { program := "ytpnbknhjnakehaa", sum := "b0dab17204bea97e463257c703cbb3661935a12049f83f712bffdcaa91baeaec", func := "shardlog/shardloglaw08.CellBytes", spec := "cellBytes", unfollowed := true, recurses := true, apart := false }
def CellBytesSaid : Prop := cellBytesRow.holds Try.pinned (OpenSpec.ofChange cellBytesSpec)

/-- ITS FALSE NEIGHBOUR: 'it returns false'. Refute it at one input. -/
def cellBytesWrong : ChangeSpec := { name := "cellBytes", fn := fun _ => fun
  | [d1, d2] => { results := [.lit (.bool false)], args := [d1, d2] }
  | _ => none }
def CellBytesWrongFalsely : Prop := cellBytesRow.holds Try.pinned (OpenSpec.ofChange cellBytesWrong)

/-- 'shardloglaw08.CellNewest': WHATEVER THE INPUT: true; the input reads as it did. -/
def cellNewestSpec : ChangeSpec := { name := "cellNewest", fn := fun _ => fun
  | [d1, d2, d3, d4] => { results := [.lit (.bool true)], args := [d1, d2, d3, d4] }
  | _ => none }
def cellNewestRow : OpenClaim := { program := "ytpnbknhjnakehaa", sum := "b0dab17204bea97e463257c703cbb3661935a12049f83f712bffdcaa91baeaec", func := "shardlog/shardloglaw08.CellNewest", spec := "cellNewest", unfollowed := true, recurses := true, apart := false }
def CellNewestSaid : Prop := cellNewestRow.holds Try.pinned (OpenSpec.ofChange cellNewestSpec)

/-- ITS FALSE NEIGHBOUR: 'it returns false'. Refute it at one input. -/
def cellNewestWrong : ChangeSpec := { name := "cellNewest", fn := fun _ => fun
  | [d1, d2, d3, d4] => { results := [.lit (.bool false)], args := [d1, d2, d3, d4] }
  | _ => none }
def CellNewestWrongFalsely : Prop := cellNewestRow.holds Try.pinned (OpenSpec.ofChange cellNewestWrong)

/-- 'shardloglaw08.CellKeeps': WHATEVER THE INPUT: true; the input reads as it did. -/
def cellKeepsSpec : ChangeSpec := { name := "cellKeeps", fn := fun _ => fun
  | [d] => { results := [.lit (.bool true)], args := [d] }
  | _ => none }
def cellKeepsRow : OpenClaim := { program := "ytpnbknhjnakehaa", sum := "b0dab17204bea97e463257c703cbb3661935a12049f83f712bffdcaa91baeaec", func := "shardlog/shardloglaw08.CellKeeps", spec := "cellKeeps", unfollowed := true, recurses := true, apart := false }
def CellKeepsSaid : Prop := cellKeepsRow.holds Try.pinned (OpenSpec.ofChange cellKeepsSpec)

/-- ITS FALSE NEIGHBOUR: 'it returns false'. Refute it at one input. -/
def cellKeepsWrong : ChangeSpec := { name := "cellKeeps", fn := fun _ => fun
  | [d] => { results := [.lit (.bool false)], args := [d] }
  | _ => none }
def CellKeepsWrongFalsely : Prop := cellKeepsRow.holds Try.pinned (OpenSpec.ofChange cellKeepsWrong)

/- THE SECOND FORM. 'bulk': how many values and letters a reading holds, each counted each time it is reached (what is shared counts as often as it is met; a slice's spare places count too). A statement '..UptoSaid' is the law's where the arguments, and the package variables that the reading takes, are together of bulk at most 1048576: NARROWER than '..Said'. Prove '..Said' where nothing that the law and all that it calls make is longer than what came in: it says more and counts as full. Else prove '..UptoSaid'. A law counts once. -/
mutual
def uptoBulk {H : Type} : DataW H → Nat
  | .lit (.string bytes) => bytes.length + 1
  | .lit _ => 1
  | .nil => 1
  | .ptr d => uptoBulk d + 1
  | .slice elems spare => uptoBulkAll elems + uptoBulkAll spare + 1
  | .agg parts => uptoBulkAll parts + 1
  | .iface _ d => uptoBulk d + 1
  | .map entries => uptoBulkEntries entries + 1
  | .held _ => 1
def uptoBulkAll {H : Type} : List (DataW H) → Nat
  | [] => 0
  | d :: r => uptoBulk d + uptoBulkAll r
def uptoBulkEntries {H : Type} : List (Lit × DataW H) → Nat
  | [] => 0
  | x :: r => uptoBulkEntry x + uptoBulkEntries r
def uptoBulkEntry {H : Type} : Lit × DataW H → Nat
  | (.string bytes, d) => bytes.length + uptoBulk d + 1
  | (_, d) => uptoBulk d + 1
 end
def uptoSmall : (H : Type) → List (DataW H) → Bool := fun _ ds => decide (uptoBulkAll ds ≤ 1048576)
def OpenSpec.upto (s : _root_.Go.ChangeSpec) : _root_.Go.OpenSpec := { _root_.Go.OpenSpec.ofChange s with cond := some uptoSmall }

/-- 'shardloglaw08.CellRights', WHERE WHAT IT READS IS OF BULK AT MOST 1048576: true; the input reads as it did. -/
def cellRightsUptoRow : OpenClaim := { program := "ytpnbknhjnakehaa", sum := "b0dab17204bea97e463257c703cbb3661935a12049f83f712bffdcaa91baeaec", func := "shardlog/shardloglaw08.CellRights", spec := "cellRights", unfollowed := true, recurses := true, apart := false, narrowed := true }
def CellRightsUptoSaid : Prop := cellRightsUptoRow.holds Try.pinned (OpenSpec.upto cellRightsSpec)

/-- 'shardloglaw08.CellOrder', WHERE WHAT IT READS IS OF BULK AT MOST 1048576: true; the input reads as it did. -/
def cellOrderUptoRow : OpenClaim := { program := "ytpnbknhjnakehaa", sum := "b0dab17204bea97e463257c703cbb3661935a12049f83f712bffdcaa91baeaec", func := "shardlog/shardloglaw08.CellOrder", spec := "cellOrder", unfollowed := true, recurses := true, apart := false, narrowed := true }
def CellOrderUptoSaid : Prop := cellOrderUptoRow.holds Try.pinned (OpenSpec.upto cellOrderSpec)

/-- 'shardloglaw08.CellBytes', WHERE WHAT IT READS IS OF BULK AT MOST 1048576: true; the input reads as it did. -/
def cellBytesUptoRow : OpenClaim := { program := "ytpnbknhjnakehaa", sum := "b0dab17204bea97e463257c703cbb3661935a12049f83f712bffdcaa91baeaec", func := "shardlog/shardloglaw08.CellBytes", spec := "cellBytes", unfollowed := true, recurses := true, apart := false, narrowed := true }
def CellBytesUptoSaid : Prop := cellBytesUptoRow.holds Try.pinned (OpenSpec.upto cellBytesSpec)

/-- 'shardloglaw08.CellNewest', WHERE WHAT IT READS IS OF BULK AT MOST 1048576: true; the input reads as it did. -/
def cellNewestUptoRow : OpenClaim := { program := "ytpnbknhjnakehaa", sum := "b0dab17204bea97e463257c703cbb3661935a12049f83f712bffdcaa91baeaec", func := "shardlog/shardloglaw08.CellNewest", spec := "cellNewest", unfollowed := true, recurses := true, apart := false, narrowed := true }
def CellNewestUptoSaid : Prop := cellNewestUptoRow.holds Try.pinned (OpenSpec.upto cellNewestSpec)

/-- 'shardloglaw08.CellKeeps', WHERE WHAT IT READS IS OF BULK AT MOST 1048576: true; the input reads as it did. -/
def cellKeepsUptoRow : OpenClaim := { program := "ytpnbknhjnakehaa", sum := "b0dab17204bea97e463257c703cbb3661935a12049f83f712bffdcaa91baeaec", func := "shardlog/shardloglaw08.CellKeeps", spec := "cellKeeps", unfollowed := true, recurses := true, apart := false, narrowed := true }
def CellKeepsUptoSaid : Prop := cellKeepsUptoRow.holds Try.pinned (OpenSpec.upto cellKeepsSpec)

end Rows
end Go.Proofs.Ytpnbknhjnakehaa
