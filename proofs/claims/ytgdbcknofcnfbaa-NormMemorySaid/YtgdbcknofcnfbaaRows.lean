/-
  No cell of these rows narrows 'for every input' (looked for: loops, veiled, ifaces, maps, wideKeys, modest, calm, conditions, laid).
  DERIVED. THE GIVEN ROWS OF THIS SEAT. 8 by the template 'for every input the law returns true; each argument reads behind the call as it read before'; 0 by the template 'total and deterministic' (their statements: YtgdbcknofcnfbaaTotals.lean).
  GIVEN WITH THE SEED: the statements are not yours to turn. If you find one false, say at which input.
  Laid BY PROGRAM, IN A SANDBOX (cutbox-rows.mjs): the forced cells as the released guide's own fill.sh prints them over the translation 78f5877f9082f492… (all of the seat's roots in one cut). By AI agents, Wed Nov 11 2026. No macro, syntax, notation, axiom, sorry.
-/
import Derived.Test.YtgdbcknofcnfbaaChecked
import GoSem.Claim
import GoSem.ClaimJoined
import GoSem.ClaimMapViews
import Derived.JoinedTies
import Derived.KernelRfl
namespace Go.Proofs.Ytgdbcknofcnfbaa
/- THE CELL 'sum', in the pinned program and in every row, IS THE sha256 OF THE DUMP (.gsa) THAT YtgdbcknofcnfbaaProg.lean LOADS. Nothing in Lean hashes anything: it is a label: what it is worth is what the hold of that sum in a sandbox is worth. -/
noncomputable def Try.pinned : Pinned := { name := "ytgdbcknofcnfbaa", sum := "78f5877f9082f49278d2447fceb0571e716f6bdb392ba662cac1a1e5ae3ace85", checked := Try.checked }
namespace Rows
def none {H : Type} : Left H := { results := [], args := [] }

/-- 'heraldlaw09.NormRows': WHATEVER THE INPUT: true; the input reads as it did. -/
def normRowsSpec : ChangeSpec := { name := "normRows", fn := fun _ => fun
  | [d1, d2] => { results := [.lit (.bool true)], args := [d1, d2] }
  | _ => none }
def normRowsRow : OpenClaim := { program := "ytgdbcknofcnfbaa", sum := "78f5877f9082f49278d2447fceb0571e716f6bdb392ba662cac1a1e5ae3ace85", func := "herald/heraldlaw09.NormRows", spec := "normRows", apart := false }
def NormRowsSaid : Prop := normRowsRow.holds Try.pinned (OpenSpec.ofChange normRowsSpec)

/-- ITS FALSE NEIGHBOUR: 'it returns false'. Refute it at one input. -/
def normRowsWrong : ChangeSpec := { name := "normRows", fn := fun _ => fun
  | [d1, d2] => { results := [.lit (.bool false)], args := [d1, d2] }
  | _ => none }
def NormRowsWrongFalsely : Prop := normRowsRow.holds Try.pinned (OpenSpec.ofChange normRowsWrong)

/-- 'heraldlaw09.NormTurns': WHATEVER THE INPUT: true; the input reads as it did. -/
def normTurnsSpec : ChangeSpec := { name := "normTurns", fn := fun _ => fun
  | [d1, d2] => { results := [.lit (.bool true)], args := [d1, d2] }
  | _ => none }
def normTurnsRow : OpenClaim := { program := "ytgdbcknofcnfbaa", sum := "78f5877f9082f49278d2447fceb0571e716f6bdb392ba662cac1a1e5ae3ace85", func := "herald/heraldlaw09.NormTurns", spec := "normTurns", apart := false }
def NormTurnsSaid : Prop := normTurnsRow.holds Try.pinned (OpenSpec.ofChange normTurnsSpec)

/-- ITS FALSE NEIGHBOUR: 'it returns false'. Refute it at one input. -/
def normTurnsWrong : ChangeSpec := { name := "normTurns", fn := fun _ => fun
  | [d1, d2] => { results := [.lit (.bool false)], args := [d1, d2] }
  | _ => none }
def NormTurnsWrongFalsely : Prop := normTurnsRow.holds Try.pinned (OpenSpec.ofChange normTurnsWrong)

/-- 'heraldlaw09.NormRoots': WHATEVER THE INPUT: true; the input reads as it did. -/
def normRootsSpec : ChangeSpec := { name := "normRoots", fn := fun _ => fun
  | [d] => { results := [.lit (.bool true)], args := [d] }
  | _ => none }
def normRootsRow : OpenClaim := { program := "ytgdbcknofcnfbaa", sum := "78f5877f9082f49278d2447fceb0571e716f6bdb392ba662cac1a1e5ae3ace85", func := "herald/heraldlaw09.NormRoots", spec := "normRoots", apart := false }
def NormRootsSaid : Prop := normRootsRow.holds Try.pinned (OpenSpec.ofChange normRootsSpec)

/-- ITS FALSE NEIGHBOUR: 'it returns false'. Refute it at one input. -/
def normRootsWrong : ChangeSpec := { name := "normRoots", fn := fun _ => fun
  | [d] => { results := [.lit (.bool false)], args := [d] }
  | _ => none }
def NormRootsWrongFalsely : Prop := normRootsRow.holds Try.pinned (OpenSpec.ofChange normRootsWrong)

/-- 'heraldlaw09.NormSize': WHATEVER THE INPUT: true; the input reads as it did. -/
def normSizeSpec : ChangeSpec := { name := "normSize", fn := fun _ => fun
  | [d] => { results := [.lit (.bool true)], args := [d] }
  | _ => none }
def normSizeRow : OpenClaim := { program := "ytgdbcknofcnfbaa", sum := "78f5877f9082f49278d2447fceb0571e716f6bdb392ba662cac1a1e5ae3ace85", func := "herald/heraldlaw09.NormSize", spec := "normSize", apart := false }
def NormSizeSaid : Prop := normSizeRow.holds Try.pinned (OpenSpec.ofChange normSizeSpec)

/-- ITS FALSE NEIGHBOUR: 'it returns false'. Refute it at one input. -/
def normSizeWrong : ChangeSpec := { name := "normSize", fn := fun _ => fun
  | [d] => { results := [.lit (.bool false)], args := [d] }
  | _ => none }
def NormSizeWrongFalsely : Prop := normSizeRow.holds Try.pinned (OpenSpec.ofChange normSizeWrong)

/-- 'heraldlaw09.NormAll': WHATEVER THE INPUT: true; the input reads as it did. -/
def normAllSpec : ChangeSpec := { name := "normAll", fn := fun _ => fun
  | [d1, d2] => { results := [.lit (.bool true)], args := [d1, d2] }
  | _ => none }
def normAllRow : OpenClaim := { program := "ytgdbcknofcnfbaa", sum := "78f5877f9082f49278d2447fceb0571e716f6bdb392ba662cac1a1e5ae3ace85", func := "herald/heraldlaw09.NormAll", spec := "normAll", apart := false }
def NormAllSaid : Prop := normAllRow.holds Try.pinned (OpenSpec.ofChange normAllSpec)

/-- ITS FALSE NEIGHBOUR: 'it returns false'. Refute it at one input. -/
def normAllWrong : ChangeSpec := { name := "normAll", fn := fun _ => fun
  | [d1, d2] => { results := [.lit (.bool false)], args := [d1, d2] }
  | _ => none }
def NormAllWrongFalsely : Prop := normAllRow.holds Try.pinned (OpenSpec.ofChange normAllWrong)

/-- 'heraldlaw09.NormMemory': WHATEVER THE INPUT: true; the input reads as it did. -/
def normMemorySpec : ChangeSpec := { name := "normMemory", fn := fun _ => fun
  | [d1, d2] => { results := [.lit (.bool true)], args := [d1, d2] }
  | _ => none }
def normMemoryRow : OpenClaim := { program := "ytgdbcknofcnfbaa", sum := "78f5877f9082f49278d2447fceb0571e716f6bdb392ba662cac1a1e5ae3ace85", func := "herald/heraldlaw09.NormMemory", spec := "normMemory", apart := false }
def NormMemorySaid : Prop := normMemoryRow.holds Try.pinned (OpenSpec.ofChange normMemorySpec)

/-- ITS FALSE NEIGHBOUR: 'it returns false'. Refute it at one input. -/
def normMemoryWrong : ChangeSpec := { name := "normMemory", fn := fun _ => fun
  | [d1, d2] => { results := [.lit (.bool false)], args := [d1, d2] }
  | _ => none }
def NormMemoryWrongFalsely : Prop := normMemoryRow.holds Try.pinned (OpenSpec.ofChange normMemoryWrong)

/-- 'heraldlaw09.NormMoves': WHATEVER THE INPUT: true; the input reads as it did. -/
def normMovesSpec : ChangeSpec := { name := "normMoves", fn := fun _ => fun
  | [d1, d2, d3] => { results := [.lit (.bool true)], args := [d1, d2, d3] }
  | _ => none }
def normMovesRow : OpenClaim := { program := "ytgdbcknofcnfbaa", sum := "78f5877f9082f49278d2447fceb0571e716f6bdb392ba662cac1a1e5ae3ace85", func := "herald/heraldlaw09.NormMoves", spec := "normMoves", apart := false }
def NormMovesSaid : Prop := normMovesRow.holds Try.pinned (OpenSpec.ofChange normMovesSpec)

/-- ITS FALSE NEIGHBOUR: 'it returns false'. Refute it at one input. -/
def normMovesWrong : ChangeSpec := { name := "normMoves", fn := fun _ => fun
  | [d1, d2, d3] => { results := [.lit (.bool false)], args := [d1, d2, d3] }
  | _ => none }
def NormMovesWrongFalsely : Prop := normMovesRow.holds Try.pinned (OpenSpec.ofChange normMovesWrong)

/-- 'heraldlaw09.NormCenters': WHATEVER THE INPUT: true; the input reads as it did. -/
def normCentersSpec : ChangeSpec := { name := "normCenters", fn := fun _ => fun
  | [d1, d2, d3] => { results := [.lit (.bool true)], args := [d1, d2, d3] }
  | _ => none }
def normCentersRow : OpenClaim := { program := "ytgdbcknofcnfbaa", sum := "78f5877f9082f49278d2447fceb0571e716f6bdb392ba662cac1a1e5ae3ace85", func := "herald/heraldlaw09.NormCenters", spec := "normCenters", apart := false }
def NormCentersSaid : Prop := normCentersRow.holds Try.pinned (OpenSpec.ofChange normCentersSpec)

/-- ITS FALSE NEIGHBOUR: 'it returns false'. Refute it at one input. -/
def normCentersWrong : ChangeSpec := { name := "normCenters", fn := fun _ => fun
  | [d1, d2, d3] => { results := [.lit (.bool false)], args := [d1, d2, d3] }
  | _ => none }
def NormCentersWrongFalsely : Prop := normCentersRow.holds Try.pinned (OpenSpec.ofChange normCentersWrong)

/- THE SECOND FORM. 'bulk': how many values and letters a reading holds, each counted each time it is reached (what is shared counts as often as it is met; a slice's spare places count too). A statement '..UptoSaid' is the law's where the arguments, and the package variables that the reading takes, are together of bulk at most 1048576: NARROWER than '..Said'. Prove '..Said' where nothing that the law and all that it calls make is longer than what came in: it says more and counts as full. Else prove '..UptoSaid'. A law counts once. -/
mutual
def uptoBulk {H : Type} : DataW H → Nat
  | .lit (.string bytes) => bytes.length + 1
  | .lit _ => 1
  | .nil => 1
  | .ptr d => uptoBulk d + 1
  | .slice elems spare => uptoBulkAll elems + uptoBulkAll spare + 1
  | .agg parts => uptoBulkAll parts + 1
  | .iface _ d => uptoBulk d + 1
  | .map entries => uptoBulkEntries entries + 1
  | .held _ => 1
def uptoBulkAll {H : Type} : List (DataW H) → Nat
  | [] => 0
  | d :: r => uptoBulk d + uptoBulkAll r
def uptoBulkEntries {H : Type} : List (Lit × DataW H) → Nat
  | [] => 0
  | x :: r => uptoBulkEntry x + uptoBulkEntries r
def uptoBulkEntry {H : Type} : Lit × DataW H → Nat
  | (.string bytes, d) => bytes.length + uptoBulk d + 1
  | (_, d) => uptoBulk d + 1
 end
def uptoSmall : (H : Type) → List (DataW H) → Bool := fun _ ds => decide (uptoBulkAll ds ≤ 1048576)
def OpenSpec.upto (s : _root_.Go.ChangeSpec) : _root_.Go.OpenSpec := { _root_.Go.OpenSpec.ofChange s with cond := some uptoSmall }

/-- 'heraldlaw09.NormRows', WHERE WHAT IT READS IS OF BULK AT MOST 1048576: true; the input reads as it did. -/
def normRowsUptoRow : OpenClaim := { program := "ytgdbcknofcnfbaa", sum := "78f5877f9082f49278d2447fceb0571e716f6bdb392ba662cac1a1e5ae3ace85", func := "herald/heraldlaw09.NormRows", spec := "normRows", apart := false, narrowed := true }
def NormRowsUptoSaid : Prop := normRowsUptoRow.holds Try.pinned (OpenSpec.upto normRowsSpec)

/-- 'heraldlaw09.NormTurns', WHERE WHAT IT READS IS OF BULK AT MOST 1048576: true; the input reads as it did. -/
def normTurnsUptoRow : OpenClaim := { program := "ytgdbcknofcnfbaa", sum := "78f5877f9082f49278d2447fceb0571e716f6bdb392ba662cac1a1e5ae3ace85", func := "herald/heraldlaw09.NormTurns", spec := "normTurns", apart := false, narrowed := true }
def NormTurnsUptoSaid : Prop := normTurnsUptoRow.holds Try.pinned (OpenSpec.upto normTurnsSpec)

/-- 'heraldlaw09.NormRoots', WHERE WHAT IT READS IS OF BULK AT MOST 1048576: true; the input reads as it did. -/
def normRootsUptoRow : OpenClaim := { program := "ytgdbcknofcnfbaa", sum := "78f5877f9082f49278d2447fceb0571e716f6bdb392ba662cac1a1e5ae3ace85", func := "herald/heraldlaw09.NormRoots", spec := "normRoots", apart := false, narrowed := true }
def NormRootsUptoSaid : Prop := normRootsUptoRow.holds Try.pinned (OpenSpec.upto normRootsSpec)

/-- 'heraldlaw09.NormSize', WHERE WHAT IT READS IS OF BULK AT MOST 1048576: true; the input reads as it did. -/
def normSizeUptoRow : OpenClaim := { program := "ytgdbcknofcnfbaa", sum := "78f5877f9082f49278d2447fceb0571e716f6bdb392ba662cac1a1e5ae3ace85", func := "herald/heraldlaw09.NormSize", spec := "normSize", apart := false, narrowed := true }
def NormSizeUptoSaid : Prop := normSizeUptoRow.holds Try.pinned (OpenSpec.upto normSizeSpec)

/-- 'heraldlaw09.NormAll', WHERE WHAT IT READS IS OF BULK AT MOST 1048576: true; the input reads as it did. -/
def normAllUptoRow : OpenClaim := { program := "ytgdbcknofcnfbaa", sum := "78f5877f9082f49278d2447fceb0571e716f6bdb392ba662cac1a1e5ae3ace85", func := "herald/heraldlaw09.NormAll", spec := "normAll", apart := false, narrowed := true }
def NormAllUptoSaid : Prop := normAllUptoRow.holds Try.pinned (OpenSpec.upto normAllSpec)

/-- 'heraldlaw09.NormMemory', WHERE WHAT IT READS IS OF BULK AT MOST 1048576: true; the input reads as it did. -/
def normMemoryUptoRow : OpenClaim := { program := "ytgdbcknofcnfbaa", sum := "78f5877f9082f49278d2447fceb0571e716f6bdb392ba662cac1a1e5ae3ace85", func := "herald/heraldlaw09.NormMemory", spec := "normMemory", apart := false, narrowed := true }
def NormMemoryUptoSaid : Prop := normMemoryUptoRow.holds Try.pinned (OpenSpec.upto normMemorySpec)

/-- 'heraldlaw09.NormMoves', WHERE WHAT IT READS IS OF BULK AT MOST 1048576: true; the input reads as it did. -/
def normMovesUptoRow : OpenClaim := { program := "ytgdbcknofcnfbaa", sum := "78f5877f9082f49278d2447fceb0571e716f6bdb392ba662cac1a1e5ae3ace85", func := "herald/heraldlaw09.NormMoves", spec := "normMoves", apart := false, narrowed := true }
def NormMovesUptoSaid : Prop := normMovesUptoRow.holds Try.pinned (OpenSpec.upto normMovesSpec)

/-- 'heraldlaw09.NormCenters', WHERE WHAT IT READS IS OF BULK AT MOST 1048576: true; the input reads as it did. -/
def normCentersUptoRow : OpenClaim := { program := "ytgdbcknofcnfbaa", sum := "78f5877f9082f49278d2447fceb0571e716f6bdb392ba662cac1a1e5ae3ace85", func := "herald/heraldlaw09.NormCenters", spec := "normCenters", apart := false, narrowed := true }
def NormCentersUptoSaid : Prop := normCentersUptoRow.holds Try.pinned (OpenSpec.upto normCentersSpec)

end Rows
end Go.Proofs.Ytgdbcknofcnfbaa
