/-
  NARROWER THAN 'FOR EVERY INPUT', by the rows' own cells (each row's printed sentence says how): RopeTurns: laid · RopeHeads: laid · RopeTables: laid · RopeCircle: laid · RopeMemory: laid · RopeRows: laid · RopeStretches: laid.
  DERIVED. THE GIVEN ROWS OF THIS SEAT. 7 by the template 'for every input the law returns true; each argument reads behind the call as it read before'; 0 by the template 'total and deterministic' (their statements: YtengkjkmdodifaaDoorTotals.lean).
  GIVEN WITH THE SEED: the statements are not yours to turn. If you find one false, say at which input.
  Laid BY PROGRAM, IN A SANDBOX (cutbox-rows.mjs): the forced cells as the released guide's own fill.sh prints them over the translation 23950ca334520b20… (all of the seat's roots in one cut). By AI agents, Wed Nov 11 2026. No macro, syntax, notation, axiom, sorry.
-/
import Derived.Test.YtengkjkmdodifaaDoorChecked
import GoSem.Claim
import GoSem.ClaimJoined
import GoSem.ClaimMapViews
import Derived.JoinedTies
import Derived.KernelRfl
namespace Go.Proofs.YtengkjkmdodifaaDoor
/- THE CELL 'sum', in the pinned program and in every row, IS THE sha256 OF THE DUMP (.gsa) THAT YtengkjkmdodifaaDoorProg.lean LOADS. Nothing in Lean hashes anything: it is a label: what it is worth is what the hold of that sum in a sandbox is worth. -/
noncomputable def Tryd.pinned : Pinned := { name := "ytengkjkmdodifaadoor", sum := "23950ca334520b20ff345e5a4d01f2bf1cb82aa14051c0ea1d7f6f11841af5b3", checked := Tryd.checked }
namespace Rows
def none {H : Type} : Left H := { results := [], args := [] }

/- WHAT THE LISTED PACKAGE-LEVEL VARIABLES READ AS WHEN THE CALL BEGINS. Each datum BY PROGRAM (the guide's laid-datum.mjs) off the statement by which the dump's own 'gosem.cut.vars' lays the variable. In a bare row this is a premise. The card (YtengkjkmdodifaaDoorCards.lean) ties it to the program's text. -/
def laid_herald_rope_quarterSines {H : Type} : DataW H := .agg [.lit (.int .i8 0), .lit (.int .i8 2), .lit (.int .i8 3), .lit (.int .i8 5), .lit (.int .i8 6), .lit (.int .i8 8), .lit (.int .i8 9), .lit (.int .i8 11), .lit (.int .i8 12), .lit (.int .i8 14), .lit (.int .i8 16), .lit (.int .i8 17), .lit (.int .i8 19), .lit (.int .i8 20), .lit (.int .i8 22), .lit (.int .i8 23), .lit (.int .i8 24), .lit (.int .i8 26), .lit (.int .i8 27), .lit (.int .i8 29), .lit (.int .i8 30), .lit (.int .i8 32), .lit (.int .i8 33), .lit (.int .i8 34), .lit (.int .i8 36), .lit (.int .i8 37), .lit (.int .i8 38), .lit (.int .i8 39), .lit (.int .i8 41), .lit (.int .i8 42), .lit (.int .i8 43), .lit (.int .i8 44), .lit (.int .i8 45), .lit (.int .i8 46), .lit (.int .i8 47), .lit (.int .i8 48), .lit (.int .i8 49), .lit (.int .i8 50), .lit (.int .i8 51), .lit (.int .i8 52), .lit (.int .i8 53), .lit (.int .i8 54), .lit (.int .i8 55), .lit (.int .i8 56), .lit (.int .i8 56), .lit (.int .i8 57), .lit (.int .i8 58), .lit (.int .i8 59), .lit (.int .i8 59), .lit (.int .i8 60), .lit (.int .i8 60), .lit (.int .i8 61), .lit (.int .i8 61), .lit (.int .i8 62), .lit (.int .i8 62), .lit (.int .i8 62), .lit (.int .i8 63), .lit (.int .i8 63), .lit (.int .i8 63), .lit (.int .i8 64), .lit (.int .i8 64), .lit (.int .i8 64), .lit (.int .i8 64), .lit (.int .i8 64), .lit (.int .i8 64)]

/-- 'heraldlaw10.RopeTurns': WHATEVER THE INPUT: true; the input reads as it did. -/
def ropeTurnsSpec : ChangeSpec := { name := "ropeTurns", fn := fun _ => fun
  | [d1, d2, d3] => { results := [.lit (.bool true)], args := [d1, d2, d3] }
  | _ => none }
def ropeTurnsRow : OpenClaim := { program := "ytengkjkmdodifaadoor", sum := "23950ca334520b20ff345e5a4d01f2bf1cb82aa14051c0ea1d7f6f11841af5b3", func := "herald/heraldlaw10.RopeTurns", spec := "ropeTurns", unfollowed := true, recurses := true, named := ["herald/rope.quarterSines"], apart := false, laid := [("herald/rope.quarterSines", laid_herald_rope_quarterSines)] }
def RopeTurnsSaid : Prop := ropeTurnsRow.holds Tryd.pinned (OpenSpec.ofChange ropeTurnsSpec)

/-- ITS FALSE NEIGHBOUR: 'it returns false'. Refute it at one input. -/
def ropeTurnsWrong : ChangeSpec := { name := "ropeTurns", fn := fun _ => fun
  | [d1, d2, d3] => { results := [.lit (.bool false)], args := [d1, d2, d3] }
  | _ => none }
def RopeTurnsWrongFalsely : Prop := ropeTurnsRow.holds Tryd.pinned (OpenSpec.ofChange ropeTurnsWrong)

/-- 'heraldlaw10.RopeHeads': WHATEVER THE INPUT: true; the input reads as it did. -/
def ropeHeadsSpec : ChangeSpec := { name := "ropeHeads", fn := fun _ => fun
  | [d1, d2, d3] => { results := [.lit (.bool true)], args := [d1, d2, d3] }
  | _ => none }
def ropeHeadsRow : OpenClaim := { program := "ytengkjkmdodifaadoor", sum := "23950ca334520b20ff345e5a4d01f2bf1cb82aa14051c0ea1d7f6f11841af5b3", func := "herald/heraldlaw10.RopeHeads", spec := "ropeHeads", unfollowed := true, recurses := true, named := ["herald/rope.quarterSines"], apart := false, laid := [("herald/rope.quarterSines", laid_herald_rope_quarterSines)] }
def RopeHeadsSaid : Prop := ropeHeadsRow.holds Tryd.pinned (OpenSpec.ofChange ropeHeadsSpec)

/-- ITS FALSE NEIGHBOUR: 'it returns false'. Refute it at one input. -/
def ropeHeadsWrong : ChangeSpec := { name := "ropeHeads", fn := fun _ => fun
  | [d1, d2, d3] => { results := [.lit (.bool false)], args := [d1, d2, d3] }
  | _ => none }
def RopeHeadsWrongFalsely : Prop := ropeHeadsRow.holds Tryd.pinned (OpenSpec.ofChange ropeHeadsWrong)

/-- 'heraldlaw10.RopeTables': WHATEVER THE INPUT: true; the input reads as it did. -/
def ropeTablesSpec : ChangeSpec := { name := "ropeTables", fn := fun _ => fun
  | [d1, d2, d3] => { results := [.lit (.bool true)], args := [d1, d2, d3] }
  | _ => none }
def ropeTablesRow : OpenClaim := { program := "ytengkjkmdodifaadoor", sum := "23950ca334520b20ff345e5a4d01f2bf1cb82aa14051c0ea1d7f6f11841af5b3", func := "herald/heraldlaw10.RopeTables", spec := "ropeTables", unfollowed := true, recurses := true, named := ["herald/rope.quarterSines"], apart := false, laid := [("herald/rope.quarterSines", laid_herald_rope_quarterSines)] }
def RopeTablesSaid : Prop := ropeTablesRow.holds Tryd.pinned (OpenSpec.ofChange ropeTablesSpec)

/-- ITS FALSE NEIGHBOUR: 'it returns false'. Refute it at one input. -/
def ropeTablesWrong : ChangeSpec := { name := "ropeTables", fn := fun _ => fun
  | [d1, d2, d3] => { results := [.lit (.bool false)], args := [d1, d2, d3] }
  | _ => none }
def RopeTablesWrongFalsely : Prop := ropeTablesRow.holds Tryd.pinned (OpenSpec.ofChange ropeTablesWrong)

/-- 'heraldlaw10.RopeCircle': WHATEVER THE INPUT: true; the input reads as it did. -/
def ropeCircleSpec : ChangeSpec := { name := "ropeCircle", fn := fun _ => fun
  | [d1, d2, d3] => { results := [.lit (.bool true)], args := [d1, d2, d3] }
  | _ => none }
def ropeCircleRow : OpenClaim := { program := "ytengkjkmdodifaadoor", sum := "23950ca334520b20ff345e5a4d01f2bf1cb82aa14051c0ea1d7f6f11841af5b3", func := "herald/heraldlaw10.RopeCircle", spec := "ropeCircle", unfollowed := true, recurses := true, named := ["herald/rope.quarterSines"], apart := false, laid := [("herald/rope.quarterSines", laid_herald_rope_quarterSines)] }
def RopeCircleSaid : Prop := ropeCircleRow.holds Tryd.pinned (OpenSpec.ofChange ropeCircleSpec)

/-- ITS FALSE NEIGHBOUR: 'it returns false'. Refute it at one input. -/
def ropeCircleWrong : ChangeSpec := { name := "ropeCircle", fn := fun _ => fun
  | [d1, d2, d3] => { results := [.lit (.bool false)], args := [d1, d2, d3] }
  | _ => none }
def RopeCircleWrongFalsely : Prop := ropeCircleRow.holds Tryd.pinned (OpenSpec.ofChange ropeCircleWrong)

/-- 'heraldlaw10.RopeMemory': WHATEVER THE INPUT: true; the input reads as it did. -/
def ropeMemorySpec : ChangeSpec := { name := "ropeMemory", fn := fun _ => fun
  | [d1, d2] => { results := [.lit (.bool true)], args := [d1, d2] }
  | _ => none }
def ropeMemoryRow : OpenClaim := { program := "ytengkjkmdodifaadoor", sum := "23950ca334520b20ff345e5a4d01f2bf1cb82aa14051c0ea1d7f6f11841af5b3", func := "herald/heraldlaw10.RopeMemory", spec := "ropeMemory", unfollowed := true, recurses := true, named := ["herald/rope.quarterSines"], apart := false, laid := [("herald/rope.quarterSines", laid_herald_rope_quarterSines)] }
def RopeMemorySaid : Prop := ropeMemoryRow.holds Tryd.pinned (OpenSpec.ofChange ropeMemorySpec)

/-- ITS FALSE NEIGHBOUR: 'it returns false'. Refute it at one input. -/
def ropeMemoryWrong : ChangeSpec := { name := "ropeMemory", fn := fun _ => fun
  | [d1, d2] => { results := [.lit (.bool false)], args := [d1, d2] }
  | _ => none }
def RopeMemoryWrongFalsely : Prop := ropeMemoryRow.holds Tryd.pinned (OpenSpec.ofChange ropeMemoryWrong)

/-- 'heraldlaw10.RopeRows': WHATEVER THE INPUT: true; the input reads as it did. -/
def ropeRowsSpec : ChangeSpec := { name := "ropeRows", fn := fun _ => fun
  | [d1, d2, d3] => { results := [.lit (.bool true)], args := [d1, d2, d3] }
  | _ => none }
def ropeRowsRow : OpenClaim := { program := "ytengkjkmdodifaadoor", sum := "23950ca334520b20ff345e5a4d01f2bf1cb82aa14051c0ea1d7f6f11841af5b3", func := "herald/heraldlaw10.RopeRows", spec := "ropeRows", unfollowed := true, recurses := true, named := ["herald/rope.quarterSines"], apart := false, laid := [("herald/rope.quarterSines", laid_herald_rope_quarterSines)] }
def RopeRowsSaid : Prop := ropeRowsRow.holds Tryd.pinned (OpenSpec.ofChange ropeRowsSpec)

/-- ITS FALSE NEIGHBOUR: 'it returns false'. Refute it at one input. -/
def ropeRowsWrong : ChangeSpec := { name := "ropeRows", fn := fun _ => fun
  | [d1, d2, d3] => { results := [.lit (.bool false)], args := [d1, d2, d3] }
  | _ => none }
def RopeRowsWrongFalsely : Prop := ropeRowsRow.holds Tryd.pinned (OpenSpec.ofChange ropeRowsWrong)

/-- 'heraldlaw10.RopeStretches': WHATEVER THE INPUT: true; the input reads as it did. -/
def ropeStretchesSpec : ChangeSpec := { name := "ropeStretches", fn := fun _ => fun
  | [d1, d2, d3] => { results := [.lit (.bool true)], args := [d1, d2, d3] }
  | _ => none }
def ropeStretchesRow : OpenClaim := { program := "ytengkjkmdodifaadoor", sum := "23950ca334520b20ff345e5a4d01f2bf1cb82aa14051c0ea1d7f6f11841af5b3", func := "herald/heraldlaw10.RopeStretches", spec := "ropeStretches", unfollowed := true, recurses := true, named := ["herald/rope.quarterSines"], apart := false, laid := [("herald/rope.quarterSines", laid_herald_rope_quarterSines)] }
def RopeStretchesSaid : Prop := ropeStretchesRow.holds Tryd.pinned (OpenSpec.ofChange ropeStretchesSpec)

/-- ITS FALSE NEIGHBOUR: 'it returns false'. Refute it at one input. -/
def ropeStretchesWrong : ChangeSpec := { name := "ropeStretches", fn := fun _ => fun
  | [d1, d2, d3] => { results := [.lit (.bool false)], args := [d1, d2, d3] }
  | _ => none }
def RopeStretchesWrongFalsely : Prop := ropeStretchesRow.holds Tryd.pinned (OpenSpec.ofChange ropeStretchesWrong)

/- THE SECOND FORM. 'bulk': how many values and letters a reading holds, each counted each time it is reached (what is shared counts as often as it is met; a slice's spare places count too). A statement '..UptoSaid' is the law's where the arguments, and the package variables that the reading takes, are together of bulk at most 1048576: NARROWER than '..Said'. Prove '..Said' where nothing that the law and all that it calls make is longer than what came in: it says more and counts as full. Else prove '..UptoSaid'. A law counts once. -/
mutual
def uptoBulk {H : Type} : DataW H → Nat
  | .lit (.string bytes) => bytes.length + 1
  | .lit _ => 1
  | .nil => 1
  | .ptr d => uptoBulk d + 1
  | .slice elems spare => uptoBulkAll elems + uptoBulkAll spare + 1
  | .agg parts => uptoBulkAll parts + 1
  | .iface _ d => uptoBulk d + 1
  | .map entries => uptoBulkEntries entries + 1
  | .held _ => 1
def uptoBulkAll {H : Type} : List (DataW H) → Nat
  | [] => 0
  | d :: r => uptoBulk d + uptoBulkAll r
def uptoBulkEntries {H : Type} : List (Lit × DataW H) → Nat
  | [] => 0
  | x :: r => uptoBulkEntry x + uptoBulkEntries r
def uptoBulkEntry {H : Type} : Lit × DataW H → Nat
  | (.string bytes, d) => bytes.length + uptoBulk d + 1
  | (_, d) => uptoBulk d + 1
 end
def uptoSmall : (H : Type) → List (DataW H) → Bool := fun _ ds => decide (uptoBulkAll ds ≤ 1048576)
def OpenSpec.upto (s : _root_.Go.ChangeSpec) : _root_.Go.OpenSpec := { _root_.Go.OpenSpec.ofChange s with cond := some uptoSmall }

/-- 'heraldlaw10.RopeTurns', WHERE WHAT IT READS IS OF BULK AT MOST 1048576: true; the input reads as it did. -/
def ropeTurnsUptoRow : OpenClaim := { program := "ytengkjkmdodifaadoor", sum := "23950ca334520b20ff345e5a4d01f2bf1cb82aa14051c0ea1d7f6f11841af5b3", func := "herald/heraldlaw10.RopeTurns", spec := "ropeTurns", unfollowed := true, recurses := true, named := ["herald/rope.quarterSines"], apart := false, laid := [("herald/rope.quarterSines", laid_herald_rope_quarterSines)], narrowed := true }
def RopeTurnsUptoSaid : Prop := ropeTurnsUptoRow.holds Tryd.pinned (OpenSpec.upto ropeTurnsSpec)

/-- 'heraldlaw10.RopeHeads', WHERE WHAT IT READS IS OF BULK AT MOST 1048576: true; the input reads as it did. -/
def ropeHeadsUptoRow : OpenClaim := { program := "ytengkjkmdodifaadoor", sum := "23950ca334520b20ff345e5a4d01f2bf1cb82aa14051c0ea1d7f6f11841af5b3", func := "herald/heraldlaw10.RopeHeads", spec := "ropeHeads", unfollowed := true, recurses := true, named := ["herald/rope.quarterSines"], apart := false, laid := [("herald/rope.quarterSines", laid_herald_rope_quarterSines)], narrowed := true }
def RopeHeadsUptoSaid : Prop := ropeHeadsUptoRow.holds Tryd.pinned (OpenSpec.upto ropeHeadsSpec)

/-- 'heraldlaw10.RopeTables', WHERE WHAT IT READS IS OF BULK AT MOST 1048576: true; the input reads as it did. -/
def ropeTablesUptoRow : OpenClaim := { program := "ytengkjkmdodifaadoor", sum := "23950ca334520b20ff345e5a4d01f2bf1cb82aa14051c0ea1d7f6f11841af5b3", func := "herald/heraldlaw10.RopeTables", spec := "ropeTables", unfollowed := true, recurses := true, named := ["herald/rope.quarterSines"], apart := false, laid := [("herald/rope.quarterSines", laid_herald_rope_quarterSines)], narrowed := true }
def RopeTablesUptoSaid : Prop := ropeTablesUptoRow.holds Tryd.pinned (OpenSpec.upto ropeTablesSpec)

/-- 'heraldlaw10.RopeCircle', WHERE WHAT IT READS IS OF BULK AT MOST 1048576: true; the input reads as it did. -/
def ropeCircleUptoRow : OpenClaim := { program := "ytengkjkmdodifaadoor", sum := "23950ca334520b20ff345e5a4d01f2bf1cb82aa14051c0ea1d7f6f11841af5b3", func := "herald/heraldlaw10.RopeCircle", spec := "ropeCircle", unfollowed := true, recurses := true, named := ["herald/rope.quarterSines"], apart := false, laid := [("herald/rope.quarterSines", laid_herald_rope_quarterSines)], narrowed := true }
def RopeCircleUptoSaid : Prop := ropeCircleUptoRow.holds Tryd.pinned (OpenSpec.upto ropeCircleSpec)

/-- 'heraldlaw10.RopeMemory', WHERE WHAT IT READS IS OF BULK AT MOST 1048576: true; the input reads as it did. -/
def ropeMemoryUptoRow : OpenClaim := { program := "ytengkjkmdodifaadoor", sum := "23950ca334520b20ff345e5a4d01f2bf1cb82aa14051c0ea1d7f6f11841af5b3", func := "herald/heraldlaw10.RopeMemory", spec := "ropeMemory", unfollowed := true, recurses := true, named := ["herald/rope.quarterSines"], apart := false, laid := [("herald/rope.quarterSines", laid_herald_rope_quarterSines)], narrowed := true }
def RopeMemoryUptoSaid : Prop := ropeMemoryUptoRow.holds Tryd.pinned (OpenSpec.upto ropeMemorySpec)

/-- 'heraldlaw10.RopeRows', WHERE WHAT IT READS IS OF BULK AT MOST 1048576: true; the input reads as it did. -/
def ropeRowsUptoRow : OpenClaim := { program := "ytengkjkmdodifaadoor", sum := "23950ca334520b20ff345e5a4d01f2bf1cb82aa14051c0ea1d7f6f11841af5b3", func := "herald/heraldlaw10.RopeRows", spec := "ropeRows", unfollowed := true, recurses := true, named := ["herald/rope.quarterSines"], apart := false, laid := [("herald/rope.quarterSines", laid_herald_rope_quarterSines)], narrowed := true }
def RopeRowsUptoSaid : Prop := ropeRowsUptoRow.holds Tryd.pinned (OpenSpec.upto ropeRowsSpec)

/-- 'heraldlaw10.RopeStretches', WHERE WHAT IT READS IS OF BULK AT MOST 1048576: true; the input reads as it did. -/
def ropeStretchesUptoRow : OpenClaim := { program := "ytengkjkmdodifaadoor", sum := "23950ca334520b20ff345e5a4d01f2bf1cb82aa14051c0ea1d7f6f11841af5b3", func := "herald/heraldlaw10.RopeStretches", spec := "ropeStretches", unfollowed := true, recurses := true, named := ["herald/rope.quarterSines"], apart := false, laid := [("herald/rope.quarterSines", laid_herald_rope_quarterSines)], narrowed := true }
def RopeStretchesUptoSaid : Prop := ropeStretchesUptoRow.holds Tryd.pinned (OpenSpec.upto ropeStretchesSpec)

end Rows
end Go.Proofs.YtengkjkmdodifaaDoor
