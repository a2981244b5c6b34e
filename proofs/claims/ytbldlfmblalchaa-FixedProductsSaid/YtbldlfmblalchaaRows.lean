/-
  No cell of these rows narrows 'for every input' (looked for: loops, veiled, ifaces, maps, wideKeys, modest, calm, conditions, laid).
  DERIVED. THE GIVEN ROWS OF THIS SEAT. 12 by the template 'for every input the law returns true; each argument reads behind the call as it read before'; 0 by the template 'total and deterministic' (their statements: YtbldlfmblalchaaTotals.lean).
  GIVEN WITH THE SEED: the statements are not yours to turn. If you find one false, say at which input.
  Laid BY PROGRAM, IN A SANDBOX (cutbox-rows.mjs): the forced cells as the released guide's own fill.sh prints them over the translation cbe5ca2f2b344223… (all of the seat's roots in one cut). By AI agents, Wed Nov 11 2026. No macro, syntax, notation, axiom, sorry.
-/
import Derived.Test.YtbldlfmblalchaaChecked
import GoSem.Claim
import GoSem.ClaimJoined
import GoSem.ClaimMapViews
import Derived.JoinedTies
import Derived.KernelRfl
namespace Go.Proofs.Ytbldlfmblalchaa
/- THE CELL 'sum', in the pinned program and in every row, IS THE sha256 OF THE DUMP (.gsa) THAT YtbldlfmblalchaaProg.lean LOADS. Nothing in Lean hashes anything: it is a label: what it is worth is what the hold of that sum in a sandbox is worth. -/
noncomputable def Try.pinned : Pinned := { name := "ytbldlfmblalchaa", sum := "cbe5ca2f2b344223f73f560109a5ff7d4e70def97a61cc9759cc4273458eea3a", checked := Try.checked }
namespace Rows
def none {H : Type} : Left H := { results := [], args := [] }

/-- 'heraldlaw02.FixedRounds': WHATEVER THE INPUT: true; the input reads as it did. -/
def fixedRoundsSpec : ChangeSpec := { name := "fixedRounds", fn := fun _ => fun
  | [d1, d2, d3] => { results := [.lit (.bool true)], args := [d1, d2, d3] }
  | _ => none }
def fixedRoundsRow : OpenClaim := { program := "ytbldlfmblalchaa", sum := "cbe5ca2f2b344223f73f560109a5ff7d4e70def97a61cc9759cc4273458eea3a", func := "herald/heraldlaw02.FixedRounds", spec := "fixedRounds", apart := false }
def FixedRoundsSaid : Prop := fixedRoundsRow.holds Try.pinned (OpenSpec.ofChange fixedRoundsSpec)

/-- ITS FALSE NEIGHBOUR: 'it returns false'. Refute it at one input. -/
def fixedRoundsWrong : ChangeSpec := { name := "fixedRounds", fn := fun _ => fun
  | [d1, d2, d3] => { results := [.lit (.bool false)], args := [d1, d2, d3] }
  | _ => none }
def FixedRoundsWrongFalsely : Prop := fixedRoundsRow.holds Try.pinned (OpenSpec.ofChange fixedRoundsWrong)

/-- 'heraldlaw02.FixedRoots': WHATEVER THE INPUT: true; the input reads as it did. -/
def fixedRootsSpec : ChangeSpec := { name := "fixedRoots", fn := fun _ => fun
  | [d] => { results := [.lit (.bool true)], args := [d] }
  | _ => none }
def fixedRootsRow : OpenClaim := { program := "ytbldlfmblalchaa", sum := "cbe5ca2f2b344223f73f560109a5ff7d4e70def97a61cc9759cc4273458eea3a", func := "herald/heraldlaw02.FixedRoots", spec := "fixedRoots", apart := false }
def FixedRootsSaid : Prop := fixedRootsRow.holds Try.pinned (OpenSpec.ofChange fixedRootsSpec)

/-- ITS FALSE NEIGHBOUR: 'it returns false'. Refute it at one input. -/
def fixedRootsWrong : ChangeSpec := { name := "fixedRoots", fn := fun _ => fun
  | [d] => { results := [.lit (.bool false)], args := [d] }
  | _ => none }
def FixedRootsWrongFalsely : Prop := fixedRootsRow.holds Try.pinned (OpenSpec.ofChange fixedRootsWrong)

/-- 'heraldlaw02.FixedPowers': WHATEVER THE INPUT: true; the input reads as it did. -/
def fixedPowersSpec : ChangeSpec := { name := "fixedPowers", fn := fun _ => fun
  | [d] => { results := [.lit (.bool true)], args := [d] }
  | _ => none }
def fixedPowersRow : OpenClaim := { program := "ytbldlfmblalchaa", sum := "cbe5ca2f2b344223f73f560109a5ff7d4e70def97a61cc9759cc4273458eea3a", func := "herald/heraldlaw02.FixedPowers", spec := "fixedPowers", apart := false }
def FixedPowersSaid : Prop := fixedPowersRow.holds Try.pinned (OpenSpec.ofChange fixedPowersSpec)

/-- ITS FALSE NEIGHBOUR: 'it returns false'. Refute it at one input. -/
def fixedPowersWrong : ChangeSpec := { name := "fixedPowers", fn := fun _ => fun
  | [d] => { results := [.lit (.bool false)], args := [d] }
  | _ => none }
def FixedPowersWrongFalsely : Prop := fixedPowersRow.holds Try.pinned (OpenSpec.ofChange fixedPowersWrong)

/-- 'heraldlaw02.FixedRises': WHATEVER THE INPUT: true; the input reads as it did. -/
def fixedRisesSpec : ChangeSpec := { name := "fixedRises", fn := fun _ => fun
  | [d1, d2] => { results := [.lit (.bool true)], args := [d1, d2] }
  | _ => none }
def fixedRisesRow : OpenClaim := { program := "ytbldlfmblalchaa", sum := "cbe5ca2f2b344223f73f560109a5ff7d4e70def97a61cc9759cc4273458eea3a", func := "herald/heraldlaw02.FixedRises", spec := "fixedRises", apart := false }
def FixedRisesSaid : Prop := fixedRisesRow.holds Try.pinned (OpenSpec.ofChange fixedRisesSpec)

/-- ITS FALSE NEIGHBOUR: 'it returns false'. Refute it at one input. -/
def fixedRisesWrong : ChangeSpec := { name := "fixedRises", fn := fun _ => fun
  | [d1, d2] => { results := [.lit (.bool false)], args := [d1, d2] }
  | _ => none }
def FixedRisesWrongFalsely : Prop := fixedRisesRow.holds Try.pinned (OpenSpec.ofChange fixedRisesWrong)

/-- 'heraldlaw02.FixedNearest': WHATEVER THE INPUT: true; the input reads as it did. -/
def fixedNearestSpec : ChangeSpec := { name := "fixedNearest", fn := fun _ => fun
  | [d1, d2, d3] => { results := [.lit (.bool true)], args := [d1, d2, d3] }
  | _ => none }
def fixedNearestRow : OpenClaim := { program := "ytbldlfmblalchaa", sum := "cbe5ca2f2b344223f73f560109a5ff7d4e70def97a61cc9759cc4273458eea3a", func := "herald/heraldlaw02.FixedNearest", spec := "fixedNearest", apart := false }
def FixedNearestSaid : Prop := fixedNearestRow.holds Try.pinned (OpenSpec.ofChange fixedNearestSpec)

/-- ITS FALSE NEIGHBOUR: 'it returns false'. Refute it at one input. -/
def fixedNearestWrong : ChangeSpec := { name := "fixedNearest", fn := fun _ => fun
  | [d1, d2, d3] => { results := [.lit (.bool false)], args := [d1, d2, d3] }
  | _ => none }
def FixedNearestWrongFalsely : Prop := fixedNearestRow.holds Try.pinned (OpenSpec.ofChange fixedNearestWrong)

/-- 'heraldlaw02.FixedBest': WHATEVER THE INPUT: true; the input reads as it did. -/
def fixedBestSpec : ChangeSpec := { name := "fixedBest", fn := fun _ => fun
  | [d] => { results := [.lit (.bool true)], args := [d] }
  | _ => none }
def fixedBestRow : OpenClaim := { program := "ytbldlfmblalchaa", sum := "cbe5ca2f2b344223f73f560109a5ff7d4e70def97a61cc9759cc4273458eea3a", func := "herald/heraldlaw02.FixedBest", spec := "fixedBest", apart := false }
def FixedBestSaid : Prop := fixedBestRow.holds Try.pinned (OpenSpec.ofChange fixedBestSpec)

/-- ITS FALSE NEIGHBOUR: 'it returns false'. Refute it at one input. -/
def fixedBestWrong : ChangeSpec := { name := "fixedBest", fn := fun _ => fun
  | [d] => { results := [.lit (.bool false)], args := [d] }
  | _ => none }
def FixedBestWrongFalsely : Prop := fixedBestRow.holds Try.pinned (OpenSpec.ofChange fixedBestWrong)

/-- 'heraldlaw02.FixedBounds': WHATEVER THE INPUT: true; the input reads as it did. -/
def fixedBoundsSpec : ChangeSpec := { name := "fixedBounds", fn := fun _ => fun
  | [d1, d2, d3] => { results := [.lit (.bool true)], args := [d1, d2, d3] }
  | _ => none }
def fixedBoundsRow : OpenClaim := { program := "ytbldlfmblalchaa", sum := "cbe5ca2f2b344223f73f560109a5ff7d4e70def97a61cc9759cc4273458eea3a", func := "herald/heraldlaw02.FixedBounds", spec := "fixedBounds", apart := false }
def FixedBoundsSaid : Prop := fixedBoundsRow.holds Try.pinned (OpenSpec.ofChange fixedBoundsSpec)

/-- ITS FALSE NEIGHBOUR: 'it returns false'. Refute it at one input. -/
def fixedBoundsWrong : ChangeSpec := { name := "fixedBounds", fn := fun _ => fun
  | [d1, d2, d3] => { results := [.lit (.bool false)], args := [d1, d2, d3] }
  | _ => none }
def FixedBoundsWrongFalsely : Prop := fixedBoundsRow.holds Try.pinned (OpenSpec.ofChange fixedBoundsWrong)

/-- 'heraldlaw02.FixedLogs': WHATEVER THE INPUT: true; the input reads as it did. -/
def fixedLogsSpec : ChangeSpec := { name := "fixedLogs", fn := fun _ => fun
  | [d] => { results := [.lit (.bool true)], args := [d] }
  | _ => none }
def fixedLogsRow : OpenClaim := { program := "ytbldlfmblalchaa", sum := "cbe5ca2f2b344223f73f560109a5ff7d4e70def97a61cc9759cc4273458eea3a", func := "herald/heraldlaw02.FixedLogs", spec := "fixedLogs", apart := false }
def FixedLogsSaid : Prop := fixedLogsRow.holds Try.pinned (OpenSpec.ofChange fixedLogsSpec)

/-- ITS FALSE NEIGHBOUR: 'it returns false'. Refute it at one input. -/
def fixedLogsWrong : ChangeSpec := { name := "fixedLogs", fn := fun _ => fun
  | [d] => { results := [.lit (.bool false)], args := [d] }
  | _ => none }
def FixedLogsWrongFalsely : Prop := fixedLogsRow.holds Try.pinned (OpenSpec.ofChange fixedLogsWrong)

/-- 'heraldlaw02.FixedGrows': WHATEVER THE INPUT: true; the input reads as it did. -/
def fixedGrowsSpec : ChangeSpec := { name := "fixedGrows", fn := fun _ => fun
  | [d1, d2, d3] => { results := [.lit (.bool true)], args := [d1, d2, d3] }
  | _ => none }
def fixedGrowsRow : OpenClaim := { program := "ytbldlfmblalchaa", sum := "cbe5ca2f2b344223f73f560109a5ff7d4e70def97a61cc9759cc4273458eea3a", func := "herald/heraldlaw02.FixedGrows", spec := "fixedGrows", apart := false }
def FixedGrowsSaid : Prop := fixedGrowsRow.holds Try.pinned (OpenSpec.ofChange fixedGrowsSpec)

/-- ITS FALSE NEIGHBOUR: 'it returns false'. Refute it at one input. -/
def fixedGrowsWrong : ChangeSpec := { name := "fixedGrows", fn := fun _ => fun
  | [d1, d2, d3] => { results := [.lit (.bool false)], args := [d1, d2, d3] }
  | _ => none }
def FixedGrowsWrongFalsely : Prop := fixedGrowsRow.holds Try.pinned (OpenSpec.ofChange fixedGrowsWrong)

/-- 'heraldlaw02.FixedSums': WHATEVER THE INPUT: true; the input reads as it did. -/
def fixedSumsSpec : ChangeSpec := { name := "fixedSums", fn := fun _ => fun
  | [d1, d2, d3] => { results := [.lit (.bool true)], args := [d1, d2, d3] }
  | _ => none }
def fixedSumsRow : OpenClaim := { program := "ytbldlfmblalchaa", sum := "cbe5ca2f2b344223f73f560109a5ff7d4e70def97a61cc9759cc4273458eea3a", func := "herald/heraldlaw02.FixedSums", spec := "fixedSums", inPlace := ["math/bits.Add64"], apart := false }
def FixedSumsSaid : Prop := fixedSumsRow.holds Try.pinned (OpenSpec.ofChange fixedSumsSpec)

/-- ITS FALSE NEIGHBOUR: 'it returns false'. Refute it at one input. -/
def fixedSumsWrong : ChangeSpec := { name := "fixedSums", fn := fun _ => fun
  | [d1, d2, d3] => { results := [.lit (.bool false)], args := [d1, d2, d3] }
  | _ => none }
def FixedSumsWrongFalsely : Prop := fixedSumsRow.holds Try.pinned (OpenSpec.ofChange fixedSumsWrong)

/-- 'heraldlaw02.FixedPowersOf': WHATEVER THE INPUT: true; the input reads as it did. -/
def fixedPowersOfSpec : ChangeSpec := { name := "fixedPowersOf", fn := fun _ => fun
  | [d1, d2, d3] => { results := [.lit (.bool true)], args := [d1, d2, d3] }
  | _ => none }
def fixedPowersOfRow : OpenClaim := { program := "ytbldlfmblalchaa", sum := "cbe5ca2f2b344223f73f560109a5ff7d4e70def97a61cc9759cc4273458eea3a", func := "herald/heraldlaw02.FixedPowersOf", spec := "fixedPowersOf", apart := false }
def FixedPowersOfSaid : Prop := fixedPowersOfRow.holds Try.pinned (OpenSpec.ofChange fixedPowersOfSpec)

/-- ITS FALSE NEIGHBOUR: 'it returns false'. Refute it at one input. -/
def fixedPowersOfWrong : ChangeSpec := { name := "fixedPowersOf", fn := fun _ => fun
  | [d1, d2, d3] => { results := [.lit (.bool false)], args := [d1, d2, d3] }
  | _ => none }
def FixedPowersOfWrongFalsely : Prop := fixedPowersOfRow.holds Try.pinned (OpenSpec.ofChange fixedPowersOfWrong)

/-- 'heraldlaw02.FixedProducts': WHATEVER THE INPUT: true; the input reads as it did. -/
def fixedProductsSpec : ChangeSpec := { name := "fixedProducts", fn := fun _ => fun
  | [d1, d2, d3] => { results := [.lit (.bool true)], args := [d1, d2, d3] }
  | _ => none }
def fixedProductsRow : OpenClaim := { program := "ytbldlfmblalchaa", sum := "cbe5ca2f2b344223f73f560109a5ff7d4e70def97a61cc9759cc4273458eea3a", func := "herald/heraldlaw02.FixedProducts", spec := "fixedProducts", named := ["math/bits.divideError", "math/bits.overflowError"], apart := false }
def FixedProductsSaid : Prop := fixedProductsRow.holds Try.pinned (OpenSpec.ofChange fixedProductsSpec)

/-- ITS FALSE NEIGHBOUR: 'it returns false'. Refute it at one input. -/
def fixedProductsWrong : ChangeSpec := { name := "fixedProducts", fn := fun _ => fun
  | [d1, d2, d3] => { results := [.lit (.bool false)], args := [d1, d2, d3] }
  | _ => none }
def FixedProductsWrongFalsely : Prop := fixedProductsRow.holds Try.pinned (OpenSpec.ofChange fixedProductsWrong)

/- THE SECOND FORM. 'bulk': how many values and letters a reading holds, each counted each time it is reached (what is shared counts as often as it is met; a slice's spare places count too). A statement '..UptoSaid' is the law's where the arguments, and the package variables that the reading takes, are together of bulk at most 1048576: NARROWER than '..Said'. Prove '..Said' where nothing that the law and all that it calls make is longer than what came in: it says more and counts as full. Else prove '..UptoSaid'. A law counts once. -/
mutual
def uptoBulk {H : Type} : DataW H → Nat
  | .lit (.string bytes) => bytes.length + 1
  | .lit _ => 1
  | .nil => 1
  | .ptr d => uptoBulk d + 1
  | .slice elems spare => uptoBulkAll elems + uptoBulkAll spare + 1
  | .agg parts => uptoBulkAll parts + 1
  | .iface _ d => uptoBulk d + 1
  | .map entries => uptoBulkEntries entries + 1
  | .held _ => 1
def uptoBulkAll {H : Type} : List (DataW H) → Nat
  | [] => 0
  | d :: r => uptoBulk d + uptoBulkAll r
def uptoBulkEntries {H : Type} : List (Lit × DataW H) → Nat
  | [] => 0
  | x :: r => uptoBulkEntry x + uptoBulkEntries r
def uptoBulkEntry {H : Type} : Lit × DataW H → Nat
  | (.string bytes, d) => bytes.length + uptoBulk d + 1
  | (_, d) => uptoBulk d + 1
 end
def uptoSmall : (H : Type) → List (DataW H) → Bool := fun _ ds => decide (uptoBulkAll ds ≤ 1048576)
def OpenSpec.upto (s : _root_.Go.ChangeSpec) : _root_.Go.OpenSpec := { _root_.Go.OpenSpec.ofChange s with cond := some uptoSmall }

/-- 'heraldlaw02.FixedRounds', WHERE WHAT IT READS IS OF BULK AT MOST 1048576: true; the input reads as it did. -/
def fixedRoundsUptoRow : OpenClaim := { program := "ytbldlfmblalchaa", sum := "cbe5ca2f2b344223f73f560109a5ff7d4e70def97a61cc9759cc4273458eea3a", func := "herald/heraldlaw02.FixedRounds", spec := "fixedRounds", apart := false, narrowed := true }
def FixedRoundsUptoSaid : Prop := fixedRoundsUptoRow.holds Try.pinned (OpenSpec.upto fixedRoundsSpec)

/-- 'heraldlaw02.FixedRoots', WHERE WHAT IT READS IS OF BULK AT MOST 1048576: true; the input reads as it did. -/
def fixedRootsUptoRow : OpenClaim := { program := "ytbldlfmblalchaa", sum := "cbe5ca2f2b344223f73f560109a5ff7d4e70def97a61cc9759cc4273458eea3a", func := "herald/heraldlaw02.FixedRoots", spec := "fixedRoots", apart := false, narrowed := true }
def FixedRootsUptoSaid : Prop := fixedRootsUptoRow.holds Try.pinned (OpenSpec.upto fixedRootsSpec)

/-- 'heraldlaw02.FixedPowers', WHERE WHAT IT READS IS OF BULK AT MOST 1048576: true; the input reads as it did. -/
def fixedPowersUptoRow : OpenClaim := { program := "ytbldlfmblalchaa", sum := "cbe5ca2f2b344223f73f560109a5ff7d4e70def97a61cc9759cc4273458eea3a", func := "herald/heraldlaw02.FixedPowers", spec := "fixedPowers", apart := false, narrowed := true }
def FixedPowersUptoSaid : Prop := fixedPowersUptoRow.holds Try.pinned (OpenSpec.upto fixedPowersSpec)

/-- 'heraldlaw02.FixedRises', WHERE WHAT IT READS IS OF BULK AT MOST 1048576: true; the input reads as it did. -/
def fixedRisesUptoRow : OpenClaim := { program := "ytbldlfmblalchaa", sum := "cbe5ca2f2b344223f73f560109a5ff7d4e70def97a61cc9759cc4273458eea3a", func := "herald/heraldlaw02.FixedRises", spec := "fixedRises", apart := false, narrowed := true }
def FixedRisesUptoSaid : Prop := fixedRisesUptoRow.holds Try.pinned (OpenSpec.upto fixedRisesSpec)

/-- 'heraldlaw02.FixedNearest', WHERE WHAT IT READS IS OF BULK AT MOST 1048576: true; the input reads as it did. -/
def fixedNearestUptoRow : OpenClaim := { program := "ytbldlfmblalchaa", sum := "cbe5ca2f2b344223f73f560109a5ff7d4e70def97a61cc9759cc4273458eea3a", func := "herald/heraldlaw02.FixedNearest", spec := "fixedNearest", apart := false, narrowed := true }
def FixedNearestUptoSaid : Prop := fixedNearestUptoRow.holds Try.pinned (OpenSpec.upto fixedNearestSpec)

/-- 'heraldlaw02.FixedBest', WHERE WHAT IT READS IS OF BULK AT MOST 1048576: true; the input reads as it did. -/
def fixedBestUptoRow : OpenClaim := { program := "ytbldlfmblalchaa", sum := "cbe5ca2f2b344223f73f560109a5ff7d4e70def97a61cc9759cc4273458eea3a", func := "herald/heraldlaw02.FixedBest", spec := "fixedBest", apart := false, narrowed := true }
def FixedBestUptoSaid : Prop := fixedBestUptoRow.holds Try.pinned (OpenSpec.upto fixedBestSpec)

/-- 'heraldlaw02.FixedBounds', WHERE WHAT IT READS IS OF BULK AT MOST 1048576: true; the input reads as it did. -/
def fixedBoundsUptoRow : OpenClaim := { program := "ytbldlfmblalchaa", sum := "cbe5ca2f2b344223f73f560109a5ff7d4e70def97a61cc9759cc4273458eea3a", func := "herald/heraldlaw02.FixedBounds", spec := "fixedBounds", apart := false, narrowed := true }
def FixedBoundsUptoSaid : Prop := fixedBoundsUptoRow.holds Try.pinned (OpenSpec.upto fixedBoundsSpec)

/-- 'heraldlaw02.FixedLogs', WHERE WHAT IT READS IS OF BULK AT MOST 1048576: true; the input reads as it did. -/
def fixedLogsUptoRow : OpenClaim := { program := "ytbldlfmblalchaa", sum := "cbe5ca2f2b344223f73f560109a5ff7d4e70def97a61cc9759cc4273458eea3a", func := "herald/heraldlaw02.FixedLogs", spec := "fixedLogs", apart := false, narrowed := true }
def FixedLogsUptoSaid : Prop := fixedLogsUptoRow.holds Try.pinned (OpenSpec.upto fixedLogsSpec)

/-- 'heraldlaw02.FixedGrows', WHERE WHAT IT READS IS OF BULK AT MOST 1048576: true; the input reads as it did. -/
def fixedGrowsUptoRow : OpenClaim := { program := "ytbldlfmblalchaa", sum := "cbe5ca2f2b344223f73f560109a5ff7d4e70def97a61cc9759cc4273458eea3a", func := "herald/heraldlaw02.FixedGrows", spec := "fixedGrows", apart := false, narrowed := true }
def FixedGrowsUptoSaid : Prop := fixedGrowsUptoRow.holds Try.pinned (OpenSpec.upto fixedGrowsSpec)

/-- 'heraldlaw02.FixedSums', WHERE WHAT IT READS IS OF BULK AT MOST 1048576: true; the input reads as it did. -/
def fixedSumsUptoRow : OpenClaim := { program := "ytbldlfmblalchaa", sum := "cbe5ca2f2b344223f73f560109a5ff7d4e70def97a61cc9759cc4273458eea3a", func := "herald/heraldlaw02.FixedSums", spec := "fixedSums", inPlace := ["math/bits.Add64"], apart := false, narrowed := true }
def FixedSumsUptoSaid : Prop := fixedSumsUptoRow.holds Try.pinned (OpenSpec.upto fixedSumsSpec)

/-- 'heraldlaw02.FixedPowersOf', WHERE WHAT IT READS IS OF BULK AT MOST 1048576: true; the input reads as it did. -/
def fixedPowersOfUptoRow : OpenClaim := { program := "ytbldlfmblalchaa", sum := "cbe5ca2f2b344223f73f560109a5ff7d4e70def97a61cc9759cc4273458eea3a", func := "herald/heraldlaw02.FixedPowersOf", spec := "fixedPowersOf", apart := false, narrowed := true }
def FixedPowersOfUptoSaid : Prop := fixedPowersOfUptoRow.holds Try.pinned (OpenSpec.upto fixedPowersOfSpec)

/-- 'heraldlaw02.FixedProducts', WHERE WHAT IT READS IS OF BULK AT MOST 1048576: true; the input reads as it did. -/
def fixedProductsUptoRow : OpenClaim := { program := "ytbldlfmblalchaa", sum := "cbe5ca2f2b344223f73f560109a5ff7d4e70def97a61cc9759cc4273458eea3a", func := "herald/heraldlaw02.FixedProducts", spec := "fixedProducts", named := ["math/bits.divideError", "math/bits.overflowError"], apart := false, narrowed := true }
def FixedProductsUptoSaid : Prop := fixedProductsUptoRow.holds Try.pinned (OpenSpec.upto fixedProductsSpec)

end Rows
end Go.Proofs.Ytbldlfmblalchaa
