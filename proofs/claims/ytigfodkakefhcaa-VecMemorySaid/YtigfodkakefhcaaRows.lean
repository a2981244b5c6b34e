/-
  No cell of these rows narrows 'for every input' (looked for: loops, veiled, ifaces, maps, wideKeys, modest, calm, conditions, laid).
  DERIVED. THE GIVEN ROWS OF THIS SEAT. 10 by the template 'for every input the law returns true; each argument reads behind the call as it read before'; 0 by the template 'total and deterministic' (their statements: YtigfodkakefhcaaTotals.lean).
  GIVEN WITH THE SEED: the statements are not yours to turn. If you find one false, say at which input.
  Laid BY PROGRAM, IN A SANDBOX (cutbox-rows.mjs): the forced cells as the released guide's own fill.sh prints them over the translation 249aa1f6920a5e14… (all of the seat's roots in one cut). By AI agents, Wed Nov 11 2026. No macro, syntax, notation, axiom, sorry.
-/
import Derived.Test.YtigfodkakefhcaaChecked
import GoSem.Claim
import GoSem.ClaimJoined
import GoSem.ClaimMapViews
import Derived.JoinedTies
import Derived.KernelRfl
namespace Go.Proofs.Ytigfodkakefhcaa
/- THE CELL 'sum', in the pinned program and in every row, IS THE sha256 OF THE DUMP (.gsa) THAT YtigfodkakefhcaaProg.lean LOADS. Nothing in Lean hashes anything: it is a label: what it is worth is what the hold of that sum in a sandbox is worth. -/
noncomputable def Try.pinned : Pinned := { name := "ytigfodkakefhcaa", sum := "249aa1f6920a5e143e767522ea9a9acf34889b9d1445ccd9bb280d719a5defe3", checked := Try.checked }
namespace Rows
def none {H : Type} : Left H := { results := [], args := [] }

/-- 'heraldlaw08.VecTimes': WHATEVER THE INPUT: true; the input reads as it did. -/
def vecTimesSpec : ChangeSpec := { name := "vecTimes", fn := fun _ => fun
  | [d1, d2] => { results := [.lit (.bool true)], args := [d1, d2] }
  | _ => none }
def vecTimesRow : OpenClaim := { program := "ytigfodkakefhcaa", sum := "249aa1f6920a5e143e767522ea9a9acf34889b9d1445ccd9bb280d719a5defe3", func := "herald/heraldlaw08.VecTimes", spec := "vecTimes", unfollowed := true, recurses := true, apart := false }
def VecTimesSaid : Prop := vecTimesRow.holds Try.pinned (OpenSpec.ofChange vecTimesSpec)

/-- ITS FALSE NEIGHBOUR: 'it returns false'. Refute it at one input. -/
def vecTimesWrong : ChangeSpec := { name := "vecTimes", fn := fun _ => fun
  | [d1, d2] => { results := [.lit (.bool false)], args := [d1, d2] }
  | _ => none }
def VecTimesWrongFalsely : Prop := vecTimesRow.holds Try.pinned (OpenSpec.ofChange vecTimesWrong)

/-- 'heraldlaw08.VecDots': WHATEVER THE INPUT: true; the input reads as it did. -/
def vecDotsSpec : ChangeSpec := { name := "vecDots", fn := fun _ => fun
  | [d1, d2] => { results := [.lit (.bool true)], args := [d1, d2] }
  | _ => none }
def vecDotsRow : OpenClaim := { program := "ytigfodkakefhcaa", sum := "249aa1f6920a5e143e767522ea9a9acf34889b9d1445ccd9bb280d719a5defe3", func := "herald/heraldlaw08.VecDots", spec := "vecDots", unfollowed := true, recurses := true, apart := false }
def VecDotsSaid : Prop := vecDotsRow.holds Try.pinned (OpenSpec.ofChange vecDotsSpec)

/-- ITS FALSE NEIGHBOUR: 'it returns false'. Refute it at one input. -/
def vecDotsWrong : ChangeSpec := { name := "vecDots", fn := fun _ => fun
  | [d1, d2] => { results := [.lit (.bool false)], args := [d1, d2] }
  | _ => none }
def VecDotsWrongFalsely : Prop := vecDotsRow.holds Try.pinned (OpenSpec.ofChange vecDotsWrong)

/-- 'heraldlaw08.VecBatches': WHATEVER THE INPUT: true; the input reads as it did. -/
def vecBatchesSpec : ChangeSpec := { name := "vecBatches", fn := fun _ => fun
  | [d1, d2] => { results := [.lit (.bool true)], args := [d1, d2] }
  | _ => none }
def vecBatchesRow : OpenClaim := { program := "ytigfodkakefhcaa", sum := "249aa1f6920a5e143e767522ea9a9acf34889b9d1445ccd9bb280d719a5defe3", func := "herald/heraldlaw08.VecBatches", spec := "vecBatches", unfollowed := true, recurses := true, apart := false }
def VecBatchesSaid : Prop := vecBatchesRow.holds Try.pinned (OpenSpec.ofChange vecBatchesSpec)

/-- ITS FALSE NEIGHBOUR: 'it returns false'. Refute it at one input. -/
def vecBatchesWrong : ChangeSpec := { name := "vecBatches", fn := fun _ => fun
  | [d1, d2] => { results := [.lit (.bool false)], args := [d1, d2] }
  | _ => none }
def VecBatchesWrongFalsely : Prop := vecBatchesRow.holds Try.pinned (OpenSpec.ofChange vecBatchesWrong)

/-- 'heraldlaw08.VecRows': WHATEVER THE INPUT: true; the input reads as it did. -/
def vecRowsSpec : ChangeSpec := { name := "vecRows", fn := fun _ => fun
  | [d1, d2] => { results := [.lit (.bool true)], args := [d1, d2] }
  | _ => none }
def vecRowsRow : OpenClaim := { program := "ytigfodkakefhcaa", sum := "249aa1f6920a5e143e767522ea9a9acf34889b9d1445ccd9bb280d719a5defe3", func := "herald/heraldlaw08.VecRows", spec := "vecRows", unfollowed := true, recurses := true, apart := false }
def VecRowsSaid : Prop := vecRowsRow.holds Try.pinned (OpenSpec.ofChange vecRowsSpec)

/-- ITS FALSE NEIGHBOUR: 'it returns false'. Refute it at one input. -/
def vecRowsWrong : ChangeSpec := { name := "vecRows", fn := fun _ => fun
  | [d1, d2] => { results := [.lit (.bool false)], args := [d1, d2] }
  | _ => none }
def VecRowsWrongFalsely : Prop := vecRowsRow.holds Try.pinned (OpenSpec.ofChange vecRowsWrong)

/-- 'heraldlaw08.VecUnpacks': WHATEVER THE INPUT: true; the input reads as it did. -/
def vecUnpacksSpec : ChangeSpec := { name := "vecUnpacks", fn := fun _ => fun
  | [d1, d2, d3] => { results := [.lit (.bool true)], args := [d1, d2, d3] }
  | _ => none }
def vecUnpacksRow : OpenClaim := { program := "ytigfodkakefhcaa", sum := "249aa1f6920a5e143e767522ea9a9acf34889b9d1445ccd9bb280d719a5defe3", func := "herald/heraldlaw08.VecUnpacks", spec := "vecUnpacks", unfollowed := true, recurses := true, apart := false }
def VecUnpacksSaid : Prop := vecUnpacksRow.holds Try.pinned (OpenSpec.ofChange vecUnpacksSpec)

/-- ITS FALSE NEIGHBOUR: 'it returns false'. Refute it at one input. -/
def vecUnpacksWrong : ChangeSpec := { name := "vecUnpacks", fn := fun _ => fun
  | [d1, d2, d3] => { results := [.lit (.bool false)], args := [d1, d2, d3] }
  | _ => none }
def VecUnpacksWrongFalsely : Prop := vecUnpacksRow.holds Try.pinned (OpenSpec.ofChange vecUnpacksWrong)

/-- 'heraldlaw08.VecPacks': WHATEVER THE INPUT: true; the input reads as it did. -/
def vecPacksSpec : ChangeSpec := { name := "vecPacks", fn := fun _ => fun
  | [d1, d2] => { results := [.lit (.bool true)], args := [d1, d2] }
  | _ => none }
def vecPacksRow : OpenClaim := { program := "ytigfodkakefhcaa", sum := "249aa1f6920a5e143e767522ea9a9acf34889b9d1445ccd9bb280d719a5defe3", func := "herald/heraldlaw08.VecPacks", spec := "vecPacks", unfollowed := true, recurses := true, apart := false }
def VecPacksSaid : Prop := vecPacksRow.holds Try.pinned (OpenSpec.ofChange vecPacksSpec)

/-- ITS FALSE NEIGHBOUR: 'it returns false'. Refute it at one input. -/
def vecPacksWrong : ChangeSpec := { name := "vecPacks", fn := fun _ => fun
  | [d1, d2] => { results := [.lit (.bool false)], args := [d1, d2] }
  | _ => none }
def VecPacksWrongFalsely : Prop := vecPacksRow.holds Try.pinned (OpenSpec.ofChange vecPacksWrong)

/-- 'heraldlaw08.VecWidens': WHATEVER THE INPUT: true; the input reads as it did. -/
def vecWidensSpec : ChangeSpec := { name := "vecWidens", fn := fun _ => fun
  | [d1, d2] => { results := [.lit (.bool true)], args := [d1, d2] }
  | _ => none }
def vecWidensRow : OpenClaim := { program := "ytigfodkakefhcaa", sum := "249aa1f6920a5e143e767522ea9a9acf34889b9d1445ccd9bb280d719a5defe3", func := "herald/heraldlaw08.VecWidens", spec := "vecWidens", unfollowed := true, recurses := true, apart := false }
def VecWidensSaid : Prop := vecWidensRow.holds Try.pinned (OpenSpec.ofChange vecWidensSpec)

/-- ITS FALSE NEIGHBOUR: 'it returns false'. Refute it at one input. -/
def vecWidensWrong : ChangeSpec := { name := "vecWidens", fn := fun _ => fun
  | [d1, d2] => { results := [.lit (.bool false)], args := [d1, d2] }
  | _ => none }
def VecWidensWrongFalsely : Prop := vecWidensRow.holds Try.pinned (OpenSpec.ofChange vecWidensWrong)

/-- 'heraldlaw08.VecScales': WHATEVER THE INPUT: true; the input reads as it did. -/
def vecScalesSpec : ChangeSpec := { name := "vecScales", fn := fun _ => fun
  | [d1, d2, d3] => { results := [.lit (.bool true)], args := [d1, d2, d3] }
  | _ => none }
def vecScalesRow : OpenClaim := { program := "ytigfodkakefhcaa", sum := "249aa1f6920a5e143e767522ea9a9acf34889b9d1445ccd9bb280d719a5defe3", func := "herald/heraldlaw08.VecScales", spec := "vecScales", unfollowed := true, recurses := true, apart := false }
def VecScalesSaid : Prop := vecScalesRow.holds Try.pinned (OpenSpec.ofChange vecScalesSpec)

/-- ITS FALSE NEIGHBOUR: 'it returns false'. Refute it at one input. -/
def vecScalesWrong : ChangeSpec := { name := "vecScales", fn := fun _ => fun
  | [d1, d2, d3] => { results := [.lit (.bool false)], args := [d1, d2, d3] }
  | _ => none }
def VecScalesWrongFalsely : Prop := vecScalesRow.holds Try.pinned (OpenSpec.ofChange vecScalesWrong)

/-- 'heraldlaw08.VecNears': WHATEVER THE INPUT: true; the input reads as it did. -/
def vecNearsSpec : ChangeSpec := { name := "vecNears", fn := fun _ => fun
  | [d1, d2] => { results := [.lit (.bool true)], args := [d1, d2] }
  | _ => none }
def vecNearsRow : OpenClaim := { program := "ytigfodkakefhcaa", sum := "249aa1f6920a5e143e767522ea9a9acf34889b9d1445ccd9bb280d719a5defe3", func := "herald/heraldlaw08.VecNears", spec := "vecNears", unfollowed := true, recurses := true, apart := false }
def VecNearsSaid : Prop := vecNearsRow.holds Try.pinned (OpenSpec.ofChange vecNearsSpec)

/-- ITS FALSE NEIGHBOUR: 'it returns false'. Refute it at one input. -/
def vecNearsWrong : ChangeSpec := { name := "vecNears", fn := fun _ => fun
  | [d1, d2] => { results := [.lit (.bool false)], args := [d1, d2] }
  | _ => none }
def VecNearsWrongFalsely : Prop := vecNearsRow.holds Try.pinned (OpenSpec.ofChange vecNearsWrong)

/-- 'heraldlaw08.VecMemory': WHATEVER THE INPUT: true; the input reads as it did. -/
def vecMemorySpec : ChangeSpec := { name := "vecMemory", fn := fun _ => fun
  | [d1, d2, d3] => { results := [.lit (.bool true)], args := [d1, d2, d3] }
  | _ => none }
def vecMemoryRow : OpenClaim := { program := "ytigfodkakefhcaa", sum := "249aa1f6920a5e143e767522ea9a9acf34889b9d1445ccd9bb280d719a5defe3", func := "herald/heraldlaw08.VecMemory", spec := "vecMemory", unfollowed := true, recurses := true, apart := false }
def VecMemorySaid : Prop := vecMemoryRow.holds Try.pinned (OpenSpec.ofChange vecMemorySpec)

/-- ITS FALSE NEIGHBOUR: 'it returns false'. Refute it at one input. -/
def vecMemoryWrong : ChangeSpec := { name := "vecMemory", fn := fun _ => fun
  | [d1, d2, d3] => { results := [.lit (.bool false)], args := [d1, d2, d3] }
  | _ => none }
def VecMemoryWrongFalsely : Prop := vecMemoryRow.holds Try.pinned (OpenSpec.ofChange vecMemoryWrong)

/- THE SECOND FORM. 'bulk': how many values and letters a reading holds, each counted each time it is reached (what is shared counts as often as it is met; a slice's spare places count too). A statement '..UptoSaid' is the law's where the arguments, and the package variables that the reading takes, are together of bulk at most 1048576: NARROWER than '..Said'. Prove '..Said' where nothing that the law and all that it calls make is longer than what came in: it says more and counts as full. Else prove '..UptoSaid'. A law counts once. -/
mutual
def uptoBulk {H : Type} : DataW H → Nat
  | .lit (.string bytes) => bytes.length + 1
  | .lit _ => 1
  | .nil => 1
  | .ptr d => uptoBulk d + 1
  | .slice elems spare => uptoBulkAll elems + uptoBulkAll spare + 1
  | .agg parts => uptoBulkAll parts + 1
  | .iface _ d => uptoBulk d + 1
  | .map entries => uptoBulkEntries entries + 1
  | .held _ => 1
def uptoBulkAll {H : Type} : List (DataW H) → Nat
  | [] => 0
  | d :: r => uptoBulk d + uptoBulkAll r
def uptoBulkEntries {H : Type} : List (Lit × DataW H) → Nat
  | [] => 0
  | x :: r => uptoBulkEntry x + uptoBulkEntries r
def uptoBulkEntry {H : Type} : Lit × DataW H → Nat
  | (.string bytes, d) => bytes.length + uptoBulk d + 1
  | (_, d) => uptoBulk d + 1
 end
def uptoSmall : (H : Type) → List (DataW H) → Bool := fun _ ds => decide (uptoBulkAll ds ≤ 1048576)
def OpenSpec.upto (s : _root_.Go.ChangeSpec) : _root_.Go.OpenSpec := { _root_.Go.OpenSpec.ofChange s with cond := some uptoSmall }

/-- 'heraldlaw08.VecTimes', WHERE WHAT IT READS IS OF BULK AT MOST 1048576: true; the input reads as it did. -/
def vecTimesUptoRow : OpenClaim := { program := "ytigfodkakefhcaa", sum := "249aa1f6920a5e143e767522ea9a9acf34889b9d1445ccd9bb280d719a5defe3", func := "herald/heraldlaw08.VecTimes", spec := "vecTimes", unfollowed := true, recurses := true, apart := false, narrowed := true }
def VecTimesUptoSaid : Prop := vecTimesUptoRow.holds Try.pinned (OpenSpec.upto vecTimesSpec)

/-- 'heraldlaw08.VecDots', WHERE WHAT IT READS IS OF BULK AT MOST 1048576: true; the input reads as it did. -/
def vecDotsUptoRow : OpenClaim := { program := "ytigfodkakefhcaa", sum := "249aa1f6920a5e143e767522ea9a9acf34889b9d1445ccd9bb280d719a5defe3", func := "herald/heraldlaw08.VecDots", spec := "vecDots", unfollowed := true, recurses := true, apart := false, narrowed := true }
def VecDotsUptoSaid : Prop := vecDotsUptoRow.holds Try.pinned (OpenSpec.upto vecDotsSpec)

/-- 'heraldlaw08.VecBatches', WHERE WHAT IT READS IS OF BULK AT MOST 1048576: true; the input reads as it did. -/
def vecBatchesUptoRow : OpenClaim := { program := "ytigfodkakefhcaa", sum := "249aa1f6920a5e143e767522ea9a9acf34889b9d1445ccd9bb280d719a5defe3", func := "herald/heraldlaw08.VecBatches", spec := "vecBatches", unfollowed := true, recurses := true, apart := false, narrowed := true }
def VecBatchesUptoSaid : Prop := vecBatchesUptoRow.holds Try.pinned (OpenSpec.upto vecBatchesSpec)

/-- 'heraldlaw08.VecRows', WHERE WHAT IT READS IS OF BULK AT MOST 1048576: true; the input reads as it did. -/
def vecRowsUptoRow : OpenClaim := { program := "ytigfodkakefhcaa", sum := "249aa1f6920a5e143e767522ea9a9acf34889b9d1445ccd9bb280d719a5defe3", func := "herald/heraldlaw08.VecRows", spec := "vecRows", unfollowed := true, recurses := true, apart := false, narrowed := true }
def VecRowsUptoSaid : Prop := vecRowsUptoRow.holds Try.pinned (OpenSpec.upto vecRowsSpec)

/-- 'heraldlaw08.VecUnpacks', WHERE WHAT IT READS IS OF BULK AT MOST 1048576: true; the input reads as it did. -/
def vecUnpacksUptoRow : OpenClaim := { program := "ytigfodkakefhcaa", sum := "249aa1f6920a5e143e767522ea9a9acf34889b9d1445ccd9bb280d719a5defe3", func := "herald/heraldlaw08.VecUnpacks", spec := "vecUnpacks", unfollowed := true, recurses := true, apart := false, narrowed := true }
def VecUnpacksUptoSaid : Prop := vecUnpacksUptoRow.holds Try.pinned (OpenSpec.upto vecUnpacksSpec)

/-- 'heraldlaw08.VecPacks', WHERE WHAT IT READS IS OF BULK AT MOST 1048576: true; the input reads as it did. -/
def vecPacksUptoRow : OpenClaim := { program := "ytigfodkakefhcaa", sum := "249aa1f6920a5e143e767522ea9a9acf34889b9d1445ccd9bb280d719a5defe3", func := "herald/heraldlaw08.VecPacks", spec := "vecPacks", unfollowed := true, recurses := true, apart := false, narrowed := true }
def VecPacksUptoSaid : Prop := vecPacksUptoRow.holds Try.pinned (OpenSpec.upto vecPacksSpec)

/-- 'heraldlaw08.VecWidens', WHERE WHAT IT READS IS OF BULK AT MOST 1048576: true; the input reads as it did. -/
def vecWidensUptoRow : OpenClaim := { program := "ytigfodkakefhcaa", sum := "249aa1f6920a5e143e767522ea9a9acf34889b9d1445ccd9bb280d719a5defe3", func := "herald/heraldlaw08.VecWidens", spec := "vecWidens", unfollowed := true, recurses := true, apart := false, narrowed := true }
def VecWidensUptoSaid : Prop := vecWidensUptoRow.holds Try.pinned (OpenSpec.upto vecWidensSpec)

/-- 'heraldlaw08.VecScales', WHERE WHAT IT READS IS OF BULK AT MOST 1048576: true; the input reads as it did. -/
def vecScalesUptoRow : OpenClaim := { program := "ytigfodkakefhcaa", sum := "249aa1f6920a5e143e767522ea9a9acf34889b9d1445ccd9bb280d719a5defe3", func := "herald/heraldlaw08.VecScales", spec := "vecScales", unfollowed := true, recurses := true, apart := false, narrowed := true }
def VecScalesUptoSaid : Prop := vecScalesUptoRow.holds Try.pinned (OpenSpec.upto vecScalesSpec)

/-- 'heraldlaw08.VecNears', WHERE WHAT IT READS IS OF BULK AT MOST 1048576: true; the input reads as it did. -/
def vecNearsUptoRow : OpenClaim := { program := "ytigfodkakefhcaa", sum := "249aa1f6920a5e143e767522ea9a9acf34889b9d1445ccd9bb280d719a5defe3", func := "herald/heraldlaw08.VecNears", spec := "vecNears", unfollowed := true, recurses := true, apart := false, narrowed := true }
def VecNearsUptoSaid : Prop := vecNearsUptoRow.holds Try.pinned (OpenSpec.upto vecNearsSpec)

/-- 'heraldlaw08.VecMemory', WHERE WHAT IT READS IS OF BULK AT MOST 1048576: true; the input reads as it did. -/
def vecMemoryUptoRow : OpenClaim := { program := "ytigfodkakefhcaa", sum := "249aa1f6920a5e143e767522ea9a9acf34889b9d1445ccd9bb280d719a5defe3", func := "herald/heraldlaw08.VecMemory", spec := "vecMemory", unfollowed := true, recurses := true, apart := false, narrowed := true }
def VecMemoryUptoSaid : Prop := vecMemoryUptoRow.holds Try.pinned (OpenSpec.upto vecMemorySpec)

end Rows
end Go.Proofs.Ytigfodkakefhcaa
