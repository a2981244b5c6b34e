/-
  No cell of these rows narrows 'for every input' (looked for: loops, veiled, ifaces, maps, wideKeys, modest, calm, conditions, laid).
  DERIVED. THE GIVEN ROWS OF THIS SEAT. 9 by the template 'for every input the law returns true; each argument reads behind the call as it read before'; 0 by the template 'total and deterministic' (their statements: YtmpldbccohdnjaaTotals.lean).
  GIVEN WITH THE SEED: the statements are not yours to turn. If you find one false, say at which input.
  Laid BY PROGRAM, IN A SANDBOX (cutbox-rows.mjs): the forced cells as the released guide's own fill.sh prints them over the translation 6d53649fb746ecb0… (all of the seat's roots in one cut). By AI agents, Wed Nov 11 2026. No macro, syntax, notation, axiom, sorry.
-/
import Derived.Test.YtmpldbccohdnjaaChecked
import GoSem.Claim
import GoSem.ClaimJoined
import GoSem.ClaimMapViews
import Derived.JoinedTies
import Derived.KernelRfl
namespace Go.Proofs.Ytmpldbccohdnjaa
/- THE CELL 'sum', in the pinned program and in every row, IS THE sha256 OF THE DUMP (.gsa) THAT YtmpldbccohdnjaaProg.lean LOADS. Nothing in Lean hashes anything: it is a label: what it is worth is what the hold of that sum in a sandbox is worth. -/
noncomputable def Try.pinned : Pinned := { name := "ytmpldbccohdnjaa", sum := "6d53649fb746ecb0dd24ffb7701bb486dae6959519c6a1481d5fd8bb3edc957b", checked := Try.checked }
namespace Rows
def none {H : Type} : Left H := { results := [], args := [] }

/-- 'heraldlaw11.SoftWeighs': WHATEVER THE INPUT: true; the input reads as it did. -/
def softWeighsSpec : ChangeSpec := { name := "softWeighs", fn := fun _ => fun
  | [d] => { results := [.lit (.bool true)], args := [d] }
  | _ => none }
def softWeighsRow : OpenClaim := { program := "ytmpldbccohdnjaa", sum := "6d53649fb746ecb0dd24ffb7701bb486dae6959519c6a1481d5fd8bb3edc957b", func := "herald/heraldlaw11.SoftWeighs", spec := "softWeighs", apart := false }
def SoftWeighsSaid : Prop := softWeighsRow.holds Try.pinned (OpenSpec.ofChange softWeighsSpec)

/-- ITS FALSE NEIGHBOUR: 'it returns false'. Refute it at one input. -/
def softWeighsWrong : ChangeSpec := { name := "softWeighs", fn := fun _ => fun
  | [d] => { results := [.lit (.bool false)], args := [d] }
  | _ => none }
def SoftWeighsWrongFalsely : Prop := softWeighsRow.holds Try.pinned (OpenSpec.ofChange softWeighsWrong)

/-- 'heraldlaw11.SoftMean': WHATEVER THE INPUT: true; the input reads as it did. -/
def softMeanSpec : ChangeSpec := { name := "softMean", fn := fun _ => fun
  | [d1, d2] => { results := [.lit (.bool true)], args := [d1, d2] }
  | _ => none }
def softMeanRow : OpenClaim := { program := "ytmpldbccohdnjaa", sum := "6d53649fb746ecb0dd24ffb7701bb486dae6959519c6a1481d5fd8bb3edc957b", func := "herald/heraldlaw11.SoftMean", spec := "softMean", apart := false }
def SoftMeanSaid : Prop := softMeanRow.holds Try.pinned (OpenSpec.ofChange softMeanSpec)

/-- ITS FALSE NEIGHBOUR: 'it returns false'. Refute it at one input. -/
def softMeanWrong : ChangeSpec := { name := "softMean", fn := fun _ => fun
  | [d1, d2] => { results := [.lit (.bool false)], args := [d1, d2] }
  | _ => none }
def SoftMeanWrongFalsely : Prop := softMeanRow.holds Try.pinned (OpenSpec.ofChange softMeanWrong)

/-- 'heraldlaw11.SoftShifts': WHATEVER THE INPUT: true; the input reads as it did. -/
def softShiftsSpec : ChangeSpec := { name := "softShifts", fn := fun _ => fun
  | [d1, d2] => { results := [.lit (.bool true)], args := [d1, d2] }
  | _ => none }
def softShiftsRow : OpenClaim := { program := "ytmpldbccohdnjaa", sum := "6d53649fb746ecb0dd24ffb7701bb486dae6959519c6a1481d5fd8bb3edc957b", func := "herald/heraldlaw11.SoftShifts", spec := "softShifts", apart := false }
def SoftShiftsSaid : Prop := softShiftsRow.holds Try.pinned (OpenSpec.ofChange softShiftsSpec)

/-- ITS FALSE NEIGHBOUR: 'it returns false'. Refute it at one input. -/
def softShiftsWrong : ChangeSpec := { name := "softShifts", fn := fun _ => fun
  | [d1, d2] => { results := [.lit (.bool false)], args := [d1, d2] }
  | _ => none }
def SoftShiftsWrongFalsely : Prop := softShiftsRow.holds Try.pinned (OpenSpec.ofChange softShiftsWrong)

/-- 'heraldlaw11.SoftBetween': WHATEVER THE INPUT: true; the input reads as it did. -/
def softBetweenSpec : ChangeSpec := { name := "softBetween", fn := fun _ => fun
  | [d1, d2] => { results := [.lit (.bool true)], args := [d1, d2] }
  | _ => none }
def softBetweenRow : OpenClaim := { program := "ytmpldbccohdnjaa", sum := "6d53649fb746ecb0dd24ffb7701bb486dae6959519c6a1481d5fd8bb3edc957b", func := "herald/heraldlaw11.SoftBetween", spec := "softBetween", apart := false }
def SoftBetweenSaid : Prop := softBetweenRow.holds Try.pinned (OpenSpec.ofChange softBetweenSpec)

/-- ITS FALSE NEIGHBOUR: 'it returns false'. Refute it at one input. -/
def softBetweenWrong : ChangeSpec := { name := "softBetween", fn := fun _ => fun
  | [d1, d2] => { results := [.lit (.bool false)], args := [d1, d2] }
  | _ => none }
def SoftBetweenWrongFalsely : Prop := softBetweenRow.holds Try.pinned (OpenSpec.ofChange softBetweenWrong)

/-- 'heraldlaw11.SoftTurns': WHATEVER THE INPUT: true; the input reads as it did. -/
def softTurnsSpec : ChangeSpec := { name := "softTurns", fn := fun _ => fun
  | [d1, d2, d3] => { results := [.lit (.bool true)], args := [d1, d2, d3] }
  | _ => none }
def softTurnsRow : OpenClaim := { program := "ytmpldbccohdnjaa", sum := "6d53649fb746ecb0dd24ffb7701bb486dae6959519c6a1481d5fd8bb3edc957b", func := "herald/heraldlaw11.SoftTurns", spec := "softTurns", apart := false }
def SoftTurnsSaid : Prop := softTurnsRow.holds Try.pinned (OpenSpec.ofChange softTurnsSpec)

/-- ITS FALSE NEIGHBOUR: 'it returns false'. Refute it at one input. -/
def softTurnsWrong : ChangeSpec := { name := "softTurns", fn := fun _ => fun
  | [d1, d2, d3] => { results := [.lit (.bool false)], args := [d1, d2, d3] }
  | _ => none }
def SoftTurnsWrongFalsely : Prop := softTurnsRow.holds Try.pinned (OpenSpec.ofChange softTurnsWrong)

/-- 'heraldlaw11.SoftMeans': WHATEVER THE INPUT: true; the input reads as it did. -/
def softMeansSpec : ChangeSpec := { name := "softMeans", fn := fun _ => fun
  | [d1, d2] => { results := [.lit (.bool true)], args := [d1, d2] }
  | _ => none }
def softMeansRow : OpenClaim := { program := "ytmpldbccohdnjaa", sum := "6d53649fb746ecb0dd24ffb7701bb486dae6959519c6a1481d5fd8bb3edc957b", func := "herald/heraldlaw11.SoftMeans", spec := "softMeans", apart := false }
def SoftMeansSaid : Prop := softMeansRow.holds Try.pinned (OpenSpec.ofChange softMeansSpec)

/-- ITS FALSE NEIGHBOUR: 'it returns false'. Refute it at one input. -/
def softMeansWrong : ChangeSpec := { name := "softMeans", fn := fun _ => fun
  | [d1, d2] => { results := [.lit (.bool false)], args := [d1, d2] }
  | _ => none }
def SoftMeansWrongFalsely : Prop := softMeansRow.holds Try.pinned (OpenSpec.ofChange softMeansWrong)

/-- 'heraldlaw11.SoftMemory': WHATEVER THE INPUT: true; the input reads as it did. -/
def softMemorySpec : ChangeSpec := { name := "softMemory", fn := fun _ => fun
  | [d1, d2] => { results := [.lit (.bool true)], args := [d1, d2] }
  | _ => none }
def softMemoryRow : OpenClaim := { program := "ytmpldbccohdnjaa", sum := "6d53649fb746ecb0dd24ffb7701bb486dae6959519c6a1481d5fd8bb3edc957b", func := "herald/heraldlaw11.SoftMemory", spec := "softMemory", apart := false }
def SoftMemorySaid : Prop := softMemoryRow.holds Try.pinned (OpenSpec.ofChange softMemorySpec)

/-- ITS FALSE NEIGHBOUR: 'it returns false'. Refute it at one input. -/
def softMemoryWrong : ChangeSpec := { name := "softMemory", fn := fun _ => fun
  | [d1, d2] => { results := [.lit (.bool false)], args := [d1, d2] }
  | _ => none }
def SoftMemoryWrongFalsely : Prop := softMemoryRow.holds Try.pinned (OpenSpec.ofChange softMemoryWrong)

/-- 'heraldlaw11.SoftSames': WHATEVER THE INPUT: true; the input reads as it did. -/
def softSamesSpec : ChangeSpec := { name := "softSames", fn := fun _ => fun
  | [d1, d2, d3] => { results := [.lit (.bool true)], args := [d1, d2, d3] }
  | _ => none }
def softSamesRow : OpenClaim := { program := "ytmpldbccohdnjaa", sum := "6d53649fb746ecb0dd24ffb7701bb486dae6959519c6a1481d5fd8bb3edc957b", func := "herald/heraldlaw11.SoftSames", spec := "softSames", apart := false }
def SoftSamesSaid : Prop := softSamesRow.holds Try.pinned (OpenSpec.ofChange softSamesSpec)

/-- ITS FALSE NEIGHBOUR: 'it returns false'. Refute it at one input. -/
def softSamesWrong : ChangeSpec := { name := "softSames", fn := fun _ => fun
  | [d1, d2, d3] => { results := [.lit (.bool false)], args := [d1, d2, d3] }
  | _ => none }
def SoftSamesWrongFalsely : Prop := softSamesRow.holds Try.pinned (OpenSpec.ofChange softSamesWrong)

/-- 'heraldlaw11.SoftMasks': WHATEVER THE INPUT: true; the input reads as it did. -/
def softMasksSpec : ChangeSpec := { name := "softMasks", fn := fun _ => fun
  | [d1, d2, d3] => { results := [.lit (.bool true)], args := [d1, d2, d3] }
  | _ => none }
def softMasksRow : OpenClaim := { program := "ytmpldbccohdnjaa", sum := "6d53649fb746ecb0dd24ffb7701bb486dae6959519c6a1481d5fd8bb3edc957b", func := "herald/heraldlaw11.SoftMasks", spec := "softMasks", apart := false }
def SoftMasksSaid : Prop := softMasksRow.holds Try.pinned (OpenSpec.ofChange softMasksSpec)

/-- ITS FALSE NEIGHBOUR: 'it returns false'. Refute it at one input. -/
def softMasksWrong : ChangeSpec := { name := "softMasks", fn := fun _ => fun
  | [d1, d2, d3] => { results := [.lit (.bool false)], args := [d1, d2, d3] }
  | _ => none }
def SoftMasksWrongFalsely : Prop := softMasksRow.holds Try.pinned (OpenSpec.ofChange softMasksWrong)

/- THE SECOND FORM. 'bulk': how many values and letters a reading holds, each counted each time it is reached (what is shared counts as often as it is met; a slice's spare places count too). A statement '..UptoSaid' is the law's where the arguments, and the package variables that the reading takes, are together of bulk at most 1048576: NARROWER than '..Said'. Prove '..Said' where nothing that the law and all that it calls make is longer than what came in: it says more and counts as full. Else prove '..UptoSaid'. A law counts once. -/
mutual
def uptoBulk {H : Type} : DataW H → Nat
  | .lit (.string bytes) => bytes.length + 1
  | .lit _ => 1
  | .nil => 1
  | .ptr d => uptoBulk d + 1
  | .slice elems spare => uptoBulkAll elems + uptoBulkAll spare + 1
  | .agg parts => uptoBulkAll parts + 1
  | .iface _ d => uptoBulk d + 1
  | .map entries => uptoBulkEntries entries + 1
  | .held _ => 1
def uptoBulkAll {H : Type} : List (DataW H) → Nat
  | [] => 0
  | d :: r => uptoBulk d + uptoBulkAll r
def uptoBulkEntries {H : Type} : List (Lit × DataW H) → Nat
  | [] => 0
  | x :: r => uptoBulkEntry x + uptoBulkEntries r
def uptoBulkEntry {H : Type} : Lit × DataW H → Nat
  | (.string bytes, d) => bytes.length + uptoBulk d + 1
  | (_, d) => uptoBulk d + 1
 end
def uptoSmall : (H : Type) → List (DataW H) → Bool := fun _ ds => decide (uptoBulkAll ds ≤ 1048576)
def OpenSpec.upto (s : _root_.Go.ChangeSpec) : _root_.Go.OpenSpec := { _root_.Go.OpenSpec.ofChange s with cond := some uptoSmall }

/-- 'heraldlaw11.SoftWeighs', WHERE WHAT IT READS IS OF BULK AT MOST 1048576: true; the input reads as it did. -/
def softWeighsUptoRow : OpenClaim := { program := "ytmpldbccohdnjaa", sum := "6d53649fb746ecb0dd24ffb7701bb486dae6959519c6a1481d5fd8bb3edc957b", func := "herald/heraldlaw11.SoftWeighs", spec := "softWeighs", apart := false, narrowed := true }
def SoftWeighsUptoSaid : Prop := softWeighsUptoRow.holds Try.pinned (OpenSpec.upto softWeighsSpec)

/-- 'heraldlaw11.SoftMean', WHERE WHAT IT READS IS OF BULK AT MOST 1048576: true; the input reads as it did. -/
def softMeanUptoRow : OpenClaim := { program := "ytmpldbccohdnjaa", sum := "6d53649fb746ecb0dd24ffb7701bb486dae6959519c6a1481d5fd8bb3edc957b", func := "herald/heraldlaw11.SoftMean", spec := "softMean", apart := false, narrowed := true }
def SoftMeanUptoSaid : Prop := softMeanUptoRow.holds Try.pinned (OpenSpec.upto softMeanSpec)

/-- 'heraldlaw11.SoftShifts', WHERE WHAT IT READS IS OF BULK AT MOST 1048576: true; the input reads as it did. -/
def softShiftsUptoRow : OpenClaim := { program := "ytmpldbccohdnjaa", sum := "6d53649fb746ecb0dd24ffb7701bb486dae6959519c6a1481d5fd8bb3edc957b", func := "herald/heraldlaw11.SoftShifts", spec := "softShifts", apart := false, narrowed := true }
def SoftShiftsUptoSaid : Prop := softShiftsUptoRow.holds Try.pinned (OpenSpec.upto softShiftsSpec)

/-- 'heraldlaw11.SoftBetween', WHERE WHAT IT READS IS OF BULK AT MOST 1048576: true; the input reads as it did. -/
def softBetweenUptoRow : OpenClaim := { program := "ytmpldbccohdnjaa", sum := "6d53649fb746ecb0dd24ffb7701bb486dae6959519c6a1481d5fd8bb3edc957b", func := "herald/heraldlaw11.SoftBetween", spec := "softBetween", apart := false, narrowed := true }
def SoftBetweenUptoSaid : Prop := softBetweenUptoRow.holds Try.pinned (OpenSpec.upto softBetweenSpec)

/-- 'heraldlaw11.SoftTurns', WHERE WHAT IT READS IS OF BULK AT MOST 1048576: true; the input reads as it did. -/
def softTurnsUptoRow : OpenClaim := { program := "ytmpldbccohdnjaa", sum := "6d53649fb746ecb0dd24ffb7701bb486dae6959519c6a1481d5fd8bb3edc957b", func := "herald/heraldlaw11.SoftTurns", spec := "softTurns", apart := false, narrowed := true }
def SoftTurnsUptoSaid : Prop := softTurnsUptoRow.holds Try.pinned (OpenSpec.upto softTurnsSpec)

/-- 'heraldlaw11.SoftMeans', WHERE WHAT IT READS IS OF BULK AT MOST 1048576: true; the input reads as it did. -/
def softMeansUptoRow : OpenClaim := { program := "ytmpldbccohdnjaa", sum := "6d53649fb746ecb0dd24ffb7701bb486dae6959519c6a1481d5fd8bb3edc957b", func := "herald/heraldlaw11.SoftMeans", spec := "softMeans", apart := false, narrowed := true }
def SoftMeansUptoSaid : Prop := softMeansUptoRow.holds Try.pinned (OpenSpec.upto softMeansSpec)

/-- 'heraldlaw11.SoftMemory', WHERE WHAT IT READS IS OF BULK AT MOST 1048576: true; the input reads as it did. -/
def softMemoryUptoRow : OpenClaim := { program := "ytmpldbccohdnjaa", sum := "6d53649fb746ecb0dd24ffb7701bb486dae6959519c6a1481d5fd8bb3edc957b", func := "herald/heraldlaw11.SoftMemory", spec := "softMemory", apart := false, narrowed := true }
def SoftMemoryUptoSaid : Prop := softMemoryUptoRow.holds Try.pinned (OpenSpec.upto softMemorySpec)

/-- 'heraldlaw11.SoftSames', WHERE WHAT IT READS IS OF BULK AT MOST 1048576: true; the input reads as it did. -/
def softSamesUptoRow : OpenClaim := { program := "ytmpldbccohdnjaa", sum := "6d53649fb746ecb0dd24ffb7701bb486dae6959519c6a1481d5fd8bb3edc957b", func := "herald/heraldlaw11.SoftSames", spec := "softSames", apart := false, narrowed := true }
def SoftSamesUptoSaid : Prop := softSamesUptoRow.holds Try.pinned (OpenSpec.upto softSamesSpec)

/-- 'heraldlaw11.SoftMasks', WHERE WHAT IT READS IS OF BULK AT MOST 1048576: true; the input reads as it did. -/
def softMasksUptoRow : OpenClaim := { program := "ytmpldbccohdnjaa", sum := "6d53649fb746ecb0dd24ffb7701bb486dae6959519c6a1481d5fd8bb3edc957b", func := "herald/heraldlaw11.SoftMasks", spec := "softMasks", apart := false, narrowed := true }
def SoftMasksUptoSaid : Prop := softMasksUptoRow.holds Try.pinned (OpenSpec.upto softMasksSpec)

end Rows
end Go.Proofs.Ytmpldbccohdnjaa
