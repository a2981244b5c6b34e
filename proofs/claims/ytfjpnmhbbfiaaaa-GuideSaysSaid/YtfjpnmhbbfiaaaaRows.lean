/-
  No cell of these rows narrows 'for every input' (looked for: loops, veiled, ifaces, maps, wideKeys, modest, calm, conditions, laid).
  DERIVED. THE GIVEN ROWS OF THIS SEAT. 10 by the template 'for every input the law returns true; each argument reads behind the call as it read before'; 0 by the template 'total and deterministic' (their statements: YtfjpnmhbbfiaaaaTotals.lean).
  GIVEN WITH THE SEED: the statements are not yours to turn. If you find one false, say at which input.
  Laid BY PROGRAM, IN A SANDBOX (cutbox-rows.mjs): the forced cells as the released guide's own fill.sh prints them over the translation 3445c68a6b3f1ee0… (all of the seat's roots in one cut). By AI agents, Wed Nov 11 2026. No macro, syntax, notation, axiom, sorry.
-/
import Derived.Test.YtfjpnmhbbfiaaaaChecked
import GoSem.Claim
import GoSem.ClaimJoined
import GoSem.ClaimMapViews
import Derived.JoinedTies
import Derived.KernelRfl
namespace Go.Proofs.Ytfjpnmhbbfiaaaa
/- THE CELL 'sum', in the pinned program and in every row, IS THE sha256 OF THE DUMP (.gsa) THAT YtfjpnmhbbfiaaaaProg.lean LOADS. Nothing in Lean hashes anything: it is a label: what it is worth is what the hold of that sum in a sandbox is worth. -/
noncomputable def Try.pinned : Pinned := { name := "ytfjpnmhbbfiaaaa", sum := "3445c68a6b3f1ee0e65f001ac86d640141bdfad74874c9b16bc7c54f50b2f0a8", checked := Try.checked }
namespace Rows
def none {H : Type} : Left H := { results := [], args := [] }

/-- 'heraldlaw15.GuideWalks': WHATEVER THE INPUT: true; the input reads as it did. -/
def guideWalksSpec : ChangeSpec := { name := "guideWalks", fn := fun _ => fun
  | [d1, d2, d3] => { results := [.lit (.bool true)], args := [d1, d2, d3] }
  | _ => none }
def guideWalksRow : OpenClaim := { program := "ytfjpnmhbbfiaaaa", sum := "3445c68a6b3f1ee0e65f001ac86d640141bdfad74874c9b16bc7c54f50b2f0a8", func := "herald/heraldlaw15.GuideWalks", spec := "guideWalks", plainKeys := false, apart := false }
def GuideWalksSaid : Prop := guideWalksRow.holds Try.pinned (OpenSpec.ofChange guideWalksSpec)

/-- ITS FALSE NEIGHBOUR: 'it returns false'. Refute it at one input. -/
def guideWalksWrong : ChangeSpec := { name := "guideWalks", fn := fun _ => fun
  | [d1, d2, d3] => { results := [.lit (.bool false)], args := [d1, d2, d3] }
  | _ => none }
def GuideWalksWrongFalsely : Prop := guideWalksRow.holds Try.pinned (OpenSpec.ofChange guideWalksWrong)

/-- 'heraldlaw15.GuideJoins': WHATEVER THE INPUT: true; the input reads as it did. -/
def guideJoinsSpec : ChangeSpec := { name := "guideJoins", fn := fun _ => fun
  | [d1, d2, d3] => { results := [.lit (.bool true)], args := [d1, d2, d3] }
  | _ => none }
def guideJoinsRow : OpenClaim := { program := "ytfjpnmhbbfiaaaa", sum := "3445c68a6b3f1ee0e65f001ac86d640141bdfad74874c9b16bc7c54f50b2f0a8", func := "herald/heraldlaw15.GuideJoins", spec := "guideJoins", plainKeys := false, apart := false }
def GuideJoinsSaid : Prop := guideJoinsRow.holds Try.pinned (OpenSpec.ofChange guideJoinsSpec)

/-- ITS FALSE NEIGHBOUR: 'it returns false'. Refute it at one input. -/
def guideJoinsWrong : ChangeSpec := { name := "guideJoins", fn := fun _ => fun
  | [d1, d2, d3] => { results := [.lit (.bool false)], args := [d1, d2, d3] }
  | _ => none }
def GuideJoinsWrongFalsely : Prop := guideJoinsRow.holds Try.pinned (OpenSpec.ofChange guideJoinsWrong)

/-- 'heraldlaw15.GuideChecks': WHATEVER THE INPUT: true; the input reads as it did. -/
def guideChecksSpec : ChangeSpec := { name := "guideChecks", fn := fun _ => fun
  | [d] => { results := [.lit (.bool true)], args := [d] }
  | _ => none }
def guideChecksRow : OpenClaim := { program := "ytfjpnmhbbfiaaaa", sum := "3445c68a6b3f1ee0e65f001ac86d640141bdfad74874c9b16bc7c54f50b2f0a8", func := "herald/heraldlaw15.GuideChecks", spec := "guideChecks", plainKeys := false, apart := false }
def GuideChecksSaid : Prop := guideChecksRow.holds Try.pinned (OpenSpec.ofChange guideChecksSpec)

/-- ITS FALSE NEIGHBOUR: 'it returns false'. Refute it at one input. -/
def guideChecksWrong : ChangeSpec := { name := "guideChecks", fn := fun _ => fun
  | [d] => { results := [.lit (.bool false)], args := [d] }
  | _ => none }
def GuideChecksWrongFalsely : Prop := guideChecksRow.holds Try.pinned (OpenSpec.ofChange guideChecksWrong)

/-- 'heraldlaw15.GuideNext': WHATEVER THE INPUT: true; the input reads as it did. -/
def guideNextSpec : ChangeSpec := { name := "guideNext", fn := fun _ => fun
  | [d1, d2, d3] => { results := [.lit (.bool true)], args := [d1, d2, d3] }
  | _ => none }
def guideNextRow : OpenClaim := { program := "ytfjpnmhbbfiaaaa", sum := "3445c68a6b3f1ee0e65f001ac86d640141bdfad74874c9b16bc7c54f50b2f0a8", func := "herald/heraldlaw15.GuideNext", spec := "guideNext", plainKeys := false, apart := false }
def GuideNextSaid : Prop := guideNextRow.holds Try.pinned (OpenSpec.ofChange guideNextSpec)

/-- ITS FALSE NEIGHBOUR: 'it returns false'. Refute it at one input. -/
def guideNextWrong : ChangeSpec := { name := "guideNext", fn := fun _ => fun
  | [d1, d2, d3] => { results := [.lit (.bool false)], args := [d1, d2, d3] }
  | _ => none }
def GuideNextWrongFalsely : Prop := guideNextRow.holds Try.pinned (OpenSpec.ofChange guideNextWrong)

/-- 'heraldlaw15.GuideMasks': WHATEVER THE INPUT: true; the input reads as it did. -/
def guideMasksSpec : ChangeSpec := { name := "guideMasks", fn := fun _ => fun
  | [d1, d2, d3] => { results := [.lit (.bool true)], args := [d1, d2, d3] }
  | _ => none }
def guideMasksRow : OpenClaim := { program := "ytfjpnmhbbfiaaaa", sum := "3445c68a6b3f1ee0e65f001ac86d640141bdfad74874c9b16bc7c54f50b2f0a8", func := "herald/heraldlaw15.GuideMasks", spec := "guideMasks", plainKeys := false, apart := false }
def GuideMasksSaid : Prop := guideMasksRow.holds Try.pinned (OpenSpec.ofChange guideMasksSpec)

/-- ITS FALSE NEIGHBOUR: 'it returns false'. Refute it at one input. -/
def guideMasksWrong : ChangeSpec := { name := "guideMasks", fn := fun _ => fun
  | [d1, d2, d3] => { results := [.lit (.bool false)], args := [d1, d2, d3] }
  | _ => none }
def GuideMasksWrongFalsely : Prop := guideMasksRow.holds Try.pinned (OpenSpec.ofChange guideMasksWrong)

/-- 'heraldlaw15.GuideMemory': WHATEVER THE INPUT: true; the input reads as it did. -/
def guideMemorySpec : ChangeSpec := { name := "guideMemory", fn := fun _ => fun
  | [d1, d2, d3] => { results := [.lit (.bool true)], args := [d1, d2, d3] }
  | _ => none }
def guideMemoryRow : OpenClaim := { program := "ytfjpnmhbbfiaaaa", sum := "3445c68a6b3f1ee0e65f001ac86d640141bdfad74874c9b16bc7c54f50b2f0a8", func := "herald/heraldlaw15.GuideMemory", spec := "guideMemory", plainKeys := false, apart := false }
def GuideMemorySaid : Prop := guideMemoryRow.holds Try.pinned (OpenSpec.ofChange guideMemorySpec)

/-- ITS FALSE NEIGHBOUR: 'it returns false'. Refute it at one input. -/
def guideMemoryWrong : ChangeSpec := { name := "guideMemory", fn := fun _ => fun
  | [d1, d2, d3] => { results := [.lit (.bool false)], args := [d1, d2, d3] }
  | _ => none }
def GuideMemoryWrongFalsely : Prop := guideMemoryRow.holds Try.pinned (OpenSpec.ofChange guideMemoryWrong)

/-- 'heraldlaw15.GuideBinds': WHATEVER THE INPUT: true; the input reads as it did. -/
def guideBindsSpec : ChangeSpec := { name := "guideBinds", fn := fun _ => fun
  | [d1, d2, d3] => { results := [.lit (.bool true)], args := [d1, d2, d3] }
  | _ => none }
def guideBindsRow : OpenClaim := { program := "ytfjpnmhbbfiaaaa", sum := "3445c68a6b3f1ee0e65f001ac86d640141bdfad74874c9b16bc7c54f50b2f0a8", func := "herald/heraldlaw15.GuideBinds", spec := "guideBinds", plainKeys := false, apart := false }
def GuideBindsSaid : Prop := guideBindsRow.holds Try.pinned (OpenSpec.ofChange guideBindsSpec)

/-- ITS FALSE NEIGHBOUR: 'it returns false'. Refute it at one input. -/
def guideBindsWrong : ChangeSpec := { name := "guideBinds", fn := fun _ => fun
  | [d1, d2, d3] => { results := [.lit (.bool false)], args := [d1, d2, d3] }
  | _ => none }
def GuideBindsWrongFalsely : Prop := guideBindsRow.holds Try.pinned (OpenSpec.ofChange guideBindsWrong)

/-- 'heraldlaw15.GuideMakes': WHATEVER THE INPUT: true; the input reads as it did. -/
def guideMakesSpec : ChangeSpec := { name := "guideMakes", fn := fun _ => fun
  | [d1, d2] => { results := [.lit (.bool true)], args := [d1, d2] }
  | _ => none }
def guideMakesRow : OpenClaim := { program := "ytfjpnmhbbfiaaaa", sum := "3445c68a6b3f1ee0e65f001ac86d640141bdfad74874c9b16bc7c54f50b2f0a8", func := "herald/heraldlaw15.GuideMakes", spec := "guideMakes", unfollowed := true, recurses := true, plainKeys := false, apart := false }
def GuideMakesSaid : Prop := guideMakesRow.holds Try.pinned (OpenSpec.ofChange guideMakesSpec)

/-- ITS FALSE NEIGHBOUR: 'it returns false'. Refute it at one input. -/
def guideMakesWrong : ChangeSpec := { name := "guideMakes", fn := fun _ => fun
  | [d1, d2] => { results := [.lit (.bool false)], args := [d1, d2] }
  | _ => none }
def GuideMakesWrongFalsely : Prop := guideMakesRow.holds Try.pinned (OpenSpec.ofChange guideMakesWrong)

/-- 'heraldlaw15.GuideSays': WHATEVER THE INPUT: true; the input reads as it did. -/
def guideSaysSpec : ChangeSpec := { name := "guideSays", fn := fun _ => fun
  | [d1, d2, d3] => { results := [.lit (.bool true)], args := [d1, d2, d3] }
  | _ => none }
def guideSaysRow : OpenClaim := { program := "ytfjpnmhbbfiaaaa", sum := "3445c68a6b3f1ee0e65f001ac86d640141bdfad74874c9b16bc7c54f50b2f0a8", func := "herald/heraldlaw15.GuideSays", spec := "guideSays", unfollowed := true, recurses := true, plainKeys := false, apart := false }
def GuideSaysSaid : Prop := guideSaysRow.holds Try.pinned (OpenSpec.ofChange guideSaysSpec)

/-- ITS FALSE NEIGHBOUR: 'it returns false'. Refute it at one input. -/
def guideSaysWrong : ChangeSpec := { name := "guideSays", fn := fun _ => fun
  | [d1, d2, d3] => { results := [.lit (.bool false)], args := [d1, d2, d3] }
  | _ => none }
def GuideSaysWrongFalsely : Prop := guideSaysRow.holds Try.pinned (OpenSpec.ofChange guideSaysWrong)

/-- 'heraldlaw15.GuideAsks': WHATEVER THE INPUT: true; the input reads as it did. -/
def guideAsksSpec : ChangeSpec := { name := "guideAsks", fn := fun _ => fun
  | [d1, d2, d3] => { results := [.lit (.bool true)], args := [d1, d2, d3] }
  | _ => none }
def guideAsksRow : OpenClaim := { program := "ytfjpnmhbbfiaaaa", sum := "3445c68a6b3f1ee0e65f001ac86d640141bdfad74874c9b16bc7c54f50b2f0a8", func := "herald/heraldlaw15.GuideAsks", spec := "guideAsks", inPlace := ["math/bits.Add64"], unfollowed := true, recurses := true, plainKeys := false, apart := false }
def GuideAsksSaid : Prop := guideAsksRow.holds Try.pinned (OpenSpec.ofChange guideAsksSpec)

/-- ITS FALSE NEIGHBOUR: 'it returns false'. Refute it at one input. -/
def guideAsksWrong : ChangeSpec := { name := "guideAsks", fn := fun _ => fun
  | [d1, d2, d3] => { results := [.lit (.bool false)], args := [d1, d2, d3] }
  | _ => none }
def GuideAsksWrongFalsely : Prop := guideAsksRow.holds Try.pinned (OpenSpec.ofChange guideAsksWrong)

/- THE SECOND FORM. 'bulk': how many values and letters a reading holds, each counted each time it is reached (what is shared counts as often as it is met; a slice's spare places count too). A statement '..UptoSaid' is the law's where the arguments, and the package variables that the reading takes, are together of bulk at most 1048576: NARROWER than '..Said'. Prove '..Said' where nothing that the law and all that it calls make is longer than what came in: it says more and counts as full. Else prove '..UptoSaid'. A law counts once. -/
mutual
def uptoBulk {H : Type} : DataW H → Nat
  | .lit (.string bytes) => bytes.length + 1
  | .lit _ => 1
  | .nil => 1
  | .ptr d => uptoBulk d + 1
  | .slice elems spare => uptoBulkAll elems + uptoBulkAll spare + 1
  | .agg parts => uptoBulkAll parts + 1
  | .iface _ d => uptoBulk d + 1
  | .map entries => uptoBulkEntries entries + 1
  | .held _ => 1
def uptoBulkAll {H : Type} : List (DataW H) → Nat
  | [] => 0
  | d :: r => uptoBulk d + uptoBulkAll r
def uptoBulkEntries {H : Type} : List (Lit × DataW H) → Nat
  | [] => 0
  | x :: r => uptoBulkEntry x + uptoBulkEntries r
def uptoBulkEntry {H : Type} : Lit × DataW H → Nat
  | (.string bytes, d) => bytes.length + uptoBulk d + 1
  | (_, d) => uptoBulk d + 1
 end
def uptoSmall : (H : Type) → List (DataW H) → Bool := fun _ ds => decide (uptoBulkAll ds ≤ 1048576)
def OpenSpec.upto (s : _root_.Go.ChangeSpec) : _root_.Go.OpenSpec := { _root_.Go.OpenSpec.ofChange s with cond := some uptoSmall }

/-- 'heraldlaw15.GuideWalks', WHERE WHAT IT READS IS OF BULK AT MOST 1048576: true; the input reads as it did. -/
def guideWalksUptoRow : OpenClaim := { program := "ytfjpnmhbbfiaaaa", sum := "3445c68a6b3f1ee0e65f001ac86d640141bdfad74874c9b16bc7c54f50b2f0a8", func := "herald/heraldlaw15.GuideWalks", spec := "guideWalks", plainKeys := false, apart := false, narrowed := true }
def GuideWalksUptoSaid : Prop := guideWalksUptoRow.holds Try.pinned (OpenSpec.upto guideWalksSpec)

/-- 'heraldlaw15.GuideJoins', WHERE WHAT IT READS IS OF BULK AT MOST 1048576: true; the input reads as it did. -/
def guideJoinsUptoRow : OpenClaim := { program := "ytfjpnmhbbfiaaaa", sum := "3445c68a6b3f1ee0e65f001ac86d640141bdfad74874c9b16bc7c54f50b2f0a8", func := "herald/heraldlaw15.GuideJoins", spec := "guideJoins", plainKeys := false, apart := false, narrowed := true }
def GuideJoinsUptoSaid : Prop := guideJoinsUptoRow.holds Try.pinned (OpenSpec.upto guideJoinsSpec)

/-- 'heraldlaw15.GuideChecks', WHERE WHAT IT READS IS OF BULK AT MOST 1048576: true; the input reads as it did. -/
def guideChecksUptoRow : OpenClaim := { program := "ytfjpnmhbbfiaaaa", sum := "3445c68a6b3f1ee0e65f001ac86d640141bdfad74874c9b16bc7c54f50b2f0a8", func := "herald/heraldlaw15.GuideChecks", spec := "guideChecks", plainKeys := false, apart := false, narrowed := true }
def GuideChecksUptoSaid : Prop := guideChecksUptoRow.holds Try.pinned (OpenSpec.upto guideChecksSpec)

/-- 'heraldlaw15.GuideNext', WHERE WHAT IT READS IS OF BULK AT MOST 1048576: true; the input reads as it did. -/
def guideNextUptoRow : OpenClaim := { program := "ytfjpnmhbbfiaaaa", sum := "3445c68a6b3f1ee0e65f001ac86d640141bdfad74874c9b16bc7c54f50b2f0a8", func := "herald/heraldlaw15.GuideNext", spec := "guideNext", plainKeys := false, apart := false, narrowed := true }
def GuideNextUptoSaid : Prop := guideNextUptoRow.holds Try.pinned (OpenSpec.upto guideNextSpec)

/-- 'heraldlaw15.GuideMasks', WHERE WHAT IT READS IS OF BULK AT MOST 1048576: true; the input reads as it did. -/
def guideMasksUptoRow : OpenClaim := { program := "ytfjpnmhbbfiaaaa", sum := "3445c68a6b3f1ee0e65f001ac86d640141bdfad74874c9b16bc7c54f50b2f0a8", func := "herald/heraldlaw15.GuideMasks", spec := "guideMasks", plainKeys := false, apart := false, narrowed := true }
def GuideMasksUptoSaid : Prop := guideMasksUptoRow.holds Try.pinned (OpenSpec.upto guideMasksSpec)

/-- 'heraldlaw15.GuideMemory', WHERE WHAT IT READS IS OF BULK AT MOST 1048576: true; the input reads as it did. -/
def guideMemoryUptoRow : OpenClaim := { program := "ytfjpnmhbbfiaaaa", sum := "3445c68a6b3f1ee0e65f001ac86d640141bdfad74874c9b16bc7c54f50b2f0a8", func := "herald/heraldlaw15.GuideMemory", spec := "guideMemory", plainKeys := false, apart := false, narrowed := true }
def GuideMemoryUptoSaid : Prop := guideMemoryUptoRow.holds Try.pinned (OpenSpec.upto guideMemorySpec)

/-- 'heraldlaw15.GuideBinds', WHERE WHAT IT READS IS OF BULK AT MOST 1048576: true; the input reads as it did. -/
def guideBindsUptoRow : OpenClaim := { program := "ytfjpnmhbbfiaaaa", sum := "3445c68a6b3f1ee0e65f001ac86d640141bdfad74874c9b16bc7c54f50b2f0a8", func := "herald/heraldlaw15.GuideBinds", spec := "guideBinds", plainKeys := false, apart := false, narrowed := true }
def GuideBindsUptoSaid : Prop := guideBindsUptoRow.holds Try.pinned (OpenSpec.upto guideBindsSpec)

/-- 'heraldlaw15.GuideMakes', WHERE WHAT IT READS IS OF BULK AT MOST 1048576: true; the input reads as it did. -/
def guideMakesUptoRow : OpenClaim := { program := "ytfjpnmhbbfiaaaa", sum := "3445c68a6b3f1ee0e65f001ac86d640141bdfad74874c9b16bc7c54f50b2f0a8", func := "herald/heraldlaw15.GuideMakes", spec := "guideMakes", unfollowed := true, recurses := true, plainKeys := false, apart := false, narrowed := true }
def GuideMakesUptoSaid : Prop := guideMakesUptoRow.holds Try.pinned (OpenSpec.upto guideMakesSpec)

/-- 'heraldlaw15.GuideSays', WHERE WHAT IT READS IS OF BULK AT MOST 1048576: true; the input reads as it did. -/
def guideSaysUptoRow : OpenClaim := { program := "ytfjpnmhbbfiaaaa", sum := "3445c68a6b3f1ee0e65f001ac86d640141bdfad74874c9b16bc7c54f50b2f0a8", func := "herald/heraldlaw15.GuideSays", spec := "guideSays", unfollowed := true, recurses := true, plainKeys := false, apart := false, narrowed := true }
def GuideSaysUptoSaid : Prop := guideSaysUptoRow.holds Try.pinned (OpenSpec.upto guideSaysSpec)

/-- 'heraldlaw15.GuideAsks', WHERE WHAT IT READS IS OF BULK AT MOST 1048576: true; the input reads as it did. -/
def guideAsksUptoRow : OpenClaim := { program := "ytfjpnmhbbfiaaaa", sum := "3445c68a6b3f1ee0e65f001ac86d640141bdfad74874c9b16bc7c54f50b2f0a8", func := "herald/heraldlaw15.GuideAsks", spec := "guideAsks", inPlace := ["math/bits.Add64"], unfollowed := true, recurses := true, plainKeys := false, apart := false, narrowed := true }
def GuideAsksUptoSaid : Prop := guideAsksUptoRow.holds Try.pinned (OpenSpec.upto guideAsksSpec)

end Rows
end Go.Proofs.Ytfjpnmhbbfiaaaa
