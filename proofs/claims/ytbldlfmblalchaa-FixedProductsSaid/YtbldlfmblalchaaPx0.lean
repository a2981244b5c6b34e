-- Printed by xprint.py (wip): functions, contracts, rows. Lean checks it.
import Derived.Test.YtbldlfmblalchaaProg
import Derived.Below
import Derived.Deep.Draws
import Derived.Deep.AppendLies
import Derived.Maps.AppendAt
import Derived.OwnWalk
import Derived.Laws.BytesArg
import Derived.Laws.MakeOwn
import Derived.Laws.OwnMore
import Derived.Deep.OwnRows
import Derived.Tactics
import Derived.Lib.ConvBytes
import Derived.Laws.Slices
import Derived.WalkKit
import Derived.KernelRfl
import Derived.RowKit3
import Derived.Deep.LoopGhost
import Derived.Deep.QuietTactic
import Derived.BigQuiet
import Derived.WideLaws
import Derived.Deep.DeepCutAuto
import Derived.Deep.CutBlock
import Derived.Deep.RegionHeld3
import Derived.Laws.Rows
import Derived.Lib.AppendStr
import Derived.ArgAppend
import Derived.Laws.IdiomCopy
import Derived.OrdersHeld
import Derived.Laws.BitsLemmas
import Derived.RowKit
import Derived.WalkMore
import Derived.Test.YtbldlfmblalchaaShelf
import Derived.Test.YtbldlfmblalchaaShort
import Derived.Test.YtbldlfmblalchaaSteps
import Derived.Test.YtbldlfmblalchaaWWords
import Derived.Test.YtbldlfmblalchaaWLast
import Derived.Test.YtbldlfmblalchaaWTab
import Derived.Test.YtbldlfmblalchaaWFour
import Derived.Test.YtbldlfmblalchaaWQPut
import Derived.Test.YtbldlfmblalchaaWApart
import Derived.Test.YtbldlfmblalchaaWArr
import Derived.Test.YtbldlfmblalchaaWZeros
import Derived.Test.YtbldlfmblalchaaWFoot
import Derived.Test.YtbldlfmblalchaaWKept
import Derived.Test.YtbldlfmblalchaaWShare
import Derived.Test.YtbldlfmblalchaaWN
import Derived.Test.YtbldlfmblalchaaWFootNe
import Derived.Test.YtbldlfmblalchaaWAt
import Derived.Test.YtbldlfmblalchaaWEqStruct
import Derived.Test.YtbldlfmblalchaaWRepsOne
import Derived.Test.YtbldlfmblalchaaWInv
import Derived.Test.YtbldlfmblalchaaWInvWords
import Derived.Test.YtbldlfmblalchaaWGuard
import Derived.Test.YtbldlfmblalchaaWNEv
import Derived.Test.YtbldlfmblalchaaWMore
namespace Go.Proofs.Ytbldlfmblalchaa.P
open Go.RowKit Go.Proofs.YtbldlfmblalchaaW.PrintWords Go.Proofs.YtbldlfmblalchaaW.PrintLast Go.Proofs.YtbldlfmblalchaaW.PrintMore
attribute [local go_sem] max2_int min2_int max_two min_two max_three min_three max_four min_four   -- for this text's walks alone
set_option linter.unusedVariables false
set_option linter.unusedSimpArgs false



def errW : Option Int → Value
  | none => .nilIface
  | some c => .iface 0 (.int .i64 c)
theorem errW_none : errW none = .nilIface := rfl
theorem errW_some (c : Int) : errW (some c) = .iface 0 (.int .i64 c) := rfl

theorem info2 : (Try.prog.info? 2).map (fun i => (i.zero, i.size, i.bytes)) = some (some (.int .i64 0), 1, 8) := by kernel_rfl
theorem info58 : (Try.prog.info? 58).map (fun i => (i.zero, i.size, i.bytes)) = some (some (.int .u64 0), 1, 8) := by kernel_rfl
-- the values' own types

end Go.Proofs.Ytbldlfmblalchaa.P
