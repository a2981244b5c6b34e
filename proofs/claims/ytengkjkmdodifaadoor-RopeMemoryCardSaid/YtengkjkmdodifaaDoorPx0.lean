-- Printed by xprint.py (wip): functions, contracts, rows. Lean checks it.
import Derived.Test.YtengkjkmdodifaaDoorProg
import Derived.Below
import Derived.Deep.Draws
import Derived.Deep.AppendLies
import Derived.Maps.AppendAt
import Derived.OwnWalk
import Derived.Laws.BytesArg
import Derived.Laws.MakeOwn
import Derived.Laws.OwnMore
import Derived.Deep.OwnRows
import Derived.Tactics
import Derived.Lib.ConvBytes
import Derived.Laws.Slices
import Derived.WalkKit
import Derived.KernelRfl
import Derived.RowKit3
import Derived.Deep.LoopGhost
import Derived.Deep.QuietTactic
import Derived.BigQuiet
import Derived.WideLaws
import Derived.Deep.DeepCutAuto
import Derived.Deep.CutBlock
import Derived.Deep.RegionHeld3
import Derived.Laws.Rows
import Derived.Lib.AppendStr
import Derived.ArgAppend
import Derived.Laws.IdiomCopy
import Derived.OrdersHeld
import Derived.Laws.BitsLemmas
import Derived.RowKit
import Derived.WalkMore
import Derived.Test.YtengkjkmdodifaaDoorPool
import Derived.Test.YtengkjkmdodifaaDoorRopeMem
import Derived.Test.YtengkjkmdodifaaDoorTab
import Derived.Test.YtengkjkmdodifaaDoorShort
import Derived.Test.YtengkjkmdodifaaDoorWWords
import Derived.Test.YtengkjkmdodifaaDoorWLast
import Derived.Test.YtengkjkmdodifaaDoorWTab
import Derived.Test.YtengkjkmdodifaaDoorWFour
import Derived.Test.YtengkjkmdodifaaDoorWQPut
import Derived.Test.YtengkjkmdodifaaDoorWApart
import Derived.Test.YtengkjkmdodifaaDoorWArr
import Derived.Test.YtengkjkmdodifaaDoorWZeros
import Derived.Test.YtengkjkmdodifaaDoorWFoot
import Derived.Test.YtengkjkmdodifaaDoorWKept
import Derived.Test.YtengkjkmdodifaaDoorWShare
import Derived.Test.YtengkjkmdodifaaDoorWN
import Derived.Test.YtengkjkmdodifaaDoorWFootNe
import Derived.Test.YtengkjkmdodifaaDoorWAt
import Derived.Test.YtengkjkmdodifaaDoorWEqStruct
import Derived.Test.YtengkjkmdodifaaDoorWRepsOne
import Derived.Test.YtengkjkmdodifaaDoorWInv
import Derived.Test.YtengkjkmdodifaaDoorWInvWords
import Derived.Test.YtengkjkmdodifaaDoorWGuard
import Derived.Test.YtengkjkmdodifaaDoorWNEv
import Derived.Test.YtengkjkmdodifaaDoorWMore
namespace Go.Proofs.YtengkjkmdodifaaDoor.P
open Go.RowKit Go.Proofs.YtengkjkmdodifaaDoorW.PrintWords Go.Proofs.YtengkjkmdodifaaDoorW.PrintLast Go.Proofs.YtengkjkmdodifaaDoorW.PrintMore
attribute [local go_sem] max2_int min2_int max_two min_two max_three min_three max_four min_four   -- for this text's walks alone
set_option linter.unusedVariables false
set_option linter.unusedSimpArgs false



def errW : Option Int → Value
  | none => .nilIface
  | some c => .iface 0 (.int .i64 c)
theorem errW_none : errW none = .nilIface := rfl
theorem errW_some (c : Int) : errW (some c) = .iface 0 (.int .i64 c) := rfl

theorem info33 : (Tryd.prog.info? 33).map (fun i => (i.zero, i.size, i.bytes)) = some (some (.int .i8 0), 1, 1) := by kernel_rfl
-- the values' own types

end Go.Proofs.YtengkjkmdodifaaDoor.P
