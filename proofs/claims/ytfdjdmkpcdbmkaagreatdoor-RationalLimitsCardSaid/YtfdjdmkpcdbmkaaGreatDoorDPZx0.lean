-- Printed by a program of this session's own, over the kit's print: functions of the program as plain functions, and their calls' contracts.
import Derived.Test.YtfdjdmkpcdbmkaaGreatDoorProg
import Derived.Below
import Derived.Deep.Draws
import Derived.Deep.AppendLies
import Derived.Maps.AppendAt
import Derived.OwnWalk
import Derived.Laws.BytesArg
import Derived.Laws.MakeOwn
import Derived.Laws.OwnMore
import Derived.Deep.OwnRows
import Derived.Tactics
import Derived.Lib.ConvBytes
import Derived.Laws.Slices
import Derived.WalkKit
import Derived.KernelRfl
import Derived.RowKit3
import Derived.Deep.LoopGhost
import Derived.Deep.QuietTactic
import Derived.BigQuiet
import Derived.WideLaws
import Derived.Deep.DeepCutAuto
import Derived.Deep.CutBlock
import Derived.Deep.RegionHeld3
import Derived.Laws.Rows
import Derived.Lib.AppendStr
import Derived.ArgAppend
import Derived.Laws.IdiomCopy
import Derived.OrdersHeld
import Derived.Laws.BitsLemmas
import Derived.RowKit
import Derived.Test.YtfdjdmkpcdbmkaaGreatDoorCGR5
import Derived.Test.YtfdjdmkpcdbmkaaGreatDoorDWWords
import Derived.Test.YtfdjdmkpcdbmkaaGreatDoorDWLast
import Derived.Test.YtfdjdmkpcdbmkaaGreatDoorDWTab
import Derived.Test.YtfdjdmkpcdbmkaaGreatDoorDWFour
import Derived.Test.YtfdjdmkpcdbmkaaGreatDoorDWQPut
import Derived.Test.YtfdjdmkpcdbmkaaGreatDoorDWApart
import Derived.Test.YtfdjdmkpcdbmkaaGreatDoorDWArr
import Derived.Test.YtfdjdmkpcdbmkaaGreatDoorDWZeros
import Derived.Test.YtfdjdmkpcdbmkaaGreatDoorDWFoot
import Derived.Test.YtfdjdmkpcdbmkaaGreatDoorDWKept
import Derived.Test.YtfdjdmkpcdbmkaaGreatDoorDWShare
import Derived.Test.YtfdjdmkpcdbmkaaGreatDoorDWN
import Derived.Test.YtfdjdmkpcdbmkaaGreatDoorDWFootNe
import Derived.Test.YtfdjdmkpcdbmkaaGreatDoorDWAt
import Derived.Test.YtfdjdmkpcdbmkaaGreatDoorDWEqStruct
import Derived.Test.YtfdjdmkpcdbmkaaGreatDoorDWRepsOne
import Derived.Test.YtfdjdmkpcdbmkaaGreatDoorDWInv
import Derived.Test.YtfdjdmkpcdbmkaaGreatDoorDWInvWords
import Derived.Test.YtfdjdmkpcdbmkaaGreatDoorDWGuard
import Derived.Test.YtfdjdmkpcdbmkaaGreatDoorDWNEv
import Derived.Test.YtfdjdmkpcdbmkaaGreatDoorDWMore
set_option linter.unusedVariables false
set_option linter.unusedSimpArgs false
namespace Go.Proofs.YtfdjdmkpcdbmkaaGreatDoor.PZ
open Go.RowKit Go.Proofs.YtfdjdmkpcdbmkaaGreatDoorW.PrintWords Go.Proofs.YtfdjdmkpcdbmkaaGreatDoorW.PrintLast Go.Proofs.YtfdjdmkpcdbmkaaGreatDoorW.PrintMore
attribute [local go_sem] max2_int min2_int max_two min_two max_three min_three max_four min_four   -- for this text's walks alone
set_option linter.unusedVariables false
set_option linter.unusedSimpArgs false



def errW : Option Int → Value
  | none => .nilIface
  | some c => .iface 0 (.int .i64 c)
theorem errW_none : errW none = .nilIface := rfl
theorem errW_some (c : Int) : errW (some c) = .iface 0 (.int .i64 c) := rfl

-- the values' own types

end Go.Proofs.YtfdjdmkpcdbmkaaGreatDoor.PZ
