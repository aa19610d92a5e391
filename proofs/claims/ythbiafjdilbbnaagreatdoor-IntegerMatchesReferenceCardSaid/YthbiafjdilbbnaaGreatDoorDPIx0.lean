-- Printed by a program of this session's own, over the kit's print: functions of the program as plain functions, and their calls' contracts.
import Derived.Test.YthbiafjdilbbnaaGreatDoorProg
import Derived.Below
import Derived.Deep.Draws
import Derived.Deep.AppendLies
import Derived.Maps.AppendAt
import Derived.OwnWalk
import Derived.Laws.BytesArg
import Derived.Laws.MakeOwn
import Derived.Laws.OwnMore
import Derived.Deep.OwnRows
import Derived.Tactics
import Derived.Lib.ConvBytes
import Derived.Laws.Slices
import Derived.WalkKit
import Derived.KernelRfl
import Derived.RowKit3
import Derived.Deep.LoopGhost
import Derived.Deep.QuietTactic
import Derived.BigQuiet
import Derived.WideLaws
import Derived.Deep.DeepCutAuto
import Derived.Deep.CutBlock
import Derived.Deep.RegionHeld3
import Derived.Laws.Rows
import Derived.Lib.AppendStr
import Derived.ArgAppend
import Derived.Laws.IdiomCopy
import Derived.OrdersHeld
import Derived.Laws.BitsLemmas
import Derived.RowKit
import Derived.Test.YthbiafjdilbbnaaGreatDoorCG6
import Derived.Test.YthbiafjdilbbnaaGreatDoorDWWords
import Derived.Test.YthbiafjdilbbnaaGreatDoorDWLast
import Derived.Test.YthbiafjdilbbnaaGreatDoorDWTab
import Derived.Test.YthbiafjdilbbnaaGreatDoorDWFour
import Derived.Test.YthbiafjdilbbnaaGreatDoorDWQPut
import Derived.Test.YthbiafjdilbbnaaGreatDoorDWApart
import Derived.Test.YthbiafjdilbbnaaGreatDoorDWArr
import Derived.Test.YthbiafjdilbbnaaGreatDoorDWZeros
import Derived.Test.YthbiafjdilbbnaaGreatDoorDWFoot
import Derived.Test.YthbiafjdilbbnaaGreatDoorDWKept
import Derived.Test.YthbiafjdilbbnaaGreatDoorDWShare
import Derived.Test.YthbiafjdilbbnaaGreatDoorDWN
import Derived.Test.YthbiafjdilbbnaaGreatDoorDWFootNe
import Derived.Test.YthbiafjdilbbnaaGreatDoorDWAt
import Derived.Test.YthbiafjdilbbnaaGreatDoorDWEqStruct
import Derived.Test.YthbiafjdilbbnaaGreatDoorDWRepsOne
import Derived.Test.YthbiafjdilbbnaaGreatDoorDWInv
import Derived.Test.YthbiafjdilbbnaaGreatDoorDWInvWords
import Derived.Test.YthbiafjdilbbnaaGreatDoorDWGuard
import Derived.Test.YthbiafjdilbbnaaGreatDoorDWNEv
import Derived.Test.YthbiafjdilbbnaaGreatDoorDWMore
set_option linter.unusedVariables false
set_option linter.unusedSimpArgs false
namespace Go.Proofs.YthbiafjdilbbnaaGreatDoor.PI
open Go.RowKit Go.Proofs.YthbiafjdilbbnaaGreatDoorW.PrintWords Go.Proofs.YthbiafjdilbbnaaGreatDoorW.PrintLast Go.Proofs.YthbiafjdilbbnaaGreatDoorW.PrintMore
attribute [local go_sem] max2_int min2_int max_two min_two max_three min_three max_four min_four   -- for this text's walks alone
set_option linter.unusedVariables false
set_option linter.unusedSimpArgs false



def errW : Option Int → Value
  | none => .nilIface
  | some c => .iface 0 (.int .i64 c)
theorem errW_none : errW none = .nilIface := rfl
theorem errW_some (c : Int) : errW (some c) = .iface 0 (.int .i64 c) := rfl

theorem info3 : (Tryz.prog.info? 3).map (fun i => (i.zero, i.size, i.bytes)) = some (some (.int .i64 0), 1, 8) := by kernel_rfl
theorem info5 : (Tryz.prog.info? 5).map (fun i => (i.zero, i.size, i.bytes)) = some (some (.int .u8 0), 1, 1) := by kernel_rfl
-- the values' own types

end Go.Proofs.YthbiafjdilbbnaaGreatDoor.PI
