-- Printed by a program of this session's own, over the kit's print: functions of the program as plain functions, and their calls' contracts.
import Derived.Test.YthbiafjdilbbnaaGreatDoorDPIx0
import Derived.Test.YthbiafjdilbbnaaGreatDoorDPIx1
import Derived.Test.YthbiafjdilbbnaaGreatDoorDPIx2
set_option linter.unusedVariables false
set_option linter.unusedSimpArgs false
namespace Go.Proofs.YthbiafjdilbbnaaGreatDoor.PI
open Go.RowKit Go.Proofs.YthbiafjdilbbnaaGreatDoorW.PrintWords Go.Proofs.YthbiafjdilbbnaaGreatDoorW.PrintLast Go.Proofs.YthbiafjdilbbnaaGreatDoorW.PrintMore
attribute [local go_sem] max2_int min2_int max_two min_two max_three min_three max_four min_four   -- for this text's walks alone
set_option linter.unusedVariables false
set_option linter.unusedSimpArgs false

/-! ### newswirelaw03_IntegerOrder: function 7 -/
/-! ### newswirelaw03_nines: function 22 -/
/-! ### newswirelaw03_pick: function 23 -/
end Go.Proofs.YthbiafjdilbbnaaGreatDoor.PI
