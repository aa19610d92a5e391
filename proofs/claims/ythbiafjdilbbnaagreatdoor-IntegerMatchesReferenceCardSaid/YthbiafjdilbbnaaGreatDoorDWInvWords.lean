import Derived.Test.YthbiafjdilbbnaaGreatDoorDWInv
import Derived.Test.YthbiafjdilbbnaaGreatDoorDWFootNe
set_option linter.unusedVariables false
set_option linter.unusedSimpArgs false
namespace Go.Proofs.YthbiafjdilbbnaaGreatDoorW.PrintWords
open Go.RowKit
end Go.Proofs.YthbiafjdilbbnaaGreatDoorW.PrintWords
namespace Go.Proofs.YthbiafjdilbbnaaGreatDoorW.PrintLast
section
variable {ops : Array Oper} {a : Act} {o og : Oper} {g : Nat} {t : Tmp} {u : Bool}
end
end Go.Proofs.YthbiafjdilbbnaaGreatDoorW.PrintLast
