import Derived.Test.YtfdjdmkpcdbmkaaGreatDoorDWInv
import Derived.Test.YtfdjdmkpcdbmkaaGreatDoorDWFootNe
set_option linter.unusedVariables false
set_option linter.unusedSimpArgs false
namespace Go.Proofs.YtfdjdmkpcdbmkaaGreatDoorW.PrintWords
open Go.RowKit
end Go.Proofs.YtfdjdmkpcdbmkaaGreatDoorW.PrintWords
namespace Go.Proofs.YtfdjdmkpcdbmkaaGreatDoorW.PrintLast
section
variable {ops : Array Oper} {a : Act} {o og : Oper} {g : Nat} {t : Tmp} {u : Bool}
end
end Go.Proofs.YtfdjdmkpcdbmkaaGreatDoorW.PrintLast
