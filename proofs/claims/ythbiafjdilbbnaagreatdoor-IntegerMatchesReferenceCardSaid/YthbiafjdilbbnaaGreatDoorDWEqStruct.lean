import Derived.Test.YthbiafjdilbbnaaGreatDoorDWWords
import Derived.Laws.StructEq
set_option linter.unusedVariables false
set_option linter.unusedSimpArgs false
/-! ### 53. '==' of structs as_ one Bool -/
namespace Go.Proofs.YthbiafjdilbbnaaGreatDoorW.PrintWords
open Go.RowKit
section
variable {P : Program} {d : Nat} {xs ys : Array Value} {f : Field} {fs : List Field} {a b : Value} {r s : Bool} {w : World}
end
end Go.Proofs.YthbiafjdilbbnaaGreatDoorW.PrintWords
