/-
  IntegerRing, IntegerCommon: contracts of the operations at numbers' strings, for the walks of the two laws.
-/
import Derived.Test.YthbiafjdilbbnaaGreatDoorCG7
set_option linter.unusedVariables false
set_option linter.unusedSimpArgs false
namespace Go.Proofs.YthbiafjdilbbnaaGreatDoor
open Go.RowKit Go.Lib

theorem add_w (a b : Int) (w : World) (hT : Laid w) (ha : a.natAbs < lim) (hb : b.natAbs < lim) (h : (a + b).natAbs < lim) :
    Calls Tryz.prog 14 #[.string (S a), .string (S b)] w fun e w' => e = .returned (.tuple #[.string (S (a + b)), .int .i64 0]) ∧ Below w.heap.size w w' :=
  integer_Add.calls _ _ _ _ w hT (add_S ha hb h)
theorem sub_w (a b : Int) (w : World) (hT : Laid w) (ha : a.natAbs < lim) (hb : b.natAbs < lim) (h : (a - b).natAbs < lim) :
    Calls Tryz.prog 16 #[.string (S a), .string (S b)] w fun e w' => e = .returned (.tuple #[.string (S (a - b)), .int .i64 0]) ∧ Below w.heap.size w w' :=
  integer_Sub.calls _ _ _ _ w hT (sub_S ha hb h)
theorem mul_w (a b : Int) (w : World) (hT : Laid w) (ha : a.natAbs < lim) (hb : b.natAbs < lim) (h : (a * b).natAbs < lim) :
    Calls Tryz.prog 15 #[.string (S a), .string (S b)] w fun e w' => e = .returned (.tuple #[.string (S (a * b)), .int .i64 0]) ∧ Below w.heap.size w w' :=
  integer_Mul.calls _ _ _ _ w hT (mul_S ha hb h)
theorem div_w (a b : Int) (w : World) (hT : Laid w) (ha : a.natAbs < lim) (hb : b.natAbs < lim) (h : b ≠ 0) :
    Calls Tryz.prog 17 #[.string (S a), .string (S b)] w fun e w' => e = .returned (.tuple #[.string (S (a / b)), .string (S (a % b)), .int .i64 0]) ∧ Below w.heap.size w w' :=
  integer_Div.calls _ _ _ _ _ w hT (div_S ha hb h)
theorem gcd_w (a b : Int) (w : World) (hT : Laid w) (ha : a.natAbs < lim) (hb : b.natAbs < lim) :
    Calls Tryz.prog 20 #[.string (S a), .string (S b)] w fun e w' => e = .returned (.tuple #[.string (S (Int.gcd a b)), .int .i64 0]) ∧ Below w.heap.size w w' :=
  integer_Gcd.calls _ _ _ _ w hT (gcd_S ha hb)
theorem cmp_w (a b : Int) (w : World) (hT : Laid w) (ha : a.natAbs < lim) (hb : b.natAbs < lim) :
    Calls Tryz.prog 18 #[.string (S a), .string (S b)] w fun e w' => e = .returned (.int .i64 (cmpZ a b)) ∧ Below w.heap.size w w' :=
  integer_Compare.calls _ _ _ w hT (cmp_S ha hb)
end Go.Proofs.YthbiafjdilbbnaaGreatDoor
