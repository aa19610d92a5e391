-- Printed by a program of this session's own, over the kit's print: functions of the program as plain functions, and their calls' contracts.
import Derived.Test.YthbiafjdilbbnaaGreatDoorDPIx0
set_option linter.unusedVariables false
set_option linter.unusedSimpArgs false
namespace Go.Proofs.YthbiafjdilbbnaaGreatDoor.PI
open Go.RowKit Go.Proofs.YthbiafjdilbbnaaGreatDoorW.PrintWords Go.Proofs.YthbiafjdilbbnaaGreatDoorW.PrintLast Go.Proofs.YthbiafjdilbbnaaGreatDoorW.PrintMore
attribute [local go_sem] max2_int min2_int max_two min_two max_three min_three max_four min_four   -- for this text's walks alone
set_option linter.unusedVariables false
set_option linter.unusedSimpArgs false

-- GIVEN: function 14 (integer_Add)

-- GIVEN: function 15 (integer_Mul)

-- GIVEN: function 16 (integer_Sub)

-- GIVEN: function 17 (integer_Div)

-- GIVEN: function 18 (integer_Compare)

-- GIVEN: function 19 (integer_Valid)

-- GIVEN: function 20 (integer_Gcd)

-- GIVEN: function 21 (integer_Root)

/-! ### newswirelaw03_sane: function 12 -/
def newswirelaw03_sane.j0 : Nat → ByteArray → ByteArray → ByteArray → ByteArray → ByteArray → ByteArray → ByteArray → ByteArray → ByteArray → Bool → Option (Bool)
  | 0, _, _, _, _, _, _, _, _, _, _ => none
  | k + 1, x1, x3, x5, x7, x8, x10, x11, x13, x15, x21 => if x21 = true then (if x1.toList = ([49, 48, 48, 48] : List UInt8) then (if x3.toList = ([45, 57, 57, 57] : List UInt8) then (if x5.toList = ([45, 49, 52, 52] : List UInt8) then (if x7.toList = ([45, 52] : List UInt8) then (if x8.toList = ([49] : List UInt8) then (if x10.toList = ([52] : List UInt8) then (if x11.toList = ([49] : List UInt8) then (if x13.toList = ([54] : List UInt8) then (if x15.toList = ([57] : List UInt8) then ((integer_Valid.f (⟨#[45, 55]⟩ : ByteArray)).bind fun t121 => (if t121 = true then ((integer_Valid.f (⟨#[45, 48]⟩ : ByteArray)).bind fun t122 => (if t122 = true then (some false) else ((integer_Valid.f (⟨#[]⟩ : ByteArray)).bind fun t123 => (if t123 = true then (some false) else ((integer_Compare.f (⟨#[45, 56]⟩ : ByteArray) (⟨#[45, 55]⟩ : ByteArray)).bind fun t124 => (some (decide (t124 < 0)))))))) else (some false))) else (some false)) else (some false)) else (some false)) else (some false)) else (some false)) else (some false)) else (some false)) else (some false)) else (some false)) else (some false)
def newswirelaw03_sane.f (k : Nat)  : Option (Bool) := (integer_Add.f (⟨#[57, 57, 57]⟩ : ByteArray) (⟨#[49]⟩ : ByteArray)).bind fun bt101 => ((integer_Sub.f (⟨#[49]⟩ : ByteArray) (⟨#[49, 48, 48, 48]⟩ : ByteArray)).bind fun bt103 => ((integer_Mul.f (⟨#[45, 49, 50]⟩ : ByteArray) (⟨#[49, 50]⟩ : ByteArray)).bind fun bt105 => ((integer_Div.f (⟨#[45, 55]⟩ : ByteArray) (⟨#[50]⟩ : ByteArray)).bind fun bt107 => ((integer_Div.f (⟨#[45, 55]⟩ : ByteArray) (⟨#[45, 50]⟩ : ByteArray)).bind fun bt110 => ((integer_Gcd.f (⟨#[49, 50]⟩ : ByteArray) (⟨#[45, 49, 56]⟩ : ByteArray)).bind fun bt113 => ((integer_Root.f (⟨#[57, 57]⟩ : ByteArray)).bind fun bt115 => ((integer_Root.f (⟨#[45, 49]⟩ : ByteArray)).bind fun bt117 => ((integer_Add.f (⟨#[48, 48, 55]⟩ : ByteArray) (⟨#[49]⟩ : ByteArray)).bind fun bt119 => (if bt101.2 = 0 then (if bt103.2 = 0 then (if bt105.2 = 0 then (if bt107.2.2 = 0 then (if bt110.2.2 = 0 then (if bt113.2 = 0 then (if bt115.2 = 0 then (if bt117.2 = 30 then (newswirelaw03_sane.j0 k bt101.1 bt103.1 bt105.1 bt107.1 bt107.2.1 bt110.1 bt110.2.1 bt113.1 bt115.1 (bt119.2 == 30)) else (newswirelaw03_sane.j0 k bt101.1 bt103.1 bt105.1 bt107.1 bt107.2.1 bt110.1 bt110.2.1 bt113.1 bt115.1 false)) else (newswirelaw03_sane.j0 k bt101.1 bt103.1 bt105.1 bt107.1 bt107.2.1 bt110.1 bt110.2.1 bt113.1 bt115.1 false)) else (newswirelaw03_sane.j0 k bt101.1 bt103.1 bt105.1 bt107.1 bt107.2.1 bt110.1 bt110.2.1 bt113.1 bt115.1 false)) else (newswirelaw03_sane.j0 k bt101.1 bt103.1 bt105.1 bt107.1 bt107.2.1 bt110.1 bt110.2.1 bt113.1 bt115.1 false)) else (newswirelaw03_sane.j0 k bt101.1 bt103.1 bt105.1 bt107.1 bt107.2.1 bt110.1 bt110.2.1 bt113.1 bt115.1 false)) else (newswirelaw03_sane.j0 k bt101.1 bt103.1 bt105.1 bt107.1 bt107.2.1 bt110.1 bt110.2.1 bt113.1 bt115.1 false)) else (newswirelaw03_sane.j0 k bt101.1 bt103.1 bt105.1 bt107.1 bt107.2.1 bt110.1 bt110.2.1 bt113.1 bt115.1 false)) else (newswirelaw03_sane.j0 k bt101.1 bt103.1 bt105.1 bt107.1 bt107.2.1 bt110.1 bt110.2.1 bt113.1 bt115.1 false))))))))))
set_option maxHeartbeats 8000000 in
set_option maxRecDepth 100000 in
theorem newswirelaw03_sane.calls (k : Nat)  (r : Bool) (w : World) (hT : Laid w) (h : newswirelaw03_sane.f k  = some r) :
    Calls Tryz.prog 12 #[] w fun e w' => e = .returned (.bool r) ∧ Below w.heap.size w w' := by
  have HT := Aside0.mk hT
  clear hT
  have HB := Aside0.mk (Below.refl w.heap.size w)
  have H : ((integer_Add.f (⟨#[57, 57, 57]⟩ : ByteArray) (⟨#[49]⟩ : ByteArray)).bind fun bt101 => ((integer_Sub.f (⟨#[49]⟩ : ByteArray) (⟨#[49, 48, 48, 48]⟩ : ByteArray)).bind fun bt103 => ((integer_Mul.f (⟨#[45, 49, 50]⟩ : ByteArray) (⟨#[49, 50]⟩ : ByteArray)).bind fun bt105 => ((integer_Div.f (⟨#[45, 55]⟩ : ByteArray) (⟨#[50]⟩ : ByteArray)).bind fun bt107 => ((integer_Div.f (⟨#[45, 55]⟩ : ByteArray) (⟨#[45, 50]⟩ : ByteArray)).bind fun bt110 => ((integer_Gcd.f (⟨#[49, 50]⟩ : ByteArray) (⟨#[45, 49, 56]⟩ : ByteArray)).bind fun bt113 => ((integer_Root.f (⟨#[57, 57]⟩ : ByteArray)).bind fun bt115 => ((integer_Root.f (⟨#[45, 49]⟩ : ByteArray)).bind fun bt117 => ((integer_Add.f (⟨#[48, 48, 55]⟩ : ByteArray) (⟨#[49]⟩ : ByteArray)).bind fun bt119 => (if bt101.2 = 0 then (if bt103.2 = 0 then (if bt105.2 = 0 then (if bt107.2.2 = 0 then (if bt110.2.2 = 0 then (if bt113.2 = 0 then (if bt115.2 = 0 then (if bt117.2 = 30 then (newswirelaw03_sane.j0 k bt101.1 bt103.1 bt105.1 bt107.1 bt107.2.1 bt110.1 bt110.2.1 bt113.1 bt115.1 (bt119.2 == 30)) else (newswirelaw03_sane.j0 k bt101.1 bt103.1 bt105.1 bt107.1 bt107.2.1 bt110.1 bt110.2.1 bt113.1 bt115.1 false)) else (newswirelaw03_sane.j0 k bt101.1 bt103.1 bt105.1 bt107.1 bt107.2.1 bt110.1 bt110.2.1 bt113.1 bt115.1 false)) else (newswirelaw03_sane.j0 k bt101.1 bt103.1 bt105.1 bt107.1 bt107.2.1 bt110.1 bt110.2.1 bt113.1 bt115.1 false)) else (newswirelaw03_sane.j0 k bt101.1 bt103.1 bt105.1 bt107.1 bt107.2.1 bt110.1 bt110.2.1 bt113.1 bt115.1 false)) else (newswirelaw03_sane.j0 k bt101.1 bt103.1 bt105.1 bt107.1 bt107.2.1 bt110.1 bt110.2.1 bt113.1 bt115.1 false)) else (newswirelaw03_sane.j0 k bt101.1 bt103.1 bt105.1 bt107.1 bt107.2.1 bt110.1 bt110.2.1 bt113.1 bt115.1 false)) else (newswirelaw03_sane.j0 k bt101.1 bt103.1 bt105.1 bt107.1 bt107.2.1 bt110.1 bt110.2.1 bt113.1 bt115.1 false)) else (newswirelaw03_sane.j0 k bt101.1 bt103.1 bt105.1 bt107.1 bt107.2.1 bt110.1 bt110.2.1 bt113.1 bt115.1 false))))))))))) = some r := h
  clear h
  replace H := Option.bind_eq_some_iff.mp H
  obtain ⟨⟨t101, t102⟩, A10, H⟩ := H
  replace H : ((integer_Sub.f (⟨#[49]⟩ : ByteArray) (⟨#[49, 48, 48, 48]⟩ : ByteArray)).bind fun bt103 => ((integer_Mul.f (⟨#[45, 49, 50]⟩ : ByteArray) (⟨#[49, 50]⟩ : ByteArray)).bind fun bt105 => ((integer_Div.f (⟨#[45, 55]⟩ : ByteArray) (⟨#[50]⟩ : ByteArray)).bind fun bt107 => ((integer_Div.f (⟨#[45, 55]⟩ : ByteArray) (⟨#[45, 50]⟩ : ByteArray)).bind fun bt110 => ((integer_Gcd.f (⟨#[49, 50]⟩ : ByteArray) (⟨#[45, 49, 56]⟩ : ByteArray)).bind fun bt113 => ((integer_Root.f (⟨#[57, 57]⟩ : ByteArray)).bind fun bt115 => ((integer_Root.f (⟨#[45, 49]⟩ : ByteArray)).bind fun bt117 => ((integer_Add.f (⟨#[48, 48, 55]⟩ : ByteArray) (⟨#[49]⟩ : ByteArray)).bind fun bt119 => (if t102 = 0 then (if bt103.2 = 0 then (if bt105.2 = 0 then (if bt107.2.2 = 0 then (if bt110.2.2 = 0 then (if bt113.2 = 0 then (if bt115.2 = 0 then (if bt117.2 = 30 then (newswirelaw03_sane.j0 k t101 bt103.1 bt105.1 bt107.1 bt107.2.1 bt110.1 bt110.2.1 bt113.1 bt115.1 (bt119.2 == 30)) else (newswirelaw03_sane.j0 k t101 bt103.1 bt105.1 bt107.1 bt107.2.1 bt110.1 bt110.2.1 bt113.1 bt115.1 false)) else (newswirelaw03_sane.j0 k t101 bt103.1 bt105.1 bt107.1 bt107.2.1 bt110.1 bt110.2.1 bt113.1 bt115.1 false)) else (newswirelaw03_sane.j0 k t101 bt103.1 bt105.1 bt107.1 bt107.2.1 bt110.1 bt110.2.1 bt113.1 bt115.1 false)) else (newswirelaw03_sane.j0 k t101 bt103.1 bt105.1 bt107.1 bt107.2.1 bt110.1 bt110.2.1 bt113.1 bt115.1 false)) else (newswirelaw03_sane.j0 k t101 bt103.1 bt105.1 bt107.1 bt107.2.1 bt110.1 bt110.2.1 bt113.1 bt115.1 false)) else (newswirelaw03_sane.j0 k t101 bt103.1 bt105.1 bt107.1 bt107.2.1 bt110.1 bt110.2.1 bt113.1 bt115.1 false)) else (newswirelaw03_sane.j0 k t101 bt103.1 bt105.1 bt107.1 bt107.2.1 bt110.1 bt110.2.1 bt113.1 bt115.1 false)) else (newswirelaw03_sane.j0 k t101 bt103.1 bt105.1 bt107.1 bt107.2.1 bt110.1 bt110.2.1 bt113.1 bt115.1 false)))))))))) = some r := H
  have A1 := Aside0.mk A10
  clear A10
  replace H := Option.bind_eq_some_iff.mp H
  obtain ⟨⟨t103, t104⟩, A20, H⟩ := H
  replace H : ((integer_Mul.f (⟨#[45, 49, 50]⟩ : ByteArray) (⟨#[49, 50]⟩ : ByteArray)).bind fun bt105 => ((integer_Div.f (⟨#[45, 55]⟩ : ByteArray) (⟨#[50]⟩ : ByteArray)).bind fun bt107 => ((integer_Div.f (⟨#[45, 55]⟩ : ByteArray) (⟨#[45, 50]⟩ : ByteArray)).bind fun bt110 => ((integer_Gcd.f (⟨#[49, 50]⟩ : ByteArray) (⟨#[45, 49, 56]⟩ : ByteArray)).bind fun bt113 => ((integer_Root.f (⟨#[57, 57]⟩ : ByteArray)).bind fun bt115 => ((integer_Root.f (⟨#[45, 49]⟩ : ByteArray)).bind fun bt117 => ((integer_Add.f (⟨#[48, 48, 55]⟩ : ByteArray) (⟨#[49]⟩ : ByteArray)).bind fun bt119 => (if t102 = 0 then (if t104 = 0 then (if bt105.2 = 0 then (if bt107.2.2 = 0 then (if bt110.2.2 = 0 then (if bt113.2 = 0 then (if bt115.2 = 0 then (if bt117.2 = 30 then (newswirelaw03_sane.j0 k t101 t103 bt105.1 bt107.1 bt107.2.1 bt110.1 bt110.2.1 bt113.1 bt115.1 (bt119.2 == 30)) else (newswirelaw03_sane.j0 k t101 t103 bt105.1 bt107.1 bt107.2.1 bt110.1 bt110.2.1 bt113.1 bt115.1 false)) else (newswirelaw03_sane.j0 k t101 t103 bt105.1 bt107.1 bt107.2.1 bt110.1 bt110.2.1 bt113.1 bt115.1 false)) else (newswirelaw03_sane.j0 k t101 t103 bt105.1 bt107.1 bt107.2.1 bt110.1 bt110.2.1 bt113.1 bt115.1 false)) else (newswirelaw03_sane.j0 k t101 t103 bt105.1 bt107.1 bt107.2.1 bt110.1 bt110.2.1 bt113.1 bt115.1 false)) else (newswirelaw03_sane.j0 k t101 t103 bt105.1 bt107.1 bt107.2.1 bt110.1 bt110.2.1 bt113.1 bt115.1 false)) else (newswirelaw03_sane.j0 k t101 t103 bt105.1 bt107.1 bt107.2.1 bt110.1 bt110.2.1 bt113.1 bt115.1 false)) else (newswirelaw03_sane.j0 k t101 t103 bt105.1 bt107.1 bt107.2.1 bt110.1 bt110.2.1 bt113.1 bt115.1 false)) else (newswirelaw03_sane.j0 k t101 t103 bt105.1 bt107.1 bt107.2.1 bt110.1 bt110.2.1 bt113.1 bt115.1 false))))))))) = some r := H
  have A2 := Aside0.mk A20
  clear A20
  replace H := Option.bind_eq_some_iff.mp H
  obtain ⟨⟨t105, t106⟩, A30, H⟩ := H
  replace H : ((integer_Div.f (⟨#[45, 55]⟩ : ByteArray) (⟨#[50]⟩ : ByteArray)).bind fun bt107 => ((integer_Div.f (⟨#[45, 55]⟩ : ByteArray) (⟨#[45, 50]⟩ : ByteArray)).bind fun bt110 => ((integer_Gcd.f (⟨#[49, 50]⟩ : ByteArray) (⟨#[45, 49, 56]⟩ : ByteArray)).bind fun bt113 => ((integer_Root.f (⟨#[57, 57]⟩ : ByteArray)).bind fun bt115 => ((integer_Root.f (⟨#[45, 49]⟩ : ByteArray)).bind fun bt117 => ((integer_Add.f (⟨#[48, 48, 55]⟩ : ByteArray) (⟨#[49]⟩ : ByteArray)).bind fun bt119 => (if t102 = 0 then (if t104 = 0 then (if t106 = 0 then (if bt107.2.2 = 0 then (if bt110.2.2 = 0 then (if bt113.2 = 0 then (if bt115.2 = 0 then (if bt117.2 = 30 then (newswirelaw03_sane.j0 k t101 t103 t105 bt107.1 bt107.2.1 bt110.1 bt110.2.1 bt113.1 bt115.1 (bt119.2 == 30)) else (newswirelaw03_sane.j0 k t101 t103 t105 bt107.1 bt107.2.1 bt110.1 bt110.2.1 bt113.1 bt115.1 false)) else (newswirelaw03_sane.j0 k t101 t103 t105 bt107.1 bt107.2.1 bt110.1 bt110.2.1 bt113.1 bt115.1 false)) else (newswirelaw03_sane.j0 k t101 t103 t105 bt107.1 bt107.2.1 bt110.1 bt110.2.1 bt113.1 bt115.1 false)) else (newswirelaw03_sane.j0 k t101 t103 t105 bt107.1 bt107.2.1 bt110.1 bt110.2.1 bt113.1 bt115.1 false)) else (newswirelaw03_sane.j0 k t101 t103 t105 bt107.1 bt107.2.1 bt110.1 bt110.2.1 bt113.1 bt115.1 false)) else (newswirelaw03_sane.j0 k t101 t103 t105 bt107.1 bt107.2.1 bt110.1 bt110.2.1 bt113.1 bt115.1 false)) else (newswirelaw03_sane.j0 k t101 t103 t105 bt107.1 bt107.2.1 bt110.1 bt110.2.1 bt113.1 bt115.1 false)) else (newswirelaw03_sane.j0 k t101 t103 t105 bt107.1 bt107.2.1 bt110.1 bt110.2.1 bt113.1 bt115.1 false)))))))) = some r := H
  have A3 := Aside0.mk A30
  clear A30
  replace H := Option.bind_eq_some_iff.mp H
  obtain ⟨⟨t107, t108, t109⟩, A40, H⟩ := H
  replace H : ((integer_Div.f (⟨#[45, 55]⟩ : ByteArray) (⟨#[45, 50]⟩ : ByteArray)).bind fun bt110 => ((integer_Gcd.f (⟨#[49, 50]⟩ : ByteArray) (⟨#[45, 49, 56]⟩ : ByteArray)).bind fun bt113 => ((integer_Root.f (⟨#[57, 57]⟩ : ByteArray)).bind fun bt115 => ((integer_Root.f (⟨#[45, 49]⟩ : ByteArray)).bind fun bt117 => ((integer_Add.f (⟨#[48, 48, 55]⟩ : ByteArray) (⟨#[49]⟩ : ByteArray)).bind fun bt119 => (if t102 = 0 then (if t104 = 0 then (if t106 = 0 then (if t109 = 0 then (if bt110.2.2 = 0 then (if bt113.2 = 0 then (if bt115.2 = 0 then (if bt117.2 = 30 then (newswirelaw03_sane.j0 k t101 t103 t105 t107 t108 bt110.1 bt110.2.1 bt113.1 bt115.1 (bt119.2 == 30)) else (newswirelaw03_sane.j0 k t101 t103 t105 t107 t108 bt110.1 bt110.2.1 bt113.1 bt115.1 false)) else (newswirelaw03_sane.j0 k t101 t103 t105 t107 t108 bt110.1 bt110.2.1 bt113.1 bt115.1 false)) else (newswirelaw03_sane.j0 k t101 t103 t105 t107 t108 bt110.1 bt110.2.1 bt113.1 bt115.1 false)) else (newswirelaw03_sane.j0 k t101 t103 t105 t107 t108 bt110.1 bt110.2.1 bt113.1 bt115.1 false)) else (newswirelaw03_sane.j0 k t101 t103 t105 t107 t108 bt110.1 bt110.2.1 bt113.1 bt115.1 false)) else (newswirelaw03_sane.j0 k t101 t103 t105 t107 t108 bt110.1 bt110.2.1 bt113.1 bt115.1 false)) else (newswirelaw03_sane.j0 k t101 t103 t105 t107 t108 bt110.1 bt110.2.1 bt113.1 bt115.1 false)) else (newswirelaw03_sane.j0 k t101 t103 t105 t107 t108 bt110.1 bt110.2.1 bt113.1 bt115.1 false))))))) = some r := H
  have A4 := Aside0.mk A40
  clear A40
  replace H := Option.bind_eq_some_iff.mp H
  obtain ⟨⟨t110, t111, t112⟩, A50, H⟩ := H
  replace H : ((integer_Gcd.f (⟨#[49, 50]⟩ : ByteArray) (⟨#[45, 49, 56]⟩ : ByteArray)).bind fun bt113 => ((integer_Root.f (⟨#[57, 57]⟩ : ByteArray)).bind fun bt115 => ((integer_Root.f (⟨#[45, 49]⟩ : ByteArray)).bind fun bt117 => ((integer_Add.f (⟨#[48, 48, 55]⟩ : ByteArray) (⟨#[49]⟩ : ByteArray)).bind fun bt119 => (if t102 = 0 then (if t104 = 0 then (if t106 = 0 then (if t109 = 0 then (if t112 = 0 then (if bt113.2 = 0 then (if bt115.2 = 0 then (if bt117.2 = 30 then (newswirelaw03_sane.j0 k t101 t103 t105 t107 t108 t110 t111 bt113.1 bt115.1 (bt119.2 == 30)) else (newswirelaw03_sane.j0 k t101 t103 t105 t107 t108 t110 t111 bt113.1 bt115.1 false)) else (newswirelaw03_sane.j0 k t101 t103 t105 t107 t108 t110 t111 bt113.1 bt115.1 false)) else (newswirelaw03_sane.j0 k t101 t103 t105 t107 t108 t110 t111 bt113.1 bt115.1 false)) else (newswirelaw03_sane.j0 k t101 t103 t105 t107 t108 t110 t111 bt113.1 bt115.1 false)) else (newswirelaw03_sane.j0 k t101 t103 t105 t107 t108 t110 t111 bt113.1 bt115.1 false)) else (newswirelaw03_sane.j0 k t101 t103 t105 t107 t108 t110 t111 bt113.1 bt115.1 false)) else (newswirelaw03_sane.j0 k t101 t103 t105 t107 t108 t110 t111 bt113.1 bt115.1 false)) else (newswirelaw03_sane.j0 k t101 t103 t105 t107 t108 t110 t111 bt113.1 bt115.1 false)))))) = some r := H
  have A5 := Aside0.mk A50
  clear A50
  replace H := Option.bind_eq_some_iff.mp H
  obtain ⟨⟨t113, t114⟩, A60, H⟩ := H
  replace H : ((integer_Root.f (⟨#[57, 57]⟩ : ByteArray)).bind fun bt115 => ((integer_Root.f (⟨#[45, 49]⟩ : ByteArray)).bind fun bt117 => ((integer_Add.f (⟨#[48, 48, 55]⟩ : ByteArray) (⟨#[49]⟩ : ByteArray)).bind fun bt119 => (if t102 = 0 then (if t104 = 0 then (if t106 = 0 then (if t109 = 0 then (if t112 = 0 then (if t114 = 0 then (if bt115.2 = 0 then (if bt117.2 = 30 then (newswirelaw03_sane.j0 k t101 t103 t105 t107 t108 t110 t111 t113 bt115.1 (bt119.2 == 30)) else (newswirelaw03_sane.j0 k t101 t103 t105 t107 t108 t110 t111 t113 bt115.1 false)) else (newswirelaw03_sane.j0 k t101 t103 t105 t107 t108 t110 t111 t113 bt115.1 false)) else (newswirelaw03_sane.j0 k t101 t103 t105 t107 t108 t110 t111 t113 bt115.1 false)) else (newswirelaw03_sane.j0 k t101 t103 t105 t107 t108 t110 t111 t113 bt115.1 false)) else (newswirelaw03_sane.j0 k t101 t103 t105 t107 t108 t110 t111 t113 bt115.1 false)) else (newswirelaw03_sane.j0 k t101 t103 t105 t107 t108 t110 t111 t113 bt115.1 false)) else (newswirelaw03_sane.j0 k t101 t103 t105 t107 t108 t110 t111 t113 bt115.1 false)) else (newswirelaw03_sane.j0 k t101 t103 t105 t107 t108 t110 t111 t113 bt115.1 false))))) = some r := H
  have A6 := Aside0.mk A60
  clear A60
  replace H := Option.bind_eq_some_iff.mp H
  obtain ⟨⟨t115, t116⟩, A70, H⟩ := H
  replace H : ((integer_Root.f (⟨#[45, 49]⟩ : ByteArray)).bind fun bt117 => ((integer_Add.f (⟨#[48, 48, 55]⟩ : ByteArray) (⟨#[49]⟩ : ByteArray)).bind fun bt119 => (if t102 = 0 then (if t104 = 0 then (if t106 = 0 then (if t109 = 0 then (if t112 = 0 then (if t114 = 0 then (if t116 = 0 then (if bt117.2 = 30 then (newswirelaw03_sane.j0 k t101 t103 t105 t107 t108 t110 t111 t113 t115 (bt119.2 == 30)) else (newswirelaw03_sane.j0 k t101 t103 t105 t107 t108 t110 t111 t113 t115 false)) else (newswirelaw03_sane.j0 k t101 t103 t105 t107 t108 t110 t111 t113 t115 false)) else (newswirelaw03_sane.j0 k t101 t103 t105 t107 t108 t110 t111 t113 t115 false)) else (newswirelaw03_sane.j0 k t101 t103 t105 t107 t108 t110 t111 t113 t115 false)) else (newswirelaw03_sane.j0 k t101 t103 t105 t107 t108 t110 t111 t113 t115 false)) else (newswirelaw03_sane.j0 k t101 t103 t105 t107 t108 t110 t111 t113 t115 false)) else (newswirelaw03_sane.j0 k t101 t103 t105 t107 t108 t110 t111 t113 t115 false)) else (newswirelaw03_sane.j0 k t101 t103 t105 t107 t108 t110 t111 t113 t115 false)))) = some r := H
  have A7 := Aside0.mk A70
  clear A70
  replace H := Option.bind_eq_some_iff.mp H
  obtain ⟨⟨t117, t118⟩, A80, H⟩ := H
  replace H : ((integer_Add.f (⟨#[48, 48, 55]⟩ : ByteArray) (⟨#[49]⟩ : ByteArray)).bind fun bt119 => (if t102 = 0 then (if t104 = 0 then (if t106 = 0 then (if t109 = 0 then (if t112 = 0 then (if t114 = 0 then (if t116 = 0 then (if t118 = 30 then (newswirelaw03_sane.j0 k t101 t103 t105 t107 t108 t110 t111 t113 t115 (bt119.2 == 30)) else (newswirelaw03_sane.j0 k t101 t103 t105 t107 t108 t110 t111 t113 t115 false)) else (newswirelaw03_sane.j0 k t101 t103 t105 t107 t108 t110 t111 t113 t115 false)) else (newswirelaw03_sane.j0 k t101 t103 t105 t107 t108 t110 t111 t113 t115 false)) else (newswirelaw03_sane.j0 k t101 t103 t105 t107 t108 t110 t111 t113 t115 false)) else (newswirelaw03_sane.j0 k t101 t103 t105 t107 t108 t110 t111 t113 t115 false)) else (newswirelaw03_sane.j0 k t101 t103 t105 t107 t108 t110 t111 t113 t115 false)) else (newswirelaw03_sane.j0 k t101 t103 t105 t107 t108 t110 t111 t113 t115 false)) else (newswirelaw03_sane.j0 k t101 t103 t105 t107 t108 t110 t111 t113 t115 false))) = some r := H
  have A8 := Aside0.mk A80
  clear A80
  replace H := Option.bind_eq_some_iff.mp H
  obtain ⟨⟨t119, t120⟩, A90, H⟩ := H
  replace H : (if t102 = 0 then (if t104 = 0 then (if t106 = 0 then (if t109 = 0 then (if t112 = 0 then (if t114 = 0 then (if t116 = 0 then (if t118 = 30 then (newswirelaw03_sane.j0 k t101 t103 t105 t107 t108 t110 t111 t113 t115 (t120 == 30)) else (newswirelaw03_sane.j0 k t101 t103 t105 t107 t108 t110 t111 t113 t115 false)) else (newswirelaw03_sane.j0 k t101 t103 t105 t107 t108 t110 t111 t113 t115 false)) else (newswirelaw03_sane.j0 k t101 t103 t105 t107 t108 t110 t111 t113 t115 false)) else (newswirelaw03_sane.j0 k t101 t103 t105 t107 t108 t110 t111 t113 t115 false)) else (newswirelaw03_sane.j0 k t101 t103 t105 t107 t108 t110 t111 t113 t115 false)) else (newswirelaw03_sane.j0 k t101 t103 t105 t107 t108 t110 t111 t113 t115 false)) else (newswirelaw03_sane.j0 k t101 t103 t105 t107 t108 t110 t111 t113 t115 false)) else (newswirelaw03_sane.j0 k t101 t103 t105 t107 t108 t110 t111 t113 t115 false)) = some r := H
  have A9 := Aside0.mk A90
  clear A90
  have HC10 := Aside0.mk H
  clear H
  go_enter Tryz.func12, Tryz.ntmps12
  go_upto_region 10 with (first | ((with_reducible refine gate_callee (f := 14) rfl ?_); refine goesL_ (some 23) rfl rfl Tryz.func14 (by kernel_rfl) rfl #[.string (⟨#[57, 57, 57]⟩ : ByteArray), .string (⟨#[49]⟩ : ByteArray)] rfl (by (try simp only [List.map_toArray, List.map_cons, List.map_nil]); first | done | rfl | (simp only [List.length_drop, List.length_take]; rfl)) ?_; (with_reducible refine (integer_Add.calls (⟨#[57, 57, 57]⟩ : ByteArray) (⟨#[49]⟩ : ByteArray) t101 t102 _ ?side1 A1.out).mono ?_); (case side1 => exact Laid.on HT.out (by repeat (first | (with_reducible first | exact HB.out | apply below_alloc | apply pw_below_drewN | apply below_drew1) | exact HB.out))); rintro e w11 ⟨rfl, hb⟩; refine ⟨_, rfl, ?_⟩; have n0_ := Aside0.mk (below_step (by repeat (first | (with_reducible first | exact HB.out | apply below_alloc | apply pw_below_drewN | apply below_drew1) | exact HB.out)) hb); clear HB; have HB := n0_; clear n0_; (try clear hb); (try clear hb2); (try clear hk); (try clear hi)) | ((with_reducible refine gate_callee (f := 16) rfl ?_); refine goesL_ (some 27) rfl rfl Tryz.func16 (by kernel_rfl) rfl #[.string (⟨#[49]⟩ : ByteArray), .string (⟨#[49, 48, 48, 48]⟩ : ByteArray)] rfl (by (try simp only [List.map_toArray, List.map_cons, List.map_nil]); first | done | rfl | (simp only [List.length_drop, List.length_take]; rfl)) ?_; (with_reducible refine (integer_Sub.calls (⟨#[49]⟩ : ByteArray) (⟨#[49, 48, 48, 48]⟩ : ByteArray) t103 t104 _ ?side1 A2.out).mono ?_); (case side1 => exact Laid.on HT.out (by repeat (first | (with_reducible first | exact HB.out | apply below_alloc | apply pw_below_drewN | apply below_drew1) | exact HB.out))); rintro e w12 ⟨rfl, hb⟩; refine ⟨_, rfl, ?_⟩; have n0_ := Aside0.mk (below_step (by repeat (first | (with_reducible first | exact HB.out | apply below_alloc | apply pw_below_drewN | apply below_drew1) | exact HB.out)) hb); clear HB; have HB := n0_; clear n0_; (try clear hb); (try clear hb2); (try clear hk); (try clear hi)) | ((with_reducible refine gate_callee (f := 15) rfl ?_); refine goesL_ (some 31) rfl rfl Tryz.func15 (by kernel_rfl) rfl #[.string (⟨#[45, 49, 50]⟩ : ByteArray), .string (⟨#[49, 50]⟩ : ByteArray)] rfl (by (try simp only [List.map_toArray, List.map_cons, List.map_nil]); first | done | rfl | (simp only [List.length_drop, List.length_take]; rfl)) ?_; (with_reducible refine (integer_Mul.calls (⟨#[45, 49, 50]⟩ : ByteArray) (⟨#[49, 50]⟩ : ByteArray) t105 t106 _ ?side1 A3.out).mono ?_); (case side1 => exact Laid.on HT.out (by repeat (first | (with_reducible first | exact HB.out | apply below_alloc | apply pw_below_drewN | apply below_drew1) | exact HB.out))); rintro e w13 ⟨rfl, hb⟩; refine ⟨_, rfl, ?_⟩; have n0_ := Aside0.mk (below_step (by repeat (first | (with_reducible first | exact HB.out | apply below_alloc | apply pw_below_drewN | apply below_drew1) | exact HB.out)) hb); clear HB; have HB := n0_; clear n0_; (try clear hb); (try clear hb2); (try clear hk); (try clear hi)) | ((with_reducible refine gate_callee (f := 17) rfl ?_); refine goesL_ (some 35) rfl rfl Tryz.func17 (by kernel_rfl) rfl #[.string (⟨#[45, 55]⟩ : ByteArray), .string (⟨#[50]⟩ : ByteArray)] rfl (by (try simp only [List.map_toArray, List.map_cons, List.map_nil]); first | done | rfl | (simp only [List.length_drop, List.length_take]; rfl)) ?_; (with_reducible refine (integer_Div.calls (⟨#[45, 55]⟩ : ByteArray) (⟨#[50]⟩ : ByteArray) t107 t108 t109 _ ?side1 A4.out).mono ?_); (case side1 => exact Laid.on HT.out (by repeat (first | (with_reducible first | exact HB.out | apply below_alloc | apply pw_below_drewN | apply below_drew1) | exact HB.out))); rintro e w14 ⟨rfl, hb⟩; refine ⟨_, rfl, ?_⟩; have n0_ := Aside0.mk (below_step (by repeat (first | (with_reducible first | exact HB.out | apply below_alloc | apply pw_below_drewN | apply below_drew1) | exact HB.out)) hb); clear HB; have HB := n0_; clear n0_; (try clear hb); (try clear hb2); (try clear hk); (try clear hi)) | ((with_reducible refine gate_callee (f := 17) rfl ?_); refine goesL_ (some 40) rfl rfl Tryz.func17 (by kernel_rfl) rfl #[.string (⟨#[45, 55]⟩ : ByteArray), .string (⟨#[45, 50]⟩ : ByteArray)] rfl (by (try simp only [List.map_toArray, List.map_cons, List.map_nil]); first | done | rfl | (simp only [List.length_drop, List.length_take]; rfl)) ?_; (with_reducible refine (integer_Div.calls (⟨#[45, 55]⟩ : ByteArray) (⟨#[45, 50]⟩ : ByteArray) t110 t111 t112 _ ?side1 A5.out).mono ?_); (case side1 => exact Laid.on HT.out (by repeat (first | (with_reducible first | exact HB.out | apply below_alloc | apply pw_below_drewN | apply below_drew1) | exact HB.out))); rintro e w15 ⟨rfl, hb⟩; refine ⟨_, rfl, ?_⟩; have n0_ := Aside0.mk (below_step (by repeat (first | (with_reducible first | exact HB.out | apply below_alloc | apply pw_below_drewN | apply below_drew1) | exact HB.out)) hb); clear HB; have HB := n0_; clear n0_; (try clear hb); (try clear hb2); (try clear hk); (try clear hi)) | ((with_reducible refine gate_callee (f := 20) rfl ?_); refine goesL_ (some 45) rfl rfl Tryz.func20 (by kernel_rfl) rfl #[.string (⟨#[49, 50]⟩ : ByteArray), .string (⟨#[45, 49, 56]⟩ : ByteArray)] rfl (by (try simp only [List.map_toArray, List.map_cons, List.map_nil]); first | done | rfl | (simp only [List.length_drop, List.length_take]; rfl)) ?_; (with_reducible refine (integer_Gcd.calls (⟨#[49, 50]⟩ : ByteArray) (⟨#[45, 49, 56]⟩ : ByteArray) t113 t114 _ ?side1 A6.out).mono ?_); (case side1 => exact Laid.on HT.out (by repeat (first | (with_reducible first | exact HB.out | apply below_alloc | apply pw_below_drewN | apply below_drew1) | exact HB.out))); rintro e w16 ⟨rfl, hb⟩; refine ⟨_, rfl, ?_⟩; have n0_ := Aside0.mk (below_step (by repeat (first | (with_reducible first | exact HB.out | apply below_alloc | apply pw_below_drewN | apply below_drew1) | exact HB.out)) hb); clear HB; have HB := n0_; clear n0_; (try clear hb); (try clear hb2); (try clear hk); (try clear hi)) | ((with_reducible refine gate_callee (f := 21) rfl ?_); refine goesL_ (some 49) rfl rfl Tryz.func21 (by kernel_rfl) rfl #[.string (⟨#[57, 57]⟩ : ByteArray)] rfl (by (try simp only [List.map_toArray, List.map_cons, List.map_nil]); first | done | rfl | (simp only [List.length_drop, List.length_take]; rfl)) ?_; (with_reducible refine (integer_Root.calls (⟨#[57, 57]⟩ : ByteArray) t115 t116 _ ?side1 A7.out).mono ?_); (case side1 => exact Laid.on HT.out (by repeat (first | (with_reducible first | exact HB.out | apply below_alloc | apply pw_below_drewN | apply below_drew1) | exact HB.out))); rintro e w17 ⟨rfl, hb⟩; refine ⟨_, rfl, ?_⟩; have n0_ := Aside0.mk (below_step (by repeat (first | (with_reducible first | exact HB.out | apply below_alloc | apply pw_below_drewN | apply below_drew1) | exact HB.out)) hb); clear HB; have HB := n0_; clear n0_; (try clear hb); (try clear hb2); (try clear hk); (try clear hi)) | ((with_reducible refine gate_callee (f := 21) rfl ?_); refine goesL_ (some 53) rfl rfl Tryz.func21 (by kernel_rfl) rfl #[.string (⟨#[45, 49]⟩ : ByteArray)] rfl (by (try simp only [List.map_toArray, List.map_cons, List.map_nil]); first | done | rfl | (simp only [List.length_drop, List.length_take]; rfl)) ?_; (with_reducible refine (integer_Root.calls (⟨#[45, 49]⟩ : ByteArray) t117 t118 _ ?side1 A8.out).mono ?_); (case side1 => exact Laid.on HT.out (by repeat (first | (with_reducible first | exact HB.out | apply below_alloc | apply pw_below_drewN | apply below_drew1) | exact HB.out))); rintro e w18 ⟨rfl, hb⟩; refine ⟨_, rfl, ?_⟩; have n0_ := Aside0.mk (below_step (by repeat (first | (with_reducible first | exact HB.out | apply below_alloc | apply pw_below_drewN | apply below_drew1) | exact HB.out)) hb); clear HB; have HB := n0_; clear n0_; (try clear hb); (try clear hb2); (try clear hk); (try clear hi)) | ((with_reducible refine gate_callee (f := 14) rfl ?_); refine goesL_ (some 57) rfl rfl Tryz.func14 (by kernel_rfl) rfl #[.string (⟨#[48, 48, 55]⟩ : ByteArray), .string (⟨#[49]⟩ : ByteArray)] rfl (by (try simp only [List.map_toArray, List.map_cons, List.map_nil]); first | done | rfl | (simp only [List.length_drop, List.length_take]; rfl)) ?_; (with_reducible refine (integer_Add.calls (⟨#[48, 48, 55]⟩ : ByteArray) (⟨#[49]⟩ : ByteArray) t119 t120 _ ?side1 A9.out).mono ?_); (case side1 => exact Laid.on HT.out (by repeat (first | (with_reducible first | exact HB.out | apply below_alloc | apply pw_below_drewN | apply below_drew1) | exact HB.out))); rintro e w19 ⟨rfl, hb⟩; refine ⟨_, rfl, ?_⟩; have n0_ := Aside0.mk (below_step (by repeat (first | (with_reducible first | exact HB.out | apply below_alloc | apply pw_below_drewN | apply below_drew1) | exact HB.out)) hb); clear HB; have HB := n0_; clear n0_; (try clear hb); (try clear hb2); (try clear hk); (try clear hi)))
  (try simp only [Act.put, List.setIfInBounds_toArray, List.set_cons_zero, List.set_cons_succ])
  go_cut [21] (fun v21 wc => ∃ (kq : Nat) (x21_9 : Bool), v21 = .bool x21_9 ∧ Aside0 (newswirelaw03_sane.j0 kq t101 t103 t105 t107 t108 t110 t111 t113 t115 x21_9 = some r) ∧ Aside0 (kq ≤ k) ∧ Aside0 (Below w.heap.size w wc))
  case first =>
    have H := HC10.out
    clear HC10
    by_cases c20 : t102 = 0
    · rw [if_pos c20] at H
      have c20b0 : (t102 == 0) = true := beq_iff_eq.mpr c20
      have c20b1 : (t102 != 0) = false := bne_eq_false_iff_eq.mpr c20
      clear c20
      (first | rw [c20b0] | (simp only [i64_w, i32_w]; rw [c20b0]) | skip)
      by_cases c21 : t104 = 0
      · rw [if_pos c21] at H
        have c21b0 : (t104 == 0) = true := beq_iff_eq.mpr c21
        have c21b1 : (t104 != 0) = false := bne_eq_false_iff_eq.mpr c21
        clear c21
        by_cases c22 : t106 = 0
        · rw [if_pos c22] at H
          have c22b0 : (t106 == 0) = true := beq_iff_eq.mpr c22
          have c22b1 : (t106 != 0) = false := bne_eq_false_iff_eq.mpr c22
          clear c22
          by_cases c23 : t109 = 0
          · rw [if_pos c23] at H
            have c23b0 : (t109 == 0) = true := beq_iff_eq.mpr c23
            have c23b1 : (t109 != 0) = false := bne_eq_false_iff_eq.mpr c23
            clear c23
            by_cases c24 : t112 = 0
            · rw [if_pos c24] at H
              have c24b0 : (t112 == 0) = true := beq_iff_eq.mpr c24
              have c24b1 : (t112 != 0) = false := bne_eq_false_iff_eq.mpr c24
              clear c24
              by_cases c25 : t114 = 0
              · rw [if_pos c25] at H
                have c25b0 : (t114 == 0) = true := beq_iff_eq.mpr c25
                have c25b1 : (t114 != 0) = false := bne_eq_false_iff_eq.mpr c25
                clear c25
                by_cases c26 : t116 = 0
                · rw [if_pos c26] at H
                  have c26b0 : (t116 == 0) = true := beq_iff_eq.mpr c26
                  have c26b1 : (t116 != 0) = false := bne_eq_false_iff_eq.mpr c26
                  clear c26
                  by_cases c27 : t118 = 30
                  · rw [if_pos c27] at H
                    have c27b0 : (t118 == 30) = true := beq_iff_eq.mpr c27
                    have c27b1 : (t118 != 30) = false := bne_eq_false_iff_eq.mpr c27
                    clear c27
                    have H' := Aside0.mk H
                    clear H
                    go_wp2
                    go_meet
                    case rel => exact ⟨_, ((t120 == 30)), (by first | rfl | (simp; done) | (simp [*]; done)), H', ⟨by first | omega | exact Nat.le_refl _⟩, ⟨by repeat (first | (with_reducible first | exact HB.out | apply below_alloc | apply pw_below_drewN | apply below_drew1) | exact HB.out)⟩⟩
                  · rw [if_neg c27] at H
                    have c27b0 : (t118 == 30) = false := beq_eq_false_iff_ne.mpr c27
                    have c27b1 : (t118 != 30) = true := bne_iff_ne.mpr c27
                    have H' := Aside0.mk H
                    clear H
                    go_wp2
                    go_meet
                    case rel => exact ⟨_, (false), (by first | rfl | (simp; done) | (simp [*]; done)), H', ⟨by first | omega | exact Nat.le_refl _⟩, ⟨by repeat (first | (with_reducible first | exact HB.out | apply below_alloc | apply pw_below_drewN | apply below_drew1) | exact HB.out)⟩⟩
                · rw [if_neg c26] at H
                  have c26b0 : (t116 == 0) = false := beq_eq_false_iff_ne.mpr c26
                  have c26b1 : (t116 != 0) = true := bne_iff_ne.mpr c26
                  have H' := Aside0.mk H
                  clear H
                  go_wp2
                  go_meet
                  case rel => exact ⟨_, (false), (by first | rfl | (simp; done) | (simp [*]; done)), H', ⟨by first | omega | exact Nat.le_refl _⟩, ⟨by repeat (first | (with_reducible first | exact HB.out | apply below_alloc | apply pw_below_drewN | apply below_drew1) | exact HB.out)⟩⟩
              · rw [if_neg c25] at H
                have c25b0 : (t114 == 0) = false := beq_eq_false_iff_ne.mpr c25
                have c25b1 : (t114 != 0) = true := bne_iff_ne.mpr c25
                have H' := Aside0.mk H
                clear H
                go_wp2
                go_meet
                case rel => exact ⟨_, (false), (by first | rfl | (simp; done) | (simp [*]; done)), H', ⟨by first | omega | exact Nat.le_refl _⟩, ⟨by repeat (first | (with_reducible first | exact HB.out | apply below_alloc | apply pw_below_drewN | apply below_drew1) | exact HB.out)⟩⟩
            · rw [if_neg c24] at H
              have c24b0 : (t112 == 0) = false := beq_eq_false_iff_ne.mpr c24
              have c24b1 : (t112 != 0) = true := bne_iff_ne.mpr c24
              have H' := Aside0.mk H
              clear H
              go_wp2
              go_meet
              case rel => exact ⟨_, (false), (by first | rfl | (simp; done) | (simp [*]; done)), H', ⟨by first | omega | exact Nat.le_refl _⟩, ⟨by repeat (first | (with_reducible first | exact HB.out | apply below_alloc | apply pw_below_drewN | apply below_drew1) | exact HB.out)⟩⟩
          · rw [if_neg c23] at H
            have c23b0 : (t109 == 0) = false := beq_eq_false_iff_ne.mpr c23
            have c23b1 : (t109 != 0) = true := bne_iff_ne.mpr c23
            have H' := Aside0.mk H
            clear H
            go_wp2
            go_meet
            case rel => exact ⟨_, (false), (by first | rfl | (simp; done) | (simp [*]; done)), H', ⟨by first | omega | exact Nat.le_refl _⟩, ⟨by repeat (first | (with_reducible first | exact HB.out | apply below_alloc | apply pw_below_drewN | apply below_drew1) | exact HB.out)⟩⟩
        · rw [if_neg c22] at H
          have c22b0 : (t106 == 0) = false := beq_eq_false_iff_ne.mpr c22
          have c22b1 : (t106 != 0) = true := bne_iff_ne.mpr c22
          have H' := Aside0.mk H
          clear H
          go_wp2
          go_meet
          case rel => exact ⟨_, (false), (by first | rfl | (simp; done) | (simp [*]; done)), H', ⟨by first | omega | exact Nat.le_refl _⟩, ⟨by repeat (first | (with_reducible first | exact HB.out | apply below_alloc | apply pw_below_drewN | apply below_drew1) | exact HB.out)⟩⟩
      · rw [if_neg c21] at H
        have c21b0 : (t104 == 0) = false := beq_eq_false_iff_ne.mpr c21
        have c21b1 : (t104 != 0) = true := bne_iff_ne.mpr c21
        have H' := Aside0.mk H
        clear H
        go_wp2
        go_meet
        case rel => exact ⟨_, (false), (by first | rfl | (simp; done) | (simp [*]; done)), H', ⟨by first | omega | exact Nat.le_refl _⟩, ⟨by repeat (first | (with_reducible first | exact HB.out | apply below_alloc | apply pw_below_drewN | apply below_drew1) | exact HB.out)⟩⟩
    · rw [if_neg c20] at H
      have c20b0 : (t102 == 0) = false := beq_eq_false_iff_ne.mpr c20
      have c20b1 : (t102 != 0) = true := bne_iff_ne.mpr c20
      (first | rw [c20b0] | (simp only [i64_w, i32_w]; rw [c20b0]) | skip)
      have H' := Aside0.mk H
      clear H
      go_wp2
      go_meet
      case rel => exact ⟨_, (false), (by first | rfl | (simp; done) | (simp [*]; done)), H', ⟨by first | omega | exact Nat.le_refl _⟩, ⟨by repeat (first | (with_reducible first | exact HB.out | apply below_alloc | apply pw_below_drewN | apply below_drew1) | exact HB.out)⟩⟩
  case rest =>
    clear HC10
    try clear c1
    try clear c2
    try clear p2
    try clear c12
    try clear c14
    try clear c15
    try clear c16
    try clear c17
    try clear c20
    try clear c20b0
    try clear c20b1
    try clear c21
    try clear c21b0
    try clear c21b1
    try clear c22
    try clear c22b0
    try clear c22b1
    try clear c23
    try clear c23b0
    try clear c23b1
    try clear c24
    try clear c24b0
    try clear c24b1
    try clear c25
    try clear c25b0
    try clear c25b1
    try clear c26
    try clear c26b0
    try clear c26b1
    try clear c27
    try clear c27b0
    try clear c27b1
    obtain ⟨kq, x21_9, rfl, HA, HJ9, HB⟩ := hcut
    cases kq with
    | zero => exact absurd HA.out (by simp [newswirelaw03_sane.j0])
    | succ kj9 =>
      have H := HA.out
      clear HA
      simp only [newswirelaw03_sane.j0] at H
      by_cases c28 : x21_9 = true
      · subst c28
        have H1 : (if t101.toList = ([49, 48, 48, 48] : List UInt8) then (if t103.toList = ([45, 57, 57, 57] : List UInt8) then (if t105.toList = ([45, 49, 52, 52] : List UInt8) then (if t107.toList = ([45, 52] : List UInt8) then (if t108.toList = ([49] : List UInt8) then (if t110.toList = ([52] : List UInt8) then (if t111.toList = ([49] : List UInt8) then (if t113.toList = ([54] : List UInt8) then (if t115.toList = ([57] : List UInt8) then ((integer_Valid.f (⟨#[45, 55]⟩ : ByteArray)).bind fun t121 => (if t121 = true then ((integer_Valid.f (⟨#[45, 48]⟩ : ByteArray)).bind fun t122 => (if t122 = true then (some false) else ((integer_Valid.f (⟨#[]⟩ : ByteArray)).bind fun t123 => (if t123 = true then (some false) else ((integer_Compare.f (⟨#[45, 56]⟩ : ByteArray) (⟨#[45, 55]⟩ : ByteArray)).bind fun t124 => (some (decide (t124 < 0)))))))) else (some false))) else (some false)) else (some false)) else (some false)) else (some false)) else (some false)) else (some false)) else (some false)) else (some false)) else (some false)) = some r := by rw [if_pos rfl] at H; exact H
        clear H
        have H := H1
        clear H1
        by_cases c29 : t101.toList = ([49, 48, 48, 48] : List UInt8)
        · rw [if_pos c29] at H
          have c29b0 : (t101.toList == ([49, 48, 48, 48] : List UInt8)) = true := beq_iff_eq.mpr c29
          have c29b1 : (t101.toList != ([49, 48, 48, 48] : List UInt8)) = false := bne_eq_false_iff_eq.mpr c29
          clear c29
          by_cases c30 : t103.toList = ([45, 57, 57, 57] : List UInt8)
          · rw [if_pos c30] at H
            have c30b0 : (t103.toList == ([45, 57, 57, 57] : List UInt8)) = true := beq_iff_eq.mpr c30
            have c30b1 : (t103.toList != ([45, 57, 57, 57] : List UInt8)) = false := bne_eq_false_iff_eq.mpr c30
            clear c30
            by_cases c31 : t105.toList = ([45, 49, 52, 52] : List UInt8)
            · rw [if_pos c31] at H
              have c31b0 : (t105.toList == ([45, 49, 52, 52] : List UInt8)) = true := beq_iff_eq.mpr c31
              have c31b1 : (t105.toList != ([45, 49, 52, 52] : List UInt8)) = false := bne_eq_false_iff_eq.mpr c31
              clear c31
              by_cases c32 : t107.toList = ([45, 52] : List UInt8)
              · rw [if_pos c32] at H
                have c32b0 : (t107.toList == ([45, 52] : List UInt8)) = true := beq_iff_eq.mpr c32
                have c32b1 : (t107.toList != ([45, 52] : List UInt8)) = false := bne_eq_false_iff_eq.mpr c32
                clear c32
                by_cases c33 : t108.toList = ([49] : List UInt8)
                · rw [if_pos c33] at H
                  have c33b0 : (t108.toList == ([49] : List UInt8)) = true := beq_iff_eq.mpr c33
                  have c33b1 : (t108.toList != ([49] : List UInt8)) = false := bne_eq_false_iff_eq.mpr c33
                  clear c33
                  by_cases c34 : t110.toList = ([52] : List UInt8)
                  · rw [if_pos c34] at H
                    have c34b0 : (t110.toList == ([52] : List UInt8)) = true := beq_iff_eq.mpr c34
                    have c34b1 : (t110.toList != ([52] : List UInt8)) = false := bne_eq_false_iff_eq.mpr c34
                    clear c34
                    by_cases c35 : t111.toList = ([49] : List UInt8)
                    · rw [if_pos c35] at H
                      have c35b0 : (t111.toList == ([49] : List UInt8)) = true := beq_iff_eq.mpr c35
                      have c35b1 : (t111.toList != ([49] : List UInt8)) = false := bne_eq_false_iff_eq.mpr c35
                      clear c35
                      by_cases c36 : t113.toList = ([54] : List UInt8)
                      · rw [if_pos c36] at H
                        have c36b0 : (t113.toList == ([54] : List UInt8)) = true := beq_iff_eq.mpr c36
                        have c36b1 : (t113.toList != ([54] : List UInt8)) = false := bne_eq_false_iff_eq.mpr c36
                        clear c36
                        by_cases c37 : t115.toList = ([57] : List UInt8)
                        · rw [if_pos c37] at H
                          have c37b0 : (t115.toList == ([57] : List UInt8)) = true := beq_iff_eq.mpr c37
                          have c37b1 : (t115.toList != ([57] : List UInt8)) = false := bne_eq_false_iff_eq.mpr c37
                          clear c37
                          replace H := Option.bind_eq_some_iff.mp H
                          obtain ⟨t121, A380, H⟩ := H
                          replace H : (if t121 = true then ((integer_Valid.f (⟨#[45, 48]⟩ : ByteArray)).bind fun t122 => (if t122 = true then (some false) else ((integer_Valid.f (⟨#[]⟩ : ByteArray)).bind fun t123 => (if t123 = true then (some false) else ((integer_Compare.f (⟨#[45, 56]⟩ : ByteArray) (⟨#[45, 55]⟩ : ByteArray)).bind fun t124 => (some (decide (t124 < 0)))))))) else (some false)) = some r := H
                          have A38 := Aside0.mk A380
                          clear A380
                          by_cases c39 : t121 = true
                          · subst c39
                            have H1 : ((integer_Valid.f (⟨#[45, 48]⟩ : ByteArray)).bind fun t122 => (if t122 = true then (some false) else ((integer_Valid.f (⟨#[]⟩ : ByteArray)).bind fun t123 => (if t123 = true then (some false) else ((integer_Compare.f (⟨#[45, 56]⟩ : ByteArray) (⟨#[45, 55]⟩ : ByteArray)).bind fun t124 => (some (decide (t124 < 0)))))))) = some r := by rw [if_pos rfl] at H; exact H
                            clear H
                            have H := H1
                            clear H1
                            replace H := Option.bind_eq_some_iff.mp H
                            obtain ⟨t122, A400, H⟩ := H
                            replace H : (if t122 = true then (some false) else ((integer_Valid.f (⟨#[]⟩ : ByteArray)).bind fun t123 => (if t123 = true then (some false) else ((integer_Compare.f (⟨#[45, 56]⟩ : ByteArray) (⟨#[45, 55]⟩ : ByteArray)).bind fun t124 => (some (decide (t124 < 0))))))) = some r := H
                            have A40 := Aside0.mk A400
                            clear A400
                            by_cases c41 : t122 = true
                            · subst c41
                              have H1 : (some false) = some r := by rw [if_pos rfl] at H; exact H
                              clear H
                              have H := H1
                              clear H1
                              obtain rfl := Option.some.inj H
                              go_wp2_with (first | (go_at_call 19; (with_reducible refine (integer_Valid.calls (⟨#[45, 55]⟩ : ByteArray) true _ ?side1 A38.out).mono ?_); (case side1 => exact Laid.on HT.out (by repeat (first | (with_reducible first | exact HB.out | apply below_alloc | apply pw_below_drewN | apply below_drew1) | exact HB.out))); rintro e w42 ⟨rfl, hb⟩; have n0_ := Aside0.mk (below_step (by repeat (first | (with_reducible first | exact HB.out | apply below_alloc | apply pw_below_drewN | apply below_drew1) | exact HB.out)) hb); clear HB; have HB := n0_; clear n0_; (try clear hb); (try clear hb2); (try clear hk); (try clear hi)) | (go_at_call 19; (with_reducible refine (integer_Valid.calls (⟨#[45, 48]⟩ : ByteArray) true _ ?side1 A40.out).mono ?_); (case side1 => exact Laid.on HT.out (by repeat (first | (with_reducible first | exact HB.out | apply below_alloc | apply pw_below_drewN | apply below_drew1) | exact HB.out))); rintro e w43 ⟨rfl, hb⟩; have n0_ := Aside0.mk (below_step (by repeat (first | (with_reducible first | exact HB.out | apply below_alloc | apply pw_below_drewN | apply below_drew1) | exact HB.out)) hb); clear HB; have HB := n0_; clear n0_; (try clear hb); (try clear hb2); (try clear hk); (try clear hi)))
                              go_ret
                              exact ⟨by first | rfl | (simp [errW_none, errW_some] <;> rfl) | (simp [*, errW_none, errW_some] <;> rfl), by repeat (first | (with_reducible first | exact HB.out | apply below_alloc | apply pw_below_drewN | apply below_drew1) | exact HB.out)⟩
                            · replace c41 := Bool.eq_false_iff.mpr c41
                              subst c41
                              have H1 : ((integer_Valid.f (⟨#[]⟩ : ByteArray)).bind fun t123 => (if t123 = true then (some false) else ((integer_Compare.f (⟨#[45, 56]⟩ : ByteArray) (⟨#[45, 55]⟩ : ByteArray)).bind fun t124 => (some (decide (t124 < 0)))))) = some r := by rw [if_neg (show ¬ (false = true) by decide)] at H; exact H
                              clear H
                              have H := H1
                              clear H1
                              replace H := Option.bind_eq_some_iff.mp H
                              obtain ⟨t123, A440, H⟩ := H
                              replace H : (if t123 = true then (some false) else ((integer_Compare.f (⟨#[45, 56]⟩ : ByteArray) (⟨#[45, 55]⟩ : ByteArray)).bind fun t124 => (some (decide (t124 < 0))))) = some r := H
                              have A44 := Aside0.mk A440
                              clear A440
                              by_cases c45 : t123 = true
                              · subst c45
                                have H1 : (some false) = some r := by rw [if_pos rfl] at H; exact H
                                clear H
                                have H := H1
                                clear H1
                                obtain rfl := Option.some.inj H
                                go_wp2_with (first | (go_at_call 19; (with_reducible refine (integer_Valid.calls (⟨#[45, 55]⟩ : ByteArray) true _ ?side1 A38.out).mono ?_); (case side1 => exact Laid.on HT.out (by repeat (first | (with_reducible first | exact HB.out | apply below_alloc | apply pw_below_drewN | apply below_drew1) | exact HB.out))); rintro e w46 ⟨rfl, hb⟩; have n0_ := Aside0.mk (below_step (by repeat (first | (with_reducible first | exact HB.out | apply below_alloc | apply pw_below_drewN | apply below_drew1) | exact HB.out)) hb); clear HB; have HB := n0_; clear n0_; (try clear hb); (try clear hb2); (try clear hk); (try clear hi)) | (go_at_call 19; (with_reducible refine (integer_Valid.calls (⟨#[45, 48]⟩ : ByteArray) false _ ?side1 A40.out).mono ?_); (case side1 => exact Laid.on HT.out (by repeat (first | (with_reducible first | exact HB.out | apply below_alloc | apply pw_below_drewN | apply below_drew1) | exact HB.out))); rintro e w47 ⟨rfl, hb⟩; have n0_ := Aside0.mk (below_step (by repeat (first | (with_reducible first | exact HB.out | apply below_alloc | apply pw_below_drewN | apply below_drew1) | exact HB.out)) hb); clear HB; have HB := n0_; clear n0_; (try clear hb); (try clear hb2); (try clear hk); (try clear hi)) | (go_at_call 19; (with_reducible refine (integer_Valid.calls (⟨#[]⟩ : ByteArray) true _ ?side1 A44.out).mono ?_); (case side1 => exact Laid.on HT.out (by repeat (first | (with_reducible first | exact HB.out | apply below_alloc | apply pw_below_drewN | apply below_drew1) | exact HB.out))); rintro e w48 ⟨rfl, hb⟩; have n0_ := Aside0.mk (below_step (by repeat (first | (with_reducible first | exact HB.out | apply below_alloc | apply pw_below_drewN | apply below_drew1) | exact HB.out)) hb); clear HB; have HB := n0_; clear n0_; (try clear hb); (try clear hb2); (try clear hk); (try clear hi)))
                                go_ret
                                exact ⟨by first | rfl | (simp [errW_none, errW_some] <;> rfl) | (simp [*, errW_none, errW_some] <;> rfl), by repeat (first | (with_reducible first | exact HB.out | apply below_alloc | apply pw_below_drewN | apply below_drew1) | exact HB.out)⟩
                              · replace c45 := Bool.eq_false_iff.mpr c45
                                subst c45
                                have H1 : ((integer_Compare.f (⟨#[45, 56]⟩ : ByteArray) (⟨#[45, 55]⟩ : ByteArray)).bind fun t124 => (some (decide (t124 < 0)))) = some r := by rw [if_neg (show ¬ (false = true) by decide)] at H; exact H
                                clear H
                                have H := H1
                                clear H1
                                replace H := Option.bind_eq_some_iff.mp H
                                obtain ⟨t124, A490, H⟩ := H
                                replace H : (some (decide (t124 < 0))) = some r := H
                                have A49 := Aside0.mk A490
                                clear A490
                                obtain rfl := Option.some.inj H
                                go_wp2_with (first | (go_at_call 19; (with_reducible refine (integer_Valid.calls (⟨#[45, 55]⟩ : ByteArray) true _ ?side1 A38.out).mono ?_); (case side1 => exact Laid.on HT.out (by repeat (first | (with_reducible first | exact HB.out | apply below_alloc | apply pw_below_drewN | apply below_drew1) | exact HB.out))); rintro e w50 ⟨rfl, hb⟩; have n0_ := Aside0.mk (below_step (by repeat (first | (with_reducible first | exact HB.out | apply below_alloc | apply pw_below_drewN | apply below_drew1) | exact HB.out)) hb); clear HB; have HB := n0_; clear n0_; (try clear hb); (try clear hb2); (try clear hk); (try clear hi)) | (go_at_call 19; (with_reducible refine (integer_Valid.calls (⟨#[45, 48]⟩ : ByteArray) false _ ?side1 A40.out).mono ?_); (case side1 => exact Laid.on HT.out (by repeat (first | (with_reducible first | exact HB.out | apply below_alloc | apply pw_below_drewN | apply below_drew1) | exact HB.out))); rintro e w51 ⟨rfl, hb⟩; have n0_ := Aside0.mk (below_step (by repeat (first | (with_reducible first | exact HB.out | apply below_alloc | apply pw_below_drewN | apply below_drew1) | exact HB.out)) hb); clear HB; have HB := n0_; clear n0_; (try clear hb); (try clear hb2); (try clear hk); (try clear hi)) | (go_at_call 19; (with_reducible refine (integer_Valid.calls (⟨#[]⟩ : ByteArray) false _ ?side1 A44.out).mono ?_); (case side1 => exact Laid.on HT.out (by repeat (first | (with_reducible first | exact HB.out | apply below_alloc | apply pw_below_drewN | apply below_drew1) | exact HB.out))); rintro e w52 ⟨rfl, hb⟩; have n0_ := Aside0.mk (below_step (by repeat (first | (with_reducible first | exact HB.out | apply below_alloc | apply pw_below_drewN | apply below_drew1) | exact HB.out)) hb); clear HB; have HB := n0_; clear n0_; (try clear hb); (try clear hb2); (try clear hk); (try clear hi)) | (go_at_call 18; (with_reducible refine (integer_Compare.calls (⟨#[45, 56]⟩ : ByteArray) (⟨#[45, 55]⟩ : ByteArray) t124 _ ?side1 A49.out).mono ?_); (case side1 => exact Laid.on HT.out (by repeat (first | (with_reducible first | exact HB.out | apply below_alloc | apply pw_below_drewN | apply below_drew1) | exact HB.out))); rintro e w53 ⟨rfl, hb⟩; have n0_ := Aside0.mk (below_step (by repeat (first | (with_reducible first | exact HB.out | apply below_alloc | apply pw_below_drewN | apply below_drew1) | exact HB.out)) hb); clear HB; have HB := n0_; clear n0_; (try clear hb); (try clear hb2); (try clear hk); (try clear hi)))
                                go_ret
                                exact ⟨by first | rfl | (simp [errW_none, errW_some] <;> rfl) | (simp [*, errW_none, errW_some] <;> rfl), by repeat (first | (with_reducible first | exact HB.out | apply below_alloc | apply pw_below_drewN | apply below_drew1) | exact HB.out)⟩
                          · replace c39 := Bool.eq_false_iff.mpr c39
                            subst c39
                            have H1 : (some false) = some r := by rw [if_neg (show ¬ (false = true) by decide)] at H; exact H
                            clear H
                            have H := H1
                            clear H1
                            obtain rfl := Option.some.inj H
                            go_wp2_with (first | (go_at_call 19; (with_reducible refine (integer_Valid.calls (⟨#[45, 55]⟩ : ByteArray) false _ ?side1 A38.out).mono ?_); (case side1 => exact Laid.on HT.out (by repeat (first | (with_reducible first | exact HB.out | apply below_alloc | apply pw_below_drewN | apply below_drew1) | exact HB.out))); rintro e w54 ⟨rfl, hb⟩; have n0_ := Aside0.mk (below_step (by repeat (first | (with_reducible first | exact HB.out | apply below_alloc | apply pw_below_drewN | apply below_drew1) | exact HB.out)) hb); clear HB; have HB := n0_; clear n0_; (try clear hb); (try clear hb2); (try clear hk); (try clear hi)))
                            go_ret
                            exact ⟨by first | rfl | (simp [errW_none, errW_some] <;> rfl) | (simp [*, errW_none, errW_some] <;> rfl), by repeat (first | (with_reducible first | exact HB.out | apply below_alloc | apply pw_below_drewN | apply below_drew1) | exact HB.out)⟩
                        · rw [if_neg c37] at H
                          have c37b0 : (t115.toList == ([57] : List UInt8)) = false := beq_eq_false_iff_ne.mpr c37
                          have c37b1 : (t115.toList != ([57] : List UInt8)) = true := bne_iff_ne.mpr c37
                          obtain rfl := Option.some.inj H
                          go_wp2
                          go_ret
                          exact ⟨by first | rfl | (simp [errW_none, errW_some] <;> rfl) | (simp [*, errW_none, errW_some] <;> rfl), by repeat (first | (with_reducible first | exact HB.out | apply below_alloc | apply pw_below_drewN | apply below_drew1) | exact HB.out)⟩
                      · rw [if_neg c36] at H
                        have c36b0 : (t113.toList == ([54] : List UInt8)) = false := beq_eq_false_iff_ne.mpr c36
                        have c36b1 : (t113.toList != ([54] : List UInt8)) = true := bne_iff_ne.mpr c36
                        obtain rfl := Option.some.inj H
                        go_wp2
                        go_ret
                        exact ⟨by first | rfl | (simp [errW_none, errW_some] <;> rfl) | (simp [*, errW_none, errW_some] <;> rfl), by repeat (first | (with_reducible first | exact HB.out | apply below_alloc | apply pw_below_drewN | apply below_drew1) | exact HB.out)⟩
                    · rw [if_neg c35] at H
                      have c35b0 : (t111.toList == ([49] : List UInt8)) = false := beq_eq_false_iff_ne.mpr c35
                      have c35b1 : (t111.toList != ([49] : List UInt8)) = true := bne_iff_ne.mpr c35
                      obtain rfl := Option.some.inj H
                      go_wp2
                      go_ret
                      exact ⟨by first | rfl | (simp [errW_none, errW_some] <;> rfl) | (simp [*, errW_none, errW_some] <;> rfl), by repeat (first | (with_reducible first | exact HB.out | apply below_alloc | apply pw_below_drewN | apply below_drew1) | exact HB.out)⟩
                  · rw [if_neg c34] at H
                    have c34b0 : (t110.toList == ([52] : List UInt8)) = false := beq_eq_false_iff_ne.mpr c34
                    have c34b1 : (t110.toList != ([52] : List UInt8)) = true := bne_iff_ne.mpr c34
                    obtain rfl := Option.some.inj H
                    go_wp2
                    go_ret
                    exact ⟨by first | rfl | (simp [errW_none, errW_some] <;> rfl) | (simp [*, errW_none, errW_some] <;> rfl), by repeat (first | (with_reducible first | exact HB.out | apply below_alloc | apply pw_below_drewN | apply below_drew1) | exact HB.out)⟩
                · rw [if_neg c33] at H
                  have c33b0 : (t108.toList == ([49] : List UInt8)) = false := beq_eq_false_iff_ne.mpr c33
                  have c33b1 : (t108.toList != ([49] : List UInt8)) = true := bne_iff_ne.mpr c33
                  obtain rfl := Option.some.inj H
                  go_wp2
                  go_ret
                  exact ⟨by first | rfl | (simp [errW_none, errW_some] <;> rfl) | (simp [*, errW_none, errW_some] <;> rfl), by repeat (first | (with_reducible first | exact HB.out | apply below_alloc | apply pw_below_drewN | apply below_drew1) | exact HB.out)⟩
              · rw [if_neg c32] at H
                have c32b0 : (t107.toList == ([45, 52] : List UInt8)) = false := beq_eq_false_iff_ne.mpr c32
                have c32b1 : (t107.toList != ([45, 52] : List UInt8)) = true := bne_iff_ne.mpr c32
                obtain rfl := Option.some.inj H
                go_wp2
                go_ret
                exact ⟨by first | rfl | (simp [errW_none, errW_some] <;> rfl) | (simp [*, errW_none, errW_some] <;> rfl), by repeat (first | (with_reducible first | exact HB.out | apply below_alloc | apply pw_below_drewN | apply below_drew1) | exact HB.out)⟩
            · rw [if_neg c31] at H
              have c31b0 : (t105.toList == ([45, 49, 52, 52] : List UInt8)) = false := beq_eq_false_iff_ne.mpr c31
              have c31b1 : (t105.toList != ([45, 49, 52, 52] : List UInt8)) = true := bne_iff_ne.mpr c31
              obtain rfl := Option.some.inj H
              go_wp2
              go_ret
              exact ⟨by first | rfl | (simp [errW_none, errW_some] <;> rfl) | (simp [*, errW_none, errW_some] <;> rfl), by repeat (first | (with_reducible first | exact HB.out | apply below_alloc | apply pw_below_drewN | apply below_drew1) | exact HB.out)⟩
          · rw [if_neg c30] at H
            have c30b0 : (t103.toList == ([45, 57, 57, 57] : List UInt8)) = false := beq_eq_false_iff_ne.mpr c30
            have c30b1 : (t103.toList != ([45, 57, 57, 57] : List UInt8)) = true := bne_iff_ne.mpr c30
            obtain rfl := Option.some.inj H
            go_wp2
            go_ret
            exact ⟨by first | rfl | (simp [errW_none, errW_some] <;> rfl) | (simp [*, errW_none, errW_some] <;> rfl), by repeat (first | (with_reducible first | exact HB.out | apply below_alloc | apply pw_below_drewN | apply below_drew1) | exact HB.out)⟩
        · rw [if_neg c29] at H
          have c29b0 : (t101.toList == ([49, 48, 48, 48] : List UInt8)) = false := beq_eq_false_iff_ne.mpr c29
          have c29b1 : (t101.toList != ([49, 48, 48, 48] : List UInt8)) = true := bne_iff_ne.mpr c29
          obtain rfl := Option.some.inj H
          go_wp2
          go_ret
          exact ⟨by first | rfl | (simp [errW_none, errW_some] <;> rfl) | (simp [*, errW_none, errW_some] <;> rfl), by repeat (first | (with_reducible first | exact HB.out | apply below_alloc | apply pw_below_drewN | apply below_drew1) | exact HB.out)⟩
      · replace c28 := Bool.eq_false_iff.mpr c28
        subst c28
        have H1 : (some false) = some r := by rw [if_neg (show ¬ (false = true) by decide)] at H; exact H
        clear H
        have H := H1
        clear H1
        obtain rfl := Option.some.inj H
        go_wp2
        go_ret
        exact ⟨by first | rfl | (simp [errW_none, errW_some] <;> rfl) | (simp [*, errW_none, errW_some] <;> rfl), by repeat (first | (with_reducible first | exact HB.out | apply below_alloc | apply pw_below_drewN | apply below_drew1) | exact HB.out)⟩

/-! ### newswireref03_text: function 36 -/
mutual
def newswireref03_text.j0 : Nat → List Int → List Int → Option (ByteArray × Bool)
  | 0, _, _ => none
  | k + 1, x1, x6 => newswireref03_text.l0 k x1 x6 (wrap64 ((x1.length : Int) - 1))
def newswireref03_text.l0 : Nat → List Int → List Int → Int → Option (ByteArray × Bool)
  | 0, _, _, _ => none
  | k + 1, x1, x6, x7 => if x7 ≥ 0 then (if 0 ≤ x7 then (if x7 < (x1.length : Int) then (if x6.length < 140737488355328 then (newswireref03_text.l0 k x1 (x6 ++ [(wrap64 (48 + (rd x1 x7))) % 256]) (wrap64 (x7 - 1))) else (none)) else (none)) else (none)) else (some (strOfNums x6, decide ((x1.length : Int) ≤ 200)))
end
def newswireref03_text.f (k : Nat) (a0 : Bool) (l1 : List Int) : Option (ByteArray × Bool) := if (l1.length : Int) = 0 then (some ((⟨#[48]⟩ : ByteArray), true)) else (if a0 = true then (if ([] : List Int).length < 140737488355328 then (newswireref03_text.j0 k l1 (([] : List Int) ++ [45])) else (none)) else (newswireref03_text.j0 k l1 ([] : List Int)))
set_option maxHeartbeats 8000000 in
set_option maxRecDepth 100000 in
theorem newswireref03_text.calls (k : Nat) (a0 : Bool) (A1 : Option Addr) (c1 : Nat) (l1 : List Int) (r1 : ByteArray) (r2 : Bool) (w : World) (hr1 : Kd.C (Kd.int .i64) w A1 l1.length l1) (hc1 : l1.length ≤ c1) (h : newswireref03_text.f k a0 l1 = some (r1, r2)) :
    Calls Tryz.prog 36 #[.bool a0, .slice A1 l1.length c1] w fun e w' => e = .returned (.tuple #[.string r1, .bool r2]) ∧ Below w.heap.size w w' := by
  have HR1 := Aside0.mk hr1
  have HC1 := Aside0.mk hc1
  clear hr1 hc1
  have HB := Aside0.mk (Below.refl w.heap.size w)
  have H : (if (l1.length : Int) = 0 then (some ((⟨#[48]⟩ : ByteArray), true)) else (if a0 = true then (if ([] : List Int).length < 140737488355328 then (newswireref03_text.j0 k l1 (([] : List Int) ++ [45])) else (none)) else (newswireref03_text.j0 k l1 ([] : List Int)))) = some (r1, r2) := h
  clear h
  by_cases c3 : (l1.length : Int) = 0
  · rw [if_pos c3] at H
    have c3b0 : ((l1.length : Int) == 0) = true := beq_iff_eq.mpr c3
    have c3b1 : ((l1.length : Int) != 0) = false := bne_eq_false_iff_eq.mpr c3
    clear c3
    simp only [Option.some.injEq, Prod.mk.injEq] at H
    obtain ⟨rfl, rfl⟩ := H
    go_enter Tryz.func36, Tryz.ntmps36
    go_wp2
    go_ret2
    exact ⟨by first | rfl | (simp [errW_none, errW_some] <;> rfl) | (simp [*, errW_none, errW_some] <;> rfl), by repeat (first | (with_reducible first | exact HB.out | apply below_alloc | apply pw_below_drewN | apply below_drew1) | exact HB.out)⟩
  · rw [if_neg c3] at H
    have c3b0 : ((l1.length : Int) == 0) = false := beq_eq_false_iff_ne.mpr c3
    have c3b1 : ((l1.length : Int) != 0) = true := bne_iff_ne.mpr c3
    have c3b2 : ¬ (l1 = []) := fun h_ => c3 (by rw [h_]; rfl)
    have HC4 := Aside0.mk H
    clear H
    go_enter Tryz.func36, Tryz.ntmps36
    go_upto_if 11 with (fail)
    go_cut [6] (fun v6 wc => ∃ (kq : Nat) (x6_3 : List Int), Aside0 (newswireref03_text.j0 kq l1 x6_3 = some (r1, r2)) ∧ Aside0 (kq ≤ k) ∧ Aside0 (Kd.R (Kd.int .u8) 5 wc w.heap.size (fun _ => True) v6 x6_3) ∧ Aside0 (Below w.heap.size w wc))
    case first =>
      have H := HC4.out
      clear HC4
      by_cases c5 : a0 = true
      · subst c5
        have H1 : (if ([] : List Int).length < 140737488355328 then (newswireref03_text.j0 k l1 (([] : List Int) ++ [45])) else (none)) = some (r1, r2) := by rw [if_pos rfl] at H; exact H
        clear H
        have H := H1
        clear H1
        by_cases c6 : ([] : List Int).length < 140737488355328
        · rw [if_pos c6] at H
          have LMc6 := Aside0.mk c6
          clear c6
          obtain ⟨y125, hy125⟩ : ∃ y_ : List Int, y_ = (([] : List Int) ++ [45]) := ⟨_, rfl⟩
          replace H : (newswireref03_text.j0 k l1 y125) = some (r1, r2) := by first | (rw [hy125]; with_reducible exact H) | (have H2_ := (Option.bind_some _ _).symm.trans H; rw [hy125]; with_reducible exact H2_) | (have H2_ := (Option.bind_some _ _).symm.trans H; with_reducible exact H2_) | with_reducible exact H | (rw [hy125]; exact H) | exact H
          have Ny125 := Aside0.mk hy125
          clear hy125
          have H' := Aside0.mk H
          clear H
          go_wp2_with (first | ((with_reducible refine gate_builtin (b := .append) (xs := #[.tmp 12, .tmp 13]) rfl ?_); at_builtin; refine Kd.R_append (Kd.int .u8) (w0 := w) w.heap.size rfl (.tmp 12) (.tmp 13) 72 5 (.int .u8 0) 1 rfl Tryz.underlying72 info5 rfl (by decide) (by omega) (.slice none 0 0) ([] : List Int) 45 [.int .u8 45] (fun _ => True) (fun _ => False) rfl rfl ?aP (fun _ hk => hk.elim) ?aF ?aO ?aB ?aS ?aL ?_; (case aP => exact rfl); (case aB => exact (by repeat (first | (with_reducible first | exact HB.out | apply below_alloc | apply pw_below_drewN | apply below_drew1) | exact HB.out))); (case aF => exact (fun _ _ => trivial)); (case aO => exact ((Kd.R_nil _ _ _ _ (fun _ => True)))); (case aS => exact (below_size (by repeat (first | (with_reducible first | exact HB.out | apply below_alloc | apply pw_below_drewN | apply below_drew1) | exact HB.out)))); (case aL => have := LMc6.out; omega); intro v126 w7 ho hb hg hat; rw [← Ny125.out] at ho; have n0_ := Aside0.mk (hb); have n1_ := Aside0.mk (ho); clear HB; have HB := n0_; have HO127 := n1_; clear n0_ n1_; clear ho hb hg hat))
          go_meet
          case rel => exact ⟨_, (y125), H', ⟨by first | omega | exact Nat.le_refl _⟩, ⟨by (with_reducible repeat (first | apply Kd.R_alloc | apply Kd.R_drewN | apply Kd.R_drew)); exact HO127.out⟩, ⟨by repeat (first | (with_reducible first | exact HB.out | apply below_alloc | apply pw_below_drewN | apply below_drew1) | exact HB.out)⟩⟩
        · rw [if_neg c6] at H
          exact absurd H (by simp)
      · replace c5 := Bool.eq_false_iff.mpr c5
        subst c5
        have H1 : (newswireref03_text.j0 k l1 ([] : List Int)) = some (r1, r2) := by rw [if_neg (show ¬ (false = true) by decide)] at H; exact H
        clear H
        have H := H1
        clear H1
        have H' := Aside0.mk H
        clear H
        go_wp2
        go_meet
        case rel => exact ⟨_, (([] : List Int)), H', ⟨by first | omega | exact Nat.le_refl _⟩, ⟨by first | exact Kd.R_nil _ _ _ _ _ | exact Kd.N_nil _ _ _ _ _ | exact Kd.V_nil _ _ _ _ _ | exact Kd.Q_nil _ _ _ _ _ | exact Kd.S_nil _ _ _ _ _⟩, ⟨by repeat (first | (with_reducible first | exact HB.out | apply below_alloc | apply pw_below_drewN | apply below_drew1) | exact HB.out)⟩⟩
    case rest =>
      clear HC4
      try clear c1
      try clear p2
      try clear c3
      try clear c3b0
      try clear c3b1
      try clear c3b2
      try clear c5
      try clear c6
      obtain ⟨kq, x6_3, HA, HJ3, HO_6, HB⟩ := hcut
      cases kq with
      | zero => exact absurd HA.out (by simp [newswireref03_text.j0])
      | succ kj3 =>
        have H := HA.out
        clear HA
        simp only [newswireref03_text.j0] at H
        have H' := Aside0.mk H
        clear H
        go_wp2
        go_loopg [6, 7] kj3 (fun kq v6 v7 w' => ∃ (x6_2 : List Int) (x7_2 : Int), v7 = .int .i64 x7_2 ∧ Aside0 (newswireref03_text.l0 kq l1 x6_2 x7_2 = some (r1, r2)) ∧ Aside0 (kq ≤ kj3) ∧ Aside0 (Kd.R (Kd.int .u8) 5 w' w.heap.size (fun _ => True) v6 x6_2) ∧ Aside0 (Below w.heap.size w w'))
        case atStart => exact ⟨(x6_3), (wrap64 ((l1.length : Int) - 1)), (by first | rfl | (simp; done) | (simp [*]; done)), H', ⟨Nat.le_refl _⟩, ⟨by (with_reducible repeat (first | apply Kd.R_alloc | apply Kd.R_drewN | apply Kd.R_drew)); exact HO_6.out⟩, ⟨by repeat (first | (with_reducible first | exact HB.out | apply below_alloc | apply pw_below_drewN | apply below_drew1) | exact HB.out)⟩⟩
        case round =>
          clear H'
          try clear c1
          try clear p2
          try clear c3
          try clear c3b0
          try clear c3b1
          try clear c3b2
          try clear c5
          try clear c6
          try clear p6
          try clear p2
          obtain ⟨x6_2, x7_2, rfl, HA, HK2, HO_6, HB⟩ := hrel
          cases gk with
          | zero => exact absurd HA.out (by simp [newswireref03_text.l0])
          | succ k2 =>
            have H := HA.out
            clear HA
            simp only [newswireref03_text.l0] at H
            by_cases c8 : x7_2 ≥ 0
            · rw [if_pos c8] at H
              have c8b0 : decide (0 ≤ x7_2) = true := decide_eq_true c8
              clear c8
              by_cases c9 : 0 ≤ x7_2
              · rw [if_pos c9] at H
                have c9b0 : decide (0 ≤ x7_2) = true := decide_eq_true c9
                clear c9
                by_cases c10 : x7_2 < (l1.length : Int)
                · rw [if_pos c10] at H
                  have c10b0 : decide (x7_2 < (l1.length : Int)) = true := decide_eq_true c10
                  clear c10
                  by_cases c11 : x6_2.length < 140737488355328
                  · rw [if_pos c11] at H
                    have LMc11 := Aside0.mk c11
                    clear c11
                    obtain ⟨y129, hy129⟩ : ∃ y_ : List Int, y_ = (x6_2 ++ [(wrap64 (48 + (rd l1 x7_2))) % 256]) := ⟨_, rfl⟩
                    replace H : (newswireref03_text.l0 k2 l1 y129 (wrap64 (x7_2 - 1))) = some (r1, r2) := by first | (rw [hy129]; with_reducible exact H) | (have H2_ := (Option.bind_some _ _).symm.trans H; rw [hy129]; with_reducible exact H2_) | (have H2_ := (Option.bind_some _ _).symm.trans H; with_reducible exact H2_) | with_reducible exact H | (rw [hy129]; exact H) | exact H
                    have Ny129 := Aside0.mk hy129
                    clear hy129
                    have H' := Aside0.mk H
                    clear H
                    have p128 : 0 ≤ (x7_2 : Int) := of_decide_eq_true (by first | (with_reducible assumption) | assumption)
                    have q128 : x7_2 < (l1.length : Int) := of_decide_eq_true (by first | (with_reducible assumption) | assumption)
                    obtain ⟨ad128, e128, hx128_0⟩ := Kd.at_int HR1.out x7_2 p128 q128
                    cases e128
                    replace hx128_0 := (HB.out.cell (World.block_lt_of_cell? w _ hx128_0)).trans hx128_0
                    replace p128 := eq_true p128
                    replace q128 := eq_true q128
                    go_wp2_with (first | ((with_reducible refine gate_builtin (b := .append) (xs := #[.tmp 22, .tmp 29]) rfl ?_); at_builtin; refine Kd.R_append (Kd.int .u8) (w0 := w) w.heap.size rfl (.tmp 22) (.tmp 29) 72 5 (.int .u8 0) 1 rfl Tryz.underlying72 info5 rfl (by decide) (by omega) u6 x6_2 ((wrap64 (48 + (rd l1 x7_2))) % 256) [.int .u8 ((wrap64 (48 + (rd l1 x7_2))) % 256)] (fun _ => True) (fun _ => False) rfl rfl ?aP (fun _ hk => hk.elim) ?aF ?aO ?aB ?aS ?aL ?_; (case aP => exact rfl); (case aB => exact (by repeat (first | (with_reducible first | exact HB.out | apply below_alloc | apply pw_below_drewN | apply below_drew1) | exact HB.out))); (case aF => exact (fun _ _ => trivial)); (case aO => exact (by (with_reducible repeat (first | apply Kd.R_alloc | apply Kd.R_drewN | apply Kd.R_drew)); exact HO_6.out)); (case aS => exact (below_size (by repeat (first | (with_reducible first | exact HB.out | apply below_alloc | apply pw_below_drewN | apply below_drew1) | exact HB.out)))); (case aL => have := LMc11.out; omega); intro v130 w12 ho hb hg hat; rw [← Ny129.out] at ho; have n0_ := Aside0.mk (hb); have n1_ := Aside0.mk (ho); clear HB; clear HO_6; have HB := n0_; have HO131 := n1_; clear n0_ n1_; clear ho hb hg hat))
                    go_roundg k2
                    case measure => have := HJ3.out; have := HK2.out; omega
                    case rel => exact ⟨(y129), (wrap64 (x7_2 - 1)), (by first | rfl | (simp; done) | (simp [*]; done)), H', ⟨by have := HJ3.out; have := HK2.out; omega⟩, ⟨by (with_reducible repeat (first | apply Kd.R_alloc | apply Kd.R_drewN | apply Kd.R_drew)); exact HO131.out⟩, ⟨by repeat (first | (with_reducible first | exact HB.out | apply below_alloc | apply pw_below_drewN | apply below_drew1) | exact HB.out)⟩⟩
                  · rw [if_neg c11] at H
                    exact absurd H (by simp)
                · rw [if_neg c10] at H
                  exact absurd H (by simp)
              · rw [if_neg c9] at H
                exact absurd H (by simp)
            · rw [if_neg c8] at H
              have c8b0 : decide (0 ≤ x7_2) = false := decide_eq_false c8
              clear c8
              simp only [Option.some.injEq, Prod.mk.injEq] at H
              obtain ⟨rfl, rfl⟩ := H
              have hcv13 := own_string (P := Tryz.prog) Tryz.underlying72 Tryz.underlying5 Tryz.underlying9 (Kd.own_of_R HO_6.out)
              go_wp2
              go_ret2
              exact ⟨by first | rfl | (simp [errW_none, errW_some] <;> rfl) | (simp [*, errW_none, errW_some] <;> rfl), by repeat (first | (with_reducible first | exact HB.out | apply below_alloc | apply pw_below_drewN | apply below_drew1) | exact HB.out)⟩

/-! ### newswireref03_trim: function 37 -/
def newswireref03_trim.l0 : Nat → List Int → Option (List Int)
  | 0, _ => none
  | k + 1, x0 => if (x0.length : Int) > 0 then (if 0 ≤ (wrap64 ((x0.length : Int) - 1)) then (if (wrap64 ((x0.length : Int) - 1)) < (x0.length : Int) then (if (rd x0 (wrap64 ((x0.length : Int) - 1))) = 0 then (if (wrap64 ((x0.length : Int) - 1)) ≤ (x0.length : Int) then (newswireref03_trim.l0 k (x0.take ((wrap64 ((x0.length : Int) - 1)) : Int).toNat)) else (none)) else (some x0)) else (none)) else (none)) else (some x0)
def newswireref03_trim.f (k : Nat) (l0 : List Int) : Option (List Int) := newswireref03_trim.l0 k l0
set_option maxHeartbeats 8000000 in
set_option maxRecDepth 100000 in
theorem newswireref03_trim.calls (k : Nat) (P0_ : Nat → Prop) (A0 : Option Addr) (c0 : Nat) (l0 : List Int) (r : List Int) (w : World) (hs0 : Kd.V (Kd.int .i64) 3 w w.heap.size (fun k_ => P0_ k_) (.slice A0 l0.length c0) l0) (h : newswireref03_trim.f k l0 = some r) :
    Calls Tryz.prog 37 #[.slice A0 l0.length c0] w fun e w' => ∃ v0_ : Value, e = .returned (v0_) ∧ Kd.V (Kd.int .i64) 3 w' w.heap.size (fun k_ => (P0_ k_ ∨ w.heap.size ≤ k_)) v0_ r ∧ Below w.heap.size w w' := by
  have HO0 := Aside0.mk (show Kd.V (Kd.int .i64) 3 w w.heap.size (fun k_ => (P0_ k_ ∨ w.heap.size ≤ k_)) (.slice A0 l0.length c0) l0 from Kd.V_mono hs0 (fun k_ hk => .inl hk))
  have HB := Aside0.mk (Below.refl w.heap.size w)
  have H : (newswireref03_trim.l0 k l0) = some r := h
  clear h
  have H' := Aside0.mk H
  clear H
  go_enter Tryz.func37, Tryz.ntmps37
  go_wp2
  go_loopg [0] k (fun kq v0 w' => ∃ (x0_1 : List Int), Aside0 (newswireref03_trim.l0 kq x0_1 = some r) ∧ Aside0 (kq ≤ k) ∧ Aside0 (Kd.V (Kd.int .i64) 3 w' w.heap.size (fun k_ => (P0_ k_ ∨ w.heap.size ≤ k_)) v0 x0_1) ∧ Aside0 (Below w.heap.size w w'))
  case atStart => exact ⟨(l0), H', ⟨Nat.le_refl _⟩, ⟨by (with_reducible repeat (first | apply Kd.V_alloc | apply Kd.V_drewN | apply Kd.V_drew)); exact HO0.out⟩, ⟨by repeat (first | (with_reducible first | exact HB.out | apply below_alloc | apply pw_below_drewN | apply below_drew1) | exact HB.out)⟩⟩
  case round =>
    clear H'
    obtain ⟨x0_1, HA, HK1, HO_0, HB⟩ := hrel
    cases gk with
    | zero => exact absurd HA.out (by simp [newswireref03_trim.l0])
    | succ k1 =>
      have H := HA.out
      clear HA
      simp only [newswireref03_trim.l0] at H
      by_cases c2 : (x0_1.length : Int) > 0
      · rw [if_pos c2] at H
        have c2b0 : decide (0 < (x0_1.length : Int)) = true := decide_eq_true c2
        have c2b1 : decide (0 < x0_1.length) = true := decide_eq_true (by omega)
        clear c2
        obtain ⟨ji3, hji3⟩ : ∃ j_ : Int, (wrap64 ((x0_1.length : Int) - 1)) = j_ := ⟨_, rfl⟩
        replace H : (if 0 ≤ (ji3) then (if (ji3) < (x0_1.length : Int) then (if (rd x0_1 (ji3)) = 0 then (if (ji3) ≤ (x0_1.length : Int) then (newswireref03_trim.l0 k1 (x0_1.take ((ji3) : Int).toNat)) else (none)) else (some x0_1)) else (none)) else (none)) = some r := by first | (rw [hji3] at H; exact H) | (simp only [hji3] at H ⊢; exact H)
        have hji3w : (IntKind.i64.wrap ((x0_1.length : Int) - 1)) = ji3 := (i64_w _).trans hji3
        by_cases c4 : 0 ≤ (ji3)
        · rw [if_pos c4] at H
          have c4b0 : decide (0 ≤ (ji3)) = true := decide_eq_true c4
          clear c4
          by_cases c5 : (ji3) < (x0_1.length : Int)
          · rw [if_pos c5] at H
            have c5b0 : decide ((ji3) < (x0_1.length : Int)) = true := decide_eq_true c5
            clear c5
            by_cases c6 : (rd x0_1 (ji3)) = 0
            · rw [if_pos c6] at H
              have c6b0 : ((rd x0_1 (ji3)) == 0) = true := beq_iff_eq.mpr c6
              have c6b1 : ((rd x0_1 (ji3)) != 0) = false := bne_eq_false_iff_eq.mpr c6
              clear c6
              have c7b0 := eq_true (of_decide_eq_true (by first | (with_reducible assumption) | assumption) : 0 ≤ (ji3))
              by_cases c8 : (ji3) ≤ (x0_1.length : Int)
              · rw [if_pos c8] at H
                have c8b0 := eq_true c8
                have c8b1 : decide ((ji3) ≤ (x0_1.length : Int)) = true := decide_eq_true c8
                clear c8
                obtain ⟨y133, hy133⟩ : ∃ y_ : List Int, y_ = (x0_1.take ((ji3) : Int).toNat) := ⟨_, rfl⟩
                replace H : (newswireref03_trim.l0 k1 y133) = some r := by first | (rw [hy133]; with_reducible exact H) | (have H2_ := (Option.bind_some _ _).symm.trans H; rw [hy133]; with_reducible exact H2_) | (have H2_ := (Option.bind_some _ _).symm.trans H; with_reducible exact H2_) | with_reducible exact H | (rw [hy133]; exact H) | exact H
                have Ny133 := Aside0.mk hy133
                clear hy133
                have H' := Aside0.mk H
                clear H
                obtain ⟨Ao9, co9, eo9⟩ := Kd.V_slice HO_0.out
                subst eo9
                have p132 : 0 ≤ ((ji3) : Int) := of_decide_eq_true (by first | (with_reducible assumption) | assumption)
                have q132 : (ji3) < (x0_1.length : Int) := of_decide_eq_true (by first | (with_reducible assumption) | assumption)
                obtain ⟨ad132, e132, hx132_0⟩ := Kd.at_int (Kd.V_reads' HO_0.out).2.2 (ji3) p132 q132
                cases e132
                replace p132 := eq_true p132
                replace q132 := eq_true q132
                have q10 : ((ji3) : Int) ≤ ((x0_1.length : Int) : Int) := of_decide_eq_true (by first | (with_reducible assumption) | assumption)
                obtain ⟨i010, hi010, _, hsz10, _⟩ := info_parts info3
                have hroom10 : x0_1.length ≤ co9 := (Kd.V_reads' HO_0.out).2.1
                have hC10 : Kd.F (Kd.int .i64) _ _ (some ad132) x0_1.length x0_1 := (Kd.V_at (base := w.heap.size) HO_0.out).2.2
                have hcut10 := cut_to (P := Tryz.prog) 44 3 .i64 Tryz.underlying44 hi010 (some ad132) x0_1.length co9 (ji3) (of_decide_eq_true (by first | (with_reducible assumption) | assumption)) q10 hroom10
                have hr10 := Kd.F_take (m := ((ji3) : Int).toNat) hC10 (by omega)
                have hy10 : y133.length = ((ji3) : Int).toNat := (by rw [Ny133.out, List.length_take]; omega)
                rw [← Ny133.out] at hr10
                rw [← hy10] at hcut10
                have HO137 := Aside0.mk (show Kd.V (Kd.int .i64) 3 _ w.heap.size _ (.slice (some ad132) y133.length co9) y133 from Kd.V_mk (by omega) hr10)
                have HC137 := Aside0.mk (show y133.length ≤ co9 from by omega)
                clear hr10 hC10 hroom10 hi010 hsz10
                have KY10 := Aside0.mk hy10
                clear hy10
                replace q10 := eq_true q10
                go_wp2
                go_roundg k1
                case measure => have := HK1.out; omega
                case rel => exact ⟨(y133), H', ⟨by have := HK1.out; omega⟩, ⟨by (with_reducible repeat (first | apply Kd.V_alloc | apply Kd.V_drewN | apply Kd.V_drew)); exact HO137.out⟩, ⟨by repeat (first | (with_reducible first | exact HB.out | apply below_alloc | apply pw_below_drewN | apply below_drew1) | exact HB.out)⟩⟩
              · rw [if_neg c8] at H
                exact absurd H (by simp)
            · rw [if_neg c6] at H
              have c6b0 : ((rd x0_1 (ji3)) == 0) = false := beq_eq_false_iff_ne.mpr c6
              have c6b1 : ((rd x0_1 (ji3)) != 0) = true := bne_iff_ne.mpr c6
              obtain rfl := Option.some.inj H
              obtain ⟨Ao11, co11, eo11⟩ := Kd.V_slice HO_0.out
              subst eo11
              have p132 : 0 ≤ ((ji3) : Int) := of_decide_eq_true (by first | (with_reducible assumption) | assumption)
              have q132 : (ji3) < (x0_1.length : Int) := of_decide_eq_true (by first | (with_reducible assumption) | assumption)
              obtain ⟨ad132, e132, hx132_0⟩ := Kd.at_int (Kd.V_reads' HO_0.out).2.2 (ji3) p132 q132
              cases e132
              replace p132 := eq_true p132
              replace q132 := eq_true q132
              go_wp2
              go_ret
              exact ⟨_, by first | rfl | (simp [errW_none, errW_some] <;> rfl) | (simp only [← hji3]; first | rfl | (simp [errW_none, errW_some] <;> rfl)) | (simp [*, errW_none, errW_some] <;> rfl), by (with_reducible repeat (first | apply Kd.V_alloc | apply Kd.V_drewN | apply Kd.V_drew)); exact HO_0.out, by repeat (first | (with_reducible first | exact HB.out | apply below_alloc | apply pw_below_drewN | apply below_drew1) | exact HB.out)⟩
          · rw [if_neg c5] at H
            exact absurd H (by simp)
        · rw [if_neg c4] at H
          exact absurd H (by simp)
      · rw [if_neg c2] at H
        have c2b0 : decide (0 < (x0_1.length : Int)) = false := decide_eq_false c2
        have c2b1 : decide (0 < x0_1.length) = false := decide_eq_false (by omega)
        clear c2
        obtain rfl := Option.some.inj H
        obtain ⟨Ao12, co12, eo12⟩ := Kd.V_slice HO_0.out
        subst eo12
        go_wp2
        go_ret
        exact ⟨_, by first | rfl | (simp [errW_none, errW_some] <;> rfl) | (simp [*, errW_none, errW_some] <;> rfl), by (with_reducible repeat (first | apply Kd.V_alloc | apply Kd.V_drewN | apply Kd.V_drew)); exact HO_0.out, by repeat (first | (with_reducible first | exact HB.out | apply below_alloc | apply pw_below_drewN | apply below_drew1) | exact HB.out)⟩

end Go.Proofs.YthbiafjdilbbnaaGreatDoor.PI
