-- Printed by a program of this session's own, over the kit's print: functions of the program as plain functions, and their calls' contracts.
import Derived.Test.YthbiafjdilbbnaaGreatDoorCPIx0
import Derived.Test.YthbiafjdilbbnaaGreatDoorCPIx1
set_option linter.unusedVariables false
set_option linter.unusedSimpArgs false
namespace Go.Proofs.YthbiafjdilbbnaaGreatDoor.PI
open Go.RowKit Go.Proofs.YthbiafjdilbbnaaGreatDoorW.PrintWords Go.Proofs.YthbiafjdilbbnaaGreatDoorW.PrintLast Go.Proofs.YthbiafjdilbbnaaGreatDoorW.PrintMore
attribute [local go_sem] max2_int min2_int max_two min_two max_three min_three max_four min_four   -- for this text's walks alone
set_option linter.unusedVariables false
set_option linter.unusedSimpArgs false

/-! ### newswirelaw03_IntegerMachine: function 10 -/
mutual
def newswirelaw03_IntegerMachine.j0 : Nat → Bool → Int → Int → ByteArray → ByteArray → Bool → Option (Bool)
  | 0, _, _, _, _, _, _ => none
  | k + 1, x5, x6, x7, x8, x9, x98 => if x98 = true then (some false) else (if x6 < x7 then (newswirelaw03_IntegerMachine.j1 k x5 x6 x7 x8 x9 (-1)) else (newswirelaw03_IntegerMachine.j1 k x5 x6 x7 x8 x9 0))
def newswirelaw03_IntegerMachine.j1 : Nat → Bool → Int → Int → ByteArray → ByteArray → Int → Option (Bool)
  | 0, _, _, _, _, _, _ => none
  | k + 1, x5, x6, x7, x8, x9, x18 => if x6 > x7 then (newswirelaw03_IntegerMachine.j2 k x5 x6 x7 x8 x9 1) else (newswirelaw03_IntegerMachine.j2 k x5 x6 x7 x8 x9 x18)
def newswirelaw03_IntegerMachine.j2 : Nat → Bool → Int → Int → ByteArray → ByteArray → Int → Option (Bool)
  | 0, _, _, _, _, _, _ => none
  | k + 1, x5, x6, x7, x8, x9, x18 => (integer_Compare.f x8 x9).bind fun t491 => (if t491 = x18 then ((integer_Div.f x8 x9).bind fun bt492 => (if x7 = 0 then (if x5 = true then (if bt492.2.2 = 30 then (if bt492.1.toList = ([] : List UInt8) then (some (bt492.2.1.toList == ([] : List UInt8))) else (some false)) else (some false)) else (some false)) else (if (Int.tmod x6 x7) < 0 then (newswirelaw03_IntegerMachine.j3 k x5 x7 bt492.1 bt492.2.1 bt492.2.2 (Int.tmod x6 x7) (wrap64 (Int.tdiv x6 x7)) (decide (x7 > 0))) else (newswirelaw03_IntegerMachine.j3 k x5 x7 bt492.1 bt492.2.1 bt492.2.2 (Int.tmod x6 x7) (wrap64 (Int.tdiv x6 x7)) false)))) else (some false))
def newswirelaw03_IntegerMachine.j3 : Nat → Bool → Int → ByteArray → ByteArray → Int → Int → Int → Bool → Option (Bool)
  | 0, _, _, _, _, _, _, _, _ => none
  | k + 1, x5, x7, x19, x20, x21, x22, x23, x143 => if x143 = true then (newswirelaw03_IntegerMachine.j4 k x5 x7 x19 x20 x21 (wrap64 (x22 + x7)) (wrap64 (x23 - 1))) else (newswirelaw03_IntegerMachine.j4 k x5 x7 x19 x20 x21 x22 x23)
def newswirelaw03_IntegerMachine.j4 : Nat → Bool → Int → ByteArray → ByteArray → Int → Int → Int → Option (Bool)
  | 0, _, _, _, _, _, _, _ => none
  | k + 1, x5, x7, x19, x20, x21, x22, x23 => if x22 < 0 then (if x5 = true then (if x21 = 0 then ((integer_FromInt.f (wrap64 (x23 + 1))).bind fun t495 => (if x19.toList = t495.toList then ((integer_FromInt.f (wrap64 (x22 - x7))).bind fun t496 => (some (x20.toList == t496.toList))) else (some false))) else (some false)) else (some false)) else (if x5 = true then (if x21 = 0 then ((integer_FromInt.f x23).bind fun t497 => (if x19.toList = t497.toList then ((integer_FromInt.f x22).bind fun t498 => (some (x20.toList == t498.toList))) else (some false))) else (some false)) else (some false))
end
def newswirelaw03_IntegerMachine.f (k : Nat) (a0 : Int) (a1 : Int) : Option (Bool) := (newswirelaw03_sane.f k).bind fun t477 => ((integer_FromInt.f (wrap64 (a0))).bind fun t478 => ((integer_FromInt.f (wrap64 (a1))).bind fun t479 => ((integer_ToInt.f t478).bind fun bt480 => ((integer_Add.f t478 t479).bind fun bt482 => ((integer_Sub.f t478 t479).bind fun bt484 => ((integer_Mul.f t478 t479).bind fun bt486 => (if bt480.2 = 0 then (if bt482.2 = 0 then (if bt484.2 = 0 then (if bt486.2 = 0 then (if bt480.1 = (wrap64 (a0)) then ((integer_FromInt.f (wrap64 ((wrap64 (a0)) + (wrap64 (a1))))).bind fun t488 => (if bt482.1.toList = t488.toList then ((integer_FromInt.f (wrap64 ((wrap64 (a0)) - (wrap64 (a1))))).bind fun t489 => (if bt484.1.toList = t489.toList then ((integer_FromInt.f (wrap64 ((wrap64 (a0)) * (wrap64 (a1))))).bind fun t490 => (newswirelaw03_IntegerMachine.j0 k t477 (wrap64 (a0)) (wrap64 (a1)) t478 t479 (bt486.1.toList != t490.toList))) else (newswirelaw03_IntegerMachine.j0 k t477 (wrap64 (a0)) (wrap64 (a1)) t478 t479 true))) else (newswirelaw03_IntegerMachine.j0 k t477 (wrap64 (a0)) (wrap64 (a1)) t478 t479 true))) else (newswirelaw03_IntegerMachine.j0 k t477 (wrap64 (a0)) (wrap64 (a1)) t478 t479 true)) else (newswirelaw03_IntegerMachine.j0 k t477 (wrap64 (a0)) (wrap64 (a1)) t478 t479 true)) else (newswirelaw03_IntegerMachine.j0 k t477 (wrap64 (a0)) (wrap64 (a1)) t478 t479 true)) else (newswirelaw03_IntegerMachine.j0 k t477 (wrap64 (a0)) (wrap64 (a1)) t478 t479 true)) else (newswirelaw03_IntegerMachine.j0 k t477 (wrap64 (a0)) (wrap64 (a1)) t478 t479 true))))))))
theorem newswirelaw03_IntegerMachine.mono_l : ∀ k, (∀ y0 y1 y2 y3 y4 y5, LeO (newswirelaw03_IntegerMachine.j0 k y0 y1 y2 y3 y4 y5) (newswirelaw03_IntegerMachine.j0 (k + 1) y0 y1 y2 y3 y4 y5)) ∧ (∀ y0 y1 y2 y3 y4 y5, LeO (newswirelaw03_IntegerMachine.j1 k y0 y1 y2 y3 y4 y5) (newswirelaw03_IntegerMachine.j1 (k + 1) y0 y1 y2 y3 y4 y5)) ∧ (∀ y0 y1 y2 y3 y4 y5, LeO (newswirelaw03_IntegerMachine.j2 k y0 y1 y2 y3 y4 y5) (newswirelaw03_IntegerMachine.j2 (k + 1) y0 y1 y2 y3 y4 y5)) ∧ (∀ y0 y1 y2 y3 y4 y5 y6 y7, LeO (newswirelaw03_IntegerMachine.j3 k y0 y1 y2 y3 y4 y5 y6 y7) (newswirelaw03_IntegerMachine.j3 (k + 1) y0 y1 y2 y3 y4 y5 y6 y7)) ∧ (∀ y0 y1 y2 y3 y4 y5 y6, LeO (newswirelaw03_IntegerMachine.j4 k y0 y1 y2 y3 y4 y5 y6) (newswirelaw03_IntegerMachine.j4 (k + 1) y0 y1 y2 y3 y4 y5 y6))
  | 0 => ⟨fun _ _ _ _ _ _ r h => by simp [newswirelaw03_IntegerMachine.j0] at h, fun _ _ _ _ _ _ r h => by simp [newswirelaw03_IntegerMachine.j1] at h, fun _ _ _ _ _ _ r h => by simp [newswirelaw03_IntegerMachine.j2] at h, fun _ _ _ _ _ _ _ _ r h => by simp [newswirelaw03_IntegerMachine.j3] at h, fun _ _ _ _ _ _ _ r h => by simp [newswirelaw03_IntegerMachine.j4] at h⟩
  | k + 1 => by
    obtain ⟨ih0, ih1, ih2, ih3, ih4⟩ := newswirelaw03_IntegerMachine.mono_l k
    refine ⟨?_, ?_, ?_, ?_, ?_⟩
    · intro y0 y1 y2 y3 y4 y5
      unfold newswirelaw03_IntegerMachine.j0
      repeat' first
      | (with_reducible exact ih0 _ _ _ _ _ _)
      | (with_reducible exact ih1 _ _ _ _ _ _)
      | (with_reducible exact ih2 _ _ _ _ _ _)
      | (with_reducible exact ih3 _ _ _ _ _ _ _ _)
      | (with_reducible exact ih4 _ _ _ _ _ _ _)
      | (with_reducible exact newswirelaw03_sane.mono _)
      | (with_reducible exact LeO.refl _)
      | (with_reducible exact LeO.none _)
      | (with_reducible refine LeO.ite ?_ ?_)
      | (with_reducible refine LeO.bind ?_ (fun _ => ?_))
      | exact ih0 _ _ _ _ _ _
      | exact ih1 _ _ _ _ _ _
      | exact ih2 _ _ _ _ _ _
      | exact ih3 _ _ _ _ _ _ _ _
      | exact ih4 _ _ _ _ _ _ _
      | exact newswirelaw03_sane.mono _
      | exact LeO.none _
      | refine LeO.ite ?_ ?_
      | refine LeO.bind ?_ (fun _ => ?_)
    · intro y0 y1 y2 y3 y4 y5
      unfold newswirelaw03_IntegerMachine.j1
      repeat' first
      | (with_reducible exact ih0 _ _ _ _ _ _)
      | (with_reducible exact ih1 _ _ _ _ _ _)
      | (with_reducible exact ih2 _ _ _ _ _ _)
      | (with_reducible exact ih3 _ _ _ _ _ _ _ _)
      | (with_reducible exact ih4 _ _ _ _ _ _ _)
      | (with_reducible exact newswirelaw03_sane.mono _)
      | (with_reducible exact LeO.refl _)
      | (with_reducible exact LeO.none _)
      | (with_reducible refine LeO.ite ?_ ?_)
      | (with_reducible refine LeO.bind ?_ (fun _ => ?_))
      | exact ih0 _ _ _ _ _ _
      | exact ih1 _ _ _ _ _ _
      | exact ih2 _ _ _ _ _ _
      | exact ih3 _ _ _ _ _ _ _ _
      | exact ih4 _ _ _ _ _ _ _
      | exact newswirelaw03_sane.mono _
      | exact LeO.none _
      | refine LeO.ite ?_ ?_
      | refine LeO.bind ?_ (fun _ => ?_)
    · intro y0 y1 y2 y3 y4 y5
      unfold newswirelaw03_IntegerMachine.j2
      repeat' first
      | (with_reducible exact ih0 _ _ _ _ _ _)
      | (with_reducible exact ih1 _ _ _ _ _ _)
      | (with_reducible exact ih2 _ _ _ _ _ _)
      | (with_reducible exact ih3 _ _ _ _ _ _ _ _)
      | (with_reducible exact ih4 _ _ _ _ _ _ _)
      | (with_reducible exact newswirelaw03_sane.mono _)
      | (with_reducible exact LeO.refl _)
      | (with_reducible exact LeO.none _)
      | (with_reducible refine LeO.ite ?_ ?_)
      | (with_reducible refine LeO.bind ?_ (fun _ => ?_))
      | exact ih0 _ _ _ _ _ _
      | exact ih1 _ _ _ _ _ _
      | exact ih2 _ _ _ _ _ _
      | exact ih3 _ _ _ _ _ _ _ _
      | exact ih4 _ _ _ _ _ _ _
      | exact newswirelaw03_sane.mono _
      | exact LeO.none _
      | refine LeO.ite ?_ ?_
      | refine LeO.bind ?_ (fun _ => ?_)
    · intro y0 y1 y2 y3 y4 y5 y6 y7
      unfold newswirelaw03_IntegerMachine.j3
      repeat' first
      | (with_reducible exact ih0 _ _ _ _ _ _)
      | (with_reducible exact ih1 _ _ _ _ _ _)
      | (with_reducible exact ih2 _ _ _ _ _ _)
      | (with_reducible exact ih3 _ _ _ _ _ _ _ _)
      | (with_reducible exact ih4 _ _ _ _ _ _ _)
      | (with_reducible exact newswirelaw03_sane.mono _)
      | (with_reducible exact LeO.refl _)
      | (with_reducible exact LeO.none _)
      | (with_reducible refine LeO.ite ?_ ?_)
      | (with_reducible refine LeO.bind ?_ (fun _ => ?_))
      | exact ih0 _ _ _ _ _ _
      | exact ih1 _ _ _ _ _ _
      | exact ih2 _ _ _ _ _ _
      | exact ih3 _ _ _ _ _ _ _ _
      | exact ih4 _ _ _ _ _ _ _
      | exact newswirelaw03_sane.mono _
      | exact LeO.none _
      | refine LeO.ite ?_ ?_
      | refine LeO.bind ?_ (fun _ => ?_)
    · intro y0 y1 y2 y3 y4 y5 y6
      unfold newswirelaw03_IntegerMachine.j4
      repeat' first
      | (with_reducible exact ih0 _ _ _ _ _ _)
      | (with_reducible exact ih1 _ _ _ _ _ _)
      | (with_reducible exact ih2 _ _ _ _ _ _)
      | (with_reducible exact ih3 _ _ _ _ _ _ _ _)
      | (with_reducible exact ih4 _ _ _ _ _ _ _)
      | (with_reducible exact newswirelaw03_sane.mono _)
      | (with_reducible exact LeO.refl _)
      | (with_reducible exact LeO.none _)
      | (with_reducible refine LeO.ite ?_ ?_)
      | (with_reducible refine LeO.bind ?_ (fun _ => ?_))
      | exact ih0 _ _ _ _ _ _
      | exact ih1 _ _ _ _ _ _
      | exact ih2 _ _ _ _ _ _
      | exact ih3 _ _ _ _ _ _ _ _
      | exact ih4 _ _ _ _ _ _ _
      | exact newswirelaw03_sane.mono _
      | exact LeO.none _
      | refine LeO.ite ?_ ?_
      | refine LeO.bind ?_ (fun _ => ?_)
theorem newswirelaw03_IntegerMachine.mono : ∀ a0 a1 k, LeO (newswirelaw03_IntegerMachine.f k a0 a1) (newswirelaw03_IntegerMachine.f (k + 1) a0 a1) := by
  intro a0 a1 k
  obtain ⟨ih0, ih1, ih2, ih3, ih4⟩ := newswirelaw03_IntegerMachine.mono_l k
  unfold newswirelaw03_IntegerMachine.f
  repeat' first
      | (with_reducible exact ih0 _ _ _ _ _ _)
      | (with_reducible exact ih1 _ _ _ _ _ _)
      | (with_reducible exact ih2 _ _ _ _ _ _)
      | (with_reducible exact ih3 _ _ _ _ _ _ _ _)
      | (with_reducible exact ih4 _ _ _ _ _ _ _)
      | (with_reducible exact newswirelaw03_sane.mono _)
      | (with_reducible exact LeO.refl _)
      | (with_reducible exact LeO.none _)
      | (with_reducible refine LeO.ite ?_ ?_)
      | (with_reducible refine LeO.bind ?_ (fun _ => ?_))
      | exact ih0 _ _ _ _ _ _
      | exact ih1 _ _ _ _ _ _
      | exact ih2 _ _ _ _ _ _
      | exact ih3 _ _ _ _ _ _ _ _
      | exact ih4 _ _ _ _ _ _ _
      | exact newswirelaw03_sane.mono _
      | exact LeO.none _
      | refine LeO.ite ?_ ?_
      | refine LeO.bind ?_ (fun _ => ?_)
set_option maxHeartbeats 8000000 in
set_option maxRecDepth 100000 in
theorem newswirelaw03_IntegerMachine.calls (k : Nat) (a0 : Int) (a1 : Int) (r : Bool) (w : World) (hT : Laid w) (h : newswirelaw03_IntegerMachine.f k a0 a1 = some r) :
    Calls Tryz.prog 10 #[.int .i32 a0, .int .i32 a1] w fun e w' => e = .returned (.bool r) ∧ Below w.heap.size w w' := by
  have HT := Aside0.mk hT
  clear hT
  have HB := Aside0.mk (Below.refl w.heap.size w)
  have H : ((newswirelaw03_sane.f k).bind fun t477 => ((integer_FromInt.f (wrap64 (a0))).bind fun t478 => ((integer_FromInt.f (wrap64 (a1))).bind fun t479 => ((integer_ToInt.f t478).bind fun bt480 => ((integer_Add.f t478 t479).bind fun bt482 => ((integer_Sub.f t478 t479).bind fun bt484 => ((integer_Mul.f t478 t479).bind fun bt486 => (if bt480.2 = 0 then (if bt482.2 = 0 then (if bt484.2 = 0 then (if bt486.2 = 0 then (if bt480.1 = (wrap64 (a0)) then ((integer_FromInt.f (wrap64 ((wrap64 (a0)) + (wrap64 (a1))))).bind fun t488 => (if bt482.1.toList = t488.toList then ((integer_FromInt.f (wrap64 ((wrap64 (a0)) - (wrap64 (a1))))).bind fun t489 => (if bt484.1.toList = t489.toList then ((integer_FromInt.f (wrap64 ((wrap64 (a0)) * (wrap64 (a1))))).bind fun t490 => (newswirelaw03_IntegerMachine.j0 k t477 (wrap64 (a0)) (wrap64 (a1)) t478 t479 (bt486.1.toList != t490.toList))) else (newswirelaw03_IntegerMachine.j0 k t477 (wrap64 (a0)) (wrap64 (a1)) t478 t479 true))) else (newswirelaw03_IntegerMachine.j0 k t477 (wrap64 (a0)) (wrap64 (a1)) t478 t479 true))) else (newswirelaw03_IntegerMachine.j0 k t477 (wrap64 (a0)) (wrap64 (a1)) t478 t479 true)) else (newswirelaw03_IntegerMachine.j0 k t477 (wrap64 (a0)) (wrap64 (a1)) t478 t479 true)) else (newswirelaw03_IntegerMachine.j0 k t477 (wrap64 (a0)) (wrap64 (a1)) t478 t479 true)) else (newswirelaw03_IntegerMachine.j0 k t477 (wrap64 (a0)) (wrap64 (a1)) t478 t479 true)) else (newswirelaw03_IntegerMachine.j0 k t477 (wrap64 (a0)) (wrap64 (a1)) t478 t479 true))))))))) = some r := h
  clear h
  replace H := Option.bind_eq_some_iff.mp H
  obtain ⟨t477, A30, H⟩ := H
  replace H : ((integer_FromInt.f (wrap64 (a0))).bind fun t478 => ((integer_FromInt.f (wrap64 (a1))).bind fun t479 => ((integer_ToInt.f t478).bind fun bt480 => ((integer_Add.f t478 t479).bind fun bt482 => ((integer_Sub.f t478 t479).bind fun bt484 => ((integer_Mul.f t478 t479).bind fun bt486 => (if bt480.2 = 0 then (if bt482.2 = 0 then (if bt484.2 = 0 then (if bt486.2 = 0 then (if bt480.1 = (wrap64 (a0)) then ((integer_FromInt.f (wrap64 ((wrap64 (a0)) + (wrap64 (a1))))).bind fun t488 => (if bt482.1.toList = t488.toList then ((integer_FromInt.f (wrap64 ((wrap64 (a0)) - (wrap64 (a1))))).bind fun t489 => (if bt484.1.toList = t489.toList then ((integer_FromInt.f (wrap64 ((wrap64 (a0)) * (wrap64 (a1))))).bind fun t490 => (newswirelaw03_IntegerMachine.j0 k t477 (wrap64 (a0)) (wrap64 (a1)) t478 t479 (bt486.1.toList != t490.toList))) else (newswirelaw03_IntegerMachine.j0 k t477 (wrap64 (a0)) (wrap64 (a1)) t478 t479 true))) else (newswirelaw03_IntegerMachine.j0 k t477 (wrap64 (a0)) (wrap64 (a1)) t478 t479 true))) else (newswirelaw03_IntegerMachine.j0 k t477 (wrap64 (a0)) (wrap64 (a1)) t478 t479 true)) else (newswirelaw03_IntegerMachine.j0 k t477 (wrap64 (a0)) (wrap64 (a1)) t478 t479 true)) else (newswirelaw03_IntegerMachine.j0 k t477 (wrap64 (a0)) (wrap64 (a1)) t478 t479 true)) else (newswirelaw03_IntegerMachine.j0 k t477 (wrap64 (a0)) (wrap64 (a1)) t478 t479 true)) else (newswirelaw03_IntegerMachine.j0 k t477 (wrap64 (a0)) (wrap64 (a1)) t478 t479 true)))))))) = some r := H
  have A3 := Aside0.mk A30
  clear A30
  replace H := Option.bind_eq_some_iff.mp H
  obtain ⟨t478, A40, H⟩ := H
  replace H : ((integer_FromInt.f (wrap64 (a1))).bind fun t479 => ((integer_ToInt.f t478).bind fun bt480 => ((integer_Add.f t478 t479).bind fun bt482 => ((integer_Sub.f t478 t479).bind fun bt484 => ((integer_Mul.f t478 t479).bind fun bt486 => (if bt480.2 = 0 then (if bt482.2 = 0 then (if bt484.2 = 0 then (if bt486.2 = 0 then (if bt480.1 = (wrap64 (a0)) then ((integer_FromInt.f (wrap64 ((wrap64 (a0)) + (wrap64 (a1))))).bind fun t488 => (if bt482.1.toList = t488.toList then ((integer_FromInt.f (wrap64 ((wrap64 (a0)) - (wrap64 (a1))))).bind fun t489 => (if bt484.1.toList = t489.toList then ((integer_FromInt.f (wrap64 ((wrap64 (a0)) * (wrap64 (a1))))).bind fun t490 => (newswirelaw03_IntegerMachine.j0 k t477 (wrap64 (a0)) (wrap64 (a1)) t478 t479 (bt486.1.toList != t490.toList))) else (newswirelaw03_IntegerMachine.j0 k t477 (wrap64 (a0)) (wrap64 (a1)) t478 t479 true))) else (newswirelaw03_IntegerMachine.j0 k t477 (wrap64 (a0)) (wrap64 (a1)) t478 t479 true))) else (newswirelaw03_IntegerMachine.j0 k t477 (wrap64 (a0)) (wrap64 (a1)) t478 t479 true)) else (newswirelaw03_IntegerMachine.j0 k t477 (wrap64 (a0)) (wrap64 (a1)) t478 t479 true)) else (newswirelaw03_IntegerMachine.j0 k t477 (wrap64 (a0)) (wrap64 (a1)) t478 t479 true)) else (newswirelaw03_IntegerMachine.j0 k t477 (wrap64 (a0)) (wrap64 (a1)) t478 t479 true)) else (newswirelaw03_IntegerMachine.j0 k t477 (wrap64 (a0)) (wrap64 (a1)) t478 t479 true))))))) = some r := H
  have A4 := Aside0.mk A40
  clear A40
  replace H := Option.bind_eq_some_iff.mp H
  obtain ⟨t479, A50, H⟩ := H
  replace H : ((integer_ToInt.f t478).bind fun bt480 => ((integer_Add.f t478 t479).bind fun bt482 => ((integer_Sub.f t478 t479).bind fun bt484 => ((integer_Mul.f t478 t479).bind fun bt486 => (if bt480.2 = 0 then (if bt482.2 = 0 then (if bt484.2 = 0 then (if bt486.2 = 0 then (if bt480.1 = (wrap64 (a0)) then ((integer_FromInt.f (wrap64 ((wrap64 (a0)) + (wrap64 (a1))))).bind fun t488 => (if bt482.1.toList = t488.toList then ((integer_FromInt.f (wrap64 ((wrap64 (a0)) - (wrap64 (a1))))).bind fun t489 => (if bt484.1.toList = t489.toList then ((integer_FromInt.f (wrap64 ((wrap64 (a0)) * (wrap64 (a1))))).bind fun t490 => (newswirelaw03_IntegerMachine.j0 k t477 (wrap64 (a0)) (wrap64 (a1)) t478 t479 (bt486.1.toList != t490.toList))) else (newswirelaw03_IntegerMachine.j0 k t477 (wrap64 (a0)) (wrap64 (a1)) t478 t479 true))) else (newswirelaw03_IntegerMachine.j0 k t477 (wrap64 (a0)) (wrap64 (a1)) t478 t479 true))) else (newswirelaw03_IntegerMachine.j0 k t477 (wrap64 (a0)) (wrap64 (a1)) t478 t479 true)) else (newswirelaw03_IntegerMachine.j0 k t477 (wrap64 (a0)) (wrap64 (a1)) t478 t479 true)) else (newswirelaw03_IntegerMachine.j0 k t477 (wrap64 (a0)) (wrap64 (a1)) t478 t479 true)) else (newswirelaw03_IntegerMachine.j0 k t477 (wrap64 (a0)) (wrap64 (a1)) t478 t479 true)) else (newswirelaw03_IntegerMachine.j0 k t477 (wrap64 (a0)) (wrap64 (a1)) t478 t479 true)))))) = some r := H
  have A5 := Aside0.mk A50
  clear A50
  replace H := Option.bind_eq_some_iff.mp H
  obtain ⟨⟨t480, t481⟩, A60, H⟩ := H
  replace H : ((integer_Add.f t478 t479).bind fun bt482 => ((integer_Sub.f t478 t479).bind fun bt484 => ((integer_Mul.f t478 t479).bind fun bt486 => (if t481 = 0 then (if bt482.2 = 0 then (if bt484.2 = 0 then (if bt486.2 = 0 then (if t480 = (wrap64 (a0)) then ((integer_FromInt.f (wrap64 ((wrap64 (a0)) + (wrap64 (a1))))).bind fun t488 => (if bt482.1.toList = t488.toList then ((integer_FromInt.f (wrap64 ((wrap64 (a0)) - (wrap64 (a1))))).bind fun t489 => (if bt484.1.toList = t489.toList then ((integer_FromInt.f (wrap64 ((wrap64 (a0)) * (wrap64 (a1))))).bind fun t490 => (newswirelaw03_IntegerMachine.j0 k t477 (wrap64 (a0)) (wrap64 (a1)) t478 t479 (bt486.1.toList != t490.toList))) else (newswirelaw03_IntegerMachine.j0 k t477 (wrap64 (a0)) (wrap64 (a1)) t478 t479 true))) else (newswirelaw03_IntegerMachine.j0 k t477 (wrap64 (a0)) (wrap64 (a1)) t478 t479 true))) else (newswirelaw03_IntegerMachine.j0 k t477 (wrap64 (a0)) (wrap64 (a1)) t478 t479 true)) else (newswirelaw03_IntegerMachine.j0 k t477 (wrap64 (a0)) (wrap64 (a1)) t478 t479 true)) else (newswirelaw03_IntegerMachine.j0 k t477 (wrap64 (a0)) (wrap64 (a1)) t478 t479 true)) else (newswirelaw03_IntegerMachine.j0 k t477 (wrap64 (a0)) (wrap64 (a1)) t478 t479 true)) else (newswirelaw03_IntegerMachine.j0 k t477 (wrap64 (a0)) (wrap64 (a1)) t478 t479 true))))) = some r := H
  have A6 := Aside0.mk A60
  clear A60
  replace H := Option.bind_eq_some_iff.mp H
  obtain ⟨⟨t482, t483⟩, A70, H⟩ := H
  replace H : ((integer_Sub.f t478 t479).bind fun bt484 => ((integer_Mul.f t478 t479).bind fun bt486 => (if t481 = 0 then (if t483 = 0 then (if bt484.2 = 0 then (if bt486.2 = 0 then (if t480 = (wrap64 (a0)) then ((integer_FromInt.f (wrap64 ((wrap64 (a0)) + (wrap64 (a1))))).bind fun t488 => (if t482.toList = t488.toList then ((integer_FromInt.f (wrap64 ((wrap64 (a0)) - (wrap64 (a1))))).bind fun t489 => (if bt484.1.toList = t489.toList then ((integer_FromInt.f (wrap64 ((wrap64 (a0)) * (wrap64 (a1))))).bind fun t490 => (newswirelaw03_IntegerMachine.j0 k t477 (wrap64 (a0)) (wrap64 (a1)) t478 t479 (bt486.1.toList != t490.toList))) else (newswirelaw03_IntegerMachine.j0 k t477 (wrap64 (a0)) (wrap64 (a1)) t478 t479 true))) else (newswirelaw03_IntegerMachine.j0 k t477 (wrap64 (a0)) (wrap64 (a1)) t478 t479 true))) else (newswirelaw03_IntegerMachine.j0 k t477 (wrap64 (a0)) (wrap64 (a1)) t478 t479 true)) else (newswirelaw03_IntegerMachine.j0 k t477 (wrap64 (a0)) (wrap64 (a1)) t478 t479 true)) else (newswirelaw03_IntegerMachine.j0 k t477 (wrap64 (a0)) (wrap64 (a1)) t478 t479 true)) else (newswirelaw03_IntegerMachine.j0 k t477 (wrap64 (a0)) (wrap64 (a1)) t478 t479 true)) else (newswirelaw03_IntegerMachine.j0 k t477 (wrap64 (a0)) (wrap64 (a1)) t478 t479 true)))) = some r := H
  have A7 := Aside0.mk A70
  clear A70
  replace H := Option.bind_eq_some_iff.mp H
  obtain ⟨⟨t484, t485⟩, A80, H⟩ := H
  replace H : ((integer_Mul.f t478 t479).bind fun bt486 => (if t481 = 0 then (if t483 = 0 then (if t485 = 0 then (if bt486.2 = 0 then (if t480 = (wrap64 (a0)) then ((integer_FromInt.f (wrap64 ((wrap64 (a0)) + (wrap64 (a1))))).bind fun t488 => (if t482.toList = t488.toList then ((integer_FromInt.f (wrap64 ((wrap64 (a0)) - (wrap64 (a1))))).bind fun t489 => (if t484.toList = t489.toList then ((integer_FromInt.f (wrap64 ((wrap64 (a0)) * (wrap64 (a1))))).bind fun t490 => (newswirelaw03_IntegerMachine.j0 k t477 (wrap64 (a0)) (wrap64 (a1)) t478 t479 (bt486.1.toList != t490.toList))) else (newswirelaw03_IntegerMachine.j0 k t477 (wrap64 (a0)) (wrap64 (a1)) t478 t479 true))) else (newswirelaw03_IntegerMachine.j0 k t477 (wrap64 (a0)) (wrap64 (a1)) t478 t479 true))) else (newswirelaw03_IntegerMachine.j0 k t477 (wrap64 (a0)) (wrap64 (a1)) t478 t479 true)) else (newswirelaw03_IntegerMachine.j0 k t477 (wrap64 (a0)) (wrap64 (a1)) t478 t479 true)) else (newswirelaw03_IntegerMachine.j0 k t477 (wrap64 (a0)) (wrap64 (a1)) t478 t479 true)) else (newswirelaw03_IntegerMachine.j0 k t477 (wrap64 (a0)) (wrap64 (a1)) t478 t479 true)) else (newswirelaw03_IntegerMachine.j0 k t477 (wrap64 (a0)) (wrap64 (a1)) t478 t479 true))) = some r := H
  have A8 := Aside0.mk A80
  clear A80
  replace H := Option.bind_eq_some_iff.mp H
  obtain ⟨⟨t486, t487⟩, A90, H⟩ := H
  replace H : (if t481 = 0 then (if t483 = 0 then (if t485 = 0 then (if t487 = 0 then (if t480 = (wrap64 (a0)) then ((integer_FromInt.f (wrap64 ((wrap64 (a0)) + (wrap64 (a1))))).bind fun t488 => (if t482.toList = t488.toList then ((integer_FromInt.f (wrap64 ((wrap64 (a0)) - (wrap64 (a1))))).bind fun t489 => (if t484.toList = t489.toList then ((integer_FromInt.f (wrap64 ((wrap64 (a0)) * (wrap64 (a1))))).bind fun t490 => (newswirelaw03_IntegerMachine.j0 k t477 (wrap64 (a0)) (wrap64 (a1)) t478 t479 (t486.toList != t490.toList))) else (newswirelaw03_IntegerMachine.j0 k t477 (wrap64 (a0)) (wrap64 (a1)) t478 t479 true))) else (newswirelaw03_IntegerMachine.j0 k t477 (wrap64 (a0)) (wrap64 (a1)) t478 t479 true))) else (newswirelaw03_IntegerMachine.j0 k t477 (wrap64 (a0)) (wrap64 (a1)) t478 t479 true)) else (newswirelaw03_IntegerMachine.j0 k t477 (wrap64 (a0)) (wrap64 (a1)) t478 t479 true)) else (newswirelaw03_IntegerMachine.j0 k t477 (wrap64 (a0)) (wrap64 (a1)) t478 t479 true)) else (newswirelaw03_IntegerMachine.j0 k t477 (wrap64 (a0)) (wrap64 (a1)) t478 t479 true)) else (newswirelaw03_IntegerMachine.j0 k t477 (wrap64 (a0)) (wrap64 (a1)) t478 t479 true)) = some r := H
  have A9 := Aside0.mk A90
  clear A90
  have HC10 := Aside0.mk H
  clear H
  go_enter Tryz.func10, Tryz.ntmps10
  go_upto_region 10 with (first | ((with_reducible refine gate_callee (f := 12) rfl ?_); refine goesL_ (some 24) rfl rfl Tryz.func12 (by kernel_rfl) rfl #[] rfl (by (try simp only [List.map_toArray, List.map_cons, List.map_nil]); first | done | rfl | (simp only [List.length_drop, List.length_take]; rfl)) ?_; (with_reducible refine (newswirelaw03_sane.calls k  t477 _ ?side1 A3.out).mono ?_); (case side1 => exact Laid.on HT.out (by repeat (first | (with_reducible first | exact HB.out | apply below_alloc | apply pw_below_drewN | apply below_drew1) | exact HB.out))); rintro e w11 ⟨rfl, hb⟩; refine ⟨_, rfl, ?_⟩; have n0_ := Aside0.mk (below_step (by repeat (first | (with_reducible first | exact HB.out | apply below_alloc | apply pw_below_drewN | apply below_drew1) | exact HB.out)) hb); clear HB; have HB := n0_; clear n0_; (try clear hb); (try clear hb2); (try clear hk); (try clear hi)) | ((with_reducible refine gate_callee (f := 35) rfl ?_); refine goesL_ (some 30) rfl rfl Tryz.func35 (by kernel_rfl) rfl #[.int .i64 (wrap64 (a0))] rfl (by (try simp only [List.map_toArray, List.map_cons, List.map_nil]); first | done | rfl | (simp only [List.length_drop, List.length_take]; rfl)) ?_; (with_reducible refine (integer_FromInt.calls (wrap64 (a0)) t478 _ ?side1 A4.out).mono ?_); (case side1 => exact Laid.on HT.out (by repeat (first | (with_reducible first | exact HB.out | apply below_alloc | apply pw_below_drewN | apply below_drew1) | exact HB.out))); rintro e w12 ⟨rfl, hb⟩; refine ⟨_, rfl, ?_⟩; have n0_ := Aside0.mk (below_step (by repeat (first | (with_reducible first | exact HB.out | apply below_alloc | apply pw_below_drewN | apply below_drew1) | exact HB.out)) hb); clear HB; have HB := n0_; clear n0_; (try clear hb); (try clear hb2); (try clear hk); (try clear hi)) | ((with_reducible refine gate_callee (f := 35) rfl ?_); refine goesL_ (some 32) rfl rfl Tryz.func35 (by kernel_rfl) rfl #[.int .i64 (wrap64 (a1))] rfl (by (try simp only [List.map_toArray, List.map_cons, List.map_nil]); first | done | rfl | (simp only [List.length_drop, List.length_take]; rfl)) ?_; (with_reducible refine (integer_FromInt.calls (wrap64 (a1)) t479 _ ?side1 A5.out).mono ?_); (case side1 => exact Laid.on HT.out (by repeat (first | (with_reducible first | exact HB.out | apply below_alloc | apply pw_below_drewN | apply below_drew1) | exact HB.out))); rintro e w13 ⟨rfl, hb⟩; refine ⟨_, rfl, ?_⟩; have n0_ := Aside0.mk (below_step (by repeat (first | (with_reducible first | exact HB.out | apply below_alloc | apply pw_below_drewN | apply below_drew1) | exact HB.out)) hb); clear HB; have HB := n0_; clear n0_; (try clear hb); (try clear hb2); (try clear hk); (try clear hi)) | ((with_reducible refine gate_callee (f := 31) rfl ?_); refine goesL_ (some 35) rfl rfl Tryz.func31 (by kernel_rfl) rfl #[.string t478] rfl (by (try simp only [List.map_toArray, List.map_cons, List.map_nil]); first | done | rfl | (simp only [List.length_drop, List.length_take]; rfl)) ?_; (with_reducible refine (integer_ToInt.calls t478 t480 t481 _ ?side1 A6.out).mono ?_); (case side1 => exact Laid.on HT.out (by repeat (first | (with_reducible first | exact HB.out | apply below_alloc | apply pw_below_drewN | apply below_drew1) | exact HB.out))); rintro e w14 ⟨rfl, hb⟩; refine ⟨_, rfl, ?_⟩; have n0_ := Aside0.mk (below_step (by repeat (first | (with_reducible first | exact HB.out | apply below_alloc | apply pw_below_drewN | apply below_drew1) | exact HB.out)) hb); clear HB; have HB := n0_; clear n0_; (try clear hb); (try clear hb2); (try clear hk); (try clear hi)) | ((with_reducible refine gate_callee (f := 14) rfl ?_); refine goesL_ (some 41) rfl rfl Tryz.func14 (by kernel_rfl) rfl #[.string t478, .string t479] rfl (by (try simp only [List.map_toArray, List.map_cons, List.map_nil]); first | done | rfl | (simp only [List.length_drop, List.length_take]; rfl)) ?_; (with_reducible refine (integer_Add.calls t478 t479 t482 t483 _ ?side1 A7.out).mono ?_); (case side1 => exact Laid.on HT.out (by repeat (first | (with_reducible first | exact HB.out | apply below_alloc | apply pw_below_drewN | apply below_drew1) | exact HB.out))); rintro e w15 ⟨rfl, hb⟩; refine ⟨_, rfl, ?_⟩; have n0_ := Aside0.mk (below_step (by repeat (first | (with_reducible first | exact HB.out | apply below_alloc | apply pw_below_drewN | apply below_drew1) | exact HB.out)) hb); clear HB; have HB := n0_; clear n0_; (try clear hb); (try clear hb2); (try clear hk); (try clear hi)) | ((with_reducible refine gate_callee (f := 16) rfl ?_); refine goesL_ (some 47) rfl rfl Tryz.func16 (by kernel_rfl) rfl #[.string t478, .string t479] rfl (by (try simp only [List.map_toArray, List.map_cons, List.map_nil]); first | done | rfl | (simp only [List.length_drop, List.length_take]; rfl)) ?_; (with_reducible refine (integer_Sub.calls t478 t479 t484 t485 _ ?side1 A8.out).mono ?_); (case side1 => exact Laid.on HT.out (by repeat (first | (with_reducible first | exact HB.out | apply below_alloc | apply pw_below_drewN | apply below_drew1) | exact HB.out))); rintro e w16 ⟨rfl, hb⟩; refine ⟨_, rfl, ?_⟩; have n0_ := Aside0.mk (below_step (by repeat (first | (with_reducible first | exact HB.out | apply below_alloc | apply pw_below_drewN | apply below_drew1) | exact HB.out)) hb); clear HB; have HB := n0_; clear n0_; (try clear hb); (try clear hb2); (try clear hk); (try clear hi)) | ((with_reducible refine gate_callee (f := 15) rfl ?_); refine goesL_ (some 53) rfl rfl Tryz.func15 (by kernel_rfl) rfl #[.string t478, .string t479] rfl (by (try simp only [List.map_toArray, List.map_cons, List.map_nil]); first | done | rfl | (simp only [List.length_drop, List.length_take]; rfl)) ?_; (with_reducible refine (integer_Mul.calls t478 t479 t486 t487 _ ?side1 A9.out).mono ?_); (case side1 => exact Laid.on HT.out (by repeat (first | (with_reducible first | exact HB.out | apply below_alloc | apply pw_below_drewN | apply below_drew1) | exact HB.out))); rintro e w17 ⟨rfl, hb⟩; refine ⟨_, rfl, ?_⟩; have n0_ := Aside0.mk (below_step (by repeat (first | (with_reducible first | exact HB.out | apply below_alloc | apply pw_below_drewN | apply below_drew1) | exact HB.out)) hb); clear HB; have HB := n0_; clear n0_; (try clear hb); (try clear hb2); (try clear hk); (try clear hi)))
  (try simp only [Act.put, List.setIfInBounds_toArray, List.set_cons_zero, List.set_cons_succ])
  go_cut [98] (fun v98 wc => ∃ (kq : Nat) (x98_9 : Bool), v98 = .bool x98_9 ∧ Aside0 (newswirelaw03_IntegerMachine.j0 kq t477 (wrap64 (a0)) (wrap64 (a1)) t478 t479 x98_9 = some r) ∧ Aside0 (kq ≤ k) ∧ Aside0 (Below w.heap.size w wc))
  case first =>
    have H := HC10.out
    clear HC10
    by_cases c18 : t481 = 0
    · rw [if_pos c18] at H
      have c18b0 : (t481 == 0) = true := beq_iff_eq.mpr c18
      have c18b1 : (t481 != 0) = false := bne_eq_false_iff_eq.mpr c18
      clear c18
      (first | rw [c18b0] | (simp only [i64_w, i32_w]; rw [c18b0]) | skip)
      by_cases c19 : t483 = 0
      · rw [if_pos c19] at H
        have c19b0 : (t483 == 0) = true := beq_iff_eq.mpr c19
        have c19b1 : (t483 != 0) = false := bne_eq_false_iff_eq.mpr c19
        clear c19
        by_cases c20 : t485 = 0
        · rw [if_pos c20] at H
          have c20b0 : (t485 == 0) = true := beq_iff_eq.mpr c20
          have c20b1 : (t485 != 0) = false := bne_eq_false_iff_eq.mpr c20
          clear c20
          by_cases c21 : t487 = 0
          · rw [if_pos c21] at H
            have c21b0 : (t487 == 0) = true := beq_iff_eq.mpr c21
            have c21b1 : (t487 != 0) = false := bne_eq_false_iff_eq.mpr c21
            clear c21
            by_cases c22 : t480 = (wrap64 (a0))
            · rw [if_pos c22] at H
              have c22b0 : (t480 == (wrap64 (a0))) = true := beq_iff_eq.mpr c22
              have c22b1 : (t480 != (wrap64 (a0))) = false := bne_eq_false_iff_eq.mpr c22
              clear c22
              replace H := Option.bind_eq_some_iff.mp H
              obtain ⟨t488, A230, H⟩ := H
              replace H : (if t482.toList = t488.toList then ((integer_FromInt.f (wrap64 ((wrap64 (a0)) - (wrap64 (a1))))).bind fun t489 => (if t484.toList = t489.toList then ((integer_FromInt.f (wrap64 ((wrap64 (a0)) * (wrap64 (a1))))).bind fun t490 => (newswirelaw03_IntegerMachine.j0 k t477 (wrap64 (a0)) (wrap64 (a1)) t478 t479 (t486.toList != t490.toList))) else (newswirelaw03_IntegerMachine.j0 k t477 (wrap64 (a0)) (wrap64 (a1)) t478 t479 true))) else (newswirelaw03_IntegerMachine.j0 k t477 (wrap64 (a0)) (wrap64 (a1)) t478 t479 true)) = some r := H
              have A23 := Aside0.mk A230
              clear A230
              by_cases c24 : t482.toList = t488.toList
              · rw [if_pos c24] at H
                have c24b0 : (t482.toList == t488.toList) = true := beq_iff_eq.mpr c24
                have c24b1 : (t482.toList != t488.toList) = false := bne_eq_false_iff_eq.mpr c24
                clear c24
                replace H := Option.bind_eq_some_iff.mp H
                obtain ⟨t489, A250, H⟩ := H
                replace H : (if t484.toList = t489.toList then ((integer_FromInt.f (wrap64 ((wrap64 (a0)) * (wrap64 (a1))))).bind fun t490 => (newswirelaw03_IntegerMachine.j0 k t477 (wrap64 (a0)) (wrap64 (a1)) t478 t479 (t486.toList != t490.toList))) else (newswirelaw03_IntegerMachine.j0 k t477 (wrap64 (a0)) (wrap64 (a1)) t478 t479 true)) = some r := H
                have A25 := Aside0.mk A250
                clear A250
                by_cases c26 : t484.toList = t489.toList
                · rw [if_pos c26] at H
                  have c26b0 : (t484.toList == t489.toList) = true := beq_iff_eq.mpr c26
                  have c26b1 : (t484.toList != t489.toList) = false := bne_eq_false_iff_eq.mpr c26
                  clear c26
                  replace H := Option.bind_eq_some_iff.mp H
                  obtain ⟨t490, A270, H⟩ := H
                  replace H : (newswirelaw03_IntegerMachine.j0 k t477 (wrap64 (a0)) (wrap64 (a1)) t478 t479 (t486.toList != t490.toList)) = some r := H
                  have A27 := Aside0.mk A270
                  clear A270
                  have H' := Aside0.mk H
                  clear H
                  go_wp2_with (first | (go_at_call 35; (with_reducible refine (integer_FromInt.calls (wrap64 ((wrap64 (a0)) + (wrap64 (a1)))) t488 _ ?side1 A23.out).mono ?_); (case side1 => exact Laid.on HT.out (by repeat (first | (with_reducible first | exact HB.out | apply below_alloc | apply pw_below_drewN | apply below_drew1) | exact HB.out))); rintro e w28 ⟨rfl, hb⟩; have n0_ := Aside0.mk (below_step (by repeat (first | (with_reducible first | exact HB.out | apply below_alloc | apply pw_below_drewN | apply below_drew1) | exact HB.out)) hb); clear HB; have HB := n0_; clear n0_; (try clear hb); (try clear hb2); (try clear hk); (try clear hi)) | (go_at_call 35; (with_reducible refine (integer_FromInt.calls (wrap64 ((wrap64 (a0)) - (wrap64 (a1)))) t489 _ ?side1 A25.out).mono ?_); (case side1 => exact Laid.on HT.out (by repeat (first | (with_reducible first | exact HB.out | apply below_alloc | apply pw_below_drewN | apply below_drew1) | exact HB.out))); rintro e w29 ⟨rfl, hb⟩; have n0_ := Aside0.mk (below_step (by repeat (first | (with_reducible first | exact HB.out | apply below_alloc | apply pw_below_drewN | apply below_drew1) | exact HB.out)) hb); clear HB; have HB := n0_; clear n0_; (try clear hb); (try clear hb2); (try clear hk); (try clear hi)) | (go_at_call 35; (with_reducible refine (integer_FromInt.calls (wrap64 ((wrap64 (a0)) * (wrap64 (a1)))) t490 _ ?side1 A27.out).mono ?_); (case side1 => exact Laid.on HT.out (by repeat (first | (with_reducible first | exact HB.out | apply below_alloc | apply pw_below_drewN | apply below_drew1) | exact HB.out))); rintro e w30 ⟨rfl, hb⟩; have n0_ := Aside0.mk (below_step (by repeat (first | (with_reducible first | exact HB.out | apply below_alloc | apply pw_below_drewN | apply below_drew1) | exact HB.out)) hb); clear HB; have HB := n0_; clear n0_; (try clear hb); (try clear hb2); (try clear hk); (try clear hi)))
                  go_meet
                  case rel => exact ⟨_, ((t486.toList != t490.toList)), (by first | rfl | (simp; done) | (simp [*]; done)), H', ⟨by first | omega | exact Nat.le_refl _⟩, ⟨by repeat (first | (with_reducible first | exact HB.out | apply below_alloc | apply pw_below_drewN | apply below_drew1) | exact HB.out)⟩⟩
                · rw [if_neg c26] at H
                  have c26b0 : (t484.toList == t489.toList) = false := beq_eq_false_iff_ne.mpr c26
                  have c26b1 : (t484.toList != t489.toList) = true := bne_iff_ne.mpr c26
                  have H' := Aside0.mk H
                  clear H
                  go_wp2_with (first | (go_at_call 35; (with_reducible refine (integer_FromInt.calls (wrap64 ((wrap64 (a0)) + (wrap64 (a1)))) t488 _ ?side1 A23.out).mono ?_); (case side1 => exact Laid.on HT.out (by repeat (first | (with_reducible first | exact HB.out | apply below_alloc | apply pw_below_drewN | apply below_drew1) | exact HB.out))); rintro e w31 ⟨rfl, hb⟩; have n0_ := Aside0.mk (below_step (by repeat (first | (with_reducible first | exact HB.out | apply below_alloc | apply pw_below_drewN | apply below_drew1) | exact HB.out)) hb); clear HB; have HB := n0_; clear n0_; (try clear hb); (try clear hb2); (try clear hk); (try clear hi)) | (go_at_call 35; (with_reducible refine (integer_FromInt.calls (wrap64 ((wrap64 (a0)) - (wrap64 (a1)))) t489 _ ?side1 A25.out).mono ?_); (case side1 => exact Laid.on HT.out (by repeat (first | (with_reducible first | exact HB.out | apply below_alloc | apply pw_below_drewN | apply below_drew1) | exact HB.out))); rintro e w32 ⟨rfl, hb⟩; have n0_ := Aside0.mk (below_step (by repeat (first | (with_reducible first | exact HB.out | apply below_alloc | apply pw_below_drewN | apply below_drew1) | exact HB.out)) hb); clear HB; have HB := n0_; clear n0_; (try clear hb); (try clear hb2); (try clear hk); (try clear hi)))
                  go_meet
                  case rel => exact ⟨_, (true), (by first | rfl | (simp; done) | (simp [*]; done)), H', ⟨by first | omega | exact Nat.le_refl _⟩, ⟨by repeat (first | (with_reducible first | exact HB.out | apply below_alloc | apply pw_below_drewN | apply below_drew1) | exact HB.out)⟩⟩
              · rw [if_neg c24] at H
                have c24b0 : (t482.toList == t488.toList) = false := beq_eq_false_iff_ne.mpr c24
                have c24b1 : (t482.toList != t488.toList) = true := bne_iff_ne.mpr c24
                have H' := Aside0.mk H
                clear H
                go_wp2_with (first | (go_at_call 35; (with_reducible refine (integer_FromInt.calls (wrap64 ((wrap64 (a0)) + (wrap64 (a1)))) t488 _ ?side1 A23.out).mono ?_); (case side1 => exact Laid.on HT.out (by repeat (first | (with_reducible first | exact HB.out | apply below_alloc | apply pw_below_drewN | apply below_drew1) | exact HB.out))); rintro e w33 ⟨rfl, hb⟩; have n0_ := Aside0.mk (below_step (by repeat (first | (with_reducible first | exact HB.out | apply below_alloc | apply pw_below_drewN | apply below_drew1) | exact HB.out)) hb); clear HB; have HB := n0_; clear n0_; (try clear hb); (try clear hb2); (try clear hk); (try clear hi)))
                go_meet
                case rel => exact ⟨_, (true), (by first | rfl | (simp; done) | (simp [*]; done)), H', ⟨by first | omega | exact Nat.le_refl _⟩, ⟨by repeat (first | (with_reducible first | exact HB.out | apply below_alloc | apply pw_below_drewN | apply below_drew1) | exact HB.out)⟩⟩
            · rw [if_neg c22] at H
              have c22b0 : (t480 == (wrap64 (a0))) = false := beq_eq_false_iff_ne.mpr c22
              have c22b1 : (t480 != (wrap64 (a0))) = true := bne_iff_ne.mpr c22
              have H' := Aside0.mk H
              clear H
              go_wp2
              go_meet
              case rel => exact ⟨_, (true), (by first | rfl | (simp; done) | (simp [*]; done)), H', ⟨by first | omega | exact Nat.le_refl _⟩, ⟨by repeat (first | (with_reducible first | exact HB.out | apply below_alloc | apply pw_below_drewN | apply below_drew1) | exact HB.out)⟩⟩
          · rw [if_neg c21] at H
            have c21b0 : (t487 == 0) = false := beq_eq_false_iff_ne.mpr c21
            have c21b1 : (t487 != 0) = true := bne_iff_ne.mpr c21
            have H' := Aside0.mk H
            clear H
            go_wp2
            go_meet
            case rel => exact ⟨_, (true), (by first | rfl | (simp; done) | (simp [*]; done)), H', ⟨by first | omega | exact Nat.le_refl _⟩, ⟨by repeat (first | (with_reducible first | exact HB.out | apply below_alloc | apply pw_below_drewN | apply below_drew1) | exact HB.out)⟩⟩
        · rw [if_neg c20] at H
          have c20b0 : (t485 == 0) = false := beq_eq_false_iff_ne.mpr c20
          have c20b1 : (t485 != 0) = true := bne_iff_ne.mpr c20
          have H' := Aside0.mk H
          clear H
          go_wp2
          go_meet
          case rel => exact ⟨_, (true), (by first | rfl | (simp; done) | (simp [*]; done)), H', ⟨by first | omega | exact Nat.le_refl _⟩, ⟨by repeat (first | (with_reducible first | exact HB.out | apply below_alloc | apply pw_below_drewN | apply below_drew1) | exact HB.out)⟩⟩
      · rw [if_neg c19] at H
        have c19b0 : (t483 == 0) = false := beq_eq_false_iff_ne.mpr c19
        have c19b1 : (t483 != 0) = true := bne_iff_ne.mpr c19
        have H' := Aside0.mk H
        clear H
        go_wp2
        go_meet
        case rel => exact ⟨_, (true), (by first | rfl | (simp; done) | (simp [*]; done)), H', ⟨by first | omega | exact Nat.le_refl _⟩, ⟨by repeat (first | (with_reducible first | exact HB.out | apply below_alloc | apply pw_below_drewN | apply below_drew1) | exact HB.out)⟩⟩
    · rw [if_neg c18] at H
      have c18b0 : (t481 == 0) = false := beq_eq_false_iff_ne.mpr c18
      have c18b1 : (t481 != 0) = true := bne_iff_ne.mpr c18
      (first | rw [c18b0] | (simp only [i64_w, i32_w]; rw [c18b0]) | skip)
      have H' := Aside0.mk H
      clear H
      go_wp2
      go_meet
      case rel => exact ⟨_, (true), (by first | rfl | (simp; done) | (simp [*]; done)), H', ⟨by first | omega | exact Nat.le_refl _⟩, ⟨by repeat (first | (with_reducible first | exact HB.out | apply below_alloc | apply pw_below_drewN | apply below_drew1) | exact HB.out)⟩⟩
  case rest =>
    clear HC10
    try clear c1
    try clear c2
    try clear p2
    try clear c3
    try clear p6
    try clear c10
    try clear c12
    try clear c14
    try clear c15
    try clear c16
    try clear c18
    try clear c18b0
    try clear c18b1
    try clear c19
    try clear c19b0
    try clear c19b1
    try clear c20
    try clear c20b0
    try clear c20b1
    try clear c21
    try clear c21b0
    try clear c21b1
    try clear c22
    try clear c22b0
    try clear c22b1
    try clear c24
    try clear c24b0
    try clear c24b1
    try clear c26
    try clear c26b0
    try clear c26b1
    try clear c31
    obtain ⟨kq, x98_9, rfl, HA, HJ9, HB⟩ := hcut
    cases kq with
    | zero => exact absurd HA.out (by simp [newswirelaw03_IntegerMachine.j0])
    | succ kj9 =>
      have H := HA.out
      clear HA
      simp only [newswirelaw03_IntegerMachine.j0] at H
      by_cases c34 : x98_9 = true
      · subst c34
        have H1 : (some false) = some r := by rw [if_pos rfl] at H; exact H
        clear H
        have H := H1
        clear H1
        obtain rfl := Option.some.inj H
        go_wp2
        go_ret
        exact ⟨by first | rfl | (simp [errW_none, errW_some] <;> rfl) | (simp [*, errW_none, errW_some] <;> rfl), by repeat (first | (with_reducible first | exact HB.out | apply below_alloc | apply pw_below_drewN | apply below_drew1) | exact HB.out)⟩
      · replace c34 := Bool.eq_false_iff.mpr c34
        subst c34
        have H1 : (if (wrap64 (a0)) < (wrap64 (a1)) then (newswirelaw03_IntegerMachine.j1 kj9 t477 (wrap64 (a0)) (wrap64 (a1)) t478 t479 (-1)) else (newswirelaw03_IntegerMachine.j1 kj9 t477 (wrap64 (a0)) (wrap64 (a1)) t478 t479 0)) = some r := by rw [if_neg (show ¬ (false = true) by decide)] at H; exact H
        clear H
        have H := H1
        clear H1
        have HC35 := Aside0.mk H
        clear H
        go_upto_if 101 with (fail)
        go_cut [18] (fun v18 wc => ∃ (kq : Nat) (x18_34 : Int), v18 = .int .i64 x18_34 ∧ Aside0 (newswirelaw03_IntegerMachine.j1 kq t477 (wrap64 (a0)) (wrap64 (a1)) t478 t479 x18_34 = some r) ∧ Aside0 (kq ≤ kj9) ∧ Aside0 (Below w.heap.size w wc))
        case first =>
          have H := HC35.out
          clear HC35
          by_cases c36 : (wrap64 (a0)) < (wrap64 (a1))
          · rw [if_pos c36] at H
            have c36b0 : decide ((wrap64 (a0)) < (wrap64 (a1))) = true := decide_eq_true c36
            clear c36
            (first | rw [c36b0] | (simp only [i64_w, i32_w]; rw [c36b0]) | skip)
            have H' := Aside0.mk H
            clear H
            go_wp2
            go_meet
            case rel => exact ⟨_, ((-1)), (by first | rfl | (simp; done) | (simp [*]; done)), H', ⟨by have := HJ9.out; first | omega | exact Nat.le_refl _⟩, ⟨by repeat (first | (with_reducible first | exact HB.out | apply below_alloc | apply pw_below_drewN | apply below_drew1) | exact HB.out)⟩⟩
          · rw [if_neg c36] at H
            have c36b0 : decide ((wrap64 (a0)) < (wrap64 (a1))) = false := decide_eq_false c36
            clear c36
            (first | rw [c36b0] | (simp only [i64_w, i32_w]; rw [c36b0]) | skip)
            have H' := Aside0.mk H
            clear H
            go_wp2
            go_meet
            case rel => exact ⟨_, (0), (by first | rfl | (simp; done) | (simp [*]; done)), H', ⟨by have := HJ9.out; first | omega | exact Nat.le_refl _⟩, ⟨by repeat (first | (with_reducible first | exact HB.out | apply below_alloc | apply pw_below_drewN | apply below_drew1) | exact HB.out)⟩⟩
        case rest =>
          clear HC35
          try clear c1
          try clear c2
          try clear p2
          try clear c3
          try clear p6
          try clear c10
          try clear c12
          try clear c14
          try clear c15
          try clear c16
          try clear c18
          try clear c18b0
          try clear c18b1
          try clear c19
          try clear c19b0
          try clear c19b1
          try clear c20
          try clear c20b0
          try clear c20b1
          try clear c21
          try clear c21b0
          try clear c21b1
          try clear c22
          try clear c22b0
          try clear c22b1
          try clear c24
          try clear c24b0
          try clear c24b1
          try clear c26
          try clear c26b0
          try clear c26b1
          try clear c31
          try clear c34
          try clear c35
          try clear c36
          try clear c36b0
          try clear p2
          try clear p6
          obtain ⟨kq, x18_34, rfl, HA, HJ34, HB⟩ := hcut
          cases kq with
          | zero => exact absurd HA.out (by simp [newswirelaw03_IntegerMachine.j1])
          | succ kj34 =>
            have H := HA.out
            clear HA
            simp only [newswirelaw03_IntegerMachine.j1] at H
            have HC37 := Aside0.mk H
            clear H
            go_upto_if 104 with (fail)
            go_cut [18] (fun v18 wc => ∃ (kq : Nat) (x18_36 : Int), v18 = .int .i64 x18_36 ∧ Aside0 (newswirelaw03_IntegerMachine.j2 kq t477 (wrap64 (a0)) (wrap64 (a1)) t478 t479 x18_36 = some r) ∧ Aside0 (kq ≤ kj34) ∧ Aside0 (Below w.heap.size w wc))
            case first =>
              have H := HC37.out
              clear HC37
              by_cases c38 : (wrap64 (a0)) > (wrap64 (a1))
              · rw [if_pos c38] at H
                have c38b0 : decide ((wrap64 (a1)) < (wrap64 (a0))) = true := decide_eq_true c38
                clear c38
                (first | rw [c38b0] | (simp only [i64_w, i32_w]; rw [c38b0]) | skip)
                have H' := Aside0.mk H
                clear H
                go_wp2
                go_meet
                case rel => exact ⟨_, (1), (by first | rfl | (simp; done) | (simp [*]; done)), H', ⟨by have := HJ9.out; have := HJ34.out; first | omega | exact Nat.le_refl _⟩, ⟨by repeat (first | (with_reducible first | exact HB.out | apply below_alloc | apply pw_below_drewN | apply below_drew1) | exact HB.out)⟩⟩
              · rw [if_neg c38] at H
                have c38b0 : decide ((wrap64 (a1)) < (wrap64 (a0))) = false := decide_eq_false c38
                clear c38
                (first | rw [c38b0] | (simp only [i64_w, i32_w]; rw [c38b0]) | skip)
                have H' := Aside0.mk H
                clear H
                go_wp2
                go_meet
                case rel => exact ⟨_, (x18_34), (by first | rfl | (simp; done) | (simp [*]; done)), H', ⟨by have := HJ9.out; have := HJ34.out; first | omega | exact Nat.le_refl _⟩, ⟨by repeat (first | (with_reducible first | exact HB.out | apply below_alloc | apply pw_below_drewN | apply below_drew1) | exact HB.out)⟩⟩
            case rest =>
              clear HC37
              try clear c1
              try clear c2
              try clear p2
              try clear c3
              try clear p6
              try clear c10
              try clear c12
              try clear c14
              try clear c15
              try clear c16
              try clear c18
              try clear c18b0
              try clear c18b1
              try clear c19
              try clear c19b0
              try clear c19b1
              try clear c20
              try clear c20b0
              try clear c20b1
              try clear c21
              try clear c21b0
              try clear c21b1
              try clear c22
              try clear c22b0
              try clear c22b1
              try clear c24
              try clear c24b0
              try clear c24b1
              try clear c26
              try clear c26b0
              try clear c26b1
              try clear c31
              try clear c34
              try clear c35
              try clear c36
              try clear c36b0
              try clear c38
              try clear c38b0
              try clear p2
              try clear p6
              obtain ⟨kq, x18_36, rfl, HA, HJ36, HB⟩ := hcut
              cases kq with
              | zero => exact absurd HA.out (by simp [newswirelaw03_IntegerMachine.j2])
              | succ kj36 =>
                have H := HA.out
                clear HA
                simp only [newswirelaw03_IntegerMachine.j2] at H
                replace H := Option.bind_eq_some_iff.mp H
                obtain ⟨t491, A390, H⟩ := H
                replace H : (if t491 = x18_36 then ((integer_Div.f t478 t479).bind fun bt492 => (if (wrap64 (a1)) = 0 then (if t477 = true then (if bt492.2.2 = 30 then (if bt492.1.toList = ([] : List UInt8) then (some (bt492.2.1.toList == ([] : List UInt8))) else (some false)) else (some false)) else (some false)) else (if (Int.tmod (wrap64 (a0)) (wrap64 (a1))) < 0 then (newswirelaw03_IntegerMachine.j3 kj36 t477 (wrap64 (a1)) bt492.1 bt492.2.1 bt492.2.2 (Int.tmod (wrap64 (a0)) (wrap64 (a1))) (wrap64 (Int.tdiv (wrap64 (a0)) (wrap64 (a1)))) (decide ((wrap64 (a1)) > 0))) else (newswirelaw03_IntegerMachine.j3 kj36 t477 (wrap64 (a1)) bt492.1 bt492.2.1 bt492.2.2 (Int.tmod (wrap64 (a0)) (wrap64 (a1))) (wrap64 (Int.tdiv (wrap64 (a0)) (wrap64 (a1)))) false)))) else (some false)) = some r := H
                have A39 := Aside0.mk A390
                clear A390
                by_cases c40 : t491 = x18_36
                · rw [if_pos c40] at H
                  have c40b0 : (t491 == x18_36) = true := beq_iff_eq.mpr c40
                  have c40b1 : (t491 != x18_36) = false := bne_eq_false_iff_eq.mpr c40
                  clear c40
                  replace H := Option.bind_eq_some_iff.mp H
                  obtain ⟨⟨t492, t493, t494⟩, A410, H⟩ := H
                  replace H : (if (wrap64 (a1)) = 0 then (if t477 = true then (if t494 = 30 then (if t492.toList = ([] : List UInt8) then (some (t493.toList == ([] : List UInt8))) else (some false)) else (some false)) else (some false)) else (if (Int.tmod (wrap64 (a0)) (wrap64 (a1))) < 0 then (newswirelaw03_IntegerMachine.j3 kj36 t477 (wrap64 (a1)) t492 t493 t494 (Int.tmod (wrap64 (a0)) (wrap64 (a1))) (wrap64 (Int.tdiv (wrap64 (a0)) (wrap64 (a1)))) (decide ((wrap64 (a1)) > 0))) else (newswirelaw03_IntegerMachine.j3 kj36 t477 (wrap64 (a1)) t492 t493 t494 (Int.tmod (wrap64 (a0)) (wrap64 (a1))) (wrap64 (Int.tdiv (wrap64 (a0)) (wrap64 (a1)))) false))) = some r := H
                  have A41 := Aside0.mk A410
                  clear A410
                  by_cases c42 : (wrap64 (a1)) = 0
                  · rw [if_pos c42] at H
                    have c42b0 : ((wrap64 (a1)) == 0) = true := beq_iff_eq.mpr c42
                    have c42b1 : ((wrap64 (a1)) != 0) = false := bne_eq_false_iff_eq.mpr c42
                    clear c42
                    by_cases c43 : t477 = true
                    · subst c43
                      have H1 : (if t494 = 30 then (if t492.toList = ([] : List UInt8) then (some (t493.toList == ([] : List UInt8))) else (some false)) else (some false)) = some r := by rw [if_pos rfl] at H; exact H
                      clear H
                      have H := H1
                      clear H1
                      by_cases c44 : t494 = 30
                      · rw [if_pos c44] at H
                        have c44b0 : (t494 == 30) = true := beq_iff_eq.mpr c44
                        have c44b1 : (t494 != 30) = false := bne_eq_false_iff_eq.mpr c44
                        clear c44
                        by_cases c45 : t492.toList = ([] : List UInt8)
                        · rw [if_pos c45] at H
                          have c45b0 : (t492.toList == ([] : List UInt8)) = true := beq_iff_eq.mpr c45
                          have c45b1 : (t492.toList != ([] : List UInt8)) = false := bne_eq_false_iff_eq.mpr c45
                          clear c45
                          obtain rfl := Option.some.inj H
                          go_wp2_with (first | ((with_reducible refine gate_callee (f := 18) rfl ?_); refine goesL_ (some 107) rfl rfl Tryz.func18 (by kernel_rfl) rfl #[.string t478, .string t479] rfl (by (try simp only [List.map_toArray, List.map_cons, List.map_nil]); first | done | rfl | (simp only [List.length_drop, List.length_take]; rfl)) ?_; (with_reducible refine (integer_Compare.calls t478 t479 t491 _ ?side1 A39.out).mono ?_); (case side1 => exact Laid.on HT.out (by repeat (first | (with_reducible first | exact HB.out | apply below_alloc | apply pw_below_drewN | apply below_drew1) | exact HB.out))); rintro e w46 ⟨rfl, hb⟩; refine ⟨_, rfl, ?_⟩; have n0_ := Aside0.mk (below_step (by repeat (first | (with_reducible first | exact HB.out | apply below_alloc | apply pw_below_drewN | apply below_drew1) | exact HB.out)) hb); clear HB; have HB := n0_; clear n0_; (try clear hb); (try clear hb2); (try clear hk); (try clear hi)) | ((with_reducible refine gate_callee (f := 17) rfl ?_); refine goesL_ (some 113) rfl rfl Tryz.func17 (by kernel_rfl) rfl #[.string t478, .string t479] rfl (by (try simp only [List.map_toArray, List.map_cons, List.map_nil]); first | done | rfl | (simp only [List.length_drop, List.length_take]; rfl)) ?_; (with_reducible refine (integer_Div.calls t478 t479 t492 t493 t494 _ ?side1 A41.out).mono ?_); (case side1 => exact Laid.on HT.out (by repeat (first | (with_reducible first | exact HB.out | apply below_alloc | apply pw_below_drewN | apply below_drew1) | exact HB.out))); rintro e w47 ⟨rfl, hb⟩; refine ⟨_, rfl, ?_⟩; have n0_ := Aside0.mk (below_step (by repeat (first | (with_reducible first | exact HB.out | apply below_alloc | apply pw_below_drewN | apply below_drew1) | exact HB.out)) hb); clear HB; have HB := n0_; clear n0_; (try clear hb); (try clear hb2); (try clear hk); (try clear hi)))
                          go_ret
                          exact ⟨by first | rfl | (simp [errW_none, errW_some] <;> rfl) | (simp [*, errW_none, errW_some] <;> rfl), by repeat (first | (with_reducible first | exact HB.out | apply below_alloc | apply pw_below_drewN | apply below_drew1) | exact HB.out)⟩
                        · rw [if_neg c45] at H
                          have c45b0 : (t492.toList == ([] : List UInt8)) = false := beq_eq_false_iff_ne.mpr c45
                          have c45b1 : (t492.toList != ([] : List UInt8)) = true := bne_iff_ne.mpr c45
                          obtain rfl := Option.some.inj H
                          go_wp2_with (first | ((with_reducible refine gate_callee (f := 18) rfl ?_); refine goesL_ (some 107) rfl rfl Tryz.func18 (by kernel_rfl) rfl #[.string t478, .string t479] rfl (by (try simp only [List.map_toArray, List.map_cons, List.map_nil]); first | done | rfl | (simp only [List.length_drop, List.length_take]; rfl)) ?_; (with_reducible refine (integer_Compare.calls t478 t479 t491 _ ?side1 A39.out).mono ?_); (case side1 => exact Laid.on HT.out (by repeat (first | (with_reducible first | exact HB.out | apply below_alloc | apply pw_below_drewN | apply below_drew1) | exact HB.out))); rintro e w48 ⟨rfl, hb⟩; refine ⟨_, rfl, ?_⟩; have n0_ := Aside0.mk (below_step (by repeat (first | (with_reducible first | exact HB.out | apply below_alloc | apply pw_below_drewN | apply below_drew1) | exact HB.out)) hb); clear HB; have HB := n0_; clear n0_; (try clear hb); (try clear hb2); (try clear hk); (try clear hi)) | ((with_reducible refine gate_callee (f := 17) rfl ?_); refine goesL_ (some 113) rfl rfl Tryz.func17 (by kernel_rfl) rfl #[.string t478, .string t479] rfl (by (try simp only [List.map_toArray, List.map_cons, List.map_nil]); first | done | rfl | (simp only [List.length_drop, List.length_take]; rfl)) ?_; (with_reducible refine (integer_Div.calls t478 t479 t492 t493 t494 _ ?side1 A41.out).mono ?_); (case side1 => exact Laid.on HT.out (by repeat (first | (with_reducible first | exact HB.out | apply below_alloc | apply pw_below_drewN | apply below_drew1) | exact HB.out))); rintro e w49 ⟨rfl, hb⟩; refine ⟨_, rfl, ?_⟩; have n0_ := Aside0.mk (below_step (by repeat (first | (with_reducible first | exact HB.out | apply below_alloc | apply pw_below_drewN | apply below_drew1) | exact HB.out)) hb); clear HB; have HB := n0_; clear n0_; (try clear hb); (try clear hb2); (try clear hk); (try clear hi)))
                          go_ret
                          exact ⟨by first | rfl | (simp [errW_none, errW_some] <;> rfl) | (simp [*, errW_none, errW_some] <;> rfl), by repeat (first | (with_reducible first | exact HB.out | apply below_alloc | apply pw_below_drewN | apply below_drew1) | exact HB.out)⟩
                      · rw [if_neg c44] at H
                        have c44b0 : (t494 == 30) = false := beq_eq_false_iff_ne.mpr c44
                        have c44b1 : (t494 != 30) = true := bne_iff_ne.mpr c44
                        obtain rfl := Option.some.inj H
                        go_wp2_with (first | ((with_reducible refine gate_callee (f := 18) rfl ?_); refine goesL_ (some 107) rfl rfl Tryz.func18 (by kernel_rfl) rfl #[.string t478, .string t479] rfl (by (try simp only [List.map_toArray, List.map_cons, List.map_nil]); first | done | rfl | (simp only [List.length_drop, List.length_take]; rfl)) ?_; (with_reducible refine (integer_Compare.calls t478 t479 t491 _ ?side1 A39.out).mono ?_); (case side1 => exact Laid.on HT.out (by repeat (first | (with_reducible first | exact HB.out | apply below_alloc | apply pw_below_drewN | apply below_drew1) | exact HB.out))); rintro e w50 ⟨rfl, hb⟩; refine ⟨_, rfl, ?_⟩; have n0_ := Aside0.mk (below_step (by repeat (first | (with_reducible first | exact HB.out | apply below_alloc | apply pw_below_drewN | apply below_drew1) | exact HB.out)) hb); clear HB; have HB := n0_; clear n0_; (try clear hb); (try clear hb2); (try clear hk); (try clear hi)) | ((with_reducible refine gate_callee (f := 17) rfl ?_); refine goesL_ (some 113) rfl rfl Tryz.func17 (by kernel_rfl) rfl #[.string t478, .string t479] rfl (by (try simp only [List.map_toArray, List.map_cons, List.map_nil]); first | done | rfl | (simp only [List.length_drop, List.length_take]; rfl)) ?_; (with_reducible refine (integer_Div.calls t478 t479 t492 t493 t494 _ ?side1 A41.out).mono ?_); (case side1 => exact Laid.on HT.out (by repeat (first | (with_reducible first | exact HB.out | apply below_alloc | apply pw_below_drewN | apply below_drew1) | exact HB.out))); rintro e w51 ⟨rfl, hb⟩; refine ⟨_, rfl, ?_⟩; have n0_ := Aside0.mk (below_step (by repeat (first | (with_reducible first | exact HB.out | apply below_alloc | apply pw_below_drewN | apply below_drew1) | exact HB.out)) hb); clear HB; have HB := n0_; clear n0_; (try clear hb); (try clear hb2); (try clear hk); (try clear hi)))
                        go_ret
                        exact ⟨by first | rfl | (simp [errW_none, errW_some] <;> rfl) | (simp [*, errW_none, errW_some] <;> rfl), by repeat (first | (with_reducible first | exact HB.out | apply below_alloc | apply pw_below_drewN | apply below_drew1) | exact HB.out)⟩
                    · replace c43 := Bool.eq_false_iff.mpr c43
                      subst c43
                      have H1 : (some false) = some r := by rw [if_neg (show ¬ (false = true) by decide)] at H; exact H
                      clear H
                      have H := H1
                      clear H1
                      obtain rfl := Option.some.inj H
                      go_wp2_with (first | ((with_reducible refine gate_callee (f := 18) rfl ?_); refine goesL_ (some 107) rfl rfl Tryz.func18 (by kernel_rfl) rfl #[.string t478, .string t479] rfl (by (try simp only [List.map_toArray, List.map_cons, List.map_nil]); first | done | rfl | (simp only [List.length_drop, List.length_take]; rfl)) ?_; (with_reducible refine (integer_Compare.calls t478 t479 t491 _ ?side1 A39.out).mono ?_); (case side1 => exact Laid.on HT.out (by repeat (first | (with_reducible first | exact HB.out | apply below_alloc | apply pw_below_drewN | apply below_drew1) | exact HB.out))); rintro e w52 ⟨rfl, hb⟩; refine ⟨_, rfl, ?_⟩; have n0_ := Aside0.mk (below_step (by repeat (first | (with_reducible first | exact HB.out | apply below_alloc | apply pw_below_drewN | apply below_drew1) | exact HB.out)) hb); clear HB; have HB := n0_; clear n0_; (try clear hb); (try clear hb2); (try clear hk); (try clear hi)) | ((with_reducible refine gate_callee (f := 17) rfl ?_); refine goesL_ (some 113) rfl rfl Tryz.func17 (by kernel_rfl) rfl #[.string t478, .string t479] rfl (by (try simp only [List.map_toArray, List.map_cons, List.map_nil]); first | done | rfl | (simp only [List.length_drop, List.length_take]; rfl)) ?_; (with_reducible refine (integer_Div.calls t478 t479 t492 t493 t494 _ ?side1 A41.out).mono ?_); (case side1 => exact Laid.on HT.out (by repeat (first | (with_reducible first | exact HB.out | apply below_alloc | apply pw_below_drewN | apply below_drew1) | exact HB.out))); rintro e w53 ⟨rfl, hb⟩; refine ⟨_, rfl, ?_⟩; have n0_ := Aside0.mk (below_step (by repeat (first | (with_reducible first | exact HB.out | apply below_alloc | apply pw_below_drewN | apply below_drew1) | exact HB.out)) hb); clear HB; have HB := n0_; clear n0_; (try clear hb); (try clear hb2); (try clear hk); (try clear hi)))
                      go_ret
                      exact ⟨by first | rfl | (simp [errW_none, errW_some] <;> rfl) | (simp [*, errW_none, errW_some] <;> rfl), by repeat (first | (with_reducible first | exact HB.out | apply below_alloc | apply pw_below_drewN | apply below_drew1) | exact HB.out)⟩
                  · rw [if_neg c42] at H
                    have c42b0 : ((wrap64 (a1)) == 0) = false := beq_eq_false_iff_ne.mpr c42
                    have c42b1 : ((wrap64 (a1)) != 0) = true := bne_iff_ne.mpr c42
                    have HC54 := Aside0.mk H
                    clear H
                    go_upto_region 24 with (first | ((with_reducible refine gate_callee (f := 18) rfl ?_); refine goesL_ (some 107) rfl rfl Tryz.func18 (by kernel_rfl) rfl #[.string t478, .string t479] rfl (by (try simp only [List.map_toArray, List.map_cons, List.map_nil]); first | done | rfl | (simp only [List.length_drop, List.length_take]; rfl)) ?_; (with_reducible refine (integer_Compare.calls t478 t479 t491 _ ?side1 A39.out).mono ?_); (case side1 => exact Laid.on HT.out (by repeat (first | (with_reducible first | exact HB.out | apply below_alloc | apply pw_below_drewN | apply below_drew1) | exact HB.out))); rintro e w55 ⟨rfl, hb⟩; refine ⟨_, rfl, ?_⟩; have n0_ := Aside0.mk (below_step (by repeat (first | (with_reducible first | exact HB.out | apply below_alloc | apply pw_below_drewN | apply below_drew1) | exact HB.out)) hb); clear HB; have HB := n0_; clear n0_; (try clear hb); (try clear hb2); (try clear hk); (try clear hi)) | ((with_reducible refine gate_callee (f := 17) rfl ?_); refine goesL_ (some 113) rfl rfl Tryz.func17 (by kernel_rfl) rfl #[.string t478, .string t479] rfl (by (try simp only [List.map_toArray, List.map_cons, List.map_nil]); first | done | rfl | (simp only [List.length_drop, List.length_take]; rfl)) ?_; (with_reducible refine (integer_Div.calls t478 t479 t492 t493 t494 _ ?side1 A41.out).mono ?_); (case side1 => exact Laid.on HT.out (by repeat (first | (with_reducible first | exact HB.out | apply below_alloc | apply pw_below_drewN | apply below_drew1) | exact HB.out))); rintro e w56 ⟨rfl, hb⟩; refine ⟨_, rfl, ?_⟩; have n0_ := Aside0.mk (below_step (by repeat (first | (with_reducible first | exact HB.out | apply below_alloc | apply pw_below_drewN | apply below_drew1) | exact HB.out)) hb); clear HB; have HB := n0_; clear n0_; (try clear hb); (try clear hb2); (try clear hk); (try clear hi)))
                    (try simp only [Act.put, List.setIfInBounds_toArray, List.set_cons_zero, List.set_cons_succ])
                    go_cut [143] (fun v143 wc => ∃ (kq : Nat) (x143_53 : Bool), v143 = .bool x143_53 ∧ Aside0 (newswirelaw03_IntegerMachine.j3 kq t477 (wrap64 (a1)) t492 t493 t494 (Int.tmod (wrap64 (a0)) (wrap64 (a1))) (wrap64 (Int.tdiv (wrap64 (a0)) (wrap64 (a1)))) x143_53 = some r) ∧ Aside0 (kq ≤ kj36) ∧ Aside0 (Below w.heap.size w wc))
                    case first =>
                      have H := HC54.out
                      clear HC54
                      by_cases c57 : (Int.tmod (wrap64 (a0)) (wrap64 (a1))) < 0
                      · rw [if_pos c57] at H
                        have c57b0 : decide ((Int.tmod (wrap64 (a0)) (wrap64 (a1))) < 0) = true := decide_eq_true c57
                        clear c57
                        (first | rw [c57b0] | (simp only [i64_w, i32_w]; rw [c57b0]) | skip)
                        have H' := Aside0.mk H
                        clear H
                        go_wp2
                        go_meet
                        case rel => exact ⟨_, (decide ((wrap64 (a1)) > 0)), (by first | rfl | (simp; done) | (simp [*]; done)), H', ⟨by have := HJ9.out; have := HJ34.out; have := HJ36.out; first | omega | exact Nat.le_refl _⟩, ⟨by repeat (first | (with_reducible first | exact HB.out | apply below_alloc | apply pw_below_drewN | apply below_drew1) | exact HB.out)⟩⟩
                      · rw [if_neg c57] at H
                        have c57b0 : decide ((Int.tmod (wrap64 (a0)) (wrap64 (a1))) < 0) = false := decide_eq_false c57
                        clear c57
                        (first | rw [c57b0] | (simp only [i64_w, i32_w]; rw [c57b0]) | skip)
                        have H' := Aside0.mk H
                        clear H
                        go_wp2
                        go_meet
                        case rel => exact ⟨_, (false), (by first | rfl | (simp; done) | (simp [*]; done)), H', ⟨by have := HJ9.out; have := HJ34.out; have := HJ36.out; first | omega | exact Nat.le_refl _⟩, ⟨by repeat (first | (with_reducible first | exact HB.out | apply below_alloc | apply pw_below_drewN | apply below_drew1) | exact HB.out)⟩⟩
                    case rest =>
                      clear HC54
                      try clear c1
                      try clear c2
                      try clear p2
                      try clear c3
                      try clear c4
                      try clear c5
                      try clear p6
                      try clear c10
                      try clear c12
                      try clear c14
                      try clear c15
                      try clear c16
                      try clear c17
                      try clear c18
                      try clear c18b0
                      try clear c18b1
                      try clear c19
                      try clear c19b0
                      try clear c19b1
                      try clear c20
                      try clear c20b0
                      try clear c20b1
                      try clear c21
                      try clear c21b0
                      try clear c21b1
                      try clear c22
                      try clear c22b0
                      try clear c22b1
                      try clear c24
                      try clear c24b0
                      try clear c24b1
                      try clear c26
                      try clear c26b0
                      try clear c26b1
                      try clear c31
                      try clear c34
                      try clear c35
                      try clear c36
                      try clear c36b0
                      try clear c38
                      try clear c38b0
                      try clear c40
                      try clear c40b0
                      try clear c40b1
                      try clear c42
                      try clear c42b0
                      try clear c42b1
                      try clear c43
                      try clear c44
                      try clear c44b0
                      try clear c44b1
                      try clear c45
                      try clear c45b0
                      try clear c45b1
                      try clear c57
                      try clear c57b0
                      try clear p2
                      try clear p6
                      obtain ⟨kq, x143_53, rfl, HA, HJ53, HB⟩ := hcut
                      cases kq with
                      | zero => exact absurd HA.out (by simp [newswirelaw03_IntegerMachine.j3])
                      | succ kj53 =>
                        have H := HA.out
                        clear HA
                        simp only [newswirelaw03_IntegerMachine.j3] at H
                        have HC58 := Aside0.mk H
                        clear H
                        go_upto_if 143 with (fail)
                        go_cut [22, 23] (fun v22 v23 wc => ∃ (kq : Nat) (x22_57 : Int) (x23_57 : Int), v22 = .int .i64 x22_57 ∧ v23 = .int .i64 x23_57 ∧ Aside0 (newswirelaw03_IntegerMachine.j4 kq t477 (wrap64 (a1)) t492 t493 t494 x22_57 x23_57 = some r) ∧ Aside0 (kq ≤ kj53) ∧ Aside0 (Below w.heap.size w wc))
                        case first =>
                          have H := HC58.out
                          clear HC58
                          by_cases c59 : x143_53 = true
                          · subst c59
                            have H1 : (newswirelaw03_IntegerMachine.j4 kj53 t477 (wrap64 (a1)) t492 t493 t494 (wrap64 ((Int.tmod (wrap64 (a0)) (wrap64 (a1))) + (wrap64 (a1)))) (wrap64 ((wrap64 (Int.tdiv (wrap64 (a0)) (wrap64 (a1)))) - 1))) = some r := by rw [if_pos rfl] at H; exact H
                            clear H
                            have H := H1
                            clear H1
                            have H' := Aside0.mk H
                            clear H
                            go_wp2
                            go_meet
                            case rel => exact ⟨_, (wrap64 ((Int.tmod (wrap64 (a0)) (wrap64 (a1))) + (wrap64 (a1)))), (wrap64 ((wrap64 (Int.tdiv (wrap64 (a0)) (wrap64 (a1)))) - 1)), (by first | rfl | (simp; done) | (simp [*]; done)), (by first | rfl | (simp; done) | (simp [*]; done)), H', ⟨by have := HJ9.out; have := HJ34.out; have := HJ36.out; have := HJ53.out; first | omega | exact Nat.le_refl _⟩, ⟨by repeat (first | (with_reducible first | exact HB.out | apply below_alloc | apply pw_below_drewN | apply below_drew1) | exact HB.out)⟩⟩
                          · replace c59 := Bool.eq_false_iff.mpr c59
                            subst c59
                            have H1 : (newswirelaw03_IntegerMachine.j4 kj53 t477 (wrap64 (a1)) t492 t493 t494 (Int.tmod (wrap64 (a0)) (wrap64 (a1))) (wrap64 (Int.tdiv (wrap64 (a0)) (wrap64 (a1))))) = some r := by rw [if_neg (show ¬ (false = true) by decide)] at H; exact H
                            clear H
                            have H := H1
                            clear H1
                            have H' := Aside0.mk H
                            clear H
                            go_wp2
                            go_meet
                            case rel => exact ⟨_, ((Int.tmod (wrap64 (a0)) (wrap64 (a1)))), ((wrap64 (Int.tdiv (wrap64 (a0)) (wrap64 (a1))))), (by first | rfl | (simp; done) | (simp [*]; done)), (by first | rfl | (simp; done) | (simp [*]; done)), H', ⟨by have := HJ9.out; have := HJ34.out; have := HJ36.out; have := HJ53.out; first | omega | exact Nat.le_refl _⟩, ⟨by repeat (first | (with_reducible first | exact HB.out | apply below_alloc | apply pw_below_drewN | apply below_drew1) | exact HB.out)⟩⟩
                        case rest =>
                          clear HC58
                          try clear c1
                          try clear c2
                          try clear p2
                          try clear c3
                          try clear c4
                          try clear c5
                          try clear p6
                          try clear c10
                          try clear c12
                          try clear c14
                          try clear c15
                          try clear c16
                          try clear c17
                          try clear c18
                          try clear c18b0
                          try clear c18b1
                          try clear c19
                          try clear c19b0
                          try clear c19b1
                          try clear c20
                          try clear c20b0
                          try clear c20b1
                          try clear c21
                          try clear c21b0
                          try clear c21b1
                          try clear c22
                          try clear c22b0
                          try clear c22b1
                          try clear c24
                          try clear c24b0
                          try clear c24b1
                          try clear c26
                          try clear c26b0
                          try clear c26b1
                          try clear c31
                          try clear c34
                          try clear c35
                          try clear c36
                          try clear c36b0
                          try clear c38
                          try clear c38b0
                          try clear c40
                          try clear c40b0
                          try clear c40b1
                          try clear c42
                          try clear c42b0
                          try clear c42b1
                          try clear c43
                          try clear c44
                          try clear c44b0
                          try clear c44b1
                          try clear c45
                          try clear c45b0
                          try clear c45b1
                          try clear c57
                          try clear c57b0
                          try clear c59
                          try clear p2
                          try clear p6
                          obtain ⟨kq, x22_57, x23_57, rfl, rfl, HA, HJ57, HB⟩ := hcut
                          cases kq with
                          | zero => exact absurd HA.out (by simp [newswirelaw03_IntegerMachine.j4])
                          | succ kj57 =>
                            have H := HA.out
                            clear HA
                            simp only [newswirelaw03_IntegerMachine.j4] at H
                            by_cases c60 : x22_57 < 0
                            · rw [if_pos c60] at H
                              have c60b0 : decide (x22_57 < 0) = true := decide_eq_true c60
                              clear c60
                              by_cases c61 : t477 = true
                              · subst c61
                                have H1 : (if t494 = 0 then ((integer_FromInt.f (wrap64 (x23_57 + 1))).bind fun t495 => (if t492.toList = t495.toList then ((integer_FromInt.f (wrap64 (x22_57 - (wrap64 (a1))))).bind fun t496 => (some (t493.toList == t496.toList))) else (some false))) else (some false)) = some r := by rw [if_pos rfl] at H; exact H
                                clear H
                                have H := H1
                                clear H1
                                by_cases c62 : t494 = 0
                                · rw [if_pos c62] at H
                                  have c62b0 : (t494 == 0) = true := beq_iff_eq.mpr c62
                                  have c62b1 : (t494 != 0) = false := bne_eq_false_iff_eq.mpr c62
                                  clear c62
                                  replace H := Option.bind_eq_some_iff.mp H
                                  obtain ⟨t495, A630, H⟩ := H
                                  replace H : (if t492.toList = t495.toList then ((integer_FromInt.f (wrap64 (x22_57 - (wrap64 (a1))))).bind fun t496 => (some (t493.toList == t496.toList))) else (some false)) = some r := H
                                  have A63 := Aside0.mk A630
                                  clear A630
                                  by_cases c64 : t492.toList = t495.toList
                                  · rw [if_pos c64] at H
                                    have c64b0 : (t492.toList == t495.toList) = true := beq_iff_eq.mpr c64
                                    have c64b1 : (t492.toList != t495.toList) = false := bne_eq_false_iff_eq.mpr c64
                                    clear c64
                                    replace H := Option.bind_eq_some_iff.mp H
                                    obtain ⟨t496, A650, H⟩ := H
                                    replace H : (some (t493.toList == t496.toList)) = some r := H
                                    have A65 := Aside0.mk A650
                                    clear A650
                                    obtain rfl := Option.some.inj H
                                    go_wp2_with (first | (go_at_call 35; (with_reducible refine (integer_FromInt.calls (wrap64 (x23_57 + 1)) t495 _ ?side1 A63.out).mono ?_); (case side1 => exact Laid.on HT.out (by repeat (first | (with_reducible first | exact HB.out | apply below_alloc | apply pw_below_drewN | apply below_drew1) | exact HB.out))); rintro e w66 ⟨rfl, hb⟩; have n0_ := Aside0.mk (below_step (by repeat (first | (with_reducible first | exact HB.out | apply below_alloc | apply pw_below_drewN | apply below_drew1) | exact HB.out)) hb); clear HB; have HB := n0_; clear n0_; (try clear hb); (try clear hb2); (try clear hk); (try clear hi)) | (go_at_call 35; (with_reducible refine (integer_FromInt.calls (wrap64 (x22_57 - (wrap64 (a1)))) t496 _ ?side1 A65.out).mono ?_); (case side1 => exact Laid.on HT.out (by repeat (first | (with_reducible first | exact HB.out | apply below_alloc | apply pw_below_drewN | apply below_drew1) | exact HB.out))); rintro e w67 ⟨rfl, hb⟩; have n0_ := Aside0.mk (below_step (by repeat (first | (with_reducible first | exact HB.out | apply below_alloc | apply pw_below_drewN | apply below_drew1) | exact HB.out)) hb); clear HB; have HB := n0_; clear n0_; (try clear hb); (try clear hb2); (try clear hk); (try clear hi)))
                                    go_ret
                                    exact ⟨by first | rfl | (simp [errW_none, errW_some] <;> rfl) | (simp [*, errW_none, errW_some] <;> rfl), by repeat (first | (with_reducible first | exact HB.out | apply below_alloc | apply pw_below_drewN | apply below_drew1) | exact HB.out)⟩
                                  · rw [if_neg c64] at H
                                    have c64b0 : (t492.toList == t495.toList) = false := beq_eq_false_iff_ne.mpr c64
                                    have c64b1 : (t492.toList != t495.toList) = true := bne_iff_ne.mpr c64
                                    obtain rfl := Option.some.inj H
                                    go_wp2_with (first | (go_at_call 35; (with_reducible refine (integer_FromInt.calls (wrap64 (x23_57 + 1)) t495 _ ?side1 A63.out).mono ?_); (case side1 => exact Laid.on HT.out (by repeat (first | (with_reducible first | exact HB.out | apply below_alloc | apply pw_below_drewN | apply below_drew1) | exact HB.out))); rintro e w68 ⟨rfl, hb⟩; have n0_ := Aside0.mk (below_step (by repeat (first | (with_reducible first | exact HB.out | apply below_alloc | apply pw_below_drewN | apply below_drew1) | exact HB.out)) hb); clear HB; have HB := n0_; clear n0_; (try clear hb); (try clear hb2); (try clear hk); (try clear hi)))
                                    go_ret
                                    exact ⟨by first | rfl | (simp [errW_none, errW_some] <;> rfl) | (simp [*, errW_none, errW_some] <;> rfl), by repeat (first | (with_reducible first | exact HB.out | apply below_alloc | apply pw_below_drewN | apply below_drew1) | exact HB.out)⟩
                                · rw [if_neg c62] at H
                                  have c62b0 : (t494 == 0) = false := beq_eq_false_iff_ne.mpr c62
                                  have c62b1 : (t494 != 0) = true := bne_iff_ne.mpr c62
                                  obtain rfl := Option.some.inj H
                                  go_wp2
                                  go_ret
                                  exact ⟨by first | rfl | (simp [errW_none, errW_some] <;> rfl) | (simp [*, errW_none, errW_some] <;> rfl), by repeat (first | (with_reducible first | exact HB.out | apply below_alloc | apply pw_below_drewN | apply below_drew1) | exact HB.out)⟩
                              · replace c61 := Bool.eq_false_iff.mpr c61
                                subst c61
                                have H1 : (some false) = some r := by rw [if_neg (show ¬ (false = true) by decide)] at H; exact H
                                clear H
                                have H := H1
                                clear H1
                                obtain rfl := Option.some.inj H
                                go_wp2
                                go_ret
                                exact ⟨by first | rfl | (simp [errW_none, errW_some] <;> rfl) | (simp [*, errW_none, errW_some] <;> rfl), by repeat (first | (with_reducible first | exact HB.out | apply below_alloc | apply pw_below_drewN | apply below_drew1) | exact HB.out)⟩
                            · rw [if_neg c60] at H
                              have c60b0 : decide (x22_57 < 0) = false := decide_eq_false c60
                              clear c60
                              by_cases c69 : t477 = true
                              · subst c69
                                have H1 : (if t494 = 0 then ((integer_FromInt.f x23_57).bind fun t497 => (if t492.toList = t497.toList then ((integer_FromInt.f x22_57).bind fun t498 => (some (t493.toList == t498.toList))) else (some false))) else (some false)) = some r := by rw [if_pos rfl] at H; exact H
                                clear H
                                have H := H1
                                clear H1
                                by_cases c70 : t494 = 0
                                · rw [if_pos c70] at H
                                  have c70b0 : (t494 == 0) = true := beq_iff_eq.mpr c70
                                  have c70b1 : (t494 != 0) = false := bne_eq_false_iff_eq.mpr c70
                                  clear c70
                                  replace H := Option.bind_eq_some_iff.mp H
                                  obtain ⟨t497, A710, H⟩ := H
                                  replace H : (if t492.toList = t497.toList then ((integer_FromInt.f x22_57).bind fun t498 => (some (t493.toList == t498.toList))) else (some false)) = some r := H
                                  have A71 := Aside0.mk A710
                                  clear A710
                                  by_cases c72 : t492.toList = t497.toList
                                  · rw [if_pos c72] at H
                                    have c72b0 : (t492.toList == t497.toList) = true := beq_iff_eq.mpr c72
                                    have c72b1 : (t492.toList != t497.toList) = false := bne_eq_false_iff_eq.mpr c72
                                    clear c72
                                    replace H := Option.bind_eq_some_iff.mp H
                                    obtain ⟨t498, A730, H⟩ := H
                                    replace H : (some (t493.toList == t498.toList)) = some r := H
                                    have A73 := Aside0.mk A730
                                    clear A730
                                    obtain rfl := Option.some.inj H
                                    go_wp2_with (first | (go_at_call 35; (with_reducible refine (integer_FromInt.calls x23_57 t497 _ ?side1 A71.out).mono ?_); (case side1 => exact Laid.on HT.out (by repeat (first | (with_reducible first | exact HB.out | apply below_alloc | apply pw_below_drewN | apply below_drew1) | exact HB.out))); rintro e w74 ⟨rfl, hb⟩; have n0_ := Aside0.mk (below_step (by repeat (first | (with_reducible first | exact HB.out | apply below_alloc | apply pw_below_drewN | apply below_drew1) | exact HB.out)) hb); clear HB; have HB := n0_; clear n0_; (try clear hb); (try clear hb2); (try clear hk); (try clear hi)) | (go_at_call 35; (with_reducible refine (integer_FromInt.calls x22_57 t498 _ ?side1 A73.out).mono ?_); (case side1 => exact Laid.on HT.out (by repeat (first | (with_reducible first | exact HB.out | apply below_alloc | apply pw_below_drewN | apply below_drew1) | exact HB.out))); rintro e w75 ⟨rfl, hb⟩; have n0_ := Aside0.mk (below_step (by repeat (first | (with_reducible first | exact HB.out | apply below_alloc | apply pw_below_drewN | apply below_drew1) | exact HB.out)) hb); clear HB; have HB := n0_; clear n0_; (try clear hb); (try clear hb2); (try clear hk); (try clear hi)))
                                    go_ret
                                    exact ⟨by first | rfl | (simp [errW_none, errW_some] <;> rfl) | (simp [*, errW_none, errW_some] <;> rfl), by repeat (first | (with_reducible first | exact HB.out | apply below_alloc | apply pw_below_drewN | apply below_drew1) | exact HB.out)⟩
                                  · rw [if_neg c72] at H
                                    have c72b0 : (t492.toList == t497.toList) = false := beq_eq_false_iff_ne.mpr c72
                                    have c72b1 : (t492.toList != t497.toList) = true := bne_iff_ne.mpr c72
                                    obtain rfl := Option.some.inj H
                                    go_wp2_with (first | (go_at_call 35; (with_reducible refine (integer_FromInt.calls x23_57 t497 _ ?side1 A71.out).mono ?_); (case side1 => exact Laid.on HT.out (by repeat (first | (with_reducible first | exact HB.out | apply below_alloc | apply pw_below_drewN | apply below_drew1) | exact HB.out))); rintro e w76 ⟨rfl, hb⟩; have n0_ := Aside0.mk (below_step (by repeat (first | (with_reducible first | exact HB.out | apply below_alloc | apply pw_below_drewN | apply below_drew1) | exact HB.out)) hb); clear HB; have HB := n0_; clear n0_; (try clear hb); (try clear hb2); (try clear hk); (try clear hi)))
                                    go_ret
                                    exact ⟨by first | rfl | (simp [errW_none, errW_some] <;> rfl) | (simp [*, errW_none, errW_some] <;> rfl), by repeat (first | (with_reducible first | exact HB.out | apply below_alloc | apply pw_below_drewN | apply below_drew1) | exact HB.out)⟩
                                · rw [if_neg c70] at H
                                  have c70b0 : (t494 == 0) = false := beq_eq_false_iff_ne.mpr c70
                                  have c70b1 : (t494 != 0) = true := bne_iff_ne.mpr c70
                                  obtain rfl := Option.some.inj H
                                  go_wp2
                                  go_ret
                                  exact ⟨by first | rfl | (simp [errW_none, errW_some] <;> rfl) | (simp [*, errW_none, errW_some] <;> rfl), by repeat (first | (with_reducible first | exact HB.out | apply below_alloc | apply pw_below_drewN | apply below_drew1) | exact HB.out)⟩
                              · replace c69 := Bool.eq_false_iff.mpr c69
                                subst c69
                                have H1 : (some false) = some r := by rw [if_neg (show ¬ (false = true) by decide)] at H; exact H
                                clear H
                                have H := H1
                                clear H1
                                obtain rfl := Option.some.inj H
                                go_wp2
                                go_ret
                                exact ⟨by first | rfl | (simp [errW_none, errW_some] <;> rfl) | (simp [*, errW_none, errW_some] <;> rfl), by repeat (first | (with_reducible first | exact HB.out | apply below_alloc | apply pw_below_drewN | apply below_drew1) | exact HB.out)⟩
                · rw [if_neg c40] at H
                  have c40b0 : (t491 == x18_36) = false := beq_eq_false_iff_ne.mpr c40
                  have c40b1 : (t491 != x18_36) = true := bne_iff_ne.mpr c40
                  obtain rfl := Option.some.inj H
                  go_wp2_with (first | ((with_reducible refine gate_callee (f := 18) rfl ?_); refine goesL_ (some 107) rfl rfl Tryz.func18 (by kernel_rfl) rfl #[.string t478, .string t479] rfl (by (try simp only [List.map_toArray, List.map_cons, List.map_nil]); first | done | rfl | (simp only [List.length_drop, List.length_take]; rfl)) ?_; (with_reducible refine (integer_Compare.calls t478 t479 t491 _ ?side1 A39.out).mono ?_); (case side1 => exact Laid.on HT.out (by repeat (first | (with_reducible first | exact HB.out | apply below_alloc | apply pw_below_drewN | apply below_drew1) | exact HB.out))); rintro e w77 ⟨rfl, hb⟩; refine ⟨_, rfl, ?_⟩; have n0_ := Aside0.mk (below_step (by repeat (first | (with_reducible first | exact HB.out | apply below_alloc | apply pw_below_drewN | apply below_drew1) | exact HB.out)) hb); clear HB; have HB := n0_; clear n0_; (try clear hb); (try clear hb2); (try clear hk); (try clear hi)))
                  go_ret
                  exact ⟨by first | rfl | (simp [errW_none, errW_some] <;> rfl) | (simp [*, errW_none, errW_some] <;> rfl), by repeat (first | (with_reducible first | exact HB.out | apply below_alloc | apply pw_below_drewN | apply below_drew1) | exact HB.out)⟩

/-- THE ONE PURE STATEMENT of newswirelaw03_IntegerMachine: yours. -/
def newswirelaw03_IntegerMachine.Pure : Prop := ∀ (a0 : Int) (a1 : Int), (Lit.int .i32 a0).wf = true → (Lit.int .i32 a1).wf = true → ∃ k, newswirelaw03_IntegerMachine.f k a0 a1 = some true
theorem newswirelaw03_IntegerMachine.walk (P : newswirelaw03_IntegerMachine.Pure) (a0 : Int) (a1 : Int) (w : World) (w0 : (Lit.int .i32 a0).wf = true) (w1 : (Lit.int .i32 a1).wf = true) (hT : Laid w) :
    Calls Tryz.prog 10 #[.int .i32 a0, .int .i32 a1] w fun e w' => e = .returned (.bool true) ∧ Below w.heap.size w w' := by
  obtain ⟨k, h⟩ := P a0 a1 w0 w1
  refine (newswirelaw03_IntegerMachine.calls k a0 a1 true w hT h).mono ?_
  rintro e w' ⟨rfl, hd⟩
  exact ⟨rfl, hd⟩

end Go.Proofs.YthbiafjdilbbnaaGreatDoor.PI
