-- Printed by a program of this session's own, over the kit's print: functions of the program as plain functions, and their calls' contracts.
import Derived.Test.YthbiafjdilbbnaaGreatDoorCPIx0
import Derived.Test.YthbiafjdilbbnaaGreatDoorCPIx1
import Derived.Test.YthbiafjdilbbnaaGreatDoorCPIx2
set_option linter.unusedVariables false
set_option linter.unusedSimpArgs false
namespace Go.Proofs.YthbiafjdilbbnaaGreatDoor.PI
open Go.RowKit Go.Proofs.YthbiafjdilbbnaaGreatDoorW.PrintWords Go.Proofs.YthbiafjdilbbnaaGreatDoorW.PrintLast Go.Proofs.YthbiafjdilbbnaaGreatDoorW.PrintMore
attribute [local go_sem] max2_int min2_int max_two min_two max_three min_three max_four min_four   -- for this text's walks alone
set_option linter.unusedVariables false
set_option linter.unusedSimpArgs false

/-! ### newswirelaw03_IntegerOrder: function 7 -/
def newswirelaw03_IntegerOrder.j0 : Nat → Bool → ByteArray → ByteArray → ByteArray → Int → Bool → Option (Bool)
  | 0, _, _, _, _, _, _ => none
  | k + 1, x7, x8, x9, x10, x11, x92 => if x92 = true then (some false) else (if x7 = true then (if x11 > 0 then (some true) else ((integer_Compare.f x9 x10).bind fun t217 => (if t217 > 0 then (some true) else ((integer_Compare.f x8 x10).bind fun t218 => (some (decide (t218 ≤ 0))))))) else (some false))
def newswirelaw03_IntegerOrder.f (k : Nat) (a0 : ByteArray) (a1 : ByteArray) (a2 : ByteArray) : Option (Bool) := (newswirelaw03_sane.f k).bind fun t203 => ((newswireref03_Made.f k a0 60).bind fun t204 => ((newswireref03_Made.f k a1 60).bind fun t205 => ((newswireref03_Made.f k a2 60).bind fun t206 => ((integer_Compare.f t204 t205).bind fun t207 => ((integer_Sub.f t204 t205).bind fun bt208 => ((integer_Add.f t204 t206).bind fun bt210 => ((integer_Add.f t205 t206).bind fun bt212 => (if bt208.2 = 0 then (if bt210.2 = 0 then (if bt212.2 = 0 then (if t207 < (-1) then (newswirelaw03_IntegerOrder.j0 k t203 t204 t205 t206 t207 true) else (if t207 > 1 then (newswirelaw03_IntegerOrder.j0 k t203 t204 t205 t206 t207 true) else ((integer_Compare.f t205 t204).bind fun t214 => (if t214 = (wrap64 (-t207)) then (if ((t207 == 0) != (t204.toList == t205.toList)) = true then (newswirelaw03_IntegerOrder.j0 k t203 t204 t205 t206 t207 true) else ((integer_Compare.f bt208.1 (⟨#[48]⟩ : ByteArray)).bind fun t215 => (if t215 = t207 then ((integer_Compare.f bt210.1 bt212.1).bind fun t216 => (newswirelaw03_IntegerOrder.j0 k t203 t204 t205 t206 t207 (t216 != t207))) else (newswirelaw03_IntegerOrder.j0 k t203 t204 t205 t206 t207 true)))) else (newswirelaw03_IntegerOrder.j0 k t203 t204 t205 t206 t207 true))))) else (newswirelaw03_IntegerOrder.j0 k t203 t204 t205 t206 t207 true)) else (newswirelaw03_IntegerOrder.j0 k t203 t204 t205 t206 t207 true)) else (newswirelaw03_IntegerOrder.j0 k t203 t204 t205 t206 t207 true)))))))))
theorem newswirelaw03_IntegerOrder.mono_l : ∀ k, (∀ y0 y1 y2 y3 y4 y5, LeO (newswirelaw03_IntegerOrder.j0 k y0 y1 y2 y3 y4 y5) (newswirelaw03_IntegerOrder.j0 (k + 1) y0 y1 y2 y3 y4 y5))
  | 0 => fun _ _ _ _ _ _ r h => by simp [newswirelaw03_IntegerOrder.j0] at h
  | k + 1 => by
    have ih0 := newswirelaw03_IntegerOrder.mono_l k
    · intro y0 y1 y2 y3 y4 y5
      unfold newswirelaw03_IntegerOrder.j0
      repeat' first
      | (with_reducible exact ih0 _ _ _ _ _ _)
      | (with_reducible exact newswirelaw03_sane.mono _)
      | (with_reducible exact newswireref03_Made.mono _ _ _)
      | (with_reducible exact LeO.refl _)
      | (with_reducible exact LeO.none _)
      | (with_reducible refine LeO.ite ?_ ?_)
      | (with_reducible refine LeO.bind ?_ (fun _ => ?_))
      | exact ih0 _ _ _ _ _ _
      | exact newswirelaw03_sane.mono _
      | exact newswireref03_Made.mono _ _ _
      | exact LeO.none _
      | refine LeO.ite ?_ ?_
      | refine LeO.bind ?_ (fun _ => ?_)
theorem newswirelaw03_IntegerOrder.mono : ∀ a0 a1 a2 k, LeO (newswirelaw03_IntegerOrder.f k a0 a1 a2) (newswirelaw03_IntegerOrder.f (k + 1) a0 a1 a2) := by
  intro a0 a1 a2 k
  have ih0 := newswirelaw03_IntegerOrder.mono_l k
  unfold newswirelaw03_IntegerOrder.f
  repeat' first
      | (with_reducible exact ih0 _ _ _ _ _ _)
      | (with_reducible exact newswirelaw03_sane.mono _)
      | (with_reducible exact newswireref03_Made.mono _ _ _)
      | (with_reducible exact LeO.refl _)
      | (with_reducible exact LeO.none _)
      | (with_reducible refine LeO.ite ?_ ?_)
      | (with_reducible refine LeO.bind ?_ (fun _ => ?_))
      | exact ih0 _ _ _ _ _ _
      | exact newswirelaw03_sane.mono _
      | exact newswireref03_Made.mono _ _ _
      | exact LeO.none _
      | refine LeO.ite ?_ ?_
      | refine LeO.bind ?_ (fun _ => ?_)
set_option maxHeartbeats 8000000 in
set_option maxRecDepth 100000 in
theorem newswirelaw03_IntegerOrder.calls (k : Nat) (a0 : ByteArray) (a1 : ByteArray) (a2 : ByteArray) (r : Bool) (w : World) (hT : Laid w) (h : newswirelaw03_IntegerOrder.f k a0 a1 a2 = some r) :
    Calls Tryz.prog 7 #[.string a0, .string a1, .string a2] w fun e w' => e = .returned (.bool r) ∧ Below w.heap.size w w' := by
  have HT := Aside0.mk hT
  clear hT
  have HB := Aside0.mk (Below.refl w.heap.size w)
  have H : ((newswirelaw03_sane.f k).bind fun t203 => ((newswireref03_Made.f k a0 60).bind fun t204 => ((newswireref03_Made.f k a1 60).bind fun t205 => ((newswireref03_Made.f k a2 60).bind fun t206 => ((integer_Compare.f t204 t205).bind fun t207 => ((integer_Sub.f t204 t205).bind fun bt208 => ((integer_Add.f t204 t206).bind fun bt210 => ((integer_Add.f t205 t206).bind fun bt212 => (if bt208.2 = 0 then (if bt210.2 = 0 then (if bt212.2 = 0 then (if t207 < (-1) then (newswirelaw03_IntegerOrder.j0 k t203 t204 t205 t206 t207 true) else (if t207 > 1 then (newswirelaw03_IntegerOrder.j0 k t203 t204 t205 t206 t207 true) else ((integer_Compare.f t205 t204).bind fun t214 => (if t214 = (wrap64 (-t207)) then (if ((t207 == 0) != (t204.toList == t205.toList)) = true then (newswirelaw03_IntegerOrder.j0 k t203 t204 t205 t206 t207 true) else ((integer_Compare.f bt208.1 (⟨#[48]⟩ : ByteArray)).bind fun t215 => (if t215 = t207 then ((integer_Compare.f bt210.1 bt212.1).bind fun t216 => (newswirelaw03_IntegerOrder.j0 k t203 t204 t205 t206 t207 (t216 != t207))) else (newswirelaw03_IntegerOrder.j0 k t203 t204 t205 t206 t207 true)))) else (newswirelaw03_IntegerOrder.j0 k t203 t204 t205 t206 t207 true))))) else (newswirelaw03_IntegerOrder.j0 k t203 t204 t205 t206 t207 true)) else (newswirelaw03_IntegerOrder.j0 k t203 t204 t205 t206 t207 true)) else (newswirelaw03_IntegerOrder.j0 k t203 t204 t205 t206 t207 true)))))))))) = some r := h
  clear h
  replace H := Option.bind_eq_some_iff.mp H
  obtain ⟨t203, A40, H⟩ := H
  replace H : ((newswireref03_Made.f k a0 60).bind fun t204 => ((newswireref03_Made.f k a1 60).bind fun t205 => ((newswireref03_Made.f k a2 60).bind fun t206 => ((integer_Compare.f t204 t205).bind fun t207 => ((integer_Sub.f t204 t205).bind fun bt208 => ((integer_Add.f t204 t206).bind fun bt210 => ((integer_Add.f t205 t206).bind fun bt212 => (if bt208.2 = 0 then (if bt210.2 = 0 then (if bt212.2 = 0 then (if t207 < (-1) then (newswirelaw03_IntegerOrder.j0 k t203 t204 t205 t206 t207 true) else (if t207 > 1 then (newswirelaw03_IntegerOrder.j0 k t203 t204 t205 t206 t207 true) else ((integer_Compare.f t205 t204).bind fun t214 => (if t214 = (wrap64 (-t207)) then (if ((t207 == 0) != (t204.toList == t205.toList)) = true then (newswirelaw03_IntegerOrder.j0 k t203 t204 t205 t206 t207 true) else ((integer_Compare.f bt208.1 (⟨#[48]⟩ : ByteArray)).bind fun t215 => (if t215 = t207 then ((integer_Compare.f bt210.1 bt212.1).bind fun t216 => (newswirelaw03_IntegerOrder.j0 k t203 t204 t205 t206 t207 (t216 != t207))) else (newswirelaw03_IntegerOrder.j0 k t203 t204 t205 t206 t207 true)))) else (newswirelaw03_IntegerOrder.j0 k t203 t204 t205 t206 t207 true))))) else (newswirelaw03_IntegerOrder.j0 k t203 t204 t205 t206 t207 true)) else (newswirelaw03_IntegerOrder.j0 k t203 t204 t205 t206 t207 true)) else (newswirelaw03_IntegerOrder.j0 k t203 t204 t205 t206 t207 true))))))))) = some r := H
  have A4 := Aside0.mk A40
  clear A40
  replace H := Option.bind_eq_some_iff.mp H
  obtain ⟨t204, A50, H⟩ := H
  replace H : ((newswireref03_Made.f k a1 60).bind fun t205 => ((newswireref03_Made.f k a2 60).bind fun t206 => ((integer_Compare.f t204 t205).bind fun t207 => ((integer_Sub.f t204 t205).bind fun bt208 => ((integer_Add.f t204 t206).bind fun bt210 => ((integer_Add.f t205 t206).bind fun bt212 => (if bt208.2 = 0 then (if bt210.2 = 0 then (if bt212.2 = 0 then (if t207 < (-1) then (newswirelaw03_IntegerOrder.j0 k t203 t204 t205 t206 t207 true) else (if t207 > 1 then (newswirelaw03_IntegerOrder.j0 k t203 t204 t205 t206 t207 true) else ((integer_Compare.f t205 t204).bind fun t214 => (if t214 = (wrap64 (-t207)) then (if ((t207 == 0) != (t204.toList == t205.toList)) = true then (newswirelaw03_IntegerOrder.j0 k t203 t204 t205 t206 t207 true) else ((integer_Compare.f bt208.1 (⟨#[48]⟩ : ByteArray)).bind fun t215 => (if t215 = t207 then ((integer_Compare.f bt210.1 bt212.1).bind fun t216 => (newswirelaw03_IntegerOrder.j0 k t203 t204 t205 t206 t207 (t216 != t207))) else (newswirelaw03_IntegerOrder.j0 k t203 t204 t205 t206 t207 true)))) else (newswirelaw03_IntegerOrder.j0 k t203 t204 t205 t206 t207 true))))) else (newswirelaw03_IntegerOrder.j0 k t203 t204 t205 t206 t207 true)) else (newswirelaw03_IntegerOrder.j0 k t203 t204 t205 t206 t207 true)) else (newswirelaw03_IntegerOrder.j0 k t203 t204 t205 t206 t207 true)))))))) = some r := H
  have A5 := Aside0.mk A50
  clear A50
  replace H := Option.bind_eq_some_iff.mp H
  obtain ⟨t205, A60, H⟩ := H
  replace H : ((newswireref03_Made.f k a2 60).bind fun t206 => ((integer_Compare.f t204 t205).bind fun t207 => ((integer_Sub.f t204 t205).bind fun bt208 => ((integer_Add.f t204 t206).bind fun bt210 => ((integer_Add.f t205 t206).bind fun bt212 => (if bt208.2 = 0 then (if bt210.2 = 0 then (if bt212.2 = 0 then (if t207 < (-1) then (newswirelaw03_IntegerOrder.j0 k t203 t204 t205 t206 t207 true) else (if t207 > 1 then (newswirelaw03_IntegerOrder.j0 k t203 t204 t205 t206 t207 true) else ((integer_Compare.f t205 t204).bind fun t214 => (if t214 = (wrap64 (-t207)) then (if ((t207 == 0) != (t204.toList == t205.toList)) = true then (newswirelaw03_IntegerOrder.j0 k t203 t204 t205 t206 t207 true) else ((integer_Compare.f bt208.1 (⟨#[48]⟩ : ByteArray)).bind fun t215 => (if t215 = t207 then ((integer_Compare.f bt210.1 bt212.1).bind fun t216 => (newswirelaw03_IntegerOrder.j0 k t203 t204 t205 t206 t207 (t216 != t207))) else (newswirelaw03_IntegerOrder.j0 k t203 t204 t205 t206 t207 true)))) else (newswirelaw03_IntegerOrder.j0 k t203 t204 t205 t206 t207 true))))) else (newswirelaw03_IntegerOrder.j0 k t203 t204 t205 t206 t207 true)) else (newswirelaw03_IntegerOrder.j0 k t203 t204 t205 t206 t207 true)) else (newswirelaw03_IntegerOrder.j0 k t203 t204 t205 t206 t207 true))))))) = some r := H
  have A6 := Aside0.mk A60
  clear A60
  replace H := Option.bind_eq_some_iff.mp H
  obtain ⟨t206, A70, H⟩ := H
  replace H : ((integer_Compare.f t204 t205).bind fun t207 => ((integer_Sub.f t204 t205).bind fun bt208 => ((integer_Add.f t204 t206).bind fun bt210 => ((integer_Add.f t205 t206).bind fun bt212 => (if bt208.2 = 0 then (if bt210.2 = 0 then (if bt212.2 = 0 then (if t207 < (-1) then (newswirelaw03_IntegerOrder.j0 k t203 t204 t205 t206 t207 true) else (if t207 > 1 then (newswirelaw03_IntegerOrder.j0 k t203 t204 t205 t206 t207 true) else ((integer_Compare.f t205 t204).bind fun t214 => (if t214 = (wrap64 (-t207)) then (if ((t207 == 0) != (t204.toList == t205.toList)) = true then (newswirelaw03_IntegerOrder.j0 k t203 t204 t205 t206 t207 true) else ((integer_Compare.f bt208.1 (⟨#[48]⟩ : ByteArray)).bind fun t215 => (if t215 = t207 then ((integer_Compare.f bt210.1 bt212.1).bind fun t216 => (newswirelaw03_IntegerOrder.j0 k t203 t204 t205 t206 t207 (t216 != t207))) else (newswirelaw03_IntegerOrder.j0 k t203 t204 t205 t206 t207 true)))) else (newswirelaw03_IntegerOrder.j0 k t203 t204 t205 t206 t207 true))))) else (newswirelaw03_IntegerOrder.j0 k t203 t204 t205 t206 t207 true)) else (newswirelaw03_IntegerOrder.j0 k t203 t204 t205 t206 t207 true)) else (newswirelaw03_IntegerOrder.j0 k t203 t204 t205 t206 t207 true)))))) = some r := H
  have A7 := Aside0.mk A70
  clear A70
  replace H := Option.bind_eq_some_iff.mp H
  obtain ⟨t207, A80, H⟩ := H
  replace H : ((integer_Sub.f t204 t205).bind fun bt208 => ((integer_Add.f t204 t206).bind fun bt210 => ((integer_Add.f t205 t206).bind fun bt212 => (if bt208.2 = 0 then (if bt210.2 = 0 then (if bt212.2 = 0 then (if t207 < (-1) then (newswirelaw03_IntegerOrder.j0 k t203 t204 t205 t206 t207 true) else (if t207 > 1 then (newswirelaw03_IntegerOrder.j0 k t203 t204 t205 t206 t207 true) else ((integer_Compare.f t205 t204).bind fun t214 => (if t214 = (wrap64 (-t207)) then (if ((t207 == 0) != (t204.toList == t205.toList)) = true then (newswirelaw03_IntegerOrder.j0 k t203 t204 t205 t206 t207 true) else ((integer_Compare.f bt208.1 (⟨#[48]⟩ : ByteArray)).bind fun t215 => (if t215 = t207 then ((integer_Compare.f bt210.1 bt212.1).bind fun t216 => (newswirelaw03_IntegerOrder.j0 k t203 t204 t205 t206 t207 (t216 != t207))) else (newswirelaw03_IntegerOrder.j0 k t203 t204 t205 t206 t207 true)))) else (newswirelaw03_IntegerOrder.j0 k t203 t204 t205 t206 t207 true))))) else (newswirelaw03_IntegerOrder.j0 k t203 t204 t205 t206 t207 true)) else (newswirelaw03_IntegerOrder.j0 k t203 t204 t205 t206 t207 true)) else (newswirelaw03_IntegerOrder.j0 k t203 t204 t205 t206 t207 true))))) = some r := H
  have A8 := Aside0.mk A80
  clear A80
  replace H := Option.bind_eq_some_iff.mp H
  obtain ⟨⟨t208, t209⟩, A90, H⟩ := H
  replace H : ((integer_Add.f t204 t206).bind fun bt210 => ((integer_Add.f t205 t206).bind fun bt212 => (if t209 = 0 then (if bt210.2 = 0 then (if bt212.2 = 0 then (if t207 < (-1) then (newswirelaw03_IntegerOrder.j0 k t203 t204 t205 t206 t207 true) else (if t207 > 1 then (newswirelaw03_IntegerOrder.j0 k t203 t204 t205 t206 t207 true) else ((integer_Compare.f t205 t204).bind fun t214 => (if t214 = (wrap64 (-t207)) then (if ((t207 == 0) != (t204.toList == t205.toList)) = true then (newswirelaw03_IntegerOrder.j0 k t203 t204 t205 t206 t207 true) else ((integer_Compare.f t208 (⟨#[48]⟩ : ByteArray)).bind fun t215 => (if t215 = t207 then ((integer_Compare.f bt210.1 bt212.1).bind fun t216 => (newswirelaw03_IntegerOrder.j0 k t203 t204 t205 t206 t207 (t216 != t207))) else (newswirelaw03_IntegerOrder.j0 k t203 t204 t205 t206 t207 true)))) else (newswirelaw03_IntegerOrder.j0 k t203 t204 t205 t206 t207 true))))) else (newswirelaw03_IntegerOrder.j0 k t203 t204 t205 t206 t207 true)) else (newswirelaw03_IntegerOrder.j0 k t203 t204 t205 t206 t207 true)) else (newswirelaw03_IntegerOrder.j0 k t203 t204 t205 t206 t207 true)))) = some r := H
  have A9 := Aside0.mk A90
  clear A90
  replace H := Option.bind_eq_some_iff.mp H
  obtain ⟨⟨t210, t211⟩, A100, H⟩ := H
  replace H : ((integer_Add.f t205 t206).bind fun bt212 => (if t209 = 0 then (if t211 = 0 then (if bt212.2 = 0 then (if t207 < (-1) then (newswirelaw03_IntegerOrder.j0 k t203 t204 t205 t206 t207 true) else (if t207 > 1 then (newswirelaw03_IntegerOrder.j0 k t203 t204 t205 t206 t207 true) else ((integer_Compare.f t205 t204).bind fun t214 => (if t214 = (wrap64 (-t207)) then (if ((t207 == 0) != (t204.toList == t205.toList)) = true then (newswirelaw03_IntegerOrder.j0 k t203 t204 t205 t206 t207 true) else ((integer_Compare.f t208 (⟨#[48]⟩ : ByteArray)).bind fun t215 => (if t215 = t207 then ((integer_Compare.f t210 bt212.1).bind fun t216 => (newswirelaw03_IntegerOrder.j0 k t203 t204 t205 t206 t207 (t216 != t207))) else (newswirelaw03_IntegerOrder.j0 k t203 t204 t205 t206 t207 true)))) else (newswirelaw03_IntegerOrder.j0 k t203 t204 t205 t206 t207 true))))) else (newswirelaw03_IntegerOrder.j0 k t203 t204 t205 t206 t207 true)) else (newswirelaw03_IntegerOrder.j0 k t203 t204 t205 t206 t207 true)) else (newswirelaw03_IntegerOrder.j0 k t203 t204 t205 t206 t207 true))) = some r := H
  have A10 := Aside0.mk A100
  clear A100
  replace H := Option.bind_eq_some_iff.mp H
  obtain ⟨⟨t212, t213⟩, A110, H⟩ := H
  replace H : (if t209 = 0 then (if t211 = 0 then (if t213 = 0 then (if t207 < (-1) then (newswirelaw03_IntegerOrder.j0 k t203 t204 t205 t206 t207 true) else (if t207 > 1 then (newswirelaw03_IntegerOrder.j0 k t203 t204 t205 t206 t207 true) else ((integer_Compare.f t205 t204).bind fun t214 => (if t214 = (wrap64 (-t207)) then (if ((t207 == 0) != (t204.toList == t205.toList)) = true then (newswirelaw03_IntegerOrder.j0 k t203 t204 t205 t206 t207 true) else ((integer_Compare.f t208 (⟨#[48]⟩ : ByteArray)).bind fun t215 => (if t215 = t207 then ((integer_Compare.f t210 t212).bind fun t216 => (newswirelaw03_IntegerOrder.j0 k t203 t204 t205 t206 t207 (t216 != t207))) else (newswirelaw03_IntegerOrder.j0 k t203 t204 t205 t206 t207 true)))) else (newswirelaw03_IntegerOrder.j0 k t203 t204 t205 t206 t207 true))))) else (newswirelaw03_IntegerOrder.j0 k t203 t204 t205 t206 t207 true)) else (newswirelaw03_IntegerOrder.j0 k t203 t204 t205 t206 t207 true)) else (newswirelaw03_IntegerOrder.j0 k t203 t204 t205 t206 t207 true)) = some r := H
  have A11 := Aside0.mk A110
  clear A110
  have HC12 := Aside0.mk H
  clear H
  go_enter Tryz.func7, Tryz.ntmps7
  go_upto_region 9 with (first | ((with_reducible refine gate_callee (f := 12) rfl ?_); refine goesL_ (some 18) rfl rfl Tryz.func12 (by kernel_rfl) rfl #[] rfl (by (try simp only [List.map_toArray, List.map_cons, List.map_nil]); first | done | rfl | (simp only [List.length_drop, List.length_take]; rfl)) ?_; (with_reducible refine (newswirelaw03_sane.calls k  t203 _ ?side1 A4.out).mono ?_); (case side1 => exact Laid.on HT.out (by repeat (first | (with_reducible first | exact HB.out | apply below_alloc | apply pw_below_drewN | apply below_drew1) | exact HB.out))); rintro e w13 ⟨rfl, hb⟩; refine ⟨_, rfl, ?_⟩; have n0_ := Aside0.mk (below_step (by repeat (first | (with_reducible first | exact HB.out | apply below_alloc | apply pw_below_drewN | apply below_drew1) | exact HB.out)) hb); clear HB; have HB := n0_; clear n0_; (try clear hb); (try clear hb2); (try clear hk); (try clear hi)) | ((with_reducible refine gate_callee (f := 13) rfl ?_); refine goesL_ (some 20) rfl rfl Tryz.func13 (by kernel_rfl) rfl #[.string a0, .int .i64 60] rfl (by (try simp only [List.map_toArray, List.map_cons, List.map_nil]); first | done | rfl | (simp only [List.length_drop, List.length_take]; rfl)) ?_; (with_reducible refine (newswireref03_Made.calls k a0 60 t204 _ A5.out).mono ?_); rintro e w14 ⟨rfl, hb⟩; refine ⟨_, rfl, ?_⟩; have n0_ := Aside0.mk (below_step (by repeat (first | (with_reducible first | exact HB.out | apply below_alloc | apply pw_below_drewN | apply below_drew1) | exact HB.out)) hb); clear HB; have HB := n0_; clear n0_; (try clear hb); (try clear hb2); (try clear hk); (try clear hi)) | ((with_reducible refine gate_callee (f := 13) rfl ?_); refine goesL_ (some 22) rfl rfl Tryz.func13 (by kernel_rfl) rfl #[.string a1, .int .i64 60] rfl (by (try simp only [List.map_toArray, List.map_cons, List.map_nil]); first | done | rfl | (simp only [List.length_drop, List.length_take]; rfl)) ?_; (with_reducible refine (newswireref03_Made.calls k a1 60 t205 _ A6.out).mono ?_); rintro e w15 ⟨rfl, hb⟩; refine ⟨_, rfl, ?_⟩; have n0_ := Aside0.mk (below_step (by repeat (first | (with_reducible first | exact HB.out | apply below_alloc | apply pw_below_drewN | apply below_drew1) | exact HB.out)) hb); clear HB; have HB := n0_; clear n0_; (try clear hb); (try clear hb2); (try clear hk); (try clear hi)) | ((with_reducible refine gate_callee (f := 13) rfl ?_); refine goesL_ (some 24) rfl rfl Tryz.func13 (by kernel_rfl) rfl #[.string a2, .int .i64 60] rfl (by (try simp only [List.map_toArray, List.map_cons, List.map_nil]); first | done | rfl | (simp only [List.length_drop, List.length_take]; rfl)) ?_; (with_reducible refine (newswireref03_Made.calls k a2 60 t206 _ A7.out).mono ?_); rintro e w16 ⟨rfl, hb⟩; refine ⟨_, rfl, ?_⟩; have n0_ := Aside0.mk (below_step (by repeat (first | (with_reducible first | exact HB.out | apply below_alloc | apply pw_below_drewN | apply below_drew1) | exact HB.out)) hb); clear HB; have HB := n0_; clear n0_; (try clear hb); (try clear hb2); (try clear hk); (try clear hi)) | ((with_reducible refine gate_callee (f := 18) rfl ?_); refine goesL_ (some 27) rfl rfl Tryz.func18 (by kernel_rfl) rfl #[.string t204, .string t205] rfl (by (try simp only [List.map_toArray, List.map_cons, List.map_nil]); first | done | rfl | (simp only [List.length_drop, List.length_take]; rfl)) ?_; (with_reducible refine (integer_Compare.calls t204 t205 t207 _ ?side1 A8.out).mono ?_); (case side1 => exact Laid.on HT.out (by repeat (first | (with_reducible first | exact HB.out | apply below_alloc | apply pw_below_drewN | apply below_drew1) | exact HB.out))); rintro e w17 ⟨rfl, hb⟩; refine ⟨_, rfl, ?_⟩; have n0_ := Aside0.mk (below_step (by repeat (first | (with_reducible first | exact HB.out | apply below_alloc | apply pw_below_drewN | apply below_drew1) | exact HB.out)) hb); clear HB; have HB := n0_; clear n0_; (try clear hb); (try clear hb2); (try clear hk); (try clear hi)) | ((with_reducible refine gate_callee (f := 16) rfl ?_); refine goesL_ (some 31) rfl rfl Tryz.func16 (by kernel_rfl) rfl #[.string t204, .string t205] rfl (by (try simp only [List.map_toArray, List.map_cons, List.map_nil]); first | done | rfl | (simp only [List.length_drop, List.length_take]; rfl)) ?_; (with_reducible refine (integer_Sub.calls t204 t205 t208 t209 _ ?side1 A9.out).mono ?_); (case side1 => exact Laid.on HT.out (by repeat (first | (with_reducible first | exact HB.out | apply below_alloc | apply pw_below_drewN | apply below_drew1) | exact HB.out))); rintro e w18 ⟨rfl, hb⟩; refine ⟨_, rfl, ?_⟩; have n0_ := Aside0.mk (below_step (by repeat (first | (with_reducible first | exact HB.out | apply below_alloc | apply pw_below_drewN | apply below_drew1) | exact HB.out)) hb); clear HB; have HB := n0_; clear n0_; (try clear hb); (try clear hb2); (try clear hk); (try clear hi)) | ((with_reducible refine gate_callee (f := 14) rfl ?_); refine goesL_ (some 37) rfl rfl Tryz.func14 (by kernel_rfl) rfl #[.string t204, .string t206] rfl (by (try simp only [List.map_toArray, List.map_cons, List.map_nil]); first | done | rfl | (simp only [List.length_drop, List.length_take]; rfl)) ?_; (with_reducible refine (integer_Add.calls t204 t206 t210 t211 _ ?side1 A10.out).mono ?_); (case side1 => exact Laid.on HT.out (by repeat (first | (with_reducible first | exact HB.out | apply below_alloc | apply pw_below_drewN | apply below_drew1) | exact HB.out))); rintro e w19 ⟨rfl, hb⟩; refine ⟨_, rfl, ?_⟩; have n0_ := Aside0.mk (below_step (by repeat (first | (with_reducible first | exact HB.out | apply below_alloc | apply pw_below_drewN | apply below_drew1) | exact HB.out)) hb); clear HB; have HB := n0_; clear n0_; (try clear hb); (try clear hb2); (try clear hk); (try clear hi)) | ((with_reducible refine gate_callee (f := 14) rfl ?_); refine goesL_ (some 43) rfl rfl Tryz.func14 (by kernel_rfl) rfl #[.string t205, .string t206] rfl (by (try simp only [List.map_toArray, List.map_cons, List.map_nil]); first | done | rfl | (simp only [List.length_drop, List.length_take]; rfl)) ?_; (with_reducible refine (integer_Add.calls t205 t206 t212 t213 _ ?side1 A11.out).mono ?_); (case side1 => exact Laid.on HT.out (by repeat (first | (with_reducible first | exact HB.out | apply below_alloc | apply pw_below_drewN | apply below_drew1) | exact HB.out))); rintro e w20 ⟨rfl, hb⟩; refine ⟨_, rfl, ?_⟩; have n0_ := Aside0.mk (below_step (by repeat (first | (with_reducible first | exact HB.out | apply below_alloc | apply pw_below_drewN | apply below_drew1) | exact HB.out)) hb); clear HB; have HB := n0_; clear n0_; (try clear hb); (try clear hb2); (try clear hk); (try clear hi)))
  (try simp only [Act.put, List.setIfInBounds_toArray, List.set_cons_zero, List.set_cons_succ])
  go_cut [92] (fun v92 wc => ∃ (kq : Nat) (x92_11 : Bool), v92 = .bool x92_11 ∧ Aside0 (newswirelaw03_IntegerOrder.j0 kq t203 t204 t205 t206 t207 x92_11 = some r) ∧ Aside0 (kq ≤ k) ∧ Aside0 (Below w.heap.size w wc))
  case first =>
    have H := HC12.out
    clear HC12
    by_cases c21 : t209 = 0
    · rw [if_pos c21] at H
      have c21b0 : (t209 == 0) = true := beq_iff_eq.mpr c21
      have c21b1 : (t209 != 0) = false := bne_eq_false_iff_eq.mpr c21
      clear c21
      (first | rw [c21b0] | (simp only [i64_w, i32_w]; rw [c21b0]) | skip)
      by_cases c22 : t211 = 0
      · rw [if_pos c22] at H
        have c22b0 : (t211 == 0) = true := beq_iff_eq.mpr c22
        have c22b1 : (t211 != 0) = false := bne_eq_false_iff_eq.mpr c22
        clear c22
        by_cases c23 : t213 = 0
        · rw [if_pos c23] at H
          have c23b0 : (t213 == 0) = true := beq_iff_eq.mpr c23
          have c23b1 : (t213 != 0) = false := bne_eq_false_iff_eq.mpr c23
          clear c23
          by_cases c24 : t207 < (-1)
          · rw [if_pos c24] at H
            have c24b0 : decide (t207 < (-1)) = true := decide_eq_true c24
            clear c24
            have H' := Aside0.mk H
            clear H
            go_wp2
            go_meet
            case rel => exact ⟨_, (true), (by first | rfl | (simp; done) | (simp [*]; done)), H', ⟨by first | omega | exact Nat.le_refl _⟩, ⟨by repeat (first | (with_reducible first | exact HB.out | apply below_alloc | apply pw_below_drewN | apply below_drew1) | exact HB.out)⟩⟩
          · rw [if_neg c24] at H
            have c24b0 : decide (t207 < (-1)) = false := decide_eq_false c24
            clear c24
            by_cases c25 : t207 > 1
            · rw [if_pos c25] at H
              have c25b0 : decide (1 < t207) = true := decide_eq_true c25
              clear c25
              have H' := Aside0.mk H
              clear H
              go_wp2
              go_meet
              case rel => exact ⟨_, (true), (by first | rfl | (simp; done) | (simp [*]; done)), H', ⟨by first | omega | exact Nat.le_refl _⟩, ⟨by repeat (first | (with_reducible first | exact HB.out | apply below_alloc | apply pw_below_drewN | apply below_drew1) | exact HB.out)⟩⟩
            · rw [if_neg c25] at H
              have c25b0 : decide (1 < t207) = false := decide_eq_false c25
              clear c25
              replace H := Option.bind_eq_some_iff.mp H
              obtain ⟨t214, A260, H⟩ := H
              replace H : (if t214 = (wrap64 (-t207)) then (if ((t207 == 0) != (t204.toList == t205.toList)) = true then (newswirelaw03_IntegerOrder.j0 k t203 t204 t205 t206 t207 true) else ((integer_Compare.f t208 (⟨#[48]⟩ : ByteArray)).bind fun t215 => (if t215 = t207 then ((integer_Compare.f t210 t212).bind fun t216 => (newswirelaw03_IntegerOrder.j0 k t203 t204 t205 t206 t207 (t216 != t207))) else (newswirelaw03_IntegerOrder.j0 k t203 t204 t205 t206 t207 true)))) else (newswirelaw03_IntegerOrder.j0 k t203 t204 t205 t206 t207 true)) = some r := H
              have A26 := Aside0.mk A260
              clear A260
              by_cases c27 : t214 = (wrap64 (-t207))
              · rw [if_pos c27] at H
                have c27b0 : (t214 == (wrap64 (-t207))) = true := beq_iff_eq.mpr c27
                have c27b1 : (t214 != (wrap64 (-t207))) = false := bne_eq_false_iff_eq.mpr c27
                clear c27
                by_cases c28 : ((t207 == 0) != (t204.toList == t205.toList)) = true
                · rw [if_pos c28] at H
                  have c28b0 : ((t207 == 0) != (t204.toList == t205.toList)) = true := c28
                  (try (have c28b1 : decide ((t207 == 0) = (t204.toList == t205.toList)) = false := by simpa using c28))
                  (try (have c28b2 : ((t207 == 0) == (t204.toList == t205.toList)) = false := by simpa using c28))
                  (try (have c28b3 : ¬ ((t207 == 0) = (t204.toList == t205.toList)) := by simpa using c28))
                  clear c28
                  have H' := Aside0.mk H
                  clear H
                  go_wp2_with (first | (go_at_call 18; (with_reducible refine (integer_Compare.calls t205 t204 t214 _ ?side1 A26.out).mono ?_); (case side1 => exact Laid.on HT.out (by repeat (first | (with_reducible first | exact HB.out | apply below_alloc | apply pw_below_drewN | apply below_drew1) | exact HB.out))); rintro e w29 ⟨rfl, hb⟩; have n0_ := Aside0.mk (below_step (by repeat (first | (with_reducible first | exact HB.out | apply below_alloc | apply pw_below_drewN | apply below_drew1) | exact HB.out)) hb); clear HB; have HB := n0_; clear n0_; (try clear hb); (try clear hb2); (try clear hk); (try clear hi)))
                  go_meet
                  case rel => exact ⟨_, (true), (by first | rfl | (simp; done) | (simp [*]; done)), H', ⟨by first | omega | exact Nat.le_refl _⟩, ⟨by repeat (first | (with_reducible first | exact HB.out | apply below_alloc | apply pw_below_drewN | apply below_drew1) | exact HB.out)⟩⟩
                · rw [if_neg c28] at H
                  have c28b0 : ((t207 == 0) != (t204.toList == t205.toList)) = false := by simpa using c28
                  (try (have c28b1 : decide ((t207 == 0) = (t204.toList == t205.toList)) = true := by simpa using c28))
                  (try (have c28b2 : ((t207 == 0) == (t204.toList == t205.toList)) = true := by simpa using c28))
                  clear c28
                  replace H := Option.bind_eq_some_iff.mp H
                  obtain ⟨t215, A300, H⟩ := H
                  replace H : (if t215 = t207 then ((integer_Compare.f t210 t212).bind fun t216 => (newswirelaw03_IntegerOrder.j0 k t203 t204 t205 t206 t207 (t216 != t207))) else (newswirelaw03_IntegerOrder.j0 k t203 t204 t205 t206 t207 true)) = some r := H
                  have A30 := Aside0.mk A300
                  clear A300
                  by_cases c31 : t215 = t207
                  · rw [if_pos c31] at H
                    have c31b0 : (t215 == t207) = true := beq_iff_eq.mpr c31
                    have c31b1 : (t215 != t207) = false := bne_eq_false_iff_eq.mpr c31
                    clear c31
                    replace H := Option.bind_eq_some_iff.mp H
                    obtain ⟨t216, A320, H⟩ := H
                    replace H : (newswirelaw03_IntegerOrder.j0 k t203 t204 t205 t206 t207 (t216 != t207)) = some r := H
                    have A32 := Aside0.mk A320
                    clear A320
                    have H' := Aside0.mk H
                    clear H
                    go_wp2_with (first | (go_at_call 18; (with_reducible refine (integer_Compare.calls t205 t204 t214 _ ?side1 A26.out).mono ?_); (case side1 => exact Laid.on HT.out (by repeat (first | (with_reducible first | exact HB.out | apply below_alloc | apply pw_below_drewN | apply below_drew1) | exact HB.out))); rintro e w33 ⟨rfl, hb⟩; have n0_ := Aside0.mk (below_step (by repeat (first | (with_reducible first | exact HB.out | apply below_alloc | apply pw_below_drewN | apply below_drew1) | exact HB.out)) hb); clear HB; have HB := n0_; clear n0_; (try clear hb); (try clear hb2); (try clear hk); (try clear hi)) | (go_at_call 18; (with_reducible refine (integer_Compare.calls t208 (⟨#[48]⟩ : ByteArray) t215 _ ?side1 A30.out).mono ?_); (case side1 => exact Laid.on HT.out (by repeat (first | (with_reducible first | exact HB.out | apply below_alloc | apply pw_below_drewN | apply below_drew1) | exact HB.out))); rintro e w34 ⟨rfl, hb⟩; have n0_ := Aside0.mk (below_step (by repeat (first | (with_reducible first | exact HB.out | apply below_alloc | apply pw_below_drewN | apply below_drew1) | exact HB.out)) hb); clear HB; have HB := n0_; clear n0_; (try clear hb); (try clear hb2); (try clear hk); (try clear hi)) | (go_at_call 18; (with_reducible refine (integer_Compare.calls t210 t212 t216 _ ?side1 A32.out).mono ?_); (case side1 => exact Laid.on HT.out (by repeat (first | (with_reducible first | exact HB.out | apply below_alloc | apply pw_below_drewN | apply below_drew1) | exact HB.out))); rintro e w35 ⟨rfl, hb⟩; have n0_ := Aside0.mk (below_step (by repeat (first | (with_reducible first | exact HB.out | apply below_alloc | apply pw_below_drewN | apply below_drew1) | exact HB.out)) hb); clear HB; have HB := n0_; clear n0_; (try clear hb); (try clear hb2); (try clear hk); (try clear hi)))
                    go_meet
                    case rel => exact ⟨_, ((t216 != t207)), (by first | rfl | (simp; done) | (simp [*]; done)), H', ⟨by first | omega | exact Nat.le_refl _⟩, ⟨by repeat (first | (with_reducible first | exact HB.out | apply below_alloc | apply pw_below_drewN | apply below_drew1) | exact HB.out)⟩⟩
                  · rw [if_neg c31] at H
                    have c31b0 : (t215 == t207) = false := beq_eq_false_iff_ne.mpr c31
                    have c31b1 : (t215 != t207) = true := bne_iff_ne.mpr c31
                    have H' := Aside0.mk H
                    clear H
                    go_wp2_with (first | (go_at_call 18; (with_reducible refine (integer_Compare.calls t205 t204 t214 _ ?side1 A26.out).mono ?_); (case side1 => exact Laid.on HT.out (by repeat (first | (with_reducible first | exact HB.out | apply below_alloc | apply pw_below_drewN | apply below_drew1) | exact HB.out))); rintro e w36 ⟨rfl, hb⟩; have n0_ := Aside0.mk (below_step (by repeat (first | (with_reducible first | exact HB.out | apply below_alloc | apply pw_below_drewN | apply below_drew1) | exact HB.out)) hb); clear HB; have HB := n0_; clear n0_; (try clear hb); (try clear hb2); (try clear hk); (try clear hi)) | (go_at_call 18; (with_reducible refine (integer_Compare.calls t208 (⟨#[48]⟩ : ByteArray) t215 _ ?side1 A30.out).mono ?_); (case side1 => exact Laid.on HT.out (by repeat (first | (with_reducible first | exact HB.out | apply below_alloc | apply pw_below_drewN | apply below_drew1) | exact HB.out))); rintro e w37 ⟨rfl, hb⟩; have n0_ := Aside0.mk (below_step (by repeat (first | (with_reducible first | exact HB.out | apply below_alloc | apply pw_below_drewN | apply below_drew1) | exact HB.out)) hb); clear HB; have HB := n0_; clear n0_; (try clear hb); (try clear hb2); (try clear hk); (try clear hi)))
                    go_meet
                    case rel => exact ⟨_, (true), (by first | rfl | (simp; done) | (simp [*]; done)), H', ⟨by first | omega | exact Nat.le_refl _⟩, ⟨by repeat (first | (with_reducible first | exact HB.out | apply below_alloc | apply pw_below_drewN | apply below_drew1) | exact HB.out)⟩⟩
              · rw [if_neg c27] at H
                have c27b0 : (t214 == (wrap64 (-t207))) = false := beq_eq_false_iff_ne.mpr c27
                have c27b1 : (t214 != (wrap64 (-t207))) = true := bne_iff_ne.mpr c27
                have H' := Aside0.mk H
                clear H
                go_wp2_with (first | (go_at_call 18; (with_reducible refine (integer_Compare.calls t205 t204 t214 _ ?side1 A26.out).mono ?_); (case side1 => exact Laid.on HT.out (by repeat (first | (with_reducible first | exact HB.out | apply below_alloc | apply pw_below_drewN | apply below_drew1) | exact HB.out))); rintro e w38 ⟨rfl, hb⟩; have n0_ := Aside0.mk (below_step (by repeat (first | (with_reducible first | exact HB.out | apply below_alloc | apply pw_below_drewN | apply below_drew1) | exact HB.out)) hb); clear HB; have HB := n0_; clear n0_; (try clear hb); (try clear hb2); (try clear hk); (try clear hi)))
                go_meet
                case rel => exact ⟨_, (true), (by first | rfl | (simp; done) | (simp [*]; done)), H', ⟨by first | omega | exact Nat.le_refl _⟩, ⟨by repeat (first | (with_reducible first | exact HB.out | apply below_alloc | apply pw_below_drewN | apply below_drew1) | exact HB.out)⟩⟩
        · rw [if_neg c23] at H
          have c23b0 : (t213 == 0) = false := beq_eq_false_iff_ne.mpr c23
          have c23b1 : (t213 != 0) = true := bne_iff_ne.mpr c23
          have H' := Aside0.mk H
          clear H
          go_wp2
          go_meet
          case rel => exact ⟨_, (true), (by first | rfl | (simp; done) | (simp [*]; done)), H', ⟨by first | omega | exact Nat.le_refl _⟩, ⟨by repeat (first | (with_reducible first | exact HB.out | apply below_alloc | apply pw_below_drewN | apply below_drew1) | exact HB.out)⟩⟩
      · rw [if_neg c22] at H
        have c22b0 : (t211 == 0) = false := beq_eq_false_iff_ne.mpr c22
        have c22b1 : (t211 != 0) = true := bne_iff_ne.mpr c22
        have H' := Aside0.mk H
        clear H
        go_wp2
        go_meet
        case rel => exact ⟨_, (true), (by first | rfl | (simp; done) | (simp [*]; done)), H', ⟨by first | omega | exact Nat.le_refl _⟩, ⟨by repeat (first | (with_reducible first | exact HB.out | apply below_alloc | apply pw_below_drewN | apply below_drew1) | exact HB.out)⟩⟩
    · rw [if_neg c21] at H
      have c21b0 : (t209 == 0) = false := beq_eq_false_iff_ne.mpr c21
      have c21b1 : (t209 != 0) = true := bne_iff_ne.mpr c21
      (first | rw [c21b0] | (simp only [i64_w, i32_w]; rw [c21b0]) | skip)
      have H' := Aside0.mk H
      clear H
      go_wp2
      go_meet
      case rel => exact ⟨_, (true), (by first | rfl | (simp; done) | (simp [*]; done)), H', ⟨by first | omega | exact Nat.le_refl _⟩, ⟨by repeat (first | (with_reducible first | exact HB.out | apply below_alloc | apply pw_below_drewN | apply below_drew1) | exact HB.out)⟩⟩
  case rest =>
    clear HC12
    try clear c1
    try clear c2
    try clear p2
    try clear c3
    try clear p6
    try clear c7
    try clear c12
    try clear c13
    try clear c14
    try clear c16
    try clear c18
    try clear c21
    try clear c21b0
    try clear c21b1
    try clear c22
    try clear c22b0
    try clear c22b1
    try clear c23
    try clear c23b0
    try clear c23b1
    try clear c24
    try clear c24b0
    try clear c25
    try clear c25b0
    try clear c27
    try clear c27b0
    try clear c27b1
    try clear c28
    try clear c28b0
    try clear c28b1
    try clear c28b2
    try clear c31
    try clear c31b0
    try clear c31b1
    obtain ⟨kq, x92_11, rfl, HA, HJ11, HB⟩ := hcut
    cases kq with
    | zero => exact absurd HA.out (by simp [newswirelaw03_IntegerOrder.j0])
    | succ kj11 =>
      have H := HA.out
      clear HA
      simp only [newswirelaw03_IntegerOrder.j0] at H
      by_cases c39 : x92_11 = true
      · subst c39
        have H1 : (some false) = some r := by rw [if_pos rfl] at H; exact H
        clear H
        have H := H1
        clear H1
        obtain rfl := Option.some.inj H
        go_wp2
        go_ret
        exact ⟨by first | rfl | (simp [errW_none, errW_some] <;> rfl) | (simp [*, errW_none, errW_some] <;> rfl), by repeat (first | (with_reducible first | exact HB.out | apply below_alloc | apply pw_below_drewN | apply below_drew1) | exact HB.out)⟩
      · replace c39 := Bool.eq_false_iff.mpr c39
        subst c39
        have H1 : (if t203 = true then (if t207 > 0 then (some true) else ((integer_Compare.f t205 t206).bind fun t217 => (if t217 > 0 then (some true) else ((integer_Compare.f t204 t206).bind fun t218 => (some (decide (t218 ≤ 0))))))) else (some false)) = some r := by rw [if_neg (show ¬ (false = true) by decide)] at H; exact H
        clear H
        have H := H1
        clear H1
        by_cases c40 : t203 = true
        · subst c40
          have H1 : (if t207 > 0 then (some true) else ((integer_Compare.f t205 t206).bind fun t217 => (if t217 > 0 then (some true) else ((integer_Compare.f t204 t206).bind fun t218 => (some (decide (t218 ≤ 0))))))) = some r := by rw [if_pos rfl] at H; exact H
          clear H
          have H := H1
          clear H1
          by_cases c41 : t207 > 0
          · rw [if_pos c41] at H
            have c41b0 : decide (0 < t207) = true := decide_eq_true c41
            clear c41
            obtain rfl := Option.some.inj H
            go_wp2
            go_ret
            exact ⟨by first | rfl | (simp [errW_none, errW_some] <;> rfl) | (simp [*, errW_none, errW_some] <;> rfl), by repeat (first | (with_reducible first | exact HB.out | apply below_alloc | apply pw_below_drewN | apply below_drew1) | exact HB.out)⟩
          · rw [if_neg c41] at H
            have c41b0 : decide (0 < t207) = false := decide_eq_false c41
            clear c41
            replace H := Option.bind_eq_some_iff.mp H
            obtain ⟨t217, A420, H⟩ := H
            replace H : (if t217 > 0 then (some true) else ((integer_Compare.f t204 t206).bind fun t218 => (some (decide (t218 ≤ 0))))) = some r := H
            have A42 := Aside0.mk A420
            clear A420
            by_cases c43 : t217 > 0
            · rw [if_pos c43] at H
              have c43b0 : decide (0 < t217) = true := decide_eq_true c43
              clear c43
              obtain rfl := Option.some.inj H
              go_wp2_with (first | (go_at_call 18; (with_reducible refine (integer_Compare.calls t205 t206 t217 _ ?side1 A42.out).mono ?_); (case side1 => exact Laid.on HT.out (by repeat (first | (with_reducible first | exact HB.out | apply below_alloc | apply pw_below_drewN | apply below_drew1) | exact HB.out))); rintro e w44 ⟨rfl, hb⟩; have n0_ := Aside0.mk (below_step (by repeat (first | (with_reducible first | exact HB.out | apply below_alloc | apply pw_below_drewN | apply below_drew1) | exact HB.out)) hb); clear HB; have HB := n0_; clear n0_; (try clear hb); (try clear hb2); (try clear hk); (try clear hi)))
              go_ret
              exact ⟨by first | rfl | (simp [errW_none, errW_some] <;> rfl) | (simp [*, errW_none, errW_some] <;> rfl), by repeat (first | (with_reducible first | exact HB.out | apply below_alloc | apply pw_below_drewN | apply below_drew1) | exact HB.out)⟩
            · rw [if_neg c43] at H
              have c43b0 : decide (0 < t217) = false := decide_eq_false c43
              clear c43
              replace H := Option.bind_eq_some_iff.mp H
              obtain ⟨t218, A450, H⟩ := H
              replace H : (some (decide (t218 ≤ 0))) = some r := H
              have A45 := Aside0.mk A450
              clear A450
              obtain rfl := Option.some.inj H
              go_wp2_with (first | (go_at_call 18; (with_reducible refine (integer_Compare.calls t205 t206 t217 _ ?side1 A42.out).mono ?_); (case side1 => exact Laid.on HT.out (by repeat (first | (with_reducible first | exact HB.out | apply below_alloc | apply pw_below_drewN | apply below_drew1) | exact HB.out))); rintro e w46 ⟨rfl, hb⟩; have n0_ := Aside0.mk (below_step (by repeat (first | (with_reducible first | exact HB.out | apply below_alloc | apply pw_below_drewN | apply below_drew1) | exact HB.out)) hb); clear HB; have HB := n0_; clear n0_; (try clear hb); (try clear hb2); (try clear hk); (try clear hi)) | (go_at_call 18; (with_reducible refine (integer_Compare.calls t204 t206 t218 _ ?side1 A45.out).mono ?_); (case side1 => exact Laid.on HT.out (by repeat (first | (with_reducible first | exact HB.out | apply below_alloc | apply pw_below_drewN | apply below_drew1) | exact HB.out))); rintro e w47 ⟨rfl, hb⟩; have n0_ := Aside0.mk (below_step (by repeat (first | (with_reducible first | exact HB.out | apply below_alloc | apply pw_below_drewN | apply below_drew1) | exact HB.out)) hb); clear HB; have HB := n0_; clear n0_; (try clear hb); (try clear hb2); (try clear hk); (try clear hi)))
              go_ret
              exact ⟨by first | rfl | (simp [errW_none, errW_some] <;> rfl) | (simp [*, errW_none, errW_some] <;> rfl), by repeat (first | (with_reducible first | exact HB.out | apply below_alloc | apply pw_below_drewN | apply below_drew1) | exact HB.out)⟩
        · replace c40 := Bool.eq_false_iff.mpr c40
          subst c40
          have H1 : (some false) = some r := by rw [if_neg (show ¬ (false = true) by decide)] at H; exact H
          clear H
          have H := H1
          clear H1
          obtain rfl := Option.some.inj H
          go_wp2
          go_ret
          exact ⟨by first | rfl | (simp [errW_none, errW_some] <;> rfl) | (simp [*, errW_none, errW_some] <;> rfl), by repeat (first | (with_reducible first | exact HB.out | apply below_alloc | apply pw_below_drewN | apply below_drew1) | exact HB.out)⟩

/-- THE ONE PURE STATEMENT of newswirelaw03_IntegerOrder: yours. -/
def newswirelaw03_IntegerOrder.Pure : Prop := ∀ (a0 : ByteArray) (a1 : ByteArray) (a2 : ByteArray), a0.size ≤ 140737488351232 → a1.size ≤ 140737488351232 → a2.size ≤ 140737488351232 → ∃ k, newswirelaw03_IntegerOrder.f k a0 a1 a2 = some true
theorem newswirelaw03_IntegerOrder.walk (P : newswirelaw03_IntegerOrder.Pure) (a0 : ByteArray) (a1 : ByteArray) (a2 : ByteArray) (w : World) (w0 : a0.size ≤ 140737488351232) (w1 : a1.size ≤ 140737488351232) (w2 : a2.size ≤ 140737488351232) (hT : Laid w) :
    Calls Tryz.prog 7 #[.string a0, .string a1, .string a2] w fun e w' => e = .returned (.bool true) ∧ Below w.heap.size w w' := by
  obtain ⟨k, h⟩ := P a0 a1 a2 w0 w1 w2
  refine (newswirelaw03_IntegerOrder.calls k a0 a1 a2 true w hT h).mono ?_
  rintro e w' ⟨rfl, hd⟩
  exact ⟨rfl, hd⟩

/-! ### newswirelaw03_nines: function 22 -/
def newswirelaw03_nines.l0 : Nat → Int → ByteArray → Int → Option (ByteArray)
  | 0, _, _, _ => none
  | k + 1, x0, x3, x4 => if x4 < x0 then (if x3.size + 1 ≤ 9223372036854775807 then (newswirelaw03_nines.l0 k x0 (x3 ++ (⟨#[57]⟩ : ByteArray)) (wrap64 (x4 + 1))) else (none)) else (some x3)
def newswirelaw03_nines.f (k : Nat) (a0 : Int) : Option (ByteArray) := newswirelaw03_nines.l0 k a0 (⟨#[]⟩ : ByteArray) 0
theorem newswirelaw03_nines.mono_l : ∀ k, (∀ y0 y1 y2, LeO (newswirelaw03_nines.l0 k y0 y1 y2) (newswirelaw03_nines.l0 (k + 1) y0 y1 y2))
  | 0 => fun _ _ _ r h => by simp [newswirelaw03_nines.l0] at h
  | k + 1 => by
    have ih0 := newswirelaw03_nines.mono_l k
    · intro y0 y1 y2
      unfold newswirelaw03_nines.l0
      repeat' first
      | (with_reducible exact ih0 _ _ _)
      | (with_reducible exact LeO.refl _)
      | (with_reducible exact LeO.none _)
      | (with_reducible refine LeO.ite ?_ ?_)
      | (with_reducible refine LeO.bind ?_ (fun _ => ?_))
      | exact ih0 _ _ _
      | exact LeO.none _
      | refine LeO.ite ?_ ?_
      | refine LeO.bind ?_ (fun _ => ?_)
theorem newswirelaw03_nines.mono : ∀ a0 k, LeO (newswirelaw03_nines.f k a0) (newswirelaw03_nines.f (k + 1) a0) := by
  intro a0 k
  have ih0 := newswirelaw03_nines.mono_l k
  unfold newswirelaw03_nines.f
  repeat' first
      | (with_reducible exact ih0 _ _ _)
      | (with_reducible exact LeO.refl _)
      | (with_reducible exact LeO.none _)
      | (with_reducible refine LeO.ite ?_ ?_)
      | (with_reducible refine LeO.bind ?_ (fun _ => ?_))
      | exact ih0 _ _ _
      | exact LeO.none _
      | refine LeO.ite ?_ ?_
      | refine LeO.bind ?_ (fun _ => ?_)
set_option maxHeartbeats 8000000 in
set_option maxRecDepth 100000 in
theorem newswirelaw03_nines.calls (k : Nat) (a0 : Int) (r : ByteArray) (w : World) (h : newswirelaw03_nines.f k a0 = some r) :
    Calls Tryz.prog 22 #[.int .i64 a0] w fun e w' => e = .returned (.string r) ∧ Drawn0 w w' := by
  have H : (newswirelaw03_nines.l0 k a0 (⟨#[]⟩ : ByteArray) 0) = some r := h
  clear h
  have H' := Aside0.mk H
  clear H
  go_enter Tryz.func22, Tryz.ntmps22
  go_wp2
  go_loopg [3, 4] k (fun kq v3 v4 w' => ∃ (x3_1 : ByteArray) (x4_1 : Int), v3 = .string x3_1 ∧ v4 = .int .i64 x4_1 ∧ Aside0 (newswirelaw03_nines.l0 kq a0 x3_1 x4_1 = some r) ∧ Aside0 (kq ≤ k) ∧ Drawn0 w w')
  case atStart => exact ⟨((⟨#[]⟩ : ByteArray)), (0), (by first | rfl | (simp; done) | (simp [*]; done)), (by first | rfl | (simp; done) | (simp [*]; done)), H', ⟨Nat.le_refl _⟩, by repeat (first | exact Drawn0.refl _ | apply Drawn0.step)⟩
  case round =>
    clear H'
    obtain ⟨x3_1, x4_1, rfl, rfl, HA, HK1, ⟨m1, rfl⟩⟩ := hrel
    cases gk with
    | zero => exact absurd HA.out (by simp [newswirelaw03_nines.l0])
    | succ k1 =>
      have H := HA.out
      clear HA
      simp only [newswirelaw03_nines.l0] at H
      by_cases c2 : x4_1 < a0
      · rw [if_pos c2] at H
        have c2b0 : decide (x4_1 < a0) = true := decide_eq_true c2
        clear c2
        by_cases c3 : x3_1.size + 1 ≤ 9223372036854775807
        · rw [if_pos c3] at H
          have c3b0 := eq_true c3
          have c3b1 : decide (x3_1.size + 1 ≤ 9223372036854775807) = true := decide_eq_true c3
          try have c3b2 : (9223372036854775807 < x3_1.size + 1) = False := eq_false (Nat.not_lt.2 c3)
          have H' := Aside0.mk H
          clear H
          go_wp2
          go_roundg k1
          case measure => have := HK1.out; omega
          case rel => exact ⟨(x3_1 ++ (⟨#[57]⟩ : ByteArray)), (wrap64 (x4_1 + 1)), (by first | rfl | (simp; done) | (simp [*]; done)), (by first | rfl | (simp; done) | (simp [*]; done)), H', ⟨by have := HK1.out; omega⟩, by repeat (first | exact Drawn0.refl _ | apply Drawn0.step)⟩
        · rw [if_neg c3] at H
          exact absurd H (by simp)
      · rw [if_neg c2] at H
        have c2b0 : decide (x4_1 < a0) = false := decide_eq_false c2
        clear c2
        obtain rfl := Option.some.inj H
        go_wp2
        go_ret
        exact ⟨by first | rfl | (simp; done) | (simp [*]; done), by repeat (first | exact Drawn0.refl _ | apply Drawn0.step)⟩

/-! ### newswirelaw03_pick: function 23 -/
def newswirelaw03_pick.f (a0 : Int) (a1 : Int) : Option (Int) := if a0 < 0 then (if a1 = 0 then (none) else (some (Int.tmod (wrap64 (-(wrap64 (a0 + 1)))) a1))) else (if a1 = 0 then (none) else (some (Int.tmod a0 a1)))
set_option maxHeartbeats 8000000 in
set_option maxRecDepth 100000 in
theorem newswirelaw03_pick.calls (a0 : Int) (a1 : Int) (r : Int) (w : World) (h : newswirelaw03_pick.f a0 a1 = some r) :
    Calls Tryz.prog 23 #[.int .i64 a0, .int .i64 a1] w fun e w' => e = .returned (.int .i64 r) ∧ Drawn0 w w' := by
  have H : (if a0 < 0 then (if a1 = 0 then (none) else (some (Int.tmod (wrap64 (-(wrap64 (a0 + 1)))) a1))) else (if a1 = 0 then (none) else (some (Int.tmod a0 a1)))) = some r := h
  clear h
  by_cases c3 : a0 < 0
  · rw [if_pos c3] at H
    have c3b0 : decide (a0 < 0) = true := decide_eq_true c3
    clear c3
    by_cases c4 : a1 = 0
    · rw [if_pos c4] at H
      exact absurd H (by simp)
    · rw [if_neg c4] at H
      have c4b0 : (a1 == 0) = false := beq_eq_false_iff_ne.mpr c4
      have c4b1 : (a1 != 0) = true := bne_iff_ne.mpr c4
      obtain rfl := Option.some.inj H
      go_enter Tryz.func23, Tryz.ntmps23
      go_wp2
      go_ret
      exact ⟨by first | rfl | (simp; done) | (simp [*]; done), by repeat (first | exact Drawn0.refl _ | apply Drawn0.step)⟩
  · rw [if_neg c3] at H
    have c3b0 : decide (a0 < 0) = false := decide_eq_false c3
    clear c3
    by_cases c5 : a1 = 0
    · rw [if_pos c5] at H
      exact absurd H (by simp)
    · rw [if_neg c5] at H
      have c5b0 : (a1 == 0) = false := beq_eq_false_iff_ne.mpr c5
      have c5b1 : (a1 != 0) = true := bne_iff_ne.mpr c5
      obtain rfl := Option.some.inj H
      go_enter Tryz.func23, Tryz.ntmps23
      go_wp2
      go_ret
      exact ⟨by first | rfl | (simp; done) | (simp [*]; done), by repeat (first | exact Drawn0.refl _ | apply Drawn0.step)⟩

end Go.Proofs.YthbiafjdilbbnaaGreatDoor.PI
