-- Printed by a program of this session's own, over the kit's print: functions of the program as plain functions, and their calls' contracts.
import Derived.Test.YthbiafjdilbbnaaGreatDoorCPIx0
import Derived.Test.YthbiafjdilbbnaaGreatDoorCPIx1
import Derived.Test.YthbiafjdilbbnaaGreatDoorCPIx2
import Derived.Test.YthbiafjdilbbnaaGreatDoorCPIx4
set_option linter.unusedVariables false
set_option linter.unusedSimpArgs false
namespace Go.Proofs.YthbiafjdilbbnaaGreatDoor.PI
open Go.RowKit Go.Proofs.YthbiafjdilbbnaaGreatDoorW.PrintWords Go.Proofs.YthbiafjdilbbnaaGreatDoorW.PrintLast Go.Proofs.YthbiafjdilbbnaaGreatDoorW.PrintMore
attribute [local go_sem] max2_int min2_int max_two min_two max_three min_three max_four min_four   -- for this text's walks alone
set_option linter.unusedVariables false
set_option linter.unusedSimpArgs false

/-! ### newswirelaw03_IntegerLimits: function 8 -/
mutual
def newswirelaw03_IntegerLimits.j0 : Nat → Int → Int → Bool → ByteArray → ByteArray → ByteArray → Int → ByteArray → Int → ByteArray → Int → Option (Bool)
  | 0, _, _, _, _, _, _, _, _, _, _, _ => none
  | k + 1, x1, x2, x7, x8, x9, x10, x11, x12, x13, x14, x15 => (newswirelaw03_nines.f k x2).bind fun t233 => (if 1 + t233.size ≤ 9223372036854775807 then ((integer_Mul.f x14 ((⟨#[49]⟩ : ByteArray) ++ t233)).bind fun bt234 => ((integer_Compare.f x8 (⟨#[48]⟩ : ByteArray)).bind fun t236 => (if x15 = 0 then (if ((x11 == 0) == (decide (t236 > 0))) = true then (newswirelaw03_IntegerLimits.j1 k x1 x2 x7 x9 x10 x11 x12 bt234.1 bt234.2 (decide ((wrap64 (x1 + x2)) < 200)) (decide (t236 > 0)) true) else (if ((x13 == 0) == (decide (t236 > 0))) = true then (newswirelaw03_IntegerLimits.j1 k x1 x2 x7 x9 x10 x11 x12 bt234.1 bt234.2 (decide ((wrap64 (x1 + x2)) < 200)) (decide (t236 > 0)) true) else (newswirelaw03_IntegerLimits.j1 k x1 x2 x7 x9 x10 x11 x12 bt234.1 bt234.2 (decide ((wrap64 (x1 + x2)) < 200)) (decide (t236 > 0)) ((bt234.2 == 0) != (decide ((wrap64 (x1 + x2)) < 200)))))) else (newswirelaw03_IntegerLimits.j1 k x1 x2 x7 x9 x10 x11 x12 bt234.1 bt234.2 (decide ((wrap64 (x1 + x2)) < 200)) (decide (t236 > 0)) true)))) else (none))
def newswirelaw03_IntegerLimits.j1 : Nat → Int → Int → Bool → ByteArray → ByteArray → Int → ByteArray → ByteArray → Int → Bool → Bool → Bool → Option (Bool)
  | 0, _, _, _, _, _, _, _, _, _, _, _, _ => none
  | k + 1, x1, x2, x7, x9, x10, x11, x12, x17, x18, x19, x20, x89 => if x89 = true then (some false) else (if x20 = true then (if x10.toList = ([] : List UInt8) then (if x12.toList = ([] : List UInt8) then (if x11 = 30 then (if x19 = true then (newswirelaw03_IntegerLimits.j2 k x1 x2 x7 x9 x17 x19 false) else (if x17.toList = ([] : List UInt8) then (newswirelaw03_IntegerLimits.j2 k x1 x2 x7 x9 x17 x19 (x18 != 30)) else (newswirelaw03_IntegerLimits.j2 k x1 x2 x7 x9 x17 x19 true))) else (newswirelaw03_IntegerLimits.j2 k x1 x2 x7 x9 x17 x19 true)) else (newswirelaw03_IntegerLimits.j2 k x1 x2 x7 x9 x17 x19 true)) else (newswirelaw03_IntegerLimits.j2 k x1 x2 x7 x9 x17 x19 true)) else (if x19 = true then (newswirelaw03_IntegerLimits.j2 k x1 x2 x7 x9 x17 x19 false) else (if x17.toList = ([] : List UInt8) then (newswirelaw03_IntegerLimits.j2 k x1 x2 x7 x9 x17 x19 (x18 != 30)) else (newswirelaw03_IntegerLimits.j2 k x1 x2 x7 x9 x17 x19 true))))
def newswirelaw03_IntegerLimits.j2 : Nat → Int → Int → Bool → ByteArray → ByteArray → Bool → Bool → Option (Bool)
  | 0, _, _, _, _, _, _, _ => none
  | k + 1, x1, x2, x7, x9, x17, x19, x114 => if x114 = true then (some false) else (if x7 = true then (if x19 = true then (if (x17.size : Int) = (wrap64 ((wrap64 (x1 + x2)) + 1)) then (if x9.size + 1 ≤ 9223372036854775807 then ((integer_Valid.f (x9 ++ (⟨#[57]⟩ : ByteArray))).bind fun t237 => (if t237 = true then (some false) else (if 1 + x9.size ≤ 9223372036854775807 then ((integer_Valid.f ((⟨#[45]⟩ : ByteArray) ++ x9)).bind fun t238 => (some t238)) else (none)))) else (none)) else (some false)) else (if x9.size + 1 ≤ 9223372036854775807 then ((integer_Valid.f (x9 ++ (⟨#[57]⟩ : ByteArray))).bind fun t239 => (if t239 = true then (some false) else (if 1 + x9.size ≤ 9223372036854775807 then ((integer_Valid.f ((⟨#[45]⟩ : ByteArray) ++ x9)).bind fun t240 => (some t240)) else (none)))) else (none))) else (some false))
end
def newswirelaw03_IntegerLimits.f (k : Nat) (a0 : ByteArray) (a1 : Int) (a2 : Int) : Option (Bool) := (newswirelaw03_sane.f k).bind fun t219 => ((newswireref03_Made.f k a0 5).bind fun t220 => ((newswirelaw03_nines.f k 200).bind fun t221 => ((integer_Add.f t221 t220).bind fun bt222 => (if 1 + t221.size ≤ 9223372036854775807 then ((integer_Sub.f ((⟨#[45]⟩ : ByteArray) ++ t221) t220).bind fun bt224 => ((newswirelaw03_pick.f a1 200).bind fun t226 => ((newswirelaw03_pick.f a2 200).bind fun t227 => ((newswirelaw03_nines.f k t226).bind fun t228 => ((integer_Add.f t228 (⟨#[49]⟩ : ByteArray)).bind fun bt229 => (if t226 = 0 then ((integer_Add.f (⟨#[48]⟩ : ByteArray) (⟨#[49]⟩ : ByteArray)).bind fun bt231 => (newswirelaw03_IntegerLimits.j0 k t226 t227 t219 t220 t221 bt222.1 bt222.2 bt224.1 bt224.2 bt231.1 bt231.2)) else (newswirelaw03_IntegerLimits.j0 k t226 t227 t219 t220 t221 bt222.1 bt222.2 bt224.1 bt224.2 bt229.1 bt229.2))))))) else (none)))))
theorem newswirelaw03_IntegerLimits.mono_l : ∀ k, (∀ y0 y1 y2 y3 y4 y5 y6 y7 y8 y9 y10, LeO (newswirelaw03_IntegerLimits.j0 k y0 y1 y2 y3 y4 y5 y6 y7 y8 y9 y10) (newswirelaw03_IntegerLimits.j0 (k + 1) y0 y1 y2 y3 y4 y5 y6 y7 y8 y9 y10)) ∧ (∀ y0 y1 y2 y3 y4 y5 y6 y7 y8 y9 y10 y11, LeO (newswirelaw03_IntegerLimits.j1 k y0 y1 y2 y3 y4 y5 y6 y7 y8 y9 y10 y11) (newswirelaw03_IntegerLimits.j1 (k + 1) y0 y1 y2 y3 y4 y5 y6 y7 y8 y9 y10 y11)) ∧ (∀ y0 y1 y2 y3 y4 y5 y6, LeO (newswirelaw03_IntegerLimits.j2 k y0 y1 y2 y3 y4 y5 y6) (newswirelaw03_IntegerLimits.j2 (k + 1) y0 y1 y2 y3 y4 y5 y6))
  | 0 => ⟨fun _ _ _ _ _ _ _ _ _ _ _ r h => by simp [newswirelaw03_IntegerLimits.j0] at h, fun _ _ _ _ _ _ _ _ _ _ _ _ r h => by simp [newswirelaw03_IntegerLimits.j1] at h, fun _ _ _ _ _ _ _ r h => by simp [newswirelaw03_IntegerLimits.j2] at h⟩
  | k + 1 => by
    obtain ⟨ih0, ih1, ih2⟩ := newswirelaw03_IntegerLimits.mono_l k
    refine ⟨?_, ?_, ?_⟩
    · intro y0 y1 y2 y3 y4 y5 y6 y7 y8 y9 y10
      unfold newswirelaw03_IntegerLimits.j0
      repeat' first
      | (with_reducible exact ih0 _ _ _ _ _ _ _ _ _ _ _)
      | (with_reducible exact ih1 _ _ _ _ _ _ _ _ _ _ _ _)
      | (with_reducible exact ih2 _ _ _ _ _ _ _)
      | (with_reducible exact newswirelaw03_nines.mono _ _)
      | (with_reducible exact newswirelaw03_sane.mono _)
      | (with_reducible exact newswireref03_Made.mono _ _ _)
      | (with_reducible exact LeO.refl _)
      | (with_reducible exact LeO.none _)
      | (with_reducible refine LeO.ite ?_ ?_)
      | (with_reducible refine LeO.bind ?_ (fun _ => ?_))
      | exact ih0 _ _ _ _ _ _ _ _ _ _ _
      | exact ih1 _ _ _ _ _ _ _ _ _ _ _ _
      | exact ih2 _ _ _ _ _ _ _
      | exact newswirelaw03_nines.mono _ _
      | exact newswirelaw03_sane.mono _
      | exact newswireref03_Made.mono _ _ _
      | exact LeO.none _
      | refine LeO.ite ?_ ?_
      | refine LeO.bind ?_ (fun _ => ?_)
    · intro y0 y1 y2 y3 y4 y5 y6 y7 y8 y9 y10 y11
      unfold newswirelaw03_IntegerLimits.j1
      repeat' first
      | (with_reducible exact ih0 _ _ _ _ _ _ _ _ _ _ _)
      | (with_reducible exact ih1 _ _ _ _ _ _ _ _ _ _ _ _)
      | (with_reducible exact ih2 _ _ _ _ _ _ _)
      | (with_reducible exact newswirelaw03_nines.mono _ _)
      | (with_reducible exact newswirelaw03_sane.mono _)
      | (with_reducible exact newswireref03_Made.mono _ _ _)
      | (with_reducible exact LeO.refl _)
      | (with_reducible exact LeO.none _)
      | (with_reducible refine LeO.ite ?_ ?_)
      | (with_reducible refine LeO.bind ?_ (fun _ => ?_))
      | exact ih0 _ _ _ _ _ _ _ _ _ _ _
      | exact ih1 _ _ _ _ _ _ _ _ _ _ _ _
      | exact ih2 _ _ _ _ _ _ _
      | exact newswirelaw03_nines.mono _ _
      | exact newswirelaw03_sane.mono _
      | exact newswireref03_Made.mono _ _ _
      | exact LeO.none _
      | refine LeO.ite ?_ ?_
      | refine LeO.bind ?_ (fun _ => ?_)
    · intro y0 y1 y2 y3 y4 y5 y6
      unfold newswirelaw03_IntegerLimits.j2
      repeat' first
      | (with_reducible exact ih0 _ _ _ _ _ _ _ _ _ _ _)
      | (with_reducible exact ih1 _ _ _ _ _ _ _ _ _ _ _ _)
      | (with_reducible exact ih2 _ _ _ _ _ _ _)
      | (with_reducible exact newswirelaw03_nines.mono _ _)
      | (with_reducible exact newswirelaw03_sane.mono _)
      | (with_reducible exact newswireref03_Made.mono _ _ _)
      | (with_reducible exact LeO.refl _)
      | (with_reducible exact LeO.none _)
      | (with_reducible refine LeO.ite ?_ ?_)
      | (with_reducible refine LeO.bind ?_ (fun _ => ?_))
      | exact ih0 _ _ _ _ _ _ _ _ _ _ _
      | exact ih1 _ _ _ _ _ _ _ _ _ _ _ _
      | exact ih2 _ _ _ _ _ _ _
      | exact newswirelaw03_nines.mono _ _
      | exact newswirelaw03_sane.mono _
      | exact newswireref03_Made.mono _ _ _
      | exact LeO.none _
      | refine LeO.ite ?_ ?_
      | refine LeO.bind ?_ (fun _ => ?_)
theorem newswirelaw03_IntegerLimits.mono : ∀ a0 a1 a2 k, LeO (newswirelaw03_IntegerLimits.f k a0 a1 a2) (newswirelaw03_IntegerLimits.f (k + 1) a0 a1 a2) := by
  intro a0 a1 a2 k
  obtain ⟨ih0, ih1, ih2⟩ := newswirelaw03_IntegerLimits.mono_l k
  unfold newswirelaw03_IntegerLimits.f
  repeat' first
      | (with_reducible exact ih0 _ _ _ _ _ _ _ _ _ _ _)
      | (with_reducible exact ih1 _ _ _ _ _ _ _ _ _ _ _ _)
      | (with_reducible exact ih2 _ _ _ _ _ _ _)
      | (with_reducible exact newswirelaw03_nines.mono _ _)
      | (with_reducible exact newswirelaw03_sane.mono _)
      | (with_reducible exact newswireref03_Made.mono _ _ _)
      | (with_reducible exact LeO.refl _)
      | (with_reducible exact LeO.none _)
      | (with_reducible refine LeO.ite ?_ ?_)
      | (with_reducible refine LeO.bind ?_ (fun _ => ?_))
      | exact ih0 _ _ _ _ _ _ _ _ _ _ _
      | exact ih1 _ _ _ _ _ _ _ _ _ _ _ _
      | exact ih2 _ _ _ _ _ _ _
      | exact newswirelaw03_nines.mono _ _
      | exact newswirelaw03_sane.mono _
      | exact newswireref03_Made.mono _ _ _
      | exact LeO.none _
      | refine LeO.ite ?_ ?_
      | refine LeO.bind ?_ (fun _ => ?_)
set_option maxHeartbeats 8000000 in
set_option maxRecDepth 100000 in
theorem newswirelaw03_IntegerLimits.calls (k : Nat) (a0 : ByteArray) (a1 : Int) (a2 : Int) (r : Bool) (w : World) (hT : Laid w) (h : newswirelaw03_IntegerLimits.f k a0 a1 a2 = some r) :
    Calls Tryz.prog 8 #[.string a0, .int .i64 a1, .int .i64 a2] w fun e w' => e = .returned (.bool r) ∧ Below w.heap.size w w' := by
  have HT := Aside0.mk hT
  clear hT
  have HB := Aside0.mk (Below.refl w.heap.size w)
  have H : ((newswirelaw03_sane.f k).bind fun t219 => ((newswireref03_Made.f k a0 5).bind fun t220 => ((newswirelaw03_nines.f k 200).bind fun t221 => ((integer_Add.f t221 t220).bind fun bt222 => (if 1 + t221.size ≤ 9223372036854775807 then ((integer_Sub.f ((⟨#[45]⟩ : ByteArray) ++ t221) t220).bind fun bt224 => ((newswirelaw03_pick.f a1 200).bind fun t226 => ((newswirelaw03_pick.f a2 200).bind fun t227 => ((newswirelaw03_nines.f k t226).bind fun t228 => ((integer_Add.f t228 (⟨#[49]⟩ : ByteArray)).bind fun bt229 => (if t226 = 0 then ((integer_Add.f (⟨#[48]⟩ : ByteArray) (⟨#[49]⟩ : ByteArray)).bind fun bt231 => (newswirelaw03_IntegerLimits.j0 k t226 t227 t219 t220 t221 bt222.1 bt222.2 bt224.1 bt224.2 bt231.1 bt231.2)) else (newswirelaw03_IntegerLimits.j0 k t226 t227 t219 t220 t221 bt222.1 bt222.2 bt224.1 bt224.2 bt229.1 bt229.2))))))) else (none)))))) = some r := h
  clear h
  replace H := Option.bind_eq_some_iff.mp H
  obtain ⟨t219, A40, H⟩ := H
  replace H : ((newswireref03_Made.f k a0 5).bind fun t220 => ((newswirelaw03_nines.f k 200).bind fun t221 => ((integer_Add.f t221 t220).bind fun bt222 => (if 1 + t221.size ≤ 9223372036854775807 then ((integer_Sub.f ((⟨#[45]⟩ : ByteArray) ++ t221) t220).bind fun bt224 => ((newswirelaw03_pick.f a1 200).bind fun t226 => ((newswirelaw03_pick.f a2 200).bind fun t227 => ((newswirelaw03_nines.f k t226).bind fun t228 => ((integer_Add.f t228 (⟨#[49]⟩ : ByteArray)).bind fun bt229 => (if t226 = 0 then ((integer_Add.f (⟨#[48]⟩ : ByteArray) (⟨#[49]⟩ : ByteArray)).bind fun bt231 => (newswirelaw03_IntegerLimits.j0 k t226 t227 t219 t220 t221 bt222.1 bt222.2 bt224.1 bt224.2 bt231.1 bt231.2)) else (newswirelaw03_IntegerLimits.j0 k t226 t227 t219 t220 t221 bt222.1 bt222.2 bt224.1 bt224.2 bt229.1 bt229.2))))))) else (none))))) = some r := H
  have A4 := Aside0.mk A40
  clear A40
  replace H := Option.bind_eq_some_iff.mp H
  obtain ⟨t220, A50, H⟩ := H
  replace H : ((newswirelaw03_nines.f k 200).bind fun t221 => ((integer_Add.f t221 t220).bind fun bt222 => (if 1 + t221.size ≤ 9223372036854775807 then ((integer_Sub.f ((⟨#[45]⟩ : ByteArray) ++ t221) t220).bind fun bt224 => ((newswirelaw03_pick.f a1 200).bind fun t226 => ((newswirelaw03_pick.f a2 200).bind fun t227 => ((newswirelaw03_nines.f k t226).bind fun t228 => ((integer_Add.f t228 (⟨#[49]⟩ : ByteArray)).bind fun bt229 => (if t226 = 0 then ((integer_Add.f (⟨#[48]⟩ : ByteArray) (⟨#[49]⟩ : ByteArray)).bind fun bt231 => (newswirelaw03_IntegerLimits.j0 k t226 t227 t219 t220 t221 bt222.1 bt222.2 bt224.1 bt224.2 bt231.1 bt231.2)) else (newswirelaw03_IntegerLimits.j0 k t226 t227 t219 t220 t221 bt222.1 bt222.2 bt224.1 bt224.2 bt229.1 bt229.2))))))) else (none)))) = some r := H
  have A5 := Aside0.mk A50
  clear A50
  replace H := Option.bind_eq_some_iff.mp H
  obtain ⟨t221, A60, H⟩ := H
  replace H : ((integer_Add.f t221 t220).bind fun bt222 => (if 1 + t221.size ≤ 9223372036854775807 then ((integer_Sub.f ((⟨#[45]⟩ : ByteArray) ++ t221) t220).bind fun bt224 => ((newswirelaw03_pick.f a1 200).bind fun t226 => ((newswirelaw03_pick.f a2 200).bind fun t227 => ((newswirelaw03_nines.f k t226).bind fun t228 => ((integer_Add.f t228 (⟨#[49]⟩ : ByteArray)).bind fun bt229 => (if t226 = 0 then ((integer_Add.f (⟨#[48]⟩ : ByteArray) (⟨#[49]⟩ : ByteArray)).bind fun bt231 => (newswirelaw03_IntegerLimits.j0 k t226 t227 t219 t220 t221 bt222.1 bt222.2 bt224.1 bt224.2 bt231.1 bt231.2)) else (newswirelaw03_IntegerLimits.j0 k t226 t227 t219 t220 t221 bt222.1 bt222.2 bt224.1 bt224.2 bt229.1 bt229.2))))))) else (none))) = some r := H
  have A6 := Aside0.mk A60
  clear A60
  replace H := Option.bind_eq_some_iff.mp H
  obtain ⟨⟨t222, t223⟩, A70, H⟩ := H
  replace H : (if 1 + t221.size ≤ 9223372036854775807 then ((integer_Sub.f ((⟨#[45]⟩ : ByteArray) ++ t221) t220).bind fun bt224 => ((newswirelaw03_pick.f a1 200).bind fun t226 => ((newswirelaw03_pick.f a2 200).bind fun t227 => ((newswirelaw03_nines.f k t226).bind fun t228 => ((integer_Add.f t228 (⟨#[49]⟩ : ByteArray)).bind fun bt229 => (if t226 = 0 then ((integer_Add.f (⟨#[48]⟩ : ByteArray) (⟨#[49]⟩ : ByteArray)).bind fun bt231 => (newswirelaw03_IntegerLimits.j0 k t226 t227 t219 t220 t221 t222 t223 bt224.1 bt224.2 bt231.1 bt231.2)) else (newswirelaw03_IntegerLimits.j0 k t226 t227 t219 t220 t221 t222 t223 bt224.1 bt224.2 bt229.1 bt229.2))))))) else (none)) = some r := H
  have A7 := Aside0.mk A70
  clear A70
  by_cases c8 : 1 + t221.size ≤ 9223372036854775807
  · rw [if_pos c8] at H
    have c8b0 := eq_true c8
    have c8b1 : decide (1 + t221.size ≤ 9223372036854775807) = true := decide_eq_true c8
    try have c8b2 : (9223372036854775807 < 1 + t221.size) = False := eq_false (Nat.not_lt.2 c8)
    replace H := Option.bind_eq_some_iff.mp H
    obtain ⟨⟨t224, t225⟩, A90, H⟩ := H
    replace H : ((newswirelaw03_pick.f a1 200).bind fun t226 => ((newswirelaw03_pick.f a2 200).bind fun t227 => ((newswirelaw03_nines.f k t226).bind fun t228 => ((integer_Add.f t228 (⟨#[49]⟩ : ByteArray)).bind fun bt229 => (if t226 = 0 then ((integer_Add.f (⟨#[48]⟩ : ByteArray) (⟨#[49]⟩ : ByteArray)).bind fun bt231 => (newswirelaw03_IntegerLimits.j0 k t226 t227 t219 t220 t221 t222 t223 t224 t225 bt231.1 bt231.2)) else (newswirelaw03_IntegerLimits.j0 k t226 t227 t219 t220 t221 t222 t223 t224 t225 bt229.1 bt229.2)))))) = some r := H
    have A9 := Aside0.mk A90
    clear A90
    replace H := Option.bind_eq_some_iff.mp H
    obtain ⟨t226, A100, H⟩ := H
    replace H : ((newswirelaw03_pick.f a2 200).bind fun t227 => ((newswirelaw03_nines.f k t226).bind fun t228 => ((integer_Add.f t228 (⟨#[49]⟩ : ByteArray)).bind fun bt229 => (if t226 = 0 then ((integer_Add.f (⟨#[48]⟩ : ByteArray) (⟨#[49]⟩ : ByteArray)).bind fun bt231 => (newswirelaw03_IntegerLimits.j0 k t226 t227 t219 t220 t221 t222 t223 t224 t225 bt231.1 bt231.2)) else (newswirelaw03_IntegerLimits.j0 k t226 t227 t219 t220 t221 t222 t223 t224 t225 bt229.1 bt229.2))))) = some r := H
    have A10 := Aside0.mk A100
    clear A100
    replace H := Option.bind_eq_some_iff.mp H
    obtain ⟨t227, A110, H⟩ := H
    replace H : ((newswirelaw03_nines.f k t226).bind fun t228 => ((integer_Add.f t228 (⟨#[49]⟩ : ByteArray)).bind fun bt229 => (if t226 = 0 then ((integer_Add.f (⟨#[48]⟩ : ByteArray) (⟨#[49]⟩ : ByteArray)).bind fun bt231 => (newswirelaw03_IntegerLimits.j0 k t226 t227 t219 t220 t221 t222 t223 t224 t225 bt231.1 bt231.2)) else (newswirelaw03_IntegerLimits.j0 k t226 t227 t219 t220 t221 t222 t223 t224 t225 bt229.1 bt229.2)))) = some r := H
    have A11 := Aside0.mk A110
    clear A110
    replace H := Option.bind_eq_some_iff.mp H
    obtain ⟨t228, A120, H⟩ := H
    replace H : ((integer_Add.f t228 (⟨#[49]⟩ : ByteArray)).bind fun bt229 => (if t226 = 0 then ((integer_Add.f (⟨#[48]⟩ : ByteArray) (⟨#[49]⟩ : ByteArray)).bind fun bt231 => (newswirelaw03_IntegerLimits.j0 k t226 t227 t219 t220 t221 t222 t223 t224 t225 bt231.1 bt231.2)) else (newswirelaw03_IntegerLimits.j0 k t226 t227 t219 t220 t221 t222 t223 t224 t225 bt229.1 bt229.2))) = some r := H
    have A12 := Aside0.mk A120
    clear A120
    replace H := Option.bind_eq_some_iff.mp H
    obtain ⟨⟨t229, t230⟩, A130, H⟩ := H
    replace H : (if t226 = 0 then ((integer_Add.f (⟨#[48]⟩ : ByteArray) (⟨#[49]⟩ : ByteArray)).bind fun bt231 => (newswirelaw03_IntegerLimits.j0 k t226 t227 t219 t220 t221 t222 t223 t224 t225 bt231.1 bt231.2)) else (newswirelaw03_IntegerLimits.j0 k t226 t227 t219 t220 t221 t222 t223 t224 t225 t229 t230)) = some r := H
    have A13 := Aside0.mk A130
    clear A130
    have HC14 := Aside0.mk H
    clear H
    go_enter Tryz.func8, Tryz.ntmps8
    go_upto_if 49 with (first | ((with_reducible refine gate_callee (f := 12) rfl ?_); refine goesL_ (some 21) rfl rfl Tryz.func12 (by kernel_rfl) rfl #[] rfl (by (try simp only [List.map_toArray, List.map_cons, List.map_nil]); first | done | rfl | (simp only [List.length_drop, List.length_take]; rfl)) ?_; (with_reducible refine (newswirelaw03_sane.calls k  t219 _ ?side1 A4.out).mono ?_); (case side1 => exact Laid.on HT.out (by repeat (first | (with_reducible first | exact HB.out | apply below_alloc | apply pw_below_drewN | apply below_drew1) | exact HB.out))); rintro e w15 ⟨rfl, hb⟩; refine ⟨_, rfl, ?_⟩; have n0_ := Aside0.mk (below_step (by repeat (first | (with_reducible first | exact HB.out | apply below_alloc | apply pw_below_drewN | apply below_drew1) | exact HB.out)) hb); clear HB; have HB := n0_; clear n0_; (try clear hb); (try clear hb2); (try clear hk); (try clear hi)) | ((with_reducible refine gate_callee (f := 13) rfl ?_); refine goesL_ (some 23) rfl rfl Tryz.func13 (by kernel_rfl) rfl #[.string a0, .int .i64 5] rfl (by (try simp only [List.map_toArray, List.map_cons, List.map_nil]); first | done | rfl | (simp only [List.length_drop, List.length_take]; rfl)) ?_; (with_reducible refine (newswireref03_Made.calls k a0 5 t220 _ A5.out).mono ?_); rintro e w16 ⟨rfl, hb⟩; refine ⟨_, rfl, ?_⟩; have n0_ := Aside0.mk (below_step (by repeat (first | (with_reducible first | exact HB.out | apply below_alloc | apply pw_below_drewN | apply below_drew1) | exact HB.out)) hb); clear HB; have HB := n0_; clear n0_; (try clear hb); (try clear hb2); (try clear hk); (try clear hi)) | ((with_reducible refine gate_callee (f := 22) rfl ?_); refine goesL_ (some 24) rfl rfl Tryz.func22 (by kernel_rfl) rfl #[.int .i64 200] rfl (by (try simp only [List.map_toArray, List.map_cons, List.map_nil]); first | done | rfl | (simp only [List.length_drop, List.length_take]; rfl)) ?_; (with_reducible refine (newswirelaw03_nines.calls k 200 t221 _ A6.out).mono ?_); rintro e w' ⟨rfl, ⟨nd, rfl⟩⟩; refine ⟨_, rfl, ?_⟩) | ((with_reducible refine gate_callee (f := 14) rfl ?_); refine goesL_ (some 28) rfl rfl Tryz.func14 (by kernel_rfl) rfl #[.string t221, .string t220] rfl (by (try simp only [List.map_toArray, List.map_cons, List.map_nil]); first | done | rfl | (simp only [List.length_drop, List.length_take]; rfl)) ?_; (with_reducible refine (integer_Add.calls t221 t220 t222 t223 _ ?side1 A7.out).mono ?_); (case side1 => exact Laid.on HT.out (by repeat (first | (with_reducible first | exact HB.out | apply below_alloc | apply pw_below_drewN | apply below_drew1) | exact HB.out))); rintro e w17 ⟨rfl, hb⟩; refine ⟨_, rfl, ?_⟩; have n0_ := Aside0.mk (below_step (by repeat (first | (with_reducible first | exact HB.out | apply below_alloc | apply pw_below_drewN | apply below_drew1) | exact HB.out)) hb); clear HB; have HB := n0_; clear n0_; (try clear hb); (try clear hb2); (try clear hk); (try clear hi)) | ((with_reducible refine gate_callee (f := 16) rfl ?_); refine goesL_ (some 35) rfl rfl Tryz.func16 (by kernel_rfl) rfl #[.string ((⟨#[45]⟩ : ByteArray) ++ t221), .string t220] rfl (by (try simp only [List.map_toArray, List.map_cons, List.map_nil]); first | done | rfl | (simp only [List.length_drop, List.length_take]; rfl)) ?_; (with_reducible refine (integer_Sub.calls ((⟨#[45]⟩ : ByteArray) ++ t221) t220 t224 t225 _ ?side1 A9.out).mono ?_); (case side1 => exact Laid.on HT.out (by repeat (first | (with_reducible first | exact HB.out | apply below_alloc | apply pw_below_drewN | apply below_drew1) | exact HB.out))); rintro e w18 ⟨rfl, hb⟩; refine ⟨_, rfl, ?_⟩; have n0_ := Aside0.mk (below_step (by repeat (first | (with_reducible first | exact HB.out | apply below_alloc | apply pw_below_drewN | apply below_drew1) | exact HB.out)) hb); clear HB; have HB := n0_; clear n0_; (try clear hb); (try clear hb2); (try clear hk); (try clear hi)) | ((with_reducible refine gate_callee (f := 23) rfl ?_); refine goesL_ (some 39) rfl rfl Tryz.func23 (by kernel_rfl) rfl #[.int .i64 a1, .int .i64 200] rfl (by (try simp only [List.map_toArray, List.map_cons, List.map_nil]); first | done | rfl | (simp only [List.length_drop, List.length_take]; rfl)) ?_; (with_reducible refine (newswirelaw03_pick.calls a1 200 t226 _ A10.out).mono ?_); rintro e w' ⟨rfl, ⟨nd, rfl⟩⟩; refine ⟨_, rfl, ?_⟩) | ((with_reducible refine gate_callee (f := 23) rfl ?_); refine goesL_ (some 41) rfl rfl Tryz.func23 (by kernel_rfl) rfl #[.int .i64 a2, .int .i64 200] rfl (by (try simp only [List.map_toArray, List.map_cons, List.map_nil]); first | done | rfl | (simp only [List.length_drop, List.length_take]; rfl)) ?_; (with_reducible refine (newswirelaw03_pick.calls a2 200 t227 _ A11.out).mono ?_); rintro e w' ⟨rfl, ⟨nd, rfl⟩⟩; refine ⟨_, rfl, ?_⟩) | ((with_reducible refine gate_callee (f := 22) rfl ?_); refine goesL_ (some 44) rfl rfl Tryz.func22 (by kernel_rfl) rfl #[.int .i64 t226] rfl (by (try simp only [List.map_toArray, List.map_cons, List.map_nil]); first | done | rfl | (simp only [List.length_drop, List.length_take]; rfl)) ?_; (with_reducible refine (newswirelaw03_nines.calls k t226 t228 _ A12.out).mono ?_); rintro e w' ⟨rfl, ⟨nd, rfl⟩⟩; refine ⟨_, rfl, ?_⟩) | ((with_reducible refine gate_callee (f := 14) rfl ?_); refine goesL_ (some 45) rfl rfl Tryz.func14 (by kernel_rfl) rfl #[.string t228, .string (⟨#[49]⟩ : ByteArray)] rfl (by (try simp only [List.map_toArray, List.map_cons, List.map_nil]); first | done | rfl | (simp only [List.length_drop, List.length_take]; rfl)) ?_; (with_reducible refine (integer_Add.calls t228 (⟨#[49]⟩ : ByteArray) t229 t230 _ ?side1 A13.out).mono ?_); (case side1 => exact Laid.on HT.out (by repeat (first | (with_reducible first | exact HB.out | apply below_alloc | apply pw_below_drewN | apply below_drew1) | exact HB.out))); rintro e w19 ⟨rfl, hb⟩; refine ⟨_, rfl, ?_⟩; have n0_ := Aside0.mk (below_step (by repeat (first | (with_reducible first | exact HB.out | apply below_alloc | apply pw_below_drewN | apply below_drew1) | exact HB.out)) hb); clear HB; have HB := n0_; clear n0_; (try clear hb); (try clear hb2); (try clear hk); (try clear hi)))
    (try simp only [Act.put, List.setIfInBounds_toArray, List.set_cons_zero, List.set_cons_succ])
    go_cut [14, 15] (fun v14 v15 wc => ∃ (kq : Nat) (x14_13 : ByteArray) (x15_13 : Int), v14 = .string x14_13 ∧ v15 = .int .i64 x15_13 ∧ Aside0 (newswirelaw03_IntegerLimits.j0 kq t226 t227 t219 t220 t221 t222 t223 t224 t225 x14_13 x15_13 = some r) ∧ Aside0 (kq ≤ k) ∧ Aside0 (Below w.heap.size w wc))
    case first =>
      have H := HC14.out
      clear HC14
      by_cases c20 : t226 = 0
      · rw [if_pos c20] at H
        have c20b0 : (t226 == 0) = true := beq_iff_eq.mpr c20
        have c20b1 : (t226 != 0) = false := bne_eq_false_iff_eq.mpr c20
        clear c20
        (first | rw [c20b0] | (simp only [i64_w, i32_w]; rw [c20b0]) | skip)
        replace H := Option.bind_eq_some_iff.mp H
        obtain ⟨⟨t231, t232⟩, A210, H⟩ := H
        replace H : (newswirelaw03_IntegerLimits.j0 k t226 t227 t219 t220 t221 t222 t223 t224 t225 t231 t232) = some r := H
        have A21 := Aside0.mk A210
        clear A210
        have H' := Aside0.mk H
        clear H
        go_wp2_with (first | ((with_reducible refine gate_callee (f := 14) rfl ?_); refine goesL_ (some 51) rfl rfl Tryz.func14 (by kernel_rfl) rfl #[.string (⟨#[48]⟩ : ByteArray), .string (⟨#[49]⟩ : ByteArray)] rfl (by (try simp only [List.map_toArray, List.map_cons, List.map_nil]); first | done | rfl | (simp only [List.length_drop, List.length_take]; rfl)) ?_; (with_reducible refine (integer_Add.calls (⟨#[48]⟩ : ByteArray) (⟨#[49]⟩ : ByteArray) t231 t232 _ ?side1 A21.out).mono ?_); (case side1 => exact Laid.on HT.out (by repeat (first | (with_reducible first | exact HB.out | apply below_alloc | apply pw_below_drewN | apply below_drew1) | exact HB.out))); rintro e w22 ⟨rfl, hb⟩; refine ⟨_, rfl, ?_⟩; have n0_ := Aside0.mk (below_step (by repeat (first | (with_reducible first | exact HB.out | apply below_alloc | apply pw_below_drewN | apply below_drew1) | exact HB.out)) hb); clear HB; have HB := n0_; clear n0_; (try clear hb); (try clear hb2); (try clear hk); (try clear hi)))
        go_meet
        case rel => exact ⟨_, (t231), (t232), (by first | rfl | (simp; done) | (simp [*]; done)), (by first | rfl | (simp; done) | (simp [*]; done)), H', ⟨by first | omega | exact Nat.le_refl _⟩, ⟨by repeat (first | (with_reducible first | exact HB.out | apply below_alloc | apply pw_below_drewN | apply below_drew1) | exact HB.out)⟩⟩
      · rw [if_neg c20] at H
        have c20b0 : (t226 == 0) = false := beq_eq_false_iff_ne.mpr c20
        have c20b1 : (t226 != 0) = true := bne_iff_ne.mpr c20
        (first | rw [c20b0] | (simp only [i64_w, i32_w]; rw [c20b0]) | skip)
        have H' := Aside0.mk H
        clear H
        go_wp2
        go_meet
        case rel => exact ⟨_, (t229), (t230), (by first | rfl | (simp; done) | (simp [*]; done)), (by first | rfl | (simp; done) | (simp [*]; done)), H', ⟨by first | omega | exact Nat.le_refl _⟩, ⟨by repeat (first | (with_reducible first | exact HB.out | apply below_alloc | apply pw_below_drewN | apply below_drew1) | exact HB.out)⟩⟩
    case rest =>
      clear HC14
      try clear c1
      try clear c2
      try clear p2
      try clear c8
      try clear c8b0
      try clear c8b1
      try clear c8b2
      try clear c12
      try clear c13
      try clear c14
      try clear c16
      try clear c20
      try clear c20b0
      try clear c20b1
      try clear c22
      obtain ⟨kq, x14_13, x15_13, rfl, rfl, HA, HJ13, HB⟩ := hcut
      cases kq with
      | zero => exact absurd HA.out (by simp [newswirelaw03_IntegerLimits.j0])
      | succ kj13 =>
        have H := HA.out
        clear HA
        simp only [newswirelaw03_IntegerLimits.j0] at H
        replace H := Option.bind_eq_some_iff.mp H
        obtain ⟨t233, A230, H⟩ := H
        replace H : (if 1 + t233.size ≤ 9223372036854775807 then ((integer_Mul.f x14_13 ((⟨#[49]⟩ : ByteArray) ++ t233)).bind fun bt234 => ((integer_Compare.f t220 (⟨#[48]⟩ : ByteArray)).bind fun t236 => (if x15_13 = 0 then (if ((t223 == 0) == (decide (t236 > 0))) = true then (newswirelaw03_IntegerLimits.j1 kj13 t226 t227 t219 t221 t222 t223 t224 bt234.1 bt234.2 (decide ((wrap64 (t226 + t227)) < 200)) (decide (t236 > 0)) true) else (if ((t225 == 0) == (decide (t236 > 0))) = true then (newswirelaw03_IntegerLimits.j1 kj13 t226 t227 t219 t221 t222 t223 t224 bt234.1 bt234.2 (decide ((wrap64 (t226 + t227)) < 200)) (decide (t236 > 0)) true) else (newswirelaw03_IntegerLimits.j1 kj13 t226 t227 t219 t221 t222 t223 t224 bt234.1 bt234.2 (decide ((wrap64 (t226 + t227)) < 200)) (decide (t236 > 0)) ((bt234.2 == 0) != (decide ((wrap64 (t226 + t227)) < 200)))))) else (newswirelaw03_IntegerLimits.j1 kj13 t226 t227 t219 t221 t222 t223 t224 bt234.1 bt234.2 (decide ((wrap64 (t226 + t227)) < 200)) (decide (t236 > 0)) true)))) else (none)) = some r := H
        have A23 := Aside0.mk A230
        clear A230
        by_cases c24 : 1 + t233.size ≤ 9223372036854775807
        · rw [if_pos c24] at H
          have c24b0 := eq_true c24
          have c24b1 : decide (1 + t233.size ≤ 9223372036854775807) = true := decide_eq_true c24
          try have c24b2 : (9223372036854775807 < 1 + t233.size) = False := eq_false (Nat.not_lt.2 c24)
          replace H := Option.bind_eq_some_iff.mp H
          obtain ⟨⟨t234, t235⟩, A250, H⟩ := H
          replace H : ((integer_Compare.f t220 (⟨#[48]⟩ : ByteArray)).bind fun t236 => (if x15_13 = 0 then (if ((t223 == 0) == (decide (t236 > 0))) = true then (newswirelaw03_IntegerLimits.j1 kj13 t226 t227 t219 t221 t222 t223 t224 t234 t235 (decide ((wrap64 (t226 + t227)) < 200)) (decide (t236 > 0)) true) else (if ((t225 == 0) == (decide (t236 > 0))) = true then (newswirelaw03_IntegerLimits.j1 kj13 t226 t227 t219 t221 t222 t223 t224 t234 t235 (decide ((wrap64 (t226 + t227)) < 200)) (decide (t236 > 0)) true) else (newswirelaw03_IntegerLimits.j1 kj13 t226 t227 t219 t221 t222 t223 t224 t234 t235 (decide ((wrap64 (t226 + t227)) < 200)) (decide (t236 > 0)) ((t235 == 0) != (decide ((wrap64 (t226 + t227)) < 200)))))) else (newswirelaw03_IntegerLimits.j1 kj13 t226 t227 t219 t221 t222 t223 t224 t234 t235 (decide ((wrap64 (t226 + t227)) < 200)) (decide (t236 > 0)) true))) = some r := H
          have A25 := Aside0.mk A250
          clear A250
          replace H := Option.bind_eq_some_iff.mp H
          obtain ⟨t236, A260, H⟩ := H
          replace H : (if x15_13 = 0 then (if ((t223 == 0) == (decide (t236 > 0))) = true then (newswirelaw03_IntegerLimits.j1 kj13 t226 t227 t219 t221 t222 t223 t224 t234 t235 (decide ((wrap64 (t226 + t227)) < 200)) (decide (t236 > 0)) true) else (if ((t225 == 0) == (decide (t236 > 0))) = true then (newswirelaw03_IntegerLimits.j1 kj13 t226 t227 t219 t221 t222 t223 t224 t234 t235 (decide ((wrap64 (t226 + t227)) < 200)) (decide (t236 > 0)) true) else (newswirelaw03_IntegerLimits.j1 kj13 t226 t227 t219 t221 t222 t223 t224 t234 t235 (decide ((wrap64 (t226 + t227)) < 200)) (decide (t236 > 0)) ((t235 == 0) != (decide ((wrap64 (t226 + t227)) < 200)))))) else (newswirelaw03_IntegerLimits.j1 kj13 t226 t227 t219 t221 t222 t223 t224 t234 t235 (decide ((wrap64 (t226 + t227)) < 200)) (decide (t236 > 0)) true)) = some r := H
          have A26 := Aside0.mk A260
          clear A260
          have HC27 := Aside0.mk H
          clear H
          go_upto_region 15 with (first | ((with_reducible refine gate_callee (f := 22) rfl ?_); refine goesL_ (some 55) rfl rfl Tryz.func22 (by kernel_rfl) rfl #[.int .i64 t227] rfl (by (try simp only [List.map_toArray, List.map_cons, List.map_nil]); first | done | rfl | (simp only [List.length_drop, List.length_take]; rfl)) ?_; (with_reducible refine (newswirelaw03_nines.calls kj13 t227 t233 _ A23.out).mono ?_); rintro e w' ⟨rfl, ⟨nd, rfl⟩⟩; refine ⟨_, rfl, ?_⟩) | ((with_reducible refine gate_callee (f := 15) rfl ?_); refine goesL_ (some 60) rfl rfl Tryz.func15 (by kernel_rfl) rfl #[.string x14_13, .string ((⟨#[49]⟩ : ByteArray) ++ t233)] rfl (by (try simp only [List.map_toArray, List.map_cons, List.map_nil]); first | done | rfl | (simp only [List.length_drop, List.length_take]; rfl)) ?_; (with_reducible refine (integer_Mul.calls x14_13 ((⟨#[49]⟩ : ByteArray) ++ t233) t234 t235 _ ?side1 A25.out).mono ?_); (case side1 => exact Laid.on HT.out (by repeat (first | (with_reducible first | exact HB.out | apply below_alloc | apply pw_below_drewN | apply below_drew1) | exact HB.out))); rintro e w28 ⟨rfl, hb⟩; refine ⟨_, rfl, ?_⟩; have n0_ := Aside0.mk (below_step (by repeat (first | (with_reducible first | exact HB.out | apply below_alloc | apply pw_below_drewN | apply below_drew1) | exact HB.out)) hb); clear HB; have HB := n0_; clear n0_; (try clear hb); (try clear hb2); (try clear hk); (try clear hi)) | ((with_reducible refine gate_callee (f := 18) rfl ?_); refine goesL_ (some 68) rfl rfl Tryz.func18 (by kernel_rfl) rfl #[.string t220, .string (⟨#[48]⟩ : ByteArray)] rfl (by (try simp only [List.map_toArray, List.map_cons, List.map_nil]); first | done | rfl | (simp only [List.length_drop, List.length_take]; rfl)) ?_; (with_reducible refine (integer_Compare.calls t220 (⟨#[48]⟩ : ByteArray) t236 _ ?side1 A26.out).mono ?_); (case side1 => exact Laid.on HT.out (by repeat (first | (with_reducible first | exact HB.out | apply below_alloc | apply pw_below_drewN | apply below_drew1) | exact HB.out))); rintro e w29 ⟨rfl, hb⟩; refine ⟨_, rfl, ?_⟩; have n0_ := Aside0.mk (below_step (by repeat (first | (with_reducible first | exact HB.out | apply below_alloc | apply pw_below_drewN | apply below_drew1) | exact HB.out)) hb); clear HB; have HB := n0_; clear n0_; (try clear hb); (try clear hb2); (try clear hk); (try clear hi)))
          (try simp only [Act.put, List.setIfInBounds_toArray, List.set_cons_zero, List.set_cons_succ])
          go_cut [19, 20, 89] (fun v19 v20 v89 wc => ∃ (kq : Nat) (x19_26 : Bool) (x20_26 : Bool) (x89_26 : Bool), v19 = .bool x19_26 ∧ v20 = .bool x20_26 ∧ v89 = .bool x89_26 ∧ Aside0 (newswirelaw03_IntegerLimits.j1 kq t226 t227 t219 t221 t222 t223 t224 t234 t235 x19_26 x20_26 x89_26 = some r) ∧ Aside0 (kq ≤ kj13) ∧ Aside0 (Below w.heap.size w wc))
          case first =>
            have H := HC27.out
            clear HC27
            by_cases c30 : x15_13 = 0
            · rw [if_pos c30] at H
              have c30b0 : (x15_13 == 0) = true := beq_iff_eq.mpr c30
              have c30b1 : (x15_13 != 0) = false := bne_eq_false_iff_eq.mpr c30
              clear c30
              (first | rw [c30b0] | (simp only [i64_w, i32_w]; rw [c30b0]) | skip)
              by_cases c31 : ((t223 == 0) == (decide (t236 > 0))) = true
              · rw [if_pos c31] at H
                have c31b0 : ((t223 == 0) == (decide (t236 > 0))) = true := c31
                (try (have c31b1 : decide ((t223 == 0) = (decide (t236 > 0))) = true := by simpa using c31))
                (try (have c31b2 : ((t223 == 0) == (decide (t236 > 0))) = true := by simpa using c31))
                clear c31
                have H' := Aside0.mk H
                clear H
                go_wp2
                go_meet
                case rel => exact ⟨_, (decide ((wrap64 (t226 + t227)) < 200)), (decide (t236 > 0)), (true), (by first | rfl | (simp; done) | (simp [*]; done)), (by first | rfl | (simp; done) | (simp [*]; done)), (by first | rfl | (simp; done) | (simp [*]; done)), H', ⟨by have := HJ13.out; first | omega | exact Nat.le_refl _⟩, ⟨by repeat (first | (with_reducible first | exact HB.out | apply below_alloc | apply pw_below_drewN | apply below_drew1) | exact HB.out)⟩⟩
              · rw [if_neg c31] at H
                have c31b0 : ((t223 == 0) == (decide (t236 > 0))) = false := by simpa using c31
                (try (have c31b1 : decide ((t223 == 0) = (decide (t236 > 0))) = false := by simpa using c31))
                (try (have c31b2 : ((t223 == 0) == (decide (t236 > 0))) = false := by simpa using c31))
                (try (have c31b3 : ¬ ((t223 == 0) = (decide (t236 > 0))) := by simpa using c31))
                clear c31
                by_cases c32 : ((t225 == 0) == (decide (t236 > 0))) = true
                · rw [if_pos c32] at H
                  have c32b0 : ((t225 == 0) == (decide (t236 > 0))) = true := c32
                  (try (have c32b1 : decide ((t225 == 0) = (decide (t236 > 0))) = true := by simpa using c32))
                  (try (have c32b2 : ((t225 == 0) == (decide (t236 > 0))) = true := by simpa using c32))
                  clear c32
                  have H' := Aside0.mk H
                  clear H
                  go_wp2
                  go_meet
                  case rel => exact ⟨_, (decide ((wrap64 (t226 + t227)) < 200)), (decide (t236 > 0)), (true), (by first | rfl | (simp; done) | (simp [*]; done)), (by first | rfl | (simp; done) | (simp [*]; done)), (by first | rfl | (simp; done) | (simp [*]; done)), H', ⟨by have := HJ13.out; first | omega | exact Nat.le_refl _⟩, ⟨by repeat (first | (with_reducible first | exact HB.out | apply below_alloc | apply pw_below_drewN | apply below_drew1) | exact HB.out)⟩⟩
                · rw [if_neg c32] at H
                  have c32b0 : ((t225 == 0) == (decide (t236 > 0))) = false := by simpa using c32
                  (try (have c32b1 : decide ((t225 == 0) = (decide (t236 > 0))) = false := by simpa using c32))
                  (try (have c32b2 : ((t225 == 0) == (decide (t236 > 0))) = false := by simpa using c32))
                  (try (have c32b3 : ¬ ((t225 == 0) = (decide (t236 > 0))) := by simpa using c32))
                  clear c32
                  have H' := Aside0.mk H
                  clear H
                  go_wp2
                  go_meet
                  case rel => exact ⟨_, (decide ((wrap64 (t226 + t227)) < 200)), (decide (t236 > 0)), (((t235 == 0) != (decide ((wrap64 (t226 + t227)) < 200)))), (by first | rfl | (simp; done) | (simp [*]; done)), (by first | rfl | (simp; done) | (simp [*]; done)), (by first | rfl | (simp; done) | (simp [*]; done)), H', ⟨by have := HJ13.out; first | omega | exact Nat.le_refl _⟩, ⟨by repeat (first | (with_reducible first | exact HB.out | apply below_alloc | apply pw_below_drewN | apply below_drew1) | exact HB.out)⟩⟩
            · rw [if_neg c30] at H
              have c30b0 : (x15_13 == 0) = false := beq_eq_false_iff_ne.mpr c30
              have c30b1 : (x15_13 != 0) = true := bne_iff_ne.mpr c30
              (first | rw [c30b0] | (simp only [i64_w, i32_w]; rw [c30b0]) | skip)
              have H' := Aside0.mk H
              clear H
              go_wp2
              go_meet
              case rel => exact ⟨_, (decide ((wrap64 (t226 + t227)) < 200)), (decide (t236 > 0)), (true), (by first | rfl | (simp; done) | (simp [*]; done)), (by first | rfl | (simp; done) | (simp [*]; done)), (by first | rfl | (simp; done) | (simp [*]; done)), H', ⟨by have := HJ13.out; first | omega | exact Nat.le_refl _⟩, ⟨by repeat (first | (with_reducible first | exact HB.out | apply below_alloc | apply pw_below_drewN | apply below_drew1) | exact HB.out)⟩⟩
          case rest =>
            clear HC27
            try clear c1
            try clear c2
            try clear p2
            try clear c3
            try clear p6
            try clear c8
            try clear c8b0
            try clear c8b1
            try clear c8b2
            try clear c12
            try clear c13
            try clear c14
            try clear c15
            try clear c16
            try clear c18
            try clear c20
            try clear c20b0
            try clear c20b1
            try clear c22
            try clear c23
            try clear c24
            try clear c24b0
            try clear c24b1
            try clear c24b2
            try clear c30
            try clear c30b0
            try clear c30b1
            try clear c31
            try clear c31b0
            try clear c31b1
            try clear c31b2
            try clear c32
            try clear c32b0
            try clear c32b1
            try clear c32b2
            try clear p2
            obtain ⟨kq, x19_26, x20_26, x89_26, rfl, rfl, rfl, HA, HJ26, HB⟩ := hcut
            cases kq with
            | zero => exact absurd HA.out (by simp [newswirelaw03_IntegerLimits.j1])
            | succ kj26 =>
              have H := HA.out
              clear HA
              simp only [newswirelaw03_IntegerLimits.j1] at H
              by_cases c33 : x89_26 = true
              · subst c33
                have H1 : (some false) = some r := by rw [if_pos rfl] at H; exact H
                clear H
                have H := H1
                clear H1
                obtain rfl := Option.some.inj H
                go_wp2
                go_ret
                exact ⟨by first | rfl | (simp [errW_none, errW_some] <;> rfl) | (simp [*, errW_none, errW_some] <;> rfl), by repeat (first | (with_reducible first | exact HB.out | apply below_alloc | apply pw_below_drewN | apply below_drew1) | exact HB.out)⟩
              · replace c33 := Bool.eq_false_iff.mpr c33
                subst c33
                have H1 : (if x20_26 = true then (if t222.toList = ([] : List UInt8) then (if t224.toList = ([] : List UInt8) then (if t223 = 30 then (if x19_26 = true then (newswirelaw03_IntegerLimits.j2 kj26 t226 t227 t219 t221 t234 x19_26 false) else (if t234.toList = ([] : List UInt8) then (newswirelaw03_IntegerLimits.j2 kj26 t226 t227 t219 t221 t234 x19_26 (t235 != 30)) else (newswirelaw03_IntegerLimits.j2 kj26 t226 t227 t219 t221 t234 x19_26 true))) else (newswirelaw03_IntegerLimits.j2 kj26 t226 t227 t219 t221 t234 x19_26 true)) else (newswirelaw03_IntegerLimits.j2 kj26 t226 t227 t219 t221 t234 x19_26 true)) else (newswirelaw03_IntegerLimits.j2 kj26 t226 t227 t219 t221 t234 x19_26 true)) else (if x19_26 = true then (newswirelaw03_IntegerLimits.j2 kj26 t226 t227 t219 t221 t234 x19_26 false) else (if t234.toList = ([] : List UInt8) then (newswirelaw03_IntegerLimits.j2 kj26 t226 t227 t219 t221 t234 x19_26 (t235 != 30)) else (newswirelaw03_IntegerLimits.j2 kj26 t226 t227 t219 t221 t234 x19_26 true)))) = some r := by rw [if_neg (show ¬ (false = true) by decide)] at H; exact H
                clear H
                have H := H1
                clear H1
                have HC34 := Aside0.mk H
                clear H
                go_upto_region 17 with (fail)
                go_cut [114] (fun v114 wc => ∃ (kq : Nat) (x114_33 : Bool), v114 = .bool x114_33 ∧ Aside0 (newswirelaw03_IntegerLimits.j2 kq t226 t227 t219 t221 t234 x19_26 x114_33 = some r) ∧ Aside0 (kq ≤ kj26) ∧ Aside0 (Below w.heap.size w wc))
                case first =>
                  have H := HC34.out
                  clear HC34
                  by_cases c35 : x20_26 = true
                  · subst c35
                    have H1 : (if t222.toList = ([] : List UInt8) then (if t224.toList = ([] : List UInt8) then (if t223 = 30 then (if x19_26 = true then (newswirelaw03_IntegerLimits.j2 kj26 t226 t227 t219 t221 t234 x19_26 false) else (if t234.toList = ([] : List UInt8) then (newswirelaw03_IntegerLimits.j2 kj26 t226 t227 t219 t221 t234 x19_26 (t235 != 30)) else (newswirelaw03_IntegerLimits.j2 kj26 t226 t227 t219 t221 t234 x19_26 true))) else (newswirelaw03_IntegerLimits.j2 kj26 t226 t227 t219 t221 t234 x19_26 true)) else (newswirelaw03_IntegerLimits.j2 kj26 t226 t227 t219 t221 t234 x19_26 true)) else (newswirelaw03_IntegerLimits.j2 kj26 t226 t227 t219 t221 t234 x19_26 true)) = some r := by rw [if_pos rfl] at H; exact H
                    clear H
                    have H := H1
                    clear H1
                    by_cases c36 : t222.toList = ([] : List UInt8)
                    · rw [if_pos c36] at H
                      have c36b0 : (t222.toList == ([] : List UInt8)) = true := beq_iff_eq.mpr c36
                      have c36b1 : (t222.toList != ([] : List UInt8)) = false := bne_eq_false_iff_eq.mpr c36
                      clear c36
                      (first | rw [c36b0] | (simp only [i64_w, i32_w]; rw [c36b0]) | skip)
                      by_cases c37 : t224.toList = ([] : List UInt8)
                      · rw [if_pos c37] at H
                        have c37b0 : (t224.toList == ([] : List UInt8)) = true := beq_iff_eq.mpr c37
                        have c37b1 : (t224.toList != ([] : List UInt8)) = false := bne_eq_false_iff_eq.mpr c37
                        clear c37
                        by_cases c38 : t223 = 30
                        · rw [if_pos c38] at H
                          have c38b0 : (t223 == 30) = true := beq_iff_eq.mpr c38
                          have c38b1 : (t223 != 30) = false := bne_eq_false_iff_eq.mpr c38
                          clear c38
                          by_cases c39 : x19_26 = true
                          · subst c39
                            have H1 : (newswirelaw03_IntegerLimits.j2 kj26 t226 t227 t219 t221 t234 true false) = some r := by rw [if_pos rfl] at H; exact H
                            clear H
                            have H := H1
                            clear H1
                            have H' := Aside0.mk H
                            clear H
                            go_wp2
                            go_meet
                            case rel => exact ⟨_, (false), (by first | rfl | (simp; done) | (simp [*]; done)), H', ⟨by have := HJ13.out; have := HJ26.out; first | omega | exact Nat.le_refl _⟩, ⟨by repeat (first | (with_reducible first | exact HB.out | apply below_alloc | apply pw_below_drewN | apply below_drew1) | exact HB.out)⟩⟩
                          · replace c39 := Bool.eq_false_iff.mpr c39
                            subst c39
                            have H1 : (if t234.toList = ([] : List UInt8) then (newswirelaw03_IntegerLimits.j2 kj26 t226 t227 t219 t221 t234 false (t235 != 30)) else (newswirelaw03_IntegerLimits.j2 kj26 t226 t227 t219 t221 t234 false true)) = some r := by rw [if_neg (show ¬ (false = true) by decide)] at H; exact H
                            clear H
                            have H := H1
                            clear H1
                            by_cases c40 : t234.toList = ([] : List UInt8)
                            · rw [if_pos c40] at H
                              have c40b0 : (t234.toList == ([] : List UInt8)) = true := beq_iff_eq.mpr c40
                              have c40b1 : (t234.toList != ([] : List UInt8)) = false := bne_eq_false_iff_eq.mpr c40
                              clear c40
                              have H' := Aside0.mk H
                              clear H
                              go_wp2
                              go_meet
                              case rel => exact ⟨_, ((t235 != 30)), (by first | rfl | (simp; done) | (simp [*]; done)), H', ⟨by have := HJ13.out; have := HJ26.out; first | omega | exact Nat.le_refl _⟩, ⟨by repeat (first | (with_reducible first | exact HB.out | apply below_alloc | apply pw_below_drewN | apply below_drew1) | exact HB.out)⟩⟩
                            · rw [if_neg c40] at H
                              have c40b0 : (t234.toList == ([] : List UInt8)) = false := beq_eq_false_iff_ne.mpr c40
                              have c40b1 : (t234.toList != ([] : List UInt8)) = true := bne_iff_ne.mpr c40
                              have H' := Aside0.mk H
                              clear H
                              go_wp2
                              go_meet
                              case rel => exact ⟨_, (true), (by first | rfl | (simp; done) | (simp [*]; done)), H', ⟨by have := HJ13.out; have := HJ26.out; first | omega | exact Nat.le_refl _⟩, ⟨by repeat (first | (with_reducible first | exact HB.out | apply below_alloc | apply pw_below_drewN | apply below_drew1) | exact HB.out)⟩⟩
                        · rw [if_neg c38] at H
                          have c38b0 : (t223 == 30) = false := beq_eq_false_iff_ne.mpr c38
                          have c38b1 : (t223 != 30) = true := bne_iff_ne.mpr c38
                          have H' := Aside0.mk H
                          clear H
                          go_wp2
                          go_meet
                          case rel => exact ⟨_, (true), (by first | rfl | (simp; done) | (simp [*]; done)), H', ⟨by have := HJ13.out; have := HJ26.out; first | omega | exact Nat.le_refl _⟩, ⟨by repeat (first | (with_reducible first | exact HB.out | apply below_alloc | apply pw_below_drewN | apply below_drew1) | exact HB.out)⟩⟩
                      · rw [if_neg c37] at H
                        have c37b0 : (t224.toList == ([] : List UInt8)) = false := beq_eq_false_iff_ne.mpr c37
                        have c37b1 : (t224.toList != ([] : List UInt8)) = true := bne_iff_ne.mpr c37
                        have H' := Aside0.mk H
                        clear H
                        go_wp2
                        go_meet
                        case rel => exact ⟨_, (true), (by first | rfl | (simp; done) | (simp [*]; done)), H', ⟨by have := HJ13.out; have := HJ26.out; first | omega | exact Nat.le_refl _⟩, ⟨by repeat (first | (with_reducible first | exact HB.out | apply below_alloc | apply pw_below_drewN | apply below_drew1) | exact HB.out)⟩⟩
                    · rw [if_neg c36] at H
                      have c36b0 : (t222.toList == ([] : List UInt8)) = false := beq_eq_false_iff_ne.mpr c36
                      have c36b1 : (t222.toList != ([] : List UInt8)) = true := bne_iff_ne.mpr c36
                      (first | rw [c36b0] | (simp only [i64_w, i32_w]; rw [c36b0]) | skip)
                      have H' := Aside0.mk H
                      clear H
                      go_wp2
                      go_meet
                      case rel => exact ⟨_, (true), (by first | rfl | (simp; done) | (simp [*]; done)), H', ⟨by have := HJ13.out; have := HJ26.out; first | omega | exact Nat.le_refl _⟩, ⟨by repeat (first | (with_reducible first | exact HB.out | apply below_alloc | apply pw_below_drewN | apply below_drew1) | exact HB.out)⟩⟩
                  · replace c35 := Bool.eq_false_iff.mpr c35
                    subst c35
                    have H1 : (if x19_26 = true then (newswirelaw03_IntegerLimits.j2 kj26 t226 t227 t219 t221 t234 x19_26 false) else (if t234.toList = ([] : List UInt8) then (newswirelaw03_IntegerLimits.j2 kj26 t226 t227 t219 t221 t234 x19_26 (t235 != 30)) else (newswirelaw03_IntegerLimits.j2 kj26 t226 t227 t219 t221 t234 x19_26 true))) = some r := by rw [if_neg (show ¬ (false = true) by decide)] at H; exact H
                    clear H
                    have H := H1
                    clear H1
                    by_cases c41 : x19_26 = true
                    · subst c41
                      have H1 : (newswirelaw03_IntegerLimits.j2 kj26 t226 t227 t219 t221 t234 true false) = some r := by rw [if_pos rfl] at H; exact H
                      clear H
                      have H := H1
                      clear H1
                      have H' := Aside0.mk H
                      clear H
                      go_wp2
                      go_meet
                      case rel => exact ⟨_, (false), (by first | rfl | (simp; done) | (simp [*]; done)), H', ⟨by have := HJ13.out; have := HJ26.out; first | omega | exact Nat.le_refl _⟩, ⟨by repeat (first | (with_reducible first | exact HB.out | apply below_alloc | apply pw_below_drewN | apply below_drew1) | exact HB.out)⟩⟩
                    · replace c41 := Bool.eq_false_iff.mpr c41
                      subst c41
                      have H1 : (if t234.toList = ([] : List UInt8) then (newswirelaw03_IntegerLimits.j2 kj26 t226 t227 t219 t221 t234 false (t235 != 30)) else (newswirelaw03_IntegerLimits.j2 kj26 t226 t227 t219 t221 t234 false true)) = some r := by rw [if_neg (show ¬ (false = true) by decide)] at H; exact H
                      clear H
                      have H := H1
                      clear H1
                      by_cases c42 : t234.toList = ([] : List UInt8)
                      · rw [if_pos c42] at H
                        have c42b0 : (t234.toList == ([] : List UInt8)) = true := beq_iff_eq.mpr c42
                        have c42b1 : (t234.toList != ([] : List UInt8)) = false := bne_eq_false_iff_eq.mpr c42
                        clear c42
                        have H' := Aside0.mk H
                        clear H
                        go_wp2
                        go_meet
                        case rel => exact ⟨_, ((t235 != 30)), (by first | rfl | (simp; done) | (simp [*]; done)), H', ⟨by have := HJ13.out; have := HJ26.out; first | omega | exact Nat.le_refl _⟩, ⟨by repeat (first | (with_reducible first | exact HB.out | apply below_alloc | apply pw_below_drewN | apply below_drew1) | exact HB.out)⟩⟩
                      · rw [if_neg c42] at H
                        have c42b0 : (t234.toList == ([] : List UInt8)) = false := beq_eq_false_iff_ne.mpr c42
                        have c42b1 : (t234.toList != ([] : List UInt8)) = true := bne_iff_ne.mpr c42
                        have H' := Aside0.mk H
                        clear H
                        go_wp2
                        go_meet
                        case rel => exact ⟨_, (true), (by first | rfl | (simp; done) | (simp [*]; done)), H', ⟨by have := HJ13.out; have := HJ26.out; first | omega | exact Nat.le_refl _⟩, ⟨by repeat (first | (with_reducible first | exact HB.out | apply below_alloc | apply pw_below_drewN | apply below_drew1) | exact HB.out)⟩⟩
                case rest =>
                  clear HC34
                  try clear c1
                  try clear c2
                  try clear p2
                  try clear c3
                  try clear c4
                  try clear p6
                  try clear c8
                  try clear c8b0
                  try clear c8b1
                  try clear c8b2
                  try clear c12
                  try clear c13
                  try clear c14
                  try clear c15
                  try clear c16
                  try clear c18
                  try clear c20
                  try clear c20b0
                  try clear c20b1
                  try clear c22
                  try clear c23
                  try clear c24
                  try clear c24b0
                  try clear c24b1
                  try clear c24b2
                  try clear c30
                  try clear c30b0
                  try clear c30b1
                  try clear c31
                  try clear c31b0
                  try clear c31b1
                  try clear c31b2
                  try clear c32
                  try clear c32b0
                  try clear c32b1
                  try clear c32b2
                  try clear c33
                  try clear c35
                  try clear c36
                  try clear c36b0
                  try clear c36b1
                  try clear c37
                  try clear c37b0
                  try clear c37b1
                  try clear c38
                  try clear c38b0
                  try clear c38b1
                  try clear c39
                  try clear c40
                  try clear c40b0
                  try clear c40b1
                  try clear c41
                  try clear c42
                  try clear c42b0
                  try clear c42b1
                  try clear p2
                  try clear p6
                  obtain ⟨kq, x114_33, rfl, HA, HJ33, HB⟩ := hcut
                  cases kq with
                  | zero => exact absurd HA.out (by simp [newswirelaw03_IntegerLimits.j2])
                  | succ kj33 =>
                    have H := HA.out
                    clear HA
                    simp only [newswirelaw03_IntegerLimits.j2] at H
                    by_cases c43 : x114_33 = true
                    · subst c43
                      have H1 : (some false) = some r := by rw [if_pos rfl] at H; exact H
                      clear H
                      have H := H1
                      clear H1
                      obtain rfl := Option.some.inj H
                      go_wp2
                      go_ret
                      exact ⟨by first | rfl | (simp [errW_none, errW_some] <;> rfl) | (simp [*, errW_none, errW_some] <;> rfl), by repeat (first | (with_reducible first | exact HB.out | apply below_alloc | apply pw_below_drewN | apply below_drew1) | exact HB.out)⟩
                    · replace c43 := Bool.eq_false_iff.mpr c43
                      subst c43
                      have H1 : (if t219 = true then (if x19_26 = true then (if (t234.size : Int) = (wrap64 ((wrap64 (t226 + t227)) + 1)) then (if t221.size + 1 ≤ 9223372036854775807 then ((integer_Valid.f (t221 ++ (⟨#[57]⟩ : ByteArray))).bind fun t237 => (if t237 = true then (some false) else (if 1 + t221.size ≤ 9223372036854775807 then ((integer_Valid.f ((⟨#[45]⟩ : ByteArray) ++ t221)).bind fun t238 => (some t238)) else (none)))) else (none)) else (some false)) else (if t221.size + 1 ≤ 9223372036854775807 then ((integer_Valid.f (t221 ++ (⟨#[57]⟩ : ByteArray))).bind fun t239 => (if t239 = true then (some false) else (if 1 + t221.size ≤ 9223372036854775807 then ((integer_Valid.f ((⟨#[45]⟩ : ByteArray) ++ t221)).bind fun t240 => (some t240)) else (none)))) else (none))) else (some false)) = some r := by rw [if_neg (show ¬ (false = true) by decide)] at H; exact H
                      clear H
                      have H := H1
                      clear H1
                      by_cases c44 : t219 = true
                      · subst c44
                        have H1 : (if x19_26 = true then (if (t234.size : Int) = (wrap64 ((wrap64 (t226 + t227)) + 1)) then (if t221.size + 1 ≤ 9223372036854775807 then ((integer_Valid.f (t221 ++ (⟨#[57]⟩ : ByteArray))).bind fun t237 => (if t237 = true then (some false) else (if 1 + t221.size ≤ 9223372036854775807 then ((integer_Valid.f ((⟨#[45]⟩ : ByteArray) ++ t221)).bind fun t238 => (some t238)) else (none)))) else (none)) else (some false)) else (if t221.size + 1 ≤ 9223372036854775807 then ((integer_Valid.f (t221 ++ (⟨#[57]⟩ : ByteArray))).bind fun t239 => (if t239 = true then (some false) else (if 1 + t221.size ≤ 9223372036854775807 then ((integer_Valid.f ((⟨#[45]⟩ : ByteArray) ++ t221)).bind fun t240 => (some t240)) else (none)))) else (none))) = some r := by rw [if_pos rfl] at H; exact H
                        clear H
                        have H := H1
                        clear H1
                        by_cases c45 : x19_26 = true
                        · subst c45
                          have H1 : (if (t234.size : Int) = (wrap64 ((wrap64 (t226 + t227)) + 1)) then (if t221.size + 1 ≤ 9223372036854775807 then ((integer_Valid.f (t221 ++ (⟨#[57]⟩ : ByteArray))).bind fun t237 => (if t237 = true then (some false) else (if 1 + t221.size ≤ 9223372036854775807 then ((integer_Valid.f ((⟨#[45]⟩ : ByteArray) ++ t221)).bind fun t238 => (some t238)) else (none)))) else (none)) else (some false)) = some r := by rw [if_pos rfl] at H; exact H
                          clear H
                          have H := H1
                          clear H1
                          by_cases c46 : (t234.size : Int) = (wrap64 ((wrap64 (t226 + t227)) + 1))
                          · rw [if_pos c46] at H
                            have c46b0 : ((t234.size : Int) == (wrap64 ((wrap64 (t226 + t227)) + 1))) = true := beq_iff_eq.mpr c46
                            have c46b1 : ((t234.size : Int) != (wrap64 ((wrap64 (t226 + t227)) + 1))) = false := bne_eq_false_iff_eq.mpr c46
                            clear c46
                            by_cases c47 : t221.size + 1 ≤ 9223372036854775807
                            · rw [if_pos c47] at H
                              have c47b0 := eq_true c47
                              have c47b1 : decide (t221.size + 1 ≤ 9223372036854775807) = true := decide_eq_true c47
                              try have c47b2 : (9223372036854775807 < t221.size + 1) = False := eq_false (Nat.not_lt.2 c47)
                              replace H := Option.bind_eq_some_iff.mp H
                              obtain ⟨t237, A480, H⟩ := H
                              replace H : (if t237 = true then (some false) else (if 1 + t221.size ≤ 9223372036854775807 then ((integer_Valid.f ((⟨#[45]⟩ : ByteArray) ++ t221)).bind fun t238 => (some t238)) else (none))) = some r := H
                              have A48 := Aside0.mk A480
                              clear A480
                              by_cases c49 : t237 = true
                              · subst c49
                                have H1 : (some false) = some r := by rw [if_pos rfl] at H; exact H
                                clear H
                                have H := H1
                                clear H1
                                obtain rfl := Option.some.inj H
                                go_wp2_with (first | (go_at_call 19; (with_reducible refine (integer_Valid.calls (t221 ++ (⟨#[57]⟩ : ByteArray)) true _ ?side1 A48.out).mono ?_); (case side1 => exact Laid.on HT.out (by repeat (first | (with_reducible first | exact HB.out | apply below_alloc | apply pw_below_drewN | apply below_drew1) | exact HB.out))); rintro e w50 ⟨rfl, hb⟩; have n0_ := Aside0.mk (below_step (by repeat (first | (with_reducible first | exact HB.out | apply below_alloc | apply pw_below_drewN | apply below_drew1) | exact HB.out)) hb); clear HB; have HB := n0_; clear n0_; (try clear hb); (try clear hb2); (try clear hk); (try clear hi)))
                                go_ret
                                exact ⟨by first | rfl | (simp [errW_none, errW_some] <;> rfl) | (simp [*, errW_none, errW_some] <;> rfl), by repeat (first | (with_reducible first | exact HB.out | apply below_alloc | apply pw_below_drewN | apply below_drew1) | exact HB.out)⟩
                              · replace c49 := Bool.eq_false_iff.mpr c49
                                subst c49
                                have H1 : (if 1 + t221.size ≤ 9223372036854775807 then ((integer_Valid.f ((⟨#[45]⟩ : ByteArray) ++ t221)).bind fun t238 => (some t238)) else (none)) = some r := by rw [if_neg (show ¬ (false = true) by decide)] at H; exact H
                                clear H
                                have H := H1
                                clear H1
                                by_cases c51 : 1 + t221.size ≤ 9223372036854775807
                                · rw [if_pos c51] at H
                                  have c51b0 := eq_true c51
                                  have c51b1 : decide (1 + t221.size ≤ 9223372036854775807) = true := decide_eq_true c51
                                  try have c51b2 : (9223372036854775807 < 1 + t221.size) = False := eq_false (Nat.not_lt.2 c51)
                                  replace H := Option.bind_eq_some_iff.mp H
                                  obtain ⟨t238, A520, H⟩ := H
                                  replace H : (some t238) = some r := H
                                  have A52 := Aside0.mk A520
                                  clear A520
                                  obtain rfl := Option.some.inj H
                                  go_wp2_with (first | (go_at_call 19; (with_reducible refine (integer_Valid.calls (t221 ++ (⟨#[57]⟩ : ByteArray)) false _ ?side1 A48.out).mono ?_); (case side1 => exact Laid.on HT.out (by repeat (first | (with_reducible first | exact HB.out | apply below_alloc | apply pw_below_drewN | apply below_drew1) | exact HB.out))); rintro e w53 ⟨rfl, hb⟩; have n0_ := Aside0.mk (below_step (by repeat (first | (with_reducible first | exact HB.out | apply below_alloc | apply pw_below_drewN | apply below_drew1) | exact HB.out)) hb); clear HB; have HB := n0_; clear n0_; (try clear hb); (try clear hb2); (try clear hk); (try clear hi)) | (go_at_call 19; (with_reducible refine (integer_Valid.calls ((⟨#[45]⟩ : ByteArray) ++ t221) t238 _ ?side1 A52.out).mono ?_); (case side1 => exact Laid.on HT.out (by repeat (first | (with_reducible first | exact HB.out | apply below_alloc | apply pw_below_drewN | apply below_drew1) | exact HB.out))); rintro e w54 ⟨rfl, hb⟩; have n0_ := Aside0.mk (below_step (by repeat (first | (with_reducible first | exact HB.out | apply below_alloc | apply pw_below_drewN | apply below_drew1) | exact HB.out)) hb); clear HB; have HB := n0_; clear n0_; (try clear hb); (try clear hb2); (try clear hk); (try clear hi)))
                                  go_ret
                                  exact ⟨by first | rfl | (simp [errW_none, errW_some] <;> rfl) | (simp [*, errW_none, errW_some] <;> rfl), by repeat (first | (with_reducible first | exact HB.out | apply below_alloc | apply pw_below_drewN | apply below_drew1) | exact HB.out)⟩
                                · rw [if_neg c51] at H
                                  exact absurd H (by simp)
                            · rw [if_neg c47] at H
                              exact absurd H (by simp)
                          · rw [if_neg c46] at H
                            have c46b0 : ((t234.size : Int) == (wrap64 ((wrap64 (t226 + t227)) + 1))) = false := beq_eq_false_iff_ne.mpr c46
                            have c46b1 : ((t234.size : Int) != (wrap64 ((wrap64 (t226 + t227)) + 1))) = true := bne_iff_ne.mpr c46
                            obtain rfl := Option.some.inj H
                            go_wp2
                            go_ret
                            exact ⟨by first | rfl | (simp [errW_none, errW_some] <;> rfl) | (simp [*, errW_none, errW_some] <;> rfl), by repeat (first | (with_reducible first | exact HB.out | apply below_alloc | apply pw_below_drewN | apply below_drew1) | exact HB.out)⟩
                        · replace c45 := Bool.eq_false_iff.mpr c45
                          subst c45
                          have H1 : (if t221.size + 1 ≤ 9223372036854775807 then ((integer_Valid.f (t221 ++ (⟨#[57]⟩ : ByteArray))).bind fun t239 => (if t239 = true then (some false) else (if 1 + t221.size ≤ 9223372036854775807 then ((integer_Valid.f ((⟨#[45]⟩ : ByteArray) ++ t221)).bind fun t240 => (some t240)) else (none)))) else (none)) = some r := by rw [if_neg (show ¬ (false = true) by decide)] at H; exact H
                          clear H
                          have H := H1
                          clear H1
                          by_cases c55 : t221.size + 1 ≤ 9223372036854775807
                          · rw [if_pos c55] at H
                            have c55b0 := eq_true c55
                            have c55b1 : decide (t221.size + 1 ≤ 9223372036854775807) = true := decide_eq_true c55
                            try have c55b2 : (9223372036854775807 < t221.size + 1) = False := eq_false (Nat.not_lt.2 c55)
                            replace H := Option.bind_eq_some_iff.mp H
                            obtain ⟨t239, A560, H⟩ := H
                            replace H : (if t239 = true then (some false) else (if 1 + t221.size ≤ 9223372036854775807 then ((integer_Valid.f ((⟨#[45]⟩ : ByteArray) ++ t221)).bind fun t240 => (some t240)) else (none))) = some r := H
                            have A56 := Aside0.mk A560
                            clear A560
                            by_cases c57 : t239 = true
                            · subst c57
                              have H1 : (some false) = some r := by rw [if_pos rfl] at H; exact H
                              clear H
                              have H := H1
                              clear H1
                              obtain rfl := Option.some.inj H
                              go_wp2_with (first | (go_at_call 19; (with_reducible refine (integer_Valid.calls (t221 ++ (⟨#[57]⟩ : ByteArray)) true _ ?side1 A56.out).mono ?_); (case side1 => exact Laid.on HT.out (by repeat (first | (with_reducible first | exact HB.out | apply below_alloc | apply pw_below_drewN | apply below_drew1) | exact HB.out))); rintro e w58 ⟨rfl, hb⟩; have n0_ := Aside0.mk (below_step (by repeat (first | (with_reducible first | exact HB.out | apply below_alloc | apply pw_below_drewN | apply below_drew1) | exact HB.out)) hb); clear HB; have HB := n0_; clear n0_; (try clear hb); (try clear hb2); (try clear hk); (try clear hi)))
                              go_ret
                              exact ⟨by first | rfl | (simp [errW_none, errW_some] <;> rfl) | (simp [*, errW_none, errW_some] <;> rfl), by repeat (first | (with_reducible first | exact HB.out | apply below_alloc | apply pw_below_drewN | apply below_drew1) | exact HB.out)⟩
                            · replace c57 := Bool.eq_false_iff.mpr c57
                              subst c57
                              have H1 : (if 1 + t221.size ≤ 9223372036854775807 then ((integer_Valid.f ((⟨#[45]⟩ : ByteArray) ++ t221)).bind fun t240 => (some t240)) else (none)) = some r := by rw [if_neg (show ¬ (false = true) by decide)] at H; exact H
                              clear H
                              have H := H1
                              clear H1
                              by_cases c59 : 1 + t221.size ≤ 9223372036854775807
                              · rw [if_pos c59] at H
                                have c59b0 := eq_true c59
                                have c59b1 : decide (1 + t221.size ≤ 9223372036854775807) = true := decide_eq_true c59
                                try have c59b2 : (9223372036854775807 < 1 + t221.size) = False := eq_false (Nat.not_lt.2 c59)
                                replace H := Option.bind_eq_some_iff.mp H
                                obtain ⟨t240, A600, H⟩ := H
                                replace H : (some t240) = some r := H
                                have A60 := Aside0.mk A600
                                clear A600
                                obtain rfl := Option.some.inj H
                                go_wp2_with (first | (go_at_call 19; (with_reducible refine (integer_Valid.calls (t221 ++ (⟨#[57]⟩ : ByteArray)) false _ ?side1 A56.out).mono ?_); (case side1 => exact Laid.on HT.out (by repeat (first | (with_reducible first | exact HB.out | apply below_alloc | apply pw_below_drewN | apply below_drew1) | exact HB.out))); rintro e w61 ⟨rfl, hb⟩; have n0_ := Aside0.mk (below_step (by repeat (first | (with_reducible first | exact HB.out | apply below_alloc | apply pw_below_drewN | apply below_drew1) | exact HB.out)) hb); clear HB; have HB := n0_; clear n0_; (try clear hb); (try clear hb2); (try clear hk); (try clear hi)) | (go_at_call 19; (with_reducible refine (integer_Valid.calls ((⟨#[45]⟩ : ByteArray) ++ t221) t240 _ ?side1 A60.out).mono ?_); (case side1 => exact Laid.on HT.out (by repeat (first | (with_reducible first | exact HB.out | apply below_alloc | apply pw_below_drewN | apply below_drew1) | exact HB.out))); rintro e w62 ⟨rfl, hb⟩; have n0_ := Aside0.mk (below_step (by repeat (first | (with_reducible first | exact HB.out | apply below_alloc | apply pw_below_drewN | apply below_drew1) | exact HB.out)) hb); clear HB; have HB := n0_; clear n0_; (try clear hb); (try clear hb2); (try clear hk); (try clear hi)))
                                go_ret
                                exact ⟨by first | rfl | (simp [errW_none, errW_some] <;> rfl) | (simp [*, errW_none, errW_some] <;> rfl), by repeat (first | (with_reducible first | exact HB.out | apply below_alloc | apply pw_below_drewN | apply below_drew1) | exact HB.out)⟩
                              · rw [if_neg c59] at H
                                exact absurd H (by simp)
                          · rw [if_neg c55] at H
                            exact absurd H (by simp)
                      · replace c44 := Bool.eq_false_iff.mpr c44
                        subst c44
                        have H1 : (some false) = some r := by rw [if_neg (show ¬ (false = true) by decide)] at H; exact H
                        clear H
                        have H := H1
                        clear H1
                        obtain rfl := Option.some.inj H
                        go_wp2
                        go_ret
                        exact ⟨by first | rfl | (simp [errW_none, errW_some] <;> rfl) | (simp [*, errW_none, errW_some] <;> rfl), by repeat (first | (with_reducible first | exact HB.out | apply below_alloc | apply pw_below_drewN | apply below_drew1) | exact HB.out)⟩
        · rw [if_neg c24] at H
          exact absurd H (by simp)
  · rw [if_neg c8] at H
    exact absurd H (by simp)

/-- THE ONE PURE STATEMENT of newswirelaw03_IntegerLimits: yours. -/
def newswirelaw03_IntegerLimits.Pure : Prop := ∀ (a0 : ByteArray) (a1 : Int) (a2 : Int), a0.size ≤ 140737488351232 → (Lit.int .i64 a1).wf = true → (Lit.int .i64 a2).wf = true → ∃ k, newswirelaw03_IntegerLimits.f k a0 a1 a2 = some true
theorem newswirelaw03_IntegerLimits.walk (P : newswirelaw03_IntegerLimits.Pure) (a0 : ByteArray) (a1 : Int) (a2 : Int) (w : World) (w0 : a0.size ≤ 140737488351232) (w1 : (Lit.int .i64 a1).wf = true) (w2 : (Lit.int .i64 a2).wf = true) (hT : Laid w) :
    Calls Tryz.prog 8 #[.string a0, .int .i64 a1, .int .i64 a2] w fun e w' => e = .returned (.bool true) ∧ Below w.heap.size w w' := by
  obtain ⟨k, h⟩ := P a0 a1 a2 w0 w1 w2
  refine (newswirelaw03_IntegerLimits.calls k a0 a1 a2 true w hT h).mono ?_
  rintro e w' ⟨rfl, hd⟩
  exact ⟨rfl, hd⟩

/-! ### newswireref03_FromInt: function 24 -/
def newswireref03_FromInt.l0 : Nat → Int → List Int → Int → Option (ByteArray)
  | 0, _, _, _ => none
  | k + 1, x0, x3, x4 => if x4 = 0 then ((newswireref03_text.f k (decide (x0 < 0)) x3).bind fun bt241 => (some bt241.1)) else (if (Int.tmod x4 10) < 0 then (if x3.length < 17592186044416 then (newswireref03_FromInt.l0 k x0 (x3 ++ [wrap64 (-(Int.tmod x4 10))]) (wrap64 (Int.tdiv x4 10))) else (none)) else (if x3.length < 17592186044416 then (newswireref03_FromInt.l0 k x0 (x3 ++ [Int.tmod x4 10]) (wrap64 (Int.tdiv x4 10))) else (none)))
def newswireref03_FromInt.f (k : Nat) (a0 : Int) : Option (ByteArray) := newswireref03_FromInt.l0 k a0 ([] : List Int) a0
theorem newswireref03_FromInt.mono_l : ∀ k, (∀ y0 y1 y2, LeO (newswireref03_FromInt.l0 k y0 y1 y2) (newswireref03_FromInt.l0 (k + 1) y0 y1 y2))
  | 0 => fun _ _ _ r h => by simp [newswireref03_FromInt.l0] at h
  | k + 1 => by
    have ih0 := newswireref03_FromInt.mono_l k
    · intro y0 y1 y2
      unfold newswireref03_FromInt.l0
      repeat' first
      | (with_reducible exact ih0 _ _ _)
      | (with_reducible exact newswireref03_text.mono _ _ _)
      | (with_reducible exact LeO.refl _)
      | (with_reducible exact LeO.none _)
      | (with_reducible refine LeO.ite ?_ ?_)
      | (with_reducible refine LeO.bind ?_ (fun _ => ?_))
      | exact ih0 _ _ _
      | exact newswireref03_text.mono _ _ _
      | exact LeO.none _
      | refine LeO.ite ?_ ?_
      | refine LeO.bind ?_ (fun _ => ?_)
theorem newswireref03_FromInt.mono : ∀ a0 k, LeO (newswireref03_FromInt.f k a0) (newswireref03_FromInt.f (k + 1) a0) := by
  intro a0 k
  have ih0 := newswireref03_FromInt.mono_l k
  unfold newswireref03_FromInt.f
  repeat' first
      | (with_reducible exact ih0 _ _ _)
      | (with_reducible exact newswireref03_text.mono _ _ _)
      | (with_reducible exact LeO.refl _)
      | (with_reducible exact LeO.none _)
      | (with_reducible refine LeO.ite ?_ ?_)
      | (with_reducible refine LeO.bind ?_ (fun _ => ?_))
      | exact ih0 _ _ _
      | exact newswireref03_text.mono _ _ _
      | exact LeO.none _
      | refine LeO.ite ?_ ?_
      | refine LeO.bind ?_ (fun _ => ?_)
set_option maxHeartbeats 8000000 in
set_option maxRecDepth 100000 in
theorem newswireref03_FromInt.calls (k : Nat) (a0 : Int) (r : ByteArray) (w : World) (h : newswireref03_FromInt.f k a0 = some r) :
    Calls Tryz.prog 24 #[.int .i64 a0] w fun e w' => e = .returned (.string r) ∧ Below w.heap.size w w' := by
  have HB := Aside0.mk (Below.refl w.heap.size w)
  have H : (newswireref03_FromInt.l0 k a0 ([] : List Int) a0) = some r := h
  clear h
  have H' := Aside0.mk H
  clear H
  go_enter Tryz.func24, Tryz.ntmps24
  go_wp2
  go_loopg [3, 4] k (fun kq v3 v4 w' => ∃ (x3_1 : List Int) (x4_1 : Int), v4 = .int .i64 x4_1 ∧ Aside0 (newswireref03_FromInt.l0 kq a0 x3_1 x4_1 = some r) ∧ Aside0 (kq ≤ k) ∧ Aside0 (Kd.R (Kd.int .i64) 3 w' w.heap.size (fun _ => True) v3 x3_1) ∧ Aside0 (Below w.heap.size w w'))
  case atStart => exact ⟨(([] : List Int)), (a0), (by first | rfl | (simp; done) | (simp [*]; done)), H', ⟨Nat.le_refl _⟩, ⟨by first | exact Kd.R_nil _ _ _ _ _ | exact Kd.N_nil _ _ _ _ _ | exact Kd.V_nil _ _ _ _ _ | exact Kd.Q_nil _ _ _ _ _ | exact Kd.S_nil _ _ _ _ _⟩, ⟨by repeat (first | (with_reducible first | exact HB.out | apply below_alloc | apply pw_below_drewN | apply below_drew1) | exact HB.out)⟩⟩
  case round =>
    clear H'
    obtain ⟨x3_1, x4_1, rfl, HA, HK1, HO_3, HB⟩ := hrel
    cases gk with
    | zero => exact absurd HA.out (by simp [newswireref03_FromInt.l0])
    | succ k1 =>
      have H := HA.out
      clear HA
      simp only [newswireref03_FromInt.l0] at H
      by_cases c2 : x4_1 = 0
      · rw [if_pos c2] at H
        have c2b0 : (x4_1 == 0) = true := beq_iff_eq.mpr c2
        have c2b1 : (x4_1 != 0) = false := bne_eq_false_iff_eq.mpr c2
        clear c2
        replace H := Option.bind_eq_some_iff.mp H
        obtain ⟨⟨t241, t242⟩, A30, H⟩ := H
        replace H : (some t241) = some r := H
        have A3 := Aside0.mk A30
        clear A30
        obtain rfl := Option.some.inj H
        obtain ⟨Ao4, co4, eo4⟩ := Kd.R_slice HO_3.out
        subst eo4
        go_wp2_with (first | ((with_reducible refine gate_callee (f := 36) rfl ?_); refine goesL_ (some 27) rfl rfl Tryz.func36 (by kernel_rfl) rfl #[.bool (decide (a0 < 0)), .slice Ao4 x3_1.length co4] rfl (by (try simp only [List.map_toArray, List.map_cons, List.map_nil]); first | done | rfl | (simp only [List.length_drop, List.length_take]; rfl)) ?_; (with_reducible refine (newswireref03_text.calls k1 (decide (a0 < 0)) _ _ x3_1 t241 t242 _ ?side1 ?side2 A3.out).mono ?_); (case side1 => repeat (first | exact (Kd.R_reads' HO_3.out).2.2 | (with_reducible refine Kd.C_alloc ?_ _) | (with_reducible refine Kd.C_drewN ?_ _) | (with_reducible refine Kd.C_drew ?_))); (case side2 => exact (Kd.R_reads' HO_3.out).2.1); rintro e w5 ⟨rfl, hb⟩; refine ⟨_, rfl, ?_⟩; have n0_ := Aside0.mk (Kd.R_below (by (with_reducible repeat (first | apply Kd.R_alloc | apply Kd.R_drewN | apply Kd.R_drew)); exact HO_3.out) hb); have n1_ := Aside0.mk (below_step (by repeat (first | (with_reducible first | exact HB.out | apply below_alloc | apply pw_below_drewN | apply below_drew1) | exact HB.out)) hb); clear HO_3; clear HB; have HO_3 := n0_; have HB := n1_; clear n0_ n1_; (try clear hb); (try clear hb2); (try clear hk); (try clear hi)))
        go_ret
        exact ⟨by first | rfl | (simp [errW_none, errW_some] <;> rfl) | (simp [*, errW_none, errW_some] <;> rfl), by repeat (first | (with_reducible first | exact HB.out | apply below_alloc | apply pw_below_drewN | apply below_drew1) | exact HB.out)⟩
      · rw [if_neg c2] at H
        have c2b0 : (x4_1 == 0) = false := beq_eq_false_iff_ne.mpr c2
        have c2b1 : (x4_1 != 0) = true := bne_iff_ne.mpr c2
        by_cases c6 : (Int.tmod x4_1 10) < 0
        · rw [if_pos c6] at H
          have c6b0 : decide ((Int.tmod x4_1 10) < 0) = true := decide_eq_true c6
          clear c6
          by_cases c7 : x3_1.length < 17592186044416
          · rw [if_pos c7] at H
            have LMc7 := Aside0.mk c7
            clear c7
            obtain ⟨y243, hy243⟩ : ∃ y_ : List Int, y_ = (x3_1 ++ [wrap64 (-(Int.tmod x4_1 10))]) := ⟨_, rfl⟩
            replace H : (newswireref03_FromInt.l0 k1 a0 y243 (wrap64 (Int.tdiv x4_1 10))) = some r := by first | (rw [hy243]; with_reducible exact H) | (have H2_ := (Option.bind_some _ _).symm.trans H; rw [hy243]; with_reducible exact H2_) | (have H2_ := (Option.bind_some _ _).symm.trans H; with_reducible exact H2_) | with_reducible exact H | (rw [hy243]; exact H) | exact H
            have Ny243 := Aside0.mk hy243
            clear hy243
            have H' := Aside0.mk H
            clear H
            go_wp2_with (first | ((with_reducible refine gate_builtin (b := .append) (xs := #[.tmp 19, .tmp 21]) rfl ?_); at_builtin; refine Kd.R_append (Kd.int .i64) (w0 := w) w.heap.size rfl (.tmp 19) (.tmp 21) 44 3 (.int .i64 0) 8 rfl Tryz.underlying44 info3 rfl (by decide) (by omega) u3 x3_1 (wrap64 (-(Int.tmod x4_1 10))) [.int .i64 (wrap64 (-(Int.tmod x4_1 10)))] (fun _ => True) (fun _ => False) rfl rfl ?aP (fun _ hk => hk.elim) ?aF ?aO ?aB ?aS ?aL ?_; (case aP => exact rfl); (case aB => exact (by repeat (first | (with_reducible first | exact HB.out | apply below_alloc | apply pw_below_drewN | apply below_drew1) | exact HB.out))); (case aF => exact (fun _ _ => trivial)); (case aO => exact (by (with_reducible repeat (first | apply Kd.R_alloc | apply Kd.R_drewN | apply Kd.R_drew)); exact HO_3.out)); (case aS => exact (below_size (by repeat (first | (with_reducible first | exact HB.out | apply below_alloc | apply pw_below_drewN | apply below_drew1) | exact HB.out)))); (case aL => have := LMc7.out; omega); intro v244 w8 ho hb hg hat; rw [← Ny243.out] at ho; have n0_ := Aside0.mk (hb); have n1_ := Aside0.mk (ho); clear HB; clear HO_3; have HB := n0_; have HO245 := n1_; clear n0_ n1_; clear ho hb hg hat))
            go_roundg k1
            case measure => have := HK1.out; omega
            case rel => exact ⟨(y243), (wrap64 (Int.tdiv x4_1 10)), (by first | rfl | (simp; done) | (simp [*]; done)), H', ⟨by have := HK1.out; omega⟩, ⟨by (with_reducible repeat (first | apply Kd.R_alloc | apply Kd.R_drewN | apply Kd.R_drew)); exact HO245.out⟩, ⟨by repeat (first | (with_reducible first | exact HB.out | apply below_alloc | apply pw_below_drewN | apply below_drew1) | exact HB.out)⟩⟩
          · rw [if_neg c7] at H
            exact absurd H (by simp)
        · rw [if_neg c6] at H
          have c6b0 : decide ((Int.tmod x4_1 10) < 0) = false := decide_eq_false c6
          clear c6
          by_cases c9 : x3_1.length < 17592186044416
          · rw [if_pos c9] at H
            have LMc9 := Aside0.mk c9
            clear c9
            obtain ⟨y246, hy246⟩ : ∃ y_ : List Int, y_ = (x3_1 ++ [Int.tmod x4_1 10]) := ⟨_, rfl⟩
            replace H : (newswireref03_FromInt.l0 k1 a0 y246 (wrap64 (Int.tdiv x4_1 10))) = some r := by first | (rw [hy246]; with_reducible exact H) | (have H2_ := (Option.bind_some _ _).symm.trans H; rw [hy246]; with_reducible exact H2_) | (have H2_ := (Option.bind_some _ _).symm.trans H; with_reducible exact H2_) | with_reducible exact H | (rw [hy246]; exact H) | exact H
            have Ny246 := Aside0.mk hy246
            clear hy246
            have H' := Aside0.mk H
            clear H
            go_wp2_with (first | ((with_reducible refine gate_builtin (b := .append) (xs := #[.tmp 19, .tmp 21]) rfl ?_); at_builtin; refine Kd.R_append (Kd.int .i64) (w0 := w) w.heap.size rfl (.tmp 19) (.tmp 21) 44 3 (.int .i64 0) 8 rfl Tryz.underlying44 info3 rfl (by decide) (by omega) u3 x3_1 (Int.tmod x4_1 10) [.int .i64 (Int.tmod x4_1 10)] (fun _ => True) (fun _ => False) rfl rfl ?aP (fun _ hk => hk.elim) ?aF ?aO ?aB ?aS ?aL ?_; (case aP => exact rfl); (case aB => exact (by repeat (first | (with_reducible first | exact HB.out | apply below_alloc | apply pw_below_drewN | apply below_drew1) | exact HB.out))); (case aF => exact (fun _ _ => trivial)); (case aO => exact (by (with_reducible repeat (first | apply Kd.R_alloc | apply Kd.R_drewN | apply Kd.R_drew)); exact HO_3.out)); (case aS => exact (below_size (by repeat (first | (with_reducible first | exact HB.out | apply below_alloc | apply pw_below_drewN | apply below_drew1) | exact HB.out)))); (case aL => have := LMc9.out; omega); intro v247 w10 ho hb hg hat; rw [← Ny246.out] at ho; have n0_ := Aside0.mk (hb); have n1_ := Aside0.mk (ho); clear HB; clear HO_3; have HB := n0_; have HO248 := n1_; clear n0_ n1_; clear ho hb hg hat))
            go_roundg k1
            case measure => have := HK1.out; omega
            case rel => exact ⟨(y246), (wrap64 (Int.tdiv x4_1 10)), (by first | rfl | (simp; done) | (simp [*]; done)), H', ⟨by have := HK1.out; omega⟩, ⟨by (with_reducible repeat (first | apply Kd.R_alloc | apply Kd.R_drewN | apply Kd.R_drew)); exact HO248.out⟩, ⟨by repeat (first | (with_reducible first | exact HB.out | apply below_alloc | apply pw_below_drewN | apply below_drew1) | exact HB.out)⟩⟩
          · rw [if_neg c9] at H
            exact absurd H (by simp)

end Go.Proofs.YthbiafjdilbbnaaGreatDoor.PI
