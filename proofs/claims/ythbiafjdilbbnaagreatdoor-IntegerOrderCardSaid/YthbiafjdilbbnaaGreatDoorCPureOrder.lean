/-
  IntegerOrder, over numbers and strings alone.
-/
import Derived.Test.YthbiafjdilbbnaaGreatDoorCG7
import Derived.Test.YthbiafjdilbbnaaGreatDoorCPIx4
set_option linter.unusedVariables false
set_option linter.unusedSimpArgs false
namespace Go.Proofs.YthbiafjdilbbnaaGreatDoor.Pure
open Go.RowKit Go.Lib Go.Proofs.YthbiafjdilbbnaaGreatDoor.PI Go.Proofs.YthbiafjdilbbnaaGreatDoorW.PrintWords Go.Proofs.YthbiafjdilbbnaaGreatDoorW.PrintLast

theorem cmpZ_range (a b : Int) : -1 ≤ cmpZ a b ∧ cmpZ a b ≤ 1 := by unfold cmpZ; split <;> (try split) <;> omega
theorem cmpZ_anti (a b : Int) : cmpZ b a = -(cmpZ a b) := by unfold cmpZ; split <;> (try split) <;> (try split) <;> omega
theorem cmpZ_zero {a b : Int} : cmpZ a b = 0 ↔ a = b := by unfold cmpZ; split <;> (try split) <;> omega
theorem cmpZ_sub (a b : Int) : cmpZ (a - b) 0 = cmpZ a b := by
  unfold cmpZ
  by_cases h1 : a < b
  · rw [if_pos h1, if_pos (by omega)]
  · by_cases h2 : b < a
    · rw [if_neg h1, if_pos h2, if_neg (by omega), if_pos (by omega)]
    · rw [if_neg h1, if_neg h2, if_neg (by omega), if_neg (by omega)]
theorem cmpZ_add (a b c : Int) : cmpZ (a + c) (b + c) = cmpZ a b := by
  rw [← cmpZ_sub, ← cmpZ_sub a b]; congr 1; omega
theorem cmpZ_pos' {a b : Int} : cmpZ a b > 0 ↔ b < a := by unfold cmpZ; split <;> (try split) <;> omega
theorem cmpZ_npos {a b : Int} : cmpZ a b ≤ 0 ↔ a ≤ b := by unfold cmpZ; split <;> (try split) <;> omega
theorem IntegerOrder : newswirelaw03_IntegerOrder.Pure := by
  intro a b c ha hb hc
  obtain ⟨X, hX, eX⟩ := made_at a ha 60 60 rfl (by omega)
  obtain ⟨Y, hY, eY⟩ := made_at b hb 60 60 rfl (by omega)
  obtain ⟨Z, hZ, eZ⟩ := made_at c hc 60 60 rfl (by omega)
  have fX := p10 hX (by omega)
  have fY := p10 hY (by omega)
  have fZ := p10 hZ (by omega)
  have hd : (X - Y).natAbs < 10 ^ 61 := sub_p10 hX hY (by omega) (by omega)
  have hs1 : (X + Z).natAbs < 10 ^ 61 := add_p10 hX hZ (by omega) (by omega)
  have hs2 : (Y + Z).natAbs < 10 ^ 61 := add_p10 hY hZ (by omega) (by omega)
  have hr := cmpZ_range X Y
  refine Ev.rounds (g := fun k => newswirelaw03_IntegerOrder.f k a b c) ?_
  unfold newswirelaw03_IntegerOrder.f
  refine Ev.bind sane_ev (Ev.bind eX (Ev.bind eY (Ev.bind eZ ?_)))
  refine ev_some (cmp_S fX fY) ?_
  refine ev_some (sub_S fX fY (p10 hd (by omega))) ?_
  refine ev_some (add_S fX fZ (p10 hs1 (by omega))) ?_
  refine ev_some (add_S fY fZ (p10 hs2 (by omega))) ?_
  refine ev_pos rfl (ev_pos rfl (ev_pos rfl (ev_neg (by omega) (ev_neg (by omega) ?_))))
  refine ev_some (cmp_S fY fX) ?_
  refine ev_pos (by rw [cmpZ_anti, wrap_id (by omega) (by omega)]) ?_
  refine ev_neg ?_ ?_
  · rw [S_beq]
    by_cases h : X = Y
    · rw [cmpZ_zero.2 h, decide_eq_true h]; decide
    · rw [decide_eq_false h, beq_eq_false_iff_ne.2 (fun e => h (cmpZ_zero.1 e))]; decide
  rw [l0]
  refine ev_some (cmp_S (p10 hd (by omega)) (by decide)) (ev_pos (cmpZ_sub X Y) ?_)
  refine ev_some (cmp_S (p10 hs1 (by omega)) (p10 hs2 (by omega))) ?_
  rw [cmpZ_add, show (cmpZ X Y != cmpZ X Y) = false by simp]
  refine Ev.step (fun k => by rw [newswirelaw03_IntegerOrder.j0]) ?_
  refine ev_neg (by decide) (ev_pos rfl ?_)
  by_cases h1 : cmpZ X Y > 0
  · exact ev_pos h1 (ev_now rfl)
  · refine ev_neg h1 (ev_some (cmp_S fY fZ) ?_)
    by_cases h2 : cmpZ Y Z > 0
    · exact ev_pos h2 (ev_now rfl)
    · refine ev_neg h2 (ev_some (cmp_S fX fZ) (ev_now (decide_eq_true ?_)))
      rw [cmpZ_npos]
      rw [cmpZ_pos'] at h1 h2
      omega
end Go.Proofs.YthbiafjdilbbnaaGreatDoor.Pure
namespace Go.Proofs.YthbiafjdilbbnaaGreatDoor.integerOrder
open Go.RowKit
theorem walk (a0 : ByteArray) (w0 : a0.size ≤ 140737488351232) (a1 : ByteArray) (w1 : a1.size ≤ 140737488351232) (a2 : ByteArray) (w2 : a2.size ≤ 140737488351232) (w : World) (hT : Laid w) :
    Calls Tryz.prog 7 #[.string a0, .string a1, .string a2] w fun e w' => e = .returned (.bool true) ∧ Below w.heap.size w w' :=
  PI.newswirelaw03_IntegerOrder.walk Pure.IntegerOrder a0 a1 a2 w w0 w1 w2 hT
end Go.Proofs.YthbiafjdilbbnaaGreatDoor.integerOrder
