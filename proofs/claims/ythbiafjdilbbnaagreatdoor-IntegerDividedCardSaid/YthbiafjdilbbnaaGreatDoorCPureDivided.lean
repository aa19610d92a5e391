/-
  IntegerDivided, over numbers and strings alone.
-/
import Derived.Test.YthbiafjdilbbnaaGreatDoorCG7
import Derived.Test.YthbiafjdilbbnaaGreatDoorCPIx3
set_option linter.unusedVariables false
set_option linter.unusedSimpArgs false
namespace Go.Proofs.YthbiafjdilbbnaaGreatDoor.Pure
open Go.RowKit Go.Lib Go.Proofs.YthbiafjdilbbnaaGreatDoor.PI Go.Proofs.YthbiafjdilbbnaaGreatDoorW.PrintWords Go.Proofs.YthbiafjdilbbnaaGreatDoorW.PrintLast

theorem cmpZ_neg {a b : Int} : cmpZ a b < 0 ↔ a < b := by unfold cmpZ; split <;> (try split) <;> omega
theorem cmpZ_nonneg {a b : Int} : cmpZ a b ≥ 0 ↔ b ≤ a := by unfold cmpZ; split <;> (try split) <;> omega
theorem IntegerDivided : newswirelaw03_IntegerDivided.Pure := by
  intro a b ha hb
  obtain ⟨X, hX, eX⟩ := made_at a ha 90 90 rfl (by omega)
  obtain ⟨Y, hY, eY⟩ := made_at b hb 60 60 rfl (by omega)
  have fX := p10 hX (by omega)
  have fY := p10 hY (by omega)
  refine Ev.rounds (g := fun k => newswirelaw03_IntegerDivided.f k a b) ?_
  unfold newswirelaw03_IntegerDivided.f
  refine Ev.bind sane_ev (Ev.bind eX (Ev.bind eY ?_))
  by_cases h0 : Y = 0
  · subst h0
    exact ev_some (div_S0 fX) (ev_pos (S_zero.2 rfl) (ev_pos rfl (ev_now rfl)))
  · have hm0 := Int.emod_nonneg X h0
    have hm1 : X % Y < Y.natAbs := Int.emod_lt X h0
    have hq : (X / Y).natAbs < 10 ^ 90 := Nat.lt_of_le_of_lt (div_natAbs_le X) hX
    have hr : (X % Y).natAbs < 10 ^ 60 := by omega
    have hqy := mul_p10 hq hY
    have hsum : X / Y * Y + X % Y = X := by rw [Int.mul_comm]; exact Int.mul_ediv_add_emod X Y
    have hp := mul_p10 hX hY
    have hback : X * Y / Y = X := Int.mul_ediv_cancel X h0
    have hrest : X * Y % Y = 0 := Int.mul_emod_left X Y
    have key : ∀ (s : Int), s = (Y.natAbs : Int) → Ev (fun k => newswirelaw03_IntegerDivided.j0 k true (S X) (S Y) (S (X % Y)) 0 0 (S X) 0 (S s) 0) true := by
      intro s hs
      have hsl : s.natAbs < lim := by rw [hs]; simpa using fY
      refine Ev.step (fun k => by rw [newswirelaw03_IntegerDivided.j0]) ?_
      refine ev_some (mul_S fX fY (p10 hp (by omega))) (ev_some (div_S (p10 hp (by omega)) fY h0) ?_)
      refine ev_pos rfl (ev_pos rfl (ev_pos rfl (ev_pos rfl (ev_pos rfl (ev_pos rfl ?_)))))
      rw [l0]
      refine ev_some (cmp_S (p10 hr (by omega)) (by decide)) (ev_pos (cmpZ_nonneg.2 hm0) ?_)
      refine ev_some (cmp_S (p10 hr (by omega)) hsl) (ev_pos (cmpZ_neg.2 (by rw [hs]; exact hm1)) ?_)
      refine ev_some (valid_S (p10 hr (by omega))) (ev_pos rfl (ev_pos rfl (ev_pos rfl (ev_pos (by rw [hback]) (ev_now ?_)))))
      rw [S_beq0, hrest]; rfl
    refine ev_some (div_S fX fY h0) (ev_neg (fun h => h0 (S_zero.1 h)) ?_)
    refine ev_some (mul_S (p10 hq (by omega)) fY (p10 hqy (by omega))) ?_
    refine ev_some (add_S (p10 hqy (by omega)) (p10 hr (by omega)) (by rw [hsum]; exact fX)) ?_
    rw [l1, l0]
    refine ev_some (mul_S fY (by decide) (by rw [Int.mul_one]; exact fY)) ?_
    refine ev_some (cmp_S fY (by decide)) ?_
    rw [hsum, Int.mul_one]
    by_cases hn : Y < 0
    · refine ev_pos (cmpZ_neg.2 hn) (ev_some (sub_S (by decide) fY (by rw [Int.zero_sub, Int.natAbs_neg]; exact fY)) ?_)
      exact key _ (by omega)
    · refine ev_neg (fun h => hn (cmpZ_neg.1 h)) ?_
      exact key _ (by omega)
end Go.Proofs.YthbiafjdilbbnaaGreatDoor.Pure
namespace Go.Proofs.YthbiafjdilbbnaaGreatDoor.integerDivided
open Go.RowKit
theorem walk (a0 : ByteArray) (w0 : a0.size ≤ 140737488351232) (a1 : ByteArray) (w1 : a1.size ≤ 140737488351232) (w : World) (hT : Laid w) :
    Calls Tryz.prog 4 #[.string a0, .string a1] w fun e w' => e = .returned (.bool true) ∧ Below w.heap.size w w' :=
  PI.newswirelaw03_IntegerDivided.walk Pure.IntegerDivided a0 a1 w w0 w1 hT
end Go.Proofs.YthbiafjdilbbnaaGreatDoor.integerDivided
