/-
  IntegerText, over numbers and strings alone.
-/
import Derived.Test.YthbiafjdilbbnaaGreatDoorCG7
import Derived.Test.YthbiafjdilbbnaaGreatDoorCPIx13
set_option linter.unusedVariables false
set_option linter.unusedSimpArgs false
namespace Go.Proofs.YthbiafjdilbbnaaGreatDoor.Pure
open Go.RowKit Go.Lib Go.Proofs.YthbiafjdilbbnaaGreatDoor.PI Go.Proofs.YthbiafjdilbbnaaGreatDoorW.PrintWords Go.Proofs.YthbiafjdilbbnaaGreatDoorW.PrintLast

theorem wf64 {a : Int} (h : (Lit.int .i64 a).wf = true) : -9223372036854775808 ≤ a ∧ a ≤ 9223372036854775807 := by simpa [Lit.wf, IntKind.min, IntKind.max, IntKind.signed, IntKind.bits] using h
theorem lim_64 : (9223372036854775809 : Nat) < lim := Nat.lt_of_lt_of_le (by omega : 9223372036854775809 < 10 ^ 19) (Nat.pow_le_pow_right (by omega) (by omega))
/-- ToInt at a short string: an error and 0, or the number whose string it is. -/
theorem toInt_cases (s : ByteArray) (hs : fit s) : integer_ToInt.f s = some (0, 30) ∨ ∃ z : Int, -9223372036854775808 ≤ z ∧ z ≤ 9223372036854775807 ∧ s = S z ∧ integer_ToInt.f s = some (z, 0) := by
  unfold integer_ToInt.f
  rw [if_pos hs]
  unfold toIntS
  cases hv : valid (bl s) with
  | false => left; rfl
  | true =>
    cases hsm : small (toZ (bl s)) with
    | false => left; rfl
    | true =>
      right
      obtain ⟨z, hz, e⟩ := of_valid hv
      have hs' : s = S z := by rw [← lb_bl s, e]; rfl
      rw [e, toZ_str] at hsm ⊢
      unfold small at hsm
      have := of_decide_eq_true hsm
      exact ⟨z, this.1, this.2, hs', rfl⟩
theorem IntegerText : newswirelaw03_IntegerText.Pure := by
  intro n s hn hs
  have hn := wf64 hn
  have hl := lim_64
  have fn : n.natAbs < lim := by omega
  have hmn : 0 ≤ mn (s.size : Int) 30 ∧ mn (s.size : Int) 30 ≤ s.size ∧ mn (s.size : Int) 30 ≤ 30 := by unfold mn; split <;> omega
  refine Ev.rounds (g := fun k => newswirelaw03_IntegerText.f k n s) ?_
  unfold newswirelaw03_IntegerText.f
  refine Ev.bind sane_ev (ev_pos hmn.1 (ev_pos hmn.2.1 ?_))
  have hft : fit (s.extract 0 (mn (s.size : Int) 30).toNat) := by
    unfold fit
    rw [ByteArray.size_extract]; omega
  generalize s.extract 0 (mn (s.size : Int) 30).toNat = t at *
  refine ev_some (fromInt_S hn.1 hn.2) ?_
  refine ev_some (toInt_S fn (by unfold small; exact decide_eq_true hn)) ?_
  rcases toInt_cases t hft with h | ⟨z, h1, h2, rfl, h⟩
  · refine ev_some h (ev_neg (by decide) (ev_pos rfl (ev_pos rfl (ev_pos rfl (ev_some (valid_S fn) (ev_pos rfl (ev_pos rfl (ev_now rfl))))))))
  · have fz : z.natAbs < lim := by omega
    refine ev_some h (ev_pos rfl (ev_pos rfl (ev_pos rfl (ev_pos rfl (ev_some (valid_S fn) (ev_pos rfl (ev_some (valid_S fz) (ev_pos rfl (ev_some (fromInt_S h1 h2) (ev_now ?_))))))))))
    rw [S_beq]; exact decide_eq_true rfl
end Go.Proofs.YthbiafjdilbbnaaGreatDoor.Pure
namespace Go.Proofs.YthbiafjdilbbnaaGreatDoor.integerText
open Go.RowKit
theorem walk (a0 : Int) (w0 : (Lit.int .i64 a0).wf = true) (a1 : ByteArray) (w1 : a1.size ≤ 140737488351232) (w : World) (hT : Laid w) :
    Calls Tryz.prog 11 #[.int .i64 a0, .string a1] w fun e w' => e = .returned (.bool true) ∧ Below w.heap.size w w' :=
  PI.newswirelaw03_IntegerText.walk Pure.IntegerText a0 a1 w w0 w1 hT
end Go.Proofs.YthbiafjdilbbnaaGreatDoor.integerText
