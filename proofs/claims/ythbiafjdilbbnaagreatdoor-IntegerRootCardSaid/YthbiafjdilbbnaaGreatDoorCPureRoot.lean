/-
  IntegerRoot, over numbers and strings alone.
-/
import Derived.Test.YthbiafjdilbbnaaGreatDoorCG7
import Derived.Test.YthbiafjdilbbnaaGreatDoorCPIx3
set_option linter.unusedVariables false
set_option linter.unusedSimpArgs false
namespace Go.Proofs.YthbiafjdilbbnaaGreatDoor.Pure
open Go.RowKit Go.Lib Go.Proofs.YthbiafjdilbbnaaGreatDoor.PI Go.Proofs.YthbiafjdilbbnaaGreatDoorW.PrintWords Go.Proofs.YthbiafjdilbbnaaGreatDoorW.PrintLast

theorem cmpZ_lt0 {a b : Int} : cmpZ a b < 0 ↔ a < b := by unfold cmpZ; split <;> (try split) <;> omega
theorem cmpZ_le0 {a b : Int} : cmpZ a b ≤ 0 ↔ a ≤ b := by unfold cmpZ; split <;> (try split) <;> omega
theorem cmpZ_gt0 {a b : Int} : cmpZ a b > 0 ↔ b < a := by unfold cmpZ; split <;> (try split) <;> omega
theorem IntegerRoot : newswirelaw03_IntegerRoot.Pure := by
  intro a ha
  obtain ⟨X, hX, eX⟩ := made_at a ha 80 80 rfl (by omega)
  have fX := p10 hX (by omega)
  have hXX := mul_p10 hX hX
  have hsq : isq (X * X).natAbs = X.natAbs := by rw [Int.natAbs_mul, isq_mul]
  refine Ev.rounds (g := fun k => newswirelaw03_IntegerRoot.f k a) ?_
  unfold newswirelaw03_IntegerRoot.f
  refine Ev.bind sane_ev (Ev.bind eX ?_)
  have key : ∀ (r : ByteArray) (e : Int), (X < 0 → r = lb [] ∧ e = 30) → (0 ≤ X → r = S (isq X.natAbs) ∧ e = 0) → Ev (fun k => newswirelaw03_IntegerRoot.j0 k true (S X) r e false) true := by
    intro r e h1 h2
    refine Ev.step (fun k => by rw [newswirelaw03_IntegerRoot.j0]) ?_
    rw [l0, l1]
    refine ev_neg (by decide) (ev_some (cmp_S fX (by decide)) ?_)
    by_cases hn : X < 0
    · obtain ⟨rfl, rfl⟩ := h1 hn
      refine ev_pos (cmpZ_lt0.2 hn) (ev_pos rfl (ev_pos rfl (ev_now ?_)))
      rw [lb_nil_toList]; rfl
    · obtain ⟨rfl, rfl⟩ := h2 (by omega)
      obtain ⟨hs1, hs2⟩ := isq_spec X.natAbs
      have hle := isq_le X.natAbs
      generalize isq X.natAbs = q at *
      have hq : (q : Int).natAbs < 10 ^ 80 := by rw [Int.natAbs_natCast]; exact Nat.lt_of_le_of_lt hle hX
      have hq1 : ((q : Int) + 1).natAbs < 10 ^ 81 := add_p10 (j := 80) (k := 1) hq (by decide) (by omega) (by omega)
      have e1 : (q : Int) * q ≤ X := by
        have : ((q * q : Nat) : Int) ≤ (X.natAbs : Int) := Int.ofNat_le.2 hs1
        rw [Int.natCast_mul] at this; omega
      have e2 : X < ((q : Int) + 1) * ((q : Int) + 1) := by
        have : (X.natAbs : Int) < (((q + 1) * (q + 1) : Nat) : Int) := Int.ofNat_lt.2 hs2
        rw [Int.natCast_mul, Int.natCast_add] at this
        have e3 : ((1 : Nat) : Int) = 1 := rfl
        rw [e3] at this
        omega
      refine ev_neg (fun h => hn (cmpZ_lt0.1 h)) ?_
      refine ev_some (mul_S (p10 hq (by omega)) (p10 hq (by omega)) (p10 (mul_p10 hq hq) (by omega))) ?_
      refine ev_some (add_S (p10 hq (by omega)) (by decide) (p10 hq1 (by omega))) ?_
      refine ev_some (mul_S (p10 hq1 (by omega)) (p10 hq1 (by omega)) (p10 (mul_p10 hq1 hq1) (by omega))) ?_
      refine ev_pos rfl (ev_pos rfl (ev_pos rfl (ev_pos rfl (ev_pos rfl ?_))))
      refine ev_some (cmp_S (p10 (mul_p10 hq hq) (by omega)) fX) (ev_pos (cmpZ_le0.2 e1) ?_)
      refine ev_some (cmp_S (p10 (mul_p10 hq1 hq1) (by omega)) fX) (ev_now ?_)
      exact decide_eq_true (cmpZ_gt0.2 e2)
  have tail : ∀ (r : ByteArray) (e : Int), (X < 0 → r = lb [] ∧ e = 30) → (0 ≤ X → r = S (isq X.natAbs) ∧ e = 0) → Ev (fun k => (integer_Mul.f (S X) (S X)).bind fun bt254 => ((integer_Root.f bt254.1).bind fun bt256 => ((integer_Add.f bt256.1 (S X)).bind fun bt258 => (if bt254.2 = 0 then (if bt256.2 = 0 then (if bt258.2 = 0 then (if bt256.1.toList = (S X).toList then (newswirelaw03_IntegerRoot.j0 k true (S X) r e false) else (newswirelaw03_IntegerRoot.j0 k true (S X) r e (bt258.1.toList != ([48] : List UInt8)))) else (newswirelaw03_IntegerRoot.j0 k true (S X) r e true)) else (newswirelaw03_IntegerRoot.j0 k true (S X) r e true)) else (newswirelaw03_IntegerRoot.j0 k true (S X) r e true))))) true := by
    intro r e h1 h2
    have hab : ((X.natAbs : Int)).natAbs < 10 ^ 80 := by rw [Int.natAbs_natCast]; exact hX
    refine ev_some (mul_S fX fX (p10 hXX (by omega))) ?_
    refine ev_some (root_S (p10 hXX (by omega)) (by rw [← Int.natAbs_mul_self' X]; exact Int.mul_nonneg (Int.natCast_nonneg _) (Int.natCast_nonneg _))) ?_
    rw [hsq]
    refine ev_some (add_S (p10 hab (by omega)) fX (p10 (add_p10 (n := 81) hab hX (by omega) (by omega)) (by omega))) ?_
    refine ev_pos rfl (ev_pos rfl (ev_pos rfl ?_))
    by_cases hx : (X.natAbs : Int) = X
    · exact ev_pos (S_eq.2 hx) (key r e h1 h2)
    · refine ev_neg (fun h => hx (S_eq.1 h)) ?_
      rw [show (S ((X.natAbs : Int) + X)).toList = [48] from S_zero.2 (by omega)]
      exact key r e h1 h2
  by_cases hn : X < 0
  · exact ev_some (root_neg_S fX hn) (tail _ _ (fun _ => ⟨rfl, rfl⟩) (fun h => absurd h (by omega)))
  · exact ev_some (root_S fX (by omega)) (tail _ _ (fun h => absurd h hn) (fun _ => ⟨rfl, rfl⟩))
end Go.Proofs.YthbiafjdilbbnaaGreatDoor.Pure
namespace Go.Proofs.YthbiafjdilbbnaaGreatDoor.integerRoot
open Go.RowKit
theorem walk (a0 : ByteArray) (w0 : a0.size ≤ 140737488351232) (w : World) (hT : Laid w) :
    Calls Tryz.prog 6 #[.string a0] w fun e w' => e = .returned (.bool true) ∧ Below w.heap.size w w' :=
  PI.newswirelaw03_IntegerRoot.walk Pure.IntegerRoot a0 w w0 hT
end Go.Proofs.YthbiafjdilbbnaaGreatDoor.integerRoot
