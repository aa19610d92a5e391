/-
  IntegerMachine, over numbers and strings alone.
-/
import Derived.Test.YthbiafjdilbbnaaGreatDoorCG7
import Derived.Test.YthbiafjdilbbnaaGreatDoorCPIx12
set_option linter.unusedVariables false
set_option linter.unusedSimpArgs false
namespace Go.Proofs.YthbiafjdilbbnaaGreatDoor.Pure
open Go.RowKit Go.Lib Go.Proofs.YthbiafjdilbbnaaGreatDoor.PI Go.Proofs.YthbiafjdilbbnaaGreatDoorW.PrintWords Go.Proofs.YthbiafjdilbbnaaGreatDoorW.PrintLast

theorem lim_big : (10 ^ 30 : Nat) < lim := Nat.pow_lt_pow_right (by omega) (by omega)
theorem fits {z : Int} (h : z.natAbs < 10 ^ 30) : z.natAbs < lim := Nat.lt_trans h lim_big
theorem wf32 {a : Int} (h : (Lit.int .i32 a).wf = true) : -2147483648 ≤ a ∧ a ≤ 2147483647 := by simpa [Lit.wf, IntKind.min, IntKind.max, IntKind.signed, IntKind.bits] using h
theorem IntegerMachine : newswirelaw03_IntegerMachine.Pure := by
  intro x y hx hy
  have hx := wf32 hx
  have hy := wf32 hy
  have fx : x.natAbs < lim := fits (by omega)
  have fy : y.natAbs < lim := fits (by omega)
  have hm : (x * y).natAbs ≤ 2147483648 * 2147483648 := by rw [Int.natAbs_mul]; exact Nat.mul_le_mul (by omega) (by omega)
  have fm : (x * y).natAbs < lim := fits (by omega)
  refine Ev.rounds (g := fun k => newswirelaw03_IntegerMachine.f k x y) ?_
  unfold newswirelaw03_IntegerMachine.f
  rw [wrap_id (x := x) (by omega) (by omega), wrap_id (x := y) (by omega) (by omega), wrap_id (x := x + y) (by omega) (by omega), wrap_id (x := x - y) (by omega) (by omega), wrap_id (x := x * y) (by omega) (by omega)]
  refine Ev.bind sane_ev ?_
  refine ev_some (fromInt_S (n := x) (by omega) (by omega)) ?_
  refine ev_some (fromInt_S (n := y) (by omega) (by omega)) ?_
  refine ev_some (toInt_S fx (by unfold small; exact decide_eq_true ⟨by omega, by omega⟩)) ?_
  refine ev_some (add_S fx fy (fits (by omega))) ?_
  refine ev_some (sub_S fx fy (fits (by omega))) ?_
  refine ev_some (mul_S fx fy fm) ?_
  refine ev_pos rfl (ev_pos rfl (ev_pos rfl (ev_pos rfl (ev_pos rfl ?_))))
  refine ev_some (fromInt_S (by omega) (by omega)) (ev_pos rfl ?_)
  refine ev_some (fromInt_S (by omega) (by omega)) (ev_pos rfl ?_)
  refine ev_some (fromInt_S (by omega) (by omega)) ?_
  rw [show ((S (x * y)).toList != (S (x * y)).toList) = false by simp]
  have j4 : ∀ (q r : Int), y ≠ 0 → -4294967296 ≤ q → q ≤ 4294967296 → -4294967296 ≤ r → r ≤ 4294967296 → r = x % y → q = x / y →
      Ev (fun k => newswirelaw03_IntegerMachine.j4 k true y (S (x / y)) (S (x % y)) 0 r q) true := by
    intro q r h0 hq0 hq1 hr0 hr1 hr hq
    have h1 := Int.emod_nonneg x h0
    refine Ev.step (fun k => by rw [newswirelaw03_IntegerMachine.j4]) ?_
    refine ev_neg (by omega) (ev_pos rfl (ev_pos rfl ?_))
    refine ev_some (fromInt_S (by omega) (by omega)) (ev_pos (by rw [hq]) (ev_some (fromInt_S (by omega) (by omega)) (ev_now ?_)))
    rw [hr, S_beq]; exact decide_eq_true rfl
  have j4n : ∀ (q r : Int), y ≠ 0 → -4294967296 ≤ q → q ≤ 4294967296 → -4294967296 ≤ r → r < 0 → r - y = x % y → q + 1 = x / y →
      Ev (fun k => newswirelaw03_IntegerMachine.j4 k true y (S (x / y)) (S (x % y)) 0 r q) true := by
    intro q r h0 hq0 hq1 hr0 hr1 hr hq
    refine Ev.step (fun k => by rw [newswirelaw03_IntegerMachine.j4]) ?_
    rw [wrap_id (x := q + 1) (by omega) (by omega), wrap_id (x := r - y) (by omega) (by omega)]
    refine ev_pos hr1 (ev_pos rfl (ev_pos rfl ?_))
    refine ev_some (fromInt_S (by omega) (by omega)) (ev_pos (by rw [hq]) (ev_some (fromInt_S (by omega) (by omega)) (ev_now ?_)))
    rw [hr, S_beq]; exact decide_eq_true rfl
  have j2 : Ev (fun k => newswirelaw03_IntegerMachine.j2 k true x y (S x) (S y) (cmpZ x y)) true := by
    refine Ev.step (fun k => by rw [newswirelaw03_IntegerMachine.j2]) ?_
    refine ev_some (cmp_S fx fy) (ev_pos rfl ?_)
    by_cases h0 : y = 0
    · subst h0
      refine ev_some (div_S0 fx) (ev_pos rfl (ev_pos rfl (ev_pos rfl (ev_pos lb_nil_toList (ev_now ?_)))))
      rw [lb_nil_toList]; rfl
    · have e1 := Int.tmod_add_mul_tdiv x y
      have e2 := Int.natAbs_tmod x y
      have e3 := Nat.mod_lt x.natAbs (show 0 < y.natAbs by omega)
      have e4 : (x.tdiv y).natAbs ≤ 2147483648 := by
        rw [Int.natAbs_tdiv]
        exact Nat.le_trans (Nat.div_le_self _ _) (by omega)
      refine ev_some (div_S fx fy h0) (ev_neg h0 ?_)
      rw [wrap_id (x := x.tdiv y) (by omega) (by omega)]
      generalize x.tdiv y = q at *
      generalize x.tmod y = r at *
      by_cases hr : r < 0
      · refine ev_pos hr ?_
        by_cases hyp : y > 0
        · rw [decide_eq_true hyp]
          refine Ev.step (fun k => by rw [newswirelaw03_IntegerMachine.j3]) (ev_pos rfl ?_)
          rw [wrap_id (x := r + y) (by omega) (by omega), wrap_id (x := q - 1) (by omega) (by omega)]
          have hu := div_unique (a := x) (b := y) (q := q - 1) (r := r + y) (by rw [Int.mul_sub]; omega) (by omega) (by omega)
          exact j4 _ _ h0 (by omega) (by omega) (by omega) (by omega) hu.2.symm hu.1.symm
        · rw [decide_eq_false hyp]
          refine Ev.step (fun k => by rw [newswirelaw03_IntegerMachine.j3]) (ev_neg (by decide) ?_)
          have hu := div_unique (a := x) (b := y) (q := q + 1) (r := r - y) (by rw [Int.mul_add]; omega) (by omega) (by omega)
          exact j4n _ _ h0 (by omega) (by omega) (by omega) hr hu.2.symm hu.1.symm
      · refine ev_neg hr ?_
        refine Ev.step (fun k => by rw [newswirelaw03_IntegerMachine.j3]) (ev_neg (by decide) ?_)
        have hu := div_unique (a := x) (b := y) (q := q) (r := r) e1 (by omega) (by omega)
        exact j4 _ _ h0 (by omega) (by omega) (by omega) (by omega) hu.2.symm hu.1.symm
  refine Ev.step (fun k => by rw [newswirelaw03_IntegerMachine.j0]) (ev_neg (by decide) ?_)
  have hc : cmpZ x y = if x > y then 1 else if x < y then -1 else 0 := by unfold cmpZ; split <;> (try split) <;> (try split) <;> omega
  by_cases h1 : x < y
  · refine ev_pos h1 (Ev.step (fun k => by rw [newswirelaw03_IntegerMachine.j1]) (ev_neg (by omega) ?_))
    rw [hc, if_neg (by omega), if_pos h1] at j2; exact j2
  · refine ev_neg h1 (Ev.step (fun k => by rw [newswirelaw03_IntegerMachine.j1]) ?_)
    by_cases h2 : x > y
    · rw [hc, if_pos h2] at j2; exact ev_pos h2 j2
    · rw [hc, if_neg h2, if_neg h1] at j2; exact ev_neg h2 j2
end Go.Proofs.YthbiafjdilbbnaaGreatDoor.Pure
namespace Go.Proofs.YthbiafjdilbbnaaGreatDoor.integerMachine
open Go.RowKit
theorem walk (a0 : Int) (w0 : (Lit.int .i32 a0).wf = true) (a1 : Int) (w1 : (Lit.int .i32 a1).wf = true) (w : World) (hT : Laid w) :
    Calls Tryz.prog 10 #[.int .i32 a0, .int .i32 a1] w fun e w' => e = .returned (.bool true) ∧ Below w.heap.size w w' :=
  PI.newswirelaw03_IntegerMachine.walk Pure.IntegerMachine a0 a1 w w0 w1 hT
end Go.Proofs.YthbiafjdilbbnaaGreatDoor.integerMachine
