/-
  IntegerLimits, over numbers and strings alone.
-/
import Derived.Test.YthbiafjdilbbnaaGreatDoorCG7
import Derived.Test.YthbiafjdilbbnaaGreatDoorCPIx5
set_option linter.unusedVariables false
set_option linter.unusedSimpArgs false
namespace Go.Proofs.YthbiafjdilbbnaaGreatDoor.Pure
open Go.RowKit Go.Lib Go.Proofs.YthbiafjdilbbnaaGreatDoor.PI Go.Proofs.YthbiafjdilbbnaaGreatDoorW.PrintWords Go.Proofs.YthbiafjdilbbnaaGreatDoorW.PrintLast

theorem isDig57 : isDig 57 = true := by decide
theorem num_nines (n : Nat) : num (List.replicate n 57) + 1 = 10 ^ n := by
  induction n with
  | zero => rfl
  | succ n ih => rw [List.replicate_succ', num_snoc, Nat.pow_succ, ← ih, show (57 : UInt8).toNat = 57 from rfl]; omega
theorem num_one_nines (n : Nat) : num (49 :: List.replicate n 57) + 1 = 2 * 10 ^ n := by
  induction n with
  | zero => rfl
  | succ n ih => rw [List.replicate_succ', ← List.cons_append, num_snoc, Nat.pow_succ, show (57 : UInt8).toNat = 57 from rfl]; omega
theorem digs_cons {x : UInt8} {l : List UInt8} (h : x ≠ 45) : digs (x :: l) = x :: l := by unfold digs; rw [if_neg (by simpa using h)]
theorem digs_minus (l : List UInt8) : digs (45 :: l) = l := by unfold digs; rw [if_pos (by rfl)]; rfl
theorem valid_of {l : List UInt8} (h0 : l ≠ []) (h1 : l.length ≤ 200) (h2 : ∀ b ∈ l, isDig b = true) (h3 : l.head? ≠ some 48) (h4 : l.head? ≠ some 45) : valid l = true ∧ toZ l = num l := by
  have hd : digs l = l := by unfold digs; rw [if_neg h4]
  constructor
  · unfold valid
    simp only [hd]
    rw [List.all_eq_true.2 h2, decide_eq_true h1, decide_eq_true h3]
    cases l with
    | nil => exact absurd rfl h0
    | cons => simp
  · unfold toZ; rw [if_neg h4, hd]
theorem valid_of_minus {l : List UInt8} (h0 : l ≠ []) (h1 : l.length ≤ 200) (h2 : ∀ b ∈ l, isDig b = true) (h3 : l.head? ≠ some 48) : valid (45 :: l) = true ∧ toZ (45 :: l) = -(num l : Int) := by
  constructor
  · unfold valid
    simp only [digs_minus]
    rw [List.all_eq_true.2 h2, decide_eq_true h1, decide_eq_true h3]
    cases l with
    | nil => exact absurd rfl h0
    | cons => simp
  · unfold toZ; rw [if_pos (by rfl), digs_minus]
theorem rep_dig (n : Nat) : ∀ b ∈ List.replicate n (57 : UInt8), isDig b = true := fun b hb => by rw [(List.mem_replicate.1 hb).2]; exact isDig57
theorem rep_head (n : Nat) : (List.replicate n (57 : UInt8)).head? ≠ some 48 ∧ (List.replicate n (57 : UInt8)).head? ≠ some 45 := by cases n <;> simp [List.replicate_succ]
theorem nines_S {n : Nat} (h1 : 1 ≤ n) (h2 : n ≤ 200) : lb (List.replicate n 57) = S (10 ^ n - 1) := by
  have hv := valid_of (l := List.replicate n 57) (by intro e; have := congrArg List.length e; simp at this; omega) (by simpa using h2) (rep_dig n) (rep_head n).1 (rep_head n).2
  refine lb_lit hv.1 ?_
  have := num_nines n
  have e : ((num (List.replicate n 57) + 1 : Nat) : Int) = ((10 ^ n : Nat) : Int) := by rw [this]
  rw [hv.2]
  rw [Int.natCast_add, Int.natCast_pow] at e
  have e1 : ((1 : Nat) : Int) = 1 := rfl
  have e10 : ((10 : Nat) : Int) = 10 := rfl
  rw [e1, e10] at e
  omega
theorem minus_nines_S {n : Nat} (h1 : 1 ≤ n) (h2 : n ≤ 200) : lb (45 :: List.replicate n 57) = S (-(10 ^ n - 1)) := by
  have hv := valid_of_minus (l := List.replicate n 57) (by intro e; have := congrArg List.length e; simp at this; omega) (by simpa using h2) (rep_dig n) (rep_head n).1
  refine lb_lit hv.1 ?_
  have := num_nines n
  have e : ((num (List.replicate n 57) + 1 : Nat) : Int) = ((10 ^ n : Nat) : Int) := by rw [this]
  rw [hv.2]
  rw [Int.natCast_add, Int.natCast_pow] at e
  have e1 : ((1 : Nat) : Int) = 1 := rfl
  have e10 : ((10 : Nat) : Int) = 10 := rfl
  rw [e1, e10] at e
  omega
theorem one_nines_S {n : Nat} (h2 : n ≤ 199) : lb (49 :: List.replicate n 57) = S (2 * 10 ^ n - 1) := by
  have hv := valid_of (l := 49 :: List.replicate n 57) (by simp) (by simp; omega) (by
    intro b hb
    rcases List.mem_cons.1 hb with rfl | hb
    · decide
    · exact rep_dig n b hb) (by simp) (by simp)
  refine lb_lit hv.1 ?_
  have := num_one_nines n
  have e : ((num (49 :: List.replicate n 57) + 1 : Nat) : Int) = ((2 * 10 ^ n : Nat) : Int) := by rw [this]
  rw [hv.2]
  rw [Int.natCast_add, Int.natCast_mul, Int.natCast_pow] at e
  have e1 : ((1 : Nat) : Int) = 1 := rfl
  have e2 : ((2 : Nat) : Int) = 2 := rfl
  have e10 : ((10 : Nat) : Int) = 10 := rfl
  rw [e1, e2, e10] at e
  omega
theorem lb_append (a b : List UInt8) : lb a ++ lb b = lb (a ++ b) := by
  apply ByteArray.ext
  rw [ByteArray.data_append]
  unfold lb; simp
theorem nines_loop (n : Nat) (hn : n ≤ 200) (d : Nat) : ∀ i : Nat, i ≤ n → n - i = d → Ev (fun k => newswirelaw03_nines.l0 k (n : Int) (lb (List.replicate i 57)) (i : Int)) (lb (List.replicate n 57)) := by
  induction d with
  | zero =>
    intro i hi hd
    obtain rfl : i = n := by omega
    refine Ev.step (fun k => by rw [newswirelaw03_nines.l0]) (ev_neg (by omega) (Ev.now _))
  | succ d ih =>
    intro i hi hd
    have hs : (lb (List.replicate i 57)).size = i := by rw [lb_size]; simp
    refine Ev.step (fun k => by rw [newswirelaw03_nines.l0]) (ev_pos (by omega) (ev_pos (by rw [hs]; omega) ?_))
    have := ih (i + 1) (by omega) (by omega)
    rw [wrap_id (by omega) (by omega), show (⟨#[57]⟩ : ByteArray) = lb [57] from rfl, lb_append, ← List.replicate_succ']
    exact this
theorem nines_ev (n : Nat) (hn : n ≤ 200) : Ev (fun k => newswirelaw03_nines.f k (n : Int)) (lb (List.replicate n 57)) := nines_loop n hn n 0 (by omega) (by omega)
theorem pick_some {c : Int} (h0 : -9223372036854775808 ≤ c) (h1 : c ≤ 9223372036854775807) : ∃ m : Nat, m < 200 ∧ newswirelaw03_pick.f c 200 = some (m : Int) := by
  unfold newswirelaw03_pick.f
  by_cases h : c < 0
  · rw [if_pos h, if_neg (by omega), wrap_id (x := c + 1) (by omega) (by omega), wrap_id (by omega) (by omega), Int.tmod_eq_emod_of_nonneg (by omega)]
    exact ⟨(-(c + 1) % 200).toNat, by omega, by congr 1; omega⟩
  · rw [if_neg h, if_neg (by omega), Int.tmod_eq_emod_of_nonneg (by omega)]
    exact ⟨(c % 200).toNat, by omega, by congr 1; omega⟩
theorem pow_int (n : Nat) : ((10 ^ n : Nat) : Int) = (10 : Int) ^ n := by rw [Int.natCast_pow]; rfl
theorem cmpZ_gt {a b : Int} : cmpZ a b > 0 ↔ b < a := by unfold cmpZ; split <;> (try split) <;> omega
theorem wf_range {a : Int} (h : (Lit.int .i64 a).wf = true) : -9223372036854775808 ≤ a ∧ a ≤ 9223372036854775807 := by simpa [Lit.wf, IntKind.min, IntKind.max, IntKind.signed, IntKind.bits] using h
theorem lim_int : (lim : Int) = 10 ^ 200 := by unfold lim; exact pow_int 200
theorem lb_empty : (⟨#[]⟩ : ByteArray) = lb [] := rfl
theorem long_invalid {n : Nat} (h : 200 ≤ n) : valid (List.replicate n 57 ++ [57]) = false := by
  have hd : digs (List.replicate n 57 ++ [57]) = List.replicate n 57 ++ [57] := by
    unfold digs
    rw [if_neg]
    cases n with
    | zero => omega
    | succ n => rw [List.replicate_succ, List.cons_append, List.head?_cons]; decide
  rw [Bool.eq_false_iff]
  intro hv
  unfold valid at hv
  simp only [hd, Bool.and_eq_true, decide_eq_true_eq] at hv
  have := hv.1.1.2
  rw [List.length_append, List.length_replicate, List.length_singleton] at this
  omega
theorem nines_fit (n : Nat) (h : n ≤ 1000) : fit (lb (List.replicate n 57 ++ [57])) := by
  unfold fit; rw [lb_size, List.length_append, List.length_replicate, List.length_singleton]; omega
theorem invalid_long : integer_Valid.f (lb (List.replicate 200 57) ++ (⟨#[57]⟩ : ByteArray)) = some false := by
  rw [show (⟨#[57]⟩ : ByteArray) = lb [57] from rfl, lb_append]
  unfold integer_Valid.f
  rw [if_pos (nines_fit 200 (by omega)), bl_lb, long_invalid (by omega)]
theorem valid_minus : integer_Valid.f ((⟨#[45]⟩ : ByteArray) ++ lb (List.replicate 200 57)) = some true := by
  rw [show (⟨#[45]⟩ : ByteArray) = lb [45] from rfl, lb_append, List.singleton_append, minus_nines_S (by omega) (by omega)]
  refine valid_S ?_
  have h := lim_int
  omega
theorem prod_eq (M N : Nat) : (10 : Int) ^ M * (2 * 10 ^ N - 1) = ((10 ^ M * (2 * 10 ^ N - 1) : Nat) : Int) := by
  have h : 0 < 10 ^ N := Nat.pow_pos (by omega)
  have e : ((2 * 10 ^ N - 1 : Nat) : Int) = 2 * 10 ^ N - 1 := by
    have := pow_int N
    omega
  rw [Int.natCast_mul, e, pow_int]
theorem prod_lt (M N : Nat) : 10 ^ M * (2 * 10 ^ N - 1) < 10 ^ (M + N + 1) ∧ 10 ^ (M + N) ≤ 10 ^ M * (2 * 10 ^ N - 1) := by
  have h : 0 < 10 ^ N := Nat.pow_pos (by omega)
  have hM : 0 < 10 ^ M := Nat.pow_pos (by omega)
  constructor
  · rw [show M + N + 1 = M + (N + 1) by omega, Nat.pow_add 10 M (N + 1), Nat.pow_succ]
    exact Nat.mul_lt_mul_of_pos_left (by omega) hM
  · rw [Nat.pow_add]
    exact Nat.mul_le_mul_left _ (by omega)
theorem S_size_nat {n k : Nat} (h1 : n < 10 ^ (k + 1)) (h2 : 10 ^ k ≤ n) : (S (n : Int)).size = k + 1 := by
  unfold S
  rw [lb_size]
  unfold str
  rw [if_neg (by omega), Int.natAbs_natCast]
  have a1 := dec_length_le (k := k + 1) (by omega) h1
  have a2 : ¬ (decDigits n).length ≤ k := by
    intro h
    have := lt_dec_length n
    have := Nat.pow_le_pow_right (n := 10) (by omega) h
    omega
  omega
theorem IntegerLimits : newswirelaw03_IntegerLimits.Pure := by
  intro a m n ha hm hn
  obtain ⟨X, hX, eX⟩ := made_at a ha 5 5 rfl (by omega)
  have fX := p10 hX (by omega)
  obtain ⟨M, hM, eM⟩ := pick_some (wf_range hm).1 (wf_range hm).2
  obtain ⟨N, hN, eN⟩ := pick_some (wf_range hn).1 (wf_range hn).2
  have hli := lim_int
  have hl0 : 10 ^ 5 < lim := Nat.pow_lt_pow_right (by omega) (by omega)
  have f200 : ((10 : Int) ^ 200 - 1).natAbs < lim := by omega
  have f200' : (-((10 : Int) ^ 200 - 1)).natAbs < lim := by omega
  have hpM : (10 ^ M : Nat) < lim := Nat.pow_lt_pow_right (by omega) hM
  have eMi := pow_int M
  have hpM0 : 0 < 10 ^ M := Nat.pow_pos (by omega)
  have fM : ((10 : Int) ^ M).natAbs < lim := by omega
  have hpN : (2 * 10 ^ N : Nat) < lim := by
    have : 10 ^ N ≤ 10 ^ 199 := Nat.pow_le_pow_right (by omega) (by omega)
    have h2 : lim = 10 ^ 199 * 10 := Nat.pow_succ ..
    have h3 : 0 < 10 ^ 199 := Nat.pow_pos (by omega)
    omega
  have eNi := pow_int N
  have hpN0 : 0 < 10 ^ N := Nat.pow_pos (by omega)
  have fN : (2 * (10 : Int) ^ N - 1).natAbs < lim := by omega
  have hprod := prod_eq M N
  have hplt := prod_lt M N
  refine Ev.rounds (g := fun k => newswirelaw03_IntegerLimits.f k a m n) ?_
  unfold newswirelaw03_IntegerLimits.f
  have e200 : Ev (fun k => newswirelaw03_nines.f k 200) (lb (List.replicate 200 57)) := nines_ev 200 (by omega)
  refine Ev.bind sane_ev (Ev.bind eX (Ev.bind e200 ?_))
  -- the last part
  have j2 : ∀ small : Bool, small = decide (M + N < 200) → ∀ p : ByteArray, (M + N < 200 → p.size = M + N + 1) →
      Ev (fun k => newswirelaw03_IntegerLimits.j2 k (M : Int) (N : Int) true (lb (List.replicate 200 57)) p small false) true := by
    intro small hs p hp
    have hsz : (lb (List.replicate 200 57)).size = 200 := by rw [lb_size, List.length_replicate]
    refine Ev.step (fun k => by rw [newswirelaw03_IntegerLimits.j2]) (ev_neg (by decide) (ev_pos rfl ?_))
    subst hs
    by_cases hsm : M + N < 200
    · rw [decide_eq_true hsm]
      refine ev_pos rfl (ev_pos ?_ (ev_pos (by rw [hsz]; omega) (ev_some invalid_long (ev_neg (by decide) (ev_pos (by rw [hsz]; omega) (ev_some valid_minus (ev_now rfl)))))))
      rw [hp hsm, wrap_id (x := (M : Int) + N) (by omega) (by omega), wrap_id (by omega) (by omega)]; omega
    · rw [decide_eq_false hsm]
      exact ev_neg (by decide) (ev_pos (by rw [hsz]; omega) (ev_some invalid_long (ev_neg (by decide) (ev_pos (by rw [hsz]; omega) (ev_some valid_minus (ev_now rfl))))))
  have j0 : ∀ (s d : ByteArray) (e f : Int), (0 < X → s = lb [] ∧ d = lb [] ∧ e = 30 ∧ f = 30) → (X ≤ 0 → e = 0 ∧ f = 0) →
      Ev (fun k => newswirelaw03_IntegerLimits.j0 k (M : Int) (N : Int) true (S X) (lb (List.replicate 200 57)) s e d f (S (10 ^ M)) 0) true := by
    intro s d e f h1 h2
    have eNn := nines_ev N (by omega)
    have hszN : (lb (List.replicate N 57)).size = N := by rw [lb_size, List.length_replicate]
    refine Ev.step (fun k => by rw [newswirelaw03_IntegerLimits.j0]) ?_
    refine Ev.bind eNn ?_
    refine ev_pos (by rw [hszN]; omega) ?_
    rw [show (⟨#[49]⟩ : ByteArray) = lb [49] from rfl, lb_append, List.singleton_append, one_nines_S (by omega), l0]
    have hsmall : decide (wrap64 ((M : Int) + (N : Int)) < 200) = decide (M + N < 200) := by
      rw [wrap_id (by omega) (by omega), decide_eq_decide]; omega
    have go : ∀ (p : ByteArray) (g : Int), (M + N < 200 → g = 0 ∧ p.size = M + N + 1) → (¬ M + N < 200 → g = 30 ∧ p = lb []) →
        Ev (fun k => (integer_Compare.f (S X) (S 0)).bind fun t302 => (if (0 : Int) = 0 then (if ((e == 0) == (decide (t302 > 0))) = true then (newswirelaw03_IntegerLimits.j1 k (M : Int) (N : Int) true (lb (List.replicate 200 57)) s e d p g (decide ((wrap64 ((M : Int) + N)) < 200)) (decide (t302 > 0)) true) else (if ((f == 0) == (decide (t302 > 0))) = true then (newswirelaw03_IntegerLimits.j1 k (M : Int) (N : Int) true (lb (List.replicate 200 57)) s e d p g (decide ((wrap64 ((M : Int) + N)) < 200)) (decide (t302 > 0)) true) else (newswirelaw03_IntegerLimits.j1 k (M : Int) (N : Int) true (lb (List.replicate 200 57)) s e d p g (decide ((wrap64 ((M : Int) + N)) < 200)) (decide (t302 > 0)) ((g == 0) != (decide ((wrap64 ((M : Int) + N)) < 200)))))) else (newswirelaw03_IntegerLimits.j1 k (M : Int) (N : Int) true (lb (List.replicate 200 57)) s e d p g (decide ((wrap64 ((M : Int) + N)) < 200)) (decide (t302 > 0)) true))) true := by
      intro p g hg1 hg2
      have hlast : Ev (fun k => newswirelaw03_IntegerLimits.j1 k (M : Int) (N : Int) true (lb (List.replicate 200 57)) s e d p g (decide (M + N < 200)) (decide (0 < X)) false) true := by
        have fin := j2 (decide (M + N < 200)) rfl p (fun h => (hg1 h).2)
        refine Ev.step (fun k => by rw [newswirelaw03_IntegerLimits.j1]) (ev_neg (by decide) ?_)
        have inner : Ev (fun k => if decide (M + N < 200) = true then newswirelaw03_IntegerLimits.j2 k (M : Int) (N : Int) true (lb (List.replicate 200 57)) p (decide (M + N < 200)) false else if p.toList = [] then newswirelaw03_IntegerLimits.j2 k (M : Int) (N : Int) true (lb (List.replicate 200 57)) p (decide (M + N < 200)) (g != 30) else newswirelaw03_IntegerLimits.j2 k (M : Int) (N : Int) true (lb (List.replicate 200 57)) p (decide (M + N < 200)) true) true := by
          by_cases hsm : M + N < 200
          · exact ev_pos (decide_eq_true hsm) fin
          · refine ev_neg (by simpa using hsm) ?_
            obtain ⟨rfl, rfl⟩ := hg2 hsm
            exact ev_pos lb_nil_toList fin
        by_cases hx : 0 < X
        · obtain ⟨rfl, rfl, rfl, rfl⟩ := h1 hx
          exact ev_pos (decide_eq_true hx) (ev_pos lb_nil_toList (ev_pos lb_nil_toList (ev_pos rfl inner)))
        · exact ev_neg (by simpa using hx) inner
      refine ev_some (cmp_S fX (by decide)) (ev_pos rfl ?_)
      have hc : decide (cmpZ X 0 > 0) = decide (0 < X) := by rw [decide_eq_decide, cmpZ_gt]
      rw [hc, hsmall]
      have hgs : ((g == 0) != decide (M + N < 200)) = false := by
        by_cases hsm : M + N < 200
        · rw [(hg1 hsm).1, decide_eq_true hsm]; decide
        · rw [(hg2 hsm).1, decide_eq_false hsm]; decide
      rw [hgs]
      by_cases hx : 0 < X
      · obtain ⟨_, _, rfl, rfl⟩ := h1 hx
        rw [decide_eq_true hx] at hlast ⊢
        exact ev_neg (by decide) (ev_neg (by decide) hlast)
      · obtain ⟨rfl, rfl⟩ := h2 (by omega)
        rw [decide_eq_false hx] at hlast ⊢
        exact ev_neg (by decide) (ev_neg (by decide) hlast)
    by_cases hsm : M + N < 200
    · have hb : (10 ^ M * (2 * 10 ^ N - 1) : Nat) < lim := Nat.lt_of_lt_of_le hplt.1 (Nat.pow_le_pow_right (by omega) (by omega))
      refine ev_some (mul_S fM fN (by rw [hprod, Int.natAbs_natCast]; exact hb)) ?_
      refine go _ _ (fun _ => ⟨rfl, ?_⟩) (fun h => absurd hsm h)
      rw [hprod]
      exact S_size_nat hplt.1 hplt.2
    · have hb : ¬ (10 ^ M * (2 * 10 ^ N - 1) : Nat) < lim := by
        have : lim ≤ 10 ^ (M + N) := Nat.pow_le_pow_right (by omega) (by omega)
        omega
      refine ev_some (mul_big fM fN (by rw [hprod, Int.natAbs_natCast]; exact hb)) ?_
      exact go _ _ (fun h => absurd h hsm) (fun _ => ⟨rfl, rfl⟩)
  -- the first part
  have rest : ∀ (s d : ByteArray) (e f : Int), (0 < X → s = lb [] ∧ d = lb [] ∧ e = 30 ∧ f = 30) → (X ≤ 0 → e = 0 ∧ f = 0) →
      Ev (fun k => (newswirelaw03_pick.f m 200).bind fun t292 => ((newswirelaw03_pick.f n 200).bind fun t293 => ((newswirelaw03_nines.f k t292).bind fun t294 => ((integer_Add.f t294 (⟨#[49]⟩ : ByteArray)).bind fun bt295 => (if t292 = 0 then ((integer_Add.f (⟨#[48]⟩ : ByteArray) (⟨#[49]⟩ : ByteArray)).bind fun bt297 => (newswirelaw03_IntegerLimits.j0 k t292 t293 true (S X) (lb (List.replicate 200 57)) s e d f bt297.1 bt297.2)) else (newswirelaw03_IntegerLimits.j0 k t292 t293 true (S X) (lb (List.replicate 200 57)) s e d f bt295.1 bt295.2)))))) true := by
    intro s d e f h1 h2
    refine ev_some eM (ev_some eN (Ev.bind (nines_ev M (by omega)) ?_))
    by_cases hM0 : M = 0
    · subst hM0
      have h : integer_Add.f (lb (List.replicate 0 57)) (⟨#[49]⟩ : ByteArray) = some (lb [], 30) := by
        unfold integer_Add.f
        rw [if_pos ⟨by decide, by decide⟩]
        have : addS (bl (lb (List.replicate 0 57))) (bl ⟨#[49]⟩) = ([], errInteger) := by
          unfold addS
          rw [show valid (bl (lb (List.replicate 0 57))) = false by decide]; rfl
        rw [this]; rfl
      refine ev_some h (ev_pos rfl ?_)
      rw [l0, l1]
      exact ev_some (add_S (by decide) (by decide) (by decide)) (j0 s d e f h1 h2)
    · rw [nines_S (by omega) (by omega), l1]
      refine ev_some (add_S (by omega) (by decide) (by rw [Int.sub_add_cancel]; exact fM)) (ev_neg (by omega) ?_)
      rw [Int.sub_add_cancel]
      exact j0 s d e f h1 h2
  have hsz : (lb (List.replicate 200 57)).size = 200 := by rw [lb_size, List.length_replicate]
  have hminus : (⟨#[45]⟩ : ByteArray) ++ lb (List.replicate 200 57) = S (-(10 ^ 200 - 1)) := by
    rw [show (⟨#[45]⟩ : ByteArray) = lb [45] from rfl, lb_append, List.singleton_append, minus_nines_S (by omega) (by omega)]
  by_cases hx : 0 < X
  · have h1 : integer_Add.f (lb (List.replicate 200 57)) (S X) = some (lb [], 30) := by
      rw [nines_S (by omega) (by omega)]; exact add_big f200 fX (by omega)
    have h2 : integer_Sub.f (S (-(10 ^ 200 - 1))) (S X) = some (lb [], 30) := sub_big f200' fX (by omega)
    refine ev_some h1 (ev_pos (by rw [hsz]; omega) ?_)
    rw [hminus]
    exact ev_some h2 (rest _ _ _ _ (fun _ => ⟨rfl, rfl, rfl, rfl⟩) (fun h => absurd hx (by omega)))
  · have h1 : integer_Add.f (lb (List.replicate 200 57)) (S X) = some (S (10 ^ 200 - 1 + X), 0) := by
      rw [nines_S (by omega) (by omega)]; exact add_S f200 fX (by omega)
    have h2 : integer_Sub.f (S (-(10 ^ 200 - 1))) (S X) = some (S (-(10 ^ 200 - 1) - X), 0) := sub_S f200' fX (by omega)
    refine ev_some h1 (ev_pos (by rw [hsz]; omega) ?_)
    rw [hminus]
    exact ev_some h2 (rest _ _ _ _ (fun h => absurd h hx) (fun _ => ⟨rfl, rfl⟩))
end Go.Proofs.YthbiafjdilbbnaaGreatDoor.Pure
namespace Go.Proofs.YthbiafjdilbbnaaGreatDoor.integerLimits
open Go.RowKit
theorem walk (a0 : ByteArray) (w0 : a0.size ≤ 140737488351232) (a1 : Int) (w1 : (Lit.int .i64 a1).wf = true) (a2 : Int) (w2 : (Lit.int .i64 a2).wf = true) (w : World) (hT : Laid w) :
    Calls Tryz.prog 8 #[.string a0, .int .i64 a1, .int .i64 a2] w fun e w' => e = .returned (.bool true) ∧ Below w.heap.size w w' :=
  PI.newswirelaw03_IntegerLimits.walk Pure.IntegerLimits a0 a1 a2 w w0 w1 w2 hT
end Go.Proofs.YthbiafjdilbbnaaGreatDoor.integerLimits
