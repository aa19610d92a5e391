/-
  RationalLimits: the plain law.
-/
import Derived.Test.YtfdjdmkpcdbmkaaGreatDoorDPZx5
import Derived.Test.YtfdjdmkpcdbmkaaGreatDoorDGR6
set_option linter.unusedVariables false
set_option linter.unusedSimpArgs false
namespace Go.Proofs.YtfdjdmkpcdbmkaaGreatDoor
open Go.RowKit Go.Lib Go.Proofs.YtfdjdmkpcdbmkaaGreatDoor.PZ Go.Proofs.YtfdjdmkpcdbmkaaGreatDoorW.PrintWords Go.Proofs.YtfdjdmkpcdbmkaaGreatDoorW.PrintLast

theorem wfR {a : Int} (h : (Lit.int .i64 a).wf = true) : -9223372036854775808 ≤ a ∧ a ≤ 9223372036854775807 := by simpa [Lit.wf, IntKind.min, IntKind.max, IntKind.signed, IntKind.bits] using h
theorem wrapR {x : Int} (h0 : -9223372036854775808 ≤ x) (h1 : x ≤ 9223372036854775807) : wrap64 x = x := by unfold wrap64; omega
/-- What 'pick' answers, in the laws' package. -/
def pickZ (c n : Int) : Int := if c < 0 then (-(c + 1)) % n else c % n
theorem pickZ_range {c n : Int} (hn : 0 < n) : 0 ≤ pickZ c n ∧ pickZ c n < n := by
  unfold pickZ
  split
  · exact ⟨Int.emod_nonneg _ (by omega), Int.emod_lt_of_pos _ hn⟩
  · exact ⟨Int.emod_nonneg _ (by omega), Int.emod_lt_of_pos _ hn⟩
theorem pickR {c n : Int} (h0 : -9223372036854775808 ≤ c) (h1 : c ≤ 9223372036854775807) (hn : 0 < n) : newswirelaw04_pick.f c n = some (pickZ c n) := by
  unfold newswirelaw04_pick.f pickZ
  by_cases h : c < 0
  · rw [if_pos h, if_neg (by omega), if_pos h, wrapR (x := c + 1) (by omega) (by omega), wrapR (by omega) (by omega), Int.tmod_eq_emod_of_nonneg (by omega)]
  · rw [if_neg h, if_neg (by omega), if_neg h, Int.tmod_eq_emod_of_nonneg (by omega)]
/-- A one with zeros behind it. -/
theorem tens_snoc (i : Nat) : lb (49 :: List.replicate i 48) ++ (⟨#[48]⟩ : ByteArray) = lb (49 :: List.replicate (i + 1) 48) := by
  have h : bl (lb (49 :: List.replicate i 48) ++ (⟨#[48]⟩ : ByteArray)) = bl (lb (49 :: List.replicate (i + 1) 48)) := by
    rw [bl_lb]
    unfold bl
    rw [ByteArray.data_append, Array.toList_append, show (lb (49 :: List.replicate i 48)).data.toList = 49 :: List.replicate i (48 : UInt8) from bl_lb _, List.replicate_succ']
    rfl
  rw [← lb_bl (lb (49 :: List.replicate i 48) ++ (⟨#[48]⟩ : ByteArray)), h, lb_bl]
theorem tens_S (n : Nat) : lb (49 :: List.replicate n 48) = S' (10 ^ n : Int) := by
  unfold S'
  have := str_ten (n : Int)
  unfold ten at this
  rw [Int.toNat_natCast] at this
  rw [this]
theorem tens_size (i : Nat) : (lb (49 :: List.replicate i 48)).size = i + 1 := by rw [lb_size]; simp
theorem lim0 (n : Nat) (hn : n < 200) (m : Int) (ok r : Bool) (h : Ev (fun k => newswirelaw04_RationalLimits.l1 k (n : Int) m ok (lb (49 :: List.replicate n 48)) (⟨#[49]⟩ : ByteArray) 0) r) (d : Nat) : ∀ i : Nat, i ≤ n → d = n - i →
    Ev (fun k => newswirelaw04_RationalLimits.l0 k (n : Int) m ok (lb (49 :: List.replicate i 48)) (i : Int)) r := by
  induction d with
  | zero =>
    intro i hi hd
    obtain rfl : i = n := by omega
    exact Ev.step (fun k => by simp only [newswirelaw04_RationalLimits.l0]; rfl) (ev_neg (by omega) h)
  | succ d ih =>
    intro i hi hd
    refine Ev.step (fun k => by simp only [newswirelaw04_RationalLimits.l0]; rfl) (ev_pos (by omega) (ev_pos (by rw [tens_size]; omega) ?_))
    rw [wrapR (by omega) (by omega), tens_snoc]
    exact ih (i + 1) (by omega) (by omega)
def limEnd (k : Nat) (n m : Int) (ok : Bool) (x y : ByteArray) : Option Bool := newswirelaw04_RationalLimits.l1 (k + 1) n m ok x y m
theorem lim1 (n : Int) (m : Nat) (hm : m < 200) (ok r : Bool) (x : ByteArray) (h : Ev (fun k => limEnd k n m ok x (lb (49 :: List.replicate m 48))) r) (d : Nat) : ∀ i : Nat, i ≤ m → d = m - i →
    Ev (fun k => newswirelaw04_RationalLimits.l1 k n (m : Int) ok x (lb (49 :: List.replicate i 48)) (i : Int)) r := by
  induction d with
  | zero =>
    intro i hi hd
    obtain rfl : i = m := by omega
    exact Ev.step (fun k => rfl) h
  | succ d ih =>
    intro i hi hd
    refine Ev.step (fun k => by simp only [newswirelaw04_RationalLimits.l1]; rfl) (ev_pos (by omega) (ev_pos (by rw [tens_size]; omega) ?_))
    rw [wrapR (by omega) (by omega), tens_snoc]
    exact ih (i + 1) (by omega) (by omega)
/-- Integers as rational numbers. -/
theorem rt_int (z : Int) : rt (z : Rat) = (str z, [49]) := by
  unfold rt; rw [Rat.num_intCast, Rat.den_intCast]; show (str z, str 1) = _; rw [str_one]
theorem okR_int {z : Int} (h : z.natAbs < lim) : okR (z : Rat) := ⟨by rw [Rat.num_intCast]; exact h, by rw [Rat.den_intCast]; decide +kernel⟩
theorem pow_nat (n : Nat) : ((10 : Int) ^ n).natAbs = 10 ^ n := by rw [Int.natAbs_pow]; rfl
theorem fits_pow (k : Nat) : fits ((10 : Int) ^ k) = decide (k < 200) := by
  unfold fits
  rw [pow_nat, decide_eq_decide]
  unfold lim
  exact Nat.pow_lt_pow_iff_right (by omega)
theorem fits_pow_succ (k : Nat) : fits ((10 : Int) ^ k + 1) = decide (k < 200) := by
  have e : ((10 : Int) ^ k + 1).natAbs = 10 ^ k + 1 := by
    have h := pow_nat k
    have h2 : 0 < (10 : Int) ^ k := Int.pow_pos (by omega)
    omega
  unfold fits
  rw [e, decide_eq_decide]
  unfold lim
  constructor
  · intro h
    exact (Nat.pow_lt_pow_iff_right (a := 10) (by omega)).1 (by omega)
  · intro h
    have h1 : 10 ^ k ≤ 10 ^ 199 := Nat.pow_le_pow_right (by omega) (by omega)
    have h2 : 10 ^ 199 + 1 < 10 ^ 200 := by decide +kernel
    omega
theorem inv_num {z : Int} (hz : 0 < z) : (1 / (z : Rat)).num = 1 ∧ ((1 / (z : Rat)).den : Int) = z := by
  have e : (1 : Rat) / (z : Rat) = Rat.divInt 1 z := by
    have := div_divInt 1 (z : Rat)
    rw [Rat.num_intCast, Rat.den_intCast] at this
    rw [← this]
    congr 1
    · show ((1 : Nat) : Int) * z = z; simp
  have h := red_rat (n := 1) (d := z) (by omega)
  have h2 : red 1 z = (1, z) := by
    unfold red
    rw [if_neg (by omega), Int.gcd_comm, Int.gcd_one]
    simp
  rw [h2] at h
  rw [e]
  exact ⟨(congrArg Prod.fst h).symm, (congrArg Prod.snd h).symm⟩
/-- What the given functions answer of fractions. -/
theorem fitB_rt {q : Rat} (h : okR q) : fitB (lb (rt q).1) (lb (rt q).2) := by
  have := fitT_rt h
  exact ⟨by rw [lb_size]; exact this.1, by rw [lb_size]; exact this.2⟩
theorem gMul {a b : Rat} (ha : okR a) (hb : okR b) : rational_Mul.f (lb (rt a).1) (lb (rt a).2) (lb (rt b).1) (lb (rt b).2) = some (lb (outQ (mulFit a b) (a * b)).1.1, lb (outQ (mulFit a b) (a * b)).1.2, (outQ (mulFit a b) (a * b)).2) := by
  unfold rational_Mul.f; rw [if_pos ⟨fitB_rt ha, fitB_rt hb⟩, bl_lb, bl_lb, bl_lb, bl_lb, mulQ_rt ha hb]
theorem gDiv {a b : Rat} (ha : okR a) (hb : okR b) : rational_Div.f (lb (rt a).1) (lb (rt a).2) (lb (rt b).1) (lb (rt b).2) = some (lb (outQ (divFit a b) (a / b)).1.1, lb (outQ (divFit a b) (a / b)).1.2, (outQ (divFit a b) (a / b)).2) := by
  unfold rational_Div.f; rw [if_pos ⟨fitB_rt ha, fitB_rt hb⟩, bl_lb, bl_lb, bl_lb, bl_lb, divQ_rt ha hb]
theorem gAdd {a b : Rat} (ha : okR a) (hb : okR b) : rational_Add.f (lb (rt a).1) (lb (rt a).2) (lb (rt b).1) (lb (rt b).2) = some (lb (outQ (addFit a b) (a + b)).1.1, lb (outQ (addFit a b) (a + b)).1.2, (outQ (addFit a b) (a + b)).2) := by
  unfold rational_Add.f; rw [if_pos ⟨fitB_rt ha, fitB_rt hb⟩, bl_lb, bl_lb, bl_lb, bl_lb, addQ_rt ha hb]
theorem gCmp {a b : Rat} (ha : okR a) (hb : okR b) : rational_Compare.f (lb (rt a).1) (lb (rt a).2) (lb (rt b).1) (lb (rt b).2) = some (cmpR a b) := by
  unfold rational_Compare.f; rw [if_pos ⟨fitB_rt ha, fitB_rt hb⟩, bl_lb, bl_lb, bl_lb, bl_lb, cmpQ_rt ha hb]
theorem tens_rt (n : Nat) : lb (49 :: List.replicate n 48) = lb (rt (((10 : Int) ^ n : Int) : Rat)).1 := by rw [tens_S, rt_int]; rfl
theorem one_rt (z : Int) : (⟨#[49]⟩ : ByteArray) = lb (rt (z : Rat)).2 := by rw [rt_int]; rfl
theorem pow_pos (n : Nat) : 0 < (10 : Int) ^ n := Int.pow_pos (by omega)
theorem okR_pow {n : Nat} (h : n < 200) : okR (((10 : Int) ^ n : Int) : Rat) := okR_int (by rw [pow_nat]; exact Nat.pow_lt_pow_right (by omega) h)
theorem okR_inv {n : Nat} (h : n < 200) : okR (1 / (((10 : Int) ^ n : Int) : Rat)) := by
  obtain ⟨h1, h2⟩ := inv_num (pow_pos n)
  refine ⟨by rw [h1]; decide +kernel, ?_⟩
  have h3 : (1 / (((10 : Int) ^ n : Int) : Rat)).den = 10 ^ n := by
    have := pow_nat n
    omega
  rw [h3]
  exact Nat.pow_lt_pow_right (by omega) h
theorem mulFit_pow (n m : Nat) : mulFit (((10 : Int) ^ n : Int) : Rat) (((10 : Int) ^ m : Int) : Rat) = decide (n + m < 200) := by
  unfold mulFit
  rw [Rat.num_intCast, Rat.num_intCast, Rat.den_intCast, Rat.den_intCast, ← Int.pow_add, fits_pow]
  rw [show fits (((1 : Nat) : Int) * ((1 : Nat) : Int)) = true by decide +kernel, Bool.and_true]
theorem divFit_pow {m : Nat} (hm : m < 200) : divFit 1 (((10 : Int) ^ m : Int) : Rat) = true := by
  unfold divFit
  rw [Rat.num_intCast, Rat.den_intCast]
  have h1 : fits ((1 : Rat).num * ((1 : Nat) : Int)) = true := by decide +kernel
  have h2 : fits ((((1 : Rat).den : Nat) : Int) * (10 : Int) ^ m) = true := by
    rw [show ((((1 : Rat).den : Nat) : Int)) = 1 from rfl, Int.one_mul, fits_pow]; simpa using hm
  have h3 : (((10 : Int) ^ m : Int) : Rat) ≠ 0 := by
    intro h
    have := congrArg Rat.num h
    rw [Rat.num_intCast] at this
    have hp := pow_pos m
    rw [this] at hp
    exact absurd hp (by decide)
  rw [h1, h2, decide_eq_true h3]; rfl
theorem addFit_pow (n m : Nat) (hn : n < 200) (hm : m < 200) : addFit (((10 : Int) ^ n : Int) : Rat) (1 / (((10 : Int) ^ m : Int) : Rat)) = decide (n + m < 200) := by
  obtain ⟨h1, h2⟩ := inv_num (pow_pos m)
  unfold addFit
  rw [h1, h2, Rat.num_intCast, Rat.den_intCast, ← Int.pow_add, fits_pow]
  rw [show ((1 : Int) * ((1 : Nat) : Int)) = 1 from rfl, show fits (1 : Int) = true by decide +kernel, fits_pow_succ, show (((1 : Nat) : Int) * (10 : Int) ^ m) = 10 ^ m by simp, fits_pow]
  simp [hm]
theorem cmpR_pow (n m : Nat) : cmpR (((10 : Int) ^ n : Int) : Rat) (((10 : Int) ^ m : Int) : Rat) = if n < m then -1 else if m < n then 1 else 0 := by
  have lt : ∀ a b : Nat, (((10 : Int) ^ a : Int) : Rat) < (((10 : Int) ^ b : Int) : Rat) ↔ a < b := by
    intro a b
    rw [Rat.intCast_lt_intCast]
    have h := Nat.pow_lt_pow_iff_right (a := 10) (n := a) (m := b) (by omega)
    have e1 := pow_nat a
    have e2 := pow_nat b
    have p1 := pow_pos a
    have p2 := pow_pos b
    omega
  unfold cmpR
  simp only [lt]
theorem cmpR_inv (n m : Nat) : cmpR (((10 : Int) ^ n : Int) : Rat) (1 / (((10 : Int) ^ m : Int) : Rat)) = if n = 0 ∧ m = 0 then 0 else 1 := by
  have p1 : (1 : Rat) ≤ (((10 : Int) ^ n : Int) : Rat) := by
    have := pow_pos n
    have h : ((1 : Int) : Rat) ≤ (((10 : Int) ^ n : Int) : Rat) := Rat.intCast_le_intCast.2 (by omega)
    exact h
  have hm : ∀ k : Nat, k ≠ 0 → (1 : Rat) < (((10 : Int) ^ k : Int) : Rat) := by
    intro k hk
    have h1 : (1 : Int) < 10 ^ k := by
      have h2 := pow_nat k
      have h3 := pow_pos k
      have h4 : 10 ^ 0 < 10 ^ k := Nat.pow_lt_pow_right (by omega) (by omega)
      omega
    exact Rat.intCast_lt_intCast.2 h1
  have pm : (1 : Rat) ≤ (((10 : Int) ^ m : Int) : Rat) := by
    have := pow_pos m
    exact Rat.intCast_le_intCast.2 (show (1 : Int) ≤ 10 ^ m by omega)
  have inv : (1 / (((10 : Int) ^ m : Int) : Rat)) * (((10 : Int) ^ m : Int) : Rat) = 1 := by
    generalize (((10 : Int) ^ m : Int) : Rat) = b at *
    grind
  by_cases h : n = 0 ∧ m = 0
  · rw [if_pos h]
    obtain ⟨rfl, rfl⟩ := h
    exact cmpR_eq (by decide +kernel)
  · rw [if_neg h]
    apply cmpR_gt
    have hor : (1 : Rat) < (((10 : Int) ^ n : Int) : Rat) ∨ (1 : Rat) < (((10 : Int) ^ m : Int) : Rat) := by
      by_cases hn0 : n = 0
      · exact .inr (hm m (by omega))
      · exact .inl (hm n hn0)
    generalize (((10 : Int) ^ n : Int) : Rat) = a at *
    generalize (((10 : Int) ^ m : Int) : Rat) = b at *
    have hb : 0 < b := by grind
    rw [Rat.div_lt_iff hb]
    rcases hor with h1 | h1
    · have := Rat.mul_lt_mul_of_pos_right h1 hb
      grind
    · have := Rat.mul_lt_mul_of_pos_left h1 (show 0 < a by grind)
      grind
theorem gMulT {n m : Nat} (hn : n < 200) (hm : m < 200) (b : Bool) (hb : decide (n + m < 200) = b) : ∃ x y : ByteArray, (b = false → x = ⟨#[]⟩ ∧ y = ⟨#[]⟩) ∧
    rational_Mul.f (lb (49 :: List.replicate n 48)) (⟨#[49]⟩ : ByteArray) (lb (49 :: List.replicate m 48)) (⟨#[49]⟩ : ByteArray) = some (x, y, if b then 0 else 40) := by
  have h := gMul (okR_pow hn) (okR_pow hm)
  rw [← tens_rt, ← tens_rt, ← one_rt, ← one_rt, mulFit_pow, hb] at h
  cases b
  · exact ⟨_, _, fun _ => ⟨rfl, rfl⟩, h⟩
  · exact ⟨_, _, (fun h => by cases h), h⟩
theorem gDivT {m : Nat} (hm : m < 200) : rational_Div.f (⟨#[49]⟩ : ByteArray) (⟨#[49]⟩ : ByteArray) (lb (49 :: List.replicate m 48)) (⟨#[49]⟩ : ByteArray) = some (lb (rt (1 / (((10 : Int) ^ m : Int) : Rat))).1, lb (rt (1 / (((10 : Int) ^ m : Int) : Rat))).2, 0) := by
  have h := gDiv ok_one (okR_pow hm)
  rw [← tens_rt, ← one_rt, divFit_pow hm, rt_one] at h
  exact h
theorem gAddT {n m : Nat} (hn : n < 200) (hm : m < 200) (b : Bool) (hb : decide (n + m < 200) = b) : ∃ x y : ByteArray,
    rational_Add.f (lb (49 :: List.replicate n 48)) (⟨#[49]⟩ : ByteArray) (lb (rt (1 / (((10 : Int) ^ m : Int) : Rat))).1) (lb (rt (1 / (((10 : Int) ^ m : Int) : Rat))).2) = some (x, y, if b then 0 else 40) := by
  have h := gAdd (okR_pow hn) (okR_inv hm)
  rw [← tens_rt, ← one_rt, addFit_pow n m hn hm, hb] at h
  cases b
  · exact ⟨_, _, h⟩
  · exact ⟨_, _, h⟩
theorem gCmpT {n m : Nat} (hn : n < 200) (hm : m < 200) : rational_Compare.f (lb (49 :: List.replicate n 48)) (⟨#[49]⟩ : ByteArray) (lb (49 :: List.replicate m 48)) (⟨#[49]⟩ : ByteArray) = some (if n < m then -1 else if m < n then 1 else 0) := by
  have h := gCmp (okR_pow hn) (okR_pow hm)
  rw [← tens_rt, ← tens_rt, ← one_rt, ← one_rt, cmpR_pow] at h
  exact h
theorem gCmpI {n m : Nat} (hn : n < 200) (hm : m < 200) : rational_Compare.f (lb (49 :: List.replicate n 48)) (⟨#[49]⟩ : ByteArray) (lb (rt (1 / (((10 : Int) ^ m : Int) : Rat))).1) (lb (rt (1 / (((10 : Int) ^ m : Int) : Rat))).2) = some (if n = 0 ∧ m = 0 then 0 else 1) := by
  have h := gCmp (okR_pow hn) (okR_inv hm)
  rw [← tens_rt, ← one_rt, cmpR_inv] at h
  exact h
theorem lim4 (n m : Nat) (hn : n < 200) (hm : m < 200) : Ev (fun k => newswirelaw04_RationalLimits.j2 k (n : Int) (m : Int) true false (lb (49 :: List.replicate n 48)) (⟨#[49]⟩ : ByteArray) (lb (49 :: List.replicate m 48)) (⟨#[49]⟩ : ByteArray) (lb (rt (1 / (((10 : Int) ^ m : Int) : Rat))).1) (lb (rt (1 / (((10 : Int) ^ m : Int) : Rat))).2)) true := by
  have fin : ∀ want : Int, want = (if n < m then -1 else if m < n then 1 else 0) →
      Ev (fun k => newswirelaw04_RationalLimits.j3 k (n : Int) (m : Int) true want (lb (49 :: List.replicate n 48)) (⟨#[49]⟩ : ByteArray) (lb (49 :: List.replicate m 48)) (⟨#[49]⟩ : ByteArray) (lb (rt (1 / (((10 : Int) ^ m : Int) : Rat))).1) (lb (rt (1 / (((10 : Int) ^ m : Int) : Rat))).2)) true := by
    rintro want rfl
    have c1 := gCmpT hn hm
    have c2 := gCmpI hn hm
    refine Ev.step (fun k => by simp only [newswirelaw04_RationalLimits.j3]; rfl) ?_
    by_cases h0 : n = 0
    · by_cases h1 : m = 0
      · rw [if_pos ⟨h0, h1⟩] at c2
        refine ev_pos (by omega) ?_
        rw [show ((m : Int) == 0) = true by simp [h1]]
        refine Ev.step (fun k => by simp only [newswirelaw04_RationalLimits.j4]; rfl) (ev_pos (by simp) ?_)
        refine ev_pos (by simp) ?_
        refine ev_some c1 ?_
        refine ev_pos (by simp) ?_
        refine ev_some c2 ?_
        exact ev_now rfl
      · rw [if_neg (fun h => h1 h.2)] at c2
        refine ev_pos (by omega) ?_
        rw [show ((m : Int) == 0) = false by simp [h1]]
        refine Ev.step (fun k => by simp only [newswirelaw04_RationalLimits.j4]; rfl) (ev_neg (by simp) ?_)
        refine ev_pos (by simp) ?_
        refine ev_some c1 ?_
        refine ev_pos (by simp) ?_
        refine ev_some c2 ?_
        exact ev_now rfl
    · rw [if_neg (fun h => h0 h.1)] at c2
      refine ev_neg (by omega) ?_
      refine Ev.step (fun k => by simp only [newswirelaw04_RationalLimits.j4]; rfl) (ev_neg (by simp) ?_)
      refine ev_pos (by simp) ?_
      refine ev_some c1 ?_
      refine ev_pos (by simp) ?_
      refine ev_some c2 ?_
      exact ev_now rfl
  refine Ev.step (fun k => by simp only [newswirelaw04_RationalLimits.j2]; rfl) (ev_neg (by simp) ?_)
  by_cases h1 : n < m
  · exact ev_pos (by omega) (fin _ (by rw [if_pos h1]))
  · refine ev_neg (by omega) ?_
    by_cases h2 : m < n
    · exact ev_pos (by omega) (fin _ (by rw [if_neg h1, if_pos h2]))
    · exact ev_neg (by omega) (fin _ (by rw [if_neg h1, if_neg h2]))
theorem limits_ev {a0 a1 : Int} (w0 : (Lit.int .i64 a0).wf = true) (w1 : (Lit.int .i64 a1).wf = true) : Ev (fun k => newswirelaw04_RationalLimits.f k a0 a1) true := by
  have p0 := pickR (wfR w0).1 (wfR w0).2 (n := 200) (by omega)
  have p1 := pickR (wfR w1).1 (wfR w1).2 (n := 200) (by omega)
  have r0 := pickZ_range (c := a0) (n := 200) (by omega)
  have r1 := pickZ_range (c := a1) (n := 200) (by omega)
  obtain ⟨n, hn⟩ := Int.eq_ofNat_of_zero_le r0.1
  obtain ⟨m, hm⟩ := Int.eq_ofNat_of_zero_le r1.1
  rw [hn] at p0 r0
  rw [hm] at p1 r1
  have hn2 : n < 200 := by omega
  have hm2 : m < 200 := by omega
  refine Ev.congr (fun k => by unfold newswirelaw04_RationalLimits.f; rfl) (Ev.bind saneR_ev (ev_some p0 (ev_some p1 ?_)))
  refine lim0 n hn2 m true true ?_ n 0 (by omega) (by omega)
  refine lim1 n m hm2 true true _ ?_ m 0 (by omega) (by omega)
  obtain ⟨x, y, hxy, gm⟩ := gMulT hn2 hm2 _ rfl
  obtain ⟨u, v, ga⟩ := gAddT hn2 hm2 _ rfl
  have gd := gDivT hm2
  have hw : decide ((wrap64 ((wrap64 ((n : Int) + (m : Int))) + 1)) ≤ 200) = decide (n + m < 200) := by
    rw [wrapR (x := (n : Int) + (m : Int)) (by omega) (by omega), wrapR (by omega) (by omega), decide_eq_decide]; omega
  refine Ev.congr (fun k => by unfold limEnd; simp only [newswirelaw04_RationalLimits.l1]; rfl) ?_
  refine ev_neg (by omega) ?_
  refine ev_some (isR _ _) ?_
  refine ev_some (isR _ _) ?_
  refine ev_some gm ?_
  refine ev_some (isR _ _) ?_
  refine ev_some gd ?_
  refine ev_some ga ?_
  refine ev_some rfl ?_
  rw [hw]
  cases hb : decide (n + m < 200) with
  | true =>
    rw [hb] at gm ga
    refine ev_neg (by simp) ?_
    refine ev_pos (by simp) ?_
    refine ev_pos (by simp) ?_
    exact lim4 n m hn2 hm2
  | false =>
    rw [hb] at gm ga hxy
    obtain ⟨rfl, rfl⟩ := hxy rfl
    refine ev_neg (by simp) ?_
    refine ev_neg (by simp) ?_
    refine ev_pos (by simp) ?_
    refine ev_neg (by simp [ByteArray.toList_eq]) ?_
    refine ev_pos (by simp) ?_
    exact lim4 n m hn2 hm2
namespace rationalLimits
theorem walk (a0 : Int) (w0 : (Lit.int .i64 a0).wf = true) (a1 : Int) (w1 : (Lit.int .i64 a1).wf = true) (w : World) (hT : Laid w) :
    Calls Tryz.prog 5 #[.int .i64 a0, .int .i64 a1] w fun e w' => e = .returned (.bool true) ∧ Below w.heap.size w w' :=
  newswirelaw04_RationalLimits.walk (fun a0 a1 h0 h1 => (limits_ev h0 h1).rounds) a0 a1 w w0 w1 hT
end rationalLimits
end Go.Proofs.YtfdjdmkpcdbmkaaGreatDoor
