/-
  Plain arithmetic behind package integer: numbers kept in groups of four decimal digits, the lowest group first. No program in this text.
-/
import Derived.Lib.ItoaNum
import Derived.Lib.Atoi
import Derived.Lib.AtoiTie
import Derived.Lib.SlTrimSet
import Derived.Lib.AtoiAll
import Derived.WalkKit
import Derived.OwnWalk
import Derived.Deep.QuietTactic
import Derived.BigQuiet
import Derived.Lib.Hide
set_option linter.unusedVariables false
set_option linter.unusedSimpArgs false
namespace Go.Proofs.YtfdjdmkpcdbmkaaGreatDoor

/-! ### Values of groups -/
def val : List Int → Int
  | [] => 0
  | x :: xs => x + 10000 * val xs
def Dig (l : List Int) : Prop := ∀ x ∈ l, 0 ≤ x ∧ x < 10000
def groups (n : Nat) : List Int := if h : n = 0 then [] else ((n % 10000 : Nat) : Int) :: groups (n / 10000)
termination_by n
decreasing_by omega

theorem groups_zero : groups 0 = [] := by rw [groups, dif_pos rfl]
theorem groups_pos {n : Nat} (h : n ≠ 0) : groups n = ((n % 10000 : Nat) : Int) :: groups (n / 10000) := by rw [groups, dif_neg h]
theorem groups_small {n : Nat} (h : n ≠ 0) (h2 : n < 10000) : groups n = [(n : Int)] := by
  rw [groups_pos h, Nat.mod_eq_of_lt h2, Nat.div_eq_of_lt h2, groups_zero]
theorem groups_eq_nil {n : Nat} : groups n = [] ↔ n = 0 := by
  constructor
  · intro h
    by_cases hn : n = 0
    · exact hn
    · rw [groups_pos hn] at h; cases h
  · rintro rfl; exact groups_zero
theorem val_groups (n : Nat) : val (groups n) = n := by
  induction n using Nat.strongRecOn with
  | _ n ih =>
    by_cases h : n = 0
    · subst h; rw [groups_zero]; rfl
    · rw [groups_pos h, val, ih (n / 10000) (by omega)]; omega
theorem dig_groups (n : Nat) : Dig (groups n) := by
  induction n using Nat.strongRecOn with
  | _ n ih =>
    by_cases h : n = 0
    · subst h; rw [groups_zero]; intro x hx; cases hx
    · rw [groups_pos h]
      intro x hx
      rcases List.mem_cons.1 hx with rfl | hx
      · omega
      · exact ih (n / 10000) (by omega) x hx
theorem dig_nil : Dig [] := fun x hx => by cases hx
theorem dig_cons {x : Int} {l : List Int} : Dig (x :: l) ↔ (0 ≤ x ∧ x < 10000) ∧ Dig l := by
  unfold Dig; simp
theorem dig_append {a b : List Int} : Dig (a ++ b) ↔ Dig a ∧ Dig b := by
  unfold Dig; simp only [List.mem_append]; exact ⟨fun h => ⟨fun x hx => h x (.inl hx), fun x hx => h x (.inr hx)⟩, fun h x hx => hx.elim (h.1 x) (h.2 x)⟩
theorem val_nonneg {l : List Int} (h : Dig l) : 0 ≤ val l := by
  induction l with
  | nil => exact Int.le_refl 0
  | cons x l ih =>
    have := dig_cons.1 h
    have := ih this.2
    rw [val]; omega
theorem val_append (a b : List Int) : val (a ++ b) = val a + 10000 ^ a.length * val b := by
  induction a with
  | nil => simp [val]
  | cons x a ih =>
    rw [List.cons_append, val, val, ih, List.length_cons, Int.pow_succ, Int.mul_add, Int.add_assoc]
    congr 2
    rw [Int.mul_comm (10000 ^ a.length) 10000, Int.mul_assoc]
theorem val_snoc (a : List Int) (x : Int) : val (a ++ [x]) = val a + 10000 ^ a.length * x := by rw [val_append]; simp [val]
theorem val_lt {l : List Int} (h : Dig l) : val l < 10000 ^ l.length := by
  induction l with
  | nil => simp [val]
  | cons x l ih =>
    have := dig_cons.1 h
    have := ih this.2
    rw [val, List.length_cons, Int.pow_succ]; omega
theorem val_zeros (k : Nat) : val (List.replicate k 0) = 0 := by
  induction k with
  | zero => rfl
  | succ k ih => rw [List.replicate_succ, val, ih]; rfl
/-- Two rows of digits of one length and one value are one. -/
theorem val_inj : ∀ {a b : List Int}, Dig a → Dig b → a.length = b.length → val a = val b → a = b
  | [], [], _, _, _, _ => rfl
  | [], _ :: _, _, _, h, _ => by simp at h
  | _ :: _, [], _, _, h, _ => by simp at h
  | x :: a, y :: b, ha, hb, hl, hv => by
    have ha := dig_cons.1 ha
    have hb := dig_cons.1 hb
    rw [val, val] at hv
    have hx : x = y := by omega
    have hv' : val a = val b := by omega
    rw [hx, val_inj ha.2 hb.2 (by simpa using hl) hv']
theorem groups_length_le {n k : Nat} (h : n < 10000 ^ k) : (groups n).length ≤ k := by
  induction k generalizing n with
  | zero =>
    have : n = 0 := by simpa using h
    subst this; rw [groups_zero]; exact Nat.le_refl _
  | succ k ih =>
    by_cases h0 : n = 0
    · subst h0; rw [groups_zero]; exact Nat.zero_le _
    · rw [groups_pos h0, List.length_cons]
      rw [Nat.pow_succ] at h
      have := ih (n := n / 10000) (by omega)
      omega
theorem lt_groups_length (n : Nat) : n < 10000 ^ (groups n).length := by
  have h := val_lt (dig_groups n)
  rw [val_groups] at h
  have e : ((10000 ^ (groups n).length : Nat) : Int) = 10000 ^ (groups n).length := Int.natCast_pow 10000 _
  omega
theorem groups_length_ge {n : Nat} (h : n ≠ 0) : 10000 ^ ((groups n).length - 1) ≤ n := by
  induction n using Nat.strongRecOn with
  | _ n ih =>
    rw [groups_pos h, List.length_cons, Nat.add_sub_cancel]
    by_cases h2 : n / 10000 = 0
    · rw [h2, groups_zero]; simp; omega
    · have := ih (n / 10000) (by omega) h2
      obtain ⟨k, hk⟩ : ∃ k, (groups (n / 10000)).length = k + 1 := by
        cases hg : groups (n / 10000) with
        | nil => exact absurd (groups_eq_nil.1 hg) h2
        | cons a b => exact ⟨b.length, rfl⟩
      rw [hk] at this ⊢
      rw [Nat.pow_succ]
      simp at this
      omega
theorem groups_length_mono {a b : Nat} (h : a ≤ b) : (groups a).length ≤ (groups b).length := groups_length_le (Nat.lt_of_le_of_lt h (lt_groups_length b))

/-! ### Leaving out zeros at the end -/
def trim : List Int → List Int
  | [] => []
  | x :: xs => if x = 0 ∧ trim xs = [] then [] else x :: trim xs
theorem val_trim (l : List Int) : val (trim l) = val l := by
  induction l with
  | nil => rfl
  | cons x l ih =>
    unfold trim
    split
    · rename_i h
      have hv : val l = 0 := by rw [← ih, h.2]; rfl
      show val [] = _
      rw [val.eq_2, hv, h.1]; rfl
    · rw [val, val, ih]
theorem trim_groups {l : List Int} (h : Dig l) : trim l = groups (val l).toNat := by
  induction l with
  | nil => rw [trim, val]; exact groups_zero.symm
  | cons x l ih =>
    have hd := dig_cons.1 h
    have hn := val_nonneg hd.2
    have ih := ih hd.2
    unfold trim
    split
    · rename_i h2
      have hv : val l = 0 := by rw [← val_trim, h2.2]; rfl
      rw [val, h2.1, hv]; exact groups_zero.symm
    · rename_i h2
      have hne : (val (x :: l)).toNat ≠ 0 := by
        intro e
        rw [val] at e
        have hv : val l = 0 := by omega
        apply h2
        refine ⟨by omega, ?_⟩
        rw [ih, hv]; exact groups_zero
      rw [groups_pos hne, ih]
      rw [val]
      congr 1
      · omega
      · congr 1; omega
theorem trim_snoc_zero (l : List Int) : trim (l ++ [0]) = trim l := by
  induction l with
  | nil => simp [trim]
  | cons x l ih => rw [List.cons_append, trim, trim, ih]
theorem trim_snoc {l : List Int} {x : Int} (h : x ≠ 0) : trim (l ++ [x]) = l ++ [x] := by
  induction l with
  | nil => simp [trim, h]
  | cons y l ih =>
    rw [List.cons_append, trim, ih, if_neg]
    intro h2
    simp at h2
theorem groups_last {n : Nat} (h : n ≠ 0) : ∃ a x, groups n = a ++ [x] ∧ 0 < x ∧ x < 10000 := by
  induction n using Nat.strongRecOn with
  | _ n ih =>
    rw [groups_pos h]
    by_cases h2 : n / 10000 = 0
    · exact ⟨[], ((n % 10000 : Nat) : Int), by rw [h2, groups_zero]; rfl, by omega, by omega⟩
    · obtain ⟨a, x, e, h3, h4⟩ := ih (n / 10000) (by omega) h2
      exact ⟨((n % 10000 : Nat) : Int) :: a, x, by rw [e]; rfl, h3, h4⟩
theorem groups_shift {n : Nat} (d : Nat) (hd : d < 10000) (h : n * 10000 + d ≠ 0) : groups (n * 10000 + d) = (d : Int) :: groups n := by
  rw [groups_pos h]
  congr 1
  · omega
  · congr 1; omega
end Go.Proofs.YtfdjdmkpcdbmkaaGreatDoor

/-
  Plain facts on decimal texts: a numeral cut into groups of four digits; which strings are integers. No program in this text.
-/
namespace Go.Proofs.YtfdjdmkpcdbmkaaGreatDoor
open Go.Lib

def pad4 (x : Nat) : List UInt8 := List.replicate (4 - (decDigits x).length) 48 ++ decDigits x

theorem dec_small {u : Nat} (h : u < 10) : decDigits u = [UInt8.ofNat (48 + u)] := by rw [decDigits, dif_pos h]
theorem dec_big {u : Nat} (h : ¬ u < 10) : decDigits u = decDigits (u / 10) ++ [UInt8.ofNat (48 + u % 10)] := by rw [decDigits, dif_neg h]
theorem dec_ne_nil (u : Nat) : decDigits u ≠ [] := by
  by_cases h : u < 10
  · rw [dec_small h]; simp
  · rw [dec_big h]; simp
theorem dec_length_pos (u : Nat) : 1 ≤ (decDigits u).length := by rw [decDigits_length]; exact nDigits_pos u

/-- A number of at most four digits, written with four. -/
def four (x : Nat) : List UInt8 := [UInt8.ofNat (48 + x / 1000), UInt8.ofNat (48 + x / 100 % 10), UInt8.ofNat (48 + x / 10 % 10), UInt8.ofNat (48 + x % 10)]
theorem pad4_eq {x : Nat} (h : x < 10000) : pad4 x = four x := by
  unfold pad4 four
  by_cases h1 : x < 10
  · rw [dec_small h1, Nat.div_eq_of_lt (by omega : x < 1000), Nat.div_eq_of_lt (by omega : x < 100), Nat.div_eq_of_lt h1, Nat.mod_eq_of_lt h1]; rfl
  · by_cases h2 : x < 100
    · rw [dec_big h1, dec_small (by omega : x / 10 < 10), Nat.div_eq_of_lt (by omega : x < 1000), Nat.div_eq_of_lt h2, Nat.mod_eq_of_lt (by omega : x / 10 < 10)]; rfl
    · by_cases h3 : x < 1000
      · rw [dec_big h1, dec_big (by omega : ¬ x / 10 < 10), dec_small (by omega : x / 10 / 10 < 10), Nat.div_eq_of_lt h3, show x / 10 / 10 = x / 100 by omega, Nat.mod_eq_of_lt (by omega : x / 100 < 10)]; rfl
      · rw [dec_big h1, dec_big (by omega : ¬ x / 10 < 10), dec_big (by omega : ¬ x / 10 / 10 < 10), dec_small (by omega : x / 10 / 10 / 10 < 10), show x / 10 / 10 / 10 = x / 1000 by omega, show x / 10 / 10 = x / 100 by omega]; rfl
theorem pad4_length {x : Nat} (h : x < 10000) : (pad4 x).length = 4 := by rw [pad4_eq h]; rfl
theorem dec_groups {u : Nat} (h : 10000 ≤ u) : decDigits u = decDigits (u / 10000) ++ pad4 (u % 10000) := by
  rw [pad4_eq (by omega), dec_big (by omega : ¬ u < 10), dec_big (by omega : ¬ u / 10 < 10), dec_big (by omega : ¬ u / 10 / 10 < 10), dec_big (by omega : ¬ u / 10 / 10 / 10 < 10), four]
  rw [show u / 10 / 10 / 10 / 10 = u / 10000 by omega, show u % 10000 / 1000 = u / 10 / 10 / 10 % 10 by omega, show u % 10000 / 100 % 10 = u / 10 / 10 % 10 by omega, show u % 10000 / 10 % 10 = u / 10 % 10 by omega, show u % 10000 % 10 = u % 10 by omega]
  simp
theorem dec_length_le {u k : Nat} (hk : 1 ≤ k) (h : u < 10 ^ k) : (decDigits u).length ≤ k := by
  induction k generalizing u with
  | zero => omega
  | succ k ih =>
    by_cases h1 : u < 10
    · rw [dec_small h1]; simp
    · have hk1 : 1 ≤ k := by
        cases k with
        | zero => rw [Nat.pow_one] at h; omega
        | succ k => omega
      rw [dec_big h1, List.length_append]
      rw [Nat.pow_succ] at h
      have := ih hk1 (u := u / 10) (by omega)
      simp; omega
theorem lt_dec_length (u : Nat) : u < 10 ^ (decDigits u).length := by rw [decDigits_length]; exact lt_pow_nDigits u
theorem dec_length_le_iff {u k : Nat} (hk : 1 ≤ k) : (decDigits u).length ≤ k ↔ u < 10 ^ k :=
  ⟨fun h => Nat.lt_of_lt_of_le (lt_dec_length u) (Nat.pow_le_pow_right (by omega) h), dec_length_le hk⟩

/-! ### Digits -/
def isDig (b : UInt8) : Bool := 48 ≤ b.toNat && b.toNat ≤ 57
theorem dig_ofNat {d : Nat} (h : d < 10) : (UInt8.ofNat (48 + d)).toNat = 48 + d := by
  rw [UInt8.toNat_ofNat']; exact Nat.mod_eq_of_lt (by omega)
theorem dec_isDig (u : Nat) : ∀ b ∈ decDigits u, isDig b = true := by
  induction u using Nat.strongRecOn with
  | _ u ih =>
    by_cases h : u < 10
    · rw [dec_small h]
      intro b hb
      simp only [List.mem_singleton] at hb
      subst hb
      unfold isDig; rw [dig_ofNat h]; simp; omega
    · rw [dec_big h]
      intro b hb
      rcases List.mem_append.1 hb with hb | hb
      · exact ih (u / 10) (by omega) b hb
      · simp only [List.mem_singleton] at hb
        subst hb
        unfold isDig; rw [dig_ofNat (by omega : u % 10 < 10)]; simp; omega
/-- The number that digits spell. -/
def num (l : List UInt8) : Nat := l.foldl (fun n b => n * 10 + (b.toNat - 48)) 0
theorem num_snoc (l : List UInt8) (b : UInt8) : num (l ++ [b]) = num l * 10 + (b.toNat - 48) := by unfold num; simp
theorem num_dec (u : Nat) : num (decDigits u) = u := by
  induction u using Nat.strongRecOn with
  | _ u ih =>
    by_cases h : u < 10
    · rw [dec_small h]; show 0 * 10 + _ = u; rw [dig_ofNat h]; omega
    · rw [dec_big h, num_snoc, ih (u / 10) (by omega), dig_ofNat (by omega : u % 10 < 10)]; omega
theorem dec_inj {u v : Nat} (h : decDigits u = decDigits v) : u = v := by rw [← num_dec u, h, num_dec]
/-- Digits of which the first is not 0 are the numeral of what they spell. -/
theorem dec_num (l : List UInt8) (hne : l ≠ []) (hd : ∀ b ∈ l, isDig b = true) (h0 : l = [48] ∨ l.head? ≠ some 48) : decDigits (num l) = l := by
  induction hl : l.length using Nat.strongRecOn generalizing l with
  | _ k ih =>
    obtain ⟨a, b, rfl⟩ : ∃ a b, l = a ++ [b] := ⟨l.dropLast, l.getLast hne, (List.dropLast_concat_getLast hne).symm⟩
    have hb : isDig b = true := hd b (by simp)
    have hb' : 48 ≤ b.toNat ∧ b.toNat ≤ 57 := by unfold isDig at hb; simpa using hb
    have eb : UInt8.ofNat (48 + (b.toNat - 48)) = b := by rw [show 48 + (b.toNat - 48) = b.toNat by omega]; exact UInt8.ofNat_toNat
    rw [num_snoc]
    by_cases ha : a = []
    · subst ha
      show decDigits (0 * 10 + _) = _
      rw [dec_small (by omega), Nat.zero_mul, Nat.zero_add, eb]; rfl
    · have hh : (a ++ [b]).head? = a.head? := by cases a with
        | nil => exact absurd rfl ha
        | cons x a => rfl
      have h0' : a.head? ≠ some 48 := by
        rcases h0 with h0 | h0
        · exfalso
          have : (a ++ [b]).length = 1 := by rw [h0]; rfl
          simp at this; exact ha this
        · rw [← hh]; exact h0
      have e := ih a.length (by simp at hl; omega) a ha (fun x hx => hd x (by simp [hx])) (.inr h0') rfl
      have hpos : 1 ≤ num a := by
        rcases Nat.eq_zero_or_pos (num a) with h | h
        · rw [h] at e
          have e0 : decDigits 0 = [48] := by rw [dec_small (by omega)]; rfl
          rw [e0] at e; rw [← e] at h0'; exact absurd rfl h0'
        · exact h
      rw [dec_big (by omega), show (num a * 10 + (b.toNat - 48)) / 10 = num a by omega, show (num a * 10 + (b.toNat - 48)) % 10 = b.toNat - 48 by omega, e, eb]

/-! ### Integers as texts -/
def lim : Nat := 10 ^ 200
/-- The one text of a number. -/
def str (z : Int) : List UInt8 := if z < 0 then 45 :: decDigits z.natAbs else decDigits z.natAbs
theorem str_itoa (z : Int) : itoa z = str z := by
  unfold itoa str
  split
  · rfl
  · congr 1; omega
theorem dec_no_minus (u : Nat) : ∀ b ∈ decDigits u, b ≠ 45 := by
  intro b hb e
  subst e
  have := dec_isDig u 45 hb
  exact absurd this (by decide)
theorem str_inj {a b : Int} (h : str a = str b) : a = b := by
  unfold str at h
  split at h <;> split at h
  · have := dec_inj (List.cons.inj h).2; omega
  · exact absurd rfl (dec_no_minus b.natAbs 45 (by rw [← h]; simp))
  · exact absurd rfl (dec_no_minus a.natAbs 45 (by rw [h]; simp))
  · have := dec_inj h; omega
theorem str_ne_nil (z : Int) : str z ≠ [] := by
  unfold str
  split
  · simp
  · exact dec_ne_nil _
/-- What is left behind a sign. -/
def digs (s : List UInt8) : List UInt8 := if s.head? = some 45 then s.tail else s
def valid (s : List UInt8) : Bool :=
  let d := digs s
  !(d.isEmpty) && decide (d.length ≤ 200) && d.all isDig && (decide (s = [48]) || decide (d.head? ≠ some 48))
theorem digs_str (z : Int) : digs (str z) = decDigits z.natAbs := by
  unfold digs str
  split
  · rename_i h; split <;> simp_all
  · rename_i h; split
    · rename_i h2
      cases hd : decDigits z.natAbs with
      | nil => exact absurd hd (dec_ne_nil _)
      | cons x l =>
        rw [hd] at h2
        simp at h2
        exact absurd h2 (dec_no_minus z.natAbs x (by rw [hd]; simp))
    · rfl
theorem dec_head (u : Nat) (h : u ≠ 0) : (decDigits u).head? ≠ some 48 := by
  induction u using Nat.strongRecOn with
  | _ u ih =>
    by_cases h1 : u < 10
    · rw [dec_small h1]
      intro e
      simp only [List.head?_cons, Option.some.injEq] at e
      have := dig_ofNat h1
      rw [e] at this
      simp at this; omega
    · rw [dec_big h1]
      have := ih (u / 10) (by omega) (by omega)
      cases hd : decDigits (u / 10) with
      | nil => exact absurd hd (dec_ne_nil _)
      | cons x l => rw [hd] at this; simpa using this
theorem str_zero : str 0 = [48] := by
  show decDigits 0 = _
  rw [dec_small (by omega)]; rfl
theorem valid_str {z : Int} (h : z.natAbs < lim) : valid (str z) = true := by
  unfold valid
  simp only [digs_str]
  have h1 : (decDigits z.natAbs).isEmpty = false := by
    cases hd : decDigits z.natAbs with
    | nil => exact absurd hd (dec_ne_nil _)
    | cons => rfl
  have h2 : (decDigits z.natAbs).length ≤ 200 := dec_length_le (by omega) h
  have h3 : (decDigits z.natAbs).all isDig = true := List.all_eq_true.2 (dec_isDig _)
  have h4 : str z = [48] ∨ (decDigits z.natAbs).head? ≠ some 48 := by
    by_cases h0 : z = 0
    · subst h0; exact .inl str_zero
    · exact .inr (dec_head _ (by omega))
  rw [h1, h3]
  simp only [h2, decide_true, Bool.not_false, Bool.true_and, Bool.and_true, Bool.or_eq_true, decide_eq_true_eq]
  exact h4
theorem of_valid {s : List UInt8} (h : valid s = true) : ∃ z : Int, z.natAbs < lim ∧ s = str z := by
  unfold valid at h
  simp only [Bool.and_eq_true, Bool.not_eq_true', decide_eq_true_eq, Bool.or_eq_true] at h
  obtain ⟨⟨⟨h1, h2⟩, h3⟩, h4⟩ := h
  have hne : digs s ≠ [] := by intro e; rw [e] at h1; cases h1
  have hall := List.all_eq_true.1 h3
  have hdn : decDigits (num (digs s)) = digs s := by
    refine dec_num _ hne hall ?_
    rcases h4 with h4 | h4
    · left; rw [h4]; rfl
    · right; exact h4
  have hlt : num (digs s) < lim := by
    have := lt_dec_length (num (digs s))
    rw [hdn] at this
    exact Nat.lt_of_lt_of_le this (Nat.pow_le_pow_right (by omega) h2)
  by_cases hm : s.head? = some 45
  · have hs : s = 45 :: digs s := by
      unfold digs; rw [if_pos hm]
      cases s with
      | nil => cases hm
      | cons x l => simp at hm; rw [hm]; rfl
    have hpos : num (digs s) ≠ 0 := by
      intro e
      rw [e, dec_small (by omega)] at hdn
      rcases h4 with h4 | h4
      · rw [h4] at hm; simp at hm
      · rw [← hdn] at h4; exact h4 rfl
    refine ⟨-(num (digs s) : Int), by omega, ?_⟩
    unfold str
    rw [if_pos (by omega), Int.natAbs_neg, Int.natAbs_natCast, hdn, ← hs]
  · have hs : s = digs s := by unfold digs; rw [if_neg hm]
    refine ⟨(num (digs s) : Int), by omega, ?_⟩
    unfold str
    rw [if_neg (by omega), Int.natAbs_natCast, hdn, ← hs]
theorem valid_str_iff {z : Int} : valid (str z) = true ↔ z.natAbs < lim := by
  refine ⟨fun h => ?_, valid_str⟩
  obtain ⟨y, hy, e⟩ := of_valid h
  rw [str_inj e]; exact hy

/-- The number that a valid text is. -/
def toZ (s : List UInt8) : Int := if s.head? = some 45 then -(num (digs s) : Int) else num (digs s)
theorem toZ_str (z : Int) : toZ (str z) = z := by
  unfold toZ
  rw [digs_str, num_dec]
  unfold str
  split
  · rename_i h; split <;> simp_all <;> omega
  · rename_i h; split
    · rename_i h2
      cases hd : decDigits z.natAbs with
      | nil => exact absurd hd (dec_ne_nil _)
      | cons x l =>
        rw [hd] at h2
        simp at h2
        exact absurd h2 (dec_no_minus z.natAbs x (by rw [hd]; simp))
    · omega

/-! ### Reading -/
theorem decFrom_num (l : List UInt8) (hd : ∀ b ∈ l, isDig b = true) (acc : Nat) : decFrom acc l = some (l.foldl (fun n b => n * 10 + (b.toNat - 48)) acc) := by
  induction l generalizing acc with
  | nil => rfl
  | cons b l ih =>
    have hb : 48 ≤ b.toNat ∧ b.toNat ≤ 57 := by have := hd b (by simp); unfold isDig at this; simpa using this
    rw [decFrom, digitVal, if_pos hb]
    exact ih (fun x hx => hd x (by simp [hx])) _
theorem atoi_digits (l : List UInt8) (hne : l ≠ []) (hd : ∀ b ∈ l, isDig b = true) : atoi l = some (num l : Int) := by
  cases l with
  | nil => exact absurd rfl hne
  | cons b r =>
    have hb : 48 ≤ b.toNat ∧ b.toNat ≤ 57 := by have := hd b (by simp); unfold isDig at this; simpa using this
    have h1 : (b == 45) = false := by
      rw [beq_eq_false_iff_ne]; intro e; subst e; simp at hb
    have h2 : (b == 43) = false := by
      rw [beq_eq_false_iff_ne]; intro e; subst e; simp at hb
    rw [atoi, h1, h2]
    simp only [Bool.false_eq_true, if_false]
    unfold decNat
    rw [if_neg (by simp), decFrom_num _ hd]
    rfl
end Go.Proofs.YtfdjdmkpcdbmkaaGreatDoor

/-
  Plain facts on the loops over groups: from the highest group down (text, product, quotient), and from the lowest up with a carry. No program in this text.
-/
namespace Go.Proofs.YtfdjdmkpcdbmkaaGreatDoor
open Go.Lib

/-- The groups from the highest down, each with its place. -/
def down (l : List Int) : List (Nat × Int) := (List.range l.length).map fun j => (l.length - 1 - j, l.getD (l.length - 1 - j) 0)
theorem down_nil : down [] = [] := rfl
theorem down_snoc (l : List Int) (x : Int) : down (l ++ [x]) = (l.length, x) :: down l := by
  unfold down
  rw [List.length_append, List.length_singleton, List.range_succ_eq_map, List.map_cons, List.map_map]
  congr 1
  · simp
  · refine List.map_congr_left fun j hj => ?_
    have hj := List.mem_range.1 hj
    simp only [Function.comp, Nat.succ_eq_add_one]
    rw [show l.length + 1 - 1 - (j + 1) = l.length - 1 - j by omega]
    congr 1
    simp only [List.getD_eq_getElem?_getD]
    rw [List.getElem?_append_left (by omega)]
theorem down_length (l : List Int) : (down l).length = l.length := by simp [down]

theorem pow_toNat (k : Nat) {x : Int} (hx : 0 ≤ x) : (10000 ^ k * x : Int).toNat = 10000 ^ k * x.toNat := by
  obtain ⟨y, rfl⟩ := Int.eq_ofNat_of_zero_le hx
  have : (10000 ^ k * (y : Int)) = ((10000 ^ k * y : Nat) : Int) := by rw [Int.natCast_mul, Int.natCast_pow]; rfl
  rw [this, Int.toNat_natCast, Int.toNat_natCast]

/-! ### The text -/
def textStep (n : Nat) (out : List UInt8) (p : Nat × Int) : List UInt8 := if p.1 + 1 < n then out ++ pad4 p.2.toNat else out ++ decDigits p.2.toNat
theorem text_low (n : Nat) (a : List Int) (ha : Dig a) (hn : a.length < n) : ∀ u : Nat, 1 ≤ u → (down a).foldl (textStep n) (decDigits u) = decDigits (u * 10000 ^ a.length + (val a).toNat) := by
  induction ha2 : a.length generalizing a with
  | zero =>
    intro u _
    have : a = [] := List.length_eq_zero_iff.1 ha2
    subst this
    simp [down_nil, val]
  | succ k ih =>
    intro u hu
    have hne : a ≠ [] := by intro e; subst e; simp at ha2
    obtain ⟨b, x, rfl⟩ : ∃ b x, a = b ++ [x] := ⟨a.dropLast, a.getLast hne, (List.dropLast_concat_getLast hne).symm⟩
    have hd := dig_append.1 ha
    have hx := (dig_cons.1 hd.2).1
    have hb : b.length = k := by simpa using ha2
    simp only [List.length_append, List.length_singleton] at hn
    rw [down_snoc, List.foldl_cons, textStep, if_pos (by show b.length + 1 < n; exact hn)]
    have e : decDigits u ++ pad4 x.toNat = decDigits (u * 10000 + x.toNat) := by
      rw [dec_groups (u := u * 10000 + x.toNat) (by omega), show (u * 10000 + x.toNat) / 10000 = u by omega, show (u * 10000 + x.toNat) % 10000 = x.toNat by omega]
    show (down b).foldl (textStep n) (decDigits u ++ pad4 x.toNat) = _
    rw [e, ih b hd.1 (by omega) hb _ (by omega)]
    congr 1
    have hv := val_nonneg hd.1
    rw [val_snoc, hb]
    have hp : (0 : Int) ≤ 10000 ^ k * x := Int.mul_nonneg (Int.le_of_lt (Int.pow_pos (by omega))) hx.1
    have e2 : (10000 ^ k * x : Int).toNat = 10000 ^ k * x.toNat := pow_toNat k hx.1
    rw [Int.toNat_add hv hp, e2, Nat.add_mul, Nat.pow_succ, Nat.mul_assoc, Nat.mul_comm 10000 (10000 ^ k), Nat.mul_comm x.toNat]
    omega
theorem text_groups {n : Nat} (h : n ≠ 0) : (down (groups n)).foldl (textStep (groups n).length) [] = decDigits n := by
  obtain ⟨a, x, e, h1, h2⟩ := groups_last h
  have hd := dig_append.1 (e ▸ dig_groups n)
  have hv := val_groups n
  rw [e, val_snoc] at hv
  rw [e, down_snoc, List.foldl_cons, textStep, if_neg (by simp), List.nil_append, List.length_append, List.length_singleton]
  show (down a).foldl (textStep (a.length + 1)) (decDigits x.toNat) = _
  rw [text_low _ a hd.1 (by omega) _ (by omega)]
  congr 1
  have hn := val_nonneg hd.1
  have hp : (0 : Int) ≤ 10000 ^ a.length * x := Int.mul_nonneg (Int.le_of_lt (Int.pow_pos (by omega))) (by omega)
  have e2 : (10000 ^ a.length * x : Int).toNat = 10000 ^ a.length * x.toNat := pow_toNat _ (by omega)
  rw [Nat.mul_comm x.toNat, ← e2, ← Int.toNat_add hp hn, Int.add_comm, hv]; simp

/-! ### The product -/
def mulStep (L : Nat) (u : Nat) (p : Nat × Int) : Nat := u * 10000 + L * p.2.toNat
theorem mul_down (L : Nat) (a : List Int) (ha : Dig a) : ∀ u : Nat, (down a).foldl (mulStep L) u = u * 10000 ^ a.length + L * (val a).toNat := by
  induction ha2 : a.length generalizing a with
  | zero =>
    intro u
    have : a = [] := List.length_eq_zero_iff.1 ha2
    subst this
    simp [down_nil, val]
  | succ k ih =>
    intro u
    have hne : a ≠ [] := by intro e; subst e; simp at ha2
    obtain ⟨b, x, rfl⟩ : ∃ b x, a = b ++ [x] := ⟨a.dropLast, a.getLast hne, (List.dropLast_concat_getLast hne).symm⟩
    have hd := dig_append.1 ha
    have hx := (dig_cons.1 hd.2).1
    have hb : b.length = k := by simpa using ha2
    rw [down_snoc, List.foldl_cons, ih b hd.1 hb, val_snoc, hb, mulStep]
    have hv := val_nonneg hd.1
    have hp : (0 : Int) ≤ 10000 ^ k * x := Int.mul_nonneg (Int.le_of_lt (Int.pow_pos (by omega))) hx.1
    have e2 : (10000 ^ k * x : Int).toNat = 10000 ^ k * x.toNat := pow_toNat k hx.1
    rw [Int.toNat_add hv hp, e2, Nat.mul_add, Nat.add_mul, Nat.pow_succ, Nat.mul_assoc u, Nat.mul_comm 10000 (10000 ^ k)]
    show u * (10000 ^ k * 10000) + L * x.toNat * 10000 ^ k + _ = _
    rw [Nat.mul_assoc L, Nat.mul_comm x.toNat]
    omega
theorem mul_groups (L m : Nat) : (down (groups m)).foldl (mulStep L) 0 = L * m := by
  rw [mul_down L _ (dig_groups m), val_groups]; simp

/-! ### The quotient -/
def divStep (m : Nat) (s : List Int × Nat) (p : Nat × Int) : List Int × Nat := (s.1.set p.1 (((s.2 * 10000 + p.2.toNat) / m : Nat) : Int), (s.2 * 10000 + p.2.toNat) % m)
theorem div_step_eq (U m n : Nat) (hm : 0 < m) : (U * 10000 + n) / m = U / m * 10000 + ((U % m) * 10000 + n) / m ∧ (U * 10000 + n) % m = ((U % m) * 10000 + n) % m := by
  have h := Nat.div_add_mod U m
  have e : U * 10000 + n = ((U % m) * 10000 + n) + m * (U / m * 10000) := by
    rw [← Nat.mul_assoc]
    generalize U % m = r at *
    generalize m * (U / m) = t at *
    omega
  constructor
  · rw [e, Nat.add_mul_div_left _ _ hm]; exact Nat.add_comm _ _
  · rw [e, Nat.add_mul_mod_self_left]
theorem div_digit_lt {r m n : Nat} (hr : r < m) (hn : n < 10000) : (r * 10000 + n) / m < 10000 := by
  apply (Nat.div_lt_iff_lt_mul (by omega)).2
  have : (r + 1) * 10000 ≤ m * 10000 := Nat.mul_le_mul_right _ hr
  rw [Nat.mul_comm 10000 m]; omega
/-- What lies ahead of the place is 0; what lies behind it has the value so far. -/
theorem div_down (m : Nat) (hm : 0 < m) (a : List Int) (ha : Dig a) : ∀ (U : Nat) (hi : List Int), Dig hi → val hi = (U / m : Nat) →
    ∃ q, (down a).foldl (divStep m) (List.replicate a.length 0 ++ hi, U % m) = (q, (U * 10000 ^ a.length + (val a).toNat) % m) ∧ Dig q ∧ q.length = a.length + hi.length ∧ val q = ((U * 10000 ^ a.length + (val a).toNat) / m : Nat) := by
  induction ha2 : a.length generalizing a with
  | zero =>
    intro U hi h1 h2
    have : a = [] := List.length_eq_zero_iff.1 ha2
    subst this
    exact ⟨hi, by simp [down_nil, val], h1, by simp, by simp [val, h2]⟩
  | succ k ih =>
    intro U hi h1 h2
    have hne : a ≠ [] := by intro e; subst e; simp at ha2
    obtain ⟨b, x, rfl⟩ : ∃ b x, a = b ++ [x] := ⟨a.dropLast, a.getLast hne, (List.dropLast_concat_getLast hne).symm⟩
    have hd := dig_append.1 ha
    have hx := (dig_cons.1 hd.2).1
    have hb : b.length = k := by simpa using ha2
    obtain ⟨e1, e2⟩ := div_step_eq U m x.toNat hm
    have hlt := div_digit_lt (Nat.mod_lt U hm) (by omega : x.toNat < 10000)
    rw [down_snoc, List.foldl_cons, divStep]
    have eset : (List.replicate (k + 1) (0 : Int) ++ hi).set b.length ((((U % m) * 10000 + x.toNat) / m : Nat) : Int) = List.replicate k 0 ++ ((((U % m) * 10000 + x.toNat) / m : Nat) : Int) :: hi := by
      rw [hb, List.replicate_succ', List.append_assoc, List.set_append_right _ _ (by simp)]
      simp
    dsimp only
    rw [eset, ← e2]
    obtain ⟨q, h3, h4, h5, h6⟩ := ih b hd.1 hb (U * 10000 + x.toNat) (((((U % m) * 10000 + x.toNat) / m : Nat) : Int) :: hi) (dig_cons.2 ⟨⟨Int.natCast_nonneg _, Int.ofNat_lt.2 hlt⟩, h1⟩) (by rw [val, h2, e1]; omega)
    have hv := val_nonneg hd.1
    have hp : (0 : Int) ≤ 10000 ^ k * x := Int.mul_nonneg (Int.le_of_lt (Int.pow_pos (by omega))) hx.1
    have e3 : (10000 ^ k * x : Int).toNat = 10000 ^ k * x.toNat := pow_toNat k hx.1
    have ev : U * 10000 ^ (k + 1) + (val (b ++ [x])).toNat = (U * 10000 + x.toNat) * 10000 ^ k + (val b).toNat := by
      rw [val_snoc, hb, Int.toNat_add hv hp, e3, Nat.add_mul, Nat.pow_succ, Nat.mul_assoc U, Nat.mul_comm 10000 (10000 ^ k), Nat.mul_comm x.toNat]; omega
    rw [ev]
    exact ⟨q, h3, h4, by rw [h5]; simp; omega, h6⟩
theorem div_groups (a m : Nat) (hm : 0 < m) : ∃ q, (down (groups a)).foldl (divStep m) (List.replicate (groups a).length 0, 0) = (q, a % m) ∧ Dig q ∧ q.length = (groups a).length ∧ val q = (a / m : Nat) := by
  obtain ⟨q, h1, h2, h3, h4⟩ := div_down m hm (groups a) (dig_groups a) 0 [] dig_nil (by simp [val])
  rw [val_groups] at h1 h4
  simp only [Nat.zero_mul, Nat.zero_add, Int.toNat_natCast, List.append_nil, Nat.zero_mod, List.length_nil, Nat.add_zero] at h1 h3 h4
  exact ⟨q, h1, h2, h3, h4⟩

/-! ### Groups one after the other, with a carry -/
def sumTo (d : Nat → Int) : Nat → Int
  | 0 => 0
  | k + 1 => sumTo d k + 10000 ^ k * d k
theorem sumTo_congr {d e : Nat → Int} {n : Nat} (h : ∀ j, j < n → d j = e j) : sumTo d n = sumTo e n := by
  induction n with
  | zero => rfl
  | succ n ih => rw [sumTo, sumTo, ih (fun j hj => h j (by omega)), h n (by omega)]
theorem sumTo_zero {d : Nat → Int} {n k : Nat} (h : ∀ j, n ≤ j → d j = 0) (hk : n ≤ k) : sumTo d k = sumTo d n := by
  induction k with
  | zero => have : n = 0 := by omega
            subst this; rfl
  | succ k ih =>
    by_cases e : n = k + 1
    · rw [e]
    · rw [sumTo, ih (by omega), h k (by omega)]; omega
theorem sumTo_add (d e : Nat → Int) (n : Nat) : sumTo (fun j => d j + e j) n = sumTo d n + sumTo e n := by
  induction n with
  | zero => rfl
  | succ n ih => rw [sumTo, sumTo, sumTo, ih, Int.mul_add]; omega
theorem sumTo_sub (d e : Nat → Int) (n : Nat) : sumTo (fun j => d j - e j) n = sumTo d n - sumTo e n := by
  induction n with
  | zero => rfl
  | succ n ih => rw [sumTo, sumTo, sumTo, ih, Int.mul_sub]; omega
theorem sumTo_mul (d : Nat → Int) (c : Int) (n : Nat) : sumTo (fun j => d j * c) n = sumTo d n * c := by
  induction n with
  | zero => simp [sumTo]
  | succ n ih => rw [sumTo, sumTo, ih, Int.add_mul, Int.mul_assoc]
theorem sumTo_list (l : List Int) (n : Nat) (hn : l.length ≤ n) : sumTo (fun j => l.getD j 0) n = val l := by
  rw [sumTo_zero (n := l.length) (fun j hj => by simp [List.getD_eq_getElem?_getD, List.getElem?_eq_none hj]) hn]
  clear hn
  induction hl : l.length generalizing l with
  | zero => have : l = [] := List.length_eq_zero_iff.1 hl
            subst this; rfl
  | succ k ih =>
    have hne : l ≠ [] := by intro e; subst e; simp at hl
    obtain ⟨b, x, rfl⟩ : ∃ b x, l = b ++ [x] := ⟨l.dropLast, l.getLast hne, (List.dropLast_concat_getLast hne).symm⟩
    have hb : b.length = k := by simpa using hl
    rw [sumTo, val_snoc, hb, ← ih b hb]
    congr 1
    · exact sumTo_congr fun j hj => by simp only [List.getD_eq_getElem?_getD]; rw [List.getElem?_append_left (by omega)]
    · congr 1
      simp only [List.getD_eq_getElem?_getD]
      rw [List.getElem?_append_right (by omega), hb]; simp

/-- What holds between two rounds: 'out' is what was put out, 'c' the carry. -/
structure Carry (d : Nat → Int) (n : Nat) (out : List Int) (c : Int) : Prop where
  dig : Dig out
  sum : val out + 10000 ^ out.length * c = sumTo d out.length
  lo : -1 ≤ c
  hi : c ≤ 100000
  short : out.length ≤ n ∨ (out.length : Int) + c ≤ n + 100000
theorem Carry.start (d : Nat → Int) (n : Nat) : Carry d n [] 0 := ⟨dig_nil, by simp [val, sumTo], by omega, by omega, .inl (Nat.zero_le _)⟩
structure Bounded (d : Nat → Int) (n : Nat) : Prop where
  lo : ∀ j, -9999 ≤ d j
  hi : ∀ j, d j ≤ 100000000
  zero : ∀ j, n ≤ j → d j = 0
  sum : 0 ≤ sumTo d n
theorem Carry.pos {d : Nat → Int} {n : Nat} {out : List Int} {c : Int} (h : Carry d n out c) (hb : Bounded d n) (hn : n ≤ out.length) : 0 ≤ c := by
  have h1 := h.sum
  rw [sumTo_zero hb.zero hn] at h1
  have h2 := val_lt h.dig
  have h3 := hb.sum
  have hp : (0 : Int) < 10000 ^ out.length := Int.pow_pos (by omega)
  generalize (10000 : Int) ^ out.length = p at *
  rcases Int.lt_or_le c 0 with hc | hc
  · have h4 : p * c ≤ p * (-1) := Int.mul_le_mul_of_nonneg_left (by omega) (by omega)
    omega
  · exact hc
theorem carry_sum {d : Nat → Int} {out : List Int} {c s x c' : Int} (h : val out + 10000 ^ out.length * c = sumTo d out.length) (hs : s = d out.length + c) (hx : s = x + 10000 * c') :
    val (out ++ [x]) + 10000 ^ (out ++ [x]).length * c' = sumTo d (out ++ [x]).length := by
  rw [val_snoc, List.length_append, List.length_singleton, sumTo, ← h, Int.pow_succ]
  have e : (10000 : Int) ^ out.length * x + 10000 ^ out.length * 10000 * c' = 10000 ^ out.length * s := by
    rw [hx, Int.mul_add, Int.mul_assoc]
  have e2 : (10000 : Int) ^ out.length * s = 10000 ^ out.length * d out.length + 10000 ^ out.length * c := by rw [hs, Int.mul_add]
  omega
theorem Carry.step {d : Nat → Int} {n : Nat} {out : List Int} {c : Int} (h : Carry d n out c) (hb : Bounded d n) {x c' : Int} (hx : d out.length + c = x + 10000 * c') (hx0 : 0 ≤ x) (hx1 : x < 10000) (hm : out.length < n ∨ 0 < c) : Carry d n (out ++ [x]) c' := by
  have h1 := hb.lo out.length
  have h2 := hb.hi out.length
  have h3 := h.lo
  have h4 := h.hi
  refine ⟨dig_append.2 ⟨h.dig, dig_cons.2 ⟨⟨hx0, hx1⟩, dig_nil⟩⟩, carry_sum h.sum rfl hx, by omega, by omega, ?_⟩
  rw [List.length_append, List.length_singleton]
  rcases Nat.lt_or_ge out.length n with hl | hl
  · left; omega
  · have hz := hb.zero out.length hl
    right
    have := h.short
    omega
theorem Carry.done {d : Nat → Int} {n : Nat} {out : List Int} (h : Carry d n out 0) (hb : Bounded d n) (hn : n ≤ out.length) : val out = sumTo d n := by
  have h1 := h.sum
  rw [sumTo_zero hb.zero hn] at h1
  omega
/-- What every round lowers. -/
def carryLeft (n k : Nat) (c : Int) : Nat := (n - k) * 1000000 + c.toNat
theorem Carry.less {d : Nat → Int} {n : Nat} {out : List Int} {c : Int} (h : Carry d n out c) (hb : Bounded d n) {x c' : Int} (hx : d out.length + c = x + 10000 * c') (hx0 : 0 ≤ x) (hx1 : x < 10000) (hm : out.length < n ∨ c ≠ 0) : carryLeft n (out.length + 1) c' < carryLeft n out.length c := by
  have h1 := hb.lo out.length
  have h2 := hb.hi out.length
  have h3 := h.lo
  have h4 := h.hi
  unfold carryLeft
  rcases Nat.lt_or_ge out.length n with hl | hl
  · obtain ⟨k, hk⟩ : ∃ k, n = out.length + 1 + k := ⟨n - (out.length + 1), by omega⟩
    rw [show n - (out.length + 1) = k by omega, show n - out.length = k + 1 by omega]
    omega
  · have hz := hb.zero out.length hl
    have := h.pos hb hl
    rw [show n - (out.length + 1) = 0 by omega, show n - out.length = 0 by omega]
    omega
end Go.Proofs.YtfdjdmkpcdbmkaaGreatDoor

/-
  What package integer promises, as functions on texts, over Lean's integers. No program in this text.
-/
namespace Go.Proofs.YtfdjdmkpcdbmkaaGreatDoor
open Go.Lib

/-! ### The integer square root -/
def isq : Nat → Nat
  | 0 => 0
  | n + 1 => if (isq n + 1) * (isq n + 1) ≤ n + 1 then isq n + 1 else isq n
theorem isq_spec (n : Nat) : isq n * isq n ≤ n ∧ n < (isq n + 1) * (isq n + 1) := by
  induction n with
  | zero => simp [isq]
  | succ n ih =>
    unfold isq
    split
    · rename_i h
      refine ⟨h, ?_⟩
      have : (isq n + 1 + 1) * (isq n + 1 + 1) = (isq n + 1) * (isq n + 1) + 2 * (isq n + 1) + 1 := by grind
      omega
    · rename_i h
      exact ⟨by omega, by omega⟩
theorem isq_unique {n r : Nat} (h1 : r * r ≤ n) (h2 : n < (r + 1) * (r + 1)) : isq n = r := by
  obtain ⟨h3, h4⟩ := isq_spec n
  rcases Nat.lt_trichotomy (isq n) r with h | h | h
  · have := Nat.mul_le_mul h h; simp at this; omega
  · exact h
  · have := Nat.mul_le_mul h h; simp at this; omega
theorem isq_le (n : Nat) : isq n ≤ n := by
  have h := (isq_spec n).1
  rcases Nat.eq_zero_or_pos (isq n) with h0 | h0
  · omega
  · have := Nat.mul_le_mul_right (isq n) h0; omega
theorem isq_mul (n : Nat) : isq (n * n) = n := isq_unique (Nat.le_refl _) (by rw [show (n + 1) * (n + 1) = n * n + 2 * n + 1 by grind]; omega)

/-! ### The functions -/
def errInteger : Int := 30
def outS (z : Int) : List UInt8 × Int := if z.natAbs < lim then (str z, 0) else ([], errInteger)
def addS (a b : List UInt8) : List UInt8 × Int := if valid a && valid b then outS (toZ a + toZ b) else ([], errInteger)
def subS (a b : List UInt8) : List UInt8 × Int := if valid a && valid b then outS (toZ a - toZ b) else ([], errInteger)
def mulS (a b : List UInt8) : List UInt8 × Int := if valid a && valid b then outS (toZ a * toZ b) else ([], errInteger)
def divS (a b : List UInt8) : List UInt8 × List UInt8 × Int := if valid a && valid b && decide (toZ b ≠ 0) then (str (toZ a / toZ b), str (toZ a % toZ b), 0) else ([], [], errInteger)
def gcdS (a b : List UInt8) : List UInt8 × Int := if valid a && valid b then (str (Int.gcd (toZ a) (toZ b)), 0) else ([], errInteger)
def rootS (a : List UInt8) : List UInt8 × Int := if valid a && decide (0 ≤ toZ a) then (str (isq (toZ a).natAbs), 0) else ([], errInteger)
def cmpZ (a b : Int) : Int := if a < b then -1 else if b < a then 1 else 0
def cmpS (a b : List UInt8) : Int := if valid a && valid b then cmpZ (toZ a) (toZ b) else 0
def small (z : Int) : Bool := decide (-9223372036854775808 ≤ z ∧ z ≤ 9223372036854775807)
def toIntS (s : List UInt8) : Int × Int := if valid s && small (toZ s) then (toZ s, 0) else (0, errInteger)

theorem outS_ok {z : Int} (h : z.natAbs < lim) : outS z = (str z, 0) := by unfold outS; rw [if_pos h]
theorem addS_str {a b : Int} (ha : a.natAbs < lim) (hb : b.natAbs < lim) : addS (str a) (str b) = outS (a + b) := by
  unfold addS; rw [valid_str ha, valid_str hb, toZ_str, toZ_str]; rfl
theorem subS_str {a b : Int} (ha : a.natAbs < lim) (hb : b.natAbs < lim) : subS (str a) (str b) = outS (a - b) := by
  unfold subS; rw [valid_str ha, valid_str hb, toZ_str, toZ_str]; rfl
theorem mulS_str {a b : Int} (ha : a.natAbs < lim) (hb : b.natAbs < lim) : mulS (str a) (str b) = outS (a * b) := by
  unfold mulS; rw [valid_str ha, valid_str hb, toZ_str, toZ_str]; rfl
theorem divS_str {a b : Int} (ha : a.natAbs < lim) (hb : b.natAbs < lim) (h0 : b ≠ 0) : divS (str a) (str b) = (str (a / b), str (a % b), 0) := by
  unfold divS; rw [valid_str ha, valid_str hb, toZ_str, toZ_str]; simp [h0]
theorem divS_zero (a : List UInt8) : divS a (str 0) = ([], [], errInteger) := by
  unfold divS; rw [toZ_str]; simp
theorem gcdS_str {a b : Int} (ha : a.natAbs < lim) (hb : b.natAbs < lim) : gcdS (str a) (str b) = (str (Int.gcd a b), 0) := by
  unfold gcdS; rw [valid_str ha, valid_str hb, toZ_str, toZ_str]; rfl
theorem rootS_str {a : Int} (ha : a.natAbs < lim) (h0 : 0 ≤ a) : rootS (str a) = (str (isq a.natAbs), 0) := by
  unfold rootS; rw [valid_str ha, toZ_str]; simp [h0]
theorem rootS_neg {a : Int} (h0 : a < 0) : rootS (str a) = ([], errInteger) := by
  unfold rootS; rw [toZ_str]; simp; omega
theorem cmpS_str {a b : Int} (ha : a.natAbs < lim) (hb : b.natAbs < lim) : cmpS (str a) (str b) = cmpZ a b := by
  unfold cmpS; rw [valid_str ha, valid_str hb, toZ_str, toZ_str]; rfl
theorem toIntS_str {a : Int} (ha : a.natAbs < lim) (h : small a = true) : toIntS (str a) = (a, 0) := by
  unfold toIntS; rw [valid_str ha, toZ_str, h]; rfl
theorem div_natAbs_le (a : Int) {b : Int} : (a / b).natAbs ≤ a.natAbs := Int.natAbs_ediv_le_natAbs a b
theorem gcd_lt {a b : Int} (ha : a.natAbs < lim) (hb : b.natAbs < lim) : Int.gcd a b < lim := by
  unfold Int.gcd
  rcases Nat.eq_zero_or_pos a.natAbs with h | h
  · rw [h, Nat.gcd_zero_left]; exact hb
  · exact Nat.lt_of_le_of_lt (Nat.le_of_dvd h (Nat.gcd_dvd_left _ _)) ha

/-! ### Atoi at a valid text -/
theorem parseUint10_digits (l : List UInt8) (hd : ∀ b ∈ l, isDig b = true) (acc : Nat) (h : acc < 18446744073709551616) :
    parseUint10 acc l = if l.foldl (fun n b => n * 10 + (b.toNat - 48)) acc < 18446744073709551616 then .ok (l.foldl (fun n b => n * 10 + (b.toNat - 48)) acc) else .range := by
  induction l generalizing acc with
  | nil => rw [parseUint10]; simp [h]
  | cons b l ih =>
    have hb : 48 ≤ b.toNat ∧ b.toNat ≤ 57 := by have := hd b (by simp); unfold isDig at this; simpa using this
    have mono : ∀ (l : List UInt8) (x y : Nat), x ≤ y → x ≤ l.foldl (fun n b => n * 10 + (b.toNat - 48)) y := by
      intro l
      induction l with
      | nil => intro x y h; exact h
      | cons c l ih => intro x y h; exact ih _ _ (by show x ≤ y * 10 + (c.toNat - 48); omega)
    rw [parseUint10, if_pos hb, List.foldl_cons]
    by_cases h1 : 1844674407370955162 ≤ acc
    · rw [if_pos h1, if_neg]
      have := mono l 18446744073709551616 (acc * 10 + (b.toNat - 48)) (by omega)
      omega
    · rw [if_neg h1]
      by_cases h2 : 18446744073709551616 ≤ acc * 10 + (b.toNat - 48)
      · rw [if_pos h2, if_neg]
        have := mono l 18446744073709551616 (acc * 10 + (b.toNat - 48)) (by omega)
        omega
      · rw [if_neg h2]
        exact ih (fun x hx => hd x (by simp [hx])) _ (by omega)
theorem parseMag_dec (u : Nat) : parseMag (decDigits u) = if u < 18446744073709551616 then .ok u else .range := by
  unfold parseMag
  rw [if_neg (dec_ne_nil u), parseUint10_digits _ (dec_isDig u) 0 (by omega)]
  have := num_dec u
  unfold num at this
  rw [this]
theorem atoiAll_str (z : Int) : atoiAll (str z) = if small z = true then .ok z else .range := by
  unfold str small
  split
  · rename_i h
    unfold atoiAll
    dsimp only
    have e45 : (45 : UInt8).toNat = 45 := rfl
    rw [e45, if_pos (Or.inr rfl), parseMag_dec]
    by_cases h1 : z.natAbs < 18446744073709551616
    · rw [if_pos h1]
      dsimp only
      rw [if_neg (by simp)]
      by_cases h2 : 9223372036854775808 < z.natAbs
      · rw [if_pos ⟨rfl, h2⟩, if_neg (by simp; omega)]
      · rw [if_neg (by omega), if_pos rfl, if_pos (by simp; omega)]
        congr 1; omega
    · rw [if_neg h1]
      dsimp only
      rw [if_neg (by simp; omega)]
  · rename_i h
    have hp := parseMag_dec z.natAbs
    have hd := dec_isDig z.natAbs
    cases hl : decDigits z.natAbs with
    | nil => exact absurd hl (dec_ne_nil _)
    | cons c r =>
      have hc : 48 ≤ c.toNat ∧ c.toNat ≤ 57 := by have := hd c (by rw [hl]; simp); unfold isDig at this; simpa using this
      rw [hl] at hp
      unfold atoiAll
      dsimp only
      rw [if_neg (by omega : ¬ (c.toNat = 43 ∨ c.toNat = 45)), hp]
      by_cases h1 : z.natAbs < 18446744073709551616
      · rw [if_pos h1]
        dsimp only
        by_cases h2 : 9223372036854775808 ≤ z.natAbs
        · rw [if_pos ⟨by omega, h2⟩, if_neg (by simp; omega)]
        · rw [if_neg (by omega), if_neg (by omega), if_neg (by omega), if_pos (by simp; omega)]
          congr 1; omega
      · rw [if_neg h1]
        dsimp only
        rw [if_neg (by simp; omega)]
end Go.Proofs.YtfdjdmkpcdbmkaaGreatDoor

/-
  Plain facts on fractions in lowest terms. No program in this text.
-/
namespace Go.Proofs.YtfdjdmkpcdbmkaaGreatDoor

/-! ### Reducing -/
/-- Two integers, the second not 0, in lowest terms, the denominator positive. -/
def red (n d : Int) : Int × Int := if d < 0 then ((0 - n) / Int.gcd (0 - n) (0 - d), (0 - d) / Int.gcd (0 - n) (0 - d)) else (n / Int.gcd n d, d / Int.gcd n d)
/-- In lowest terms. -/
def Low (r : Int × Int) : Prop := 0 < r.2 ∧ Int.gcd r.1 r.2 = 1
theorem gcd_pos_of {n d : Int} (hd : d ≠ 0) : 0 < Int.gcd n d := Int.gcd_pos_of_ne_zero_right _ hd
theorem low_pos {n d : Int} (hd : 0 < d) : Low (n / Int.gcd n d, d / Int.gcd n d) := by
  have hg := gcd_pos_of (n := n) (by omega : d ≠ 0)
  refine ⟨?_, ?_⟩
  · exact Int.ediv_pos_of_pos_of_dvd hd (by omega) (Int.gcd_dvd_right n d)
  · rw [Int.gcd_ediv (Int.gcd_dvd_left n d) (Int.gcd_dvd_right n d), Int.natAbs_natCast]
    exact Nat.div_self hg
theorem low_red {n d : Int} (hd : d ≠ 0) : Low (red n d) := by
  unfold red
  split
  · exact low_pos (by omega)
  · exact low_pos (by omega)
theorem cross_pos {n d : Int} : n / Int.gcd n d * d = n * (d / Int.gcd n d) := by
  have h1 := Int.ediv_mul_cancel (Int.gcd_dvd_left n d)
  have h2 := Int.ediv_mul_cancel (Int.gcd_dvd_right n d)
  generalize (Int.gcd n d : Int) = g at *
  generalize n / g = a at *
  generalize d / g = b at *
  subst h1; subst h2
  rw [Int.mul_comm b g, ← Int.mul_assoc]
/-- The value stays. -/
theorem cross_red (n d : Int) : (red n d).1 * d = n * (red n d).2 := by
  unfold red
  split
  · have h := cross_pos (n := 0 - n) (d := 0 - d)
    dsimp only
    generalize (0 - n) / (Int.gcd (0 - n) (0 - d) : Int) = a at *
    generalize (0 - d) / (Int.gcd (0 - n) (0 - d) : Int) = b at *
    have h1 : a * (0 - d) = -(a * d) := by rw [Int.zero_sub, Int.mul_neg]
    have h2 : (0 - n) * b = -(n * b) := by rw [Int.zero_sub, Int.neg_mul]
    omega
  · exact cross_pos
theorem low_unique {n d m c : Int} (h1 : Low (n, d)) (h2 : Low (m, c)) (h : n * c = m * d) : (n, d) = (m, c) := by
  obtain ⟨hd, hg⟩ := h1
  obtain ⟨hc, hk⟩ := h2
  dsimp only at hd hg hc hk
  have ed : d.natAbs ∣ c.natAbs := by
    refine Nat.Coprime.dvd_of_dvd_mul_left (k := d.natAbs) (m := n.natAbs) (n := c.natAbs) ?_ ?_
    · rw [Nat.coprime_comm]; exact hg
    · rw [← Int.natAbs_mul, h, Int.natAbs_mul]; exact Nat.dvd_mul_left _ _
  have ec : c.natAbs ∣ d.natAbs := by
    refine Nat.Coprime.dvd_of_dvd_mul_left (k := c.natAbs) (m := m.natAbs) (n := d.natAbs) ?_ ?_
    · rw [Nat.coprime_comm]; exact hk
    · rw [← Int.natAbs_mul, ← h, Int.natAbs_mul]; exact Nat.dvd_mul_left _ _
  have e := Nat.dvd_antisymm ed ec
  have e : d = c := by omega
  subst e
  have : n = m := Int.eq_of_mul_eq_mul_right (by omega) h
  rw [this]
theorem red_of_low {n d : Int} (h : Low (n, d)) : red n d = (n, d) := by
  have hc := cross_red n d
  have hl := low_red (n := n) (d := d) (by have := h.1; dsimp only at this; omega)
  cases hr : red n d with
  | mk a b =>
    rw [hr] at hc hl
    exact low_unique hl h hc
/-- Two reductions are equal just if the values are. -/
theorem red_eq_iff {n d m c : Int} (hd : d ≠ 0) (hc : c ≠ 0) : red n d = red m c ↔ n * c = m * d := by
  have h1 := cross_red n d
  have h2 := cross_red m c
  have l1 := low_red (n := n) hd
  have l2 := low_red (n := m) hc
  generalize red n d = r at *
  generalize red m c = s at *
  obtain ⟨a, b⟩ := r
  obtain ⟨e, f⟩ := s
  dsimp only at h1 h2
  have hb : 0 < b := l1.1
  have hf : 0 < f := l2.1
  constructor
  · intro h
    have ha : a = e := congrArg Prod.fst h
    have hb2 : b = f := congrArg Prod.snd h
    subst ha; subst hb2
    -- a d = n b, a c = m b: n c b = a d c = m d b
    apply Int.eq_of_mul_eq_mul_right (by omega : b ≠ 0)
    calc n * c * b = (n * b) * c := by rw [Int.mul_assoc, Int.mul_comm c b, ← Int.mul_assoc]
      _ = a * d * c := by rw [h1]
      _ = (a * c) * d := by rw [Int.mul_assoc, Int.mul_comm d c, ← Int.mul_assoc]
      _ = m * b * d := by rw [h2]
      _ = m * d * b := by rw [Int.mul_assoc, Int.mul_comm b d, ← Int.mul_assoc]
  · intro h
    apply low_unique l1 l2
    -- a f d c = n b f c = (n c) b f = m d b f = (m f) b d = e c b d
    apply Int.eq_of_mul_eq_mul_right (by exact Int.mul_ne_zero hd hc : d * c ≠ 0)
    calc a * f * (d * c) = (a * d) * (f * c) := by grind
      _ = (n * b) * (f * c) := by rw [h1]
      _ = (n * c) * (b * f) := by grind
      _ = (m * d) * (b * f) := by rw [h]
      _ = (m * f) * (b * d) := by grind
      _ = (e * c) * (b * d) := by rw [h2]
      _ = e * b * (d * c) := by grind
theorem red_scale {n d k : Int} (hd : d ≠ 0) (hk : k ≠ 0) : red (n * k) (d * k) = red n d := (red_eq_iff (Int.mul_ne_zero hd hk) hd).2 (by grind)

/-! ### Bounds -/
theorem red_lt {n d : Int} (hn : n.natAbs < lim) (hd : d.natAbs < lim) (h0 : d ≠ 0) : (red n d).1.natAbs < lim ∧ (red n d).2.natAbs < lim := by
  have key : ∀ a b : Int, (a / b).natAbs ≤ a.natAbs := fun a b => Int.natAbs_ediv_le_natAbs a b
  unfold red
  split
  · have h1 := key (0 - n) (Int.gcd (0 - n) (0 - d))
    have h2 := key (0 - d) (Int.gcd (0 - n) (0 - d))
    dsimp only
    exact ⟨by omega, by omega⟩
  · have h1 := key n (Int.gcd n d)
    have h2 := key d (Int.gcd n d)
    dsimp only
    exact ⟨by omega, by omega⟩

/-! ### The functions on texts -/
def errRational : Int := 40
abbrev Txt : Type := List UInt8 × List UInt8
def none2 : Txt := ([], [])
def numZ (r : Txt) : Int := toZ r.1
def denZ (r : Txt) : Int := toZ r.2
def ratValid (r : Txt) : Bool := valid r.1 && valid r.2 && decide (0 < denZ r) && decide (Int.gcd (numZ r) (denZ r) = 1)
/-- A fraction as texts. -/
def txt (r : Int × Int) : Txt := (str r.1, str r.2)
def fits (z : Int) : Bool := decide (z.natAbs < lim)
def makeS (num den : List UInt8) : Txt × Int := if valid num && valid den && decide (toZ den ≠ 0) then (txt (red (toZ num) (toZ den)), 0) else (none2, errRational)
def reduceS (ok : Bool) (n d : Int) : Txt × Int := if ok && decide (d ≠ 0) then (txt (red n d), 0) else (none2, errRational)
def addQ (a b : Txt) : Txt × Int :=
  let x := numZ a * denZ b; let y := numZ b * denZ a; let d := denZ a * denZ b
  reduceS (ratValid a && ratValid b && fits x && fits y && fits (x + y) && fits d) (x + y) d
def subQ (a b : Txt) : Txt × Int :=
  let x := numZ a * denZ b; let y := numZ b * denZ a; let d := denZ a * denZ b
  reduceS (ratValid a && ratValid b && fits x && fits y && fits (x - y) && fits d) (x - y) d
def mulQ (a b : Txt) : Txt × Int :=
  let n := numZ a * numZ b; let d := denZ a * denZ b
  reduceS (ratValid a && ratValid b && fits n && fits d) n d
def divQ (a b : Txt) : Txt × Int :=
  let n := numZ a * denZ b; let d := denZ a * numZ b
  reduceS (ratValid a && ratValid b && fits n && fits d) n d
def cmpQ (a b : Txt) : Int := if ratValid a && ratValid b then cmpZ (numZ a * denZ b) (numZ b * denZ a) else 0
def downQ (r : Txt) (places : Int) : Txt × Int :=
  let t : Int := 10 ^ places.toNat
  reduceS (decide (0 ≤ places) && decide (places ≤ 30) && ratValid r && fits (numZ r * t)) (numZ r * t / denZ r) t
def upQ (r : Txt) (places : Int) : Txt × Int :=
  let t : Int := 10 ^ places.toNat
  reduceS (decide (0 ≤ places) && decide (places ≤ 30) && ratValid r && fits (numZ r * t)) (if numZ r * t % denZ r = 0 then numZ r * t / denZ r else numZ r * t / denZ r + 1) t
def printS (r : Txt) : List UInt8 := if ratValid r then (if r.2 = [49] then r.1 else r.1 ++ 47 :: r.2) else []

theorem str_one : str 1 = [49] := by show Go.Lib.decDigits 1 = _; rw [dec_small (by omega)]; rfl
theorem ratValid_txt {r : Int × Int} (h : Low r) (h1 : r.1.natAbs < lim) (h2 : r.2.natAbs < lim) : ratValid (txt r) = true := by
  unfold ratValid numZ denZ txt
  simp only [valid_str h1, valid_str h2, toZ_str, Bool.true_and, Bool.and_eq_true, decide_eq_true_eq]
  exact h
theorem of_ratValid {r : Txt} (h : ratValid r = true) : ∃ q : Int × Int, r = txt q ∧ Low q ∧ q.1.natAbs < lim ∧ q.2.natAbs < lim := by
  unfold ratValid at h
  simp only [Bool.and_eq_true, decide_eq_true_eq] at h
  obtain ⟨⟨⟨h1, h2⟩, h3⟩, h4⟩ := h
  obtain ⟨a, ha, e1⟩ := of_valid h1
  obtain ⟨b, hb, e2⟩ := of_valid h2
  unfold denZ at h3 h4
  unfold numZ at h4
  rw [e2, toZ_str] at h3
  rw [e1, e2, toZ_str, toZ_str] at h4
  exact ⟨(a, b), by unfold txt; rw [← e1, ← e2], ⟨h3, h4⟩, ha, hb⟩
theorem numZ_txt (r : Int × Int) : numZ (txt r) = r.1 := toZ_str _
theorem denZ_txt (r : Int × Int) : denZ (txt r) = r.2 := toZ_str _
theorem txt_inj {a b : Int × Int} (h : txt a = txt b) : a = b := by
  unfold txt at h
  have h1 := str_inj (congrArg Prod.fst h)
  have h2 := str_inj (congrArg Prod.snd h)
  exact Prod.ext h1 h2
end Go.Proofs.YtfdjdmkpcdbmkaaGreatDoor

/-
  Comparing fractions by their whole parts and, upside down, by what is left; the order of fractions. No program in this text.
-/
namespace Go.Proofs.YtfdjdmkpcdbmkaaGreatDoor

theorem cmpZ_lt {a b : Int} (h : a < b) : cmpZ a b = -1 := by unfold cmpZ; rw [if_pos h]
theorem cmpZ_gt {a b : Int} (h : b < a) : cmpZ a b = 1 := by unfold cmpZ; rw [if_neg (by omega), if_pos h]
theorem cmpZ_eq {a b : Int} (h : a = b) : cmpZ a b = 0 := by unfold cmpZ; rw [if_neg (by omega), if_neg (by omega)]
theorem cmpZ_swap (a b : Int) : cmpZ b a = -cmpZ a b := by
  rcases Int.lt_trichotomy a b with h | h | h
  · rw [cmpZ_lt h, cmpZ_gt h]; rfl
  · rw [cmpZ_eq h, cmpZ_eq h.symm]; rfl
  · rw [cmpZ_gt h, cmpZ_lt h]
theorem cmpZ_iff_lt {a b : Int} : cmpZ a b < 0 ↔ a < b := by
  rcases Int.lt_trichotomy a b with h | h | h
  · rw [cmpZ_lt h]; omega
  · rw [cmpZ_eq h]; omega
  · rw [cmpZ_gt h]; omega
theorem cmpZ_iff_gt {a b : Int} : 0 < cmpZ a b ↔ b < a := by
  rcases Int.lt_trichotomy a b with h | h | h
  · rw [cmpZ_lt h]; omega
  · rw [cmpZ_eq h]; omega
  · rw [cmpZ_gt h]; omega
theorem cmpZ_iff_eq {a b : Int} : cmpZ a b = 0 ↔ a = b := by
  rcases Int.lt_trichotomy a b with h | h | h
  · rw [cmpZ_lt h]; omega
  · rw [cmpZ_eq h]; omega
  · rw [cmpZ_gt h]; omega
theorem cmpZ_range (a b : Int) : cmpZ a b = -1 ∨ cmpZ a b = 0 ∨ cmpZ a b = 1 := by
  rcases Int.lt_trichotomy a b with h | h | h
  · left; exact cmpZ_lt h
  · right; left; exact cmpZ_eq h
  · right; right; exact cmpZ_gt h
/-- It hangs on the difference alone. -/
theorem cmpZ_of_sub {a b c d : Int} (h : a - b = c - d) : cmpZ a b = cmpZ c d := by
  rcases Int.lt_trichotomy a b with h1 | h1 | h1
  · rw [cmpZ_lt h1, cmpZ_lt (by omega)]
  · rw [cmpZ_eq h1, cmpZ_eq (by omega)]
  · rw [cmpZ_gt h1, cmpZ_gt (by omega)]
/-- .. and only on its sign: both sides times what is positive. -/
theorem cmpZ_mul_pos {a b k : Int} (hk : 0 < k) : cmpZ (a * k) (b * k) = cmpZ a b := by
  rcases Int.lt_trichotomy a b with h | h | h
  · rw [cmpZ_lt h, cmpZ_lt (Int.mul_lt_mul_of_pos_right h hk)]
  · rw [cmpZ_eq h, cmpZ_eq (by rw [h])]
  · rw [cmpZ_gt h, cmpZ_gt (Int.mul_lt_mul_of_pos_right h hk)]
theorem cmpZ_mul_neg {a b k : Int} (hk : k < 0) : cmpZ (a * k) (b * k) = -cmpZ a b := by
  have h := cmpZ_mul_pos (a := a) (b := b) (k := -k) (by omega)
  rw [← h, ← cmpZ_swap]
  apply cmpZ_of_sub
  grind

/-- The whole parts decide, where they part. -/
theorem cmp_whole {n d m c : Int} (hd : 0 < d) (hc : 0 < c) (h : n / d ≠ m / c) : cmpZ (n * c) (m * d) = cmpZ (n / d) (m / c) := by
  have e1 := Int.mul_ediv_add_emod n d
  have e2 := Int.mul_ediv_add_emod m c
  have b1 := Int.emod_nonneg n (by omega : d ≠ 0)
  have b2 := Int.emod_lt_of_pos n hd
  have b3 := Int.emod_nonneg m (by omega : c ≠ 0)
  have b4 := Int.emod_lt_of_pos m hc
  generalize n / d = p at *
  generalize m / c = q at *
  generalize n % d = r at *
  generalize m % c = s at *
  have key : ∀ (n m d c p q r s : Int), 0 < d → 0 < c → d * p + r = n → c * q + s = m → r < d → 0 ≤ s → p < q → n * c < m * d := by
    intro n m d c p q r s hd hc e1 e2 h1 h2 hlt
    have h3 : d * p + r < d * (p + 1) := by rw [Int.mul_add]; omega
    have h4 : d * (p + 1) ≤ d * q := Int.mul_le_mul_of_nonneg_left (by omega) (by omega)
    have h5 : n < d * q := by omega
    have h6 : n * c < d * q * c := Int.mul_lt_mul_of_pos_right h5 hc
    have h7 : c * q * d ≤ m * d := Int.mul_le_mul_of_nonneg_right (by omega) (by omega)
    have h8 : d * q * c = c * q * d := by grind
    omega
  rcases Int.lt_trichotomy p q with h1 | h1 | h1
  · rw [cmpZ_lt h1, cmpZ_lt (key n m d c p q r s hd hc e1 e2 b2 b3 h1)]
  · exact absurd h1 h
  · rw [cmpZ_gt h1, cmpZ_gt (key m n c d q p s r hc hd e2 e1 b4 b1 h1)]
/-- What is left decides, where the whole parts are one. -/
theorem cmp_rest {n d m c : Int} (h : n / d = m / c) : cmpZ (n * c) (m * d) = cmpZ ((n % d) * c) ((m % c) * d) := by
  have e1 := Int.mul_ediv_add_emod n d
  have e2 := Int.mul_ediv_add_emod m c
  apply cmpZ_of_sub
  rw [h] at e1
  generalize m / c = q at *
  generalize n % d = r at *
  generalize m % c = s at *
  subst e1; subst e2
  grind
theorem cmp_upside (r d s c : Int) : cmpZ (r * c) (s * d) = -cmpZ (d * s) (c * r) := by
  rw [← cmpZ_swap (d * s) (c * r), Int.mul_comm r c, Int.mul_comm s d]
end Go.Proofs.YtfdjdmkpcdbmkaaGreatDoor

/-
  Plain facts: Newton's steps to the integer square root; which strings hold digits alone; bounds on groups. No program in this text.
-/
namespace Go.Proofs.YtfdjdmkpcdbmkaaGreatDoor
open Go.Lib

theorem newton_ge (x r : Nat) (hr : 0 < r) : isq x ≤ (r + x / r) / 2 := by
  have h := (isq_spec x).1
  generalize isq x = s at *
  have key : 2 * s ≤ r + x / r := by
    rcases Nat.lt_or_ge (2 * s) r with h1 | h1
    · exact Nat.le_trans (Nat.le_of_lt h1) (Nat.le_add_right _ _)
    · have h2 : r * (2 * s - r) ≤ x := by
        obtain ⟨t, ht⟩ : ∃ t, 2 * s = r + t := ⟨2 * s - r, by omega⟩
        rw [ht, Nat.add_sub_cancel_left]
        have h3 : 4 * (s * s) = (r + t) * (r + t) := by rw [← ht]; grind
        have h4 : 4 * (r * t) ≤ (r + t) * (r + t) := by
          rcases Nat.le_total r t with h5 | h5
          · obtain ⟨u, rfl⟩ := Nat.exists_eq_add_of_le h5
            have : (r + (r + u)) * (r + (r + u)) = 4 * (r * (r + u)) + u * u := by grind
            omega
          · obtain ⟨u, rfl⟩ := Nat.exists_eq_add_of_le h5
            have : (t + u + t) * (t + u + t) = 4 * ((t + u) * t) + u * u := by grind
            omega
        omega
      have h3 : 2 * s - r ≤ x / r := (Nat.le_div_iff_mul_le hr).2 (by rw [Nat.mul_comm]; exact h2)
      omega
  omega
theorem newton_done {x r : Nat} (hr : 0 < r) (h : isq x ≤ r) (h2 : r ≤ (r + x / r) / 2) : r = isq x := by
  have h3 : r ≤ x / r := by omega
  have h4 : r * r ≤ x := (Nat.le_div_iff_mul_le hr).1 h3
  have h5 := (isq_spec x).2
  rcases Nat.lt_or_ge (isq x) r with h6 | h6
  · have : (isq x + 1) * (isq x + 1) ≤ r * r := Nat.mul_le_mul h6 h6
    omega
  · omega
theorem isq_pos {x : Nat} (h : 0 < x) : 0 < isq x := by
  have := (isq_spec x).2
  rcases Nat.eq_zero_or_pos (isq x) with h0 | h0
  · rw [h0] at this; omega
  · exact h0
theorem isq_start {x : Nat} : isq x ≤ 10000 ^ (((groups x).length + 1) / 2) := by
  have h1 := lt_groups_length x
  have h2 := (isq_spec x).1
  rcases Nat.lt_or_ge (10000 ^ (((groups x).length + 1) / 2)) (isq x) with h | h
  · exfalso
    have h3 : 10000 ^ (((groups x).length + 1) / 2) * 10000 ^ (((groups x).length + 1) / 2) ≤ isq x * isq x := Nat.mul_le_mul (by omega) (by omega)
    rw [← Nat.pow_add] at h3
    have h4 : 10000 ^ (groups x).length ≤ 10000 ^ (((groups x).length + 1) / 2 + ((groups x).length + 1) / 2) := Nat.pow_le_pow_right (by omega) (by omega)
    omega
  · exact h
/-- The groups of a power of 10000. -/
theorem groups_pow (k : Nat) : groups (10000 ^ k) = List.replicate k 0 ++ [1] := by
  induction k with
  | zero => rw [Nat.pow_zero, groups_small (by omega) (by omega)]; rfl
  | succ k ih =>
    have hp : 0 < 10000 ^ k := Nat.pow_pos (by omega)
    rw [groups_pos (by rw [Nat.pow_succ]; omega), Nat.pow_succ, show 10000 ^ k * 10000 % 10000 = 0 by omega, show 10000 ^ k * 10000 / 10000 = 10000 ^ k by omega, ih]
    rfl

/-! ### Cutting digits off at both ends leaves nothing just if all are digits -/
def digits10 : List UInt8 := [48, 49, 50, 51, 52, 53, 54, 55, 56, 57]
theorem digits10_contains (b : UInt8) : digits10.contains b = isDig b := by
  have h : ∀ n : Fin 256, digits10.contains (UInt8.ofNat n.val) = isDig (UInt8.ofNat n.val) := by decide +kernel
  have := h ⟨b.toNat, b.toNat_lt⟩
  simpa using this
theorem dropWhile_nil {p : UInt8 → Bool} {l : List UInt8} : l.dropWhile p = [] ↔ l.all p = true := by
  induction l with
  | nil => simp
  | cons a l ih =>
    rw [List.dropWhile_cons]
    cases h : p a with
    | true => simp [ih, h]
    | false => simp [h]
theorem trimS_nil (l : List UInt8) : (trimS l digits10).isEmpty = l.all isDig := by
  have e : (fun b => digits10.contains b) = isDig := funext digits10_contains
  unfold trimS trimLeftS trimRightS
  rw [e, Bool.eq_iff_iff, List.isEmpty_iff, dropWhile_nil]
  constructor
  · intro h
    cases hd : l.reverse.dropWhile isDig with
    | nil =>
      have := dropWhile_nil.1 hd
      rw [List.all_reverse] at this; exact this
    | cons a r =>
      exfalso
      have h1 : isDig a = false := by
        have := List.head_dropWhile_not isDig (l := l.reverse) (w := by rw [hd]; simp)
        simpa [hd] using this
      rw [hd] at h
      simp [h1] at h
  · intro h
    have : l.reverse.dropWhile isDig = [] := dropWhile_nil.2 (by rw [List.all_reverse]; exact h)
    rw [this]; rfl
end Go.Proofs.YtfdjdmkpcdbmkaaGreatDoor

/-
  How a number's groups lie in memory; small facts on worlds. Over whatever program.
-/
namespace Go.Proofs.YtfdjdmkpcdbmkaaGreatDoor
open Go.RowKit

/-- THE SLICE VALUE v READS AS THE LIST xs. -/
def Row (w : World) (v : Value) (xs : List Int) : Prop :=
  xs.length ≤ 1000000 ∧ ((v = .slice none 0 0 ∧ xs = []) ∨
    ∃ b off cap, v = .slice (some ⟨b, off, none⟩) xs.length cap ∧ xs.length ≤ cap ∧ cap ≤ 9223372036854775807 ∧ b < w.heap.size ∧ ∀ j, j < xs.length → w.cell? ⟨b, off + j, none⟩ = some (.int .i64 (xs[j]?.getD 0)))
theorem Row.nil (w : World) : Row w (.slice none 0 0) [] := ⟨by simp, .inl ⟨rfl, rfl⟩⟩
theorem Row.below {w w' : World} {v : Value} {xs : List Int} (h : Row w v xs) (hb : Below w.heap.size w w') : Row w' v xs := by
  refine ⟨h.1, ?_⟩
  rcases h.2 with h | ⟨b, off, cap, e, h1, h2, h3, h4⟩
  · exact .inl h
  · exact .inr ⟨b, off, cap, e, h1, h2, Nat.lt_of_lt_of_le h3 hb.size, fun j hj => (hb.cell (p := ⟨b, off + j, none⟩) h3).trans (h4 j hj)⟩
theorem Row.below' {w w' : World} {n : Nat} {v : Value} {xs : List Int} (h : Row w v xs) (hn : n = w.heap.size) (hb : Below n w w') : Row w' v xs := h.below (hn ▸ hb)
theorem Row.len {w : World} {v : Value} {xs : List Int} (h : Row w v xs) : xs.length ≤ 1000000 := h.1
theorem below_drewN {B : Nat} {w W : World} (h : Below B w W) (n : Nat) : Below B w (W.drewN n) := ⟨h.os, h.tape, h.output, h.size, h.block⟩
theorem Row.drewN {w : World} {v : Value} {xs : List Int} (h : Row w v xs) (n : Nat) : Row (w.drewN n) v xs := h.below (below_drewN (Below.refl _ w) n)
theorem owns_below {w w1 : World} {base : Nat} {e : TypeId} {size n : Nat} {v : Value} {xs : List Value} (h : w.ownsRow base e size v n xs) (hb : Below w.heap.size w w1) : w1.ownsRow base e size v n xs :=
  h.kept (row := none) ⟨hb.os, hb.tape, hb.output, hb.size, fun k hk _ => hb.block k hk⟩ (by cases v.ownBlock <;> simp)
theorem owns_drewN {w : World} {base : Nat} {e : TypeId} {size n : Nat} {v : Value} {xs : List Value} (h : w.ownsRow base e size v n xs) (q : Nat) : (w.drewN q).ownsRow base e size v n xs := owns_below h (below_drewN (Below.refl _ w) q)
theorem one_at (W : World) (v : Value) (t : TypeId) : ∀ (j : Nat) (u : Value), [v][j]? = some u → (W.alloc (.cells #[v] t)).cell? ((⟨W.heap.size, 0, none⟩ : Addr).add j) = some u := by
  intro j u hj
  match j, hj with
  | 0, hj => simp at hj; subst hj; simp [Addr.add]
/-- A prefix. -/
theorem Row.take {w : World} {b off n cap : Nat} {xs : List Int} (h : Row w (.slice (some ⟨b, off, none⟩) n cap) xs) {k : Nat} (hk : k ≤ xs.length) : Row w (.slice (some ⟨b, off, none⟩) k cap) (xs.take k) := by
  have hl : (xs.take k).length = k := by simp; omega
  refine ⟨by rw [hl]; exact Nat.le_trans hk h.1, ?_⟩
  rcases h.2 with ⟨h, _⟩ | ⟨b', off', cap', e, h1, h2, h3, h4⟩
  · cases h
  · injection e with e1 e2 e3
    injection e1 with e1
    injection e1 with e4 e5
    subst e4; subst e5; subst e3
    refine .inr ⟨b, off, cap, by rw [hl], by rw [hl]; omega, h2, h3, fun j hj => ?_⟩
    rw [hl] at hj
    rw [h4 j (by omega), List.getElem?_take, if_pos hj]
/-- A row that the call itself has made, read. -/
theorem Row.of_owns {w : World} {base e n : Nat} {v : Value} {xs : List Int} (h : w.ownsRow base e 1 v n (xs.map (Value.int .i64))) (hl : xs.length ≤ 1000000) : Row w v xs := by
  have hn : n = xs.length := by have := h.1; simp at this; omega
  subst hn
  refine ⟨hl, ?_⟩
  rcases h.2 with ⟨rfl, h2⟩ | ⟨g, cap, cur, rfl, hb, hh, h3, h4, _⟩
  · left; exact ⟨rfl, List.length_eq_zero_iff.1 h2⟩
  · right
    have hlt := (Array.getElem?_eq_some_iff.1 hh).1
    refine ⟨g, 0, cap, rfl, h3, by unfold maxLen at h4; omega, hlt, fun j hj => ?_⟩
    rw [Nat.zero_add, h.cellAt j (by omega), List.getElem?_map, List.getElem?_eq_getElem hj]
    rfl
end Go.Proofs.YtfdjdmkpcdbmkaaGreatDoor
