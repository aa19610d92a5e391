/-
  Plain facts on decimal digits in a list, the lowest first, as the reference keeps them. No program in this text.
-/
import Derived.Test.YthbiafjdilbbnaaGreatDoorCG6
import Derived.Lib.Bytes
set_option linter.unusedVariables false
set_option linter.unusedSimpArgs false
namespace Go.Proofs.YthbiafjdilbbnaaGreatDoor
open Go.Lib

def Dg (l : List Int) : Prop := ∀ x ∈ l, 0 ≤ x ∧ x < 10
def dv : List Int → Nat
  | [] => 0
  | x :: l => x.toNat + 10 * dv l
def dgs (n : Nat) : List Int := if h : n = 0 then [] else ((n % 10 : Nat) : Int) :: dgs (n / 10)
termination_by n
decreasing_by omega
theorem dgs_zero : dgs 0 = [] := by rw [dgs, dif_pos rfl]
theorem dgs_pos {n : Nat} (h : n ≠ 0) : dgs n = ((n % 10 : Nat) : Int) :: dgs (n / 10) := by rw [dgs, dif_neg h]
theorem dgs_eq_nil {n : Nat} : dgs n = [] ↔ n = 0 := by
  constructor
  · intro h
    by_cases h0 : n = 0
    · exact h0
    · rw [dgs_pos h0] at h; cases h
  · rintro rfl; exact dgs_zero
theorem dv_dgs (n : Nat) : dv (dgs n) = n := by
  induction n using Nat.strongRecOn with
  | _ n ih =>
    by_cases h : n = 0
    · rw [h, dgs_zero]; rfl
    · rw [dgs_pos h, dv, ih (n / 10) (by omega)]; omega
theorem dg_dgs (n : Nat) : Dg (dgs n) := by
  induction n using Nat.strongRecOn with
  | _ n ih =>
    by_cases h : n = 0
    · rw [h, dgs_zero]; intro x hx; cases hx
    · rw [dgs_pos h]
      intro x hx
      rcases List.mem_cons.1 hx with rfl | hx
      · omega
      · exact ih (n / 10) (by omega) x hx
theorem dg_cons {x : Int} {l : List Int} : Dg (x :: l) ↔ (0 ≤ x ∧ x < 10) ∧ Dg l := by unfold Dg; simp
theorem dg_append {a b : List Int} : Dg (a ++ b) ↔ Dg a ∧ Dg b := by
  unfold Dg
  constructor
  · intro h; exact ⟨fun x hx => h x (by simp [hx]), fun x hx => h x (by simp [hx])⟩
  · rintro ⟨h1, h2⟩ x hx
    rcases List.mem_append.1 hx with h | h
    · exact h1 x h
    · exact h2 x h
theorem dg_nil : Dg [] := by intro x hx; cases hx
theorem dv_lt {l : List Int} (h : Dg l) : dv l < 10 ^ l.length := by
  induction l with
  | nil => simp [dv]
  | cons x l ih =>
    have hx := (dg_cons.1 h).1
    have := ih (dg_cons.1 h).2
    rw [dv, List.length_cons, Nat.pow_succ]; omega
theorem dv_snoc (l : List Int) (x : Int) : dv (l ++ [x]) = dv l + 10 ^ l.length * x.toNat := by
  induction l with
  | nil => simp [dv]
  | cons y l ih => rw [List.cons_append, dv, ih, dv, List.length_cons, Nat.pow_succ]; grind
theorem dgs_length_le {n k : Nat} (h : n < 10 ^ k) : (dgs n).length ≤ k := by
  induction k generalizing n with
  | zero => rw [show n = 0 by rw [Nat.pow_zero] at h; omega, dgs_zero]; simp
  | succ k ih =>
    by_cases h0 : n = 0
    · rw [h0, dgs_zero]; simp
    · rw [dgs_pos h0, List.length_cons]
      rw [Nat.pow_succ] at h
      have := ih (n := n / 10) (by omega)
      omega
theorem lt_dgs_length (n : Nat) : n < 10 ^ (dgs n).length := by
  have := dv_lt (dg_dgs n)
  rwa [dv_dgs] at this
theorem dgs_length_ge {n : Nat} (h : n ≠ 0) : 10 ^ ((dgs n).length - 1) ≤ n := by
  induction n using Nat.strongRecOn with
  | _ n ih =>
    rw [dgs_pos h, List.length_cons, Nat.add_sub_cancel]
    by_cases h1 : n / 10 = 0
    · rw [h1, dgs_zero]; simp; omega
    · have := ih (n / 10) (by omega) h1
      have hl : (dgs (n / 10)).length ≠ 0 := by
        intro e; exact h1 (dgs_eq_nil.1 (List.length_eq_zero_iff.1 e))
      obtain ⟨k, hk⟩ : ∃ k, (dgs (n / 10)).length = k + 1 := ⟨(dgs (n / 10)).length - 1, by omega⟩
      rw [hk] at this ⊢
      rw [Nat.add_sub_cancel] at this
      rw [Nat.pow_succ]; omega
theorem dgs_length_le_iff {n k : Nat} : (dgs n).length ≤ k ↔ n < 10 ^ k :=
  ⟨fun h => Nat.lt_of_lt_of_le (lt_dgs_length n) (Nat.pow_le_pow_right (by omega) h), dgs_length_le⟩
/-- Digits without a zero at the end are those of their value. -/
theorem dgs_dv {l : List Int} (h : Dg l) (hl : l = [] ∨ l.getLast? ≠ some 0) : dgs (dv l) = l := by
  induction l with
  | nil => exact dgs_zero
  | cons x l ih =>
    have hx := (dg_cons.1 h).1
    have hd := (dg_cons.1 h).2
    have hl' : l = [] ∨ l.getLast? ≠ some 0 := by
      cases l with
      | nil => exact .inl rfl
      | cons y l =>
        right
        rcases hl with hl | hl
        · cases hl
        · rw [List.getLast?_cons_cons] at hl; exact hl
    have e := ih hd hl'
    have hv : dv (x :: l) ≠ 0 := by
      rw [dv]
      intro h0
      have h1 : dv l = 0 := by omega
      rw [h1, dgs_zero] at e
      subst e
      rcases hl with hl | hl
      · cases hl
      · simp at hl; omega
    rw [dgs_pos hv, dv]
    rw [show (x.toNat + 10 * dv l) / 10 = dv l by omega, e]
    congr 1
    omega
theorem dec_dgs {n : Nat} (h : n ≠ 0) : decDigits n = (dgs n).reverse.map fun x => UInt8.ofNat (48 + x.toNat) := by
  induction n using Nat.strongRecOn with
  | _ n ih =>
    rw [dgs_pos h, List.reverse_cons, List.map_append]
    by_cases h1 : n < 10
    · rw [dec_small h1, show n / 10 = 0 by omega, dgs_zero]
      simp only [List.reverse_nil, List.map_nil, List.nil_append, List.map_cons]
      rw [Nat.mod_eq_of_lt h1]; rfl
    · rw [dec_big h1, ih (n / 10) (by omega) (by omega)]; rfl
/-- The bytes of a text, as numbers. -/
def dtxt (neg : Bool) (n : Nat) : List Int := (if neg then [45] else []) ++ (dgs n).reverse.map (48 + ·)
theorem bytesOf_dtxt (neg : Bool) {n : Nat} (h : n ≠ 0) : bytesOf (dtxt neg n) = str (sgn neg n) := by
  unfold dtxt bytesOf
  rw [List.map_append, List.map_map]
  have e : (dgs n).reverse.map ((fun k : Int => UInt8.ofNat k.toNat) ∘ (48 + ·)) = decDigits n := by
    rw [dec_dgs h]
    apply List.map_congr_left
    intro x hx
    have := dg_dgs n x (List.mem_reverse.1 hx)
    simp only [Function.comp]
    congr 1; omega
  rw [e]
  unfold str sgn
  cases neg
  · simp
  · simp only [if_true]
    rw [if_pos (by omega), Int.natAbs_neg, Int.natAbs_natCast]; rfl
end Go.Proofs.YthbiafjdilbbnaaGreatDoor
