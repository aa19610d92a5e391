/-
  integer.go: 'signed.plus'.
-/
import Derived.Test.YtfdjdmkpcdbmkaaGreatDoorCG4
set_option linter.unusedVariables false
set_option linter.unusedSimpArgs false
namespace Go.Proofs.YtfdjdmkpcdbmkaaGreatDoor
open Go.RowKit Go.Shelf Go.Lib

attribute [local go_sem] Oper.semAt_some

/-- A sign and places: the number that they are (a zero may have either sign). -/
def sgn (neg : Bool) (a : Nat) : Int := if neg then -(a : Int) else a
def SignedAs (neg : Bool) (a : Nat) (v : Value) (w : World) : Prop := ∃ d, v = .agg #[.bool neg, d] ∧ Row w d (groups a)
theorem SignedIs.as {z : Int} {v : Value} {w : World} (h : SignedIs z v w) : SignedAs (decide (z < 0)) z.natAbs v w := h
theorem sgn_is (z : Int) : sgn (decide (z < 0)) z.natAbs = z := by
  unfold sgn; by_cases h : z < 0 <;> simp [h] <;> omega
theorem sgn_add (n : Bool) (a b : Nat) : sgn n (a + b) = sgn n a + sgn n b := by
  unfold sgn; cases n <;> simp <;> omega
theorem sgn_sub (n m : Bool) (a b : Nat) (h : ¬n = m) (hab : b ≤ a) : sgn n (a - b) = sgn n a + sgn m b := by
  unfold sgn; cases n <;> cases m <;> simp at h ⊢ <;> omega
theorem sgn_sub' (n m : Bool) (a b : Nat) (h : ¬n = m) (hab : a ≤ b) : sgn m (b - a) = sgn n a + sgn m b := by
  unfold sgn; cases n <;> cases m <;> simp at h ⊢ <;> omega
theorem SignedAs.below {neg : Bool} {a : Nat} {v : Value} {W W' : World} (h : SignedAs neg a v W) (hb : Below W.heap.size W W') : SignedAs neg a v W' := by
  obtain ⟨d, rfl, hr⟩ := h
  exact ⟨d, rfl, hr.below hb⟩

theorem three_boxes (w : World) (t : TypeId) (a1 b1 a2 b2 a3 b3 : Value) :
    Boxed2 (((w.alloc (.cells #[a1, b1] t)).alloc (.cells #[a2, b2] t)).alloc (.cells #[a3, b3] t)) w.heap.size t a1 b1 ∧ Boxed2 (((w.alloc (.cells #[a1, b1] t)).alloc (.cells #[a2, b2] t)).alloc (.cells #[a3, b3] t)) (w.heap.size + 1) t a2 b2 ∧
    Boxed2 (((w.alloc (.cells #[a1, b1] t)).alloc (.cells #[a2, b2] t)).alloc (.cells #[a3, b3] t)) (w.heap.size + 1 + 1) t a3 b3 ∧ Below w.heap.size w (((w.alloc (.cells #[a1, b1] t)).alloc (.cells #[a2, b2] t)).alloc (.cells #[a3, b3] t)) := by
  have q1 := Boxed2.new (w.alloc (.cells #[a1, b1] t)) t a2 b2
  have q2 := Boxed2.new ((w.alloc (.cells #[a1, b1] t)).alloc (.cells #[a2, b2] t)) t a3 b3
  rw [World.size_alloc] at q1
  rw [World.size_alloc, World.size_alloc] at q2
  refine ⟨((Boxed2.new w t a1 b1).kept (World.grownBy_alloc _ _ none) (by simp)).kept (World.grownBy_alloc _ _ none) (by simp), q1.kept (World.grownBy_alloc _ _ none) (by simp), q2, ?_⟩
  exact (((Below.refl _ w).alloc (Nat.le_refl _) _).alloc (by simp) _).alloc (by simp; omega) _
/-- The result's box is written whole. -/
theorem set_pair {W : World} {n m : Nat} {t : TypeId} {p0 : Bool} (h0 : Boxed2 W m t (.bool p0) (.slice none 0 0)) (hm : n ≤ m) (x : Bool) (A : Option Addr) (l c : Nat) :
    Boxed2 ((W.setCell ⟨m, 0, none⟩ (.bool x)).setCell ⟨m, 1, none⟩ (.slice A l c)) m t (.bool x) (.slice A l c) ∧ (∀ v xs, Row W v xs → Row ((W.setCell ⟨m, 0, none⟩ (.bool x)).setCell ⟨m, 1, none⟩ (.slice A l c)) v xs) ∧
    Below n W ((W.setCell ⟨m, 0, none⟩ (.bool x)).setCell ⟨m, 1, none⟩ (.slice A l c)) := by
  have a1 := h0.set0 (.bool x)
  refine ⟨a1.set1 _, fun v xs h => (h.set_box2 (k := 0) (v' := .bool x) h0 (by intro i e; cases e) (by intro i e; cases e)).set_box2 (k := 1) (v' := .slice A l c) a1 (by intro i e; cases e) (by intro i e; cases e), ((Below.refl n W).setCell (p := ⟨m, 0, none⟩) hm _).setCell (p := ⟨m, 1, none⟩) hm _⟩

set_option maxRecDepth 100000 in
set_option maxHeartbeats 4000000 in
theorem signed_plus (n1 n2 : Bool) (a b : Nat) (v1 v2 : Value) (w : World) (h1 : SignedAs n1 a v1 w) (h2 : SignedAs n2 b v2 w) (hla : (groups a).length ≤ 400) (hlb : (groups b).length ≤ 400) :
    Calls Tryz.prog 90 #[v1, v2] w fun e w' => ∃ v n c, e = .returned v ∧ SignedAs n c v w' ∧ sgn n c = sgn n1 a + sgn n2 b ∧ Below w.heap.size w w' := by
  obtain ⟨d1, rfl, r1⟩ := h1
  obtain ⟨d2, rfl, r2⟩ := h2
  obtain ⟨A1, c1, e1⟩ := r1.shape
  obtain ⟨A2, c2, e2⟩ := r2.shape
  subst e1; subst e2
  have R1 := Lib.hid r1
  have R2 := Lib.hid r2
  clear r1 r2
  by_cases hs : n1 = n2
  · subst hs
    go_enter Tryz.func90, Tryz.ntmps90
    go_wp2_with fail
    obtain ⟨q0, q1, q2, qb⟩ := three_boxes w 100 (.bool n1) (.slice A1 (groups a).length c1) (.bool n1) (.slice A2 (groups b).length c2) (.bool false) (.slice none 0 0)
    generalize (((w.alloc (.cells #[.bool n1, .slice A1 (groups a).length c1] 100)).alloc (.cells #[.bool n1, .slice A2 (groups b).length c2] 100)).alloc (.cells #[.bool false, .slice none 0 0] 100)) = W0 at *
    have Q0 := Lib.hid q0
    have Q1 := Lib.hid q1
    have Q2 := Lib.hid q2
    have QB := Lib.hid qb
    have P1 := Lib.hid (R1.out.below (QB.out.mono (Nat.le_refl _)))
    have P2 := Lib.hid (R2.out.below (QB.out.mono (Nat.le_refl _)))
    clear q0 q1 q2 qb
    have c00 := Q0.out.cell0
    have c01 := Q0.out.cell1
    have c10 := Q1.out.cell0
    have c11 := Q1.out.cell1
    have c20 := Q2.out.cell0
    have c21 := Q2.out.cell1
    have lt0 := Q0.out.lt
    have lt1 := Q1.out.lt
    have lt2 := Q2.out.lt
    go_region_with (go_at_call 86; refine (plus_any _ _ a b _ (by exact P1.out.drew) (by exact P2.out.drew) (by omega) (by omega)).mono ?_; rintro e w1 ⟨v1, rfl, r1, b1⟩; obtain ⟨A3, c3, hv⟩ := r1.shape; subst hv; have z0 := (Q0.out.later (below_of_drew b1)); have z1 := Q1.out.later (below_of_drew b1); have z2 := Q2.out.later (below_of_drew b1); have d00 := z0.cell0; have d01 := z0.cell1; have d10 := z1.cell0; have d11 := z1.cell1; have d20 := z2.cell0; have d21 := z2.cell1; have f20 := z2.frozen 0; have f21 := z2.frozen 1; have k0 := z0.lt; have k1 := z1.lt; have k2 := z2.lt; have Z2 := Lib.hid z2; have RR := Lib.hid r1; have BB := Lib.hid (below_of_drew b1); clear r1 b1 z0 z1 z2)
    all_goals go_wp2
    all_goals
      obtain ⟨e0, er, eb⟩ := set_pair Z2.out (n := w.heap.size) (by omega) n1 A3 (groups (a + b)).length c3
      have g0 := e0.cell0
      have g1 := e0.cell1
      exact ⟨rfl, .agg #[.bool n1, .slice A3 (groups (a + b)).length c3], by simp [results, Tryz.f90, go_sem, g0, g1], _, n1, _, rfl, ⟨_, rfl, er _ _ RR.out⟩, sgn_add n1 a b, (QB.out.trans (BB.out.mono QB.out.size)).trans eb⟩
  · have hb : (n1 == n2) = false := by simpa using hs
    have HS := Lib.hid hs
    clear hs
    by_cases hab : b ≤ a
    · have hcm : decide (0 ≤ cmpZ a b) = true := by unfold cmpZ; split <;> simp <;> omega
      go_enter Tryz.func90, Tryz.ntmps90
      obtain ⟨q0, q1, q2, qb⟩ := three_boxes w 100 (.bool n1) (.slice A1 (groups a).length c1) (.bool n2) (.slice A2 (groups b).length c2) (.bool false) (.slice none 0 0)
      have Q0 := Lib.hid q0
      have Q1 := Lib.hid q1
      have Q2 := Lib.hid q2
      have QB := Lib.hid qb
      clear q0 q1 q2 qb
      go_wp2_with (go_at_call 80; refine (compare_any _ _ a b _ (by exact R1.out.below QB.out) (by exact R2.out.below QB.out)).mono ?_; rintro e wc ⟨rfl, bc⟩; have q0 := Q0.out.later bc; have q1 := Q1.out.later bc; have q2 := Q2.out.later bc; have qb := QB.out.trans (bc.mono QB.out.size); clear Q0 Q1 Q2 QB; have Q0 := Lib.hid q0; have Q1 := Lib.hid q1; have Q2 := Lib.hid q2; have QB := Lib.hid qb; clear q0 q1 q2 qb bc)
      have P1 := Lib.hid (R1.out.below QB.out)
      have P2 := Lib.hid (R2.out.below QB.out)
      have c00 := Q0.out.cell0
      have c01 := Q0.out.cell1
      have c10 := Q1.out.cell0
      have c11 := Q1.out.cell1
      have c20 := Q2.out.cell0
      have c21 := Q2.out.cell1
      have lt0 := Q0.out.lt
      have lt1 := Q1.out.lt
      have lt2 := Q2.out.lt
      go_region_with (go_at_call 88; refine (minus_any _ _ a b _ (by exact P1.out.drew) (by exact P2.out.drew) (by omega) hab).mono ?_; rintro e w1 ⟨v1, rfl, r1, b1⟩; obtain ⟨A3, c3, hv⟩ := r1.shape; subst hv; have z0 := (Q0.out.later (below_of_drew b1)); have z1 := Q1.out.later (below_of_drew b1); have z2 := Q2.out.later (below_of_drew b1); have d00 := z0.cell0; have d01 := z0.cell1; have d10 := z1.cell0; have d11 := z1.cell1; have d20 := z2.cell0; have d21 := z2.cell1; have f20 := z2.frozen 0; have f21 := z2.frozen 1; have k0 := z0.lt; have k1 := z1.lt; have k2 := z2.lt; have Z2 := Lib.hid z2; have RR := Lib.hid r1; have BB := Lib.hid (below_of_drew b1); clear r1 b1 z0 z1 z2)
      all_goals go_wp2
      all_goals
        obtain ⟨e0, er, eb⟩ := set_pair Z2.out (n := w.heap.size) (by omega) n1 A3 (groups (a - b)).length c3
        have g0 := e0.cell0
        have g1 := e0.cell1
        exact ⟨rfl, .agg #[.bool n1, .slice A3 (groups (a - b)).length c3], by simp [results, Tryz.f90, go_sem, g0, g1], _, n1, _, rfl, ⟨_, rfl, er _ _ RR.out⟩, sgn_sub n1 n2 a b HS.out hab, (QB.out.trans (BB.out.mono QB.out.size)).trans eb⟩
    · have hcm : decide (0 ≤ cmpZ a b) = false := by unfold cmpZ; split <;> simp <;> omega
      go_enter Tryz.func90, Tryz.ntmps90
      obtain ⟨q0, q1, q2, qb⟩ := three_boxes w 100 (.bool n1) (.slice A1 (groups a).length c1) (.bool n2) (.slice A2 (groups b).length c2) (.bool false) (.slice none 0 0)
      have Q0 := Lib.hid q0
      have Q1 := Lib.hid q1
      have Q2 := Lib.hid q2
      have QB := Lib.hid qb
      clear q0 q1 q2 qb
      go_wp2_with (go_at_call 80; refine (compare_any _ _ a b _ (by exact R1.out.below QB.out) (by exact R2.out.below QB.out)).mono ?_; rintro e wc ⟨rfl, bc⟩; have q0 := Q0.out.later bc; have q1 := Q1.out.later bc; have q2 := Q2.out.later bc; have qb := QB.out.trans (bc.mono QB.out.size); clear Q0 Q1 Q2 QB; have Q0 := Lib.hid q0; have Q1 := Lib.hid q1; have Q2 := Lib.hid q2; have QB := Lib.hid qb; clear q0 q1 q2 qb bc)
      have P1 := Lib.hid (R1.out.below QB.out)
      have P2 := Lib.hid (R2.out.below QB.out)
      have c00 := Q0.out.cell0
      have c01 := Q0.out.cell1
      have c10 := Q1.out.cell0
      have c11 := Q1.out.cell1
      have c20 := Q2.out.cell0
      have c21 := Q2.out.cell1
      have lt0 := Q0.out.lt
      have lt1 := Q1.out.lt
      have lt2 := Q2.out.lt
      go_region_with (go_at_call 88; refine (minus_any _ _ b a _ (by exact P2.out.drew) (by exact P1.out.drew) (by omega) (by omega)).mono ?_; rintro e w1 ⟨v1, rfl, r1, b1⟩; obtain ⟨A3, c3, hv⟩ := r1.shape; subst hv; have z0 := (Q0.out.later (below_of_drew b1)); have z1 := Q1.out.later (below_of_drew b1); have z2 := Q2.out.later (below_of_drew b1); have d00 := z0.cell0; have d01 := z0.cell1; have d10 := z1.cell0; have d11 := z1.cell1; have d20 := z2.cell0; have d21 := z2.cell1; have f20 := z2.frozen 0; have f21 := z2.frozen 1; have k0 := z0.lt; have k1 := z1.lt; have k2 := z2.lt; have Z2 := Lib.hid z2; have RR := Lib.hid r1; have BB := Lib.hid (below_of_drew b1); clear r1 b1 z0 z1 z2)
      all_goals go_wp2
      all_goals
        obtain ⟨e0, er, eb⟩ := set_pair Z2.out (n := w.heap.size) (by omega) n2 A3 (groups (b - a)).length c3
        have g0 := e0.cell0
        have g1 := e0.cell1
        exact ⟨rfl, .agg #[.bool n2, .slice A3 (groups (b - a)).length c3], by simp [results, Tryz.f90, go_sem, g0, g1], _, n2, _, rfl, ⟨_, rfl, er _ _ RR.out⟩, sgn_sub' n1 n2 a b HS.out (by omega), (QB.out.trans (BB.out.mono QB.out.size)).trans eb⟩
end Go.Proofs.YtfdjdmkpcdbmkaaGreatDoor
