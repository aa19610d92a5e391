/-
  Plain: the quotient and the remainder of two numbers, out of those of their sizes.
-/
import Derived.Test.YtfdjdmkpcdbmkaaGreatDoorCSPlusW
import Derived.Test.YtfdjdmkpcdbmkaaGreatDoorCG5
import Derived.Test.YtfdjdmkpcdbmkaaGreatDoorCLaid
set_option linter.unusedVariables false
set_option linter.unusedSimpArgs false
namespace Go.Proofs.YtfdjdmkpcdbmkaaGreatDoor

theorem div_unique {a b q r : Int} (h : r + b * q = a) (h0 : 0 ≤ r) (h1 : r < (b.natAbs : Int)) : a / b = q ∧ a % b = r := by
  rcases Int.lt_trichotomy b 0 with hb | hb | hb
  · have e := (Int.ediv_emod_unique (a := a) (b := -b) (r := r) (q := -q) (by omega)).2 ⟨by rw [Int.neg_mul_neg]; exact h, h0, by omega⟩
    rw [Int.ediv_neg, Int.emod_neg] at e
    exact ⟨by omega, e.2⟩
  · subst hb; simp at h1; omega
  · exact (Int.ediv_emod_unique hb).2 ⟨h, h0, by omega⟩
theorem sgn_nat (x : Nat) : sgn false x = x := rfl
/-- The three cases of the division. -/
theorem div_pos {X Y : Int} (hY : Y ≠ 0) (hX : decide (X < 0) = false) : X / Y = sgn (decide (Y < 0)) (X.natAbs / Y.natAbs) ∧ X % Y = sgn false (X.natAbs % Y.natAbs) := by
  rw [decide_eq_false_iff_not] at hX
  have hd := Nat.div_add_mod X.natAbs Y.natAbs
  have hm := Nat.mod_lt X.natAbs (show 0 < Y.natAbs by omega)
  generalize hq : X.natAbs / Y.natAbs = q at *
  generalize hr : X.natAbs % Y.natAbs = r at *
  have hd' : (Y.natAbs : Int) * q + r = X := by have := congrArg Int.ofNat hd; simp only [Int.ofNat_eq_natCast, Int.natCast_add, Int.natCast_mul] at this; omega
  refine div_unique ?_ (by unfold sgn; simp) (by unfold sgn; simp; omega)
  by_cases h : Y < 0
  · rw [decide_eq_true h]
    show (r : Int) + Y * (-(q : Int)) = X
    have e : (Y.natAbs : Int) = -Y := by omega
    rw [e] at hd'
    rw [Int.mul_neg, ← Int.neg_mul]; omega
  · rw [decide_eq_false h]
    show (r : Int) + Y * (q : Int) = X
    have e : (Y.natAbs : Int) = Y := by omega
    rw [e] at hd'
    omega
theorem div_neg {X Y : Int} (hY : Y ≠ 0) (hX : decide (X < 0) = true) (h0 : X.natAbs % Y.natAbs = 0) : X / Y = sgn (!decide (Y < 0)) (X.natAbs / Y.natAbs) ∧ X % Y = sgn false (X.natAbs % Y.natAbs) := by
  rw [decide_eq_true_eq] at hX
  have hd := Nat.div_add_mod X.natAbs Y.natAbs
  rw [h0] at hd ⊢
  generalize hq : X.natAbs / Y.natAbs = q at *
  have hd' : (Y.natAbs : Int) * q = -X := by have := congrArg Int.ofNat hd; simp only [Int.ofNat_eq_natCast, Int.natCast_add, Int.natCast_mul] at this; omega
  refine div_unique ?_ (by unfold sgn; simp) (by unfold sgn; simp; omega)
  by_cases h : Y < 0
  · rw [decide_eq_true h]
    show (0 : Int) + Y * (q : Int) = X
    have e : (Y.natAbs : Int) = -Y := by omega
    rw [e, Int.neg_mul] at hd'
    omega
  · rw [decide_eq_false h]
    show (0 : Int) + Y * (-(q : Int)) = X
    have e : (Y.natAbs : Int) = Y := by omega
    rw [e] at hd'
    rw [Int.mul_neg]; omega
theorem div_neg' {X Y : Int} (hY : Y ≠ 0) (hX : decide (X < 0) = true) (h0 : X.natAbs % Y.natAbs ≠ 0) : X / Y = sgn (!decide (Y < 0)) (X.natAbs / Y.natAbs + 1) ∧ X % Y = sgn false (Y.natAbs - X.natAbs % Y.natAbs) := by
  rw [decide_eq_true_eq] at hX
  have hd := Nat.div_add_mod X.natAbs Y.natAbs
  have hm := Nat.mod_lt X.natAbs (show 0 < Y.natAbs by omega)
  generalize hq : X.natAbs / Y.natAbs = q at *
  generalize hr : X.natAbs % Y.natAbs = r at *
  have hd' : (Y.natAbs : Int) * q + r = -X := by have := congrArg Int.ofNat hd; simp only [Int.ofNat_eq_natCast, Int.natCast_add, Int.natCast_mul] at this; omega
  have es : sgn false (Y.natAbs - r) = (Y.natAbs : Int) - r := by rw [sgn_nat]; omega
  rw [es]
  refine div_unique ?_ (by omega) (by omega)
  by_cases h : Y < 0
  · rw [decide_eq_true h]
    show (Y.natAbs : Int) - r + Y * ((q + 1 : Nat) : Int) = X
    have e : (Y.natAbs : Int) = -Y := by omega
    rw [e, Int.neg_mul] at hd'
    rw [e, Int.natCast_add, Int.mul_add]; omega
  · rw [decide_eq_false h]
    show (Y.natAbs : Int) - r + Y * (-((q + 1 : Nat) : Int)) = X
    have e : (Y.natAbs : Int) = Y := by omega
    rw [e] at hd'
    rw [e, Int.mul_neg, Int.natCast_add, Int.mul_add]; omega
theorem div_up_le {x y : Nat} (h0 : x % y ≠ 0) (hy : y ≠ 0) : x / y + 1 ≤ x := by
  have hd := Nat.div_add_mod x y
  have hm := Nat.mod_lt x (show 0 < y by omega)
  have : 1 * (x / y) ≤ y * (x / y) := Nat.mul_le_mul_right _ (by omega)
  omega
end Go.Proofs.YtfdjdmkpcdbmkaaGreatDoor

/-
  integer.go: Div.
-/
namespace Go.Proofs.YtfdjdmkpcdbmkaaGreatDoor
open Go.RowKit Go.Shelf Go.Lib

attribute [local go_sem] Oper.semAt_some

theorem one_any (w : World) : Calls Tryz.prog 87 #[] w (NumPost 1 w) := by
  have h1 : groups 1 = [1] := by rw [groups_small (by omega) (by omega)]; rfl
  have ho := World.ownsRow_lit (base := w.heap.size) (e := 3) (size := 1) w #[.int .i64 1] 1 (Nat.le_refl _) (by unfold maxLen; omega) rfl
  have hr : Row (w.alloc (.cells #[.int .i64 1] 3)) (.slice (some ⟨w.heap.size, 0, none⟩) 1 1) (groups 1) := by
    rw [h1]; exact Row.of_owns (xs := [1]) ho (by decide)
  have HR := Lib.hid hr
  clear h1 ho hr
  go_enter Tryz.func87, Tryz.ntmps87
  go_wp2
  go_ret
  exact ⟨_, rfl, HR.out, (Below.refl _ w).alloc (Nat.le_refl _) _⟩
theorem div_fits {X Y : Int} (h : X.natAbs < lim) : (X / Y).natAbs < lim := Nat.lt_of_le_of_lt (div_natAbs_le X) h
theorem mod_fits {X Y : Int} (hY : Y ≠ 0) (h : Y.natAbs < lim) : (X % Y).natAbs < lim := by
  have h1 := Int.emod_nonneg X hY
  have h2 := Int.emod_lt X hY
  omega
theorem gdiv {x y : Nat} (hx : x < lim) : (groups (x / y)).length ≤ 50 := glen (Nat.lt_of_le_of_lt (Nat.div_le_self x y) hx)

theorem text_is (n : Bool) (c : Nat) (z : Int) (v : Value) (w : World) (hv : SignedAs n c v w) (hz : z = sgn n c) (hl : z.natAbs < lim) (htab : Tab w) :
    Calls Tryz.prog 82 #[v] w fun e w' => e = .returned (.tuple #[bstr (str z), .int .i64 0]) ∧ Below w.heap.size w w' := by
  have hc : c < lim := by rw [← natAbs_sgn n c, ← hz]; exact hl
  have := text_any n c v w hv (Nat.le_trans (glen hc) (by omega)) htab
  rw [textOut_eq, ← hz, outS_ok hl] at this
  exact this

set_option maxRecDepth 100000 in
set_option maxHeartbeats 4000000 in
theorem div_a (s t : List UInt8) (hs : valid s = true) (ht : valid t = true) (hy0 : toZ t ≠ 0) (hx : decide (toZ s < 0) = false) (w : World) (htab : Tab w) :
    Calls Tryz.prog 58 #[.string ⟨s.toArray⟩, .string ⟨t.toArray⟩] w fun e w' => e = .returned (.tuple #[bstr (str (toZ s / toZ t)), bstr (str (toZ s % toZ t)), .int .i64 0]) ∧ Below w.heap.size w w' := by
  have HVS := Lib.hid hs
  have HVT := Lib.hid ht
  have HT := Lib.hid htab
  have gx := glen (toZ_lt hs)
  have gy := glen (toZ_lt ht)
  have gq := gdiv (y := (toZ t).natAbs) (toZ_lt hs)
  have HNX := Lib.hid hx
  have HY0 : Hid ((toZ t).natAbs ≠ 0) := Lib.hid (by omega)
  have HRM := Lib.hid (Nat.mod_lt (toZ s).natAbs (show 0 < (toZ t).natAbs by omega))
  have HDQ := Lib.hid (div_fits (Y := toZ t) (toZ_lt hs))
  have HDR := Lib.hid (mod_fits (X := toZ s) hy0 (toZ_lt ht))
  have HDV := Lib.hid (div_pos hy0 hx)
  clear hs ht htab hx hy0
  have gy0 : 0 < (groups (toZ t).natAbs).length := by
    rcases Nat.eq_zero_or_pos (groups (toZ t).natAbs).length with h | h
    · exact absurd (groups_eq_nil.1 (List.length_eq_zero_iff.1 h)) HY0.out
    · exact h
  have gyz : (((groups (toZ t).natAbs).length : Int) == 0) = false := beq_eq_false_iff_ne.2 (by omega)
  have gr := groups_length_mono (Nat.le_of_lt HRM.out)
  generalize hX : (toZ s).natAbs = x at *
  generalize hY : (toZ t).natAbs = y at *
  generalize hny : decide (toZ t < 0) = ny at *
  have HXE := Lib.hid hX
  have HYE := Lib.hid hY
  have HNY := Lib.hid hny
  clear hX hY hny
  go_enter Tryz.func58, Tryz.ntmps58
  go_wp2_with (first
    | (go_at_call 79; refine (both_yes _ _ HVS.out HVT.out _).mono ?_; rintro e w1 ⟨vx, vy, rfl, sx, sy, b1⟩; obtain ⟨dx, rfl, rx⟩ := sx; obtain ⟨dy, rfl, ry⟩ := sy; rw [HXE.out] at rx; rw [HYE.out] at ry; obtain ⟨Ax, cx, ex⟩ := rx.shape; obtain ⟨Ay, cy, ey⟩ := ry.shape; subst ex; subst ey; rw [HNX.out, HNY.out]; have B1 := Lib.hid b1; have RX := Lib.hid rx; have RY := Lib.hid ry; clear b1 rx ry)
    | (go_at_call 81; refine (over_any _ _ x y _ (by exact RX.out.below (two_below _ _ _ _ _ _)) (by exact RY.out.below (two_below _ _ _ _ _ _)) (by omega) (by have := HY0.out; omega) (by omega)).mono ?_; rintro e w2 ⟨vq, vr, rfl, rq, rr, b2⟩; obtain ⟨Aq, cq, eq⟩ := rq.shape; obtain ⟨Ar, cr, er⟩ := rr.shape; subst eq; subst er; have z0 := (boxed2_two w1 100 _ _ _ _).1.later b2; have z1 := (boxed2_two w1 100 _ _ _ _).2.1.later b2; have d00 := z0.cell0; have d01 := z0.cell1; have d10 := z1.cell0; have d11 := z1.cell1; have Z0 := Lib.hid z0; have Z1 := Lib.hid z1; have RQ := Lib.hid rq; have RR := Lib.hid rr; have B2 := Lib.hid (bthen B1.out (bthen (two_below _ _ _ _ _ _) b2)); clear rq rr b2 z0 z1))
  refine (text_is _ _ _ _ _ (by exact ⟨_, rfl, RQ.out⟩) HDV.out.1 HDQ.out (by exact HT.out.on B2.out)).mono ?_
  rintro e w7 ⟨rfl, b7⟩
  have B7 := Lib.hid (bthen B2.out b7)
  have RR7 := Lib.hid (RR.out.below b7)
  clear b7
  go_wp2_with (go_at_call 82; refine (text_is _ _ _ _ _ (by exact ⟨_, rfl, RR7.out⟩) HDV.out.2 HDR.out (by exact HT.out.on B7.out)).mono ?_; rintro e w8 ⟨rfl, b8⟩; have B8 := Lib.hid (bthen B7.out b8); clear b8)
  go_ret3
  exact ⟨rfl, B8.out⟩

set_option maxRecDepth 100000 in
set_option maxHeartbeats 4000000 in
theorem div_b (s t : List UInt8) (hs : valid s = true) (ht : valid t = true) (hy0 : toZ t ≠ 0) (hx : decide (toZ s < 0) = true) (hr : (toZ s).natAbs % (toZ t).natAbs = 0) (w : World) (htab : Tab w) :
    Calls Tryz.prog 58 #[.string ⟨s.toArray⟩, .string ⟨t.toArray⟩] w fun e w' => e = .returned (.tuple #[bstr (str (toZ s / toZ t)), bstr (str (toZ s % toZ t)), .int .i64 0]) ∧ Below w.heap.size w w' := by
  have HVS := Lib.hid hs
  have HVT := Lib.hid ht
  have HT := Lib.hid htab
  have gx := glen (toZ_lt hs)
  have gy := glen (toZ_lt ht)
  have gq := gdiv (y := (toZ t).natAbs) (toZ_lt hs)
  have HNX := Lib.hid hx
  have HY0 : Hid ((toZ t).natAbs ≠ 0) := Lib.hid (by omega)
  have HRM := Lib.hid (Nat.mod_lt (toZ s).natAbs (show 0 < (toZ t).natAbs by omega))
  have HDQ := Lib.hid (div_fits (Y := toZ t) (toZ_lt hs))
  have HDR := Lib.hid (mod_fits (X := toZ s) hy0 (toZ_lt ht))
  have HDV := Lib.hid (div_neg hy0 hx hr)
  have HR0 := Lib.hid hr
  clear hs ht htab hx hy0 hr
  have gy0 : 0 < (groups (toZ t).natAbs).length := by
    rcases Nat.eq_zero_or_pos (groups (toZ t).natAbs).length with h | h
    · exact absurd (groups_eq_nil.1 (List.length_eq_zero_iff.1 h)) HY0.out
    · exact h
  have gyz : (((groups (toZ t).natAbs).length : Int) == 0) = false := beq_eq_false_iff_ne.2 (by omega)
  have gr0 : (groups ((toZ s).natAbs % (toZ t).natAbs)).length = 0 := by rw [HR0.out, groups_zero]; rfl
  have gr := groups_length_mono (Nat.le_of_lt HRM.out)
  generalize hX : (toZ s).natAbs = x at *
  generalize hY : (toZ t).natAbs = y at *
  generalize hny : decide (toZ t < 0) = ny at *
  have HXE := Lib.hid hX
  have HYE := Lib.hid hY
  have HNY := Lib.hid hny
  clear hX hY hny
  have GR0 := Lib.hid gr0
  clear gr0
  go_enter Tryz.func58, Tryz.ntmps58
  go_wp2_with (first
    | (go_at_call 79; refine (both_yes _ _ HVS.out HVT.out _).mono ?_; rintro e w1 ⟨vx, vy, rfl, sx, sy, b1⟩; obtain ⟨dx, rfl, rx⟩ := sx; obtain ⟨dy, rfl, ry⟩ := sy; rw [HXE.out] at rx; rw [HYE.out] at ry; obtain ⟨Ax, cx, ex⟩ := rx.shape; obtain ⟨Ay, cy, ey⟩ := ry.shape; subst ex; subst ey; rw [HNX.out, HNY.out]; have B1 := Lib.hid b1; have RX := Lib.hid rx; have RY := Lib.hid ry; clear b1 rx ry)
    | (go_at_call 81; refine (over_any _ _ x y _ (by exact RX.out.below (two_below _ _ _ _ _ _)) (by exact RY.out.below (two_below _ _ _ _ _ _)) (by omega) (by have := HY0.out; omega) (by omega)).mono ?_; rintro e w2 ⟨vq, vr, rfl, rq, rr, b2⟩; obtain ⟨Aq, cq, eq⟩ := rq.shape; obtain ⟨Ar, cr, er⟩ := rr.shape; subst eq; subst er; rw [GR0.out] at rr ⊢; have z0 := (boxed2_two w1 100 _ _ _ _).1.later b2; have z1 := (boxed2_two w1 100 _ _ _ _).2.1.later b2; have d00 := z0.cell0; have d01 := z0.cell1; have d10 := z1.cell0; have d11 := z1.cell1; have Z0 := Lib.hid z0; have Z1 := Lib.hid z1; have RQ := Lib.hid rq; have RR := Lib.hid rr; have B2 := Lib.hid (bthen B1.out (bthen (two_below _ _ _ _ _ _) b2)); clear rq rr b2 z0 z1))
  refine (text_is _ _ _ _ _ (by exact ⟨_, rfl, RQ.out⟩) HDV.out.1 HDQ.out (by exact HT.out.on B2.out)).mono ?_
  rintro e w7 ⟨rfl, b7⟩
  have B7 := Lib.hid (bthen B2.out b7)
  have RR7 := Lib.hid (RR.out.below b7)
  clear b7
  go_wp2_with (go_at_call 82; refine (text_is _ _ _ _ _ (by exact ⟨_, rfl, RR7.out⟩) HDV.out.2 HDR.out (by exact HT.out.on B7.out)).mono ?_; rintro e w8 ⟨rfl, b8⟩; have B8 := Lib.hid (bthen B7.out b8); clear b8)
  go_ret3
  exact ⟨rfl, B8.out⟩

set_option maxRecDepth 100000 in
set_option maxHeartbeats 4000000 in
theorem div_c (s t : List UInt8) (hs : valid s = true) (ht : valid t = true) (hy0 : toZ t ≠ 0) (hx : decide (toZ s < 0) = true) (hr : (toZ s).natAbs % (toZ t).natAbs ≠ 0) (w : World) (htab : Tab w) :
    Calls Tryz.prog 58 #[.string ⟨s.toArray⟩, .string ⟨t.toArray⟩] w fun e w' => e = .returned (.tuple #[bstr (str (toZ s / toZ t)), bstr (str (toZ s % toZ t)), .int .i64 0]) ∧ Below w.heap.size w w' := by
  have HVS := Lib.hid hs
  have HVT := Lib.hid ht
  have HT := Lib.hid htab
  have gx := glen (toZ_lt hs)
  have gy := glen (toZ_lt ht)
  have gq := gdiv (y := (toZ t).natAbs) (toZ_lt hs)
  have HNX := Lib.hid hx
  have HY0 : Hid ((toZ t).natAbs ≠ 0) := Lib.hid (by omega)
  have HRM := Lib.hid (Nat.mod_lt (toZ s).natAbs (show 0 < (toZ t).natAbs by omega))
  have HDQ := Lib.hid (div_fits (Y := toZ t) (toZ_lt hs))
  have HDR := Lib.hid (mod_fits (X := toZ s) hy0 (toZ_lt ht))
  have HDV := Lib.hid (div_neg' hy0 hx hr)
  have HR0 := Lib.hid hr
  have G1 : Hid ((groups 1).length ≤ 500) := Lib.hid (by rw [groups_small (by omega) (by omega)]; simp)
  have gq1 := glen (Nat.lt_of_le_of_lt (div_up_le hr (by omega)) (toZ_lt hs))
  clear hs ht htab hx hy0 hr
  have gy0 : 0 < (groups (toZ t).natAbs).length := by
    rcases Nat.eq_zero_or_pos (groups (toZ t).natAbs).length with h | h
    · exact absurd (groups_eq_nil.1 (List.length_eq_zero_iff.1 h)) HY0.out
    · exact h
  have gyz : (((groups (toZ t).natAbs).length : Int) == 0) = false := beq_eq_false_iff_ne.2 (by omega)
  have gr0 : 0 < (groups ((toZ s).natAbs % (toZ t).natAbs)).length := by
    rcases Nat.eq_zero_or_pos (groups ((toZ s).natAbs % (toZ t).natAbs)).length with h | h
    · exact absurd (groups_eq_nil.1 (List.length_eq_zero_iff.1 h)) HR0.out
    · exact h
  have gr := groups_length_mono (Nat.le_of_lt HRM.out)
  generalize hX : (toZ s).natAbs = x at *
  generalize hY : (toZ t).natAbs = y at *
  generalize hny : decide (toZ t < 0) = ny at *
  have HXE := Lib.hid hX
  have HYE := Lib.hid hY
  have HNY := Lib.hid hny
  clear hX hY hny
  go_enter Tryz.func58, Tryz.ntmps58
  go_wp2_with (first
    | (go_at_call 79; refine (both_yes _ _ HVS.out HVT.out _).mono ?_; rintro e w1 ⟨vx, vy, rfl, sx, sy, b1⟩; obtain ⟨dx, rfl, rx⟩ := sx; obtain ⟨dy, rfl, ry⟩ := sy; rw [HXE.out] at rx; rw [HYE.out] at ry; obtain ⟨Ax, cx, ex⟩ := rx.shape; obtain ⟨Ay, cy, ey⟩ := ry.shape; subst ex; subst ey; rw [HNX.out, HNY.out]; have B1 := Lib.hid b1; have RX := Lib.hid rx; have RY := Lib.hid ry; clear b1 rx ry)
    | (go_at_call 81; refine (over_any _ _ x y _ (by exact RX.out.below (two_below _ _ _ _ _ _)) (by exact RY.out.below (two_below _ _ _ _ _ _)) (by omega) (by have := HY0.out; omega) (by omega)).mono ?_; rintro e w2 ⟨vq, vr, rfl, rq, rr, b2⟩; obtain ⟨Aq, cq, eq⟩ := rq.shape; obtain ⟨Ar, cr, er⟩ := rr.shape; subst eq; subst er; have z0 := (boxed2_two w1 100 _ _ _ _).1.later b2; have z1 := (boxed2_two w1 100 _ _ _ _).2.1.later b2; have d00 := z0.cell0; have d01 := z0.cell1; have d10 := z1.cell0; have d11 := z1.cell1; have Z0 := Lib.hid z0; have Z1 := Lib.hid z1; have RQ := Lib.hid rq; have RR := Lib.hid rr; have B22 := Lib.hid b2; have B2 := Lib.hid (bthen B1.out (bthen (two_below _ _ _ _ _ _) b2)); clear rq rr b2 z0 z1))
  have RY2 := Lib.hid (RY.out.below (bthen (two_below w1 100 (.bool true) (.slice Ax (groups x).length cx) (.bool ny) (.slice Ay (groups y).length cy)) B22.out))
  have BC : Hid (Below w2.heap.size w2 w2.drew) := Lib.hid (Below.refl _ w2).drew
  go_region_held3 (fun w' => w'.cell? ⟨w1.heap.size + 1, 1, none⟩ = some (.slice Ay (groups y).length cy))
    (first | assumption | go_keep)
    (first
      | (go_at_call 87; refine (one_any _).mono ?_; rintro e w4 ⟨v4, rfl, r4, b4⟩; obtain ⟨A4, c4, e4⟩ := r4.shape; subst e4; have BC4 := Lib.hid (bthen BC.out b4); clear BC; have BC := BC4; clear BC4; have d11a := (Z1.out.later BC.out).cell1; have R1 := Lib.hid r4; (try (have RM1 := Lib.hid (RM.out.below b4); clear RM; have RM := RM1; clear RM1)); clear r4 b4)
      | (go_at_call 86; refine (plus_any _ _ (x / y) 1 _ (by exact RQ.out.below BC.out) (by exact R1.out) (by omega) (by exact G1.out)).mono ?_; rintro e w5 ⟨v5, rfl, r5, b5⟩; obtain ⟨A5, c5, e5⟩ := r5.shape; subst e5; have BC5 := Lib.hid (bthen BC.out b5); clear BC; have BC := BC5; clear BC5; have d11b := (Z1.out.later BC.out).cell1; have RP := Lib.hid r5; (try (have RM1 := Lib.hid (RM.out.below b5); clear RM; have RM := RM1; clear RM1)); clear r5 b5)
      | (go_at_call 88; refine (minus_any _ _ y (x % y) _ (by exact RY2.out.below BC.out) (by exact RR.out.below BC.out) (by omega) (by exact Nat.le_of_lt HRM.out)).mono ?_; rintro e w6 ⟨v6, rfl, r6, b6⟩; obtain ⟨A6, c6, e6⟩ := r6.shape; subst e6; have BC6 := Lib.hid (bthen BC.out b6); clear BC; have BC := BC6; clear BC6; have d11c := (Z1.out.later BC.out).cell1; have RM := Lib.hid r6; (try (have R11 := Lib.hid (R1.out.below b6); clear R1; have R1 := R11; clear R11)); (try (have RP1 := Lib.hid (RP.out.below b6); clear RP; have RP := RP1; clear RP1)); clear r6 b6))
  all_goals
    have d00x := (Z0.out.later BC.out).cell0
    have d10x := (Z1.out.later BC.out).cell0
    have BX := Lib.hid (bthen B2.out BC.out)
    clear B2
    have B2 := BX
    clear BX
    go_wp2_with fail
    refine (text_is _ _ _ _ _ (by exact ⟨_, rfl, RP.out⟩) HDV.out.1 HDQ.out (by exact HT.out.on B2.out)).mono ?_
    rintro e w7 ⟨rfl, b7⟩
    have B7 := Lib.hid (bthen B2.out b7)
    have RR7 := Lib.hid (RM.out.below b7)
    clear b7
    go_wp2_with (go_at_call 82; refine (text_is _ _ _ _ _ (by exact ⟨_, rfl, RR7.out⟩) HDV.out.2 HDR.out (by exact HT.out.on B7.out)).mono ?_; rintro e w8 ⟨rfl, b8⟩; have B8 := Lib.hid (bthen B7.out b8); clear b8)
    go_ret3
    exact ⟨rfl, B8.out⟩

set_option maxRecDepth 100000 in
set_option maxHeartbeats 4000000 in
theorem div_no (s t : List UInt8) (hs : s.length ≤ 9223372036854775807) (ht : t.length ≤ 9223372036854775807) (h : (valid s && valid t) = false) (w : World) :
    Calls Tryz.prog 58 #[.string ⟨s.toArray⟩, .string ⟨t.toArray⟩] w fun e w' => e = .returned (.tuple #[bstr [], bstr [], .int .i64 30]) ∧ Below w.heap.size w w' := by
  have H := Lib.hid (And.intro hs (And.intro ht h))
  clear hs ht h
  go_enter Tryz.func58, Tryz.ntmps58
  go_wp2_with (go_at_call 79; refine (both_no _ _ H.out.1 H.out.2.1 H.out.2.2 _).mono ?_; rintro e w1 ⟨rfl, b1⟩; have B1 := Lib.hid b1; clear b1)
  go_ret3
  exact ⟨rfl, bthen B1.out (two_below _ _ _ _ _ _)⟩

set_option maxRecDepth 100000 in
set_option maxHeartbeats 4000000 in
theorem div_zero (s t : List UInt8) (hs : valid s = true) (ht : valid t = true) (hy0 : toZ t = 0) (w : World) :
    Calls Tryz.prog 58 #[.string ⟨s.toArray⟩, .string ⟨t.toArray⟩] w fun e w' => e = .returned (.tuple #[bstr [], bstr [], .int .i64 30]) ∧ Below w.heap.size w w' := by
  have HVS := Lib.hid hs
  have HVT := Lib.hid ht
  have HY0 : Hid ((groups (toZ t).natAbs).length = 0) := Lib.hid (by rw [hy0]; show (groups 0).length = 0; rw [groups_zero]; rfl)
  clear hs ht hy0
  go_enter Tryz.func58, Tryz.ntmps58
  go_wp2_with (go_at_call 79; refine (both_yes _ _ HVS.out HVT.out _).mono ?_; rintro e w1 ⟨vx, vy, rfl, sx, sy, b1⟩; obtain ⟨dx, rfl, rx⟩ := sx; obtain ⟨dy, rfl, ry⟩ := sy; obtain ⟨Ax, cx, ex⟩ := rx.shape; obtain ⟨Ay, cy, ey⟩ := ry.shape; subst ex; subst ey; rw [HY0.out]; have B1 := Lib.hid b1; clear b1 rx ry)
  go_ret3
  exact ⟨rfl, bthen B1.out (two_below _ _ _ _ _ _)⟩
theorem div_any (s t : List UInt8) (hs : s.length ≤ 9223372036854775807) (ht : t.length ≤ 9223372036854775807) (w : World) (htab : Tab w) :
    Calls Tryz.prog 58 #[.string ⟨s.toArray⟩, .string ⟨t.toArray⟩] w fun e w' => e = .returned (.tuple #[bstr (divS s t).1, bstr (divS s t).2.1, .int .i64 (divS s t).2.2]) ∧ Below w.heap.size w w' := by
  unfold divS
  cases h : (valid s && valid t) with
  | false => exact div_no s t hs ht h w
  | true =>
    rw [Bool.and_eq_true] at h
    by_cases hy : toZ t = 0
    · rw [Bool.true_and, if_neg (by simp [hy])]
      exact div_zero s t h.1 h.2 hy w
    · rw [Bool.true_and, if_pos (by simp [hy])]
      cases hx : decide (toZ s < 0) with
      | false => exact div_a s t h.1 h.2 hy hx w htab
      | true =>
        by_cases hr : (toZ s).natAbs % (toZ t).natAbs = 0
        · exact div_b s t h.1 h.2 hy hx hr w htab
        · exact div_c s t h.1 h.2 hy hx hr w htab
end Go.Proofs.YtfdjdmkpcdbmkaaGreatDoor

/-
  Package integer's operations as plain functions on strings, each with its call's contract, in the form in which the printed texts use them.
-/
namespace Go.Proofs.YtfdjdmkpcdbmkaaGreatDoor
open Go.RowKit Go.Shelf Go.Lib

/-- How long a string may be for these contracts. -/
def fit (a : ByteArray) : Prop := a.size ≤ 281474976710656
instance (a : ByteArray) : Decidable (fit a) := by unfold fit; infer_instance
def bl (a : ByteArray) : List UInt8 := a.data.toList
def lb (l : List UInt8) : ByteArray := ⟨l.toArray⟩
theorem lb_bl (a : ByteArray) : lb (bl a) = a := by unfold lb bl; simp
theorem bl_lb (l : List UInt8) : bl (lb l) = l := by unfold lb bl; simp
theorem bl_length (a : ByteArray) : (bl a).length = a.size := by unfold bl; simp
theorem lb_size (l : List UInt8) : (lb l).size = l.length := by unfold lb; show l.toArray.size = _; simp
theorem fit_le {a : ByteArray} (h : fit a) : (bl a).length ≤ 281474976710656 := by rw [bl_length]; exact h
theorem fit_le' {a : ByteArray} (h : fit a) : (bl a).length ≤ 9223372036854775807 := by have := fit_le h; omega

def integer_Add.f (a b : ByteArray) : Option (ByteArray × Int) := if fit a ∧ fit b then some (lb (addS (bl a) (bl b)).1, (addS (bl a) (bl b)).2) else none
theorem integer_Add.calls (a0 a1 : ByteArray) (r1 : ByteArray) (r2 : Int) (w : World) (hT : Laid w) (h : integer_Add.f a0 a1 = some (r1, r2)) :
    Calls Tryz.prog 62 #[.string a0, .string a1] w fun e w' => e = .returned (.tuple #[.string r1, .int .i64 r2]) ∧ Below w.heap.size w w' := by
  unfold integer_Add.f at h
  split at h
  · rename_i hf
    have := add_any (bl a0) (bl a1) (fit_le' hf.1) (fit_le' hf.2) w hT.tab
    rw [show (⟨(bl a0).toArray⟩ : ByteArray) = a0 from lb_bl a0, show (⟨(bl a1).toArray⟩ : ByteArray) = a1 from lb_bl a1] at this
    cases h
    exact this
  · cases h
def integer_Sub.f (a b : ByteArray) : Option (ByteArray × Int) := if fit a ∧ fit b then some (lb (subS (bl a) (bl b)).1, (subS (bl a) (bl b)).2) else none
theorem integer_Sub.calls (a0 a1 : ByteArray) (r1 : ByteArray) (r2 : Int) (w : World) (hT : Laid w) (h : integer_Sub.f a0 a1 = some (r1, r2)) :
    Calls Tryz.prog 73 #[.string a0, .string a1] w fun e w' => e = .returned (.tuple #[.string r1, .int .i64 r2]) ∧ Below w.heap.size w w' := by
  unfold integer_Sub.f at h
  split at h
  · rename_i hf
    have := sub_any (bl a0) (bl a1) (fit_le' hf.1) (fit_le' hf.2) w hT.tab
    rw [show (⟨(bl a0).toArray⟩ : ByteArray) = a0 from lb_bl a0, show (⟨(bl a1).toArray⟩ : ByteArray) = a1 from lb_bl a1] at this
    cases h
    exact this
  · cases h
def integer_Mul.f (a b : ByteArray) : Option (ByteArray × Int) := if fit a ∧ fit b then some (lb (mulS (bl a) (bl b)).1, (mulS (bl a) (bl b)).2) else none
theorem integer_Mul.calls (a0 a1 : ByteArray) (r1 : ByteArray) (r2 : Int) (w : World) (hT : Laid w) (h : integer_Mul.f a0 a1 = some (r1, r2)) :
    Calls Tryz.prog 89 #[.string a0, .string a1] w fun e w' => e = .returned (.tuple #[.string r1, .int .i64 r2]) ∧ Below w.heap.size w w' := by
  unfold integer_Mul.f at h
  split at h
  · rename_i hf
    have := mul_any (bl a0) (bl a1) (fit_le' hf.1) (fit_le' hf.2) w hT.tab
    rw [show (⟨(bl a0).toArray⟩ : ByteArray) = a0 from lb_bl a0, show (⟨(bl a1).toArray⟩ : ByteArray) = a1 from lb_bl a1] at this
    cases h
    exact this
  · cases h
def integer_Gcd.f (a b : ByteArray) : Option (ByteArray × Int) := if fit a ∧ fit b then some (lb (gcdS (bl a) (bl b)).1, (gcdS (bl a) (bl b)).2) else none
theorem integer_Gcd.calls (a0 a1 : ByteArray) (r1 : ByteArray) (r2 : Int) (w : World) (hT : Laid w) (h : integer_Gcd.f a0 a1 = some (r1, r2)) :
    Calls Tryz.prog 51 #[.string a0, .string a1] w fun e w' => e = .returned (.tuple #[.string r1, .int .i64 r2]) ∧ Below w.heap.size w w' := by
  unfold integer_Gcd.f at h
  split at h
  · rename_i hf
    have := gcd_any (bl a0) (bl a1) (fit_le' hf.1) (fit_le' hf.2) w hT.tab
    rw [show (⟨(bl a0).toArray⟩ : ByteArray) = a0 from lb_bl a0, show (⟨(bl a1).toArray⟩ : ByteArray) = a1 from lb_bl a1] at this
    cases h
    exact this
  · cases h
def integer_Div.f (a b : ByteArray) : Option (ByteArray × ByteArray × Int) := if fit a ∧ fit b then some (lb (divS (bl a) (bl b)).1, lb (divS (bl a) (bl b)).2.1, (divS (bl a) (bl b)).2.2) else none
theorem integer_Div.calls (a0 a1 : ByteArray) (r1 r2 : ByteArray) (r3 : Int) (w : World) (hT : Laid w) (h : integer_Div.f a0 a1 = some (r1, r2, r3)) :
    Calls Tryz.prog 58 #[.string a0, .string a1] w fun e w' => e = .returned (.tuple #[.string r1, .string r2, .int .i64 r3]) ∧ Below w.heap.size w w' := by
  unfold integer_Div.f at h
  split at h
  · rename_i hf
    have := div_any (bl a0) (bl a1) (fit_le' hf.1) (fit_le' hf.2) w hT.tab
    rw [show (⟨(bl a0).toArray⟩ : ByteArray) = a0 from lb_bl a0, show (⟨(bl a1).toArray⟩ : ByteArray) = a1 from lb_bl a1] at this
    cases h
    exact this
  · cases h
def integer_Compare.f (a b : ByteArray) : Option Int := if fit a ∧ fit b then some (cmpS (bl a) (bl b)) else none
theorem integer_Compare.calls (a0 a1 : ByteArray) (r : Int) (w : World) (hT : Laid w) (h : integer_Compare.f a0 a1 = some r) :
    Calls Tryz.prog 50 #[.string a0, .string a1] w fun e w' => e = .returned (.int .i64 r) ∧ Below w.heap.size w w' := by
  unfold integer_Compare.f at h
  split at h
  · rename_i hf
    have := cmp_any (bl a0) (bl a1) (fit_le' hf.1) (fit_le' hf.2) w
    rw [show (⟨(bl a0).toArray⟩ : ByteArray) = a0 from lb_bl a0, show (⟨(bl a1).toArray⟩ : ByteArray) = a1 from lb_bl a1] at this
    cases h
    exact this
  · cases h
def integer_Valid.f (a : ByteArray) : Option Bool := if fit a then some (valid (bl a)) else none
theorem integer_Valid.calls (a0 : ByteArray) (r : Bool) (w : World) (hT : Laid w) (h : integer_Valid.f a0 = some r) :
    Calls Tryz.prog 49 #[.string a0] w fun e w' => e = .returned (.bool r) ∧ Below w.heap.size w w' := by
  unfold integer_Valid.f at h
  split at h
  · rename_i hf
    have := valid_any (bl a0) (fit_le' hf) w
    rw [show (⟨(bl a0).toArray⟩ : ByteArray) = a0 from lb_bl a0] at this
    cases h
    exact this
  · cases h
def integer_FromInt.f (n : Int) : Option ByteArray := if -9223372036854775808 ≤ n ∧ n ≤ 9223372036854775807 then some (lb (str n)) else none
theorem integer_FromInt.calls (a0 : Int) (r : ByteArray) (w : World) (hT : Laid w) (h : integer_FromInt.f a0 = some r) :
    Calls Tryz.prog 72 #[.int .i64 a0] w fun e w' => e = .returned (.string r) ∧ Below w.heap.size w w' := by
  unfold integer_FromInt.f at h
  split at h
  · rename_i hf
    have := fromInt_any a0 hf.1 hf.2 w hT.tab
    cases h
    exact this
  · cases h
end Go.Proofs.YtfdjdmkpcdbmkaaGreatDoor
