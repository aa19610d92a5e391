/-
  integer.go: ToInt; what a call's start knows of the listed variables.
-/
import Derived.Test.YthbiafjdilbbnaaGreatDoorCG5
import Derived.Test.YthbiafjdilbbnaaGreatDoorCSPlusW
set_option linter.unusedVariables false
set_option linter.unusedSimpArgs false
namespace Go.Proofs.YthbiafjdilbbnaaGreatDoor
open Go.RowKit Go.Shelf Go.Lib

attribute [local go_sem] Oper.semAt_some

theorem var_on {P : Program} {w w' : World} {n : String} {cs : Array Value} (h : w.var? P n = some cs) (hb : Below w.heap.size w w') : w'.var? P n = some cs := by
  unfold World.var? at *
  cases hg : P.globalNamed n with
  | none => simp [hg] at h
  | some g =>
    simp only [hg, Option.bind_some] at h ⊢
    have hlt : g < w.heap.size := by
      rcases Nat.lt_or_ge g w.heap.size with h' | h'
      · exact h'
      · rw [Array.getElem?_eq_none h'] at h; simp at h
    rw [hb.block g hlt]
    exact h
/-- What the row lists, as the walks ask it. -/
structure Laid (w : World) : Prop where
  tab : Tab w
  syn : ∃ t p, w.var? Tryz.prog "strconv.ErrSyntax" = some #[.iface t p]
  rng : ∃ t p, w.var? Tryz.prog "strconv.ErrRange" = some #[.iface t p]
theorem Laid.on {w w' : World} (h : Laid w) (hb : Below w.heap.size w w') : Laid w' := by
  obtain ⟨t1, p1, h1⟩ := h.syn
  obtain ⟨t2, p2, h2⟩ := h.rng
  exact ⟨h.tab.on hb, ⟨t1, p1, var_on h1 hb⟩, ⟨t2, p2, var_on h2 hb⟩⟩

/-- Atoi, whatever it is given: a number and nil, or an error. -/
theorem atoi_any (s : List UInt8) (hs : s.length ≤ 281474976710656) (w : World) (hl : Laid w) :
    Calls Tryz.prog 57 #[.string ⟨s.toArray⟩] w fun e w' => (∃ n : Int, ∃ ev, e = .returned (.tuple #[.int .i64 n, ev]) ∧ ((ev = .nilIface ∧ atoiAll s = .ok n) ∨ ((∃ t p, ev = .iface t (.pointer (some ⟨p, 0, none⟩))) ∧ ∀ n, atoiAll s ≠ .ok n))) ∧ Below w.heap.size w w' := by
  obtain ⟨t1, p1, h1⟩ := hl.syn
  obtain ⟨t2, p2, h2⟩ := hl.rng
  have e0 : (ByteArray.mk s.toArray).data.toList = s := by simp
  have e1 : (ByteArray.mk s.toArray).size = s.length := by show s.toArray.size = _; simp
  rcases h : atoiAll s with n | _ | _
  · refine (Tryz.strconv_Atoi_ok ⟨s.toArray⟩ (by omega) n (by rw [e0]; exact h) w).mono ?_
    rintro e w' ⟨rfl, hw⟩
    refine ⟨⟨n, _, rfl, .inl ⟨rfl, rfl⟩⟩, ?_⟩
    rcases hw with rfl | ⟨t, rfl⟩
    · exact Below.refl _ _
    · exact Joins.below_bytesWorld _ w 5 t (Nat.le_refl _)
  · refine (Any.strconv_Atoi_syntax_var Tryz.laysC172 ⟨s.toArray⟩ (by omega) (by rw [e0]; exact h) t1 p1 w h1).mono ?_
    rintro e w' ⟨N, rfl, _, _, hb⟩
    exact ⟨⟨_, _, rfl, .inr ⟨⟨_, _, rfl⟩, fun n e => by cases e⟩⟩, hb⟩
  · refine (Any.strconv_Atoi_range_var Tryz.laysC172 ⟨s.toArray⟩ (by omega) (by rw [e0]; exact h) t2 p2 w h2).mono ?_
    rintro e w' ⟨N, rfl, _, _, hb⟩
    exact ⟨⟨_, _, rfl, .inr ⟨⟨_, _, rfl⟩, fun n e => by cases e⟩⟩, hb⟩

set_option maxRecDepth 100000 in
set_option maxHeartbeats 4000000 in
theorem toInt_any (s : List UInt8) (hs : s.length ≤ 281474976710656) (w : World) (hl : Laid w) :
    Calls Tryz.prog 31 #[.string ⟨s.toArray⟩] w fun e w' => e = .returned (.tuple #[.int .i64 (toIntS s).1, .int .i64 (toIntS s).2]) ∧ Below w.heap.size w w' := by
  have HS : Hid (s.length ≤ 281474976710656 ∧ s.length ≤ 9223372036854775807) := Lib.hid ⟨hs, by omega⟩
  have HL := Lib.hid hl
  have hv : ∀ z : Int, valid s = true → toZ s = z → atoiAll s = if small z = true then .ok z else .range := fun z h e => by
    obtain ⟨y, hy, rfl⟩ := of_valid h
    rw [toZ_str] at e; subst e
    exact atoiAll_str y
  clear hs hl
  cases hvs : valid s with
  | false =>
    have HT : Hid (toIntS s = (0, 30)) := Lib.hid (by unfold toIntS; rw [hvs]; rfl)
    have HV := Lib.hid hvs
    clear hvs hv
    go_enter Tryz.func31, Tryz.ntmps31
    go_wp2_with (first
      | (go_at_call 57; refine (atoi_any s HS.out.1 _ HL.out).mono ?_; rintro e w1 ⟨⟨n, ev, rfl, _⟩, b1⟩; have B1 := Lib.hid b1; clear b1)
      | (go_at_call 47; refine (isValid_any s HS.out.2 _).mono ?_; rintro e w2 ⟨rfl, b2⟩; rw [HV.out]; have B2 := Lib.hid (bthen B1.out b2); clear b2))
    go_ret2
    exact ⟨by rw [HT.out]; rfl, B2.out⟩
  | true =>
    have hat := hv _ hvs rfl
    cases hsm : small (toZ s) with
    | true =>
      have HT : Hid (toIntS s = (toZ s, 0)) := Lib.hid (by unfold toIntS; rw [hvs, hsm]; rfl)
      have HA : Hid (atoiAll s = .ok (toZ s)) := Lib.hid (by rw [hat, hsm]; rfl)
      have HV := Lib.hid hvs
      clear hvs hv hat hsm
      go_enter Tryz.func31, Tryz.ntmps31
      go_wp2_with (first
        | (go_at_call 57; refine (atoi_any s HS.out.1 _ HL.out).mono ?_; rintro e w1 ⟨⟨n, ev, rfl, h1⟩, b1⟩; have h2 : n = toZ s ∧ ev = .nilIface := by {
            rcases h1 with ⟨h1, h2⟩ | ⟨_, h2⟩
            · rw [HA.out] at h2; injection h2 with h2; exact ⟨h2.symm, h1⟩
            · exact absurd HA.out (h2 _) }; obtain ⟨rfl, rfl⟩ := h2; have B1 := Lib.hid b1; clear b1 h1)
        | (go_at_call 47; refine (isValid_any s HS.out.2 _).mono ?_; rintro e w2 ⟨rfl, b2⟩; rw [HV.out]; have B2 := Lib.hid (bthen B1.out b2); clear b2))
      go_ret2
      exact ⟨by rw [HT.out]; rfl, B2.out⟩
    | false =>
      have HT : Hid (toIntS s = (0, 30)) := Lib.hid (by unfold toIntS; rw [hvs, hsm]; rfl)
      have HA : Hid (∀ n, atoiAll s ≠ .ok n) := Lib.hid (by intro n; rw [hat, hsm]; intro h; cases h)
      have HV := Lib.hid hvs
      clear hvs hv hat hsm
      go_enter Tryz.func31, Tryz.ntmps31
      go_wp2_with (first
        | (go_at_call 57; refine (atoi_any s HS.out.1 _ HL.out).mono ?_; rintro e w1 ⟨⟨n, ev, rfl, h1⟩, b1⟩; have h2 : ∃ t p, ev = .iface t (.pointer (some ⟨p, 0, none⟩)) := by {
            rcases h1 with ⟨_, h2⟩ | ⟨h2, _⟩
            · exact absurd h2 (HA.out _)
            · exact h2 }; obtain ⟨tt, pp, rfl⟩ := h2; have B1 := Lib.hid b1; clear b1 h1)
        | (go_at_call 47; refine (isValid_any s HS.out.2 _).mono ?_; rintro e w2 ⟨rfl, b2⟩; rw [HV.out]; have B2 := Lib.hid (bthen B1.out b2); clear b2))
      go_ret2
      exact ⟨by rw [HT.out]; rfl, B2.out⟩
end Go.Proofs.YthbiafjdilbbnaaGreatDoor

/-
  Plain: the quotient and the remainder of two numbers, out of those of their sizes.
-/
namespace Go.Proofs.YthbiafjdilbbnaaGreatDoor

theorem div_unique {a b q r : Int} (h : r + b * q = a) (h0 : 0 ≤ r) (h1 : r < (b.natAbs : Int)) : a / b = q ∧ a % b = r := by
  rcases Int.lt_trichotomy b 0 with hb | hb | hb
  · have e := (Int.ediv_emod_unique (a := a) (b := -b) (r := r) (q := -q) (by omega)).2 ⟨by rw [Int.neg_mul_neg]; exact h, h0, by omega⟩
    rw [Int.ediv_neg, Int.emod_neg] at e
    exact ⟨by omega, e.2⟩
  · subst hb; simp at h1; omega
  · exact (Int.ediv_emod_unique hb).2 ⟨h, h0, by omega⟩
theorem sgn_nat (x : Nat) : sgn false x = x := rfl
/-- The three cases of the division. -/
theorem div_pos {X Y : Int} (hY : Y ≠ 0) (hX : decide (X < 0) = false) : X / Y = sgn (decide (Y < 0)) (X.natAbs / Y.natAbs) ∧ X % Y = sgn false (X.natAbs % Y.natAbs) := by
  rw [decide_eq_false_iff_not] at hX
  have hd := Nat.div_add_mod X.natAbs Y.natAbs
  have hm := Nat.mod_lt X.natAbs (show 0 < Y.natAbs by omega)
  generalize hq : X.natAbs / Y.natAbs = q at *
  generalize hr : X.natAbs % Y.natAbs = r at *
  have hd' : (Y.natAbs : Int) * q + r = X := by have := congrArg Int.ofNat hd; simp only [Int.ofNat_eq_natCast, Int.natCast_add, Int.natCast_mul] at this; omega
  refine div_unique ?_ (by unfold sgn; simp) (by unfold sgn; simp; omega)
  by_cases h : Y < 0
  · rw [decide_eq_true h]
    show (r : Int) + Y * (-(q : Int)) = X
    have e : (Y.natAbs : Int) = -Y := by omega
    rw [e] at hd'
    rw [Int.mul_neg, ← Int.neg_mul]; omega
  · rw [decide_eq_false h]
    show (r : Int) + Y * (q : Int) = X
    have e : (Y.natAbs : Int) = Y := by omega
    rw [e] at hd'
    omega
theorem div_neg {X Y : Int} (hY : Y ≠ 0) (hX : decide (X < 0) = true) (h0 : X.natAbs % Y.natAbs = 0) : X / Y = sgn (!decide (Y < 0)) (X.natAbs / Y.natAbs) ∧ X % Y = sgn false (X.natAbs % Y.natAbs) := by
  rw [decide_eq_true_eq] at hX
  have hd := Nat.div_add_mod X.natAbs Y.natAbs
  rw [h0] at hd ⊢
  generalize hq : X.natAbs / Y.natAbs = q at *
  have hd' : (Y.natAbs : Int) * q = -X := by have := congrArg Int.ofNat hd; simp only [Int.ofNat_eq_natCast, Int.natCast_add, Int.natCast_mul] at this; omega
  refine div_unique ?_ (by unfold sgn; simp) (by unfold sgn; simp; omega)
  by_cases h : Y < 0
  · rw [decide_eq_true h]
    show (0 : Int) + Y * (q : Int) = X
    have e : (Y.natAbs : Int) = -Y := by omega
    rw [e, Int.neg_mul] at hd'
    omega
  · rw [decide_eq_false h]
    show (0 : Int) + Y * (-(q : Int)) = X
    have e : (Y.natAbs : Int) = Y := by omega
    rw [e] at hd'
    rw [Int.mul_neg]; omega
theorem div_neg' {X Y : Int} (hY : Y ≠ 0) (hX : decide (X < 0) = true) (h0 : X.natAbs % Y.natAbs ≠ 0) : X / Y = sgn (!decide (Y < 0)) (X.natAbs / Y.natAbs + 1) ∧ X % Y = sgn false (Y.natAbs - X.natAbs % Y.natAbs) := by
  rw [decide_eq_true_eq] at hX
  have hd := Nat.div_add_mod X.natAbs Y.natAbs
  have hm := Nat.mod_lt X.natAbs (show 0 < Y.natAbs by omega)
  generalize hq : X.natAbs / Y.natAbs = q at *
  generalize hr : X.natAbs % Y.natAbs = r at *
  have hd' : (Y.natAbs : Int) * q + r = -X := by have := congrArg Int.ofNat hd; simp only [Int.ofNat_eq_natCast, Int.natCast_add, Int.natCast_mul] at this; omega
  have es : sgn false (Y.natAbs - r) = (Y.natAbs : Int) - r := by rw [sgn_nat]; omega
  rw [es]
  refine div_unique ?_ (by omega) (by omega)
  by_cases h : Y < 0
  · rw [decide_eq_true h]
    show (Y.natAbs : Int) - r + Y * ((q + 1 : Nat) : Int) = X
    have e : (Y.natAbs : Int) = -Y := by omega
    rw [e, Int.neg_mul] at hd'
    rw [e, Int.natCast_add, Int.mul_add]; omega
  · rw [decide_eq_false h]
    show (Y.natAbs : Int) - r + Y * (-((q + 1 : Nat) : Int)) = X
    have e : (Y.natAbs : Int) = Y := by omega
    rw [e] at hd'
    rw [e, Int.mul_neg, Int.natCast_add, Int.mul_add]; omega
theorem div_up_le {x y : Nat} (h0 : x % y ≠ 0) (hy : y ≠ 0) : x / y + 1 ≤ x := by
  have hd := Nat.div_add_mod x y
  have hm := Nat.mod_lt x (show 0 < y by omega)
  have : 1 * (x / y) ≤ y * (x / y) := Nat.mul_le_mul_right _ (by omega)
  omega
end Go.Proofs.YthbiafjdilbbnaaGreatDoor

/-
  integer.go: Div.
-/
namespace Go.Proofs.YthbiafjdilbbnaaGreatDoor
open Go.RowKit Go.Shelf Go.Lib

attribute [local go_sem] Oper.semAt_some

theorem one_any (w : World) : Calls Tryz.prog 44 #[] w (NumPost 1 w) := by
  have h1 : groups 1 = [1] := by rw [groups_small (by omega) (by omega)]; rfl
  have ho := World.ownsRow_lit (base := w.heap.size) (e := 3) (size := 1) w #[.int .i64 1] 1 (Nat.le_refl _) (by unfold maxLen; omega) rfl
  have hr : Row (w.alloc (.cells #[.int .i64 1] 3)) (.slice (some ⟨w.heap.size, 0, none⟩) 1 1) (groups 1) := by
    rw [h1]; exact Row.of_owns (xs := [1]) ho (by decide)
  have HR := Lib.hid hr
  clear h1 ho hr
  go_enter Tryz.func44, Tryz.ntmps44
  go_wp2
  go_ret
  exact ⟨_, rfl, HR.out, (Below.refl _ w).alloc (Nat.le_refl _) _⟩
theorem div_fits {X Y : Int} (h : X.natAbs < lim) : (X / Y).natAbs < lim := Nat.lt_of_le_of_lt (div_natAbs_le X) h
theorem mod_fits {X Y : Int} (hY : Y ≠ 0) (h : Y.natAbs < lim) : (X % Y).natAbs < lim := by
  have h1 := Int.emod_nonneg X hY
  have h2 := Int.emod_lt X hY
  omega
theorem gdiv {x y : Nat} (hx : x < lim) : (groups (x / y)).length ≤ 50 := glen (Nat.lt_of_le_of_lt (Nat.div_le_self x y) hx)

theorem text_is (n : Bool) (c : Nat) (z : Int) (v : Value) (w : World) (hv : SignedAs n c v w) (hz : z = sgn n c) (hl : z.natAbs < lim) (htab : Tab w) :
    Calls Tryz.prog 40 #[v] w fun e w' => e = .returned (.tuple #[bstr (str z), .int .i64 0]) ∧ Below w.heap.size w w' := by
  have hc : c < lim := by rw [← natAbs_sgn n c, ← hz]; exact hl
  have := text_any n c v w hv (Nat.le_trans (glen hc) (by omega)) htab
  rw [textOut_eq, ← hz, outS_ok hl] at this
  exact this

set_option maxRecDepth 100000 in
set_option maxHeartbeats 4000000 in
theorem div_a (s t : List UInt8) (hs : valid s = true) (ht : valid t = true) (hy0 : toZ t ≠ 0) (hx : decide (toZ s < 0) = false) (w : World) (htab : Tab w) :
    Calls Tryz.prog 17 #[.string ⟨s.toArray⟩, .string ⟨t.toArray⟩] w fun e w' => e = .returned (.tuple #[bstr (str (toZ s / toZ t)), bstr (str (toZ s % toZ t)), .int .i64 0]) ∧ Below w.heap.size w w' := by
  have HVS := Lib.hid hs
  have HVT := Lib.hid ht
  have HT := Lib.hid htab
  have gx := glen (toZ_lt hs)
  have gy := glen (toZ_lt ht)
  have gq := gdiv (y := (toZ t).natAbs) (toZ_lt hs)
  have HNX := Lib.hid hx
  have HY0 : Hid ((toZ t).natAbs ≠ 0) := Lib.hid (by omega)
  have HRM := Lib.hid (Nat.mod_lt (toZ s).natAbs (show 0 < (toZ t).natAbs by omega))
  have HDQ := Lib.hid (div_fits (Y := toZ t) (toZ_lt hs))
  have HDR := Lib.hid (mod_fits (X := toZ s) hy0 (toZ_lt ht))
  have HDV := Lib.hid (div_pos hy0 hx)
  clear hs ht htab hx hy0
  have gy0 : 0 < (groups (toZ t).natAbs).length := by
    rcases Nat.eq_zero_or_pos (groups (toZ t).natAbs).length with h | h
    · exact absurd (groups_eq_nil.1 (List.length_eq_zero_iff.1 h)) HY0.out
    · exact h
  have gyz : (((groups (toZ t).natAbs).length : Int) == 0) = false := beq_eq_false_iff_ne.2 (by omega)
  have gr := groups_length_mono (Nat.le_of_lt HRM.out)
  generalize hX : (toZ s).natAbs = x at *
  generalize hY : (toZ t).natAbs = y at *
  generalize hny : decide (toZ t < 0) = ny at *
  have HXE := Lib.hid hX
  have HYE := Lib.hid hY
  have HNY := Lib.hid hny
  clear hX hY hny
  go_enter Tryz.func17, Tryz.ntmps17
  go_wp2_with (first
    | (go_at_call 38; refine (both_yes _ _ HVS.out HVT.out _).mono ?_; rintro e w1 ⟨vx, vy, rfl, sx, sy, b1⟩; obtain ⟨dx, rfl, rx⟩ := sx; obtain ⟨dy, rfl, ry⟩ := sy; rw [HXE.out] at rx; rw [HYE.out] at ry; obtain ⟨Ax, cx, ex⟩ := rx.shape; obtain ⟨Ay, cy, ey⟩ := ry.shape; subst ex; subst ey; rw [HNX.out, HNY.out]; have B1 := Lib.hid b1; have RX := Lib.hid rx; have RY := Lib.hid ry; clear b1 rx ry)
    | (go_at_call 42; refine (over_any _ _ x y _ (by exact RX.out.below (two_below _ _ _ _ _ _)) (by exact RY.out.below (two_below _ _ _ _ _ _)) (by omega) (by have := HY0.out; omega) (by omega)).mono ?_; rintro e w2 ⟨vq, vr, rfl, rq, rr, b2⟩; obtain ⟨Aq, cq, eq⟩ := rq.shape; obtain ⟨Ar, cr, er⟩ := rr.shape; subst eq; subst er; have z0 := (boxed2_two w1 50 _ _ _ _).1.later b2; have z1 := (boxed2_two w1 50 _ _ _ _).2.1.later b2; have d00 := z0.cell0; have d01 := z0.cell1; have d10 := z1.cell0; have d11 := z1.cell1; have Z0 := Lib.hid z0; have Z1 := Lib.hid z1; have RQ := Lib.hid rq; have RR := Lib.hid rr; have B2 := Lib.hid (bthen B1.out (bthen (two_below _ _ _ _ _ _) b2)); clear rq rr b2 z0 z1))
  refine (text_is _ _ _ _ _ (by exact ⟨_, rfl, RQ.out⟩) HDV.out.1 HDQ.out (by exact HT.out.on B2.out)).mono ?_
  rintro e w7 ⟨rfl, b7⟩
  have B7 := Lib.hid (bthen B2.out b7)
  have RR7 := Lib.hid (RR.out.below b7)
  clear b7
  go_wp2_with (go_at_call 40; refine (text_is _ _ _ _ _ (by exact ⟨_, rfl, RR7.out⟩) HDV.out.2 HDR.out (by exact HT.out.on B7.out)).mono ?_; rintro e w8 ⟨rfl, b8⟩; have B8 := Lib.hid (bthen B7.out b8); clear b8)
  go_ret3
  exact ⟨rfl, B8.out⟩

set_option maxRecDepth 100000 in
set_option maxHeartbeats 4000000 in
theorem div_b (s t : List UInt8) (hs : valid s = true) (ht : valid t = true) (hy0 : toZ t ≠ 0) (hx : decide (toZ s < 0) = true) (hr : (toZ s).natAbs % (toZ t).natAbs = 0) (w : World) (htab : Tab w) :
    Calls Tryz.prog 17 #[.string ⟨s.toArray⟩, .string ⟨t.toArray⟩] w fun e w' => e = .returned (.tuple #[bstr (str (toZ s / toZ t)), bstr (str (toZ s % toZ t)), .int .i64 0]) ∧ Below w.heap.size w w' := by
  have HVS := Lib.hid hs
  have HVT := Lib.hid ht
  have HT := Lib.hid htab
  have gx := glen (toZ_lt hs)
  have gy := glen (toZ_lt ht)
  have gq := gdiv (y := (toZ t).natAbs) (toZ_lt hs)
  have HNX := Lib.hid hx
  have HY0 : Hid ((toZ t).natAbs ≠ 0) := Lib.hid (by omega)
  have HRM := Lib.hid (Nat.mod_lt (toZ s).natAbs (show 0 < (toZ t).natAbs by omega))
  have HDQ := Lib.hid (div_fits (Y := toZ t) (toZ_lt hs))
  have HDR := Lib.hid (mod_fits (X := toZ s) hy0 (toZ_lt ht))
  have HDV := Lib.hid (div_neg hy0 hx hr)
  have HR0 := Lib.hid hr
  clear hs ht htab hx hy0 hr
  have gy0 : 0 < (groups (toZ t).natAbs).length := by
    rcases Nat.eq_zero_or_pos (groups (toZ t).natAbs).length with h | h
    · exact absurd (groups_eq_nil.1 (List.length_eq_zero_iff.1 h)) HY0.out
    · exact h
  have gyz : (((groups (toZ t).natAbs).length : Int) == 0) = false := beq_eq_false_iff_ne.2 (by omega)
  have gr0 : (groups ((toZ s).natAbs % (toZ t).natAbs)).length = 0 := by rw [HR0.out, groups_zero]; rfl
  have gr := groups_length_mono (Nat.le_of_lt HRM.out)
  generalize hX : (toZ s).natAbs = x at *
  generalize hY : (toZ t).natAbs = y at *
  generalize hny : decide (toZ t < 0) = ny at *
  have HXE := Lib.hid hX
  have HYE := Lib.hid hY
  have HNY := Lib.hid hny
  clear hX hY hny
  have GR0 := Lib.hid gr0
  clear gr0
  go_enter Tryz.func17, Tryz.ntmps17
  go_wp2_with (first
    | (go_at_call 38; refine (both_yes _ _ HVS.out HVT.out _).mono ?_; rintro e w1 ⟨vx, vy, rfl, sx, sy, b1⟩; obtain ⟨dx, rfl, rx⟩ := sx; obtain ⟨dy, rfl, ry⟩ := sy; rw [HXE.out] at rx; rw [HYE.out] at ry; obtain ⟨Ax, cx, ex⟩ := rx.shape; obtain ⟨Ay, cy, ey⟩ := ry.shape; subst ex; subst ey; rw [HNX.out, HNY.out]; have B1 := Lib.hid b1; have RX := Lib.hid rx; have RY := Lib.hid ry; clear b1 rx ry)
    | (go_at_call 42; refine (over_any _ _ x y _ (by exact RX.out.below (two_below _ _ _ _ _ _)) (by exact RY.out.below (two_below _ _ _ _ _ _)) (by omega) (by have := HY0.out; omega) (by omega)).mono ?_; rintro e w2 ⟨vq, vr, rfl, rq, rr, b2⟩; obtain ⟨Aq, cq, eq⟩ := rq.shape; obtain ⟨Ar, cr, er⟩ := rr.shape; subst eq; subst er; rw [GR0.out] at rr ⊢; have z0 := (boxed2_two w1 50 _ _ _ _).1.later b2; have z1 := (boxed2_two w1 50 _ _ _ _).2.1.later b2; have d00 := z0.cell0; have d01 := z0.cell1; have d10 := z1.cell0; have d11 := z1.cell1; have Z0 := Lib.hid z0; have Z1 := Lib.hid z1; have RQ := Lib.hid rq; have RR := Lib.hid rr; have B2 := Lib.hid (bthen B1.out (bthen (two_below _ _ _ _ _ _) b2)); clear rq rr b2 z0 z1))
  refine (text_is _ _ _ _ _ (by exact ⟨_, rfl, RQ.out⟩) HDV.out.1 HDQ.out (by exact HT.out.on B2.out)).mono ?_
  rintro e w7 ⟨rfl, b7⟩
  have B7 := Lib.hid (bthen B2.out b7)
  have RR7 := Lib.hid (RR.out.below b7)
  clear b7
  go_wp2_with (go_at_call 40; refine (text_is _ _ _ _ _ (by exact ⟨_, rfl, RR7.out⟩) HDV.out.2 HDR.out (by exact HT.out.on B7.out)).mono ?_; rintro e w8 ⟨rfl, b8⟩; have B8 := Lib.hid (bthen B7.out b8); clear b8)
  go_ret3
  exact ⟨rfl, B8.out⟩

set_option maxRecDepth 100000 in
set_option maxHeartbeats 4000000 in
theorem div_c (s t : List UInt8) (hs : valid s = true) (ht : valid t = true) (hy0 : toZ t ≠ 0) (hx : decide (toZ s < 0) = true) (hr : (toZ s).natAbs % (toZ t).natAbs ≠ 0) (w : World) (htab : Tab w) :
    Calls Tryz.prog 17 #[.string ⟨s.toArray⟩, .string ⟨t.toArray⟩] w fun e w' => e = .returned (.tuple #[bstr (str (toZ s / toZ t)), bstr (str (toZ s % toZ t)), .int .i64 0]) ∧ Below w.heap.size w w' := by
  have HVS := Lib.hid hs
  have HVT := Lib.hid ht
  have HT := Lib.hid htab
  have gx := glen (toZ_lt hs)
  have gy := glen (toZ_lt ht)
  have gq := gdiv (y := (toZ t).natAbs) (toZ_lt hs)
  have HNX := Lib.hid hx
  have HY0 : Hid ((toZ t).natAbs ≠ 0) := Lib.hid (by omega)
  have HRM := Lib.hid (Nat.mod_lt (toZ s).natAbs (show 0 < (toZ t).natAbs by omega))
  have HDQ := Lib.hid (div_fits (Y := toZ t) (toZ_lt hs))
  have HDR := Lib.hid (mod_fits (X := toZ s) hy0 (toZ_lt ht))
  have HDV := Lib.hid (div_neg' hy0 hx hr)
  have HR0 := Lib.hid hr
  have G1 : Hid ((groups 1).length ≤ 500) := Lib.hid (by rw [groups_small (by omega) (by omega)]; simp)
  have gq1 := glen (Nat.lt_of_le_of_lt (div_up_le hr (by omega)) (toZ_lt hs))
  clear hs ht htab hx hy0 hr
  have gy0 : 0 < (groups (toZ t).natAbs).length := by
    rcases Nat.eq_zero_or_pos (groups (toZ t).natAbs).length with h | h
    · exact absurd (groups_eq_nil.1 (List.length_eq_zero_iff.1 h)) HY0.out
    · exact h
  have gyz : (((groups (toZ t).natAbs).length : Int) == 0) = false := beq_eq_false_iff_ne.2 (by omega)
  have gr0 : 0 < (groups ((toZ s).natAbs % (toZ t).natAbs)).length := by
    rcases Nat.eq_zero_or_pos (groups ((toZ s).natAbs % (toZ t).natAbs)).length with h | h
    · exact absurd (groups_eq_nil.1 (List.length_eq_zero_iff.1 h)) HR0.out
    · exact h
  have gr := groups_length_mono (Nat.le_of_lt HRM.out)
  generalize hX : (toZ s).natAbs = x at *
  generalize hY : (toZ t).natAbs = y at *
  generalize hny : decide (toZ t < 0) = ny at *
  have HXE := Lib.hid hX
  have HYE := Lib.hid hY
  have HNY := Lib.hid hny
  clear hX hY hny
  go_enter Tryz.func17, Tryz.ntmps17
  go_wp2_with (first
    | (go_at_call 38; refine (both_yes _ _ HVS.out HVT.out _).mono ?_; rintro e w1 ⟨vx, vy, rfl, sx, sy, b1⟩; obtain ⟨dx, rfl, rx⟩ := sx; obtain ⟨dy, rfl, ry⟩ := sy; rw [HXE.out] at rx; rw [HYE.out] at ry; obtain ⟨Ax, cx, ex⟩ := rx.shape; obtain ⟨Ay, cy, ey⟩ := ry.shape; subst ex; subst ey; rw [HNX.out, HNY.out]; have B1 := Lib.hid b1; have RX := Lib.hid rx; have RY := Lib.hid ry; clear b1 rx ry)
    | (go_at_call 42; refine (over_any _ _ x y _ (by exact RX.out.below (two_below _ _ _ _ _ _)) (by exact RY.out.below (two_below _ _ _ _ _ _)) (by omega) (by have := HY0.out; omega) (by omega)).mono ?_; rintro e w2 ⟨vq, vr, rfl, rq, rr, b2⟩; obtain ⟨Aq, cq, eq⟩ := rq.shape; obtain ⟨Ar, cr, er⟩ := rr.shape; subst eq; subst er; have z0 := (boxed2_two w1 50 _ _ _ _).1.later b2; have z1 := (boxed2_two w1 50 _ _ _ _).2.1.later b2; have d00 := z0.cell0; have d01 := z0.cell1; have d10 := z1.cell0; have d11 := z1.cell1; have Z0 := Lib.hid z0; have Z1 := Lib.hid z1; have RQ := Lib.hid rq; have RR := Lib.hid rr; have B22 := Lib.hid b2; have B2 := Lib.hid (bthen B1.out (bthen (two_below _ _ _ _ _ _) b2)); clear rq rr b2 z0 z1))
  have RY2 := Lib.hid (RY.out.below (bthen (two_below w1 50 (.bool true) (.slice Ax (groups x).length cx) (.bool ny) (.slice Ay (groups y).length cy)) B22.out))
  have BC : Hid (Below w2.heap.size w2 w2.drew) := Lib.hid (Below.refl _ w2).drew
  go_region_held3 (fun w' => w'.cell? ⟨w1.heap.size + 1, 1, none⟩ = some (.slice Ay (groups y).length cy))
    (first | assumption | go_keep)
    (first
      | (go_at_call 44; refine (one_any _).mono ?_; rintro e w4 ⟨v4, rfl, r4, b4⟩; obtain ⟨A4, c4, e4⟩ := r4.shape; subst e4; have BC4 := Lib.hid (bthen BC.out b4); clear BC; have BC := BC4; clear BC4; have d11a := (Z1.out.later BC.out).cell1; have R1 := Lib.hid r4; (try (have RM1 := Lib.hid (RM.out.below b4); clear RM; have RM := RM1; clear RM1)); clear r4 b4)
      | (go_at_call 43; refine (plus_any _ _ (x / y) 1 _ (by exact RQ.out.below BC.out) (by exact R1.out) (by omega) (by exact G1.out)).mono ?_; rintro e w5 ⟨v5, rfl, r5, b5⟩; obtain ⟨A5, c5, e5⟩ := r5.shape; subst e5; have BC5 := Lib.hid (bthen BC.out b5); clear BC; have BC := BC5; clear BC5; have d11b := (Z1.out.later BC.out).cell1; have RP := Lib.hid r5; (try (have RM1 := Lib.hid (RM.out.below b5); clear RM; have RM := RM1; clear RM1)); clear r5 b5)
      | (go_at_call 45; refine (minus_any _ _ y (x % y) _ (by exact RY2.out.below BC.out) (by exact RR.out.below BC.out) (by omega) (by exact Nat.le_of_lt HRM.out)).mono ?_; rintro e w6 ⟨v6, rfl, r6, b6⟩; obtain ⟨A6, c6, e6⟩ := r6.shape; subst e6; have BC6 := Lib.hid (bthen BC.out b6); clear BC; have BC := BC6; clear BC6; have d11c := (Z1.out.later BC.out).cell1; have RM := Lib.hid r6; (try (have R11 := Lib.hid (R1.out.below b6); clear R1; have R1 := R11; clear R11)); (try (have RP1 := Lib.hid (RP.out.below b6); clear RP; have RP := RP1; clear RP1)); clear r6 b6))
  all_goals
    have d00x := (Z0.out.later BC.out).cell0
    have d10x := (Z1.out.later BC.out).cell0
    have BX := Lib.hid (bthen B2.out BC.out)
    clear B2
    have B2 := BX
    clear BX
    go_wp2_with fail
    refine (text_is _ _ _ _ _ (by exact ⟨_, rfl, RP.out⟩) HDV.out.1 HDQ.out (by exact HT.out.on B2.out)).mono ?_
    rintro e w7 ⟨rfl, b7⟩
    have B7 := Lib.hid (bthen B2.out b7)
    have RR7 := Lib.hid (RM.out.below b7)
    clear b7
    go_wp2_with (go_at_call 40; refine (text_is _ _ _ _ _ (by exact ⟨_, rfl, RR7.out⟩) HDV.out.2 HDR.out (by exact HT.out.on B7.out)).mono ?_; rintro e w8 ⟨rfl, b8⟩; have B8 := Lib.hid (bthen B7.out b8); clear b8)
    go_ret3
    exact ⟨rfl, B8.out⟩

set_option maxRecDepth 100000 in
set_option maxHeartbeats 4000000 in
theorem div_no (s t : List UInt8) (hs : s.length ≤ 9223372036854775807) (ht : t.length ≤ 9223372036854775807) (h : (valid s && valid t) = false) (w : World) :
    Calls Tryz.prog 17 #[.string ⟨s.toArray⟩, .string ⟨t.toArray⟩] w fun e w' => e = .returned (.tuple #[bstr [], bstr [], .int .i64 30]) ∧ Below w.heap.size w w' := by
  have H := Lib.hid (And.intro hs (And.intro ht h))
  clear hs ht h
  go_enter Tryz.func17, Tryz.ntmps17
  go_wp2_with (go_at_call 38; refine (both_no _ _ H.out.1 H.out.2.1 H.out.2.2 _).mono ?_; rintro e w1 ⟨rfl, b1⟩; have B1 := Lib.hid b1; clear b1)
  go_ret3
  exact ⟨rfl, bthen B1.out (two_below _ _ _ _ _ _)⟩

set_option maxRecDepth 100000 in
set_option maxHeartbeats 4000000 in
theorem div_zero (s t : List UInt8) (hs : valid s = true) (ht : valid t = true) (hy0 : toZ t = 0) (w : World) :
    Calls Tryz.prog 17 #[.string ⟨s.toArray⟩, .string ⟨t.toArray⟩] w fun e w' => e = .returned (.tuple #[bstr [], bstr [], .int .i64 30]) ∧ Below w.heap.size w w' := by
  have HVS := Lib.hid hs
  have HVT := Lib.hid ht
  have HY0 : Hid ((groups (toZ t).natAbs).length = 0) := Lib.hid (by rw [hy0]; show (groups 0).length = 0; rw [groups_zero]; rfl)
  clear hs ht hy0
  go_enter Tryz.func17, Tryz.ntmps17
  go_wp2_with (go_at_call 38; refine (both_yes _ _ HVS.out HVT.out _).mono ?_; rintro e w1 ⟨vx, vy, rfl, sx, sy, b1⟩; obtain ⟨dx, rfl, rx⟩ := sx; obtain ⟨dy, rfl, ry⟩ := sy; obtain ⟨Ax, cx, ex⟩ := rx.shape; obtain ⟨Ay, cy, ey⟩ := ry.shape; subst ex; subst ey; rw [HY0.out]; have B1 := Lib.hid b1; clear b1 rx ry)
  go_ret3
  exact ⟨rfl, bthen B1.out (two_below _ _ _ _ _ _)⟩
theorem div_any (s t : List UInt8) (hs : s.length ≤ 9223372036854775807) (ht : t.length ≤ 9223372036854775807) (w : World) (htab : Tab w) :
    Calls Tryz.prog 17 #[.string ⟨s.toArray⟩, .string ⟨t.toArray⟩] w fun e w' => e = .returned (.tuple #[bstr (divS s t).1, bstr (divS s t).2.1, .int .i64 (divS s t).2.2]) ∧ Below w.heap.size w w' := by
  unfold divS
  cases h : (valid s && valid t) with
  | false => exact div_no s t hs ht h w
  | true =>
    rw [Bool.and_eq_true] at h
    by_cases hy : toZ t = 0
    · rw [Bool.true_and, if_neg (by simp [hy])]
      exact div_zero s t h.1 h.2 hy w
    · rw [Bool.true_and, if_pos (by simp [hy])]
      cases hx : decide (toZ s < 0) with
      | false => exact div_a s t h.1 h.2 hy hx w htab
      | true =>
        by_cases hr : (toZ s).natAbs % (toZ t).natAbs = 0
        · exact div_b s t h.1 h.2 hy hx hr w htab
        · exact div_c s t h.1 h.2 hy hx hr w htab
end Go.Proofs.YthbiafjdilbbnaaGreatDoor

/-
  integer.go: Root.
-/
namespace Go.Proofs.YthbiafjdilbbnaaGreatDoor
open Go.RowKit Go.Shelf Go.Lib

attribute [local go_sem] Oper.semAt_some

theorem two_any (w : World) : Row (w.alloc (.cells #[.int .i64 2] 3)) (.slice (some ⟨w.heap.size, 0, none⟩) 1 1) (groups 2) := by
  have h1 : groups 2 = [2] := by rw [groups_small (by omega) (by omega)]; rfl
  have ho := World.ownsRow_lit (base := w.heap.size) (e := 3) (size := 1) w #[.int .i64 2] 1 (Nat.le_refl _) (by unfold maxLen; omega) rfl
  rw [h1]; exact Row.of_owns (xs := [2]) ho (by decide)
theorem ten_pos (k : Nat) : 0 < 10000 ^ k := Nat.pow_pos (by omega)
theorem groups_pow_len (k : Nat) : (groups (10000 ^ k)).length = k + 1 := by rw [groups_pow]; simp
theorem cmpZ_ge (a b : Int) : decide (0 ≤ cmpZ a b) = decide (b ≤ a) := by
  unfold cmpZ
  split
  · rename_i h; rw [decide_eq_false (by omega), decide_eq_false (by omega)]
  · split <;> (rw [decide_eq_true (by omega), decide_eq_true (by omega)])
theorem isq_lim {x : Nat} (h : x < lim) : isq x < lim := Nat.lt_of_le_of_lt (isq_le x) h

set_option maxRecDepth 100000 in
set_option maxHeartbeats 4000000 in
theorem root_yes (s : List UInt8) (hs : valid s = true) (h0 : decide (toZ s < 0) = false) (w : World) (htab : Tab w) :
    Calls Tryz.prog 21 #[.string ⟨s.toArray⟩] w fun e w' => e = .returned (.tuple #[bstr (str (isq (toZ s).natAbs)), .int .i64 0]) ∧ Below w.heap.size w w' := by
  have v0 : valid [48] = true := by rw [← str_zero]; exact valid_str (by decide)
  have HVS := Lib.hid hs
  have HV0 := Lib.hid v0
  have HT := Lib.hid htab
  have HNX := Lib.hid h0
  have gx := glen (toZ_lt hs)
  have HL := Lib.hid (toZ_lt hs)
  clear hs v0 htab h0
  generalize hx : (toZ s).natAbs = x at *
  have HXE := Lib.hid hx
  clear hx
  obtain ⟨i0, hi, hz0, hz1, hz2⟩ := info_parts Tryz.info3
  obtain ⟨n, hn⟩ : ∃ n, n = ((groups x).length + 1) / 2 := ⟨_, rfl⟩
  have hn25 : n ≤ 25 := by omega
  have hmk : ∀ wx : World, (Instr.makeSlice 48 (.int .i64 (((groups x).length + 1 : Int) / 2)) (.int .i64 (((groups x).length + 1 : Int) / 2))).run Tryz.prog wx = .ok (.slice (some ⟨wx.heap.size, 0, none⟩) n n) (wx.alloc (.cells (madeCells #[.int .i64 0] n) 3)) := by
    intro wx
    have := run_make (P := Tryz.prog) wx 48 3 i0 (.int .i64 0) Tryz.underlying48 hi hz0 .i64 .i64 (n : Int) (n : Int) (by omega) (by omega) (by rw [hz2]; omega) (by omega)
    rw [hz1] at this
    rw [show (((groups x).length + 1 : Int) / 2) = (n : Int) by omega]
    simpa [Value.cells] using this
  have HN := Lib.hid hn
  clear hn
  go_enter Tryz.func21, Tryz.ntmps21
  go_wp2_with (first
    | (go_at_call 38; refine (both_yes _ [48] HVS.out HV0.out _).mono ?_; rintro e w1 ⟨vx, vy, rfl, sx, sy, b1⟩; obtain ⟨dx, rfl, rx⟩ := sx; obtain ⟨dy, rfl, ry⟩ := sy; rw [HXE.out] at rx; obtain ⟨Ax, cx, ex⟩ := rx.shape; obtain ⟨Ay, cy, ey⟩ := ry.shape; subst ex; subst ey; rw [HNX.out]; have q0 := (boxed2_two w1 50 (.bool false) (.slice Ax (groups x).length cx) (.bool (decide (toZ [48] < 0))) (.slice Ay (groups (toZ [48]).natAbs).length cy)).1; have qb := two_below w1 50 (.bool false) (.slice Ax (groups x).length cx) (.bool (decide (toZ [48] < 0))) (.slice Ay (groups (toZ [48]).natAbs).length cy); have QB := Lib.hid (bthen b1 qb); have HSZ := Lib.hid QB.out.size; have Q0 := Lib.hid q0; have RX2 := Lib.hid (rx.below qb); clear b1 rx ry q0 qb; have hown0 := World.ownsRow_lit (base := w.heap.size) (e := 3) (size := 1) ((w1.alloc (.cells #[.bool false, .slice Ax (groups x).length cx] 50)).alloc (.cells #[.bool (decide (toZ [48] < 0)), .slice Ay (groups (toZ [48]).natAbs).length cy] 50)) (madeCells #[.int .i64 0] n) n HSZ.out (by unfold maxLen; omega) (by simp [size_madeCells]); rw [madeCells_list, World.size_alloc, World.size_alloc] at hown0; have HOWN := Lib.hid (hown0.alloc (.cells #[.int .i64 1] 3)); clear hown0)
    | (at_builtin; refine wpList_append_own _ rfl (.tmp 29) (.tmp 30) 48 rfl w.heap.size 3 i0 (.int .i64 0) 1 8 Tryz.underlying48 hi hz0 hz1 hz2 rfl (by decide) _ n _ rfl HOWN.out ⟨w1.heap.size + 1 + 1 + 1, 0, none⟩ 1 1 [.int .i64 1] rfl rfl ?c1 ?c2 ?c3 ?c4 ?c5 ?_))
  case c1 =>
    have := one_at (((w1.alloc (.cells #[.bool false, .slice Ax (groups x).length cx] 50)).alloc (.cells #[.bool (decide (toZ [48] < 0)), .slice Ay (groups (toZ [48]).natAbs).length cy] 50)).alloc (.cells (madeCells #[.int .i64 0] n) 3)) (.int .i64 1) 3
    rw [World.size_alloc, World.size_alloc, World.size_alloc] at this
    exact this
  case c2 => intro u hu; simp at hu; subst hu; rfl
  case c3 => unfold maxLen; omega
  case c4 => omega
  case c5 => have := HSZ.out; simp at this ⊢; omega
  intro v' w3 hown hgrow _
  obtain ⟨A3, c3, hv3⟩ := own_shape hown
  subst hv3
  have hb3 : Below ((w1.alloc (.cells #[.bool false, .slice Ax (groups x).length cx] 50)).alloc (.cells #[.bool (decide (toZ [48] < 0)), .slice Ay (groups (toZ [48]).natAbs).length cy] 50)).heap.size ((w1.alloc (.cells #[.bool false, .slice Ax (groups x).length cx] 50)).alloc (.cells #[.bool (decide (toZ [48] < 0)), .slice Ay (groups (toZ [48]).natAbs).length cy] 50)) w3 := by
    refine (((Below.refl _ _).alloc (Nat.le_refl _) _).alloc (by simp) _).grown hgrow (by simp) (fun k e => ?_)
    simp [Value.ownBlock] at e
    subst e
    simp
  have hr0 : Row w3 (.slice A3 (n + 1) c3) (groups (10000 ^ n)) := by
    rw [groups_pow]; exact Row.of_owns (n := n + 1) (by simpa using hown) (by simp; omega)
  have hlen := groups_pow_len n
  have hisq := isq_start (x := x)
  rw [← HN.out] at hisq
  have hp := ten_pos n
  have hlim : 10000 ^ n < lim := by rw [lim_eq]; exact Nat.pow_lt_pow_right (by omega) (by omega)
  generalize 10000 ^ n = R0 at *
  rw [← hlen] at hr0 ⊢
  have q0 := Q0.out.later hb3
  have rx := RX2.out.below hb3
  have hB := bthen QB.out hb3
  have HR0 := Lib.hid hr0
  have HQ := Lib.hid q0
  have HX := Lib.hid rx
  have HB := Lib.hid hB
  have HI := Lib.hid (And.intro hp (And.intro hisq hlim))
  clear hr0 q0 rx hB hp hisq hlim hlen hb3 hown hgrow HOWN Q0 RX2 QB HSZ hmk hn25 HN hz0 hz1 hz2 hi
  go_wp2_with fail
  go_loopg [7] R0 (fun g rv wr => ∃ (r : Nat) (A : Option Addr) (c : Nat), rv = .slice A (groups r).length c ∧ Hid (Row wr (.slice A (groups r).length c) (groups r)) ∧ Hid (0 < r ∧ isq x ≤ r ∧ r < lim) ∧ Hid (g = r) ∧
    Hid (Boxed2 wr w1.heap.size 50 (.bool false) (.slice Ax (groups x).length cx)) ∧ Hid (Row wr (.slice Ax (groups x).length cx) (groups x)) ∧ Hid (Below w.heap.size w wr))
  case atStart => exact ⟨R0, _, _, rfl, HR0, HI, Lib.hid rfl, HQ, HX, HB⟩
  case round =>
    obtain ⟨r, A, c, rfl, hr, hin, hg, hq, hxr, hbw⟩ := hrel
    have c00 := hq.out.cell0
    have c01 := hq.out.cell1
    by_cases h0 : x = 0
    · have hx0 : (groups x).length = 0 := by rw [h0, groups_zero]; rfl
      have HE : Hid (bstr (str (isq x)) = bstr [48]) := Lib.hid (by rw [h0, ← str_zero]; rfl)
      generalize (groups x).length = lx at *
      subst hx0
      clear h0
      go_wp2_with fail
      go_ret2
      exact ⟨by rw [HE.out]; rfl, hbw.out⟩
    · have hx0 : 0 < (groups x).length := by
        rcases Nat.eq_zero_or_pos (groups x).length with h | h
        · exact absurd (groups_eq_nil.1 (List.length_eq_zero_iff.1 h)) h0
        · exact h
      have gr := glen hin.out.2.2
      have gq := gdiv (y := r) HL.out
      have gs := gsum (c := r + x / r) hin.out.2.2 (Nat.lt_of_le_of_lt (Nat.div_le_self x r) HL.out) (Nat.le_refl _)
      have HNG := Lib.hid (newton_ge x r hin.out.1)
      have hnext : Hid ((r + x / r) / 2 < lim ∧ 0 < (r + x / r) / 2) := Lib.hid (by
        have h1 := isq_pos (x := x) (by omega)
        have h2 := HNG.out
        refine ⟨?_, by omega⟩
        have h3 := hin.out.2.2
        have h4 := Nat.lt_of_le_of_lt (Nat.div_le_self x r) HL.out
        omega)
      have HH0 := Lib.hid h0
      have G2 : Hid ((groups 2).length ≤ 200) := Lib.hid (by rw [groups_small (by omega) (by omega)]; simp)
      clear h0
      generalize hnx : (r + x / r) / 2 = nx at *
      have HNE := Lib.hid hnx
      clear hnx
      by_cases hge : r ≤ nx
      · have hcm : decide (0 ≤ cmpZ (nx : Int) (r : Int)) = true := by rw [cmpZ_ge]; exact decide_eq_true (by omega)
        have HD := Lib.hid (newton_done hin.out.1 hin.out.2.1 (by rw [HNE.out]; exact hge))
        clear hge
        go_wp2_with (first
          | (go_at_call 42; first
            | (refine (over_any _ _ x r _ (by exact hxr.out) (by exact hr.out) (by omega) (by exact hin.out.1) (by omega)).mono ?_; rintro e w4 ⟨vq, vr, rfl, rq, rr, b4⟩; obtain ⟨Aq, cq, eq⟩ := rq.shape; subst eq; obtain ⟨Ar, cr, er⟩ := rr.shape; subst er; have RQ := Lib.hid rq; have RR4 := Lib.hid (hr.out.below b4); have BB := Lib.hid b4; clear rq rr b4)
            | (refine (over_any _ _ (r + x / r) 2 _ (by exact RS.out.below ((Below.refl _ _).alloc (Nat.le_refl _) _)) (by exact two_any _) (by omega) (by omega) (by exact G2.out)).mono ?_; rintro e w6 ⟨vq, vr, rfl, rq, rr, b6⟩; rw [HNE.out] at rq; obtain ⟨An, cn, en⟩ := rq.shape; subst en; obtain ⟨Am, cm, em⟩ := rr.shape; subst em; have b7 := bthen BB5.out (bthen ((Below.refl _ _).alloc (Nat.le_refl _) _) b6); have R5 := Lib.hid rq; have RR6 := Lib.hid (hr.out.below b7); have BB6 := Lib.hid b7; clear rq rr b6 b7))
          | (go_at_call 43; refine (plus_any _ _ r (x / r) _ (by exact RR4.out) (by exact RQ.out) (by omega) (by omega)).mono ?_; rintro e w5 ⟨v5, rfl, r5, b5⟩; obtain ⟨As, cs, es⟩ := r5.shape; subst es; have RS := Lib.hid r5; have BB5 := Lib.hid (bthen BB.out b5); clear r5 b5)
          | (go_at_call 46; refine (compare_any _ _ nx r _ (by exact R5.out) (by exact RR6.out)).mono ?_; rintro e w8 ⟨rfl, b8⟩; have BC := Lib.hid (bthen hbw.out (bthen BB6.out b8)); have RR8 := Lib.hid (RR6.out.below b8); have R58 := Lib.hid (R5.out.below b8); clear R5; have R5 := R58; clear R58; have HQ5 := Lib.hid (hq.out.later (bthen BB6.out b8)); have HX5 := Lib.hid (hxr.out.below (bthen BB6.out b8)); clear b8)
          | (go_at_call 40; refine (text_is false r r _ _ (by exact ⟨_, rfl, RR8.out⟩) rfl (by exact hin.out.2.2) (by exact HT.out.on BC.out)).mono ?_; rintro e w9 ⟨rfl, b9⟩; have B9 := Lib.hid (bthen BC.out b9); clear b9))
        go_ret2
        refine ⟨?_, B9.out⟩
        rw [← HD.out]
        rfl
      · have hcm : decide (0 ≤ cmpZ (nx : Int) (r : Int)) = false := by rw [cmpZ_ge]; exact decide_eq_false (by omega)
        have HD := Lib.hid hge
        clear hge
        go_wp2_with (first
          | (go_at_call 42; first
            | (refine (over_any _ _ x r _ (by exact hxr.out) (by exact hr.out) (by omega) (by exact hin.out.1) (by omega)).mono ?_; rintro e w4 ⟨vq, vr, rfl, rq, rr, b4⟩; obtain ⟨Aq, cq, eq⟩ := rq.shape; subst eq; obtain ⟨Ar, cr, er⟩ := rr.shape; subst er; have RQ := Lib.hid rq; have RR4 := Lib.hid (hr.out.below b4); have BB := Lib.hid b4; clear rq rr b4)
            | (refine (over_any _ _ (r + x / r) 2 _ (by exact RS.out.below ((Below.refl _ _).alloc (Nat.le_refl _) _)) (by exact two_any _) (by omega) (by omega) (by exact G2.out)).mono ?_; rintro e w6 ⟨vq, vr, rfl, rq, rr, b6⟩; rw [HNE.out] at rq; obtain ⟨An, cn, en⟩ := rq.shape; subst en; obtain ⟨Am, cm, em⟩ := rr.shape; subst em; have b7 := bthen BB5.out (bthen ((Below.refl _ _).alloc (Nat.le_refl _) _) b6); have R5 := Lib.hid rq; have RR6 := Lib.hid (hr.out.below b7); have BB6 := Lib.hid b7; clear rq rr b6 b7))
          | (go_at_call 43; refine (plus_any _ _ r (x / r) _ (by exact RR4.out) (by exact RQ.out) (by omega) (by omega)).mono ?_; rintro e w5 ⟨v5, rfl, r5, b5⟩; obtain ⟨As, cs, es⟩ := r5.shape; subst es; have RS := Lib.hid r5; have BB5 := Lib.hid (bthen BB.out b5); clear r5 b5)
          | (go_at_call 46; refine (compare_any _ _ nx r _ (by exact R5.out) (by exact RR6.out)).mono ?_; rintro e w8 ⟨rfl, b8⟩; have BC := Lib.hid (bthen hbw.out (bthen BB6.out b8)); have RR8 := Lib.hid (RR6.out.below b8); have R58 := Lib.hid (R5.out.below b8); clear R5; have R5 := R58; clear R58; have HQ5 := Lib.hid (hq.out.later (bthen BB6.out b8)); have HX5 := Lib.hid (hxr.out.below (bthen BB6.out b8)); clear b8))
        go_roundg nx
        case rel => exact ⟨_, _, _, rfl, R5, Lib.hid ⟨hnext.out.2, HNG.out, hnext.out.1⟩, Lib.hid rfl, HQ5, HX5, BC⟩
        case measure => have h1 := hg.out; have h2 := HD.out; omega

set_option maxRecDepth 100000 in
set_option maxHeartbeats 4000000 in
theorem root_no (s : List UInt8) (hs : s.length ≤ 9223372036854775807) (h : valid s = false) (w : World) :
    Calls Tryz.prog 21 #[.string ⟨s.toArray⟩] w fun e w' => e = .returned (.tuple #[bstr [], .int .i64 30]) ∧ Below w.heap.size w w' := by
  have H : Hid (s.length ≤ 9223372036854775807 ∧ [48].length ≤ 9223372036854775807 ∧ (valid s && valid [48]) = false) := Lib.hid ⟨hs, by simp, by rw [h]; rfl⟩
  clear hs h
  go_enter Tryz.func21, Tryz.ntmps21
  go_wp2_with (go_at_call 38; refine (both_no _ [48] H.out.1 H.out.2.1 H.out.2.2 _).mono ?_; rintro e w1 ⟨rfl, b1⟩; have B1 := Lib.hid b1; clear b1)
  go_ret2
  exact ⟨rfl, bthen B1.out (two_below _ _ _ _ _ _)⟩

set_option maxRecDepth 100000 in
set_option maxHeartbeats 4000000 in
theorem root_neg (s : List UInt8) (hs : valid s = true) (h0 : decide (toZ s < 0) = true) (w : World) :
    Calls Tryz.prog 21 #[.string ⟨s.toArray⟩] w fun e w' => e = .returned (.tuple #[bstr [], .int .i64 30]) ∧ Below w.heap.size w w' := by
  have v0 : valid [48] = true := by rw [← str_zero]; exact valid_str (by decide)
  have HVS := Lib.hid hs
  have HV0 := Lib.hid v0
  have HNX := Lib.hid h0
  clear hs v0 h0
  go_enter Tryz.func21, Tryz.ntmps21
  go_wp2_with (go_at_call 38; refine (both_yes _ [48] HVS.out HV0.out _).mono ?_; rintro e w1 ⟨vx, vy, rfl, sx, sy, b1⟩; obtain ⟨dx, rfl, rx⟩ := sx; obtain ⟨dy, rfl, ry⟩ := sy; obtain ⟨Ax, cx, ex⟩ := rx.shape; obtain ⟨Ay, cy, ey⟩ := ry.shape; subst ex; subst ey; rw [HNX.out]; have B1 := Lib.hid b1; clear b1 rx ry)
  go_ret2
  exact ⟨rfl, bthen B1.out (two_below _ _ _ _ _ _)⟩
theorem root_any (s : List UInt8) (hs : s.length ≤ 9223372036854775807) (w : World) (htab : Tab w) :
    Calls Tryz.prog 21 #[.string ⟨s.toArray⟩] w fun e w' => e = .returned (.tuple #[bstr (rootS s).1, .int .i64 (rootS s).2]) ∧ Below w.heap.size w w' := by
  unfold rootS
  cases h : valid s with
  | false => exact root_no s hs h w
  | true =>
    by_cases h0 : 0 ≤ toZ s
    · rw [Bool.true_and, if_pos (by simpa using h0)]
      exact root_yes s h (decide_eq_false (by omega)) w htab
    · rw [Bool.true_and, if_neg (by simpa using h0)]
      exact root_neg s h (decide_eq_true (by omega)) w
end Go.Proofs.YthbiafjdilbbnaaGreatDoor

/-
  Package integer's operations as plain functions on strings, each with its call's contract, in the form in which the printed texts use them.
-/
namespace Go.Proofs.YthbiafjdilbbnaaGreatDoor
open Go.RowKit Go.Shelf Go.Lib

/-- How long a string may be for these contracts. -/
def fit (a : ByteArray) : Prop := a.size ≤ 281474976710656
instance (a : ByteArray) : Decidable (fit a) := by unfold fit; infer_instance
def bl (a : ByteArray) : List UInt8 := a.data.toList
def lb (l : List UInt8) : ByteArray := ⟨l.toArray⟩
theorem lb_bl (a : ByteArray) : lb (bl a) = a := by unfold lb bl; simp
theorem bl_lb (l : List UInt8) : bl (lb l) = l := by unfold lb bl; simp
theorem bl_length (a : ByteArray) : (bl a).length = a.size := by unfold bl; simp
theorem lb_size (l : List UInt8) : (lb l).size = l.length := by unfold lb; show l.toArray.size = _; simp
theorem fit_le {a : ByteArray} (h : fit a) : (bl a).length ≤ 281474976710656 := by rw [bl_length]; exact h
theorem fit_le' {a : ByteArray} (h : fit a) : (bl a).length ≤ 9223372036854775807 := by have := fit_le h; omega

def integer_Add.f (a b : ByteArray) : Option (ByteArray × Int) := if fit a ∧ fit b then some (lb (addS (bl a) (bl b)).1, (addS (bl a) (bl b)).2) else none
theorem integer_Add.calls (a0 a1 : ByteArray) (r1 : ByteArray) (r2 : Int) (w : World) (hT : Laid w) (h : integer_Add.f a0 a1 = some (r1, r2)) :
    Calls Tryz.prog 14 #[.string a0, .string a1] w fun e w' => e = .returned (.tuple #[.string r1, .int .i64 r2]) ∧ Below w.heap.size w w' := by
  unfold integer_Add.f at h
  split at h
  · rename_i hf
    have := add_any (bl a0) (bl a1) (fit_le' hf.1) (fit_le' hf.2) w hT.tab
    rw [show (⟨(bl a0).toArray⟩ : ByteArray) = a0 from lb_bl a0, show (⟨(bl a1).toArray⟩ : ByteArray) = a1 from lb_bl a1] at this
    cases h
    exact this
  · cases h
def integer_Sub.f (a b : ByteArray) : Option (ByteArray × Int) := if fit a ∧ fit b then some (lb (subS (bl a) (bl b)).1, (subS (bl a) (bl b)).2) else none
theorem integer_Sub.calls (a0 a1 : ByteArray) (r1 : ByteArray) (r2 : Int) (w : World) (hT : Laid w) (h : integer_Sub.f a0 a1 = some (r1, r2)) :
    Calls Tryz.prog 16 #[.string a0, .string a1] w fun e w' => e = .returned (.tuple #[.string r1, .int .i64 r2]) ∧ Below w.heap.size w w' := by
  unfold integer_Sub.f at h
  split at h
  · rename_i hf
    have := sub_any (bl a0) (bl a1) (fit_le' hf.1) (fit_le' hf.2) w hT.tab
    rw [show (⟨(bl a0).toArray⟩ : ByteArray) = a0 from lb_bl a0, show (⟨(bl a1).toArray⟩ : ByteArray) = a1 from lb_bl a1] at this
    cases h
    exact this
  · cases h
def integer_Mul.f (a b : ByteArray) : Option (ByteArray × Int) := if fit a ∧ fit b then some (lb (mulS (bl a) (bl b)).1, (mulS (bl a) (bl b)).2) else none
theorem integer_Mul.calls (a0 a1 : ByteArray) (r1 : ByteArray) (r2 : Int) (w : World) (hT : Laid w) (h : integer_Mul.f a0 a1 = some (r1, r2)) :
    Calls Tryz.prog 15 #[.string a0, .string a1] w fun e w' => e = .returned (.tuple #[.string r1, .int .i64 r2]) ∧ Below w.heap.size w w' := by
  unfold integer_Mul.f at h
  split at h
  · rename_i hf
    have := mul_any (bl a0) (bl a1) (fit_le' hf.1) (fit_le' hf.2) w hT.tab
    rw [show (⟨(bl a0).toArray⟩ : ByteArray) = a0 from lb_bl a0, show (⟨(bl a1).toArray⟩ : ByteArray) = a1 from lb_bl a1] at this
    cases h
    exact this
  · cases h
def integer_Gcd.f (a b : ByteArray) : Option (ByteArray × Int) := if fit a ∧ fit b then some (lb (gcdS (bl a) (bl b)).1, (gcdS (bl a) (bl b)).2) else none
theorem integer_Gcd.calls (a0 a1 : ByteArray) (r1 : ByteArray) (r2 : Int) (w : World) (hT : Laid w) (h : integer_Gcd.f a0 a1 = some (r1, r2)) :
    Calls Tryz.prog 20 #[.string a0, .string a1] w fun e w' => e = .returned (.tuple #[.string r1, .int .i64 r2]) ∧ Below w.heap.size w w' := by
  unfold integer_Gcd.f at h
  split at h
  · rename_i hf
    have := gcd_any (bl a0) (bl a1) (fit_le' hf.1) (fit_le' hf.2) w hT.tab
    rw [show (⟨(bl a0).toArray⟩ : ByteArray) = a0 from lb_bl a0, show (⟨(bl a1).toArray⟩ : ByteArray) = a1 from lb_bl a1] at this
    cases h
    exact this
  · cases h
def integer_Div.f (a b : ByteArray) : Option (ByteArray × ByteArray × Int) := if fit a ∧ fit b then some (lb (divS (bl a) (bl b)).1, lb (divS (bl a) (bl b)).2.1, (divS (bl a) (bl b)).2.2) else none
theorem integer_Div.calls (a0 a1 : ByteArray) (r1 r2 : ByteArray) (r3 : Int) (w : World) (hT : Laid w) (h : integer_Div.f a0 a1 = some (r1, r2, r3)) :
    Calls Tryz.prog 17 #[.string a0, .string a1] w fun e w' => e = .returned (.tuple #[.string r1, .string r2, .int .i64 r3]) ∧ Below w.heap.size w w' := by
  unfold integer_Div.f at h
  split at h
  · rename_i hf
    have := div_any (bl a0) (bl a1) (fit_le' hf.1) (fit_le' hf.2) w hT.tab
    rw [show (⟨(bl a0).toArray⟩ : ByteArray) = a0 from lb_bl a0, show (⟨(bl a1).toArray⟩ : ByteArray) = a1 from lb_bl a1] at this
    cases h
    exact this
  · cases h
def integer_Root.f (a : ByteArray) : Option (ByteArray × Int) := if fit a then some (lb (rootS (bl a)).1, (rootS (bl a)).2) else none
theorem integer_Root.calls (a0 : ByteArray) (r1 : ByteArray) (r2 : Int) (w : World) (hT : Laid w) (h : integer_Root.f a0 = some (r1, r2)) :
    Calls Tryz.prog 21 #[.string a0] w fun e w' => e = .returned (.tuple #[.string r1, .int .i64 r2]) ∧ Below w.heap.size w w' := by
  unfold integer_Root.f at h
  split at h
  · rename_i hf
    have := root_any (bl a0) (fit_le' hf) w hT.tab
    rw [show (⟨(bl a0).toArray⟩ : ByteArray) = a0 from lb_bl a0] at this
    cases h
    exact this
  · cases h
def integer_ToInt.f (a : ByteArray) : Option (Int × Int) := if fit a then some ((toIntS (bl a)).1, (toIntS (bl a)).2) else none
theorem integer_ToInt.calls (a0 : ByteArray) (r1 r2 : Int) (w : World) (hT : Laid w) (h : integer_ToInt.f a0 = some (r1, r2)) :
    Calls Tryz.prog 31 #[.string a0] w fun e w' => e = .returned (.tuple #[.int .i64 r1, .int .i64 r2]) ∧ Below w.heap.size w w' := by
  unfold integer_ToInt.f at h
  split at h
  · rename_i hf
    have := toInt_any (bl a0) (fit_le hf) w hT
    rw [show (⟨(bl a0).toArray⟩ : ByteArray) = a0 from lb_bl a0] at this
    cases h
    exact this
  · cases h
def integer_Compare.f (a b : ByteArray) : Option Int := if fit a ∧ fit b then some (cmpS (bl a) (bl b)) else none
theorem integer_Compare.calls (a0 a1 : ByteArray) (r : Int) (w : World) (hT : Laid w) (h : integer_Compare.f a0 a1 = some r) :
    Calls Tryz.prog 18 #[.string a0, .string a1] w fun e w' => e = .returned (.int .i64 r) ∧ Below w.heap.size w w' := by
  unfold integer_Compare.f at h
  split at h
  · rename_i hf
    have := cmp_any (bl a0) (bl a1) (fit_le' hf.1) (fit_le' hf.2) w
    rw [show (⟨(bl a0).toArray⟩ : ByteArray) = a0 from lb_bl a0, show (⟨(bl a1).toArray⟩ : ByteArray) = a1 from lb_bl a1] at this
    cases h
    exact this
  · cases h
def integer_Valid.f (a : ByteArray) : Option Bool := if fit a then some (valid (bl a)) else none
theorem integer_Valid.calls (a0 : ByteArray) (r : Bool) (w : World) (hT : Laid w) (h : integer_Valid.f a0 = some r) :
    Calls Tryz.prog 19 #[.string a0] w fun e w' => e = .returned (.bool r) ∧ Below w.heap.size w w' := by
  unfold integer_Valid.f at h
  split at h
  · rename_i hf
    have := valid_any (bl a0) (fit_le' hf) w
    rw [show (⟨(bl a0).toArray⟩ : ByteArray) = a0 from lb_bl a0] at this
    cases h
    exact this
  · cases h
def integer_FromInt.f (n : Int) : Option ByteArray := if -9223372036854775808 ≤ n ∧ n ≤ 9223372036854775807 then some (lb (str n)) else none
theorem integer_FromInt.calls (a0 : Int) (r : ByteArray) (w : World) (hT : Laid w) (h : integer_FromInt.f a0 = some r) :
    Calls Tryz.prog 35 #[.int .i64 a0] w fun e w' => e = .returned (.string r) ∧ Below w.heap.size w w' := by
  unfold integer_FromInt.f at h
  split at h
  · rename_i hf
    have := fromInt_any a0 hf.1 hf.2 w hT.tab
    cases h
    exact this
  · cases h
end Go.Proofs.YthbiafjdilbbnaaGreatDoor
