/-
  IntegerCommon: the law's walk.
-/
import Derived.Test.YthbiafjdilbbnaaGreatDoorCLawC
set_option linter.unusedVariables false
set_option linter.unusedSimpArgs false
namespace Go.Proofs.YthbiafjdilbbnaaGreatDoor.integerCommon
open Go.RowKit Go.Lib Go.Proofs.YthbiafjdilbbnaaGreatDoorW.PrintWords Go.Proofs.YthbiafjdilbbnaaGreatDoorW.PrintLast

theorem tests {a : Int} (h : a ≠ 0) : ((S a).toList == ([48] : List UInt8)) = false ∧ ((S a).toList != ([48] : List UInt8)) = true ∧ ¬ (S a).toList = ([48] : List UInt8) := by
  have h1 : ¬ (S a).toList = ([48] : List UInt8) := fun e => h (S_zero.1 e)
  refine ⟨beq_eq_false_iff_ne.2 h1, bne_iff_ne.2 h1, h1⟩

theorem gcd_is (a b : Int) (G : Nat) (hg : Int.gcd a b = G) (w : World) (hT : Laid w) (ha : a.natAbs < lim) (hb : b.natAbs < lim) :
    Calls Tryz.prog 20 #[.string (S a), .string (S b)] w fun e w' => e = .returned (.tuple #[.string (S (G : Int)), .int .i64 0]) ∧ Below w.heap.size w w' := by
  subst hg; exact gcd_w a b w hT ha hb
theorem cmp0_w (a : Int) (w : World) (hT : Laid w) (ha : a.natAbs < lim) :
    Calls Tryz.prog 18 #[.string (S a), .string ⟨#[48]⟩] w fun e w' => e = .returned (.int .i64 (cmpZ a 0)) ∧ Below w.heap.size w w' := by
  rw [l0]; exact cmp_w a 0 w hT ha (by decide)
theorem neg_w (a b : Int) (w : World) (hT : Laid w) (ha : a.natAbs < lim) (h : 0 - a = b) (hb : b.natAbs < lim) :
    Calls Tryz.prog 16 #[.string ⟨#[48]⟩, .string (S a)] w fun e w' => e = .returned (.tuple #[.string (S b), .int .i64 0]) ∧ Below w.heap.size w w' := by
  subst h
  rw [l0]; exact sub_w 0 a w hT (by decide) ha hb
theorem cmp00_w (w : World) (hT : Laid w) :
    Calls Tryz.prog 18 #[.string ⟨#[48]⟩, .string ⟨#[48]⟩] w fun e w' => e = .returned (.int .i64 0) ∧ Below w.heap.size w w' := by
  have := cmp0_w 0 w hT (by decide)
  rw [← l0] at this
  exact this

set_option maxRecDepth 100000 in
set_option maxHeartbeats 8000000 in
theorem walk_zero (a0 a1 a2 : ByteArray) (X Y Z : Int) (K0 K1 K2 K3 : Nat) (HK0 : Hid (PI.newswirelaw03_sane.f K0 = some true)) (HK1 : Hid (PI.newswireref03_Made.f K1 a0 40 = some (S X))) (HK2 : Hid (PI.newswireref03_Made.f K2 a1 40 = some (S Y))) (HK3 : Hid (PI.newswireref03_Made.f K3 a2 40 = some (S Z))) (hx : X = 0) (hy : Y = 0) (w : World) (hT : Laid w) :
    Calls Tryz.prog 5 #[.string a0, .string a1, .string a2] w fun e w' => e = .returned (.bool true) ∧ Below w.heap.size w w' := by
  have t1 : ((S X).toList == ([48] : List UInt8)) = true := by rw [hx, S_beq0]; rfl
  have t2 : (S X).toList = ([48] : List UInt8) := S_zero.2 hx
  have t3 : ((S Y).toList == ([48] : List UInt8)) = true := by rw [hy, S_beq0]; rfl
  have t4 : (S Y).toList = ([48] : List UInt8) := S_zero.2 hy
  have G1 : Hid (Int.gcd X Y = 0) := Lib.hid (by rw [hx, hy]; rfl)
  have G2 : Hid (Int.gcd Y X = 0) := Lib.hid (by rw [hx, hy]; rfl)
  have FX : Hid (X.natAbs < lim) := Lib.hid (by rw [hx]; decide)
  have FY : Hid (Y.natAbs < lim) := Lib.hid (by rw [hy]; decide)
  clear hx hy
  have HT := Lib.hid hT
  have BB := Lib.hid (Below.refl w.heap.size w)
  clear hT
  go_enter Tryz.func5, Tryz.ntmps5
  go_wp2_with fail
  refine (PI.newswirelaw03_sane.calls K0 true _ (HT.out.on BB.out) HK0.out).mono ?_
  rintro e w1 ⟨rfl, b⟩
  have B2 := Lib.hid (bthen BB.out b)
  clear BB b
  have BB := B2
  clear B2
  go_wp2_with fail
  refine (PI.newswireref03_Made.calls K1 a0 40 (S X) _ HK1.out).mono ?_
  rintro e w2 ⟨rfl, b⟩
  have B2 := Lib.hid (bthen BB.out b)
  clear BB b
  have BB := B2
  clear B2
  go_wp2_with fail
  refine (PI.newswireref03_Made.calls K2 a1 40 (S Y) _ HK2.out).mono ?_
  rintro e w3 ⟨rfl, b⟩
  have B2 := Lib.hid (bthen BB.out b)
  clear BB b
  have BB := B2
  clear B2
  go_wp2_with fail
  refine (PI.newswireref03_Made.calls K3 a2 40 (S Z) _ HK3.out).mono ?_
  rintro e w4 ⟨rfl, b⟩
  have B2 := Lib.hid (bthen BB.out b)
  clear BB b
  have BB := B2
  clear B2
  go_wp2_with fail
  refine (gcd_is X Y 0 G1.out _ (HT.out.on BB.out) FX.out FY.out).mono ?_
  rintro e w5 ⟨rfl, b⟩
  rw [show (((0 : Nat)) : Int) = 0 from rfl, ← l0]
  have B2 := Lib.hid (bthen BB.out b)
  clear BB b
  have BB := B2
  clear B2
  go_wp2_with fail
  refine (gcd_is Y X 0 G2.out _ (HT.out.on BB.out) FY.out FX.out).mono ?_
  rintro e w6 ⟨rfl, b⟩
  rw [show (((0 : Nat)) : Int) = 0 from rfl, ← l0]
  have B2 := Lib.hid (bthen BB.out b)
  clear BB b
  have BB := B2
  clear B2
  go_wp2_with fail
  refine (cmp00_w _ (HT.out.on BB.out)).mono ?_
  rintro e w7 ⟨rfl, b⟩
  have B2 := Lib.hid (bthen BB.out b)
  clear BB b
  have BB := B2
  clear B2
  go_wp2_with fail
  go_ret
  exact ⟨rfl, BB.out⟩


set_option maxRecDepth 100000 in
set_option maxHeartbeats 8000000 in
theorem walk_a (a0 a1 a2 : ByteArray) (X Y Z : Int) (K0 K1 K2 K3 : Nat) (HK0 : Hid (PI.newswirelaw03_sane.f K0 = some true)) (HK1 : Hid (PI.newswireref03_Made.f K1 a0 40 = some (S X))) (HK2 : Hid (PI.newswireref03_Made.f K2 a1 40 = some (S Y))) (HK3 : Hid (PI.newswireref03_Made.f K3 a2 40 = some (S Z))) (hX : X.natAbs < 10 ^ 40) (hY : Y.natAbs < 10 ^ 40) (hZ : Z.natAbs < 10 ^ 40) (hx0 : X ≠ 0) (hn : ¬ (Int.gcd X Y : Int) * Z < 0) (w : World) (hT : Laid w) :
    Calls Tryz.prog 5 #[.string a0, .string a1, .string a2] w fun e w' => e = .returned (.bool true) ∧ Below w.heap.size w w' := by
  have hg0 : Int.gcd X Y ≠ 0 := fun e => hx0 (Int.gcd_eq_zero_iff.1 e).1
  have hG : ((Int.gcd X Y : Nat) : Int).natAbs < 10 ^ 40 := by
    rw [Int.natAbs_natCast]
    exact Nat.lt_of_le_of_lt (Nat.le_of_dvd (by omega) (Nat.gcd_dvd_left _ _)) hX
  have hcop := Int.gcd_ediv_gcd_ediv_gcd (i := X) (j := Y) (by omega)
  have hxg : X % (Int.gcd X Y : Int) = 0 := Int.emod_eq_zero_of_dvd (Int.gcd_dvd_left X Y)
  have hyg : Y % (Int.gcd X Y : Int) = 0 := Int.emod_eq_zero_of_dvd (Int.gcd_dvd_right X Y)
  have hall : Int.gcd (X * Z) (Y * Z) = Int.gcd X Y * Z.natAbs := Int.gcd_mul_right X Z Y
  have hcomm := Int.gcd_comm Y X
  have hp : (X / (Int.gcd X Y : Int)).natAbs < 10 ^ 40 := Nat.lt_of_le_of_lt (div_natAbs_le X) hX
  have hq : (Y / (Int.gcd X Y : Int)).natAbs < 10 ^ 40 := Nat.lt_of_le_of_lt (div_natAbs_le Y) hY
  generalize hgd : Int.gcd X Y = G at *
  have HGD := Lib.hid hgd
  clear hgd
  have hgz : (((G : Int) * Z)) = ((G * Z.natAbs : Nat) : Int) := by
    rw [Int.natCast_mul]
    have hz : 0 ≤ Z := by
      by_cases h : Z < 0
      · exact absurd (Int.mul_neg_of_pos_of_neg (by omega) h) hn
      · omega
    rw [show (Z.natAbs : Int) = Z by omega]
  have FX := Lib.hid (p10 hX (by omega))
  have FY := Lib.hid (p10 hY (by omega))
  have FZ := Lib.hid (p10 hZ (by omega))
  have FG := Lib.hid (p10 hG (by omega))
  have FP := Lib.hid (p10 hp (by omega))
  have FQ := Lib.hid (p10 hq (by omega))
  have FXZ := Lib.hid (p10 (mul_p10 hX hZ) (by omega))
  have FYZ := Lib.hid (p10 (mul_p10 hY hZ) (by omega))
  have FGZ := Lib.hid (p10 (mul_p10 hG hZ) (by omega))
  have HG0 : Hid ((G : Int) ≠ 0) := Lib.hid (by omega)
  have HCOP := Lib.hid hcop
  have HXG := Lib.hid hxg
  have HYG := Lib.hid hyg
  have HALL := Lib.hid hall
  have HCOM := Lib.hid hcomm
  have HGZ := Lib.hid hgz
  have HC0 : Hid (decide (cmpZ (G : Int) 0 < 0) = false) := Lib.hid (by rw [decide_eq_false_iff_not]; unfold cmpZ; split <;> (try split) <;> omega)
  have HC1 : Hid (decide (cmpZ ((G : Int) * Z) 0 < 0) = false) := Lib.hid (by rw [decide_eq_false_iff_not]; unfold cmpZ; rw [if_neg hn]; split <;> omega)
  obtain ⟨t1, t2, t3⟩ := tests hx0
  clear hX hY hZ hG hp hq hcop hxg hyg hall hcomm hgz hn hg0 hx0
  have HT := Lib.hid hT
  have BB := Lib.hid (Below.refl w.heap.size w)
  clear hT
  go_enter Tryz.func5, Tryz.ntmps5
  go_wp2_with fail
  refine (PI.newswirelaw03_sane.calls K0 true _ (HT.out.on BB.out) HK0.out).mono ?_
  rintro e w1 ⟨rfl, b⟩
  have B2 := Lib.hid (bthen BB.out b)
  clear BB b
  have BB := B2
  clear B2
  go_wp2_with fail
  refine (PI.newswireref03_Made.calls K1 a0 40 (S X) _ HK1.out).mono ?_
  rintro e w2 ⟨rfl, b⟩
  have B2 := Lib.hid (bthen BB.out b)
  clear BB b
  have BB := B2
  clear B2
  go_wp2_with fail
  refine (PI.newswireref03_Made.calls K2 a1 40 (S Y) _ HK2.out).mono ?_
  rintro e w3 ⟨rfl, b⟩
  have B2 := Lib.hid (bthen BB.out b)
  clear BB b
  have BB := B2
  clear B2
  go_wp2_with fail
  refine (PI.newswireref03_Made.calls K3 a2 40 (S Z) _ HK3.out).mono ?_
  rintro e w4 ⟨rfl, b⟩
  have B2 := Lib.hid (bthen BB.out b)
  clear BB b
  have BB := B2
  clear B2
  go_wp2_with fail
  refine (gcd_is X Y G HGD.out _ (HT.out.on BB.out) FX.out FY.out).mono ?_
  rintro e w5 ⟨rfl, b⟩
  have B2 := Lib.hid (bthen BB.out b)
  clear BB b
  have BB := B2
  clear B2
  go_wp2_with fail
  refine (gcd_is Y X G (by rw [HCOM.out]) _ (HT.out.on BB.out) FY.out FX.out).mono ?_
  rintro e w6 ⟨rfl, b⟩
  have B2 := Lib.hid (bthen BB.out b)
  clear BB b
  have BB := B2
  clear B2
  go_wp2_with fail
  refine (cmp0_w G _ (HT.out.on BB.out) FG.out).mono ?_
  rintro e w7 ⟨rfl, b⟩
  have hc0 := HC0.out
  have B2 := Lib.hid (bthen BB.out b)
  clear BB b
  have BB := B2
  clear B2
  go_wp2_with fail
  refine (div_w X G _ (HT.out.on BB.out) FX.out FG.out HG0.out).mono ?_
  rintro e w8 ⟨rfl, b⟩
  rw [HXG.out, ← l0]
  have B2 := Lib.hid (bthen BB.out b)
  clear BB b
  have BB := B2
  clear B2
  go_wp2_with fail
  refine (div_w Y G _ (HT.out.on BB.out) FY.out FG.out HG0.out).mono ?_
  rintro e w9 ⟨rfl, b⟩
  rw [HYG.out, ← l0]
  have B2 := Lib.hid (bthen BB.out b)
  clear BB b
  have BB := B2
  clear B2
  go_wp2_with fail
  refine (gcd_is (X / G) (Y / G) 1 HCOP.out _ (HT.out.on BB.out) FP.out FQ.out).mono ?_
  rintro e w10 ⟨rfl, b⟩
  rw [show (((1 : Nat) : Int)) = 1 from rfl, ← l1]
  have B2 := Lib.hid (bthen BB.out b)
  clear BB b
  have BB := B2
  clear B2
  go_wp2_with fail
  refine (mul_w X Z _ (HT.out.on BB.out) FX.out FZ.out FXZ.out).mono ?_
  rintro e w11 ⟨rfl, b⟩
  have B2 := Lib.hid (bthen BB.out b)
  clear BB b
  have BB := B2
  clear B2
  go_wp2_with fail
  refine (mul_w Y Z _ (HT.out.on BB.out) FY.out FZ.out FYZ.out).mono ?_
  rintro e w12 ⟨rfl, b⟩
  have B2 := Lib.hid (bthen BB.out b)
  clear BB b
  have BB := B2
  clear B2
  go_wp2_with fail
  refine (gcd_is (X * Z) (Y * Z) (G * Z.natAbs) HALL.out _ (HT.out.on BB.out) FXZ.out FYZ.out).mono ?_
  rintro e w13 ⟨rfl, b⟩
  rw [← HGZ.out]
  have B2 := Lib.hid (bthen BB.out b)
  clear BB b
  have BB := B2
  clear B2
  go_wp2_with fail
  refine (mul_w G Z _ (HT.out.on BB.out) FG.out FZ.out FGZ.out).mono ?_
  rintro e w14 ⟨rfl, b⟩
  have B2 := Lib.hid (bthen BB.out b)
  clear BB b
  have BB := B2
  clear B2
  go_wp2_with fail
  refine (cmp0_w (G * Z) _ (HT.out.on BB.out) FGZ.out).mono ?_
  rintro e w15 ⟨rfl, b⟩
  have hc1 := HC1.out
  have B2 := Lib.hid (bthen BB.out b)
  clear BB b
  have BB := B2
  clear B2
  go_wp2_with fail
  go_ret
  exact ⟨rfl, BB.out⟩

set_option maxRecDepth 100000 in
set_option maxHeartbeats 8000000 in
theorem walk_b (a0 a1 a2 : ByteArray) (X Y Z : Int) (K0 K1 K2 K3 : Nat) (HK0 : Hid (PI.newswirelaw03_sane.f K0 = some true)) (HK1 : Hid (PI.newswireref03_Made.f K1 a0 40 = some (S X))) (HK2 : Hid (PI.newswireref03_Made.f K2 a1 40 = some (S Y))) (HK3 : Hid (PI.newswireref03_Made.f K3 a2 40 = some (S Z))) (hX : X.natAbs < 10 ^ 40) (hY : Y.natAbs < 10 ^ 40) (hZ : Z.natAbs < 10 ^ 40) (hx0 : X ≠ 0) (hn : (Int.gcd X Y : Int) * Z < 0) (w : World) (hT : Laid w) :
    Calls Tryz.prog 5 #[.string a0, .string a1, .string a2] w fun e w' => e = .returned (.bool true) ∧ Below w.heap.size w w' := by
  have hg0 : Int.gcd X Y ≠ 0 := fun e => hx0 (Int.gcd_eq_zero_iff.1 e).1
  have hG : ((Int.gcd X Y : Nat) : Int).natAbs < 10 ^ 40 := by
    rw [Int.natAbs_natCast]
    exact Nat.lt_of_le_of_lt (Nat.le_of_dvd (by omega) (Nat.gcd_dvd_left _ _)) hX
  have hcop := Int.gcd_ediv_gcd_ediv_gcd (i := X) (j := Y) (by omega)
  have hxg : X % (Int.gcd X Y : Int) = 0 := Int.emod_eq_zero_of_dvd (Int.gcd_dvd_left X Y)
  have hyg : Y % (Int.gcd X Y : Int) = 0 := Int.emod_eq_zero_of_dvd (Int.gcd_dvd_right X Y)
  have hall : Int.gcd (X * Z) (Y * Z) = Int.gcd X Y * Z.natAbs := Int.gcd_mul_right X Z Y
  have hcomm := Int.gcd_comm Y X
  have hp : (X / (Int.gcd X Y : Int)).natAbs < 10 ^ 40 := Nat.lt_of_le_of_lt (div_natAbs_le X) hX
  have hq : (Y / (Int.gcd X Y : Int)).natAbs < 10 ^ 40 := Nat.lt_of_le_of_lt (div_natAbs_le Y) hY
  generalize hgd : Int.gcd X Y = G at *
  have HGD := Lib.hid hgd
  clear hgd
  have hgz : ((0 - (G : Int) * Z)) = ((G * Z.natAbs : Nat) : Int) := by
    rw [Int.natCast_mul]
    have hz : Z < 0 := by
      by_cases h : Z < 0
      · exact h
      · exact absurd (Int.mul_nonneg (Int.natCast_nonneg G) (show 0 ≤ Z by omega)) (by omega)
    rw [show (Z.natAbs : Int) = -Z by omega, Int.mul_neg, Int.zero_sub]
  have FX := Lib.hid (p10 hX (by omega))
  have FY := Lib.hid (p10 hY (by omega))
  have FZ := Lib.hid (p10 hZ (by omega))
  have FG := Lib.hid (p10 hG (by omega))
  have FP := Lib.hid (p10 hp (by omega))
  have FQ := Lib.hid (p10 hq (by omega))
  have FXZ := Lib.hid (p10 (mul_p10 hX hZ) (by omega))
  have FYZ := Lib.hid (p10 (mul_p10 hY hZ) (by omega))
  have FGZ := Lib.hid (p10 (mul_p10 hG hZ) (by omega))
  have HG0 : Hid ((G : Int) ≠ 0) := Lib.hid (by omega)
  have HCOP := Lib.hid hcop
  have HXG := Lib.hid hxg
  have HYG := Lib.hid hyg
  have HALL := Lib.hid hall
  have HCOM := Lib.hid hcomm
  have HGZ := Lib.hid hgz
  have HC0 : Hid (decide (cmpZ (G : Int) 0 < 0) = false) := Lib.hid (by rw [decide_eq_false_iff_not]; unfold cmpZ; split <;> (try split) <;> omega)
  have HC1 : Hid (decide (cmpZ ((G : Int) * Z) 0 < 0) = true) := Lib.hid (by rw [decide_eq_true_eq]; unfold cmpZ; rw [if_pos hn]; decide)
  obtain ⟨t1, t2, t3⟩ := tests hx0
  clear hX hY hZ hG hp hq hcop hxg hyg hall hcomm hgz hn hg0 hx0
  have HT := Lib.hid hT
  have BB := Lib.hid (Below.refl w.heap.size w)
  clear hT
  go_enter Tryz.func5, Tryz.ntmps5
  go_wp2_with fail
  refine (PI.newswirelaw03_sane.calls K0 true _ (HT.out.on BB.out) HK0.out).mono ?_
  rintro e w1 ⟨rfl, b⟩
  have B2 := Lib.hid (bthen BB.out b)
  clear BB b
  have BB := B2
  clear B2
  go_wp2_with fail
  refine (PI.newswireref03_Made.calls K1 a0 40 (S X) _ HK1.out).mono ?_
  rintro e w2 ⟨rfl, b⟩
  have B2 := Lib.hid (bthen BB.out b)
  clear BB b
  have BB := B2
  clear B2
  go_wp2_with fail
  refine (PI.newswireref03_Made.calls K2 a1 40 (S Y) _ HK2.out).mono ?_
  rintro e w3 ⟨rfl, b⟩
  have B2 := Lib.hid (bthen BB.out b)
  clear BB b
  have BB := B2
  clear B2
  go_wp2_with fail
  refine (PI.newswireref03_Made.calls K3 a2 40 (S Z) _ HK3.out).mono ?_
  rintro e w4 ⟨rfl, b⟩
  have B2 := Lib.hid (bthen BB.out b)
  clear BB b
  have BB := B2
  clear B2
  go_wp2_with fail
  refine (gcd_is X Y G HGD.out _ (HT.out.on BB.out) FX.out FY.out).mono ?_
  rintro e w5 ⟨rfl, b⟩
  have B2 := Lib.hid (bthen BB.out b)
  clear BB b
  have BB := B2
  clear B2
  go_wp2_with fail
  refine (gcd_is Y X G (by rw [HCOM.out]) _ (HT.out.on BB.out) FY.out FX.out).mono ?_
  rintro e w6 ⟨rfl, b⟩
  have B2 := Lib.hid (bthen BB.out b)
  clear BB b
  have BB := B2
  clear B2
  go_wp2_with fail
  refine (cmp0_w G _ (HT.out.on BB.out) FG.out).mono ?_
  rintro e w7 ⟨rfl, b⟩
  have hc0 := HC0.out
  have B2 := Lib.hid (bthen BB.out b)
  clear BB b
  have BB := B2
  clear B2
  go_wp2_with fail
  refine (div_w X G _ (HT.out.on BB.out) FX.out FG.out HG0.out).mono ?_
  rintro e w8 ⟨rfl, b⟩
  rw [HXG.out, ← l0]
  have B2 := Lib.hid (bthen BB.out b)
  clear BB b
  have BB := B2
  clear B2
  go_wp2_with fail
  refine (div_w Y G _ (HT.out.on BB.out) FY.out FG.out HG0.out).mono ?_
  rintro e w9 ⟨rfl, b⟩
  rw [HYG.out, ← l0]
  have B2 := Lib.hid (bthen BB.out b)
  clear BB b
  have BB := B2
  clear B2
  go_wp2_with fail
  refine (gcd_is (X / G) (Y / G) 1 HCOP.out _ (HT.out.on BB.out) FP.out FQ.out).mono ?_
  rintro e w10 ⟨rfl, b⟩
  rw [show (((1 : Nat) : Int)) = 1 from rfl, ← l1]
  have B2 := Lib.hid (bthen BB.out b)
  clear BB b
  have BB := B2
  clear B2
  go_wp2_with fail
  refine (mul_w X Z _ (HT.out.on BB.out) FX.out FZ.out FXZ.out).mono ?_
  rintro e w11 ⟨rfl, b⟩
  have B2 := Lib.hid (bthen BB.out b)
  clear BB b
  have BB := B2
  clear B2
  go_wp2_with fail
  refine (mul_w Y Z _ (HT.out.on BB.out) FY.out FZ.out FYZ.out).mono ?_
  rintro e w12 ⟨rfl, b⟩
  have B2 := Lib.hid (bthen BB.out b)
  clear BB b
  have BB := B2
  clear B2
  go_wp2_with fail
  refine (gcd_is (X * Z) (Y * Z) (G * Z.natAbs) HALL.out _ (HT.out.on BB.out) FXZ.out FYZ.out).mono ?_
  rintro e w13 ⟨rfl, b⟩
  rw [← HGZ.out]
  have B2 := Lib.hid (bthen BB.out b)
  clear BB b
  have BB := B2
  clear B2
  go_wp2_with fail
  refine (mul_w G Z _ (HT.out.on BB.out) FG.out FZ.out FGZ.out).mono ?_
  rintro e w14 ⟨rfl, b⟩
  have B2 := Lib.hid (bthen BB.out b)
  clear BB b
  have BB := B2
  clear B2
  go_wp2_with fail
  refine (cmp0_w (G * Z) _ (HT.out.on BB.out) FGZ.out).mono ?_
  rintro e w15 ⟨rfl, b⟩
  have hc1 := HC1.out
  have B2 := Lib.hid (bthen BB.out b)
  clear BB b
  have BB := B2
  clear B2
  go_wp2_with fail
  refine (neg_w (G * Z) _ _ (HT.out.on BB.out) FGZ.out rfl (by rw [Int.zero_sub, Int.natAbs_neg]; exact FGZ.out)).mono ?_
  rintro e w16 ⟨rfl, b⟩
  have B2 := Lib.hid (bthen BB.out b)
  clear BB b
  have BB := B2
  clear B2
  go_wp2_with fail
  go_ret
  exact ⟨rfl, BB.out⟩

set_option maxRecDepth 100000 in
set_option maxHeartbeats 8000000 in
theorem walk_c (a0 a1 a2 : ByteArray) (X Y Z : Int) (K0 K1 K2 K3 : Nat) (HK0 : Hid (PI.newswirelaw03_sane.f K0 = some true)) (HK1 : Hid (PI.newswireref03_Made.f K1 a0 40 = some (S X))) (HK2 : Hid (PI.newswireref03_Made.f K2 a1 40 = some (S Y))) (HK3 : Hid (PI.newswireref03_Made.f K3 a2 40 = some (S Z))) (hX : X.natAbs < 10 ^ 40) (hY : Y.natAbs < 10 ^ 40) (hZ : Z.natAbs < 10 ^ 40) (hx0 : X = 0) (hy0 : Y ≠ 0) (hn : ¬ (Int.gcd X Y : Int) * Z < 0) (w : World) (hT : Laid w) :
    Calls Tryz.prog 5 #[.string a0, .string a1, .string a2] w fun e w' => e = .returned (.bool true) ∧ Below w.heap.size w w' := by
  have hg0 : Int.gcd X Y ≠ 0 := fun e => hy0 (Int.gcd_eq_zero_iff.1 e).2
  have hG : ((Int.gcd X Y : Nat) : Int).natAbs < 10 ^ 40 := by
    rw [Int.natAbs_natCast]
    rw [hx0, Int.gcd_zero_left]; exact hY
  have hcop := Int.gcd_ediv_gcd_ediv_gcd (i := X) (j := Y) (by omega)
  have hxg : X % (Int.gcd X Y : Int) = 0 := Int.emod_eq_zero_of_dvd (Int.gcd_dvd_left X Y)
  have hyg : Y % (Int.gcd X Y : Int) = 0 := Int.emod_eq_zero_of_dvd (Int.gcd_dvd_right X Y)
  have hall : Int.gcd (X * Z) (Y * Z) = Int.gcd X Y * Z.natAbs := Int.gcd_mul_right X Z Y
  have hcomm := Int.gcd_comm Y X
  have hp : (X / (Int.gcd X Y : Int)).natAbs < 10 ^ 40 := Nat.lt_of_le_of_lt (div_natAbs_le X) hX
  have hq : (Y / (Int.gcd X Y : Int)).natAbs < 10 ^ 40 := Nat.lt_of_le_of_lt (div_natAbs_le Y) hY
  generalize hgd : Int.gcd X Y = G at *
  have HGD := Lib.hid hgd
  clear hgd
  have hgz : (((G : Int) * Z)) = ((G * Z.natAbs : Nat) : Int) := by
    rw [Int.natCast_mul]
    have hz : 0 ≤ Z := by
      by_cases h : Z < 0
      · exact absurd (Int.mul_neg_of_pos_of_neg (by omega) h) hn
      · omega
    rw [show (Z.natAbs : Int) = Z by omega]
  have FX := Lib.hid (p10 hX (by omega))
  have FY := Lib.hid (p10 hY (by omega))
  have FZ := Lib.hid (p10 hZ (by omega))
  have FG := Lib.hid (p10 hG (by omega))
  have FP := Lib.hid (p10 hp (by omega))
  have FQ := Lib.hid (p10 hq (by omega))
  have FXZ := Lib.hid (p10 (mul_p10 hX hZ) (by omega))
  have FYZ := Lib.hid (p10 (mul_p10 hY hZ) (by omega))
  have FGZ := Lib.hid (p10 (mul_p10 hG hZ) (by omega))
  have HG0 : Hid ((G : Int) ≠ 0) := Lib.hid (by omega)
  have HCOP := Lib.hid hcop
  have HXG := Lib.hid hxg
  have HYG := Lib.hid hyg
  have HALL := Lib.hid hall
  have HCOM := Lib.hid hcomm
  have HGZ := Lib.hid hgz
  have HC0 : Hid (decide (cmpZ (G : Int) 0 < 0) = false) := Lib.hid (by rw [decide_eq_false_iff_not]; unfold cmpZ; split <;> (try split) <;> omega)
  have HC1 : Hid (decide (cmpZ ((G : Int) * Z) 0 < 0) = false) := Lib.hid (by rw [decide_eq_false_iff_not]; unfold cmpZ; rw [if_neg hn]; split <;> omega)
  obtain ⟨t1, t2, t3⟩ := tests hy0
  clear hX hY hZ hG hp hq hcop hxg hyg hall hcomm hgz hn hg0 hy0
  have t5 : ((S X).toList == ([48] : List UInt8)) = true := by rw [hx0, S_beq0]; rfl
  have t6 : (S X).toList = ([48] : List UInt8) := S_zero.2 hx0
  have HX0 := Lib.hid hx0
  clear hx0
  have HT := Lib.hid hT
  have BB := Lib.hid (Below.refl w.heap.size w)
  clear hT
  go_enter Tryz.func5, Tryz.ntmps5
  go_wp2_with fail
  refine (PI.newswirelaw03_sane.calls K0 true _ (HT.out.on BB.out) HK0.out).mono ?_
  rintro e w1 ⟨rfl, b⟩
  have B2 := Lib.hid (bthen BB.out b)
  clear BB b
  have BB := B2
  clear B2
  go_wp2_with fail
  refine (PI.newswireref03_Made.calls K1 a0 40 (S X) _ HK1.out).mono ?_
  rintro e w2 ⟨rfl, b⟩
  have B2 := Lib.hid (bthen BB.out b)
  clear BB b
  have BB := B2
  clear B2
  go_wp2_with fail
  refine (PI.newswireref03_Made.calls K2 a1 40 (S Y) _ HK2.out).mono ?_
  rintro e w3 ⟨rfl, b⟩
  have B2 := Lib.hid (bthen BB.out b)
  clear BB b
  have BB := B2
  clear B2
  go_wp2_with fail
  refine (PI.newswireref03_Made.calls K3 a2 40 (S Z) _ HK3.out).mono ?_
  rintro e w4 ⟨rfl, b⟩
  have B2 := Lib.hid (bthen BB.out b)
  clear BB b
  have BB := B2
  clear B2
  go_wp2_with fail
  refine (gcd_is X Y G HGD.out _ (HT.out.on BB.out) FX.out FY.out).mono ?_
  rintro e w5 ⟨rfl, b⟩
  have B2 := Lib.hid (bthen BB.out b)
  clear BB b
  have BB := B2
  clear B2
  go_wp2_with fail
  refine (gcd_is Y X G (by rw [HCOM.out]) _ (HT.out.on BB.out) FY.out FX.out).mono ?_
  rintro e w6 ⟨rfl, b⟩
  have B2 := Lib.hid (bthen BB.out b)
  clear BB b
  have BB := B2
  clear B2
  go_wp2_with fail
  refine (cmp0_w G _ (HT.out.on BB.out) FG.out).mono ?_
  rintro e w7 ⟨rfl, b⟩
  have hc0 := HC0.out
  have B2 := Lib.hid (bthen BB.out b)
  clear BB b
  have BB := B2
  clear B2
  go_wp2_with fail
  refine (div_w X G _ (HT.out.on BB.out) FX.out FG.out HG0.out).mono ?_
  rintro e w8 ⟨rfl, b⟩
  rw [HXG.out, ← l0]
  have B2 := Lib.hid (bthen BB.out b)
  clear BB b
  have BB := B2
  clear B2
  go_wp2_with fail
  refine (div_w Y G _ (HT.out.on BB.out) FY.out FG.out HG0.out).mono ?_
  rintro e w9 ⟨rfl, b⟩
  rw [HYG.out, ← l0]
  have B2 := Lib.hid (bthen BB.out b)
  clear BB b
  have BB := B2
  clear B2
  go_wp2_with fail
  refine (gcd_is (X / G) (Y / G) 1 HCOP.out _ (HT.out.on BB.out) FP.out FQ.out).mono ?_
  rintro e w10 ⟨rfl, b⟩
  rw [show (((1 : Nat) : Int)) = 1 from rfl, ← l1]
  have B2 := Lib.hid (bthen BB.out b)
  clear BB b
  have BB := B2
  clear B2
  go_wp2_with fail
  refine (mul_w X Z _ (HT.out.on BB.out) FX.out FZ.out FXZ.out).mono ?_
  rintro e w11 ⟨rfl, b⟩
  have B2 := Lib.hid (bthen BB.out b)
  clear BB b
  have BB := B2
  clear B2
  go_wp2_with fail
  refine (mul_w Y Z _ (HT.out.on BB.out) FY.out FZ.out FYZ.out).mono ?_
  rintro e w12 ⟨rfl, b⟩
  have B2 := Lib.hid (bthen BB.out b)
  clear BB b
  have BB := B2
  clear B2
  go_wp2_with fail
  refine (gcd_is (X * Z) (Y * Z) (G * Z.natAbs) HALL.out _ (HT.out.on BB.out) FXZ.out FYZ.out).mono ?_
  rintro e w13 ⟨rfl, b⟩
  rw [← HGZ.out]
  have B2 := Lib.hid (bthen BB.out b)
  clear BB b
  have BB := B2
  clear B2
  go_wp2_with fail
  refine (mul_w G Z _ (HT.out.on BB.out) FG.out FZ.out FGZ.out).mono ?_
  rintro e w14 ⟨rfl, b⟩
  have B2 := Lib.hid (bthen BB.out b)
  clear BB b
  have BB := B2
  clear B2
  go_wp2_with fail
  refine (cmp0_w (G * Z) _ (HT.out.on BB.out) FGZ.out).mono ?_
  rintro e w15 ⟨rfl, b⟩
  have hc1 := HC1.out
  have B2 := Lib.hid (bthen BB.out b)
  clear BB b
  have BB := B2
  clear B2
  go_wp2_with fail
  go_ret
  exact ⟨rfl, BB.out⟩

set_option maxRecDepth 100000 in
set_option maxHeartbeats 8000000 in
theorem walk_d (a0 a1 a2 : ByteArray) (X Y Z : Int) (K0 K1 K2 K3 : Nat) (HK0 : Hid (PI.newswirelaw03_sane.f K0 = some true)) (HK1 : Hid (PI.newswireref03_Made.f K1 a0 40 = some (S X))) (HK2 : Hid (PI.newswireref03_Made.f K2 a1 40 = some (S Y))) (HK3 : Hid (PI.newswireref03_Made.f K3 a2 40 = some (S Z))) (hX : X.natAbs < 10 ^ 40) (hY : Y.natAbs < 10 ^ 40) (hZ : Z.natAbs < 10 ^ 40) (hx0 : X = 0) (hy0 : Y ≠ 0) (hn : (Int.gcd X Y : Int) * Z < 0) (w : World) (hT : Laid w) :
    Calls Tryz.prog 5 #[.string a0, .string a1, .string a2] w fun e w' => e = .returned (.bool true) ∧ Below w.heap.size w w' := by
  have hg0 : Int.gcd X Y ≠ 0 := fun e => hy0 (Int.gcd_eq_zero_iff.1 e).2
  have hG : ((Int.gcd X Y : Nat) : Int).natAbs < 10 ^ 40 := by
    rw [Int.natAbs_natCast]
    rw [hx0, Int.gcd_zero_left]; exact hY
  have hcop := Int.gcd_ediv_gcd_ediv_gcd (i := X) (j := Y) (by omega)
  have hxg : X % (Int.gcd X Y : Int) = 0 := Int.emod_eq_zero_of_dvd (Int.gcd_dvd_left X Y)
  have hyg : Y % (Int.gcd X Y : Int) = 0 := Int.emod_eq_zero_of_dvd (Int.gcd_dvd_right X Y)
  have hall : Int.gcd (X * Z) (Y * Z) = Int.gcd X Y * Z.natAbs := Int.gcd_mul_right X Z Y
  have hcomm := Int.gcd_comm Y X
  have hp : (X / (Int.gcd X Y : Int)).natAbs < 10 ^ 40 := Nat.lt_of_le_of_lt (div_natAbs_le X) hX
  have hq : (Y / (Int.gcd X Y : Int)).natAbs < 10 ^ 40 := Nat.lt_of_le_of_lt (div_natAbs_le Y) hY
  generalize hgd : Int.gcd X Y = G at *
  have HGD := Lib.hid hgd
  clear hgd
  have hgz : ((0 - (G : Int) * Z)) = ((G * Z.natAbs : Nat) : Int) := by
    rw [Int.natCast_mul]
    have hz : Z < 0 := by
      by_cases h : Z < 0
      · exact h
      · exact absurd (Int.mul_nonneg (Int.natCast_nonneg G) (show 0 ≤ Z by omega)) (by omega)
    rw [show (Z.natAbs : Int) = -Z by omega, Int.mul_neg, Int.zero_sub]
  have FX := Lib.hid (p10 hX (by omega))
  have FY := Lib.hid (p10 hY (by omega))
  have FZ := Lib.hid (p10 hZ (by omega))
  have FG := Lib.hid (p10 hG (by omega))
  have FP := Lib.hid (p10 hp (by omega))
  have FQ := Lib.hid (p10 hq (by omega))
  have FXZ := Lib.hid (p10 (mul_p10 hX hZ) (by omega))
  have FYZ := Lib.hid (p10 (mul_p10 hY hZ) (by omega))
  have FGZ := Lib.hid (p10 (mul_p10 hG hZ) (by omega))
  have HG0 : Hid ((G : Int) ≠ 0) := Lib.hid (by omega)
  have HCOP := Lib.hid hcop
  have HXG := Lib.hid hxg
  have HYG := Lib.hid hyg
  have HALL := Lib.hid hall
  have HCOM := Lib.hid hcomm
  have HGZ := Lib.hid hgz
  have HC0 : Hid (decide (cmpZ (G : Int) 0 < 0) = false) := Lib.hid (by rw [decide_eq_false_iff_not]; unfold cmpZ; split <;> (try split) <;> omega)
  have HC1 : Hid (decide (cmpZ ((G : Int) * Z) 0 < 0) = true) := Lib.hid (by rw [decide_eq_true_eq]; unfold cmpZ; rw [if_pos hn]; decide)
  obtain ⟨t1, t2, t3⟩ := tests hy0
  clear hX hY hZ hG hp hq hcop hxg hyg hall hcomm hgz hn hg0 hy0
  have t5 : ((S X).toList == ([48] : List UInt8)) = true := by rw [hx0, S_beq0]; rfl
  have t6 : (S X).toList = ([48] : List UInt8) := S_zero.2 hx0
  have HX0 := Lib.hid hx0
  clear hx0
  have HT := Lib.hid hT
  have BB := Lib.hid (Below.refl w.heap.size w)
  clear hT
  go_enter Tryz.func5, Tryz.ntmps5
  go_wp2_with fail
  refine (PI.newswirelaw03_sane.calls K0 true _ (HT.out.on BB.out) HK0.out).mono ?_
  rintro e w1 ⟨rfl, b⟩
  have B2 := Lib.hid (bthen BB.out b)
  clear BB b
  have BB := B2
  clear B2
  go_wp2_with fail
  refine (PI.newswireref03_Made.calls K1 a0 40 (S X) _ HK1.out).mono ?_
  rintro e w2 ⟨rfl, b⟩
  have B2 := Lib.hid (bthen BB.out b)
  clear BB b
  have BB := B2
  clear B2
  go_wp2_with fail
  refine (PI.newswireref03_Made.calls K2 a1 40 (S Y) _ HK2.out).mono ?_
  rintro e w3 ⟨rfl, b⟩
  have B2 := Lib.hid (bthen BB.out b)
  clear BB b
  have BB := B2
  clear B2
  go_wp2_with fail
  refine (PI.newswireref03_Made.calls K3 a2 40 (S Z) _ HK3.out).mono ?_
  rintro e w4 ⟨rfl, b⟩
  have B2 := Lib.hid (bthen BB.out b)
  clear BB b
  have BB := B2
  clear B2
  go_wp2_with fail
  refine (gcd_is X Y G HGD.out _ (HT.out.on BB.out) FX.out FY.out).mono ?_
  rintro e w5 ⟨rfl, b⟩
  have B2 := Lib.hid (bthen BB.out b)
  clear BB b
  have BB := B2
  clear B2
  go_wp2_with fail
  refine (gcd_is Y X G (by rw [HCOM.out]) _ (HT.out.on BB.out) FY.out FX.out).mono ?_
  rintro e w6 ⟨rfl, b⟩
  have B2 := Lib.hid (bthen BB.out b)
  clear BB b
  have BB := B2
  clear B2
  go_wp2_with fail
  refine (cmp0_w G _ (HT.out.on BB.out) FG.out).mono ?_
  rintro e w7 ⟨rfl, b⟩
  have hc0 := HC0.out
  have B2 := Lib.hid (bthen BB.out b)
  clear BB b
  have BB := B2
  clear B2
  go_wp2_with fail
  refine (div_w X G _ (HT.out.on BB.out) FX.out FG.out HG0.out).mono ?_
  rintro e w8 ⟨rfl, b⟩
  rw [HXG.out, ← l0]
  have B2 := Lib.hid (bthen BB.out b)
  clear BB b
  have BB := B2
  clear B2
  go_wp2_with fail
  refine (div_w Y G _ (HT.out.on BB.out) FY.out FG.out HG0.out).mono ?_
  rintro e w9 ⟨rfl, b⟩
  rw [HYG.out, ← l0]
  have B2 := Lib.hid (bthen BB.out b)
  clear BB b
  have BB := B2
  clear B2
  go_wp2_with fail
  refine (gcd_is (X / G) (Y / G) 1 HCOP.out _ (HT.out.on BB.out) FP.out FQ.out).mono ?_
  rintro e w10 ⟨rfl, b⟩
  rw [show (((1 : Nat) : Int)) = 1 from rfl, ← l1]
  have B2 := Lib.hid (bthen BB.out b)
  clear BB b
  have BB := B2
  clear B2
  go_wp2_with fail
  refine (mul_w X Z _ (HT.out.on BB.out) FX.out FZ.out FXZ.out).mono ?_
  rintro e w11 ⟨rfl, b⟩
  have B2 := Lib.hid (bthen BB.out b)
  clear BB b
  have BB := B2
  clear B2
  go_wp2_with fail
  refine (mul_w Y Z _ (HT.out.on BB.out) FY.out FZ.out FYZ.out).mono ?_
  rintro e w12 ⟨rfl, b⟩
  have B2 := Lib.hid (bthen BB.out b)
  clear BB b
  have BB := B2
  clear B2
  go_wp2_with fail
  refine (gcd_is (X * Z) (Y * Z) (G * Z.natAbs) HALL.out _ (HT.out.on BB.out) FXZ.out FYZ.out).mono ?_
  rintro e w13 ⟨rfl, b⟩
  rw [← HGZ.out]
  have B2 := Lib.hid (bthen BB.out b)
  clear BB b
  have BB := B2
  clear B2
  go_wp2_with fail
  refine (mul_w G Z _ (HT.out.on BB.out) FG.out FZ.out FGZ.out).mono ?_
  rintro e w14 ⟨rfl, b⟩
  have B2 := Lib.hid (bthen BB.out b)
  clear BB b
  have BB := B2
  clear B2
  go_wp2_with fail
  refine (cmp0_w (G * Z) _ (HT.out.on BB.out) FGZ.out).mono ?_
  rintro e w15 ⟨rfl, b⟩
  have hc1 := HC1.out
  have B2 := Lib.hid (bthen BB.out b)
  clear BB b
  have BB := B2
  clear B2
  go_wp2_with fail
  refine (neg_w (G * Z) _ _ (HT.out.on BB.out) FGZ.out rfl (by rw [Int.zero_sub, Int.natAbs_neg]; exact FGZ.out)).mono ?_
  rintro e w16 ⟨rfl, b⟩
  have B2 := Lib.hid (bthen BB.out b)
  clear BB b
  have BB := B2
  clear B2
  go_wp2_with fail
  go_ret
  exact ⟨rfl, BB.out⟩

theorem walk (a0 : ByteArray) (h0 : a0.size ≤ 140737488351232) (a1 : ByteArray) (h1 : a1.size ≤ 140737488351232) (a2 : ByteArray) (h2 : a2.size ≤ 140737488351232) (w : World) (hT : Laid w) :
    Calls Tryz.prog 5 #[.string a0, .string a1, .string a2] w fun e w' => e = .returned (.bool true) ∧ Below w.heap.size w w' := by
  obtain ⟨X, hX, eX⟩ := made_at a0 h0 40 40 rfl (by omega)
  obtain ⟨Y, hY, eY⟩ := made_at a1 h1 40 40 rfl (by omega)
  obtain ⟨Z, hZ, eZ⟩ := made_at a2 h2 40 40 rfl (by omega)
  obtain ⟨K0, hk0⟩ := sane_ev.rounds
  obtain ⟨K1, hk1⟩ := eX.rounds
  obtain ⟨K2, hk2⟩ := eY.rounds
  obtain ⟨K3, hk3⟩ := eZ.rounds
  by_cases hx : X = 0
  · by_cases hy : Y = 0
    · exact walk_zero a0 a1 a2 X Y Z K0 K1 K2 K3 (Lib.hid hk0) (Lib.hid hk1) (Lib.hid hk2) (Lib.hid hk3) hx hy w hT
    · by_cases hn : (Int.gcd X Y : Int) * Z < 0
      · exact walk_d a0 a1 a2 X Y Z K0 K1 K2 K3 (Lib.hid hk0) (Lib.hid hk1) (Lib.hid hk2) (Lib.hid hk3) hX hY hZ hx hy hn w hT
      · exact walk_c a0 a1 a2 X Y Z K0 K1 K2 K3 (Lib.hid hk0) (Lib.hid hk1) (Lib.hid hk2) (Lib.hid hk3) hX hY hZ hx hy hn w hT
  · by_cases hn : (Int.gcd X Y : Int) * Z < 0
    · exact walk_b a0 a1 a2 X Y Z K0 K1 K2 K3 (Lib.hid hk0) (Lib.hid hk1) (Lib.hid hk2) (Lib.hid hk3) hX hY hZ hx hn w hT
    · exact walk_a a0 a1 a2 X Y Z K0 K1 K2 K3 (Lib.hid hk0) (Lib.hid hk1) (Lib.hid hk2) (Lib.hid hk3) hX hY hZ hx hn w hT
end Go.Proofs.YthbiafjdilbbnaaGreatDoor.integerCommon
