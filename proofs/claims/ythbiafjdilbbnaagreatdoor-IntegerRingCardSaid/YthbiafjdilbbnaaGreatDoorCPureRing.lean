/-
  IntegerRing: the law's walk.
-/
import Derived.Test.YthbiafjdilbbnaaGreatDoorCLawC
set_option linter.unusedVariables false
set_option linter.unusedSimpArgs false
namespace Go.Proofs.YthbiafjdilbbnaaGreatDoor.integerRing
open Go.RowKit Go.Lib Go.Proofs.YthbiafjdilbbnaaGreatDoorW.PrintWords Go.Proofs.YthbiafjdilbbnaaGreatDoorW.PrintLast

set_option maxRecDepth 100000 in
set_option maxHeartbeats 8000000 in
theorem walk (a0 : ByteArray) (h0 : a0.size ≤ 140737488351232) (a1 : ByteArray) (h1 : a1.size ≤ 140737488351232) (a2 : ByteArray) (h2 : a2.size ≤ 140737488351232) (w : World) (hT : Laid w) :
    Calls Tryz.prog 3 #[.string a0, .string a1, .string a2] w fun e w' => e = .returned (.bool true) ∧ Below w.heap.size w w' := by
  obtain ⟨X, hX, eX⟩ := made_at a0 h0 60 60 rfl (by omega)
  obtain ⟨Y, hY, eY⟩ := made_at a1 h1 60 60 rfl (by omega)
  obtain ⟨Z, hZ, eZ⟩ := made_at a2 h2 60 60 rfl (by omega)
  obtain ⟨K0, hk0⟩ := sane_ev.rounds
  obtain ⟨K1, hk1⟩ := eX.rounds
  obtain ⟨K2, hk2⟩ := eY.rounds
  obtain ⟨K3, hk3⟩ := eZ.rounds
  have HK0 := Lib.hid hk0
  have HK1 := Lib.hid hk1
  have HK2 := Lib.hid hk2
  have HK3 := Lib.hid hk3
  have hxy : (X + Y).natAbs < 10 ^ 61 := add_p10 hX hY (by omega) (by omega)
  have FX := Lib.hid (p10 hX (by omega))
  have FY := Lib.hid (p10 hY (by omega))
  have FZ := Lib.hid (p10 hZ (by omega))
  have FXY := Lib.hid (p10 hxy (by omega))
  have FXYZ := Lib.hid (p10 (k := 62) (add_p10 hxy hZ (by omega) (by omega)) (by omega))
  have FYZ := Lib.hid (p10 (k := 61) (add_p10 hY hZ (by omega) (by omega)) (by omega))
  have GXY := Lib.hid (p10 (mul_p10 hX hY) (by omega))
  have GXYZ := Lib.hid (p10 (mul_p10 (mul_p10 hX hY) hZ) (by omega))
  have GYZ := Lib.hid (p10 (mul_p10 hY hZ) (by omega))
  have GXZ := Lib.hid (p10 (mul_p10 hX hZ) (by omega))
  have GL := Lib.hid (p10 (mul_p10 hxy hZ) (by omega))
  have DXY := Lib.hid (p10 (k := 61) (sub_p10 hX hY (by omega) (by omega)) (by omega))
  have HT := Lib.hid hT
  have BB := Lib.hid (Below.refl w.heap.size w)
  clear hX hY hZ hxy eX eY eZ hk0 hk1 hk2 hk3 hT
  go_enter Tryz.func3, Tryz.ntmps3
  go_wp2_with fail
  refine (PI.newswirelaw03_sane.calls K0 true _ (HT.out.on BB.out) HK0.out).mono ?_
  rintro e w1 ⟨rfl, b⟩
  have B2 := Lib.hid (bthen BB.out b)
  clear BB b
  have BB := B2
  clear B2
  go_wp2_with fail
  refine (PI.newswireref03_Made.calls K1 a0 60 (S X) _ HK1.out).mono ?_
  rintro e w2 ⟨rfl, b⟩
  have B2 := Lib.hid (bthen BB.out b)
  clear BB b
  have BB := B2
  clear B2
  go_wp2_with fail
  refine (PI.newswireref03_Made.calls K2 a1 60 (S Y) _ HK2.out).mono ?_
  rintro e w3 ⟨rfl, b⟩
  have B2 := Lib.hid (bthen BB.out b)
  clear BB b
  have BB := B2
  clear B2
  go_wp2_with fail
  refine (PI.newswireref03_Made.calls K3 a2 60 (S Z) _ HK3.out).mono ?_
  rintro e w4 ⟨rfl, b⟩
  have B2 := Lib.hid (bthen BB.out b)
  clear BB b
  have BB := B2
  clear B2
  go_wp2_with fail
  refine (add_w (X) (Y) _ (HT.out.on BB.out) FX.out FY.out FXY.out).mono ?_
  rintro e w5 ⟨rfl, b⟩
  have B2 := Lib.hid (bthen BB.out b)
  clear BB b
  have BB := B2
  clear B2
  go_wp2_with fail
  refine (add_w (Y) (X) _ (HT.out.on BB.out) FY.out FX.out (by rw [Int.add_comm]; exact FXY.out)).mono ?_
  rintro e w6 ⟨rfl, b⟩
  rw [Int.add_comm Y X]
  have B2 := Lib.hid (bthen BB.out b)
  clear BB b
  have BB := B2
  clear B2
  go_wp2_with fail
  refine (add_w (X + Y) (Z) _ (HT.out.on BB.out) FXY.out FZ.out FXYZ.out).mono ?_
  rintro e w7 ⟨rfl, b⟩
  have B2 := Lib.hid (bthen BB.out b)
  clear BB b
  have BB := B2
  clear B2
  go_wp2_with fail
  refine (add_w (Y) (Z) _ (HT.out.on BB.out) FY.out FZ.out FYZ.out).mono ?_
  rintro e w8 ⟨rfl, b⟩
  have B2 := Lib.hid (bthen BB.out b)
  clear BB b
  have BB := B2
  clear B2
  go_wp2_with fail
  refine (add_w (X) (Y + Z) _ (HT.out.on BB.out) FX.out FYZ.out (by rw [← Int.add_assoc]; exact FXYZ.out)).mono ?_
  rintro e w9 ⟨rfl, b⟩
  rw [← Int.add_assoc X Y Z]
  have B2 := Lib.hid (bthen BB.out b)
  clear BB b
  have BB := B2
  clear B2
  go_wp2_with fail
  refine (mul_w (X) (Y) _ (HT.out.on BB.out) FX.out FY.out GXY.out).mono ?_
  rintro e w10 ⟨rfl, b⟩
  have B2 := Lib.hid (bthen BB.out b)
  clear BB b
  have BB := B2
  clear B2
  go_wp2_with fail
  refine (mul_w (Y) (X) _ (HT.out.on BB.out) FY.out FX.out (by rw [Int.mul_comm]; exact GXY.out)).mono ?_
  rintro e w11 ⟨rfl, b⟩
  rw [Int.mul_comm Y X]
  have B2 := Lib.hid (bthen BB.out b)
  clear BB b
  have BB := B2
  clear B2
  go_wp2_with fail
  refine (mul_w (X * Y) (Z) _ (HT.out.on BB.out) GXY.out FZ.out GXYZ.out).mono ?_
  rintro e w12 ⟨rfl, b⟩
  have B2 := Lib.hid (bthen BB.out b)
  clear BB b
  have BB := B2
  clear B2
  go_wp2_with fail
  refine (mul_w (Y) (Z) _ (HT.out.on BB.out) FY.out FZ.out GYZ.out).mono ?_
  rintro e w13 ⟨rfl, b⟩
  have B2 := Lib.hid (bthen BB.out b)
  clear BB b
  have BB := B2
  clear B2
  go_wp2_with fail
  refine (mul_w (X) (Y * Z) _ (HT.out.on BB.out) FX.out GYZ.out (by rw [← Int.mul_assoc]; exact GXYZ.out)).mono ?_
  rintro e w14 ⟨rfl, b⟩
  rw [← Int.mul_assoc X Y Z]
  have B2 := Lib.hid (bthen BB.out b)
  clear BB b
  have BB := B2
  clear B2
  go_wp2_with fail
  refine (mul_w (X + Y) (Z) _ (HT.out.on BB.out) FXY.out FZ.out GL.out).mono ?_
  rintro e w15 ⟨rfl, b⟩
  have B2 := Lib.hid (bthen BB.out b)
  clear BB b
  have BB := B2
  clear B2
  go_wp2_with fail
  refine (mul_w (X) (Z) _ (HT.out.on BB.out) FX.out FZ.out GXZ.out).mono ?_
  rintro e w16 ⟨rfl, b⟩
  have B2 := Lib.hid (bthen BB.out b)
  clear BB b
  have BB := B2
  clear B2
  go_wp2_with fail
  refine (add_w (X * Z) (Y * Z) _ (HT.out.on BB.out) GXZ.out GYZ.out (by rw [← Int.add_mul]; exact GL.out)).mono ?_
  rintro e w17 ⟨rfl, b⟩
  rw [← Int.add_mul X Y Z]
  have B2 := Lib.hid (bthen BB.out b)
  clear BB b
  have BB := B2
  clear B2
  go_wp2_with fail
  refine (sub_w (X) (Y) _ (HT.out.on BB.out) FX.out FY.out DXY.out).mono ?_
  rintro e w18 ⟨rfl, b⟩
  have B2 := Lib.hid (bthen BB.out b)
  clear BB b
  have BB := B2
  clear B2
  go_wp2_with fail
  refine (add_w (X - Y) (Y) _ (HT.out.on BB.out) DXY.out FY.out (by rw [Int.sub_add_cancel]; exact FX.out)).mono ?_
  rintro e w19 ⟨rfl, b⟩
  rw [Int.sub_add_cancel X Y]
  have B2 := Lib.hid (bthen BB.out b)
  clear BB b
  have BB := B2
  clear B2
  go_wp2_with fail
  rw [l1]
  refine (mul_w (X) (1) _ (HT.out.on BB.out) FX.out (by decide) (by rw [Int.mul_one]; exact FX.out)).mono ?_
  rintro e w20 ⟨rfl, b⟩
  rw [Int.mul_one X]
  have B2 := Lib.hid (bthen BB.out b)
  clear BB b
  have BB := B2
  clear B2
  go_wp2_with fail
  rw [l0]
  refine (mul_w (X) (0) _ (HT.out.on BB.out) FX.out (by decide) (by rw [Int.mul_zero]; decide)).mono ?_
  rintro e w21 ⟨rfl, b⟩
  rw [Int.mul_zero X, ← l0]
  have B2 := Lib.hid (bthen BB.out b)
  clear BB b
  have BB := B2
  clear B2
  go_wp2_with fail
  go_ret
  exact ⟨rfl, BB.out⟩
end Go.Proofs.YthbiafjdilbbnaaGreatDoor.integerRing
