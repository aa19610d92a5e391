-- Printed by a program of this session's own, over the kit's print: functions of the program as plain functions, and their calls' contracts.
import Derived.Test.YtfdjdmkpcdbmkaaGreatDoorDPZx0
import Derived.Test.YtfdjdmkpcdbmkaaGreatDoorDPZx1
import Derived.Test.YtfdjdmkpcdbmkaaGreatDoorDPZx2
import Derived.Test.YtfdjdmkpcdbmkaaGreatDoorDPZx3
import Derived.Test.YtfdjdmkpcdbmkaaGreatDoorDPZx4
set_option linter.unusedVariables false
set_option linter.unusedSimpArgs false
namespace Go.Proofs.YtfdjdmkpcdbmkaaGreatDoor.PZ
open Go.RowKit Go.Proofs.YtfdjdmkpcdbmkaaGreatDoorW.PrintWords Go.Proofs.YtfdjdmkpcdbmkaaGreatDoorW.PrintLast Go.Proofs.YtfdjdmkpcdbmkaaGreatDoorW.PrintMore
attribute [local go_sem] max2_int min2_int max_two min_two max_three min_three max_four min_four   -- for this text's walks alone
set_option linter.unusedVariables false
set_option linter.unusedSimpArgs false

attribute [local go_sem high] eqA23
/-! ### newswirelaw04_RationalLimits: function 5 -/
mutual
def newswirelaw04_RationalLimits.l0 : Nat → Int → Int → Bool → ByteArray → Int → Option (Bool)
  | 0, _, _, _, _, _ => none
  | k + 1, x0, x1, x5, x6, x7 => if x7 < x0 then (if x6.size + 1 ≤ 9223372036854775807 then (newswirelaw04_RationalLimits.l0 k x0 x1 x5 (x6 ++ (⟨#[48]⟩ : ByteArray)) (wrap64 (x7 + 1))) else (none)) else (newswirelaw04_RationalLimits.l1 k x0 x1 x5 x6 (⟨#[49]⟩ : ByteArray) 0)
def newswirelaw04_RationalLimits.l1 : Nat → Int → Int → Bool → ByteArray → ByteArray → Int → Option (Bool)
  | 0, _, _, _, _, _, _ => none
  | k + 1, x0, x1, x5, x6, x8, x9 => if x9 < x1 then (if x8.size + 1 ≤ 9223372036854775807 then (newswirelaw04_RationalLimits.l1 k x0 x1 x5 x6 (x8 ++ (⟨#[48]⟩ : ByteArray)) (wrap64 (x9 + 1))) else (none)) else ((newswirelaw04_is.f x6 (⟨#[49]⟩ : ByteArray)).bind fun bt179 => ((newswirelaw04_is.f x8 (⟨#[49]⟩ : ByteArray)).bind fun bt182 => ((rational_Mul.f bt179.1 bt179.2 bt182.1 bt182.2).bind fun bt185 => ((newswirelaw04_is.f (⟨#[49]⟩ : ByteArray) (⟨#[49]⟩ : ByteArray)).bind fun bt189 => ((rational_Div.f bt189.1 bt189.2 bt182.1 bt182.2).bind fun bt191 => ((rational_Add.f bt179.1 bt179.2 bt191.1 bt191.2.1).bind fun bt195 => ((some (decide ((wrap64 ((wrap64 (x0 + x1)) + 1)) ≤ 200))).bind fun fz => ((if ((bt185.2.2 == 0) != fz) = true then (none) else (if bt185.2.2 = 0 then (if bt191.2.2 = 0 then (newswirelaw04_RationalLimits.j2 k x0 x1 x5 ((bt195.2.2 == 0) != fz) bt179.1 bt179.2 bt182.1 bt182.2 bt191.1 bt191.2.1) else (none)) else (if bt185.2.2 = 40 then (if (!(bt185.1.toList == ([] : List UInt8)) || (!(bt185.2.1.toList == ([] : List UInt8)))) = true then (none) else (if bt191.2.2 = 0 then (newswirelaw04_RationalLimits.j2 k x0 x1 x5 ((bt195.2.2 == 0) != fz) bt179.1 bt179.2 bt182.1 bt182.2 bt191.1 bt191.2.1) else (none))) else (none))))))))))))
def newswirelaw04_RationalLimits.j2 : Nat → Int → Int → Bool → Bool → ByteArray → ByteArray → ByteArray → ByteArray → ByteArray → ByteArray → Option (Bool)
  | 0, _, _, _, _, _, _, _, _, _, _ => none
  | k + 1, x0, x1, x5, x93, x182000, x182001, x185000, x185001, x195000, x195001 => if x93 = true then (none) else (if x0 < x1 then (newswirelaw04_RationalLimits.j3 k x0 x1 x5 (-1) x182000 x182001 x185000 x185001 x195000 x195001) else (if x0 > x1 then (newswirelaw04_RationalLimits.j3 k x0 x1 x5 1 x182000 x182001 x185000 x185001 x195000 x195001) else (newswirelaw04_RationalLimits.j3 k x0 x1 x5 0 x182000 x182001 x185000 x185001 x195000 x195001)))
def newswirelaw04_RationalLimits.j3 : Nat → Int → Int → Bool → Int → ByteArray → ByteArray → ByteArray → ByteArray → ByteArray → ByteArray → Option (Bool)
  | 0, _, _, _, _, _, _, _, _, _, _ => none
  | k + 1, x0, x1, x5, x19, x182000, x182001, x185000, x185001, x195000, x195001 => if x0 = 0 then (newswirelaw04_RationalLimits.j4 k x5 x19 1 (x1 == 0) x182000 x182001 x185000 x185001 x195000 x195001) else (newswirelaw04_RationalLimits.j4 k x5 x19 1 false x182000 x182001 x185000 x185001 x195000 x195001)
def newswirelaw04_RationalLimits.j4 : Nat → Bool → Int → Int → Bool → ByteArray → ByteArray → ByteArray → ByteArray → ByteArray → ByteArray → Option (Bool)
  | 0, _, _, _, _, _, _, _, _, _, _ => none
  | k + 1, x5, x19, x20, x105, x182000, x182001, x185000, x185001, x195000, x195001 => if x105 = true then (if x5 = true then ((rational_Compare.f x182000 x182001 x185000 x185001).bind fun t199 => (if t199 = x19 then ((rational_Compare.f x182000 x182001 x195000 x195001).bind fun t200 => (some (t200 == 0))) else (none))) else (none)) else (if x5 = true then ((rational_Compare.f x182000 x182001 x185000 x185001).bind fun t201 => (if t201 = x19 then ((rational_Compare.f x182000 x182001 x195000 x195001).bind fun t202 => (some (t202 == x20))) else (none))) else (none))
end
def newswirelaw04_RationalLimits.f (k : Nat) (a0 : Int) (a1 : Int) : Option (Bool) := (newswirelaw04_sane.f k).bind fun t176 => ((newswirelaw04_pick.f a0 200).bind fun t177 => ((newswirelaw04_pick.f a1 200).bind fun t178 => (newswirelaw04_RationalLimits.l0 k t177 t178 t176 (⟨#[49]⟩ : ByteArray) 0)))
theorem newswirelaw04_RationalLimits.mono_l : ∀ k, (∀ y0 y1 y2 y3 y4, LeO (newswirelaw04_RationalLimits.l0 k y0 y1 y2 y3 y4) (newswirelaw04_RationalLimits.l0 (k + 1) y0 y1 y2 y3 y4)) ∧ (∀ y0 y1 y2 y3 y4 y5, LeO (newswirelaw04_RationalLimits.l1 k y0 y1 y2 y3 y4 y5) (newswirelaw04_RationalLimits.l1 (k + 1) y0 y1 y2 y3 y4 y5)) ∧ (∀ y0 y1 y2 y3 y4 y5 y6 y7 y8 y9, LeO (newswirelaw04_RationalLimits.j2 k y0 y1 y2 y3 y4 y5 y6 y7 y8 y9) (newswirelaw04_RationalLimits.j2 (k + 1) y0 y1 y2 y3 y4 y5 y6 y7 y8 y9)) ∧ (∀ y0 y1 y2 y3 y4 y5 y6 y7 y8 y9, LeO (newswirelaw04_RationalLimits.j3 k y0 y1 y2 y3 y4 y5 y6 y7 y8 y9) (newswirelaw04_RationalLimits.j3 (k + 1) y0 y1 y2 y3 y4 y5 y6 y7 y8 y9)) ∧ (∀ y0 y1 y2 y3 y4 y5 y6 y7 y8 y9, LeO (newswirelaw04_RationalLimits.j4 k y0 y1 y2 y3 y4 y5 y6 y7 y8 y9) (newswirelaw04_RationalLimits.j4 (k + 1) y0 y1 y2 y3 y4 y5 y6 y7 y8 y9))
  | 0 => ⟨fun _ _ _ _ _ r h => by simp [newswirelaw04_RationalLimits.l0] at h, fun _ _ _ _ _ _ r h => by simp [newswirelaw04_RationalLimits.l1] at h, fun _ _ _ _ _ _ _ _ _ _ r h => by simp [newswirelaw04_RationalLimits.j2] at h, fun _ _ _ _ _ _ _ _ _ _ r h => by simp [newswirelaw04_RationalLimits.j3] at h, fun _ _ _ _ _ _ _ _ _ _ r h => by simp [newswirelaw04_RationalLimits.j4] at h⟩
  | k + 1 => by
    obtain ⟨ih0, ih1, ih2, ih3, ih4⟩ := newswirelaw04_RationalLimits.mono_l k
    refine ⟨?_, ?_, ?_, ?_, ?_⟩
    ·
     intro y0 y1 y2 y3 y4
     unfold newswirelaw04_RationalLimits.l0
     repeat' first
     | (with_reducible exact ih0 _ _ _ _ _)
     | (with_reducible exact ih1 _ _ _ _ _ _)
     | (with_reducible exact ih2 _ _ _ _ _ _ _ _ _ _)
     | (with_reducible exact ih3 _ _ _ _ _ _ _ _ _ _)
     | (with_reducible exact ih4 _ _ _ _ _ _ _ _ _ _)
     | (with_reducible exact newswirelaw04_sane.mono _)
     | (with_reducible exact LeO.refl _)
     | (with_reducible exact LeO.none _)
     | (with_reducible refine LeO.ite ?_ ?_)
     | (with_reducible refine LeO.bind ?_ (fun _ => ?_))
     | exact ih0 _ _ _ _ _
     | exact ih1 _ _ _ _ _ _
     | exact ih2 _ _ _ _ _ _ _ _ _ _
     | exact ih3 _ _ _ _ _ _ _ _ _ _
     | exact ih4 _ _ _ _ _ _ _ _ _ _
     | exact newswirelaw04_sane.mono _
     | exact LeO.none _
     | refine LeO.ite ?_ ?_
     | refine LeO.bind ?_ (fun _ => ?_)
    ·
     intro y0 y1 y2 y3 y4 y5
     unfold newswirelaw04_RationalLimits.l1
     repeat' first
     | (with_reducible exact ih0 _ _ _ _ _)
     | (with_reducible exact ih1 _ _ _ _ _ _)
     | (with_reducible exact ih2 _ _ _ _ _ _ _ _ _ _)
     | (with_reducible exact ih3 _ _ _ _ _ _ _ _ _ _)
     | (with_reducible exact ih4 _ _ _ _ _ _ _ _ _ _)
     | (with_reducible exact newswirelaw04_sane.mono _)
     | (with_reducible exact LeO.refl _)
     | (with_reducible exact LeO.none _)
     | (with_reducible refine LeO.ite ?_ ?_)
     | (with_reducible refine LeO.bind ?_ (fun _ => ?_))
     | exact ih0 _ _ _ _ _
     | exact ih1 _ _ _ _ _ _
     | exact ih2 _ _ _ _ _ _ _ _ _ _
     | exact ih3 _ _ _ _ _ _ _ _ _ _
     | exact ih4 _ _ _ _ _ _ _ _ _ _
     | exact newswirelaw04_sane.mono _
     | exact LeO.none _
     | refine LeO.ite ?_ ?_
     | refine LeO.bind ?_ (fun _ => ?_)
    ·
     intro y0 y1 y2 y3 y4 y5 y6 y7 y8 y9
     unfold newswirelaw04_RationalLimits.j2
     repeat' first
     | (with_reducible exact ih0 _ _ _ _ _)
     | (with_reducible exact ih1 _ _ _ _ _ _)
     | (with_reducible exact ih2 _ _ _ _ _ _ _ _ _ _)
     | (with_reducible exact ih3 _ _ _ _ _ _ _ _ _ _)
     | (with_reducible exact ih4 _ _ _ _ _ _ _ _ _ _)
     | (with_reducible exact newswirelaw04_sane.mono _)
     | (with_reducible exact LeO.refl _)
     | (with_reducible exact LeO.none _)
     | (with_reducible refine LeO.ite ?_ ?_)
     | (with_reducible refine LeO.bind ?_ (fun _ => ?_))
     | exact ih0 _ _ _ _ _
     | exact ih1 _ _ _ _ _ _
     | exact ih2 _ _ _ _ _ _ _ _ _ _
     | exact ih3 _ _ _ _ _ _ _ _ _ _
     | exact ih4 _ _ _ _ _ _ _ _ _ _
     | exact newswirelaw04_sane.mono _
     | exact LeO.none _
     | refine LeO.ite ?_ ?_
     | refine LeO.bind ?_ (fun _ => ?_)
    ·
     intro y0 y1 y2 y3 y4 y5 y6 y7 y8 y9
     unfold newswirelaw04_RationalLimits.j3
     repeat' first
     | (with_reducible exact ih0 _ _ _ _ _)
     | (with_reducible exact ih1 _ _ _ _ _ _)
     | (with_reducible exact ih2 _ _ _ _ _ _ _ _ _ _)
     | (with_reducible exact ih3 _ _ _ _ _ _ _ _ _ _)
     | (with_reducible exact ih4 _ _ _ _ _ _ _ _ _ _)
     | (with_reducible exact newswirelaw04_sane.mono _)
     | (with_reducible exact LeO.refl _)
     | (with_reducible exact LeO.none _)
     | (with_reducible refine LeO.ite ?_ ?_)
     | (with_reducible refine LeO.bind ?_ (fun _ => ?_))
     | exact ih0 _ _ _ _ _
     | exact ih1 _ _ _ _ _ _
     | exact ih2 _ _ _ _ _ _ _ _ _ _
     | exact ih3 _ _ _ _ _ _ _ _ _ _
     | exact ih4 _ _ _ _ _ _ _ _ _ _
     | exact newswirelaw04_sane.mono _
     | exact LeO.none _
     | refine LeO.ite ?_ ?_
     | refine LeO.bind ?_ (fun _ => ?_)
    ·
     intro y0 y1 y2 y3 y4 y5 y6 y7 y8 y9
     unfold newswirelaw04_RationalLimits.j4
     repeat' first
     | (with_reducible exact ih0 _ _ _ _ _)
     | (with_reducible exact ih1 _ _ _ _ _ _)
     | (with_reducible exact ih2 _ _ _ _ _ _ _ _ _ _)
     | (with_reducible exact ih3 _ _ _ _ _ _ _ _ _ _)
     | (with_reducible exact ih4 _ _ _ _ _ _ _ _ _ _)
     | (with_reducible exact newswirelaw04_sane.mono _)
     | (with_reducible exact LeO.refl _)
     | (with_reducible exact LeO.none _)
     | (with_reducible refine LeO.ite ?_ ?_)
     | (with_reducible refine LeO.bind ?_ (fun _ => ?_))
     | exact ih0 _ _ _ _ _
     | exact ih1 _ _ _ _ _ _
     | exact ih2 _ _ _ _ _ _ _ _ _ _
     | exact ih3 _ _ _ _ _ _ _ _ _ _
     | exact ih4 _ _ _ _ _ _ _ _ _ _
     | exact newswirelaw04_sane.mono _
     | exact LeO.none _
     | refine LeO.ite ?_ ?_
     | refine LeO.bind ?_ (fun _ => ?_)
theorem newswirelaw04_RationalLimits.mono : ∀ a0 a1 k, LeO (newswirelaw04_RationalLimits.f k a0 a1) (newswirelaw04_RationalLimits.f (k + 1) a0 a1) := by
  intro a0 a1 k
  obtain ⟨ih0, ih1, ih2, ih3, ih4⟩ := newswirelaw04_RationalLimits.mono_l k
  unfold newswirelaw04_RationalLimits.f
  repeat' first
     | (with_reducible exact ih0 _ _ _ _ _)
     | (with_reducible exact ih1 _ _ _ _ _ _)
     | (with_reducible exact ih2 _ _ _ _ _ _ _ _ _ _)
     | (with_reducible exact ih3 _ _ _ _ _ _ _ _ _ _)
     | (with_reducible exact ih4 _ _ _ _ _ _ _ _ _ _)
     | (with_reducible exact newswirelaw04_sane.mono _)
     | (with_reducible exact LeO.refl _)
     | (with_reducible exact LeO.none _)
     | (with_reducible refine LeO.ite ?_ ?_)
     | (with_reducible refine LeO.bind ?_ (fun _ => ?_))
     | exact ih0 _ _ _ _ _
     | exact ih1 _ _ _ _ _ _
     | exact ih2 _ _ _ _ _ _ _ _ _ _
     | exact ih3 _ _ _ _ _ _ _ _ _ _
     | exact ih4 _ _ _ _ _ _ _ _ _ _
     | exact newswirelaw04_sane.mono _
     | exact LeO.none _
     | refine LeO.ite ?_ ?_
     | refine LeO.bind ?_ (fun _ => ?_)
def newswirelaw04_RationalLimits.T17 : Bool × List (List Nat × List Nat) := (true, [([], []), ([], []), ([0, 1, 0], [0, 1]), ([2], [2]), ([3], [3]), ([3], [3]), ([], []), ([6, 4, 2, 0, 1, 2, 3, 4, 6], [4, 6]), ([5, 7, 0, 1, 2, 3, 4, 5, 6, 7], [5])])
def newswirelaw04_RationalLimits.B17 : List Nat := [0, 0, 3, 7, 15, 15, 0, 95, 255]
theorem newswirelaw04_RationalLimits.tab17 : rtab .any (opsOf Tryz.f5 17) = newswirelaw04_RationalLimits.T17 := by kernel_rfl
theorem newswirelaw04_RationalLimits.bits17 : waitsOk newswirelaw04_RationalLimits.T17.2 newswirelaw04_RationalLimits.B17 = true := by kernel_rfl
set_option maxHeartbeats 8000000 in
set_option maxRecDepth 100000 in
theorem newswirelaw04_RationalLimits.calls (k : Nat) (a0 : Int) (a1 : Int) (r : Bool) (w : World) (hT : Laid w) (h : newswirelaw04_RationalLimits.f k a0 a1 = some r) :
    Calls Tryz.prog 5 #[.int .i64 a0, .int .i64 a1] w fun e w' => e = .returned (.bool r) ∧ Below w.heap.size w w' := by
  have hu23 := Tryz.underlying23
  have HT := Aside0.mk hT
  clear hT
  have HB := Aside0.mk (Below.refl w.heap.size w)
  have H : ((newswirelaw04_sane.f k).bind fun t176 => ((newswirelaw04_pick.f a0 200).bind fun t177 => ((newswirelaw04_pick.f a1 200).bind fun t178 => (newswirelaw04_RationalLimits.l0 k t177 t178 t176 (⟨#[49]⟩ : ByteArray) 0)))) = some r := h
  clear h
  replace H := Option.bind_eq_some_iff.mp H
  obtain ⟨t176, A30, H⟩ := H
  replace H : ((newswirelaw04_pick.f a0 200).bind fun t177 => ((newswirelaw04_pick.f a1 200).bind fun t178 => (newswirelaw04_RationalLimits.l0 k t177 t178 t176 (⟨#[49]⟩ : ByteArray) 0))) = some r := H
  have A3 := Aside0.mk A30
  clear A30
  replace H := Option.bind_eq_some_iff.mp H
  obtain ⟨t177, A40, H⟩ := H
  replace H : ((newswirelaw04_pick.f a1 200).bind fun t178 => (newswirelaw04_RationalLimits.l0 k t177 t178 t176 (⟨#[49]⟩ : ByteArray) 0)) = some r := H
  have A4 := Aside0.mk A40
  clear A40
  replace H := Option.bind_eq_some_iff.mp H
  obtain ⟨t178, A50, H⟩ := H
  replace H : (newswirelaw04_RationalLimits.l0 k t177 t178 t176 (⟨#[49]⟩ : ByteArray) 0) = some r := H
  have A5 := Aside0.mk A50
  clear A50
  have H' := Aside0.mk H
  clear H
  go_enter Tryz.func5, Tryz.ntmps5
  go_wp2_with (first | ((with_reducible refine gate_callee (f := 11) rfl ?_); refine goesL_ (some 21) rfl rfl Tryz.func11 (by kernel_rfl) rfl #[] rfl (by (try simp only [List.map_toArray, List.map_cons, List.map_nil]); first | done | rfl | (simp only [List.length_drop, List.length_take]; rfl)) ?_; (with_reducible refine (newswirelaw04_sane.calls k  t176 _ ?side1 A3.out).mono ?_); (case side1 => exact Laid.on HT.out (by repeat (first | (with_reducible first | exact HB.out | apply below_alloc | apply pw_below_drewN | apply below_drew1) | exact HB.out))); rintro e w6 ⟨rfl, hb⟩; refine ⟨_, rfl, ?_⟩; have n0_ := Aside0.mk (below_step (by repeat (first | (with_reducible first | exact HB.out | apply below_alloc | apply pw_below_drewN | apply below_drew1) | exact HB.out)) hb); clear HB; have HB := n0_; clear n0_; (try clear hb); (try clear hb2); (try clear hk); (try clear hi)) | ((with_reducible refine gate_callee (f := 18) rfl ?_); refine goesL_ (some 23) rfl rfl Tryz.func18 (by kernel_rfl) rfl #[.int .i64 a0, .int .i64 200] rfl (by (try simp only [List.map_toArray, List.map_cons, List.map_nil]); first | done | rfl | (simp only [List.length_drop, List.length_take]; rfl)) ?_; (with_reducible refine (newswirelaw04_pick.calls a0 200 t177 _ A4.out).mono ?_); rintro e w' ⟨rfl, ⟨nd, rfl⟩⟩; refine ⟨_, rfl, ?_⟩) | ((with_reducible refine gate_callee (f := 18) rfl ?_); refine goesL_ (some 25) rfl rfl Tryz.func18 (by kernel_rfl) rfl #[.int .i64 a1, .int .i64 200] rfl (by (try simp only [List.map_toArray, List.map_cons, List.map_nil]); first | done | rfl | (simp only [List.length_drop, List.length_take]; rfl)) ?_; (with_reducible refine (newswirelaw04_pick.calls a1 200 t178 _ A5.out).mono ?_); rintro e w' ⟨rfl, ⟨nd, rfl⟩⟩; refine ⟨_, rfl, ?_⟩))
  go_loopg [6, 7] k (fun kq v6 v7 w' => ∃ (x6_1 : ByteArray) (x7_1 : Int), v6 = .string x6_1 ∧ v7 = .int .i64 x7_1 ∧ Aside0 (newswirelaw04_RationalLimits.l0 kq t177 t178 t176 x6_1 x7_1 = some r) ∧ Aside0 (kq ≤ k) ∧ Aside0 (Below w.heap.size w w'))
  case atStart => exact ⟨((⟨#[49]⟩ : ByteArray)), (0), (by first | rfl | (simp; done) | (simp [*]; done)), (by first | rfl | (simp; done) | (simp [*]; done)), H', ⟨Nat.le_refl _⟩, ⟨by repeat (first | (with_reducible first | exact HB.out | apply below_alloc | apply pw_below_drewN | apply below_drew1) | exact HB.out)⟩⟩
  case round =>
    clear H'
    try clear c1
    try clear p2
    try clear c5
    obtain ⟨x6_1, x7_1, rfl, rfl, HA, HK1, HB⟩ := hrel
    cases gk with
    | zero => exact absurd HA.out (by simp [newswirelaw04_RationalLimits.l0])
    | succ k1 =>
     have H := HA.out
     clear HA
     simp only [newswirelaw04_RationalLimits.l0] at H
     by_cases c7 : x7_1 < t177
     ·
      rw [if_pos c7] at H
      have c7b0 : decide (x7_1 < t177) = true := decide_eq_true c7
      clear c7
      by_cases c8 : x6_1.size + 1 ≤ 9223372036854775807
      ·
       rw [if_pos c8] at H
       have c8b0 := eq_true c8
       have c8b1 : decide (x6_1.size + 1 ≤ 9223372036854775807) = true := decide_eq_true c8
       try have c8b2 : (9223372036854775807 < x6_1.size + 1) = False := eq_false (Nat.not_lt.2 c8)
       have H' := Aside0.mk H
       clear H
       go_wp2
       go_roundg k1
       case measure => have := HK1.out; omega
       case rel => exact ⟨(x6_1 ++ (⟨#[48]⟩ : ByteArray)), (wrap64 (x7_1 + 1)), (by first | rfl | (simp; done) | (simp [*]; done)), (by first | rfl | (simp; done) | (simp [*]; done)), H', ⟨by have := HK1.out; omega⟩, ⟨by repeat (first | (with_reducible first | exact HB.out | apply below_alloc | apply pw_below_drewN | apply below_drew1) | exact HB.out)⟩⟩
      ·
       rw [if_neg c8] at H
       exact absurd H (by simp)
     ·
      rw [if_neg c7] at H
      have c7b0 : decide (x7_1 < t177) = false := decide_eq_false c7
      clear c7
      have H' := Aside0.mk H
      clear H
      go_wp2
      go_loopg [8, 9] k1 (fun kq v8 v9 w' => ∃ (x8_2 : ByteArray) (x9_2 : Int), v8 = .string x8_2 ∧ v9 = .int .i64 x9_2 ∧ Aside0 (newswirelaw04_RationalLimits.l1 kq t177 t178 t176 x6_1 x8_2 x9_2 = some r) ∧ Aside0 (kq ≤ k1) ∧ Aside0 (Below w.heap.size w w'))
      case atStart => exact ⟨((⟨#[49]⟩ : ByteArray)), (0), (by first | rfl | (simp; done) | (simp [*]; done)), (by first | rfl | (simp; done) | (simp [*]; done)), H', ⟨Nat.le_refl _⟩, ⟨by repeat (first | (with_reducible first | exact HB.out | apply below_alloc | apply pw_below_drewN | apply below_drew1) | exact HB.out)⟩⟩
      case round =>
       clear H'
       try clear c1
       try clear p2
       try clear c5
       try clear p6
       try clear c7
       try clear c7b0
       try clear c8
       try clear c8b0
       try clear c8b1
       try clear c8b2
       try clear p2
       obtain ⟨x8_2, x9_2, rfl, rfl, HA, HK2, HB⟩ := hrel
       cases gk with
       | zero => exact absurd HA.out (by simp [newswirelaw04_RationalLimits.l1])
       | succ k2 =>
        have H := HA.out
        clear HA
        simp only [newswirelaw04_RationalLimits.l1] at H
        by_cases c9 : x9_2 < t178
        ·
         rw [if_pos c9] at H
         have c9b0 : decide (x9_2 < t178) = true := decide_eq_true c9
         clear c9
         by_cases c10 : x8_2.size + 1 ≤ 9223372036854775807
         ·
          rw [if_pos c10] at H
          have c10b0 := eq_true c10
          have c10b1 : decide (x8_2.size + 1 ≤ 9223372036854775807) = true := decide_eq_true c10
          try have c10b2 : (9223372036854775807 < x8_2.size + 1) = False := eq_false (Nat.not_lt.2 c10)
          have H' := Aside0.mk H
          clear H
          go_wp2
          go_roundg k2
          case measure => have := HK1.out; have := HK2.out; omega
          case rel => exact ⟨(x8_2 ++ (⟨#[48]⟩ : ByteArray)), (wrap64 (x9_2 + 1)), (by first | rfl | (simp; done) | (simp [*]; done)), (by first | rfl | (simp; done) | (simp [*]; done)), H', ⟨by have := HK1.out; have := HK2.out; omega⟩, ⟨by repeat (first | (with_reducible first | exact HB.out | apply below_alloc | apply pw_below_drewN | apply below_drew1) | exact HB.out)⟩⟩
         ·
          rw [if_neg c10] at H
          exact absurd H (by simp)
        ·
         rw [if_neg c9] at H
         have c9b0 : decide (x9_2 < t178) = false := decide_eq_false c9
         clear c9
         replace H := Option.bind_eq_some_iff.mp H
         obtain ⟨⟨t179, t180⟩, A110, H⟩ := H
         replace H : ((newswirelaw04_is.f x8_2 (⟨#[49]⟩ : ByteArray)).bind fun bt182 => ((rational_Mul.f t179 t180 bt182.1 bt182.2).bind fun bt185 => ((newswirelaw04_is.f (⟨#[49]⟩ : ByteArray) (⟨#[49]⟩ : ByteArray)).bind fun bt189 => ((rational_Div.f bt189.1 bt189.2 bt182.1 bt182.2).bind fun bt191 => ((rational_Add.f t179 t180 bt191.1 bt191.2.1).bind fun bt195 => ((some (decide ((wrap64 ((wrap64 (t177 + t178)) + 1)) ≤ 200))).bind fun fz => ((if ((bt185.2.2 == 0) != fz) = true then (none) else (if bt185.2.2 = 0 then (if bt191.2.2 = 0 then (newswirelaw04_RationalLimits.j2 k2 t177 t178 t176 ((bt195.2.2 == 0) != fz) t179 t180 bt182.1 bt182.2 bt191.1 bt191.2.1) else (none)) else (if bt185.2.2 = 40 then (if (!(bt185.1.toList == ([] : List UInt8)) || (!(bt185.2.1.toList == ([] : List UInt8)))) = true then (none) else (if bt191.2.2 = 0 then (newswirelaw04_RationalLimits.j2 k2 t177 t178 t176 ((bt195.2.2 == 0) != fz) t179 t180 bt182.1 bt182.2 bt191.1 bt191.2.1) else (none))) else (none))))))))))) = some r := H
         have A11 := Aside0.mk A110
         clear A110
         replace H := Option.bind_eq_some_iff.mp H
         obtain ⟨⟨t182, t183⟩, A120, H⟩ := H
         replace H : ((rational_Mul.f t179 t180 t182 t183).bind fun bt185 => ((newswirelaw04_is.f (⟨#[49]⟩ : ByteArray) (⟨#[49]⟩ : ByteArray)).bind fun bt189 => ((rational_Div.f bt189.1 bt189.2 t182 t183).bind fun bt191 => ((rational_Add.f t179 t180 bt191.1 bt191.2.1).bind fun bt195 => ((some (decide ((wrap64 ((wrap64 (t177 + t178)) + 1)) ≤ 200))).bind fun fz => ((if ((bt185.2.2 == 0) != fz) = true then (none) else (if bt185.2.2 = 0 then (if bt191.2.2 = 0 then (newswirelaw04_RationalLimits.j2 k2 t177 t178 t176 ((bt195.2.2 == 0) != fz) t179 t180 t182 t183 bt191.1 bt191.2.1) else (none)) else (if bt185.2.2 = 40 then (if (!(bt185.1.toList == ([] : List UInt8)) || (!(bt185.2.1.toList == ([] : List UInt8)))) = true then (none) else (if bt191.2.2 = 0 then (newswirelaw04_RationalLimits.j2 k2 t177 t178 t176 ((bt195.2.2 == 0) != fz) t179 t180 t182 t183 bt191.1 bt191.2.1) else (none))) else (none)))))))))) = some r := H
         have A12 := Aside0.mk A120
         clear A120
         replace H := Option.bind_eq_some_iff.mp H
         obtain ⟨⟨t185, t186, t187⟩, A130, H⟩ := H
         replace H : ((newswirelaw04_is.f (⟨#[49]⟩ : ByteArray) (⟨#[49]⟩ : ByteArray)).bind fun bt189 => ((rational_Div.f bt189.1 bt189.2 t182 t183).bind fun bt191 => ((rational_Add.f t179 t180 bt191.1 bt191.2.1).bind fun bt195 => ((some (decide ((wrap64 ((wrap64 (t177 + t178)) + 1)) ≤ 200))).bind fun fz => ((if ((t187 == 0) != fz) = true then (none) else (if t187 = 0 then (if bt191.2.2 = 0 then (newswirelaw04_RationalLimits.j2 k2 t177 t178 t176 ((bt195.2.2 == 0) != fz) t179 t180 t182 t183 bt191.1 bt191.2.1) else (none)) else (if t187 = 40 then (if (!(t185.toList == ([] : List UInt8)) || (!(t186.toList == ([] : List UInt8)))) = true then (none) else (if bt191.2.2 = 0 then (newswirelaw04_RationalLimits.j2 k2 t177 t178 t176 ((bt195.2.2 == 0) != fz) t179 t180 t182 t183 bt191.1 bt191.2.1) else (none))) else (none))))))))) = some r := H
         have A13 := Aside0.mk A130
         clear A130
         replace H := Option.bind_eq_some_iff.mp H
         obtain ⟨⟨t189, t190⟩, A140, H⟩ := H
         replace H : ((rational_Div.f t189 t190 t182 t183).bind fun bt191 => ((rational_Add.f t179 t180 bt191.1 bt191.2.1).bind fun bt195 => ((some (decide ((wrap64 ((wrap64 (t177 + t178)) + 1)) ≤ 200))).bind fun fz => ((if ((t187 == 0) != fz) = true then (none) else (if t187 = 0 then (if bt191.2.2 = 0 then (newswirelaw04_RationalLimits.j2 k2 t177 t178 t176 ((bt195.2.2 == 0) != fz) t179 t180 t182 t183 bt191.1 bt191.2.1) else (none)) else (if t187 = 40 then (if (!(t185.toList == ([] : List UInt8)) || (!(t186.toList == ([] : List UInt8)))) = true then (none) else (if bt191.2.2 = 0 then (newswirelaw04_RationalLimits.j2 k2 t177 t178 t176 ((bt195.2.2 == 0) != fz) t179 t180 t182 t183 bt191.1 bt191.2.1) else (none))) else (none)))))))) = some r := H
         have A14 := Aside0.mk A140
         clear A140
         replace H := Option.bind_eq_some_iff.mp H
         obtain ⟨⟨t191, t192, t193⟩, A150, H⟩ := H
         replace H : ((rational_Add.f t179 t180 t191 t192).bind fun bt195 => ((some (decide ((wrap64 ((wrap64 (t177 + t178)) + 1)) ≤ 200))).bind fun fz => ((if ((t187 == 0) != fz) = true then (none) else (if t187 = 0 then (if t193 = 0 then (newswirelaw04_RationalLimits.j2 k2 t177 t178 t176 ((bt195.2.2 == 0) != fz) t179 t180 t182 t183 t191 t192) else (none)) else (if t187 = 40 then (if (!(t185.toList == ([] : List UInt8)) || (!(t186.toList == ([] : List UInt8)))) = true then (none) else (if t193 = 0 then (newswirelaw04_RationalLimits.j2 k2 t177 t178 t176 ((bt195.2.2 == 0) != fz) t179 t180 t182 t183 t191 t192) else (none))) else (none))))))) = some r := H
         have A15 := Aside0.mk A150
         clear A150
         replace H := Option.bind_eq_some_iff.mp H
         obtain ⟨⟨t195, t196, t197⟩, A160, H⟩ := H
         replace H : ((some (decide ((wrap64 ((wrap64 (t177 + t178)) + 1)) ≤ 200))).bind fun fz => ((if ((t187 == 0) != fz) = true then (none) else (if t187 = 0 then (if t193 = 0 then (newswirelaw04_RationalLimits.j2 k2 t177 t178 t176 ((t197 == 0) != fz) t179 t180 t182 t183 t191 t192) else (none)) else (if t187 = 40 then (if (!(t185.toList == ([] : List UInt8)) || (!(t186.toList == ([] : List UInt8)))) = true then (none) else (if t193 = 0 then (newswirelaw04_RationalLimits.j2 k2 t177 t178 t176 ((t197 == 0) != fz) t179 t180 t182 t183 t191 t192) else (none))) else (none)))))) = some r := H
         replace H := Option.bind_eq_some_iff.mp H
         obtain ⟨fz, hfz0, H⟩ := H
         have hfz : (decide ((wrap64 ((wrap64 (t177 + t178)) + 1)) ≤ 200)) = fz := Option.some.inj hfz0
         clear hfz0
         replace H : (if ((t187 == 0) != fz) = true then (none) else (if t187 = 0 then (if t193 = 0 then (newswirelaw04_RationalLimits.j2 k2 t177 t178 t176 ((t197 == 0) != fz) t179 t180 t182 t183 t191 t192) else (none)) else (if t187 = 40 then (if (!(t185.toList == ([] : List UInt8)) || (!(t186.toList == ([] : List UInt8)))) = true then (none) else (if t193 = 0 then (newswirelaw04_RationalLimits.j2 k2 t177 t178 t176 ((t197 == 0) != fz) t179 t180 t182 t183 t191 t192) else (none))) else (none)))) = some r := H
         have A16 := Aside0.mk A160
         clear A160
         have HC17 := Aside0.mk H
         clear H
         try go_wp2_with (first | ((with_reducible refine gate_callee (f := 24) rfl ?_); refine goesL_ (some 41) rfl rfl Tryz.func24 (by kernel_rfl) rfl #[.string x6_1, .string (⟨#[49]⟩ : ByteArray)] rfl (by (try simp only [List.map_toArray, List.map_cons, List.map_nil]); first | done | rfl | (simp only [List.length_drop, List.length_take]; rfl)) ?_; (with_reducible refine (newswirelaw04_is.calls x6_1 (⟨#[49]⟩ : ByteArray) t179 t180 _ A11.out).mono ?_); rintro e w18 ⟨rfl, hb⟩; refine ⟨_, rfl, ?_⟩; have n0_ := Aside0.mk (below_step (by repeat (first | (with_reducible first | exact HB.out | apply below_alloc | apply pw_below_drewN | apply below_drew1) | exact HB.out)) hb); clear HB; have HB := n0_; clear n0_; (try clear hb); (try clear hb2); (try clear hk); (try clear hi)) | ((with_reducible refine gate_dst (N := 10) rfl ?_); refine box_event ?hg (N := 10) ?hd (cs := #[.string (⟨#[]⟩ : ByteArray), .string (⟨#[]⟩ : ByteArray)]) (t := 23) ?hr ?_; (case hd => rfl); (case hg => rfl); (case hr => first | (go_simp; done) | (go_simp; rfl)); intro gb181 hg w19 hbox hb; have n0_ := Aside0.mk (below_step (by repeat (first | (with_reducible first | exact HB.out | apply below_alloc | apply pw_below_drewN | apply below_drew1) | exact HB.out)) hb); have n1_ := Aside0.mk (hbox); have n2_ := Aside0.mk ((by rw [hg]; exact (below_size (by repeat (first | (with_reducible first | exact HB.out | apply below_alloc | apply pw_below_drewN | apply below_drew1) | exact HB.out))) : w.heap.size ≤ gb181)); have n3_ := Aside0.mk ((by rw [hg]; exact (below_size (by repeat (first | (with_reducible first | exact HB.out | apply below_alloc | apply pw_below_drewN | apply below_drew1) | exact HB.out))) : w.heap.size ≤ gb181)); clear HB; have HB := n0_; have BK181 := n1_; have GW181 := n2_; have GE181 := n3_; clear n0_ n1_ n2_ n3_; clear hb hbox hg; have hcz20_0 : w19.cell? ⟨gb181, 0, none⟩ = some (.string (⟨#[]⟩ : ByteArray)) := (blk_cell BK181.out 0).trans rfl; have hcz20_1 : w19.cell? ⟨gb181, 1, none⟩ = some (.string (⟨#[]⟩ : ByteArray)) := (blk_cell BK181.out 1).trans rfl; have hfz20_0 := blk_frozen BK181.out 0; have hfz20_1 := blk_frozen BK181.out 1) | ((with_reducible refine gate_callee (f := 24) rfl ?_); refine goesL_ (some 43) rfl rfl Tryz.func24 (by kernel_rfl) rfl #[.string x8_2, .string (⟨#[49]⟩ : ByteArray)] rfl (by (try simp only [List.map_toArray, List.map_cons, List.map_nil]); first | done | rfl | (simp only [List.length_drop, List.length_take]; rfl)) ?_; (with_reducible refine (newswirelaw04_is.calls x8_2 (⟨#[49]⟩ : ByteArray) t182 t183 _ A12.out).mono ?_); rintro e w21 ⟨rfl, hb⟩; refine ⟨_, rfl, ?_⟩; have n0_ := Aside0.mk (blk_below (g := gb181) (o := .cells #[.string t179, .string t180] 23 (0, 0)) (by (with_reducible repeat (first | refine blk_drewN ?_ _ | refine blk_drew ?_ | refine blk_alloc ?_ _)); refine blk_put (cs := #[.string t179, .string (⟨#[]⟩ : ByteArray)]) ?_ 1 _ rfl; (with_reducible repeat (first | refine blk_drewN ?_ _ | refine blk_drew ?_ | refine blk_alloc ?_ _)); refine blk_put (cs := #[.string (⟨#[]⟩ : ByteArray), .string (⟨#[]⟩ : ByteArray)]) ?_ 0 _ rfl; (with_reducible repeat (first | refine blk_drewN ?_ _ | refine blk_drew ?_ | refine blk_alloc ?_ _)); exact BK181.out) hb); have n1_ := Aside0.mk (below_step (by repeat (first | (with_reducible first | exact HB.out | apply below_alloc | apply pw_below_drewN | apply below_drew1 | refine below_set ?_ GE181.out) | exact HB.out)) hb); clear BK181; clear HB; have BK181 := n0_; have HB := n1_; clear n0_ n1_; (try clear hb); (try clear hb2); (try clear hk); (try clear hi)) | ((with_reducible refine gate_dst (N := 11) rfl ?_); refine box_event ?hg (N := 11) ?hd (cs := #[.string (⟨#[]⟩ : ByteArray), .string (⟨#[]⟩ : ByteArray)]) (t := 23) ?hr ?_; (case hd => rfl); (case hg => rfl); (case hr => first | (go_simp; done) | (go_simp; rfl)); intro gb184 hg w22 hbox hb; have n0_ := Aside0.mk (blk_below (g := gb181) (o := .cells #[.string t179, .string t180] 23 (0, 0)) (by (with_reducible repeat (first | refine blk_drewN ?_ _ | refine blk_drew ?_ | refine blk_alloc ?_ _)); exact BK181.out) hb); have n1_ := Aside0.mk (below_step (by repeat (first | (with_reducible first | exact HB.out | apply below_alloc | apply pw_below_drewN | apply below_drew1 | refine below_set ?_ GE181.out) | exact HB.out)) hb); have n2_ := Aside0.mk (hbox); have n3_ := Aside0.mk ((by rw [hg]; exact (below_size (by repeat (first | (with_reducible first | exact HB.out | apply below_alloc | apply pw_below_drewN | apply below_drew1 | refine below_set ?_ GE181.out) | exact HB.out))) : w.heap.size ≤ gb184)); have n4_ := Aside0.mk ((by rw [hg]; exact (below_size (by repeat (first | (with_reducible first | exact HB.out | apply below_alloc | apply pw_below_drewN | apply below_drew1 | refine below_set ?_ GE181.out) | exact HB.out))) : w.heap.size ≤ gb184)); have n5_ := Aside0.mk ((by rw [hg]; exact Nat.ne_of_lt (blk_lt (g := gb181) (o := .cells #[.string t179, .string t180] 23 (0, 0)) (by (with_reducible repeat (first | refine blk_drewN ?_ _ | refine blk_drew ?_ | refine blk_alloc ?_ _)); exact BK181.out)) : gb181 ≠ gb184)); have n6_ := Aside0.mk ((by rw [hg]; exact Nat.ne_of_gt (blk_lt (g := gb181) (o := .cells #[.string t179, .string t180] 23 (0, 0)) (by (with_reducible repeat (first | refine blk_drewN ?_ _ | refine blk_drew ?_ | refine blk_alloc ?_ _)); exact BK181.out)) : gb184 ≠ gb181)); clear BK181; clear HB; have BK181 := n0_; have HB := n1_; have BK184 := n2_; have GW184 := n3_; have GE184 := n4_; have NB181_184 := n5_; have NB184_181 := n6_; clear n0_ n1_ n2_ n3_ n4_ n5_ n6_; clear hb hbox hg; have hnb23 := NB184_181.out; have hnc23 := NB181_184.out; have hcz24_0 : w22.cell? ⟨gb184, 0, none⟩ = some (.string (⟨#[]⟩ : ByteArray)) := (blk_cell BK184.out 0).trans rfl; have hcz24_1 : w22.cell? ⟨gb184, 1, none⟩ = some (.string (⟨#[]⟩ : ByteArray)) := (blk_cell BK184.out 1).trans rfl; have hfz24_0 := blk_frozen BK184.out 0; have hfz24_1 := blk_frozen BK184.out 1; have hcz25_0 : w22.cell? ⟨gb181, 0, none⟩ = some (.string t179) := (blk_cell BK181.out 0).trans rfl; have hcz25_1 : w22.cell? ⟨gb181, 1, none⟩ = some (.string t180) := (blk_cell BK181.out 1).trans rfl; have hfz25_0 := blk_frozen BK181.out 0; have hfz25_1 := blk_frozen BK181.out 1) | ((with_reducible refine gate_callee (f := 25) rfl ?_); refine goesL_ (some 47) rfl rfl Tryz.func25 (by kernel_rfl) rfl #[.agg #[.string t179, .string t180], .agg #[.string t182, .string t183]] rfl (by (try simp only [List.map_toArray, List.map_cons, List.map_nil]); first | done | rfl | (simp only [List.length_drop, List.length_take]; rfl)) ?_; (with_reducible refine (rational_Mul.calls t179 t180 t182 t183 t185 t186 t187 _ ?side1 A13.out).mono ?_); (case side1 => exact Laid.on HT.out (by repeat (first | (with_reducible first | exact HB.out | apply below_alloc | apply pw_below_drewN | apply below_drew1 | refine below_set ?_ GE181.out | refine below_set ?_ GE184.out) | exact HB.out))); rintro e w26 ⟨rfl, hb⟩; refine ⟨_, rfl, ?_⟩; have n0_ := Aside0.mk (blk_below (g := gb181) (o := .cells #[.string t179, .string t180] 23 (0, 0)) (by (with_reducible repeat (first | refine blk_drewN ?_ _ | refine blk_drew ?_ | refine blk_alloc ?_ _ | refine blk_far ?_ NB181_184.out _)); exact BK181.out) hb); have n1_ := Aside0.mk (blk_below (g := gb184) (o := .cells #[.string t182, .string t183] 23 (0, 0)) (by (with_reducible repeat (first | refine blk_drewN ?_ _ | refine blk_drew ?_ | refine blk_alloc ?_ _)); refine blk_put (cs := #[.string t182, .string (⟨#[]⟩ : ByteArray)]) ?_ 1 _ rfl; (with_reducible repeat (first | refine blk_drewN ?_ _ | refine blk_drew ?_ | refine blk_alloc ?_ _)); refine blk_put (cs := #[.string (⟨#[]⟩ : ByteArray), .string (⟨#[]⟩ : ByteArray)]) ?_ 0 _ rfl; (with_reducible repeat (first | refine blk_drewN ?_ _ | refine blk_drew ?_ | refine blk_alloc ?_ _)); exact BK184.out) hb); have n2_ := Aside0.mk (below_step (by repeat (first | (with_reducible first | exact HB.out | apply below_alloc | apply pw_below_drewN | apply below_drew1 | refine below_set ?_ GE181.out | refine below_set ?_ GE184.out) | exact HB.out)) hb); clear BK181; clear BK184; clear HB; have BK181 := n0_; have BK184 := n1_; have HB := n2_; clear n0_ n1_ n2_; (try clear hb); (try clear hb2); (try clear hk); (try clear hi)) | ((with_reducible refine gate_dst (N := 12) rfl ?_); refine box_event ?hg (N := 12) ?hd (cs := #[.string (⟨#[]⟩ : ByteArray), .string (⟨#[]⟩ : ByteArray)]) (t := 23) ?hr ?_; (case hd => rfl); (case hg => rfl); (case hr => first | (go_simp; done) | (go_simp; rfl)); intro gb188 hg w27 hbox hb; have n0_ := Aside0.mk (blk_below (g := gb181) (o := .cells #[.string t179, .string t180] 23 (0, 0)) (by (with_reducible repeat (first | refine blk_drewN ?_ _ | refine blk_drew ?_ | refine blk_alloc ?_ _)); exact BK181.out) hb); have n1_ := Aside0.mk (blk_below (g := gb184) (o := .cells #[.string t182, .string t183] 23 (0, 0)) (by (with_reducible repeat (first | refine blk_drewN ?_ _ | refine blk_drew ?_ | refine blk_alloc ?_ _)); exact BK184.out) hb); have n2_ := Aside0.mk (below_step (by repeat (first | (with_reducible first | exact HB.out | apply below_alloc | apply pw_below_drewN | apply below_drew1 | refine below_set ?_ GE181.out | refine below_set ?_ GE184.out) | exact HB.out)) hb); have n3_ := Aside0.mk (hbox); have n4_ := Aside0.mk ((by rw [hg]; exact (below_size (by repeat (first | (with_reducible first | exact HB.out | apply below_alloc | apply pw_below_drewN | apply below_drew1 | refine below_set ?_ GE181.out | refine below_set ?_ GE184.out) | exact HB.out))) : w.heap.size ≤ gb188)); have n5_ := Aside0.mk ((by rw [hg]; exact (below_size (by repeat (first | (with_reducible first | exact HB.out | apply below_alloc | apply pw_below_drewN | apply below_drew1 | refine below_set ?_ GE181.out | refine below_set ?_ GE184.out) | exact HB.out))) : w.heap.size ≤ gb188)); have n6_ := Aside0.mk ((by rw [hg]; exact Nat.ne_of_lt (blk_lt (g := gb181) (o := .cells #[.string t179, .string t180] 23 (0, 0)) (by (with_reducible repeat (first | refine blk_drewN ?_ _ | refine blk_drew ?_ | refine blk_alloc ?_ _)); exact BK181.out)) : gb181 ≠ gb188)); have n7_ := Aside0.mk ((by rw [hg]; exact Nat.ne_of_gt (blk_lt (g := gb181) (o := .cells #[.string t179, .string t180] 23 (0, 0)) (by (with_reducible repeat (first | refine blk_drewN ?_ _ | refine blk_drew ?_ | refine blk_alloc ?_ _)); exact BK181.out)) : gb188 ≠ gb181)); have n8_ := Aside0.mk ((by rw [hg]; exact Nat.ne_of_lt (blk_lt (g := gb184) (o := .cells #[.string t182, .string t183] 23 (0, 0)) (by (with_reducible repeat (first | refine blk_drewN ?_ _ | refine blk_drew ?_ | refine blk_alloc ?_ _)); exact BK184.out)) : gb184 ≠ gb188)); have n9_ := Aside0.mk ((by rw [hg]; exact Nat.ne_of_gt (blk_lt (g := gb184) (o := .cells #[.string t182, .string t183] 23 (0, 0)) (by (with_reducible repeat (first | refine blk_drewN ?_ _ | refine blk_drew ?_ | refine blk_alloc ?_ _)); exact BK184.out)) : gb188 ≠ gb184)); clear BK181; clear BK184; clear HB; have BK181 := n0_; have BK184 := n1_; have HB := n2_; have BK188 := n3_; have GW188 := n4_; have GE188 := n5_; have NB181_188 := n6_; have NB188_181 := n7_; have NB184_188 := n8_; have NB188_184 := n9_; clear n0_ n1_ n2_ n3_ n4_ n5_ n6_ n7_ n8_ n9_; clear hb hbox hg; have hnb28 := NB188_181.out; have hnc28 := NB181_188.out; have hnb29 := NB188_184.out; have hnc29 := NB184_188.out; have hcz30_0 : w27.cell? ⟨gb188, 0, none⟩ = some (.string (⟨#[]⟩ : ByteArray)) := (blk_cell BK188.out 0).trans rfl; have hcz30_1 : w27.cell? ⟨gb188, 1, none⟩ = some (.string (⟨#[]⟩ : ByteArray)) := (blk_cell BK188.out 1).trans rfl; have hfz30_0 := blk_frozen BK188.out 0; have hfz30_1 := blk_frozen BK188.out 1))
         have n0_ : Aside0 (((w27.setCell ⟨gb188, 0, none⟩ (.string t185)).setCell ⟨gb188, 1, none⟩ (.string t186)).heap[gb181]? = some (.cells #[.string t179, .string t180] 23 (0, 0))) := ⟨by (with_reducible repeat (first | refine blk_drewN ?_ _ | refine blk_drew ?_ | refine blk_alloc ?_ _ | refine blk_far ?_ NB181_188.out _)); exact BK181.out⟩
         have n1_ : Aside0 (((w27.setCell ⟨gb188, 0, none⟩ (.string t185)).setCell ⟨gb188, 1, none⟩ (.string t186)).heap[gb184]? = some (.cells #[.string t182, .string t183] 23 (0, 0))) := ⟨by (with_reducible repeat (first | refine blk_drewN ?_ _ | refine blk_drew ?_ | refine blk_alloc ?_ _ | refine blk_far ?_ NB184_188.out _)); exact BK184.out⟩
         have n2_ : Aside0 (((w27.setCell ⟨gb188, 0, none⟩ (.string t185)).setCell ⟨gb188, 1, none⟩ (.string t186)).heap[gb188]? = some (.cells #[.string t185, .string t186] 23 (0, 0))) := ⟨by (with_reducible repeat (first | refine blk_drewN ?_ _ | refine blk_drew ?_ | refine blk_alloc ?_ _)); refine blk_put (cs := #[.string t185, .string (⟨#[]⟩ : ByteArray)]) ?_ 1 _ rfl; (with_reducible repeat (first | refine blk_drewN ?_ _ | refine blk_drew ?_ | refine blk_alloc ?_ _)); refine blk_put (cs := #[.string (⟨#[]⟩ : ByteArray), .string (⟨#[]⟩ : ByteArray)]) ?_ 0 _ rfl; (with_reducible repeat (first | refine blk_drewN ?_ _ | refine blk_drew ?_ | refine blk_alloc ?_ _)); exact BK188.out⟩
         have n3_ : Aside0 (Below w.heap.size w ((w27.setCell ⟨gb188, 0, none⟩ (.string t185)).setCell ⟨gb188, 1, none⟩ (.string t186))) := ⟨by repeat (first | (with_reducible first | exact HB.out | apply below_alloc | apply pw_below_drewN | apply below_drew1 | refine below_set ?_ GE181.out | refine below_set ?_ GE184.out | refine below_set ?_ GE188.out) | exact HB.out)⟩
         (try clear BK181)
         (try clear BK184)
         (try clear BK188)
         (try clear HB)
         generalize ((w27.setCell ⟨gb188, 0, none⟩ (.string t185)).setCell ⟨gb188, 1, none⟩ (.string t186)) = w31 at n0_ n1_ n2_ n3_ ⊢
         have BK181 := n0_
         have BK184 := n1_
         have BK188 := n2_
         have HB := n3_
         clear n0_ n1_ n2_ n3_
         have n0_ := Aside0.mk (blk_drew BK181.out)
         have n1_ := Aside0.mk (blk_drew BK184.out)
         have n2_ := Aside0.mk (blk_drew BK188.out)
         have n3_ := Aside0.mk (below_drew1 HB.out)
         clear BK181
         clear BK184
         clear BK188
         clear HB
         have BK181 := n0_
         have BK184 := n1_
         have BK188 := n2_
         have HB := n3_
         clear n0_ n1_ n2_ n3_
         refine start_ (n := 9) (S := fun w' => w'.cell? ⟨gb184, 0, none⟩ = some (.string t182) ∧ w'.cell? ⟨gb184, 1, none⟩ = some (.string t183)) (ds := []) #[false, false, false, false, false, false, false, false, false] (by kernel_rfl) rfl rfl ⟨(blk_cell BK184.out 0).trans rfl, (blk_cell BK184.out 1).trans rfl⟩ (fun hHeld => ?_); refine with_tabW newswirelaw04_RationalLimits.tab17 newswirelaw04_RationalLimits.bits17 (fun HT_ HW_ => ?_)
         generalize w31.drew = w32 at BK181 BK184 BK188 HB hHeld ⊢
         refine take_ (i := 1) (N := some 52) (v := ?_) (a' := ?_) #[false, true, false, false, false, false, false, false, false] rfl rfl (take_ofW HT_.out HW_.out (by kernel_rfl)) (fun _ _ _ h => h) (Or.inl ⟨by rfl, ?_⟩) hHeld ?_ ?_
         rotate_left
         ·
          rintro w' ⟨s0, s1⟩
          go_simp
          with_reducible rfl
         rotate_left
         ·
          simp only [Act.put, List.setIfInBounds_toArray, List.set_cons_zero, List.set_cons_succ, i64_w, i32_w]
          rfl
         refine join_ (σ := Nat) 2 #[true, true, true, true, true, true, true, false, false] (fun s_ => [(51, .agg #[.string t189, .string t190]), (53, .tuple #[.agg #[.string t191, .string t192], .int .i64 t193]), (14, .pointer (some ⟨s_, 0, none⟩)), (50, .tuple #[.agg #[.string t191, .string t192], .int .i64 t193]), (54, .agg #[.string t191, .string t192]), (55, .int .i64 t193)]) (fun s_ w' => (w'.cell? ⟨gb184, 0, none⟩ = some (.string t182) ∧ w'.cell? ⟨gb184, 1, none⟩ = some (.string t183)) ∧ (w'.heap[gb181]? = some (.cells #[.string t179, .string t180] 23 (0, 0))) ∧ (w'.heap[gb184]? = some (.cells #[.string t182, .string t183] 23 (0, 0))) ∧ (w'.heap[gb188]? = some (.cells #[.string t185, .string t186] 23 (0, 0))) ∧ (w'.heap[s_]? = some (.cells #[.string (⟨#[]⟩ : ByteArray), .string (⟨#[]⟩ : ByteArray)] 23 (0, 0))) ∧ (w.heap.size ≤ s_) ∧ (w.heap.size ≤ s_) ∧ (gb181 ≠ s_) ∧ (s_ ≠ gb181) ∧ (gb184 ≠ s_) ∧ (s_ ≠ gb184) ∧ (gb188 ≠ s_) ∧ (s_ ≠ gb188) ∧ (Below w.heap.size w w')) ?_ ?_
         rotate_left
         ·
          intro hCont
          refine two_ (i := 0) (j := 6) (Ni := some 51) (Nj := some 14) #[true, true, false, false, false, false, false, false, false] #[false, true, false, false, false, false, true, false, false] rfl rfl rfl rfl (two_of HT_.out (by kernel_rfl)) (by decide) (by decide) (fun K hK => ?_) (fun K hK => ?_)
          ·
           skip
           refine goes_ Tryz.func24 (by kernel_rfl) rfl #[.string (⟨#[49]⟩ : ByteArray), .string (⟨#[49]⟩ : ByteArray)] (by rfl) rfl rfl (by (try simp only [List.map_toArray, List.map_cons, List.map_nil]); first | done | rfl | (simp only [List.length_drop, List.length_take]; rfl)) ?_
           with_reducible refine (newswirelaw04_is.calls (⟨#[49]⟩ : ByteArray) (⟨#[49]⟩ : ByteArray) t189 t190 _ A14.out).mono ?_
           rintro e w33 ⟨rfl, hb⟩
           refine ⟨_, rfl, ?_⟩
           have n0_ := Aside0.mk (blk_below (g := gb181) (o := .cells #[.string t179, .string t180] 23 (0, 0)) (by (with_reducible repeat (first | refine blk_drewN ?_ _ | refine blk_drew ?_ | refine blk_alloc ?_ _)); exact BK181.out) hb)
           have n1_ := Aside0.mk (blk_below (g := gb184) (o := .cells #[.string t182, .string t183] 23 (0, 0)) (by (with_reducible repeat (first | refine blk_drewN ?_ _ | refine blk_drew ?_ | refine blk_alloc ?_ _)); exact BK184.out) hb)
           have n2_ := Aside0.mk (blk_below (g := gb188) (o := .cells #[.string t185, .string t186] 23 (0, 0)) (by (with_reducible repeat (first | refine blk_drewN ?_ _ | refine blk_drew ?_ | refine blk_alloc ?_ _)); exact BK188.out) hb)
           have n3_ := Aside0.mk (below_step (by repeat (first | (with_reducible first | exact HB.out | apply below_alloc | apply pw_below_drewN | apply below_drew1 | refine below_set ?_ GE181.out | refine below_set ?_ GE184.out | refine below_set ?_ GE188.out) | exact HB.out)) hb)
           clear BK181
           clear BK184
           clear BK188
           clear HB
           have BK181 := n0_
           have BK184 := n1_
           have BK188 := n2_
           have HB := n3_
           clear n0_ n1_ n2_ n3_
           (try clear hb)
           (try clear hb2)
           (try clear hk)
           (try clear hi)
           refine hK.out _ _ ⟨(blk_cell BK184.out 0).trans rfl, (blk_cell BK184.out 1).trans rfl⟩ (fun hHeld => ?_)
           clear hK K
           refine norm_ (a' := ?_) ?_ ?_
           rotate_left
           ·
            show Act.put _ (some 51) _ = _
            simp only [Act.put, List.setIfInBounds_toArray, List.set_cons_zero, List.set_cons_succ, i64_w, i32_w]
            rfl
           refine two_ (i := 2) (j := 6) (Ni := some 53) (Nj := some 14) #[true, true, true, false, false, false, false, false, false] #[true, true, false, false, false, false, true, false, false] rfl rfl rfl rfl (two_of HT_.out (by kernel_rfl)) (by decide) (by decide) (fun K hK => ?_) (fun K hK => ?_)
           ·
            skip
            refine goes_ Tryz.func26 (by kernel_rfl) rfl #[.agg #[.string t189, .string t190], .agg #[.string t182, .string t183]] (by rfl) rfl rfl (by (try simp only [List.map_toArray, List.map_cons, List.map_nil]); first | done | rfl | (simp only [List.length_drop, List.length_take]; rfl)) ?_
            with_reducible refine (rational_Div.calls t189 t190 t182 t183 t191 t192 t193 _ ?side1 A15.out).mono ?_
            (case side1 => exact Laid.on HT.out (by repeat (first | (with_reducible first | exact HB.out | apply below_alloc | apply pw_below_drewN | apply below_drew1 | refine below_set ?_ GE181.out | refine below_set ?_ GE184.out | refine below_set ?_ GE188.out) | exact HB.out)))
            rintro e w34 ⟨rfl, hb⟩
            refine ⟨_, rfl, ?_⟩
            have n0_ := Aside0.mk (blk_below (g := gb181) (o := .cells #[.string t179, .string t180] 23 (0, 0)) (by (with_reducible repeat (first | refine blk_drewN ?_ _ | refine blk_drew ?_ | refine blk_alloc ?_ _)); exact BK181.out) hb)
            have n1_ := Aside0.mk (blk_below (g := gb184) (o := .cells #[.string t182, .string t183] 23 (0, 0)) (by (with_reducible repeat (first | refine blk_drewN ?_ _ | refine blk_drew ?_ | refine blk_alloc ?_ _)); exact BK184.out) hb)
            have n2_ := Aside0.mk (blk_below (g := gb188) (o := .cells #[.string t185, .string t186] 23 (0, 0)) (by (with_reducible repeat (first | refine blk_drewN ?_ _ | refine blk_drew ?_ | refine blk_alloc ?_ _)); exact BK188.out) hb)
            have n3_ := Aside0.mk (below_step (by repeat (first | (with_reducible first | exact HB.out | apply below_alloc | apply pw_below_drewN | apply below_drew1 | refine below_set ?_ GE181.out | refine below_set ?_ GE184.out | refine below_set ?_ GE188.out) | exact HB.out)) hb)
            clear BK181
            clear BK184
            clear BK188
            clear HB
            have BK181 := n0_
            have BK184 := n1_
            have BK188 := n2_
            have HB := n3_
            clear n0_ n1_ n2_ n3_
            (try clear hb)
            (try clear hb2)
            (try clear hk)
            (try clear hi)
            refine hK.out _ _ ⟨(blk_cell BK184.out 0).trans rfl, (blk_cell BK184.out 1).trans rfl⟩ (fun hHeld => ?_)
            clear hK K
            refine norm_ (a' := ?_) ?_ ?_
            rotate_left
            ·
             show Act.put _ (some 53) _ = _
             simp only [Act.put, List.setIfInBounds_toArray, List.set_cons_zero, List.set_cons_succ, i64_w, i32_w]
             rfl
            refine pure_ (i := 3) (N := some 50) (v := ?_) (a' := ?_) #[true, true, true, true, false, false, false, false, false] rfl rfl (any_of HT_.out (by kernel_rfl)) (fun _ _ _ h => h) (Or.inl ⟨by rfl, ?_⟩) ?_ ?_
            rotate_left
            ·
             intro w'
             go_simp
             with_reducible rfl
            rotate_left
            ·
             simp only [Act.put, List.setIfInBounds_toArray, List.set_cons_zero, List.set_cons_succ, i64_w, i32_w]
             rfl
            refine pure_ (i := 4) (N := some 54) (v := ?_) (a' := ?_) #[true, true, true, true, true, false, false, false, false] rfl rfl (any_of HT_.out (by kernel_rfl)) (fun _ _ _ h => h) (Or.inl ⟨by rfl, ?_⟩) ?_ ?_
            rotate_left
            ·
             intro w'
             go_simp
             with_reducible rfl
            rotate_left
            ·
             simp only [Act.put, List.setIfInBounds_toArray, List.set_cons_zero, List.set_cons_succ, i64_w, i32_w]
             rfl
            refine pure_ (i := 5) (N := some 55) (v := ?_) (a' := ?_) #[true, true, true, true, true, true, false, false, false] rfl rfl (any_of HT_.out (by kernel_rfl)) (fun _ _ _ h => h) (Or.inl ⟨by rfl, ?_⟩) ?_ ?_
            rotate_left
            ·
             intro w'
             go_simp
             with_reducible rfl
            rotate_left
            ·
             simp only [Act.put, List.setIfInBounds_toArray, List.set_cons_zero, List.set_cons_succ, i64_w, i32_w]
             rfl
            refine one_ (i := 6) (N := some 14) #[true, true, true, true, true, true, true, false, false] rfl rfl (one_of HT_.out (by kernel_rfl)) (by decide) (fun K hK => ?_)
            refine box_step ?hg (N := 14) ?hd (cs := #[.string (⟨#[]⟩ : ByteArray), .string (⟨#[]⟩ : ByteArray)]) (t := 23) ?hr ?_; (case hd => rfl); (case hg => rfl); (case hr => first | (go_simp; done) | (go_simp; rfl))
            intro gb194 hg w35 hbox hb
            have n0_ := Aside0.mk (blk_below (g := gb181) (o := .cells #[.string t179, .string t180] 23 (0, 0)) (by (with_reducible repeat (first | refine blk_drewN ?_ _ | refine blk_drew ?_ | refine blk_alloc ?_ _)); exact BK181.out) hb)
            have n1_ := Aside0.mk (blk_below (g := gb184) (o := .cells #[.string t182, .string t183] 23 (0, 0)) (by (with_reducible repeat (first | refine blk_drewN ?_ _ | refine blk_drew ?_ | refine blk_alloc ?_ _)); exact BK184.out) hb)
            have n2_ := Aside0.mk (blk_below (g := gb188) (o := .cells #[.string t185, .string t186] 23 (0, 0)) (by (with_reducible repeat (first | refine blk_drewN ?_ _ | refine blk_drew ?_ | refine blk_alloc ?_ _)); exact BK188.out) hb)
            have n3_ := Aside0.mk (below_step (by repeat (first | (with_reducible first | exact HB.out | apply below_alloc | apply pw_below_drewN | apply below_drew1 | refine below_set ?_ GE181.out | refine below_set ?_ GE184.out | refine below_set ?_ GE188.out) | exact HB.out)) hb)
            have n4_ := Aside0.mk (hbox)
            have n5_ := Aside0.mk ((by rw [hg]; exact (below_size (by repeat (first | (with_reducible first | exact HB.out | apply below_alloc | apply pw_below_drewN | apply below_drew1 | refine below_set ?_ GE181.out | refine below_set ?_ GE184.out | refine below_set ?_ GE188.out) | exact HB.out))) : w.heap.size ≤ gb194))
            have n6_ := Aside0.mk ((by rw [hg]; exact (below_size (by repeat (first | (with_reducible first | exact HB.out | apply below_alloc | apply pw_below_drewN | apply below_drew1 | refine below_set ?_ GE181.out | refine below_set ?_ GE184.out | refine below_set ?_ GE188.out) | exact HB.out))) : w.heap.size ≤ gb194))
            have n7_ := Aside0.mk ((by rw [hg]; exact Nat.ne_of_lt (blk_lt (g := gb181) (o := .cells #[.string t179, .string t180] 23 (0, 0)) (by (with_reducible repeat (first | refine blk_drewN ?_ _ | refine blk_drew ?_ | refine blk_alloc ?_ _)); exact BK181.out)) : gb181 ≠ gb194))
            have n8_ := Aside0.mk ((by rw [hg]; exact Nat.ne_of_gt (blk_lt (g := gb181) (o := .cells #[.string t179, .string t180] 23 (0, 0)) (by (with_reducible repeat (first | refine blk_drewN ?_ _ | refine blk_drew ?_ | refine blk_alloc ?_ _)); exact BK181.out)) : gb194 ≠ gb181))
            have n9_ := Aside0.mk ((by rw [hg]; exact Nat.ne_of_lt (blk_lt (g := gb184) (o := .cells #[.string t182, .string t183] 23 (0, 0)) (by (with_reducible repeat (first | refine blk_drewN ?_ _ | refine blk_drew ?_ | refine blk_alloc ?_ _)); exact BK184.out)) : gb184 ≠ gb194))
            have n10_ := Aside0.mk ((by rw [hg]; exact Nat.ne_of_gt (blk_lt (g := gb184) (o := .cells #[.string t182, .string t183] 23 (0, 0)) (by (with_reducible repeat (first | refine blk_drewN ?_ _ | refine blk_drew ?_ | refine blk_alloc ?_ _)); exact BK184.out)) : gb194 ≠ gb184))
            have n11_ := Aside0.mk ((by rw [hg]; exact Nat.ne_of_lt (blk_lt (g := gb188) (o := .cells #[.string t185, .string t186] 23 (0, 0)) (by (with_reducible repeat (first | refine blk_drewN ?_ _ | refine blk_drew ?_ | refine blk_alloc ?_ _)); exact BK188.out)) : gb188 ≠ gb194))
            have n12_ := Aside0.mk ((by rw [hg]; exact Nat.ne_of_gt (blk_lt (g := gb188) (o := .cells #[.string t185, .string t186] 23 (0, 0)) (by (with_reducible repeat (first | refine blk_drewN ?_ _ | refine blk_drew ?_ | refine blk_alloc ?_ _)); exact BK188.out)) : gb194 ≠ gb188))
            clear BK181
            clear BK184
            clear BK188
            clear HB
            have BK181 := n0_
            have BK184 := n1_
            have BK188 := n2_
            have HB := n3_
            have BK194 := n4_
            have GW194 := n5_
            have GE194 := n6_
            have NB181_194 := n7_
            have NB194_181 := n8_
            have NB184_194 := n9_
            have NB194_184 := n10_
            have NB188_194 := n11_
            have NB194_188 := n12_
            clear n0_ n1_ n2_ n3_ n4_ n5_ n6_ n7_ n8_ n9_ n10_ n11_ n12_
            clear hb hbox hg
            refine hK.out _ _ ⟨(blk_cell BK184.out 0).trans rfl, (blk_cell BK184.out 1).trans rfl⟩ (fun hHeld => ?_)
            clear hK K
            refine norm_ (a' := ?_) ?_ ?_
            rotate_left
            ·
             show Act.put _ (some 14) _ = _
             simp only [Act.put, List.setIfInBounds_toArray, List.set_cons_zero, List.set_cons_succ, i64_w, i32_w]
             rfl
            exact norm_ (by simp only [putAll, Act.put, List.setIfInBounds_toArray, List.set_cons_zero, List.set_cons_succ]) (hCont (gb194) _ ⟨hHeld, (by (with_reducible repeat (first | refine blk_drewN ?_ _ | refine blk_drew ?_ | refine blk_alloc ?_ _)); exact BK181.out), (by (with_reducible repeat (first | refine blk_drewN ?_ _ | refine blk_drew ?_ | refine blk_alloc ?_ _)); exact BK184.out), (by (with_reducible repeat (first | refine blk_drewN ?_ _ | refine blk_drew ?_ | refine blk_alloc ?_ _)); exact BK188.out), (by (with_reducible repeat (first | refine blk_drewN ?_ _ | refine blk_drew ?_ | refine blk_alloc ?_ _)); exact BK194.out), GW194.out, GE194.out, NB181_194.out, NB194_181.out, NB184_194.out, NB194_184.out, NB188_194.out, NB194_188.out, (by repeat (first | (with_reducible first | exact HB.out | apply below_alloc | apply pw_below_drewN | apply below_drew1 | refine below_set ?_ GE181.out | refine below_set ?_ GE184.out | refine below_set ?_ GE188.out | refine below_set ?_ GE194.out) | exact HB.out))⟩)
           ·
            skip
            refine box_step ?hg (N := 14) ?hd (cs := #[.string (⟨#[]⟩ : ByteArray), .string (⟨#[]⟩ : ByteArray)]) (t := 23) ?hr ?_; (case hd => rfl); (case hg => rfl); (case hr => first | (go_simp; done) | (go_simp; rfl))
            intro gb194 hg w34 hbox hb
            have n0_ := Aside0.mk (blk_below (g := gb181) (o := .cells #[.string t179, .string t180] 23 (0, 0)) (by (with_reducible repeat (first | refine blk_drewN ?_ _ | refine blk_drew ?_ | refine blk_alloc ?_ _)); exact BK181.out) hb)
            have n1_ := Aside0.mk (blk_below (g := gb184) (o := .cells #[.string t182, .string t183] 23 (0, 0)) (by (with_reducible repeat (first | refine blk_drewN ?_ _ | refine blk_drew ?_ | refine blk_alloc ?_ _)); exact BK184.out) hb)
            have n2_ := Aside0.mk (blk_below (g := gb188) (o := .cells #[.string t185, .string t186] 23 (0, 0)) (by (with_reducible repeat (first | refine blk_drewN ?_ _ | refine blk_drew ?_ | refine blk_alloc ?_ _)); exact BK188.out) hb)
            have n3_ := Aside0.mk (below_step (by repeat (first | (with_reducible first | exact HB.out | apply below_alloc | apply pw_below_drewN | apply below_drew1 | refine below_set ?_ GE181.out | refine below_set ?_ GE184.out | refine below_set ?_ GE188.out) | exact HB.out)) hb)
            have n4_ := Aside0.mk (hbox)
            have n5_ := Aside0.mk ((by rw [hg]; exact (below_size (by repeat (first | (with_reducible first | exact HB.out | apply below_alloc | apply pw_below_drewN | apply below_drew1 | refine below_set ?_ GE181.out | refine below_set ?_ GE184.out | refine below_set ?_ GE188.out) | exact HB.out))) : w.heap.size ≤ gb194))
            have n6_ := Aside0.mk ((by rw [hg]; exact (below_size (by repeat (first | (with_reducible first | exact HB.out | apply below_alloc | apply pw_below_drewN | apply below_drew1 | refine below_set ?_ GE181.out | refine below_set ?_ GE184.out | refine below_set ?_ GE188.out) | exact HB.out))) : w.heap.size ≤ gb194))
            have n7_ := Aside0.mk ((by rw [hg]; exact Nat.ne_of_lt (blk_lt (g := gb181) (o := .cells #[.string t179, .string t180] 23 (0, 0)) (by (with_reducible repeat (first | refine blk_drewN ?_ _ | refine blk_drew ?_ | refine blk_alloc ?_ _)); exact BK181.out)) : gb181 ≠ gb194))
            have n8_ := Aside0.mk ((by rw [hg]; exact Nat.ne_of_gt (blk_lt (g := gb181) (o := .cells #[.string t179, .string t180] 23 (0, 0)) (by (with_reducible repeat (first | refine blk_drewN ?_ _ | refine blk_drew ?_ | refine blk_alloc ?_ _)); exact BK181.out)) : gb194 ≠ gb181))
            have n9_ := Aside0.mk ((by rw [hg]; exact Nat.ne_of_lt (blk_lt (g := gb184) (o := .cells #[.string t182, .string t183] 23 (0, 0)) (by (with_reducible repeat (first | refine blk_drewN ?_ _ | refine blk_drew ?_ | refine blk_alloc ?_ _)); exact BK184.out)) : gb184 ≠ gb194))
            have n10_ := Aside0.mk ((by rw [hg]; exact Nat.ne_of_gt (blk_lt (g := gb184) (o := .cells #[.string t182, .string t183] 23 (0, 0)) (by (with_reducible repeat (first | refine blk_drewN ?_ _ | refine blk_drew ?_ | refine blk_alloc ?_ _)); exact BK184.out)) : gb194 ≠ gb184))
            have n11_ := Aside0.mk ((by rw [hg]; exact Nat.ne_of_lt (blk_lt (g := gb188) (o := .cells #[.string t185, .string t186] 23 (0, 0)) (by (with_reducible repeat (first | refine blk_drewN ?_ _ | refine blk_drew ?_ | refine blk_alloc ?_ _)); exact BK188.out)) : gb188 ≠ gb194))
            have n12_ := Aside0.mk ((by rw [hg]; exact Nat.ne_of_gt (blk_lt (g := gb188) (o := .cells #[.string t185, .string t186] 23 (0, 0)) (by (with_reducible repeat (first | refine blk_drewN ?_ _ | refine blk_drew ?_ | refine blk_alloc ?_ _)); exact BK188.out)) : gb194 ≠ gb188))
            clear BK181
            clear BK184
            clear BK188
            clear HB
            have BK181 := n0_
            have BK184 := n1_
            have BK188 := n2_
            have HB := n3_
            have BK194 := n4_
            have GW194 := n5_
            have GE194 := n6_
            have NB181_194 := n7_
            have NB194_181 := n8_
            have NB184_194 := n9_
            have NB194_184 := n10_
            have NB188_194 := n11_
            have NB194_188 := n12_
            clear n0_ n1_ n2_ n3_ n4_ n5_ n6_ n7_ n8_ n9_ n10_ n11_ n12_
            clear hb hbox hg
            refine hK.out _ _ ⟨(blk_cell BK184.out 0).trans rfl, (blk_cell BK184.out 1).trans rfl⟩ (fun hHeld => ?_)
            clear hK K
            refine norm_ (a' := ?_) ?_ ?_
            rotate_left
            ·
             show Act.put _ (some 14) _ = _
             simp only [Act.put, List.setIfInBounds_toArray, List.set_cons_zero, List.set_cons_succ, i64_w, i32_w]
             rfl
            refine one_ (i := 2) (N := some 53) #[true, true, true, false, false, false, true, false, false] rfl rfl (one_of HT_.out (by kernel_rfl)) (by decide) (fun K hK => ?_)
            refine goes_ Tryz.func26 (by kernel_rfl) rfl #[.agg #[.string t189, .string t190], .agg #[.string t182, .string t183]] (by rfl) rfl rfl (by (try simp only [List.map_toArray, List.map_cons, List.map_nil]); first | done | rfl | (simp only [List.length_drop, List.length_take]; rfl)) ?_
            with_reducible refine (rational_Div.calls t189 t190 t182 t183 t191 t192 t193 _ ?side1 A15.out).mono ?_
            (case side1 => exact Laid.on HT.out (by repeat (first | (with_reducible first | exact HB.out | apply below_alloc | apply pw_below_drewN | apply below_drew1 | refine below_set ?_ GE181.out | refine below_set ?_ GE184.out | refine below_set ?_ GE188.out | refine below_set ?_ GE194.out) | exact HB.out)))
            rintro e w35 ⟨rfl, hb⟩
            refine ⟨_, rfl, ?_⟩
            have n0_ := Aside0.mk (blk_below (g := gb181) (o := .cells #[.string t179, .string t180] 23 (0, 0)) (by (with_reducible repeat (first | refine blk_drewN ?_ _ | refine blk_drew ?_ | refine blk_alloc ?_ _)); exact BK181.out) hb)
            have n1_ := Aside0.mk (blk_below (g := gb184) (o := .cells #[.string t182, .string t183] 23 (0, 0)) (by (with_reducible repeat (first | refine blk_drewN ?_ _ | refine blk_drew ?_ | refine blk_alloc ?_ _)); exact BK184.out) hb)
            have n2_ := Aside0.mk (blk_below (g := gb188) (o := .cells #[.string t185, .string t186] 23 (0, 0)) (by (with_reducible repeat (first | refine blk_drewN ?_ _ | refine blk_drew ?_ | refine blk_alloc ?_ _)); exact BK188.out) hb)
            have n3_ := Aside0.mk (blk_below (g := gb194) (o := .cells #[.string (⟨#[]⟩ : ByteArray), .string (⟨#[]⟩ : ByteArray)] 23 (0, 0)) (by (with_reducible repeat (first | refine blk_drewN ?_ _ | refine blk_drew ?_ | refine blk_alloc ?_ _)); exact BK194.out) hb)
            have n4_ := Aside0.mk (below_step (by repeat (first | (with_reducible first | exact HB.out | apply below_alloc | apply pw_below_drewN | apply below_drew1 | refine below_set ?_ GE181.out | refine below_set ?_ GE184.out | refine below_set ?_ GE188.out | refine below_set ?_ GE194.out) | exact HB.out)) hb)
            clear BK181
            clear BK184
            clear BK188
            clear BK194
            clear HB
            have BK181 := n0_
            have BK184 := n1_
            have BK188 := n2_
            have BK194 := n3_
            have HB := n4_
            clear n0_ n1_ n2_ n3_ n4_
            (try clear hb)
            (try clear hb2)
            (try clear hk)
            (try clear hi)
            refine hK.out _ _ ⟨(blk_cell BK184.out 0).trans rfl, (blk_cell BK184.out 1).trans rfl⟩ (fun hHeld => ?_)
            clear hK K
            refine norm_ (a' := ?_) ?_ ?_
            rotate_left
            ·
             show Act.put _ (some 53) _ = _
             simp only [Act.put, List.setIfInBounds_toArray, List.set_cons_zero, List.set_cons_succ, i64_w, i32_w]
             rfl
            refine pure_ (i := 3) (N := some 50) (v := ?_) (a' := ?_) #[true, true, true, true, false, false, true, false, false] rfl rfl (any_of HT_.out (by kernel_rfl)) (fun _ _ _ h => h) (Or.inl ⟨by rfl, ?_⟩) ?_ ?_
            rotate_left
            ·
             intro w'
             go_simp
             with_reducible rfl
            rotate_left
            ·
             simp only [Act.put, List.setIfInBounds_toArray, List.set_cons_zero, List.set_cons_succ, i64_w, i32_w]
             rfl
            refine pure_ (i := 4) (N := some 54) (v := ?_) (a' := ?_) #[true, true, true, true, true, false, true, false, false] rfl rfl (any_of HT_.out (by kernel_rfl)) (fun _ _ _ h => h) (Or.inl ⟨by rfl, ?_⟩) ?_ ?_
            rotate_left
            ·
             intro w'
             go_simp
             with_reducible rfl
            rotate_left
            ·
             simp only [Act.put, List.setIfInBounds_toArray, List.set_cons_zero, List.set_cons_succ, i64_w, i32_w]
             rfl
            refine pure_ (i := 5) (N := some 55) (v := ?_) (a' := ?_) #[true, true, true, true, true, true, true, false, false] rfl rfl (any_of HT_.out (by kernel_rfl)) (fun _ _ _ h => h) (Or.inl ⟨by rfl, ?_⟩) ?_ ?_
            rotate_left
            ·
             intro w'
             go_simp
             with_reducible rfl
            rotate_left
            ·
             simp only [Act.put, List.setIfInBounds_toArray, List.set_cons_zero, List.set_cons_succ, i64_w, i32_w]
             rfl
            exact norm_ (by simp only [putAll, Act.put, List.setIfInBounds_toArray, List.set_cons_zero, List.set_cons_succ]) (hCont (gb194) _ ⟨hHeld, (by (with_reducible repeat (first | refine blk_drewN ?_ _ | refine blk_drew ?_ | refine blk_alloc ?_ _)); exact BK181.out), (by (with_reducible repeat (first | refine blk_drewN ?_ _ | refine blk_drew ?_ | refine blk_alloc ?_ _)); exact BK184.out), (by (with_reducible repeat (first | refine blk_drewN ?_ _ | refine blk_drew ?_ | refine blk_alloc ?_ _)); exact BK188.out), (by (with_reducible repeat (first | refine blk_drewN ?_ _ | refine blk_drew ?_ | refine blk_alloc ?_ _)); exact BK194.out), GW194.out, GE194.out, NB181_194.out, NB194_181.out, NB184_194.out, NB194_184.out, NB188_194.out, NB194_188.out, (by repeat (first | (with_reducible first | exact HB.out | apply below_alloc | apply pw_below_drewN | apply below_drew1 | refine below_set ?_ GE181.out | refine below_set ?_ GE184.out | refine below_set ?_ GE188.out | refine below_set ?_ GE194.out) | exact HB.out))⟩)
          ·
           skip
           refine box_step ?hg (N := 14) ?hd (cs := #[.string (⟨#[]⟩ : ByteArray), .string (⟨#[]⟩ : ByteArray)]) (t := 23) ?hr ?_; (case hd => rfl); (case hg => rfl); (case hr => first | (go_simp; done) | (go_simp; rfl))
           intro gb194 hg w33 hbox hb
           have n0_ := Aside0.mk (blk_below (g := gb181) (o := .cells #[.string t179, .string t180] 23 (0, 0)) (by (with_reducible repeat (first | refine blk_drewN ?_ _ | refine blk_drew ?_ | refine blk_alloc ?_ _)); exact BK181.out) hb)
           have n1_ := Aside0.mk (blk_below (g := gb184) (o := .cells #[.string t182, .string t183] 23 (0, 0)) (by (with_reducible repeat (first | refine blk_drewN ?_ _ | refine blk_drew ?_ | refine blk_alloc ?_ _)); exact BK184.out) hb)
           have n2_ := Aside0.mk (blk_below (g := gb188) (o := .cells #[.string t185, .string t186] 23 (0, 0)) (by (with_reducible repeat (first | refine blk_drewN ?_ _ | refine blk_drew ?_ | refine blk_alloc ?_ _)); exact BK188.out) hb)
           have n3_ := Aside0.mk (below_step (by repeat (first | (with_reducible first | exact HB.out | apply below_alloc | apply pw_below_drewN | apply below_drew1 | refine below_set ?_ GE181.out | refine below_set ?_ GE184.out | refine below_set ?_ GE188.out) | exact HB.out)) hb)
           have n4_ := Aside0.mk (hbox)
           have n5_ := Aside0.mk ((by rw [hg]; exact (below_size (by repeat (first | (with_reducible first | exact HB.out | apply below_alloc | apply pw_below_drewN | apply below_drew1 | refine below_set ?_ GE181.out | refine below_set ?_ GE184.out | refine below_set ?_ GE188.out) | exact HB.out))) : w.heap.size ≤ gb194))
           have n6_ := Aside0.mk ((by rw [hg]; exact (below_size (by repeat (first | (with_reducible first | exact HB.out | apply below_alloc | apply pw_below_drewN | apply below_drew1 | refine below_set ?_ GE181.out | refine below_set ?_ GE184.out | refine below_set ?_ GE188.out) | exact HB.out))) : w.heap.size ≤ gb194))
           have n7_ := Aside0.mk ((by rw [hg]; exact Nat.ne_of_lt (blk_lt (g := gb181) (o := .cells #[.string t179, .string t180] 23 (0, 0)) (by (with_reducible repeat (first | refine blk_drewN ?_ _ | refine blk_drew ?_ | refine blk_alloc ?_ _)); exact BK181.out)) : gb181 ≠ gb194))
           have n8_ := Aside0.mk ((by rw [hg]; exact Nat.ne_of_gt (blk_lt (g := gb181) (o := .cells #[.string t179, .string t180] 23 (0, 0)) (by (with_reducible repeat (first | refine blk_drewN ?_ _ | refine blk_drew ?_ | refine blk_alloc ?_ _)); exact BK181.out)) : gb194 ≠ gb181))
           have n9_ := Aside0.mk ((by rw [hg]; exact Nat.ne_of_lt (blk_lt (g := gb184) (o := .cells #[.string t182, .string t183] 23 (0, 0)) (by (with_reducible repeat (first | refine blk_drewN ?_ _ | refine blk_drew ?_ | refine blk_alloc ?_ _)); exact BK184.out)) : gb184 ≠ gb194))
           have n10_ := Aside0.mk ((by rw [hg]; exact Nat.ne_of_gt (blk_lt (g := gb184) (o := .cells #[.string t182, .string t183] 23 (0, 0)) (by (with_reducible repeat (first | refine blk_drewN ?_ _ | refine blk_drew ?_ | refine blk_alloc ?_ _)); exact BK184.out)) : gb194 ≠ gb184))
           have n11_ := Aside0.mk ((by rw [hg]; exact Nat.ne_of_lt (blk_lt (g := gb188) (o := .cells #[.string t185, .string t186] 23 (0, 0)) (by (with_reducible repeat (first | refine blk_drewN ?_ _ | refine blk_drew ?_ | refine blk_alloc ?_ _)); exact BK188.out)) : gb188 ≠ gb194))
           have n12_ := Aside0.mk ((by rw [hg]; exact Nat.ne_of_gt (blk_lt (g := gb188) (o := .cells #[.string t185, .string t186] 23 (0, 0)) (by (with_reducible repeat (first | refine blk_drewN ?_ _ | refine blk_drew ?_ | refine blk_alloc ?_ _)); exact BK188.out)) : gb194 ≠ gb188))
           clear BK181
           clear BK184
           clear BK188
           clear HB
           have BK181 := n0_
           have BK184 := n1_
           have BK188 := n2_
           have HB := n3_
           have BK194 := n4_
           have GW194 := n5_
           have GE194 := n6_
           have NB181_194 := n7_
           have NB194_181 := n8_
           have NB184_194 := n9_
           have NB194_184 := n10_
           have NB188_194 := n11_
           have NB194_188 := n12_
           clear n0_ n1_ n2_ n3_ n4_ n5_ n6_ n7_ n8_ n9_ n10_ n11_ n12_
           clear hb hbox hg
           refine hK.out _ _ ⟨(blk_cell BK184.out 0).trans rfl, (blk_cell BK184.out 1).trans rfl⟩ (fun hHeld => ?_)
           clear hK K
           refine norm_ (a' := ?_) ?_ ?_
           rotate_left
           ·
            show Act.put _ (some 14) _ = _
            simp only [Act.put, List.setIfInBounds_toArray, List.set_cons_zero, List.set_cons_succ, i64_w, i32_w]
            rfl
           refine one_ (i := 0) (N := some 51) #[true, true, false, false, false, false, true, false, false] rfl rfl (one_of HT_.out (by kernel_rfl)) (by decide) (fun K hK => ?_)
           refine goes_ Tryz.func24 (by kernel_rfl) rfl #[.string (⟨#[49]⟩ : ByteArray), .string (⟨#[49]⟩ : ByteArray)] (by rfl) rfl rfl (by (try simp only [List.map_toArray, List.map_cons, List.map_nil]); first | done | rfl | (simp only [List.length_drop, List.length_take]; rfl)) ?_
           with_reducible refine (newswirelaw04_is.calls (⟨#[49]⟩ : ByteArray) (⟨#[49]⟩ : ByteArray) t189 t190 _ A14.out).mono ?_
           rintro e w34 ⟨rfl, hb⟩
           refine ⟨_, rfl, ?_⟩
           have n0_ := Aside0.mk (blk_below (g := gb181) (o := .cells #[.string t179, .string t180] 23 (0, 0)) (by (with_reducible repeat (first | refine blk_drewN ?_ _ | refine blk_drew ?_ | refine blk_alloc ?_ _)); exact BK181.out) hb)
           have n1_ := Aside0.mk (blk_below (g := gb184) (o := .cells #[.string t182, .string t183] 23 (0, 0)) (by (with_reducible repeat (first | refine blk_drewN ?_ _ | refine blk_drew ?_ | refine blk_alloc ?_ _)); exact BK184.out) hb)
           have n2_ := Aside0.mk (blk_below (g := gb188) (o := .cells #[.string t185, .string t186] 23 (0, 0)) (by (with_reducible repeat (first | refine blk_drewN ?_ _ | refine blk_drew ?_ | refine blk_alloc ?_ _)); exact BK188.out) hb)
           have n3_ := Aside0.mk (blk_below (g := gb194) (o := .cells #[.string (⟨#[]⟩ : ByteArray), .string (⟨#[]⟩ : ByteArray)] 23 (0, 0)) (by (with_reducible repeat (first | refine blk_drewN ?_ _ | refine blk_drew ?_ | refine blk_alloc ?_ _)); exact BK194.out) hb)
           have n4_ := Aside0.mk (below_step (by repeat (first | (with_reducible first | exact HB.out | apply below_alloc | apply pw_below_drewN | apply below_drew1 | refine below_set ?_ GE181.out | refine below_set ?_ GE184.out | refine below_set ?_ GE188.out | refine below_set ?_ GE194.out) | exact HB.out)) hb)
           clear BK181
           clear BK184
           clear BK188
           clear BK194
           clear HB
           have BK181 := n0_
           have BK184 := n1_
           have BK188 := n2_
           have BK194 := n3_
           have HB := n4_
           clear n0_ n1_ n2_ n3_ n4_
           (try clear hb)
           (try clear hb2)
           (try clear hk)
           (try clear hi)
           refine hK.out _ _ ⟨(blk_cell BK184.out 0).trans rfl, (blk_cell BK184.out 1).trans rfl⟩ (fun hHeld => ?_)
           clear hK K
           refine norm_ (a' := ?_) ?_ ?_
           rotate_left
           ·
            show Act.put _ (some 51) _ = _
            simp only [Act.put, List.setIfInBounds_toArray, List.set_cons_zero, List.set_cons_succ, i64_w, i32_w]
            rfl
           refine one_ (i := 2) (N := some 53) #[true, true, true, false, false, false, true, false, false] rfl rfl (one_of HT_.out (by kernel_rfl)) (by decide) (fun K hK => ?_)
           refine goes_ Tryz.func26 (by kernel_rfl) rfl #[.agg #[.string t189, .string t190], .agg #[.string t182, .string t183]] (by rfl) rfl rfl (by (try simp only [List.map_toArray, List.map_cons, List.map_nil]); first | done | rfl | (simp only [List.length_drop, List.length_take]; rfl)) ?_
           with_reducible refine (rational_Div.calls t189 t190 t182 t183 t191 t192 t193 _ ?side1 A15.out).mono ?_
           (case side1 => exact Laid.on HT.out (by repeat (first | (with_reducible first | exact HB.out | apply below_alloc | apply pw_below_drewN | apply below_drew1 | refine below_set ?_ GE181.out | refine below_set ?_ GE184.out | refine below_set ?_ GE188.out | refine below_set ?_ GE194.out) | exact HB.out)))
           rintro e w35 ⟨rfl, hb⟩
           refine ⟨_, rfl, ?_⟩
           have n0_ := Aside0.mk (blk_below (g := gb181) (o := .cells #[.string t179, .string t180] 23 (0, 0)) (by (with_reducible repeat (first | refine blk_drewN ?_ _ | refine blk_drew ?_ | refine blk_alloc ?_ _)); exact BK181.out) hb)
           have n1_ := Aside0.mk (blk_below (g := gb184) (o := .cells #[.string t182, .string t183] 23 (0, 0)) (by (with_reducible repeat (first | refine blk_drewN ?_ _ | refine blk_drew ?_ | refine blk_alloc ?_ _)); exact BK184.out) hb)
           have n2_ := Aside0.mk (blk_below (g := gb188) (o := .cells #[.string t185, .string t186] 23 (0, 0)) (by (with_reducible repeat (first | refine blk_drewN ?_ _ | refine blk_drew ?_ | refine blk_alloc ?_ _)); exact BK188.out) hb)
           have n3_ := Aside0.mk (blk_below (g := gb194) (o := .cells #[.string (⟨#[]⟩ : ByteArray), .string (⟨#[]⟩ : ByteArray)] 23 (0, 0)) (by (with_reducible repeat (first | refine blk_drewN ?_ _ | refine blk_drew ?_ | refine blk_alloc ?_ _)); exact BK194.out) hb)
           have n4_ := Aside0.mk (below_step (by repeat (first | (with_reducible first | exact HB.out | apply below_alloc | apply pw_below_drewN | apply below_drew1 | refine below_set ?_ GE181.out | refine below_set ?_ GE184.out | refine below_set ?_ GE188.out | refine below_set ?_ GE194.out) | exact HB.out)) hb)
           clear BK181
           clear BK184
           clear BK188
           clear BK194
           clear HB
           have BK181 := n0_
           have BK184 := n1_
           have BK188 := n2_
           have BK194 := n3_
           have HB := n4_
           clear n0_ n1_ n2_ n3_ n4_
           (try clear hb)
           (try clear hb2)
           (try clear hk)
           (try clear hi)
           refine hK.out _ _ ⟨(blk_cell BK184.out 0).trans rfl, (blk_cell BK184.out 1).trans rfl⟩ (fun hHeld => ?_)
           clear hK K
           refine norm_ (a' := ?_) ?_ ?_
           rotate_left
           ·
            show Act.put _ (some 53) _ = _
            simp only [Act.put, List.setIfInBounds_toArray, List.set_cons_zero, List.set_cons_succ, i64_w, i32_w]
            rfl
           refine pure_ (i := 3) (N := some 50) (v := ?_) (a' := ?_) #[true, true, true, true, false, false, true, false, false] rfl rfl (any_of HT_.out (by kernel_rfl)) (fun _ _ _ h => h) (Or.inl ⟨by rfl, ?_⟩) ?_ ?_
           rotate_left
           ·
            intro w'
            go_simp
            with_reducible rfl
           rotate_left
           ·
            simp only [Act.put, List.setIfInBounds_toArray, List.set_cons_zero, List.set_cons_succ, i64_w, i32_w]
            rfl
           refine pure_ (i := 4) (N := some 54) (v := ?_) (a' := ?_) #[true, true, true, true, true, false, true, false, false] rfl rfl (any_of HT_.out (by kernel_rfl)) (fun _ _ _ h => h) (Or.inl ⟨by rfl, ?_⟩) ?_ ?_
           rotate_left
           ·
            intro w'
            go_simp
            with_reducible rfl
           rotate_left
           ·
            simp only [Act.put, List.setIfInBounds_toArray, List.set_cons_zero, List.set_cons_succ, i64_w, i32_w]
            rfl
           refine pure_ (i := 5) (N := some 55) (v := ?_) (a' := ?_) #[true, true, true, true, true, true, true, false, false] rfl rfl (any_of HT_.out (by kernel_rfl)) (fun _ _ _ h => h) (Or.inl ⟨by rfl, ?_⟩) ?_ ?_
           rotate_left
           ·
            intro w'
            go_simp
            with_reducible rfl
           rotate_left
           ·
            simp only [Act.put, List.setIfInBounds_toArray, List.set_cons_zero, List.set_cons_succ, i64_w, i32_w]
            rfl
           exact norm_ (by simp only [putAll, Act.put, List.setIfInBounds_toArray, List.set_cons_zero, List.set_cons_succ]) (hCont (gb194) _ ⟨hHeld, (by (with_reducible repeat (first | refine blk_drewN ?_ _ | refine blk_drew ?_ | refine blk_alloc ?_ _)); exact BK181.out), (by (with_reducible repeat (first | refine blk_drewN ?_ _ | refine blk_drew ?_ | refine blk_alloc ?_ _)); exact BK184.out), (by (with_reducible repeat (first | refine blk_drewN ?_ _ | refine blk_drew ?_ | refine blk_alloc ?_ _)); exact BK188.out), (by (with_reducible repeat (first | refine blk_drewN ?_ _ | refine blk_drew ?_ | refine blk_alloc ?_ _)); exact BK194.out), GW194.out, GE194.out, NB181_194.out, NB194_181.out, NB184_194.out, NB194_184.out, NB188_194.out, NB194_188.out, (by repeat (first | (with_reducible first | exact HB.out | apply below_alloc | apply pw_below_drewN | apply below_drew1 | refine below_set ?_ GE181.out | refine below_set ?_ GE184.out | refine below_set ?_ GE188.out | refine below_set ?_ GE194.out) | exact HB.out))⟩)
         rintro gb194 w36 ⟨hS_, h0_, h1_, h2_, h3_, h4_, h5_, h6_, h7_, h8_, h9_, h10_, h11_, h12_⟩
         have n0_ : Aside0 (w36.heap[gb181]? = some (.cells #[.string t179, .string t180] 23 (0, 0))) := ⟨h0_⟩
         have n1_ : Aside0 (w36.heap[gb184]? = some (.cells #[.string t182, .string t183] 23 (0, 0))) := ⟨h1_⟩
         have n2_ : Aside0 (w36.heap[gb188]? = some (.cells #[.string t185, .string t186] 23 (0, 0))) := ⟨h2_⟩
         have n3_ : Aside0 (w36.heap[gb194]? = some (.cells #[.string (⟨#[]⟩ : ByteArray), .string (⟨#[]⟩ : ByteArray)] 23 (0, 0))) := ⟨h3_⟩
         have n4_ : Aside0 (w.heap.size ≤ gb194) := ⟨h4_⟩
         have n5_ : Aside0 (w.heap.size ≤ gb194) := ⟨h5_⟩
         have n6_ : Aside0 (gb181 ≠ gb194) := ⟨h6_⟩
         have n7_ : Aside0 (gb194 ≠ gb181) := ⟨h7_⟩
         have n8_ : Aside0 (gb184 ≠ gb194) := ⟨h8_⟩
         have n9_ : Aside0 (gb194 ≠ gb184) := ⟨h9_⟩
         have n10_ : Aside0 (gb188 ≠ gb194) := ⟨h10_⟩
         have n11_ : Aside0 (gb194 ≠ gb188) := ⟨h11_⟩
         have n12_ : Aside0 (Below w.heap.size w w36) := ⟨h12_⟩
         clear BK181
         clear BK184
         clear BK188
         clear HB
         clear h0_ h1_ h2_ h3_ h4_ h5_ h6_ h7_ h8_ h9_ h10_ h11_ h12_
         have BK181 := n0_
         have BK184 := n1_
         have BK188 := n2_
         have BK194 := n3_
         have GW194 := n4_
         have GE194 := n5_
         have NB181_194 := n6_
         have NB194_181 := n7_
         have NB184_194 := n8_
         have NB194_184 := n9_
         have NB188_194 := n10_
         have NB194_188 := n11_
         have HB := n12_
         clear n0_ n1_ n2_ n3_ n4_ n5_ n6_ n7_ n8_ n9_ n10_ n11_ n12_
         have hHeld : w36.cell? ⟨gb184, 0, none⟩ = some (.string t182) ∧ w36.cell? ⟨gb184, 1, none⟩ = some (.string t183) := hS_
         refine norm_ (a' := ?_) ?_ ?_
         rotate_left
         ·
          simp only [putAll, Act.put, List.setIfInBounds_toArray, List.set_cons_zero, List.set_cons_succ]
          rfl
         refine one_ (i := 7) (N := none) #[true, true, true, true, true, true, true, true, false] rfl rfl (one_of HT_.out (by kernel_rfl)) (by decide) (fun K hK => ?_)
         have hs37 : w36.cell? ⟨gb194, 0, none⟩ = some (.string (⟨#[]⟩ : ByteArray)) := (blk_cell BK194.out 0).trans rfl
         have hfs37 := blk_frozen BK194.out 0
         have hns37_0 := NB181_194.out
         have hns37_1 := NB184_194.out
         have hns37_2 := NB188_194.out
         have hms37_0 := NB194_181.out
         have hms37_1 := NB194_184.out
         have hms37_2 := NB194_188.out
         have hs38 : w36.cell? ⟨gb194, 1, none⟩ = some (.string (⟨#[]⟩ : ByteArray)) := (blk_cell BK194.out 1).trans rfl
         have hfs38 := blk_frozen BK194.out 1
         have hns38_0 := NB181_194.out
         have hns38_1 := NB184_194.out
         have hns38_2 := NB188_194.out
         have hms38_0 := NB194_181.out
         have hms38_1 := NB194_184.out
         have hms38_2 := NB194_188.out
         refine skip_ (w1 := ?_) (by rfl) rfl ?_ ?_
         rotate_left
         ·
          go_simp
          rfl
         refine hK.out _ _ ⟨((cell_far (p := ⟨gb194, _, none⟩) NB184_194.out _).trans (((cell_far (p := ⟨gb194, _, none⟩) NB184_194.out _).trans (hHeld.1)))), ((cell_far (p := ⟨gb194, _, none⟩) NB184_194.out _).trans (((cell_far (p := ⟨gb194, _, none⟩) NB184_194.out _).trans (hHeld.2))))⟩ (fun hHeld => ?_)
         clear hK K
         refine pure_ (i := 8) (N := some 15) (v := ?_) (a' := ?_) #[true, true, true, true, true, true, true, true, true] rfl rfl (any_of HT_.out (by kernel_rfl)) (fun _ _ _ h => h) (Or.inl ⟨by rfl, ?_⟩) ?_ ?_
         rotate_left
         ·
          intro w'
          go_simp
          with_reducible rfl
         rotate_left
         ·
          simp only [Act.put, List.setIfInBounds_toArray, List.set_cons_zero, List.set_cons_succ, i64_w, i32_w]
          rfl
         refine done_ (done_of HT_.out (by kernel_rfl)) ?_
         have hnb39 := NB181_194.out
         have hnc39 := NB194_181.out
         have hcz40_0 : w36.cell? ⟨gb181, 0, none⟩ = some (.string t179) := (blk_cell BK181.out 0).trans rfl
         have hcz40_1 : w36.cell? ⟨gb181, 1, none⟩ = some (.string t180) := (blk_cell BK181.out 1).trans rfl
         have hfz40_0 := blk_frozen BK181.out 0
         have hfz40_1 := blk_frozen BK181.out 1
         have hnb41 := NB194_184.out
         have hnc41 := NB184_194.out
         have hnb42 := NB194_188.out
         have hnc42 := NB188_194.out
         have hcz43_0 : w36.cell? ⟨gb194, 0, none⟩ = some (.string (⟨#[]⟩ : ByteArray)) := (blk_cell BK194.out 0).trans rfl
         have hcz43_1 : w36.cell? ⟨gb194, 1, none⟩ = some (.string (⟨#[]⟩ : ByteArray)) := (blk_cell BK194.out 1).trans rfl
         have hfz43_0 := blk_frozen BK194.out 0
         have hfz43_1 := blk_frozen BK194.out 1
         go_upto_region 20 with (first | ((with_reducible refine gate_callee (f := 27) rfl ?_); refine goesL_ (some 59) rfl rfl Tryz.func27 (by kernel_rfl) rfl #[.agg #[.string t179, .string t180], .agg #[.string t191, .string t192]] rfl (by (try simp only [List.map_toArray, List.map_cons, List.map_nil]); first | done | rfl | (simp only [List.length_drop, List.length_take]; rfl)) ?_; (with_reducible refine (rational_Add.calls t179 t180 t191 t192 t195 t196 t197 _ ?side1 A16.out).mono ?_); (case side1 => exact Laid.on HT.out (by repeat (first | (with_reducible first | exact HB.out | apply below_alloc | apply pw_below_drewN | apply below_drew1 | refine below_set ?_ GE181.out | refine below_set ?_ GE184.out | refine below_set ?_ GE188.out | refine below_set ?_ GE194.out) | exact HB.out))); rintro e w44 ⟨rfl, hb⟩; refine ⟨_, rfl, ?_⟩; have n0_ := Aside0.mk (blk_below (g := gb181) (o := .cells #[.string t179, .string t180] 23 (0, 0)) (by (with_reducible repeat (first | refine blk_drewN ?_ _ | refine blk_drew ?_ | refine blk_alloc ?_ _ | refine blk_far ?_ NB181_194.out _)); exact BK181.out) hb); have n1_ := Aside0.mk (blk_below (g := gb184) (o := .cells #[.string t182, .string t183] 23 (0, 0)) (by (with_reducible repeat (first | refine blk_drewN ?_ _ | refine blk_drew ?_ | refine blk_alloc ?_ _ | refine blk_far ?_ NB184_194.out _)); exact BK184.out) hb); have n2_ := Aside0.mk (blk_below (g := gb188) (o := .cells #[.string t185, .string t186] 23 (0, 0)) (by (with_reducible repeat (first | refine blk_drewN ?_ _ | refine blk_drew ?_ | refine blk_alloc ?_ _ | refine blk_far ?_ NB188_194.out _)); exact BK188.out) hb); have n3_ := Aside0.mk (blk_below (g := gb194) (o := .cells #[.string t191, .string t192] 23 (0, 0)) (by (with_reducible repeat (first | refine blk_drewN ?_ _ | refine blk_drew ?_ | refine blk_alloc ?_ _)); refine blk_put (cs := #[.string t191, .string (⟨#[]⟩ : ByteArray)]) ?_ 1 _ rfl; (with_reducible repeat (first | refine blk_drewN ?_ _ | refine blk_drew ?_ | refine blk_alloc ?_ _)); refine blk_put (cs := #[.string (⟨#[]⟩ : ByteArray), .string (⟨#[]⟩ : ByteArray)]) ?_ 0 _ rfl; (with_reducible repeat (first | refine blk_drewN ?_ _ | refine blk_drew ?_ | refine blk_alloc ?_ _)); exact BK194.out) hb); have n4_ := Aside0.mk (below_step (by repeat (first | (with_reducible first | exact HB.out | apply below_alloc | apply pw_below_drewN | apply below_drew1 | refine below_set ?_ GE181.out | refine below_set ?_ GE184.out | refine below_set ?_ GE188.out | refine below_set ?_ GE194.out) | exact HB.out)) hb); clear BK181; clear BK184; clear BK188; clear BK194; clear HB; have BK181 := n0_; have BK184 := n1_; have BK188 := n2_; have BK194 := n3_; have HB := n4_; clear n0_ n1_ n2_ n3_ n4_; (try clear hb); (try clear hb2); (try clear hk); (try clear hi)) | ((with_reducible refine gate_dst (N := 16) rfl ?_); refine box_event ?hg (N := 16) ?hd (cs := #[.string (⟨#[]⟩ : ByteArray), .string (⟨#[]⟩ : ByteArray)]) (t := 23) ?hr ?_; (case hd => rfl); (case hg => rfl); (case hr => first | (go_simp; done) | (go_simp; rfl)); intro gb198 hg w45 hbox hb; have n0_ := Aside0.mk (blk_below (g := gb181) (o := .cells #[.string t179, .string t180] 23 (0, 0)) (by (with_reducible repeat (first | refine blk_drewN ?_ _ | refine blk_drew ?_ | refine blk_alloc ?_ _)); exact BK181.out) hb); have n1_ := Aside0.mk (blk_below (g := gb184) (o := .cells #[.string t182, .string t183] 23 (0, 0)) (by (with_reducible repeat (first | refine blk_drewN ?_ _ | refine blk_drew ?_ | refine blk_alloc ?_ _)); exact BK184.out) hb); have n2_ := Aside0.mk (blk_below (g := gb188) (o := .cells #[.string t185, .string t186] 23 (0, 0)) (by (with_reducible repeat (first | refine blk_drewN ?_ _ | refine blk_drew ?_ | refine blk_alloc ?_ _)); exact BK188.out) hb); have n3_ := Aside0.mk (blk_below (g := gb194) (o := .cells #[.string t191, .string t192] 23 (0, 0)) (by (with_reducible repeat (first | refine blk_drewN ?_ _ | refine blk_drew ?_ | refine blk_alloc ?_ _)); exact BK194.out) hb); have n4_ := Aside0.mk (below_step (by repeat (first | (with_reducible first | exact HB.out | apply below_alloc | apply pw_below_drewN | apply below_drew1 | refine below_set ?_ GE181.out | refine below_set ?_ GE184.out | refine below_set ?_ GE188.out | refine below_set ?_ GE194.out) | exact HB.out)) hb); have n5_ := Aside0.mk (hbox); have n6_ := Aside0.mk ((by rw [hg]; exact (below_size (by repeat (first | (with_reducible first | exact HB.out | apply below_alloc | apply pw_below_drewN | apply below_drew1 | refine below_set ?_ GE181.out | refine below_set ?_ GE184.out | refine below_set ?_ GE188.out | refine below_set ?_ GE194.out) | exact HB.out))) : w.heap.size ≤ gb198)); have n7_ := Aside0.mk ((by rw [hg]; exact (below_size (by repeat (first | (with_reducible first | exact HB.out | apply below_alloc | apply pw_below_drewN | apply below_drew1 | refine below_set ?_ GE181.out | refine below_set ?_ GE184.out | refine below_set ?_ GE188.out | refine below_set ?_ GE194.out) | exact HB.out))) : w.heap.size ≤ gb198)); have n8_ := Aside0.mk ((by rw [hg]; exact Nat.ne_of_lt (blk_lt (g := gb181) (o := .cells #[.string t179, .string t180] 23 (0, 0)) (by (with_reducible repeat (first | refine blk_drewN ?_ _ | refine blk_drew ?_ | refine blk_alloc ?_ _)); exact BK181.out)) : gb181 ≠ gb198)); have n9_ := Aside0.mk ((by rw [hg]; exact Nat.ne_of_gt (blk_lt (g := gb181) (o := .cells #[.string t179, .string t180] 23 (0, 0)) (by (with_reducible repeat (first | refine blk_drewN ?_ _ | refine blk_drew ?_ | refine blk_alloc ?_ _)); exact BK181.out)) : gb198 ≠ gb181)); have n10_ := Aside0.mk ((by rw [hg]; exact Nat.ne_of_lt (blk_lt (g := gb184) (o := .cells #[.string t182, .string t183] 23 (0, 0)) (by (with_reducible repeat (first | refine blk_drewN ?_ _ | refine blk_drew ?_ | refine blk_alloc ?_ _)); exact BK184.out)) : gb184 ≠ gb198)); have n11_ := Aside0.mk ((by rw [hg]; exact Nat.ne_of_gt (blk_lt (g := gb184) (o := .cells #[.string t182, .string t183] 23 (0, 0)) (by (with_reducible repeat (first | refine blk_drewN ?_ _ | refine blk_drew ?_ | refine blk_alloc ?_ _)); exact BK184.out)) : gb198 ≠ gb184)); have n12_ := Aside0.mk ((by rw [hg]; exact Nat.ne_of_lt (blk_lt (g := gb188) (o := .cells #[.string t185, .string t186] 23 (0, 0)) (by (with_reducible repeat (first | refine blk_drewN ?_ _ | refine blk_drew ?_ | refine blk_alloc ?_ _)); exact BK188.out)) : gb188 ≠ gb198)); have n13_ := Aside0.mk ((by rw [hg]; exact Nat.ne_of_gt (blk_lt (g := gb188) (o := .cells #[.string t185, .string t186] 23 (0, 0)) (by (with_reducible repeat (first | refine blk_drewN ?_ _ | refine blk_drew ?_ | refine blk_alloc ?_ _)); exact BK188.out)) : gb198 ≠ gb188)); have n14_ := Aside0.mk ((by rw [hg]; exact Nat.ne_of_lt (blk_lt (g := gb194) (o := .cells #[.string t191, .string t192] 23 (0, 0)) (by (with_reducible repeat (first | refine blk_drewN ?_ _ | refine blk_drew ?_ | refine blk_alloc ?_ _)); exact BK194.out)) : gb194 ≠ gb198)); have n15_ := Aside0.mk ((by rw [hg]; exact Nat.ne_of_gt (blk_lt (g := gb194) (o := .cells #[.string t191, .string t192] 23 (0, 0)) (by (with_reducible repeat (first | refine blk_drewN ?_ _ | refine blk_drew ?_ | refine blk_alloc ?_ _)); exact BK194.out)) : gb198 ≠ gb194)); clear BK181; clear BK184; clear BK188; clear BK194; clear HB; have BK181 := n0_; have BK184 := n1_; have BK188 := n2_; have BK194 := n3_; have HB := n4_; have BK198 := n5_; have GW198 := n6_; have GE198 := n7_; have NB181_198 := n8_; have NB198_181 := n9_; have NB184_198 := n10_; have NB198_184 := n11_; have NB188_198 := n12_; have NB198_188 := n13_; have NB194_198 := n14_; have NB198_194 := n15_; clear n0_ n1_ n2_ n3_ n4_ n5_ n6_ n7_ n8_ n9_ n10_ n11_ n12_ n13_ n14_ n15_; clear hb hbox hg; have hnb46 := NB198_181.out; have hnc46 := NB181_198.out; have hnb47 := NB198_184.out; have hnc47 := NB184_198.out; have hnb48 := NB198_188.out; have hnc48 := NB188_198.out; have hnb49 := NB198_194.out; have hnc49 := NB194_198.out; have hcz50_0 : w45.cell? ⟨gb198, 0, none⟩ = some (.string (⟨#[]⟩ : ByteArray)) := (blk_cell BK198.out 0).trans rfl; have hcz50_1 : w45.cell? ⟨gb198, 1, none⟩ = some (.string (⟨#[]⟩ : ByteArray)) := (blk_cell BK198.out 1).trans rfl; have hfz50_0 := blk_frozen BK198.out 0; have hfz50_1 := blk_frozen BK198.out 1))
         (try simp only [Act.put, List.setIfInBounds_toArray, List.set_cons_zero, List.set_cons_succ])
         try rw [hfz]
         go_cut [18, 93] (fun v18 v93 wc => ∃ (kq : Nat) (x93_16 : Bool), v93 = .bool x93_16 ∧ v18 = .bool fz ∧ Aside0 (newswirelaw04_RationalLimits.j2 kq t177 t178 t176 x93_16 t179 t180 t182 t183 t191 t192 = some r) ∧ Aside0 (kq ≤ k2) ∧ Aside0 (wc.heap[gb181]? = some (.cells #[.string t179, .string t180] 23 (0, 0))) ∧ Aside0 (wc.heap[gb184]? = some (.cells #[.string t182, .string t183] 23 (0, 0))) ∧ Aside0 (wc.heap[gb188]? = some (.cells #[.string t185, .string t186] 23 (0, 0))) ∧ Aside0 (wc.heap[gb194]? = some (.cells #[.string t191, .string t192] 23 (0, 0))) ∧ Aside0 (wc.heap[gb198]? = some (.cells #[.string t195, .string t196] 23 (0, 0))) ∧ Aside0 (Below w.heap.size w wc))
         case first =>
          have H := HC17.out
          clear HC17
          by_cases c51 : ((t187 == 0) != fz) = true
          ·
           rw [if_pos c51] at H
           exact absurd H (by simp)
          ·
           rw [if_neg c51] at H
           have c51b0 : ((t187 == 0) != fz) = false := by simpa using c51
           (try (have c51b1 : decide ((t187 == 0) = fz) = true := by simpa using c51))
           (try (have c51b2 : ((t187 == 0) == fz) = true := by simpa using c51))
           clear c51
           (first | rw [c51b0] | (simp only [i64_w, i32_w]; rw [c51b0]) | skip)
           by_cases c52 : t187 = 0
           ·
            rw [if_pos c52] at H
            have c52b0 : (t187 == 0) = true := beq_iff_eq.mpr c52
            have c52b1 : (t187 != 0) = false := bne_eq_false_iff_eq.mpr c52
            have hz_ : fz = true := by rw [c52b0] at c51b0; simpa using c51b0
            clear c52
            by_cases c53 : t193 = 0
            ·
             rw [if_pos c53] at H
             have c53b0 : (t193 == 0) = true := beq_iff_eq.mpr c53
             have c53b1 : (t193 != 0) = false := bne_eq_false_iff_eq.mpr c53
             clear c53
             have H' := Aside0.mk H
             clear H
             go_wp2
             go_meet
             case rel => exact ⟨_, (((t197 == 0) != fz)), (by first | rfl | (simp; done) | (simp [*]; done)), (by first | rfl | (simp; done) | (simp [*]; done)), H', ⟨by have := HK1.out; have := HK2.out; first | omega | exact Nat.le_refl _⟩, ⟨by (with_reducible repeat (first | refine blk_drewN ?_ _ | refine blk_drew ?_ | refine blk_alloc ?_ _ | refine blk_far ?_ NB181_198.out _)); exact BK181.out⟩, ⟨by (with_reducible repeat (first | refine blk_drewN ?_ _ | refine blk_drew ?_ | refine blk_alloc ?_ _ | refine blk_far ?_ NB184_198.out _)); exact BK184.out⟩, ⟨by (with_reducible repeat (first | refine blk_drewN ?_ _ | refine blk_drew ?_ | refine blk_alloc ?_ _ | refine blk_far ?_ NB188_198.out _)); exact BK188.out⟩, ⟨by (with_reducible repeat (first | refine blk_drewN ?_ _ | refine blk_drew ?_ | refine blk_alloc ?_ _ | refine blk_far ?_ NB194_198.out _)); exact BK194.out⟩, ⟨by (with_reducible repeat (first | refine blk_drewN ?_ _ | refine blk_drew ?_ | refine blk_alloc ?_ _)); refine blk_put (cs := #[.string t195, .string (⟨#[]⟩ : ByteArray)]) ?_ 1 _ rfl; (with_reducible repeat (first | refine blk_drewN ?_ _ | refine blk_drew ?_ | refine blk_alloc ?_ _)); refine blk_put (cs := #[.string (⟨#[]⟩ : ByteArray), .string (⟨#[]⟩ : ByteArray)]) ?_ 0 _ rfl; (with_reducible repeat (first | refine blk_drewN ?_ _ | refine blk_drew ?_ | refine blk_alloc ?_ _)); exact BK198.out⟩, ⟨by repeat (first | (with_reducible first | exact HB.out | apply below_alloc | apply pw_below_drewN | apply below_drew1 | refine below_set ?_ GE181.out | refine below_set ?_ GE184.out | refine below_set ?_ GE188.out | refine below_set ?_ GE194.out | refine below_set ?_ GE198.out) | exact HB.out)⟩⟩
            ·
             rw [if_neg c53] at H
             exact absurd H (by simp)
           ·
            rw [if_neg c52] at H
            have c52b0 : (t187 == 0) = false := beq_eq_false_iff_ne.mpr c52
            have c52b1 : (t187 != 0) = true := bne_iff_ne.mpr c52
            have hz_ : fz = false := by rw [c52b0] at c51b0; simpa using c51b0
            by_cases c54 : t187 = 40
            ·
             rw [if_pos c54] at H
             have c54b0 : (t187 == 40) = true := beq_iff_eq.mpr c54
             have c54b1 : (t187 != 40) = false := bne_eq_false_iff_eq.mpr c54
             clear c54
             by_cases c55 : (!(t185.toList == ([] : List UInt8)) || (!(t186.toList == ([] : List UInt8)))) = true
             ·
              rw [if_pos c55] at H
              exact absurd H (by simp)
             ·
              rw [if_neg c55] at H
              have c55b0 : (!(t185.toList == ([] : List UInt8)) || (!(t186.toList == ([] : List UInt8)))) = false := by simpa using c55
              have he_ : t185.toList = [] ∧ t186.toList = [] := by simpa using c55b0
              have he1_ := he_.1
              have he2_ := he_.2
              clear c55
              by_cases c56 : t193 = 0
              ·
               rw [if_pos c56] at H
               have c56b0 : (t193 == 0) = true := beq_iff_eq.mpr c56
               have c56b1 : (t193 != 0) = false := bne_eq_false_iff_eq.mpr c56
               clear c56
               have H' := Aside0.mk H
               clear H
               have hnb57 := NB188_181.out
               have hnc57 := NB181_188.out
               have hnb58 := NB188_184.out
               have hnc58 := NB184_188.out
               have hnb59 := NB188_194.out
               have hnc59 := NB194_188.out
               have hnb60 := NB188_198.out
               have hnc60 := NB198_188.out
               have hcz61_0 : w45.cell? ⟨gb188, 0, none⟩ = some (.string t185) := (blk_cell BK188.out 0).trans rfl
               have hcz61_1 : w45.cell? ⟨gb188, 1, none⟩ = some (.string t186) := (blk_cell BK188.out 1).trans rfl
               have hfz61_0 := blk_frozen BK188.out 0
               have hfz61_1 := blk_frozen BK188.out 1
               go_wp2
               go_meet
               case rel => exact ⟨_, (((t197 == 0) != fz)), (by first | rfl | (simp; done) | (simp [*]; done)), (by first | rfl | (simp; done) | (simp [*]; done)), H', ⟨by have := HK1.out; have := HK2.out; first | omega | exact Nat.le_refl _⟩, ⟨by (with_reducible repeat (first | refine blk_drewN ?_ _ | refine blk_drew ?_ | refine blk_alloc ?_ _ | refine blk_far ?_ NB181_198.out _)); exact BK181.out⟩, ⟨by (with_reducible repeat (first | refine blk_drewN ?_ _ | refine blk_drew ?_ | refine blk_alloc ?_ _ | refine blk_far ?_ NB184_198.out _)); exact BK184.out⟩, ⟨by (with_reducible repeat (first | refine blk_drewN ?_ _ | refine blk_drew ?_ | refine blk_alloc ?_ _ | refine blk_far ?_ NB188_198.out _)); exact BK188.out⟩, ⟨by (with_reducible repeat (first | refine blk_drewN ?_ _ | refine blk_drew ?_ | refine blk_alloc ?_ _ | refine blk_far ?_ NB194_198.out _)); exact BK194.out⟩, ⟨by (with_reducible repeat (first | refine blk_drewN ?_ _ | refine blk_drew ?_ | refine blk_alloc ?_ _)); refine blk_put (cs := #[.string t195, .string (⟨#[]⟩ : ByteArray)]) ?_ 1 _ rfl; (with_reducible repeat (first | refine blk_drewN ?_ _ | refine blk_drew ?_ | refine blk_alloc ?_ _)); refine blk_put (cs := #[.string (⟨#[]⟩ : ByteArray), .string (⟨#[]⟩ : ByteArray)]) ?_ 0 _ rfl; (with_reducible repeat (first | refine blk_drewN ?_ _ | refine blk_drew ?_ | refine blk_alloc ?_ _)); exact BK198.out⟩, ⟨by repeat (first | (with_reducible first | exact HB.out | apply below_alloc | apply pw_below_drewN | apply below_drew1 | refine below_set ?_ GE181.out | refine below_set ?_ GE184.out | refine below_set ?_ GE188.out | refine below_set ?_ GE194.out | refine below_set ?_ GE198.out) | exact HB.out)⟩⟩
              ·
               rw [if_neg c56] at H
               exact absurd H (by simp)
            ·
             rw [if_neg c54] at H
             exact absurd H (by simp)
         case rest =>
          clear HC17
          try clear c1
          try clear c2
          try clear p2
          try clear c3
          try clear c4
          try clear c5
          try clear c6
          try clear p6
          try clear c9
          try clear c9b0
          try clear c10
          try clear c23
          try clear c24
          try clear c25
          try clear c26
          try clear c27
          try clear c28
          try clear c29
          try clear c39
          try clear c41
          try clear c42
          try clear c46
          try clear c47
          try clear c48
          try clear c49
          try clear c51
          try clear c51b0
          try clear c51b1
          try clear c51b2
          try clear c52
          try clear c52b0
          try clear c52b1
          try clear c53
          try clear c53b0
          try clear c53b1
          try clear c54
          try clear c54b0
          try clear c54b1
          try clear c55
          try clear c55b0
          try clear c56
          try clear c56b0
          try clear c56b1
          try clear c57
          try clear c58
          try clear c59
          try clear c60
          try clear hcz20_0
          try clear hcz20_1
          try clear hcz24_0
          try clear hcz24_1
          try clear hcz25_0
          try clear hcz25_1
          try clear hcz30_0
          try clear hcz30_1
          try clear hcz40_0
          try clear hcz40_1
          try clear hcz43_0
          try clear hcz43_1
          try clear hcz50_0
          try clear hcz50_1
          try clear hcz61_0
          try clear hcz61_1
          try clear hfz20_0
          try clear hfz20_1
          try clear hfz24_0
          try clear hfz24_1
          try clear hfz25_0
          try clear hfz25_1
          try clear hfz30_0
          try clear hfz30_1
          try clear hfz40_0
          try clear hfz40_1
          try clear hfz43_0
          try clear hfz43_1
          try clear hfz50_0
          try clear hfz50_1
          try clear hfz61_0
          try clear hfz61_1
          obtain ⟨kq, x93_16, rfl, rfl, HA, HJ16, BK181, BK184, BK188, BK194, BK198, HB⟩ := hcut
          cases kq with
          | zero => exact absurd HA.out (by simp [newswirelaw04_RationalLimits.j2])
          | succ kj16 =>
           have H := HA.out
           clear HA
           simp only [newswirelaw04_RationalLimits.j2] at H
           by_cases c62 : x93_16 = true
           ·
            subst c62
            have H1 : (none) = some r := by rw [if_pos rfl] at H; exact H
            clear H
            have H := H1
            clear H1
            exact absurd H (by simp)
           ·
            replace c62 := Bool.eq_false_iff.mpr c62
            subst c62
            have H1 : (if t177 < t178 then (newswirelaw04_RationalLimits.j3 kj16 t177 t178 t176 (-1) t179 t180 t182 t183 t191 t192) else (if t177 > t178 then (newswirelaw04_RationalLimits.j3 kj16 t177 t178 t176 1 t179 t180 t182 t183 t191 t192) else (newswirelaw04_RationalLimits.j3 kj16 t177 t178 t176 0 t179 t180 t182 t183 t191 t192))) = some r := by rw [if_neg (show ¬ (false = true) by decide)] at H; exact H
            clear H
            have H := H1
            clear H1
            have HC63 := Aside0.mk H
            clear H
            go_upto_if 96 with (fail)
            go_cut [19] (fun v19 wc => ∃ (kq : Nat) (x19_62 : Int), v19 = .int .i64 x19_62 ∧ Aside0 (newswirelaw04_RationalLimits.j3 kq t177 t178 t176 x19_62 t179 t180 t182 t183 t191 t192 = some r) ∧ Aside0 (kq ≤ kj16) ∧ Aside0 (wc.heap[gb181]? = some (.cells #[.string t179, .string t180] 23 (0, 0))) ∧ Aside0 (wc.heap[gb184]? = some (.cells #[.string t182, .string t183] 23 (0, 0))) ∧ Aside0 (wc.heap[gb188]? = some (.cells #[.string t185, .string t186] 23 (0, 0))) ∧ Aside0 (wc.heap[gb194]? = some (.cells #[.string t191, .string t192] 23 (0, 0))) ∧ Aside0 (wc.heap[gb198]? = some (.cells #[.string t195, .string t196] 23 (0, 0))) ∧ Aside0 (Below w.heap.size w wc))
            case first =>
             have H := HC63.out
             clear HC63
             by_cases c64 : t177 < t178
             ·
              rw [if_pos c64] at H
              have c64b0 : decide (t177 < t178) = true := decide_eq_true c64
              clear c64
              (first | rw [c64b0] | (simp only [i64_w, i32_w]; rw [c64b0]) | skip)
              have H' := Aside0.mk H
              clear H
              go_wp2
              go_meet
              case rel => exact ⟨_, ((-1)), (by first | rfl | (simp; done) | (simp [*]; done)), H', ⟨by have := HK1.out; have := HK2.out; have := HJ16.out; first | omega | exact Nat.le_refl _⟩, ⟨by (with_reducible repeat (first | refine blk_drewN ?_ _ | refine blk_drew ?_ | refine blk_alloc ?_ _)); exact BK181.out⟩, ⟨by (with_reducible repeat (first | refine blk_drewN ?_ _ | refine blk_drew ?_ | refine blk_alloc ?_ _)); exact BK184.out⟩, ⟨by (with_reducible repeat (first | refine blk_drewN ?_ _ | refine blk_drew ?_ | refine blk_alloc ?_ _)); exact BK188.out⟩, ⟨by (with_reducible repeat (first | refine blk_drewN ?_ _ | refine blk_drew ?_ | refine blk_alloc ?_ _)); exact BK194.out⟩, ⟨by (with_reducible repeat (first | refine blk_drewN ?_ _ | refine blk_drew ?_ | refine blk_alloc ?_ _)); exact BK198.out⟩, ⟨by repeat (first | (with_reducible first | exact HB.out | apply below_alloc | apply pw_below_drewN | apply below_drew1 | refine below_set ?_ GE181.out | refine below_set ?_ GE184.out | refine below_set ?_ GE188.out | refine below_set ?_ GE194.out | refine below_set ?_ GE198.out) | exact HB.out)⟩⟩
             ·
              rw [if_neg c64] at H
              have c64b0 : decide (t177 < t178) = false := decide_eq_false c64
              clear c64
              (first | rw [c64b0] | (simp only [i64_w, i32_w]; rw [c64b0]) | skip)
              by_cases c65 : t177 > t178
              ·
               rw [if_pos c65] at H
               have c65b0 : decide (t178 < t177) = true := decide_eq_true c65
               clear c65
               have H' := Aside0.mk H
               clear H
               go_wp2
               go_meet
               case rel => exact ⟨_, (1), (by first | rfl | (simp; done) | (simp [*]; done)), H', ⟨by have := HK1.out; have := HK2.out; have := HJ16.out; first | omega | exact Nat.le_refl _⟩, ⟨by (with_reducible repeat (first | refine blk_drewN ?_ _ | refine blk_drew ?_ | refine blk_alloc ?_ _)); exact BK181.out⟩, ⟨by (with_reducible repeat (first | refine blk_drewN ?_ _ | refine blk_drew ?_ | refine blk_alloc ?_ _)); exact BK184.out⟩, ⟨by (with_reducible repeat (first | refine blk_drewN ?_ _ | refine blk_drew ?_ | refine blk_alloc ?_ _)); exact BK188.out⟩, ⟨by (with_reducible repeat (first | refine blk_drewN ?_ _ | refine blk_drew ?_ | refine blk_alloc ?_ _)); exact BK194.out⟩, ⟨by (with_reducible repeat (first | refine blk_drewN ?_ _ | refine blk_drew ?_ | refine blk_alloc ?_ _)); exact BK198.out⟩, ⟨by repeat (first | (with_reducible first | exact HB.out | apply below_alloc | apply pw_below_drewN | apply below_drew1 | refine below_set ?_ GE181.out | refine below_set ?_ GE184.out | refine below_set ?_ GE188.out | refine below_set ?_ GE194.out | refine below_set ?_ GE198.out) | exact HB.out)⟩⟩
              ·
               rw [if_neg c65] at H
               have c65b0 : decide (t178 < t177) = false := decide_eq_false c65
               clear c65
               have H' := Aside0.mk H
               clear H
               go_wp2
               go_meet
               case rel => exact ⟨_, (0), (by first | rfl | (simp; done) | (simp [*]; done)), H', ⟨by have := HK1.out; have := HK2.out; have := HJ16.out; first | omega | exact Nat.le_refl _⟩, ⟨by (with_reducible repeat (first | refine blk_drewN ?_ _ | refine blk_drew ?_ | refine blk_alloc ?_ _)); exact BK181.out⟩, ⟨by (with_reducible repeat (first | refine blk_drewN ?_ _ | refine blk_drew ?_ | refine blk_alloc ?_ _)); exact BK184.out⟩, ⟨by (with_reducible repeat (first | refine blk_drewN ?_ _ | refine blk_drew ?_ | refine blk_alloc ?_ _)); exact BK188.out⟩, ⟨by (with_reducible repeat (first | refine blk_drewN ?_ _ | refine blk_drew ?_ | refine blk_alloc ?_ _)); exact BK194.out⟩, ⟨by (with_reducible repeat (first | refine blk_drewN ?_ _ | refine blk_drew ?_ | refine blk_alloc ?_ _)); exact BK198.out⟩, ⟨by repeat (first | (with_reducible first | exact HB.out | apply below_alloc | apply pw_below_drewN | apply below_drew1 | refine below_set ?_ GE181.out | refine below_set ?_ GE184.out | refine below_set ?_ GE188.out | refine below_set ?_ GE194.out | refine below_set ?_ GE198.out) | exact HB.out)⟩⟩
            case rest =>
             clear HC63
             try clear c1
             try clear c2
             try clear p2
             try clear c3
             try clear c4
             try clear c5
             try clear c6
             try clear p6
             try clear c9
             try clear c9b0
             try clear c10
             try clear c23
             try clear c24
             try clear c25
             try clear c26
             try clear c27
             try clear c28
             try clear c29
             try clear c39
             try clear c41
             try clear c42
             try clear c46
             try clear c47
             try clear c48
             try clear c49
             try clear c51
             try clear c51b0
             try clear c51b1
             try clear c51b2
             try clear c52
             try clear c52b0
             try clear c52b1
             try clear c53
             try clear c53b0
             try clear c53b1
             try clear c54
             try clear c54b0
             try clear c54b1
             try clear c55
             try clear c55b0
             try clear c56
             try clear c56b0
             try clear c56b1
             try clear c57
             try clear c58
             try clear c59
             try clear c60
             try clear c62
             try clear c64
             try clear c64b0
             try clear p64
             try clear c65
             try clear c65b0
             try clear hcz20_0
             try clear hcz20_1
             try clear hcz24_0
             try clear hcz24_1
             try clear hcz25_0
             try clear hcz25_1
             try clear hcz30_0
             try clear hcz30_1
             try clear hcz40_0
             try clear hcz40_1
             try clear hcz43_0
             try clear hcz43_1
             try clear hcz50_0
             try clear hcz50_1
             try clear hcz61_0
             try clear hcz61_1
             try clear hfz20_0
             try clear hfz20_1
             try clear hfz24_0
             try clear hfz24_1
             try clear hfz25_0
             try clear hfz25_1
             try clear hfz30_0
             try clear hfz30_1
             try clear hfz40_0
             try clear hfz40_1
             try clear hfz43_0
             try clear hfz43_1
             try clear hfz50_0
             try clear hfz50_1
             try clear hfz61_0
             try clear hfz61_1
             try clear p2
             try clear p6
             obtain ⟨kq, x19_62, rfl, HA, HJ62, BK181, BK184, BK188, BK194, BK198, HB⟩ := hcut
             cases kq with
             | zero => exact absurd HA.out (by simp [newswirelaw04_RationalLimits.j3])
             | succ kj62 =>
              have H := HA.out
              clear HA
              simp only [newswirelaw04_RationalLimits.j3] at H
              have HC66 := Aside0.mk H
              clear H
              go_upto_region 28 with (fail)
              go_cut [105] (fun v105 wc => ∃ (kq : Nat) (x105_65 : Bool), v105 = .bool x105_65 ∧ Aside0 (newswirelaw04_RationalLimits.j4 kq t176 x19_62 1 x105_65 t179 t180 t182 t183 t191 t192 = some r) ∧ Aside0 (kq ≤ kj62) ∧ Aside0 (wc.heap[gb181]? = some (.cells #[.string t179, .string t180] 23 (0, 0))) ∧ Aside0 (wc.heap[gb184]? = some (.cells #[.string t182, .string t183] 23 (0, 0))) ∧ Aside0 (wc.heap[gb188]? = some (.cells #[.string t185, .string t186] 23 (0, 0))) ∧ Aside0 (wc.heap[gb194]? = some (.cells #[.string t191, .string t192] 23 (0, 0))) ∧ Aside0 (wc.heap[gb198]? = some (.cells #[.string t195, .string t196] 23 (0, 0))) ∧ Aside0 (Below w.heap.size w wc))
              case first =>
               have H := HC66.out
               clear HC66
               by_cases c67 : t177 = 0
               ·
                rw [if_pos c67] at H
                have c67b0 : (t177 == 0) = true := beq_iff_eq.mpr c67
                have c67b1 : (t177 != 0) = false := bne_eq_false_iff_eq.mpr c67
                clear c67
                (first | rw [c67b0] | (simp only [i64_w, i32_w]; rw [c67b0]) | skip)
                have H' := Aside0.mk H
                clear H
                go_wp2
                go_meet
                case rel => exact ⟨_, ((t178 == 0)), (by first | rfl | (simp; done) | (simp [*]; done)), H', ⟨by have := HK1.out; have := HK2.out; have := HJ16.out; have := HJ62.out; first | omega | exact Nat.le_refl _⟩, ⟨by (with_reducible repeat (first | refine blk_drewN ?_ _ | refine blk_drew ?_ | refine blk_alloc ?_ _)); exact BK181.out⟩, ⟨by (with_reducible repeat (first | refine blk_drewN ?_ _ | refine blk_drew ?_ | refine blk_alloc ?_ _)); exact BK184.out⟩, ⟨by (with_reducible repeat (first | refine blk_drewN ?_ _ | refine blk_drew ?_ | refine blk_alloc ?_ _)); exact BK188.out⟩, ⟨by (with_reducible repeat (first | refine blk_drewN ?_ _ | refine blk_drew ?_ | refine blk_alloc ?_ _)); exact BK194.out⟩, ⟨by (with_reducible repeat (first | refine blk_drewN ?_ _ | refine blk_drew ?_ | refine blk_alloc ?_ _)); exact BK198.out⟩, ⟨by repeat (first | (with_reducible first | exact HB.out | apply below_alloc | apply pw_below_drewN | apply below_drew1 | refine below_set ?_ GE181.out | refine below_set ?_ GE184.out | refine below_set ?_ GE188.out | refine below_set ?_ GE194.out | refine below_set ?_ GE198.out) | exact HB.out)⟩⟩
               ·
                rw [if_neg c67] at H
                have c67b0 : (t177 == 0) = false := beq_eq_false_iff_ne.mpr c67
                have c67b1 : (t177 != 0) = true := bne_iff_ne.mpr c67
                (first | rw [c67b0] | (simp only [i64_w, i32_w]; rw [c67b0]) | skip)
                have H' := Aside0.mk H
                clear H
                go_wp2
                go_meet
                case rel => exact ⟨_, (false), (by first | rfl | (simp; done) | (simp [*]; done)), H', ⟨by have := HK1.out; have := HK2.out; have := HJ16.out; have := HJ62.out; first | omega | exact Nat.le_refl _⟩, ⟨by (with_reducible repeat (first | refine blk_drewN ?_ _ | refine blk_drew ?_ | refine blk_alloc ?_ _)); exact BK181.out⟩, ⟨by (with_reducible repeat (first | refine blk_drewN ?_ _ | refine blk_drew ?_ | refine blk_alloc ?_ _)); exact BK184.out⟩, ⟨by (with_reducible repeat (first | refine blk_drewN ?_ _ | refine blk_drew ?_ | refine blk_alloc ?_ _)); exact BK188.out⟩, ⟨by (with_reducible repeat (first | refine blk_drewN ?_ _ | refine blk_drew ?_ | refine blk_alloc ?_ _)); exact BK194.out⟩, ⟨by (with_reducible repeat (first | refine blk_drewN ?_ _ | refine blk_drew ?_ | refine blk_alloc ?_ _)); exact BK198.out⟩, ⟨by repeat (first | (with_reducible first | exact HB.out | apply below_alloc | apply pw_below_drewN | apply below_drew1 | refine below_set ?_ GE181.out | refine below_set ?_ GE184.out | refine below_set ?_ GE188.out | refine below_set ?_ GE194.out | refine below_set ?_ GE198.out) | exact HB.out)⟩⟩
              case rest =>
               clear HC66
               try clear c1
               try clear c2
               try clear p2
               try clear c3
               try clear c4
               try clear c5
               try clear c6
               try clear p6
               try clear c9
               try clear c9b0
               try clear c10
               try clear c23
               try clear c24
               try clear c25
               try clear c26
               try clear c27
               try clear c28
               try clear c29
               try clear c39
               try clear c41
               try clear c42
               try clear c46
               try clear c47
               try clear c48
               try clear c49
               try clear c51
               try clear c51b0
               try clear c51b1
               try clear c51b2
               try clear c52
               try clear c52b0
               try clear c52b1
               try clear c53
               try clear c53b0
               try clear c53b1
               try clear c54
               try clear c54b0
               try clear c54b1
               try clear c55
               try clear c55b0
               try clear c56
               try clear c56b0
               try clear c56b1
               try clear c57
               try clear c58
               try clear c59
               try clear c60
               try clear c62
               try clear c64
               try clear c64b0
               try clear p64
               try clear c65
               try clear c65b0
               try clear c67
               try clear c67b0
               try clear c67b1
               try clear hcz20_0
               try clear hcz20_1
               try clear hcz24_0
               try clear hcz24_1
               try clear hcz25_0
               try clear hcz25_1
               try clear hcz30_0
               try clear hcz30_1
               try clear hcz40_0
               try clear hcz40_1
               try clear hcz43_0
               try clear hcz43_1
               try clear hcz50_0
               try clear hcz50_1
               try clear hcz61_0
               try clear hcz61_1
               try clear hfz20_0
               try clear hfz20_1
               try clear hfz24_0
               try clear hfz24_1
               try clear hfz25_0
               try clear hfz25_1
               try clear hfz30_0
               try clear hfz30_1
               try clear hfz40_0
               try clear hfz40_1
               try clear hfz43_0
               try clear hfz43_1
               try clear hfz50_0
               try clear hfz50_1
               try clear hfz61_0
               try clear hfz61_1
               try clear p2
               try clear p6
               try clear p64
               obtain ⟨kq, x105_65, rfl, HA, HJ65, BK181, BK184, BK188, BK194, BK198, HB⟩ := hcut
               cases kq with
               | zero => exact absurd HA.out (by simp [newswirelaw04_RationalLimits.j4])
               | succ kj65 =>
                have H := HA.out
                clear HA
                simp only [newswirelaw04_RationalLimits.j4] at H
                by_cases c68 : x105_65 = true
                ·
                 subst c68
                 have H1 : (if t176 = true then ((rational_Compare.f t179 t180 t182 t183).bind fun t199 => (if t199 = x19_62 then ((rational_Compare.f t179 t180 t191 t192).bind fun t200 => (some (t200 == 0))) else (none))) else (none)) = some r := by rw [if_pos rfl] at H; exact H
                 clear H
                 have H := H1
                 clear H1
                 by_cases c69 : t176 = true
                 ·
                  subst c69
                  have H1 : ((rational_Compare.f t179 t180 t182 t183).bind fun t199 => (if t199 = x19_62 then ((rational_Compare.f t179 t180 t191 t192).bind fun t200 => (some (t200 == 0))) else (none))) = some r := by rw [if_pos rfl] at H; exact H
                  clear H
                  have H := H1
                  clear H1
                  replace H := Option.bind_eq_some_iff.mp H
                  obtain ⟨t199, A700, H⟩ := H
                  replace H : (if t199 = x19_62 then ((rational_Compare.f t179 t180 t191 t192).bind fun t200 => (some (t200 == 0))) else (none)) = some r := H
                  have A70 := Aside0.mk A700
                  clear A700
                  by_cases c71 : t199 = x19_62
                  ·
                   rw [if_pos c71] at H
                   have c71b0 : (t199 == x19_62) = true := beq_iff_eq.mpr c71
                   have c71b1 : (t199 != x19_62) = false := bne_eq_false_iff_eq.mpr c71
                   clear c71
                   replace H := Option.bind_eq_some_iff.mp H
                   obtain ⟨t200, A720, H⟩ := H
                   replace H : (some (t200 == 0)) = some r := H
                   have A72 := Aside0.mk A720
                   clear A720
                   obtain rfl := Option.some.inj H
                   have hnb73 := NB181_184.out
                   have hnc73 := NB184_181.out
                   have hnb74 := NB181_188.out
                   have hnc74 := NB188_181.out
                   have hnb75 := NB181_194.out
                   have hnc75 := NB194_181.out
                   have hnb76 := NB181_198.out
                   have hnc76 := NB198_181.out
                   have hcz77_0 : wc.cell? ⟨gb181, 0, none⟩ = some (.string t179) := (blk_cell BK181.out 0).trans rfl
                   have hcz77_1 : wc.cell? ⟨gb181, 1, none⟩ = some (.string t180) := (blk_cell BK181.out 1).trans rfl
                   have hfz77_0 := blk_frozen BK181.out 0
                   have hfz77_1 := blk_frozen BK181.out 1
                   have hnb78 := NB184_188.out
                   have hnc78 := NB188_184.out
                   have hnb79 := NB184_194.out
                   have hnc79 := NB194_184.out
                   have hnb80 := NB184_198.out
                   have hnc80 := NB198_184.out
                   have hcz81_0 : wc.cell? ⟨gb184, 0, none⟩ = some (.string t182) := (blk_cell BK184.out 0).trans rfl
                   have hcz81_1 : wc.cell? ⟨gb184, 1, none⟩ = some (.string t183) := (blk_cell BK184.out 1).trans rfl
                   have hfz81_0 := blk_frozen BK184.out 0
                   have hfz81_1 := blk_frozen BK184.out 1
                   go_wp2_with (first | (go_at_call 23; (with_reducible refine (rational_Compare.calls t179 t180 t182 t183 t199 _ ?side1 A70.out).mono ?_); (case side1 => exact Laid.on HT.out (by repeat (first | (with_reducible first | exact HB.out | apply below_alloc | apply pw_below_drewN | apply below_drew1 | refine below_set ?_ GE181.out | refine below_set ?_ GE184.out | refine below_set ?_ GE188.out | refine below_set ?_ GE194.out | refine below_set ?_ GE198.out) | exact HB.out))); rintro e w82 ⟨rfl, hb⟩; have n0_ := Aside0.mk (blk_below (g := gb181) (o := .cells #[.string t179, .string t180] 23 (0, 0)) (by (with_reducible repeat (first | refine blk_drewN ?_ _ | refine blk_drew ?_ | refine blk_alloc ?_ _)); exact BK181.out) hb); have n1_ := Aside0.mk (blk_below (g := gb184) (o := .cells #[.string t182, .string t183] 23 (0, 0)) (by (with_reducible repeat (first | refine blk_drewN ?_ _ | refine blk_drew ?_ | refine blk_alloc ?_ _)); exact BK184.out) hb); have n2_ := Aside0.mk (blk_below (g := gb188) (o := .cells #[.string t185, .string t186] 23 (0, 0)) (by (with_reducible repeat (first | refine blk_drewN ?_ _ | refine blk_drew ?_ | refine blk_alloc ?_ _)); exact BK188.out) hb); have n3_ := Aside0.mk (blk_below (g := gb194) (o := .cells #[.string t191, .string t192] 23 (0, 0)) (by (with_reducible repeat (first | refine blk_drewN ?_ _ | refine blk_drew ?_ | refine blk_alloc ?_ _)); exact BK194.out) hb); have n4_ := Aside0.mk (blk_below (g := gb198) (o := .cells #[.string t195, .string t196] 23 (0, 0)) (by (with_reducible repeat (first | refine blk_drewN ?_ _ | refine blk_drew ?_ | refine blk_alloc ?_ _)); exact BK198.out) hb); have n5_ := Aside0.mk (below_step (by repeat (first | (with_reducible first | exact HB.out | apply below_alloc | apply pw_below_drewN | apply below_drew1 | refine below_set ?_ GE181.out | refine below_set ?_ GE184.out | refine below_set ?_ GE188.out | refine below_set ?_ GE194.out | refine below_set ?_ GE198.out) | exact HB.out)) hb); clear BK181; clear BK184; clear BK188; clear BK194; clear BK198; clear HB; have BK181 := n0_; have BK184 := n1_; have BK188 := n2_; have BK194 := n3_; have BK198 := n4_; have HB := n5_; clear n0_ n1_ n2_ n3_ n4_ n5_; (try clear hb); (try clear hb2); (try clear hk); (try clear hi); have hcz83_0 : w82.cell? ⟨gb181, 0, none⟩ = some (.string t179) := (blk_cell BK181.out 0).trans rfl; have hcz83_1 : w82.cell? ⟨gb181, 1, none⟩ = some (.string t180) := (blk_cell BK181.out 1).trans rfl; have hfz83_0 := blk_frozen BK181.out 0; have hfz83_1 := blk_frozen BK181.out 1; have hnb84 := NB194_188.out; have hnc84 := NB188_194.out; have hnb85 := NB194_198.out; have hnc85 := NB198_194.out; have hcz86_0 : w82.cell? ⟨gb194, 0, none⟩ = some (.string t191) := (blk_cell BK194.out 0).trans rfl; have hcz86_1 : w82.cell? ⟨gb194, 1, none⟩ = some (.string t192) := (blk_cell BK194.out 1).trans rfl; have hfz86_0 := blk_frozen BK194.out 0; have hfz86_1 := blk_frozen BK194.out 1) | (go_at_call 23; (with_reducible refine (rational_Compare.calls t179 t180 t191 t192 t200 _ ?side1 A72.out).mono ?_); (case side1 => exact Laid.on HT.out (by repeat (first | (with_reducible first | exact HB.out | apply below_alloc | apply pw_below_drewN | apply below_drew1 | refine below_set ?_ GE181.out | refine below_set ?_ GE184.out | refine below_set ?_ GE188.out | refine below_set ?_ GE194.out | refine below_set ?_ GE198.out) | exact HB.out))); rintro e w87 ⟨rfl, hb⟩; have n0_ := Aside0.mk (blk_below (g := gb181) (o := .cells #[.string t179, .string t180] 23 (0, 0)) (by (with_reducible repeat (first | refine blk_drewN ?_ _ | refine blk_drew ?_ | refine blk_alloc ?_ _)); exact BK181.out) hb); have n1_ := Aside0.mk (blk_below (g := gb184) (o := .cells #[.string t182, .string t183] 23 (0, 0)) (by (with_reducible repeat (first | refine blk_drewN ?_ _ | refine blk_drew ?_ | refine blk_alloc ?_ _)); exact BK184.out) hb); have n2_ := Aside0.mk (blk_below (g := gb188) (o := .cells #[.string t185, .string t186] 23 (0, 0)) (by (with_reducible repeat (first | refine blk_drewN ?_ _ | refine blk_drew ?_ | refine blk_alloc ?_ _)); exact BK188.out) hb); have n3_ := Aside0.mk (blk_below (g := gb194) (o := .cells #[.string t191, .string t192] 23 (0, 0)) (by (with_reducible repeat (first | refine blk_drewN ?_ _ | refine blk_drew ?_ | refine blk_alloc ?_ _)); exact BK194.out) hb); have n4_ := Aside0.mk (blk_below (g := gb198) (o := .cells #[.string t195, .string t196] 23 (0, 0)) (by (with_reducible repeat (first | refine blk_drewN ?_ _ | refine blk_drew ?_ | refine blk_alloc ?_ _)); exact BK198.out) hb); have n5_ := Aside0.mk (below_step (by repeat (first | (with_reducible first | exact HB.out | apply below_alloc | apply pw_below_drewN | apply below_drew1 | refine below_set ?_ GE181.out | refine below_set ?_ GE184.out | refine below_set ?_ GE188.out | refine below_set ?_ GE194.out | refine below_set ?_ GE198.out) | exact HB.out)) hb); clear BK181; clear BK184; clear BK188; clear BK194; clear BK198; clear HB; have BK181 := n0_; have BK184 := n1_; have BK188 := n2_; have BK194 := n3_; have BK198 := n4_; have HB := n5_; clear n0_ n1_ n2_ n3_ n4_ n5_; (try clear hb); (try clear hb2); (try clear hk); (try clear hi)))
                   go_ret
                   exact ⟨by first | rfl | (simp [errW_none, errW_some] <;> rfl) | (simp [*, errW_none, errW_some] <;> rfl), by repeat (first | (with_reducible first | exact HB.out | apply below_alloc | apply pw_below_drewN | apply below_drew1 | refine below_set ?_ GE181.out | refine below_set ?_ GE184.out | refine below_set ?_ GE188.out | refine below_set ?_ GE194.out | refine below_set ?_ GE198.out) | exact HB.out)⟩
                  ·
                   rw [if_neg c71] at H
                   exact absurd H (by simp)
                 ·
                  replace c69 := Bool.eq_false_iff.mpr c69
                  subst c69
                  have H1 : (none) = some r := by rw [if_neg (show ¬ (false = true) by decide)] at H; exact H
                  clear H
                  have H := H1
                  clear H1
                  exact absurd H (by simp)
                ·
                 replace c68 := Bool.eq_false_iff.mpr c68
                 subst c68
                 have H1 : (if t176 = true then ((rational_Compare.f t179 t180 t182 t183).bind fun t201 => (if t201 = x19_62 then ((rational_Compare.f t179 t180 t191 t192).bind fun t202 => (some (t202 == 1))) else (none))) else (none)) = some r := by rw [if_neg (show ¬ (false = true) by decide)] at H; exact H
                 clear H
                 have H := H1
                 clear H1
                 by_cases c88 : t176 = true
                 ·
                  subst c88
                  have H1 : ((rational_Compare.f t179 t180 t182 t183).bind fun t201 => (if t201 = x19_62 then ((rational_Compare.f t179 t180 t191 t192).bind fun t202 => (some (t202 == 1))) else (none))) = some r := by rw [if_pos rfl] at H; exact H
                  clear H
                  have H := H1
                  clear H1
                  replace H := Option.bind_eq_some_iff.mp H
                  obtain ⟨t201, A890, H⟩ := H
                  replace H : (if t201 = x19_62 then ((rational_Compare.f t179 t180 t191 t192).bind fun t202 => (some (t202 == 1))) else (none)) = some r := H
                  have A89 := Aside0.mk A890
                  clear A890
                  by_cases c90 : t201 = x19_62
                  ·
                   rw [if_pos c90] at H
                   have c90b0 : (t201 == x19_62) = true := beq_iff_eq.mpr c90
                   have c90b1 : (t201 != x19_62) = false := bne_eq_false_iff_eq.mpr c90
                   clear c90
                   replace H := Option.bind_eq_some_iff.mp H
                   obtain ⟨t202, A910, H⟩ := H
                   replace H : (some (t202 == 1)) = some r := H
                   have A91 := Aside0.mk A910
                   clear A910
                   obtain rfl := Option.some.inj H
                   have hnb92 := NB181_184.out
                   have hnc92 := NB184_181.out
                   have hnb93 := NB181_188.out
                   have hnc93 := NB188_181.out
                   have hnb94 := NB181_194.out
                   have hnc94 := NB194_181.out
                   have hnb95 := NB181_198.out
                   have hnc95 := NB198_181.out
                   have hcz96_0 : wc.cell? ⟨gb181, 0, none⟩ = some (.string t179) := (blk_cell BK181.out 0).trans rfl
                   have hcz96_1 : wc.cell? ⟨gb181, 1, none⟩ = some (.string t180) := (blk_cell BK181.out 1).trans rfl
                   have hfz96_0 := blk_frozen BK181.out 0
                   have hfz96_1 := blk_frozen BK181.out 1
                   have hnb97 := NB184_188.out
                   have hnc97 := NB188_184.out
                   have hnb98 := NB184_194.out
                   have hnc98 := NB194_184.out
                   have hnb99 := NB184_198.out
                   have hnc99 := NB198_184.out
                   have hcz100_0 : wc.cell? ⟨gb184, 0, none⟩ = some (.string t182) := (blk_cell BK184.out 0).trans rfl
                   have hcz100_1 : wc.cell? ⟨gb184, 1, none⟩ = some (.string t183) := (blk_cell BK184.out 1).trans rfl
                   have hfz100_0 := blk_frozen BK184.out 0
                   have hfz100_1 := blk_frozen BK184.out 1
                   go_wp2_with (first | (go_at_call 23; (with_reducible refine (rational_Compare.calls t179 t180 t182 t183 t201 _ ?side1 A89.out).mono ?_); (case side1 => exact Laid.on HT.out (by repeat (first | (with_reducible first | exact HB.out | apply below_alloc | apply pw_below_drewN | apply below_drew1 | refine below_set ?_ GE181.out | refine below_set ?_ GE184.out | refine below_set ?_ GE188.out | refine below_set ?_ GE194.out | refine below_set ?_ GE198.out) | exact HB.out))); rintro e w101 ⟨rfl, hb⟩; have n0_ := Aside0.mk (blk_below (g := gb181) (o := .cells #[.string t179, .string t180] 23 (0, 0)) (by (with_reducible repeat (first | refine blk_drewN ?_ _ | refine blk_drew ?_ | refine blk_alloc ?_ _)); exact BK181.out) hb); have n1_ := Aside0.mk (blk_below (g := gb184) (o := .cells #[.string t182, .string t183] 23 (0, 0)) (by (with_reducible repeat (first | refine blk_drewN ?_ _ | refine blk_drew ?_ | refine blk_alloc ?_ _)); exact BK184.out) hb); have n2_ := Aside0.mk (blk_below (g := gb188) (o := .cells #[.string t185, .string t186] 23 (0, 0)) (by (with_reducible repeat (first | refine blk_drewN ?_ _ | refine blk_drew ?_ | refine blk_alloc ?_ _)); exact BK188.out) hb); have n3_ := Aside0.mk (blk_below (g := gb194) (o := .cells #[.string t191, .string t192] 23 (0, 0)) (by (with_reducible repeat (first | refine blk_drewN ?_ _ | refine blk_drew ?_ | refine blk_alloc ?_ _)); exact BK194.out) hb); have n4_ := Aside0.mk (blk_below (g := gb198) (o := .cells #[.string t195, .string t196] 23 (0, 0)) (by (with_reducible repeat (first | refine blk_drewN ?_ _ | refine blk_drew ?_ | refine blk_alloc ?_ _)); exact BK198.out) hb); have n5_ := Aside0.mk (below_step (by repeat (first | (with_reducible first | exact HB.out | apply below_alloc | apply pw_below_drewN | apply below_drew1 | refine below_set ?_ GE181.out | refine below_set ?_ GE184.out | refine below_set ?_ GE188.out | refine below_set ?_ GE194.out | refine below_set ?_ GE198.out) | exact HB.out)) hb); clear BK181; clear BK184; clear BK188; clear BK194; clear BK198; clear HB; have BK181 := n0_; have BK184 := n1_; have BK188 := n2_; have BK194 := n3_; have BK198 := n4_; have HB := n5_; clear n0_ n1_ n2_ n3_ n4_ n5_; (try clear hb); (try clear hb2); (try clear hk); (try clear hi); have hcz102_0 : w101.cell? ⟨gb181, 0, none⟩ = some (.string t179) := (blk_cell BK181.out 0).trans rfl; have hcz102_1 : w101.cell? ⟨gb181, 1, none⟩ = some (.string t180) := (blk_cell BK181.out 1).trans rfl; have hfz102_0 := blk_frozen BK181.out 0; have hfz102_1 := blk_frozen BK181.out 1; have hnb103 := NB194_188.out; have hnc103 := NB188_194.out; have hnb104 := NB194_198.out; have hnc104 := NB198_194.out; have hcz105_0 : w101.cell? ⟨gb194, 0, none⟩ = some (.string t191) := (blk_cell BK194.out 0).trans rfl; have hcz105_1 : w101.cell? ⟨gb194, 1, none⟩ = some (.string t192) := (blk_cell BK194.out 1).trans rfl; have hfz105_0 := blk_frozen BK194.out 0; have hfz105_1 := blk_frozen BK194.out 1) | (go_at_call 23; (with_reducible refine (rational_Compare.calls t179 t180 t191 t192 t202 _ ?side1 A91.out).mono ?_); (case side1 => exact Laid.on HT.out (by repeat (first | (with_reducible first | exact HB.out | apply below_alloc | apply pw_below_drewN | apply below_drew1 | refine below_set ?_ GE181.out | refine below_set ?_ GE184.out | refine below_set ?_ GE188.out | refine below_set ?_ GE194.out | refine below_set ?_ GE198.out) | exact HB.out))); rintro e w106 ⟨rfl, hb⟩; have n0_ := Aside0.mk (blk_below (g := gb181) (o := .cells #[.string t179, .string t180] 23 (0, 0)) (by (with_reducible repeat (first | refine blk_drewN ?_ _ | refine blk_drew ?_ | refine blk_alloc ?_ _)); exact BK181.out) hb); have n1_ := Aside0.mk (blk_below (g := gb184) (o := .cells #[.string t182, .string t183] 23 (0, 0)) (by (with_reducible repeat (first | refine blk_drewN ?_ _ | refine blk_drew ?_ | refine blk_alloc ?_ _)); exact BK184.out) hb); have n2_ := Aside0.mk (blk_below (g := gb188) (o := .cells #[.string t185, .string t186] 23 (0, 0)) (by (with_reducible repeat (first | refine blk_drewN ?_ _ | refine blk_drew ?_ | refine blk_alloc ?_ _)); exact BK188.out) hb); have n3_ := Aside0.mk (blk_below (g := gb194) (o := .cells #[.string t191, .string t192] 23 (0, 0)) (by (with_reducible repeat (first | refine blk_drewN ?_ _ | refine blk_drew ?_ | refine blk_alloc ?_ _)); exact BK194.out) hb); have n4_ := Aside0.mk (blk_below (g := gb198) (o := .cells #[.string t195, .string t196] 23 (0, 0)) (by (with_reducible repeat (first | refine blk_drewN ?_ _ | refine blk_drew ?_ | refine blk_alloc ?_ _)); exact BK198.out) hb); have n5_ := Aside0.mk (below_step (by repeat (first | (with_reducible first | exact HB.out | apply below_alloc | apply pw_below_drewN | apply below_drew1 | refine below_set ?_ GE181.out | refine below_set ?_ GE184.out | refine below_set ?_ GE188.out | refine below_set ?_ GE194.out | refine below_set ?_ GE198.out) | exact HB.out)) hb); clear BK181; clear BK184; clear BK188; clear BK194; clear BK198; clear HB; have BK181 := n0_; have BK184 := n1_; have BK188 := n2_; have BK194 := n3_; have BK198 := n4_; have HB := n5_; clear n0_ n1_ n2_ n3_ n4_ n5_; (try clear hb); (try clear hb2); (try clear hk); (try clear hi)))
                   go_ret
                   exact ⟨by first | rfl | (simp [errW_none, errW_some] <;> rfl) | (simp [*, errW_none, errW_some] <;> rfl), by repeat (first | (with_reducible first | exact HB.out | apply below_alloc | apply pw_below_drewN | apply below_drew1 | refine below_set ?_ GE181.out | refine below_set ?_ GE184.out | refine below_set ?_ GE188.out | refine below_set ?_ GE194.out | refine below_set ?_ GE198.out) | exact HB.out)⟩
                  ·
                   rw [if_neg c90] at H
                   exact absurd H (by simp)
                 ·
                  replace c88 := Bool.eq_false_iff.mpr c88
                  subst c88
                  have H1 : (none) = some r := by rw [if_neg (show ¬ (false = true) by decide)] at H; exact H
                  clear H
                  have H := H1
                  clear H1
                  exact absurd H (by simp)

/-- THE ONE PURE STATEMENT of newswirelaw04_RationalLimits: yours. -/
def newswirelaw04_RationalLimits.Pure : Prop := ∀ (a0 : Int) (a1 : Int), (Lit.int .i64 a0).wf = true → (Lit.int .i64 a1).wf = true → ∃ k, newswirelaw04_RationalLimits.f k a0 a1 = some true
theorem newswirelaw04_RationalLimits.walk (P : newswirelaw04_RationalLimits.Pure) (a0 : Int) (a1 : Int) (w : World) (w0 : (Lit.int .i64 a0).wf = true) (w1 : (Lit.int .i64 a1).wf = true) (hT : Laid w) :
    Calls Tryz.prog 5 #[.int .i64 a0, .int .i64 a1] w fun e w' => e = .returned (.bool true) ∧ Below w.heap.size w w' := by
  obtain ⟨k, h⟩ := P a0 a1 w0 w1
  refine (newswirelaw04_RationalLimits.calls k a0 a1 true w hT h).mono ?_
  rintro e w' ⟨rfl, hd⟩
  exact ⟨rfl, hd⟩

end Go.Proofs.YtfdjdmkpcdbmkaaGreatDoor.PZ
