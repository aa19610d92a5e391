/-
  IntegerMatchesReference: the walk.
-/
import Derived.Test.YthbiafjdilbbnaaGreatDoorDG8
import Derived.Test.YthbiafjdilbbnaaGreatDoorCG4
import Derived.WalkKit
import Derived.RowKit3
set_option linter.unusedVariables false
set_option linter.unusedSimpArgs false
namespace Go.Proofs.YthbiafjdilbbnaaGreatDoor
open Go.RowKit Go.Lib Go.Proofs.YthbiafjdilbbnaaGreatDoorW.PrintWords Go.Proofs.YthbiafjdilbbnaaGreatDoorW.PrintLast
namespace integerMatchesReference

/-- The pairs. -/
def pa (A X Z : ByteArray) : Nat → ByteArray | 0 => A | 1 => X | _ => Z
theorem pa_fit {A X Z : ByteArray} (h1 : fit A) (h2 : fit X) (h3 : fit Z) (i : Nat) : fit (pa A X Z i) := by unfold pa; split <;> assumption
def Pairs (w : World) (q : Nat) (p r : Nat → ByteArray) : Prop := q < w.heap.size ∧ ∀ i : Nat, i < 3 → w.cell? ⟨q, i * 2, none⟩ = some (.string (p i)) ∧ w.cell? ⟨q, i * 2 + 1, none⟩ = some (.string (r i))
theorem Pairs.later {w w' : World} {q : Nat} {p r : Nat → ByteArray} (h : Pairs w q p r) (hb : Below w.heap.size w w') : Pairs w' q p r :=
  ⟨Nat.lt_of_lt_of_le h.1 hb.size, fun i hi => ⟨(World.cell?_of_block (hb.block q h.1)).trans (h.2 i hi).1, (World.cell?_of_block (hb.block q h.1)).trans (h.2 i hi).2⟩⟩
set_option maxRecDepth 100000 in
set_option maxHeartbeats 4000000 in
theorem walk (a0 : ByteArray) (h0 : a0.size ≤ 140737488351232) (a1 : ByteArray) (h1 : a1.size ≤ 140737488351232) (a2 : Int) (hw2 : (Lit.int .i64 a2).wf = true) (w : World) (hT : Laid w) :
    Calls Tryz.prog 9 #[.string a0, .string a1, .int .i64 a2] w fun e w' => e = .returned (.bool true) ∧ Below w.heap.size w w' := by
  have h2 : -9223372036854775808 ≤ a2 ∧ a2 ≤ 9223372036854775807 := by simpa [Lit.wf, IntKind.min, IntKind.max, IntKind.signed, IntKind.bits] using hw2
  clear hw2
  obtain ⟨K0, hk0⟩ := sane_ev.rounds
  have HK0 := Lib.hid hk0
  have HT := Lib.hid hT
  have BB := Lib.hid (Below.refl w.heap.size w)
  clear hT hk0
  go_enter Tryz.func9, Tryz.ntmps9
  go_wp2_with fail
  refine (PI.newswirelaw03_sane.calls K0 true _ (HT.out.on BB.out) HK0.out).mono ?_
  rintro e w1 ⟨rfl, b⟩
  have B2 := Lib.hid (bthen BB.out b)
  clear BB b
  have BB := B2
  clear B2
  go_wp2_with fail
  have hA1 : (a0.extract 0 (min (a0.size : Int) 210).toNat).size ≤ 210 := by rw [ByteArray.size_extract]; omega
  have hA2 : (a1.extract 0 (min (a1.size : Int) 210).toNat).size ≤ 210 := by rw [ByteArray.size_extract]; omega
  generalize a0.extract 0 (min (a0.size : Int) 210).toNat = A at *
  generalize a1.extract 0 (min (a1.size : Int) 210).toNat = B at *
  obtain ⟨X, hX, eX⟩ := made_at A (by omega) 70 70 rfl (by omega)
  obtain ⟨Y, hY, eY⟩ := made_at B (by omega) 30 30 rfl (by omega)
  obtain ⟨Z, hZ, eZ⟩ := made_at A (by omega) 12 12 rfl (by omega)
  obtain ⟨K1, hk1⟩ := eX.rounds
  obtain ⟨K2, hk2⟩ := eY.rounds
  obtain ⟨K3, hk3⟩ := eZ.rounds
  refine (PI.newswireref03_Made.calls K1 A 70 (S X) _ hk1).mono ?_
  rintro e w2 ⟨rfl, b⟩
  have B2 := Lib.hid (bthen BB.out b)
  clear BB b
  have BB := B2
  clear B2
  go_wp2_with fail
  refine (PI.newswireref03_Made.calls K2 B 30 (S Y) _ hk2).mono ?_
  rintro e w3 ⟨rfl, b⟩
  have B2 := Lib.hid (bthen BB.out b)
  clear BB b
  have BB := B2
  clear B2
  go_wp2_with fail
  refine (PI.newswireref03_Made.calls K3 A 12 (S Z) _ hk3).mono ?_
  rintro e w4 ⟨rfl, b⟩
  have B2 := Lib.hid (bthen BB.out b)
  clear BB b
  have BB := B2
  clear B2
  go_wp2_with fail
  refine (ref_fromInt h2.1 h2.2 _).mono ?_
  rintro e w5 ⟨rfl, b⟩
  have B2 := Lib.hid (bthen BB.out b)
  clear BB b
  have BB := B2
  clear B2
  clear hk1 hk2 hk3 eX eY eZ
  have FA := Lib.hid (show fit A by unfold fit; omega)
  have FB := Lib.hid (show fit B by unfold fit; omega)
  have FX := Lib.hid (S_fit (p10 hX (by omega)))
  have FY := Lib.hid (S_fit (p10 hY (by omega)))
  have FZ := Lib.hid (S_fit (p10 hZ (by omega)))
  have FN := Lib.hid (show fit (S a2) from S_fit (z := a2) (by have hn : a2.natAbs ≤ 9223372036854775808 := by omega
                                                               exact Nat.lt_of_le_of_lt hn (by decide)))
  clear hA1 hA2 hX hY hZ h0 h1
  go_wp2_with fail
  go_loopw [50] (fun s50 wr => ∃ i : Nat, i ≤ 3 ∧ s50 = .int .i64 (i : Int) ∧ Hid (Below w.heap.size w wr) ∧ Hid (Pairs wr w5.heap.size (pa A (S X) (S Z)) (pa B (S Y) (S a2)))) (fun s50 _ => match s50 with | .int _ i => (3 - i).toNat | _ => 0)
  case atStart =>
    refine ⟨0, by omega, rfl, Lib.hid (BB.out.alloc BB.out.size _), Lib.hid ⟨by simp, fun i hi => ?_⟩⟩
    have hh := World.alloc_heap_new w5 (.cells #[.string A, .string B, .string (S X), .string (S Y), .string (S Z), .string (S a2)] 37)
    generalize w5.alloc (.cells #[.string A, .string B, .string (S X), .string (S Y), .string (S Z), .string (S a2)] 37) = W at *
    have hc : i = 0 ∨ i = 1 ∨ i = 2 := by omega
    rcases hc with rfl | rfl | rfl
    all_goals
      unfold World.cell?
      simp only [hh]
      exact ⟨rfl, rfl⟩
  case round =>
    obtain ⟨i, hi, rfl, HB, HP⟩ := hrel
    by_cases h3 : i = 3
    · subst h3
      have hd : decide (((3 : Nat) : Int) < 3) = false := by decide
      go_wp2_with fail
      refine (integer_FromInt.calls a2 (S a2) _ (HT.out.on HB.out) (fromInt_S h2.1 h2.2)).mono ?_
      rintro e w6 ⟨rfl, b6⟩
      have B6 := Lib.hid (bthen HB.out b6)
      clear b6
      go_wp2_with fail
      refine (ref_fromInt h2.1 h2.2 _).mono ?_
      rintro e w7 ⟨rfl, b7⟩
      have B7 := Lib.hid (bthen B6.out b7)
      clear b7
      go_wp2_with fail
      go_ret
      exact ⟨by simp, B7.out⟩
    · have hlt : i < 3 := by omega
      have hd : decide ((i : Int) < 3) = true := decide_eq_true (by omega)
      have fa := pa_fit FA.out FX.out FZ.out i
      have fb := pa_fit FB.out FY.out FN.out i
      have hp0 := (HP.out.2 i hlt).1
      have hp1 := (HP.out.2 i hlt).2
      generalize pa A (S X) (S Z) i = a at fa hp0
      generalize pa B (S Y) (S a2) i = b at fb hp1
      obtain ⟨s1, e1, I1, R1⟩ := both_add fa fb
      obtain ⟨s2, e2, I2, R2⟩ := both_sub fa fb
      obtain ⟨s3, e3, I3, R3⟩ := both_mul fa fb
      obtain ⟨s4, t4, e4, I4, R4⟩ := both_div fa fb
      obtain ⟨s5, e5, I5, R5⟩ := both_gcd fa fb
      obtain ⟨s6, e6, I6, R6⟩ := both_root fa
      obtain ⟨n7, e7, I7, R7⟩ := both_toInt fa
      obtain ⟨n8, I8, R8⟩ := both_valid fa
      obtain ⟨n9, I9, R9⟩ := both_cmp fa fb
      replace I1 := Lib.hid I1
      replace I2 := Lib.hid I2
      replace I3 := Lib.hid I3
      replace I4 := Lib.hid I4
      replace I5 := Lib.hid I5
      replace I6 := Lib.hid I6
      replace I7 := Lib.hid I7
      replace I8 := Lib.hid I8
      replace I9 := Lib.hid I9
      replace R1 := Lib.hid R1
      replace R2 := Lib.hid R2
      replace R3 := Lib.hid R3
      replace R4 := Lib.hid R4
      replace R5 := Lib.hid R5
      replace R6 := Lib.hid R6
      replace R7 := Lib.hid R7
      replace R8 := Lib.hid R8
      replace R9 := Lib.hid R9
      have hq := HP.out.1
      clear fa fb
      go_wp2_with fail
      have HX := Lib.hid (Boxed2.new wr 37 (.string a) (.string b))
      have BB := Lib.hid (HB.out.alloc HB.out.size (.cells #[.string a, .string b] 37))
      have PP := Lib.hid (HP.out.later ((Below.refl _ wr).alloc (Nat.le_refl _) (.cells #[.string a, .string b] 37)))
      generalize wr.alloc (.cells #[.string a, .string b] 37) = W0 at *
      clear hp0 hp1 hq HB HP
      generalize wr.heap.size = xb at *
      refine (I1.out _ (HT.out.on BB.out)).mono ?_
      rintro e w' ⟨rfl, b⟩
      replace HX := Lib.hid (HX.out.below b HX.out.lt)
      replace BB := Lib.hid (bthen BB.out b)
      replace PP := Lib.hid (PP.out.later b)
      clear b
      have hx0 := HX.out.cell0
      have hx1 := HX.out.cell1
      go_wp2_with fail
      clear hx0 hx1
      refine (R1.out _).mono ?_
      rintro e w' ⟨rfl, b⟩
      replace HX := Lib.hid (HX.out.below b HX.out.lt)
      replace BB := Lib.hid (bthen BB.out b)
      replace PP := Lib.hid (PP.out.later b)
      clear b
      have hx0 := HX.out.cell0
      have hx1 := HX.out.cell1
      go_wp2_with fail
      clear hx0 hx1
      refine (I2.out _ (HT.out.on BB.out)).mono ?_
      rintro e w' ⟨rfl, b⟩
      replace HX := Lib.hid (HX.out.below b HX.out.lt)
      replace BB := Lib.hid (bthen BB.out b)
      replace PP := Lib.hid (PP.out.later b)
      clear b
      have hx0 := HX.out.cell0
      have hx1 := HX.out.cell1
      go_wp2_with fail
      clear hx0 hx1
      refine (R2.out _).mono ?_
      rintro e w' ⟨rfl, b⟩
      replace HX := Lib.hid (HX.out.below b HX.out.lt)
      replace BB := Lib.hid (bthen BB.out b)
      replace PP := Lib.hid (PP.out.later b)
      clear b
      have hx0 := HX.out.cell0
      have hx1 := HX.out.cell1
      go_wp2_with fail
      clear hx0 hx1
      refine (I3.out _ (HT.out.on BB.out)).mono ?_
      rintro e w' ⟨rfl, b⟩
      replace HX := Lib.hid (HX.out.below b HX.out.lt)
      replace BB := Lib.hid (bthen BB.out b)
      replace PP := Lib.hid (PP.out.later b)
      clear b
      have hx0 := HX.out.cell0
      have hx1 := HX.out.cell1
      go_wp2_with fail
      clear hx0 hx1
      refine (R3.out _).mono ?_
      rintro e w' ⟨rfl, b⟩
      replace HX := Lib.hid (HX.out.below b HX.out.lt)
      replace BB := Lib.hid (bthen BB.out b)
      replace PP := Lib.hid (PP.out.later b)
      clear b
      have hx0 := HX.out.cell0
      have hx1 := HX.out.cell1
      go_wp2_with fail
      clear hx0 hx1
      refine (I4.out _ (HT.out.on BB.out)).mono ?_
      rintro e w' ⟨rfl, b⟩
      replace HX := Lib.hid (HX.out.below b HX.out.lt)
      replace BB := Lib.hid (bthen BB.out b)
      replace PP := Lib.hid (PP.out.later b)
      clear b
      have hx0 := HX.out.cell0
      have hx1 := HX.out.cell1
      go_wp2_with fail
      clear hx0 hx1
      refine (R4.out _).mono ?_
      rintro e w' ⟨rfl, b⟩
      replace HX := Lib.hid (HX.out.below b HX.out.lt)
      replace BB := Lib.hid (bthen BB.out b)
      replace PP := Lib.hid (PP.out.later b)
      clear b
      have hx0 := HX.out.cell0
      have hx1 := HX.out.cell1
      go_wp2_with fail
      clear hx0 hx1
      refine (I5.out _ (HT.out.on BB.out)).mono ?_
      rintro e w' ⟨rfl, b⟩
      replace HX := Lib.hid (HX.out.below b HX.out.lt)
      replace BB := Lib.hid (bthen BB.out b)
      replace PP := Lib.hid (PP.out.later b)
      clear b
      have hx0 := HX.out.cell0
      have hx1 := HX.out.cell1
      go_wp2_with fail
      clear hx0 hx1
      refine (R5.out _).mono ?_
      rintro e w' ⟨rfl, b⟩
      replace HX := Lib.hid (HX.out.below b HX.out.lt)
      replace BB := Lib.hid (bthen BB.out b)
      replace PP := Lib.hid (PP.out.later b)
      clear b
      have hx0 := HX.out.cell0
      have hx1 := HX.out.cell1
      go_wp2_with fail
      clear hx0 hx1
      refine (I6.out _ (HT.out.on BB.out)).mono ?_
      rintro e w' ⟨rfl, b⟩
      replace HX := Lib.hid (HX.out.below b HX.out.lt)
      replace BB := Lib.hid (bthen BB.out b)
      replace PP := Lib.hid (PP.out.later b)
      clear b
      have hx0 := HX.out.cell0
      have hx1 := HX.out.cell1
      go_wp2_with fail
      clear hx0 hx1
      refine (R6.out _).mono ?_
      rintro e w' ⟨rfl, b⟩
      replace HX := Lib.hid (HX.out.below b HX.out.lt)
      replace BB := Lib.hid (bthen BB.out b)
      replace PP := Lib.hid (PP.out.later b)
      clear b
      have hx0 := HX.out.cell0
      have hx1 := HX.out.cell1
      go_wp2_with fail
      clear hx0 hx1
      refine (I7.out _ (HT.out.on BB.out)).mono ?_
      rintro e w' ⟨rfl, b⟩
      replace HX := Lib.hid (HX.out.below b HX.out.lt)
      replace BB := Lib.hid (bthen BB.out b)
      replace PP := Lib.hid (PP.out.later b)
      clear b
      have hx0 := HX.out.cell0
      have hx1 := HX.out.cell1
      go_wp2_with fail
      clear hx0 hx1
      refine (R7.out _).mono ?_
      rintro e w' ⟨rfl, b⟩
      replace HX := Lib.hid (HX.out.below b HX.out.lt)
      replace BB := Lib.hid (bthen BB.out b)
      replace PP := Lib.hid (PP.out.later b)
      clear b
      have hx0 := HX.out.cell0
      have hx1 := HX.out.cell1
      go_wp2_with fail
      go_region_held3 (fun w' => w'.cell? ⟨xb, 0, none⟩ = some (.string a) ∧ w'.cell? ⟨xb, 1, none⟩ = some (.string b))
        (first
          | exact ⟨hx0, hx1⟩
          | exact ⟨c80, c81⟩
          | exact ⟨d80, d81⟩
          | exact ⟨c90, c91⟩
          | exact ⟨d90, d91⟩
          | go_keep)
        (first
          | (go_at_call 19; refine (I8.out _ (by exact HT.out.on BB.out.drew)).mono ?_; rintro e w8 ⟨rfl, b8⟩; have X8 := Lib.hid (HX.out.below (below_of_drew b8) HX.out.lt); have c80 := X8.out.cell0; have c81 := X8.out.cell1; have B8 := Lib.hid (bthen BB.out (below_of_drew b8)); have P8 := Lib.hid (PP.out.later (below_of_drew b8)); clear b8)
          | (go_at_call 33; refine (R8.out _).mono ?_; rintro e w9 ⟨rfl, b9⟩; have X9 := Lib.hid (X8.out.below b9 X8.out.lt); have d80 := X9.out.cell0; have d81 := X9.out.cell1; have B9 := Lib.hid (bthen B8.out b9); have P9 := Lib.hid (P8.out.later b9); clear b9)
          | (go_at_call 18; refine (I9.out _ (by exact HT.out.on B9.out)).mono ?_; rintro e w10 ⟨rfl, b10⟩; have X10 := Lib.hid (X9.out.below b10 X9.out.lt); have c90 := X10.out.cell0; have c91 := X10.out.cell1; have B10 := Lib.hid (bthen B9.out b10); have P10 := Lib.hid (P9.out.later b10); clear b10)
          | (go_at_call 34; refine (R9.out _).mono ?_; rintro e w11 ⟨rfl, b11⟩; have X11 := Lib.hid (X10.out.below b11 X10.out.lt); have d90 := X11.out.cell0; have d91 := X11.out.cell1; have B11 := Lib.hid (bthen B10.out b11); have P11 := Lib.hid (P10.out.later b11); clear b11))
      clear c80 c81 d80 d81 c90 c91 d90 d91 hx0 hx1
      go_wp2
      go_roundw
      case rel => exact ⟨i + 1, by omega, by first | rfl | (simp; omega), B11, P11⟩
      case measure => simp; omega
end integerMatchesReference
end Go.Proofs.YthbiafjdilbbnaaGreatDoor
