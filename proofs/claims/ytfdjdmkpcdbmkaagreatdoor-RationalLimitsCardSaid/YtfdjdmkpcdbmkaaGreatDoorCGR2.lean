/-
  rational.go: check.
-/
import Derived.Test.YtfdjdmkpcdbmkaaGreatDoorCGR1
import Derived.Test.YtfdjdmkpcdbmkaaGreatDoorCG1
import Derived.Deep.RegionHeld3
set_option linter.unusedVariables false
set_option linter.unusedSimpArgs false
namespace Go.Proofs.YtfdjdmkpcdbmkaaGreatDoor
open Go.RowKit Go.Lib

/-- Fractions in a slice's memory. -/
def RowsR (w : World) (k m : Nat) (f g : Nat → ByteArray) : Prop := k < w.heap.size ∧ ∀ i : Nat, i < m → w.cell? ⟨k, i * 2, none⟩ = some (.string (f i)) ∧ w.cell? ⟨k, i * 2 + 1, none⟩ = some (.string (g i))
theorem RowsR.but {w w' : World} {k m p : Nat} {f g : Nat → ByteArray} (h : RowsR w k m f g) (hb : But p w w') (hk : k ≠ p) : RowsR w' k m f g :=
  ⟨Nat.lt_of_lt_of_le h.1 hb.size, fun i hi => ⟨(World.cell?_of_block (hb.block k h.1 hk)).trans (h.2 i hi).1, (World.cell?_of_block (hb.block k h.1 hk)).trans (h.2 i hi).2⟩⟩
/-- Whether one of the first fractions is not valid. -/
def badTo (bad : Bool) (f g : Nat → ByteArray) : Nat → Bool
  | 0 => bad
  | i + 1 => badTo bad f g i || !vR (bl (f i)) (bl (g i))
set_option maxRecDepth 100000 in
set_option maxHeartbeats 1000000 in
theorem check_any (p k m : Nat) (bad : Bool) (f g : Nat → ByteArray) (hf : ∀ i, fit (f i)) (hg : ∀ i, fit (g i)) (hm : m ≤ 1000) (w : World) (hp : ∀ W, But p w W → Laid W) (hw : Wk w p bad) (hr : RowsR w k m f g) (hk : k ≠ p) :
    Calls Tryz.prog 59 #[.pointer (some ⟨p, 0, none⟩), .slice (some ⟨k, 0, none⟩) m m] w fun e w' =>
      e = .returned (.tuple #[]) ∧ Wk w' p (badTo bad f g m) ∧ But p w w' := by
  have HC := Lib.hid (fun n d hn hd w hT => validR_any n d hn hd w hT)
  have HT := Lib.hid hp
  have HW := Lib.hid hw
  have HR := Lib.hid hr
  have HF := Lib.hid hf
  have HG := Lib.hid hg
  clear hp hw hr hf hg
  go_enter Tryz.func59, Tryz.ntmps59
  go_wp2_with fail
  go_loopw [8] (fun s8 wr => ∃ i : Nat, i ≤ m ∧ s8 = .int .i64 (i : Int) ∧ Hid (But p w wr) ∧ Hid (Wk wr p (badTo bad f g i)) ∧ Hid (RowsR wr k m f g)) (fun s8 _ => match s8 with | .int _ i => ((m : Int) - i).toNat | _ => 0)
  case atStart => exact ⟨0, by omega, rfl, Lib.hid (But.refl _ _), HW, HR⟩
  case round =>
    obtain ⟨i, hi, rfl, BB, HI, HR2⟩ := hrel
    by_cases h3 : i = m
    · subst h3
      have hd : decide ((i : Int) < (i : Int)) = false := decide_eq_false (by omega)
      go_wp2_with fail
      exact bodyPost_end (results_none rfl _ _ _) rfl ⟨rfl, HI.out, BB.out⟩
    · have hlt : i < m := by omega
      have hd : decide ((i : Int) < (m : Int)) = true := decide_eq_true (by omega)
      have hp0 := (HR2.out.2 i hlt).1
      have hp1 := (HR2.out.2 i hlt).2
      have hc := HI.out.cell
      have hcf := HI.out.frozen
      have hpl := HI.out.lt
      cases hb : badTo bad f g i with
      | true =>
        have HB := Lib.hid hb
        rw [hb] at hc
        clear hb
        go_wp2_with fail
        have HB1 : badTo bad f g (i + 1) = true := by show (badTo bad f g i || _) = true; rw [HB.out, Bool.true_or]
        have W1 := (HI.out.set true)
        have N1 := (But.set p wr 0 (.bool true)).alloc' (.cells #[.string (f i), .string (g i)] 23)
        exact ⟨⟨i + 1, by omega, by simp, Lib.hid (BB.out.trans N1), Lib.hid (by rw [HB1]; exact W1.below ((Below.refl _ _).alloc (Nat.le_refl _) _)), Lib.hid (HR2.out.but N1 hk)⟩, by simp; omega⟩
      | false =>
        have HB := Lib.hid hb
        rw [hb] at hc
        clear hb
        go_wp2_with fail
        have N0 := But.of_below (p := p) ((Below.refl wr.heap.size wr).alloc (Nat.le_refl _) (.cells #[.string (f i), .string (g i)] 23))
        have W0 := HI.out.below ((Below.refl wr.heap.size wr).alloc (Nat.le_refl _) (.cells #[.string (f i), .string (g i)] 23))
        have B0 := Lib.hid (BB.out.trans N0)
        have R0 := Lib.hid (HR2.out.but N0 hk)
        generalize wr.alloc (.cells #[.string (f i), .string (g i)] 23) = WA at *
        clear N0 hc hcf hpl hp0 hp1
        refine (HC.out (f i) (g i) (HF.out i) (HG.out i) _ (HT.out _ B0.out)).mono ?_
        rintro e w2 ⟨rfl, b⟩
        have W2 := Lib.hid (W0.below b)
        have B2 := Lib.hid (B0.out.trans (But.of_below (p := p) b))
        have R2 := Lib.hid (R0.out.but (But.of_below (p := p) b) hk)
        clear b W0
        have hc := W2.out.cell
        have hcf := W2.out.frozen
        have hpl := W2.out.lt
        have HS := Lib.hid (show badTo bad f g (i + 1) = !vR (bl (f i)) (bl (g i)) by show (badTo bad f g i || _) = _; rw [HB.out, Bool.false_or])
        generalize vR (bl (f i)) (bl (g i)) = v at *
        go_wp2_with fail
        have W1 := (W2.out.set (!v))
        have N1 := But.set p w2 0 (.bool (!v))
        exact ⟨⟨i + 1, by omega, by simp, Lib.hid (B2.out.trans N1), Lib.hid (by rw [HS.out]; exact W1), Lib.hid (R2.out.but N1 hk)⟩, by simp; omega⟩
end Go.Proofs.YtfdjdmkpcdbmkaaGreatDoor

/-
  rational.go: Mul, Div, sum.
-/
namespace Go.Proofs.YtfdjdmkpcdbmkaaGreatDoor
open Go.RowKit Go.Lib

/-- The frame of an operation on two fractions: its arguments' boxes, its result's, the calculation's, the slice of both. -/
structure Fr (w W : World) (a0 a1 b0 b1 : ByteArray) : Prop where
  below : Below w.heap.size w W
  ra : Rt W w.heap.size a0 a1
  rb : Rt W (w.heap.size + 1) b0 b1
  rr : Rt W (w.heap.size + 1 + 1) ⟨#[]⟩ ⟨#[]⟩
  wk : Wk W (w.heap.size + 1 + 1 + 1) false
  rows : RowsR W (w.heap.size + 1 + 1 + 1 + 1) 2 (fun i => if i = 0 then a0 else b0) (fun i => if i = 0 then a1 else b1)
theorem Fr.new (w : World) (a0 a1 b0 b1 : ByteArray) : Fr w (((((w.alloc (.cells #[.string a0, .string a1] 23)).alloc (.cells #[.string b0, .string b1] 23)).alloc (.cells #[.string ⟨#[]⟩, .string ⟨#[]⟩] 23)).alloc (.cells #[.bool false] 78)).alloc (.cells #[.string a0, .string a1, .string b0, .string b1] 23)) a0 a1 b0 b1 := by
  have al := fun (W : World) (o : Obj) => (Below.refl W.heap.size W).alloc (Nat.le_refl _) o
  have r1 := Rt.new w a0 a1
  have b1' := al w (.cells #[.string a0, .string a1] 23)
  have s1 : (w.alloc (.cells #[.string a0, .string a1] 23)).heap.size = w.heap.size + 1 := by simp
  generalize w.alloc (.cells #[.string a0, .string a1] 23) = W1 at *
  have r2 := Rt.new W1 b0 b1
  have b2' := al W1 (.cells #[.string b0, .string b1] 23)
  have s2 : (W1.alloc (.cells #[.string b0, .string b1] 23)).heap.size = W1.heap.size + 1 := by simp
  generalize W1.alloc (.cells #[.string b0, .string b1] 23) = W2 at *
  have r3 := Rt.new W2 ⟨#[]⟩ ⟨#[]⟩
  have b3' := al W2 (.cells #[.string ⟨#[]⟩, .string ⟨#[]⟩] 23)
  have s3 : (W2.alloc (.cells #[.string ⟨#[]⟩, .string ⟨#[]⟩] 23)).heap.size = W2.heap.size + 1 := by simp
  generalize W2.alloc (.cells #[.string ⟨#[]⟩, .string ⟨#[]⟩] 23) = W3 at *
  have r4 := Wk.new W3 false
  have b4' := al W3 (.cells #[.bool false] 78)
  have s4 : (W3.alloc (.cells #[.bool false] 78)).heap.size = W3.heap.size + 1 := by simp
  generalize W3.alloc (.cells #[.bool false] 78) = W4 at *
  have h5 := World.alloc_heap_new W4 (.cells #[.string a0, .string a1, .string b0, .string b1] 23)
  have b5' := al W4 (.cells #[.string a0, .string a1, .string b0, .string b1] 23)
  have s5 : (W4.alloc (.cells #[.string a0, .string a1, .string b0, .string b1] 23)).heap.size = W4.heap.size + 1 := by simp
  generalize W4.alloc (.cells #[.string a0, .string a1, .string b0, .string b1] 23) = W5 at *
  rw [s1] at r2
  rw [s2, s1] at r3
  rw [s3, s2, s1] at r4
  rw [s4, s3, s2, s1] at h5
  refine ⟨bthen' (bthen' (bthen' (bthen' b1' b2') b3') b4') b5', (((r1.below b2').below b3').below b4').below b5', ((r2.below b3').below b4').below b5', (r3.below b4').below b5', r4.below b5', by omega, fun i hi => ?_⟩
  have hc : i = 0 ∨ i = 1 := by omega
  rcases hc with rfl | rfl
  all_goals
    unfold World.cell?
    simp only [h5]
    exact ⟨rfl, rfl⟩

/-- Whether one of two fractions is not valid. -/
def bad2 (a0 a1 b0 b1 : List UInt8) : Bool := !vR a0 a1 || !vR b0 b1
def mulRT (a0 a1 b0 b1 : List UInt8) : List UInt8 × List UInt8 × Int :=
  redS (doS mulS (doS mulS (bad2 a0 a1 b0 b1) a0 b0).2 a1 b1).2 (doS mulS (bad2 a0 a1 b0 b1) a0 b0).1 (doS mulS (doS mulS (bad2 a0 a1 b0 b1) a0 b0).2 a1 b1).1
set_option maxRecDepth 100000 in
set_option maxHeartbeats 1000000 in
theorem mulR_any (a0 a1 b0 b1 : ByteArray) (ha0 : fit a0) (ha1 : fit a1) (hb0 : fit b0) (hb1 : fit b1) (w : World) (hT : Laid w) :
    Calls Tryz.prog 25 #[.agg #[.string a0, .string a1], .agg #[.string b0, .string b1]] w fun e w' =>
      e = .returned (.tuple #[.agg #[.string (lb (mulRT (bl a0) (bl a1) (bl b0) (bl b1)).1), .string (lb (mulRT (bl a0) (bl a1) (bl b0) (bl b1)).2.1)], .int .i64 (mulRT (bl a0) (bl a1) (bl b0) (bl b1)).2.2]) ∧ Below w.heap.size w w' := by
  have C0 := Lib.hid (fun p k W hp hw hr hk => check_any p k 2 false (fun i => if i = 0 then a0 else b0) (fun i => if i = 0 then a1 else b1) (by intro i; split <;> assumption) (by intro i; split <;> assumption) (by omega) W hp hw hr hk)
  have HT := Lib.hid hT
  obtain ⟨r1, r2, r3, hr⟩ : ∃ r1 r2 r3, mulRT (bl a0) (bl a1) (bl b0) (bl b1) = (r1, r2, r3) := ⟨_, _, _, rfl⟩
  rw [hr]
  have HRR := Lib.hid hr
  clear hr
  go_enter Tryz.func25, Tryz.ntmps25
  go_wp2_with fail
  have F := Fr.new w a0 a1 b0 b1
  generalize ((((w.alloc (.cells #[.string a0, .string a1] 23)).alloc (.cells #[.string b0, .string b1] 23)).alloc (.cells #[.string ⟨#[]⟩, .string ⟨#[]⟩] 23)).alloc (.cells #[.bool false] 78)).alloc (.cells #[.string a0, .string a1, .string b0, .string b1] 23) = W5 at *
  refine (C0.out _ _ _ (fun W hb => But.laid HT.out F.below hb (by omega)) F.wk F.rows (by omega)).mono ?_
  rintro e w1 ⟨rfl, hw, hb⟩
  have c0 := (F.ra.but hb (by omega)).cell0
  have c1 := (F.ra.but hb (by omega)).cell1
  have c2 := (F.rb.but hb (by omega)).cell0
  have c3 := (F.rb.but hb (by omega)).cell1
  have HW := Lib.hid hw
  have BB := Lib.hid hb
  have FF := Lib.hid F
  clear hw hb F hT
  have hbad : badTo false (fun i => if i = 0 then a0 else b0) (fun i => if i = 0 then a1 else b1) 2 = bad2 (bl a0) (bl a1) (bl b0) (bl b1) := by
    unfold bad2; show ((false || _) || _) = _; rw [Bool.false_or]; rfl
  rw [hbad] at HW
  clear hbad
  go_wp2_with fail
  refine (mul_rat _ _ a0 b0 ha0 hb0 _ (But.laid HT.out FF.out.below BB.out (by omega)) HW.out).mono ?_
  rintro e w2 ⟨rfl, hw, hb⟩
  replace HW := Lib.hid hw
  replace BB := Lib.hid (BB.out.trans hb)
  clear c0 c1 c2 c3 hw hb
  have c0 := (FF.out.ra.but BB.out (by omega)).cell0
  have c1 := (FF.out.ra.but BB.out (by omega)).cell1
  have c2 := (FF.out.rb.but BB.out (by omega)).cell0
  have c3 := (FF.out.rb.but BB.out (by omega)).cell1
  go_wp2_with fail
  refine (mul_rat _ _ a1 b1 ha1 hb1 _ (But.laid HT.out FF.out.below BB.out (by omega)) HW.out).mono ?_
  rintro e w3 ⟨rfl, hw, hb⟩
  replace HW := Lib.hid hw
  replace BB := Lib.hid (BB.out.trans hb)
  clear c0 c1 c2 c3 hw hb
  go_wp2_with fail
  have hR := reduced_any (w.heap.size + 1 + 1 + 1) (doS mulS (doS mulS (bad2 (bl a0) (bl a1) (bl b0) (bl b1)) (bl a0) (bl b0)).2 (bl a1) (bl b1)).2 (lb (doS mulS (bad2 (bl a0) (bl a1) (bl b0) (bl b1)) (bl a0) (bl b0)).1) (lb (doS mulS (doS mulS (bad2 (bl a0) (bl a1) (bl b0) (bl b1)) (bl a0) (bl b0)).2 (bl a1) (bl b1)).1) (fit_do mul_len _ _ _) (fit_do mul_len _ _ _) w3 (fun W hb => But.laid HT.out FF.out.below (BB.out.trans hb) (by omega)) HW.out
  rw [bl_lb, bl_lb, show redS _ _ _ = (r1, r2, r3) from HRR.out] at hR
  refine hR.mono ?_
  rintro e w4 ⟨rfl, hb⟩
  replace BB := Lib.hid (BB.out.trans hb)
  clear hb hR
  have RR := Lib.hid (FF.out.rr.but BB.out (by omega))
  have q0 := RR.out.cell0
  have q1 := RR.out.cell1
  have qf0 := RR.out.frozen 0
  have qf1 := RR.out.frozen 1
  have ql := RR.out.lt
  go_wp2_with fail
  have RE := (RR.out.set0 (lb r1)).set1 (lb r2)
  have BE := ((FF.out.below.trans (BB.out.below FF.out.below.size (by omega))).setCell (p := ⟨w.heap.size + 1 + 1, 0, none⟩) (by show w.heap.size ≤ w.heap.size + 1 + 1; omega) (.string (lb r1))).setCell (p := ⟨w.heap.size + 1 + 1, 1, none⟩) (by show w.heap.size ≤ w.heap.size + 1 + 1; omega) (.string (lb r2))
  have z0 := RE.cell0
  have z1 := RE.cell1
  clear RE q0 q1
  generalize ((w4.setCell ⟨w.heap.size + 1 + 1, 0, none⟩ (.string (lb r1))).setCell ⟨w.heap.size + 1 + 1, 1, none⟩ (.string (lb r2))) = WE at *
  exact bodyPost_ret (v := .tuple #[.agg #[.string (lb r1), .string (lb r2)], .int .i64 r3]) (by simp [results, Tryz.results25, go_sem, z0, z1]) rfl ⟨rfl, BE⟩
def divRT (a0 a1 b0 b1 : List UInt8) : List UInt8 × List UInt8 × Int :=
  redS (doS mulS (doS mulS (bad2 a0 a1 b0 b1) a0 b1).2 a1 b0).2 (doS mulS (bad2 a0 a1 b0 b1) a0 b1).1 (doS mulS (doS mulS (bad2 a0 a1 b0 b1) a0 b1).2 a1 b0).1
set_option maxRecDepth 100000 in
set_option maxHeartbeats 1000000 in
theorem divR_any (a0 a1 b0 b1 : ByteArray) (ha0 : fit a0) (ha1 : fit a1) (hb0 : fit b0) (hb1 : fit b1) (w : World) (hT : Laid w) :
    Calls Tryz.prog 26 #[.agg #[.string a0, .string a1], .agg #[.string b0, .string b1]] w fun e w' =>
      e = .returned (.tuple #[.agg #[.string (lb (divRT (bl a0) (bl a1) (bl b0) (bl b1)).1), .string (lb (divRT (bl a0) (bl a1) (bl b0) (bl b1)).2.1)], .int .i64 (divRT (bl a0) (bl a1) (bl b0) (bl b1)).2.2]) ∧ Below w.heap.size w w' := by
  have C0 := Lib.hid (fun p k W hp hw hr hk => check_any p k 2 false (fun i => if i = 0 then a0 else b0) (fun i => if i = 0 then a1 else b1) (by intro i; split <;> assumption) (by intro i; split <;> assumption) (by omega) W hp hw hr hk)
  have HT := Lib.hid hT
  obtain ⟨r1, r2, r3, hr⟩ : ∃ r1 r2 r3, divRT (bl a0) (bl a1) (bl b0) (bl b1) = (r1, r2, r3) := ⟨_, _, _, rfl⟩
  rw [hr]
  have HRR := Lib.hid hr
  clear hr
  go_enter Tryz.func26, Tryz.ntmps26
  go_wp2_with fail
  have F := Fr.new w a0 a1 b0 b1
  generalize ((((w.alloc (.cells #[.string a0, .string a1] 23)).alloc (.cells #[.string b0, .string b1] 23)).alloc (.cells #[.string ⟨#[]⟩, .string ⟨#[]⟩] 23)).alloc (.cells #[.bool false] 78)).alloc (.cells #[.string a0, .string a1, .string b0, .string b1] 23) = W5 at *
  refine (C0.out _ _ _ (fun W hb => But.laid HT.out F.below hb (by omega)) F.wk F.rows (by omega)).mono ?_
  rintro e w1 ⟨rfl, hw, hb⟩
  have c0 := (F.ra.but hb (by omega)).cell0
  have c1 := (F.ra.but hb (by omega)).cell1
  have c2 := (F.rb.but hb (by omega)).cell0
  have c3 := (F.rb.but hb (by omega)).cell1
  have HW := Lib.hid hw
  have BB := Lib.hid hb
  have FF := Lib.hid F
  clear hw hb F hT
  have hbad : badTo false (fun i => if i = 0 then a0 else b0) (fun i => if i = 0 then a1 else b1) 2 = bad2 (bl a0) (bl a1) (bl b0) (bl b1) := by
    unfold bad2; show ((false || _) || _) = _; rw [Bool.false_or]; rfl
  rw [hbad] at HW
  clear hbad
  go_wp2_with fail
  refine (mul_rat _ _ a0 b1 ha0 hb1 _ (But.laid HT.out FF.out.below BB.out (by omega)) HW.out).mono ?_
  rintro e w2 ⟨rfl, hw, hb⟩
  replace HW := Lib.hid hw
  replace BB := Lib.hid (BB.out.trans hb)
  clear c0 c1 c2 c3 hw hb
  have c0 := (FF.out.ra.but BB.out (by omega)).cell0
  have c1 := (FF.out.ra.but BB.out (by omega)).cell1
  have c2 := (FF.out.rb.but BB.out (by omega)).cell0
  have c3 := (FF.out.rb.but BB.out (by omega)).cell1
  go_wp2_with fail
  refine (mul_rat _ _ a1 b0 ha1 hb0 _ (But.laid HT.out FF.out.below BB.out (by omega)) HW.out).mono ?_
  rintro e w3 ⟨rfl, hw, hb⟩
  replace HW := Lib.hid hw
  replace BB := Lib.hid (BB.out.trans hb)
  clear c0 c1 c2 c3 hw hb
  go_wp2_with fail
  have hR := reduced_any (w.heap.size + 1 + 1 + 1) (doS mulS (doS mulS (bad2 (bl a0) (bl a1) (bl b0) (bl b1)) (bl a0) (bl b1)).2 (bl a1) (bl b0)).2 (lb (doS mulS (bad2 (bl a0) (bl a1) (bl b0) (bl b1)) (bl a0) (bl b1)).1) (lb (doS mulS (doS mulS (bad2 (bl a0) (bl a1) (bl b0) (bl b1)) (bl a0) (bl b1)).2 (bl a1) (bl b0)).1) (fit_do mul_len _ _ _) (fit_do mul_len _ _ _) w3 (fun W hb => But.laid HT.out FF.out.below (BB.out.trans hb) (by omega)) HW.out
  rw [bl_lb, bl_lb, show redS _ _ _ = (r1, r2, r3) from HRR.out] at hR
  refine hR.mono ?_
  rintro e w4 ⟨rfl, hb⟩
  replace BB := Lib.hid (BB.out.trans hb)
  clear hb hR
  have RR := Lib.hid (FF.out.rr.but BB.out (by omega))
  have q0 := RR.out.cell0
  have q1 := RR.out.cell1
  have qf0 := RR.out.frozen 0
  have qf1 := RR.out.frozen 1
  have ql := RR.out.lt
  go_wp2_with fail
  have RE := (RR.out.set0 (lb r1)).set1 (lb r2)
  have BE := ((FF.out.below.trans (BB.out.below FF.out.below.size (by omega))).setCell (p := ⟨w.heap.size + 1 + 1, 0, none⟩) (by show w.heap.size ≤ w.heap.size + 1 + 1; omega) (.string (lb r1))).setCell (p := ⟨w.heap.size + 1 + 1, 1, none⟩) (by show w.heap.size ≤ w.heap.size + 1 + 1; omega) (.string (lb r2))
  have z0 := RE.cell0
  have z1 := RE.cell1
  clear RE q0 q1
  generalize ((w4.setCell ⟨w.heap.size + 1 + 1, 0, none⟩ (.string (lb r1))).setCell ⟨w.heap.size + 1 + 1, 1, none⟩ (.string (lb r2))) = WE at *
  exact bodyPost_ret (v := .tuple #[.agg #[.string (lb r1), .string (lb r2)], .int .i64 r3]) (by simp [results, Tryz.results26, go_sem, z0, z1]) rfl ⟨rfl, BE⟩
end Go.Proofs.YtfdjdmkpcdbmkaaGreatDoor

/-
  Fractions in lowest terms are Lean's rational numbers: what package rational promises, said of them. No program in this text.
-/
namespace Go.Proofs.YtfdjdmkpcdbmkaaGreatDoor

/-- A rational number as texts. -/
def rt (q : Rat) : Txt := (str q.num, str (q.den : Int))
/-- It is in the bounds of package integer. -/
def okR (q : Rat) : Prop := q.num.natAbs < lim ∧ q.den < lim
theorem denI_pos (q : Rat) : (0 : Int) < (q.den : Int) := by have := q.den_pos; omega
theorem low_rat (q : Rat) : Low (q.num, (q.den : Int)) := by
  refine ⟨denI_pos q, ?_⟩
  have h := q.reduced
  unfold Nat.Coprime at h
  show Int.gcd q.num (q.den : Int) = 1
  unfold Int.gcd
  rw [Int.natAbs_natCast]
  exact h
theorem rt_eq (q : Rat) : rt q = txt (q.num, (q.den : Int)) := rfl
theorem rt_inj {a b : Rat} (h : rt a = rt b) : a = b := by
  have h1 := txt_inj (a := (a.num, (a.den : Int))) (b := (b.num, (b.den : Int))) h
  have e1 := congrArg Prod.fst h1
  have e2 := congrArg Prod.snd h1
  dsimp only at e1 e2
  exact Rat.ext e1 (by omega)
theorem numZ_rt (q : Rat) : numZ (rt q) = q.num := toZ_str q.num
theorem denZ_rt (q : Rat) : denZ (rt q) = (q.den : Int) := toZ_str (q.den : Int)
theorem ratValid_rt {q : Rat} (h : okR q) : ratValid (rt q) = true := by
  have h2 : ((q.den : Int)).natAbs < lim := by rw [Int.natAbs_natCast]; exact h.2
  rw [rt_eq]
  exact ratValid_txt (r := (q.num, (q.den : Int))) (low_rat q) h.1 h2
/-- Valid texts are those of a rational number. -/
theorem rat_of {r : Txt} (h : ratValid r = true) : ∃ q : Rat, r = rt q ∧ okR q := by
  obtain ⟨p, rfl, hl, h1, h2⟩ := of_ratValid h
  obtain ⟨n, d⟩ := p
  have hd : (0 : Int) < d := hl.1
  have hg : Int.gcd n d = 1 := hl.2
  refine ⟨⟨n, d.natAbs, by omega, hg⟩, ?_, h1, h2⟩
  show (str n, str d) = (str n, str ((d.natAbs : Nat) : Int))
  rw [show ((d.natAbs : Nat) : Int) = d by omega]
/-- Reducing two integers. -/
theorem red_rat {n d : Int} (hd : d ≠ 0) : red n d = ((Rat.divInt n d).num, ((Rat.divInt n d).den : Int)) := by
  have hc := cross_red n d
  have hl := low_red (n := n) hd
  have hq := low_rat (Rat.divInt n d)
  have he : (Rat.divInt n d).num * d = n * ((Rat.divInt n d).den : Int) := by
    have h := Rat.num_divInt_den (Rat.divInt n d)
    exact (Rat.divInt_eq_divInt_iff (by have := denI_pos (Rat.divInt n d); omega) hd).1 h
  generalize (Rat.divInt n d).num = a at *
  generalize ((Rat.divInt n d).den : Int) = b at *
  cases hr : red n d with
  | mk x y =>
    rw [hr] at hc hl
    dsimp only at hc
    refine low_unique hl hq ?_
    apply Int.eq_of_mul_eq_mul_right hd
    calc x * b * d = (x * d) * b := by grind
      _ = (n * y) * b := by rw [hc]
      _ = (n * b) * y := by grind
      _ = (a * d) * y := by rw [he]
      _ = a * y * d := by grind
theorem red_txt {n d : Int} (hd : d ≠ 0) : txt (red n d) = rt (Rat.divInt n d) := by rw [red_rat hd]; rfl
theorem okR_divInt {n d : Int} (hn : n.natAbs < lim) (hd : d.natAbs < lim) (h0 : d ≠ 0) : okR (Rat.divInt n d) := by
  have h := red_lt hn hd h0
  rw [red_rat h0] at h
  refine ⟨h.1, ?_⟩
  have := h.2
  dsimp only at this
  rwa [Int.natAbs_natCast] at this
theorem fits_iff {z : Int} : fits z = true ↔ z.natAbs < lim := by unfold fits; rw [decide_eq_true_eq]

/-! ### The operations -/
theorem add_divInt (a b : Rat) : Rat.divInt (a.num * b.den + b.num * a.den) (a.den * b.den : Int) = a + b := by
  have ha := denI_pos a
  have hb := denI_pos b
  rw [← Rat.divInt_add_divInt _ _ (by omega) (by omega), Rat.num_divInt_den, Rat.num_divInt_den]
theorem sub_divInt (a b : Rat) : Rat.divInt (a.num * b.den - b.num * a.den) (a.den * b.den : Int) = a - b := by
  have ha := denI_pos a
  have hb := denI_pos b
  rw [← Rat.divInt_sub_divInt _ _ (by omega) (by omega), Rat.num_divInt_den, Rat.num_divInt_den]
theorem mul_divInt (a b : Rat) : Rat.divInt (a.num * b.num) (a.den * b.den : Int) = a * b := by
  rw [← Rat.divInt_mul_divInt, Rat.num_divInt_den, Rat.num_divInt_den]
theorem div_divInt (a b : Rat) : Rat.divInt (a.num * b.den) (a.den * b.num) = a / b := by
  rw [Rat.div_def, Rat.inv_def, ← Rat.divInt_mul_divInt, Rat.num_divInt_den]
theorem den_mul_ne (a b : Rat) : ((a.den : Int) * (b.den : Int)) ≠ 0 := Int.mul_ne_zero (by have := denI_pos a; omega) (by have := denI_pos b; omega)
theorem num_ne {b : Rat} (h : b ≠ 0) : b.num ≠ 0 := fun h0 => h (Rat.num_eq_zero.1 h0)

/-- What fits: the products of the definition. -/
def addFit (a b : Rat) : Bool := fits (a.num * b.den) && fits (b.num * a.den) && fits (a.num * b.den + b.num * a.den) && fits ((a.den : Int) * b.den)
def subFit (a b : Rat) : Bool := fits (a.num * b.den) && fits (b.num * a.den) && fits (a.num * b.den - b.num * a.den) && fits ((a.den : Int) * b.den)
def mulFit (a b : Rat) : Bool := fits (a.num * b.num) && fits ((a.den : Int) * b.den)
def divFit (a b : Rat) : Bool := fits (a.num * b.den) && fits ((a.den : Int) * b.num) && decide (b ≠ 0)
def outQ (ok : Bool) (q : Rat) : Txt × Int := if ok then (rt q, 0) else (none2, errRational)
theorem reduceS_out {ok : Bool} {n d : Int} (hd : d ≠ 0) : reduceS ok n d = outQ ok (Rat.divInt n d) := by
  unfold reduceS outQ
  rw [red_txt hd]
  simp [hd]
theorem addQ_rt {a b : Rat} (ha : okR a) (hb : okR b) : addQ (rt a) (rt b) = outQ (addFit a b) (a + b) := by
  unfold addQ
  simp only [numZ_rt, denZ_rt, ratValid_rt ha, ratValid_rt hb, Bool.true_and]
  rw [reduceS_out (den_mul_ne a b), add_divInt]; rfl
theorem subQ_rt {a b : Rat} (ha : okR a) (hb : okR b) : subQ (rt a) (rt b) = outQ (subFit a b) (a - b) := by
  unfold subQ
  simp only [numZ_rt, denZ_rt, ratValid_rt ha, ratValid_rt hb, Bool.true_and]
  rw [reduceS_out (den_mul_ne a b), sub_divInt]; rfl
theorem mulQ_rt {a b : Rat} (ha : okR a) (hb : okR b) : mulQ (rt a) (rt b) = outQ (mulFit a b) (a * b) := by
  unfold mulQ
  simp only [numZ_rt, denZ_rt, ratValid_rt ha, ratValid_rt hb, Bool.true_and]
  rw [reduceS_out (den_mul_ne a b), mul_divInt]; rfl
theorem divQ_rt {a b : Rat} (ha : okR a) (hb : okR b) : divQ (rt a) (rt b) = outQ (divFit a b) (a / b) := by
  unfold divQ divFit
  simp only [numZ_rt, denZ_rt, ratValid_rt ha, ratValid_rt hb, Bool.true_and]
  by_cases h0 : b = 0
  · subst h0
    simp [reduceS, outQ]
  · have hn : (a.den : Int) * b.num ≠ 0 := Int.mul_ne_zero (by have := denI_pos a; omega) (num_ne h0)
    rw [reduceS_out hn, div_divInt]
    simp [h0]
theorem okR_add {a b : Rat} (h : addFit a b = true) : okR (a + b) := by
  unfold addFit at h
  simp only [Bool.and_eq_true, fits_iff] at h
  rw [← add_divInt]
  exact okR_divInt h.1.2 h.2 (den_mul_ne a b)
theorem okR_sub {a b : Rat} (h : subFit a b = true) : okR (a - b) := by
  unfold subFit at h
  simp only [Bool.and_eq_true, fits_iff] at h
  rw [← sub_divInt]
  exact okR_divInt h.1.2 h.2 (den_mul_ne a b)
theorem okR_mul {a b : Rat} (h : mulFit a b = true) : okR (a * b) := by
  unfold mulFit at h
  simp only [Bool.and_eq_true, fits_iff] at h
  rw [← mul_divInt]
  exact okR_divInt h.1 h.2 (den_mul_ne a b)
theorem okR_div {a b : Rat} (h : divFit a b = true) : okR (a / b) := by
  unfold divFit at h
  simp only [Bool.and_eq_true, fits_iff, decide_eq_true_eq] at h
  rw [← div_divInt]
  exact okR_divInt h.1.1 h.1.2 (Int.mul_ne_zero (by have := denI_pos a; omega) (num_ne h.2))
/-- The order. -/
def cmpR (a b : Rat) : Int := if a < b then -1 else if b < a then 1 else 0
theorem cmpQ_rt {a b : Rat} (ha : okR a) (hb : okR b) : cmpQ (rt a) (rt b) = cmpR a b := by
  unfold cmpQ cmpR cmpZ
  rw [ratValid_rt ha, ratValid_rt hb, numZ_rt, denZ_rt, numZ_rt, denZ_rt]
  simp only [Rat.lt_iff, Bool.and_self, if_true]
theorem cmpR_lt {a b : Rat} (h : a < b) : cmpR a b = -1 := by unfold cmpR; rw [if_pos h]
theorem cmpR_gt {a b : Rat} (h : b < a) : cmpR a b = 1 := by unfold cmpR; rw [if_neg (by grind), if_pos h]
theorem cmpR_eq {a b : Rat} (h : a = b) : cmpR a b = 0 := by unfold cmpR; rw [if_neg (by grind), if_neg (by grind)]
theorem cmpR_cases (a b : Rat) : (a < b ∧ cmpR a b = -1) ∨ (a = b ∧ cmpR a b = 0) ∨ (b < a ∧ cmpR a b = 1) := by
  by_cases h1 : a < b
  · exact .inl ⟨h1, cmpR_lt h1⟩
  · by_cases h2 : b < a
    · exact .inr (.inr ⟨h2, cmpR_gt h2⟩)
    · have h3 : a = b := by grind
      exact .inr (.inl ⟨h3, cmpR_eq h3⟩)
/-- The grid. -/
def ten (p : Int) : Int := 10 ^ p.toNat
theorem ten_pos (p : Int) : 0 < ten p := Int.pow_pos (by omega)
def gridFit (q : Rat) (p : Int) : Bool := decide (0 ≤ p) && decide (p ≤ 30) && fits (q.num * ten p)
def downR (q : Rat) (p : Int) : Rat := Rat.divInt (q.num * ten p / q.den) (ten p)
def upR (q : Rat) (p : Int) : Rat := Rat.divInt (if q.num * ten p % q.den = 0 then q.num * ten p / q.den else q.num * ten p / q.den + 1) (ten p)
theorem downQ_rt {q : Rat} (h : okR q) (p : Int) : downQ (rt q) p = outQ (gridFit q p) (downR q p) := by
  unfold downQ gridFit downR
  simp only [numZ_rt, denZ_rt, ratValid_rt h, Bool.and_true]
  rw [reduceS_out (by have := ten_pos p; unfold ten at this; omega)]; rfl
theorem upQ_rt {q : Rat} (h : okR q) (p : Int) : upQ (rt q) p = outQ (gridFit q p) (upR q p) := by
  unfold upQ gridFit upR
  simp only [numZ_rt, denZ_rt, ratValid_rt h, Bool.and_true]
  rw [reduceS_out (by have := ten_pos p; unfold ten at this; omega)]; rfl
theorem makeS_rt {x y : Int} (hx : x.natAbs < lim) (hy : y.natAbs < lim) (h0 : y ≠ 0) : makeS (str x) (str y) = (rt (Rat.divInt x y), 0) := by
  unfold makeS
  rw [valid_str hx, valid_str hy, toZ_str, toZ_str]
  simp [h0, red_txt h0]
end Go.Proofs.YtfdjdmkpcdbmkaaGreatDoor

/-
  rational.go: sum, Add, Sub.
-/
namespace Go.Proofs.YtfdjdmkpcdbmkaaGreatDoor
open Go.RowKit Go.Lib

def sumRT (s : List UInt8 → List UInt8 → List UInt8 × Int) (a0 a1 b0 b1 : List UInt8) : List UInt8 × List UInt8 × Int :=
  let x := doS mulS (bad2 a0 a1 b0 b1) a0 b1
  let y := doS mulS x.2 b0 a1
  let n := doS s y.2 x.1 y.1
  let d := doS mulS n.2 a1 b1
  redS d.2 n.1 d.1
set_option maxRecDepth 100000 in
/-- The four operations of 'sum', one after the other, with what they answer. -/
theorem sum4 (f : FuncId) (s : List UInt8 → List UInt8 → List UInt8 × Int) (hf : OpC f s) (hl : ∀ a b, (s a b).1.length ≤ 1000) (eg : ∀ args w, (callFunc f args).run Tryz.prog w = .ok (.enter f args) w)
    (p : Nat) (a0 a1 b0 b1 : ByteArray) (ha0 : fit a0) (ha1 : fit a1) (hb0 : fit b0) (hb1 : fit b1) : ∃ (x y n d : List UInt8) (x2 y2 n2 d2 : Bool),
    (∀ W, Laid W → Wk W p (bad2 (bl a0) (bl a1) (bl b0) (bl b1)) → Calls Tryz.prog 60 #[.pointer (some ⟨p, 0, none⟩), .string a0, .string b1] W fun e w' => e = .returned (.string (lb x)) ∧ Wk w' p x2 ∧ But p W w') ∧
    (∀ W, Laid W → Wk W p x2 → Calls Tryz.prog 60 #[.pointer (some ⟨p, 0, none⟩), .string b0, .string a1] W fun e w' => e = .returned (.string (lb y)) ∧ Wk w' p y2 ∧ But p W w') ∧
    (∀ W, Laid W → Wk W p y2 → Calls Tryz.prog 84 #[.pointer (some ⟨p, 0, none⟩), .func (.func f) #[] #[], .string (lb x), .string (lb y)] W fun e w' => e = .returned (.string (lb n)) ∧ Wk w' p n2 ∧ But p W w') ∧
    (∀ W, Laid W → Wk W p n2 → Calls Tryz.prog 60 #[.pointer (some ⟨p, 0, none⟩), .string a1, .string b1] W fun e w' => e = .returned (.string (lb d)) ∧ Wk w' p d2 ∧ But p W w') ∧
    fit (lb n) ∧ fit (lb d) ∧ sumRT s (bl a0) (bl a1) (bl b0) (bl b1) = redS d2 n d := by
  generalize hB : bad2 (bl a0) (bl a1) (bl b0) (bl b1) = B
  refine ⟨(doS mulS B (bl a0) (bl b1)).1, (doS mulS (doS mulS B (bl a0) (bl b1)).2 (bl b0) (bl a1)).1,
    (doS s (doS mulS (doS mulS B (bl a0) (bl b1)).2 (bl b0) (bl a1)).2 (doS mulS B (bl a0) (bl b1)).1 (doS mulS (doS mulS B (bl a0) (bl b1)).2 (bl b0) (bl a1)).1).1,
    (doS mulS (doS s (doS mulS (doS mulS B (bl a0) (bl b1)).2 (bl b0) (bl a1)).2 (doS mulS B (bl a0) (bl b1)).1 (doS mulS (doS mulS B (bl a0) (bl b1)).2 (bl b0) (bl a1)).1).2 (bl a1) (bl b1)).1,
    (doS mulS B (bl a0) (bl b1)).2, (doS mulS (doS mulS B (bl a0) (bl b1)).2 (bl b0) (bl a1)).2,
    (doS s (doS mulS (doS mulS B (bl a0) (bl b1)).2 (bl b0) (bl a1)).2 (doS mulS B (bl a0) (bl b1)).1 (doS mulS (doS mulS B (bl a0) (bl b1)).2 (bl b0) (bl a1)).1).2,
    (doS mulS (doS s (doS mulS (doS mulS B (bl a0) (bl b1)).2 (bl b0) (bl a1)).2 (doS mulS B (bl a0) (bl b1)).1 (doS mulS (doS mulS B (bl a0) (bl b1)).2 (bl b0) (bl a1)).1).2 (bl a1) (bl b1)).2,
    ?_, ?_, ?_, ?_, fit_do hl _ _ _, fit_do mul_len _ _ _, by unfold sumRT; rw [hB]⟩
  · exact fun W hT hw => mul_rat p B a0 b1 ha0 hb1 W hT hw
  · exact fun W hT hw => mul_rat p _ b0 a1 hb0 ha1 W hT hw
  · intro W hT hw
    have := do_any f s hf eg p _ (lb (doS mulS B (bl a0) (bl b1)).1) (lb (doS mulS (doS mulS B (bl a0) (bl b1)).2 (bl b0) (bl a1)).1) (fit_do mul_len _ _ _) (fit_do mul_len _ _ _) W hT hw
    rwa [bl_lb, bl_lb] at this
  · exact fun W hT hw => mul_rat p _ a1 b1 ha1 hb1 W hT hw
set_option maxRecDepth 100000 in
set_option maxHeartbeats 1000000 in
theorem sum_any (f : FuncId) (s : List UInt8 → List UInt8 → List UInt8 × Int) (hf : OpC f s) (hl : ∀ a b, (s a b).1.length ≤ 1000) (eg : ∀ args w, (callFunc f args).run Tryz.prog w = .ok (.enter f args) w)
    (a0 a1 b0 b1 : ByteArray) (ha0 : fit a0) (ha1 : fit a1) (hb0 : fit b0) (hb1 : fit b1) (w : World) (hT : Laid w) :
    Calls Tryz.prog 61 #[.func (.func f) #[] #[], .agg #[.string a0, .string a1], .agg #[.string b0, .string b1]] w fun e w' =>
      e = .returned (.tuple #[.agg #[.string (lb (sumRT s (bl a0) (bl a1) (bl b0) (bl b1)).1), .string (lb (sumRT s (bl a0) (bl a1) (bl b0) (bl b1)).2.1)], .int .i64 (sumRT s (bl a0) (bl a1) (bl b0) (bl b1)).2.2]) ∧ Below w.heap.size w w' := by
  have C0 := Lib.hid (fun p k W hp hw hr hk => check_any p k 2 false (fun i => if i = 0 then a0 else b0) (fun i => if i = 0 then a1 else b1) (by intro i; split <;> assumption) (by intro i; split <;> assumption) (by omega) W hp hw hr hk)
  have HT := Lib.hid hT
  obtain ⟨x, y, n, d, x2, y2, n2, d2, m1, m2, m3, m4, fn, fd, hr0⟩ := sum4 f s hf hl eg (w.heap.size + 1 + 1 + 1) a0 a1 b0 b1 ha0 ha1 hb0 hb1
  obtain ⟨r1, r2, r3, hr⟩ : ∃ r1 r2 r3, sumRT s (bl a0) (bl a1) (bl b0) (bl b1) = (r1, r2, r3) := ⟨_, _, _, rfl⟩
  rw [hr]
  rw [hr] at hr0
  have HRR := Lib.hid hr0
  have M1 := Lib.hid m1
  have M2 := Lib.hid m2
  have M3 := Lib.hid m3
  have M4 := Lib.hid m4
  clear hr hr0 m1 m2 m3 m4 eg hf hl
  go_enter Tryz.func61, Tryz.ntmps61
  go_wp2_with fail
  have F := Fr.new w a0 a1 b0 b1
  generalize ((((w.alloc (.cells #[.string a0, .string a1] 23)).alloc (.cells #[.string b0, .string b1] 23)).alloc (.cells #[.string ⟨#[]⟩, .string ⟨#[]⟩] 23)).alloc (.cells #[.bool false] 78)).alloc (.cells #[.string a0, .string a1, .string b0, .string b1] 23) = W5 at *
  refine (C0.out _ _ _ (fun W hb => But.laid HT.out F.below hb (by omega)) F.wk F.rows (by omega)).mono ?_
  rintro e w1 ⟨rfl, hw, hb⟩
  have c0 := (F.ra.but hb (by omega)).cell0
  have c1 := (F.ra.but hb (by omega)).cell1
  have c2 := (F.rb.but hb (by omega)).cell0
  have c3 := (F.rb.but hb (by omega)).cell1
  have HW := Lib.hid hw
  have BB := Lib.hid hb
  have FF := Lib.hid F
  clear hw hb F hT
  have hbad : badTo false (fun i => if i = 0 then a0 else b0) (fun i => if i = 0 then a1 else b1) 2 = bad2 (bl a0) (bl a1) (bl b0) (bl b1) := by
    unfold bad2; show ((false || _) || _) = _; rw [Bool.false_or]; rfl
  rw [hbad] at HW
  clear hbad
  go_wp2_with fail
  go_region_held3 (fun w' => w'.cell? ⟨w.heap.size, 0, none⟩ = some (.string a0) ∧ w'.cell? ⟨w.heap.size, 1, none⟩ = some (.string a1) ∧ w'.cell? ⟨w.heap.size + 1, 0, none⟩ = some (.string b0) ∧ w'.cell? ⟨w.heap.size + 1, 1, none⟩ = some (.string b1))
    (first
      | exact ⟨c0, c1, c2, c3⟩
      | exact ⟨d0, d1, d2, d3⟩
      | exact ⟨e0, e1, e2, e3⟩
      | exact ⟨f0, f1, f2, f3⟩
      | go_keep)
    (first
      | (go_at_call 60; first
          | (refine (M1.out _ (by exact But.laid HT.out FF.out.below BB.out.drew (by omega)) (by exact HW.out.drew)).mono ?_; rintro e w2 ⟨rfl, hw2, hb2⟩; have W2 := Lib.hid hw2; have B2 := Lib.hid (BB.out.drew.trans hb2); clear hw2 hb2; have d0 := (FF.out.ra.but B2.out (by omega)).cell0; have d1 := (FF.out.ra.but B2.out (by omega)).cell1; have d2 := (FF.out.rb.but B2.out (by omega)).cell0; have d3 := (FF.out.rb.but B2.out (by omega)).cell1)
          | (refine (M2.out _ (by exact But.laid HT.out FF.out.below B2.out (by omega)) (by exact W2.out)).mono ?_; rintro e w3 ⟨rfl, hw3, hb3⟩; have W3 := Lib.hid hw3; have B3 := Lib.hid (B2.out.trans hb3); clear hw3 hb3; have e0 := (FF.out.ra.but B3.out (by omega)).cell0; have e1 := (FF.out.ra.but B3.out (by omega)).cell1; have e2 := (FF.out.rb.but B3.out (by omega)).cell0; have e3 := (FF.out.rb.but B3.out (by omega)).cell1))
      | (go_at_call 84; refine (M3.out _ (by exact But.laid HT.out FF.out.below B3.out (by omega)) (by exact W3.out)).mono ?_; rintro e w4 ⟨rfl, hw4, hb4⟩; have W4 := Lib.hid hw4; have B4 := Lib.hid (B3.out.trans hb4); clear hw4 hb4; have f0 := (FF.out.ra.but B4.out (by omega)).cell0; have f1 := (FF.out.ra.but B4.out (by omega)).cell1; have f2 := (FF.out.rb.but B4.out (by omega)).cell0; have f3 := (FF.out.rb.but B4.out (by omega)).cell1))
  all_goals go_wp2_with fail
  all_goals (refine (M4.out _ (by exact But.laid HT.out FF.out.below B4.out (by omega)) (by exact W4.out)).mono ?_; rintro e w5 ⟨rfl, hw5, hb5⟩)
  all_goals (have W5' := Lib.hid hw5; have B5 := Lib.hid (B4.out.trans hb5))
  all_goals clear hw5 hb5 c0 c1 c2 c3 d0 d1 d2 d3 e0 e1 e2 e3 f0 f1 f2 f3
  all_goals go_wp2_with fail
  all_goals (have hR := reduced_any (w.heap.size + 1 + 1 + 1) d2 (lb n) (lb d) fn fd w5 (fun W hb => But.laid HT.out FF.out.below (B5.out.trans hb) (by omega)) W5'.out)
  all_goals rw [bl_lb, bl_lb, show redS _ _ _ = (r1, r2, r3) from HRR.out.symm] at hR
  all_goals (refine hR.mono ?_; rintro e w6 ⟨rfl, hb⟩)
  all_goals (have B6 := Lib.hid (B5.out.trans hb); clear hb hR)
  all_goals have RR := Lib.hid (FF.out.rr.but B6.out (by omega))
  all_goals (have q0 := RR.out.cell0; have q1 := RR.out.cell1; have qf0 := RR.out.frozen 0; have qf1 := RR.out.frozen 1; have ql := RR.out.lt)
  all_goals go_wp2_with fail
  all_goals (have RE := (RR.out.set0 (lb r1)).set1 (lb r2); have BE := ((FF.out.below.trans (B6.out.below FF.out.below.size (by omega))).setCell (p := ⟨w.heap.size + 1 + 1, 0, none⟩) (by show w.heap.size ≤ w.heap.size + 1 + 1; omega) (.string (lb r1))).setCell (p := ⟨w.heap.size + 1 + 1, 1, none⟩) (by show w.heap.size ≤ w.heap.size + 1 + 1; omega) (.string (lb r2)))
  all_goals (have z0 := RE.cell0; have z1 := RE.cell1; clear RE q0 q1)
  all_goals generalize ((w6.setCell ⟨w.heap.size + 1 + 1, 0, none⟩ (.string (lb r1))).setCell ⟨w.heap.size + 1 + 1, 1, none⟩ (.string (lb r2))) = WE at *
  all_goals exact bodyPost_ret (v := .tuple #[.agg #[.string (lb r1), .string (lb r2)], .int .i64 r3]) (by simp [results, Tryz.results61, go_sem, z0, z1]) rfl ⟨rfl, BE⟩
end Go.Proofs.YtfdjdmkpcdbmkaaGreatDoor

/-
  rational.go: Add, Sub.
-/
namespace Go.Proofs.YtfdjdmkpcdbmkaaGreatDoor
open Go.RowKit Go.Lib

/-- Three boxes: two fractions, and a result's. -/
structure Fs (w W : World) : Prop where
  below : Below w.heap.size w W
  rr : Rt W (w.heap.size + 1 + 1) ⟨#[]⟩ ⟨#[]⟩
theorem Fs.new (w : World) (a0 a1 b0 b1 : ByteArray) : Fs w (((w.alloc (.cells #[.string a0, .string a1] 23)).alloc (.cells #[.string b0, .string b1] 23)).alloc (.cells #[.string ⟨#[]⟩, .string ⟨#[]⟩] 23)) := by
  have al := fun (W : World) (o : Obj) => (Below.refl W.heap.size W).alloc (Nat.le_refl _) o
  have b1' := al w (.cells #[.string a0, .string a1] 23)
  have s1 : (w.alloc (.cells #[.string a0, .string a1] 23)).heap.size = w.heap.size + 1 := by simp
  generalize w.alloc (.cells #[.string a0, .string a1] 23) = W1 at *
  have b2' := al W1 (.cells #[.string b0, .string b1] 23)
  have s2 : (W1.alloc (.cells #[.string b0, .string b1] 23)).heap.size = W1.heap.size + 1 := by simp
  generalize W1.alloc (.cells #[.string b0, .string b1] 23) = W2 at *
  have r3 := Rt.new W2 ⟨#[]⟩ ⟨#[]⟩
  have b3' := al W2 (.cells #[.string ⟨#[]⟩, .string ⟨#[]⟩] 23)
  rw [s2, s1] at r3
  exact ⟨bthen' (bthen' b1' b2') b3', r3⟩
set_option maxRecDepth 100000 in
theorem addR_any (a0 a1 b0 b1 : ByteArray) (ha0 : fit a0) (ha1 : fit a1) (hb0 : fit b0) (hb1 : fit b1) (w : World) (hT : Laid w) :
    Calls Tryz.prog 27 #[.agg #[.string a0, .string a1], .agg #[.string b0, .string b1]] w fun e w' =>
      e = .returned (.tuple #[.agg #[.string (lb (sumRT addS (bl a0) (bl a1) (bl b0) (bl b1)).1), .string (lb (sumRT addS (bl a0) (bl a1) (bl b0) (bl b1)).2.1)], .int .i64 (sumRT addS (bl a0) (bl a1) (bl b0) (bl b1)).2.2]) ∧ Below w.heap.size w w' := by
  have C := Lib.hid (fun w hT => sum_any _ addS opc_add add_len (fun _ _ => rfl) a0 a1 b0 b1 ha0 ha1 hb0 hb1 w hT)
  have HT := Lib.hid hT
  generalize sumRT addS (bl a0) (bl a1) (bl b0) (bl b1) = r at *
  obtain ⟨r1, r2, r3⟩ := r
  clear hT ha0 ha1 hb0 hb1
  go_enter Tryz.func27, Tryz.ntmps27
  go_wp2_with fail
  have F3 := Fs.new w a0 a1 b0 b1
  generalize ((w.alloc (.cells #[.string a0, .string a1] 23)).alloc (.cells #[.string b0, .string b1] 23)).alloc (.cells #[.string ⟨#[]⟩, .string ⟨#[]⟩] 23) = W3 at *
  refine (C.out _ (HT.out.on F3.below)).mono ?_
  rintro e w1 ⟨rfl, b⟩
  have BB := Lib.hid (bthen' F3.below b)
  have RR := Lib.hid (F3.rr.below b)
  clear b F3
  have q0 := RR.out.cell0
  have q1 := RR.out.cell1
  have qf0 := RR.out.frozen 0
  have qf1 := RR.out.frozen 1
  have ql := RR.out.lt
  go_wp2_with fail
  have RE := (RR.out.set0 (lb r1)).set1 (lb r2)
  have BE := (BB.out.setCell (p := ⟨w.heap.size + 1 + 1, 0, none⟩) (by show w.heap.size ≤ w.heap.size + 1 + 1; omega) (.string (lb r1))).setCell (p := ⟨w.heap.size + 1 + 1, 1, none⟩) (by show w.heap.size ≤ w.heap.size + 1 + 1; omega) (.string (lb r2))
  have z0 := RE.cell0
  have z1 := RE.cell1
  clear RE q0 q1
  generalize ((w1.setCell ⟨w.heap.size + 1 + 1, 0, none⟩ (.string (lb r1))).setCell ⟨w.heap.size + 1 + 1, 1, none⟩ (.string (lb r2))) = WE at *
  exact bodyPost_ret (v := .tuple #[.agg #[.string (lb r1), .string (lb r2)], .int .i64 r3]) (by simp [results, Tryz.results27, go_sem, z0, z1]) rfl ⟨rfl, BE⟩
set_option maxRecDepth 100000 in
theorem subR_any (a0 a1 b0 b1 : ByteArray) (ha0 : fit a0) (ha1 : fit a1) (hb0 : fit b0) (hb1 : fit b1) (w : World) (hT : Laid w) :
    Calls Tryz.prog 44 #[.agg #[.string a0, .string a1], .agg #[.string b0, .string b1]] w fun e w' =>
      e = .returned (.tuple #[.agg #[.string (lb (sumRT subS (bl a0) (bl a1) (bl b0) (bl b1)).1), .string (lb (sumRT subS (bl a0) (bl a1) (bl b0) (bl b1)).2.1)], .int .i64 (sumRT subS (bl a0) (bl a1) (bl b0) (bl b1)).2.2]) ∧ Below w.heap.size w w' := by
  have C := Lib.hid (fun w hT => sum_any _ subS opc_sub sub_len (fun _ _ => rfl) a0 a1 b0 b1 ha0 ha1 hb0 hb1 w hT)
  have HT := Lib.hid hT
  generalize sumRT subS (bl a0) (bl a1) (bl b0) (bl b1) = r at *
  obtain ⟨r1, r2, r3⟩ := r
  clear hT ha0 ha1 hb0 hb1
  go_enter Tryz.func44, Tryz.ntmps44
  go_wp2_with fail
  have F3 := Fs.new w a0 a1 b0 b1
  generalize ((w.alloc (.cells #[.string a0, .string a1] 23)).alloc (.cells #[.string b0, .string b1] 23)).alloc (.cells #[.string ⟨#[]⟩, .string ⟨#[]⟩] 23) = W3 at *
  refine (C.out _ (HT.out.on F3.below)).mono ?_
  rintro e w1 ⟨rfl, b⟩
  have BB := Lib.hid (bthen' F3.below b)
  have RR := Lib.hid (F3.rr.below b)
  clear b F3
  have q0 := RR.out.cell0
  have q1 := RR.out.cell1
  have qf0 := RR.out.frozen 0
  have qf1 := RR.out.frozen 1
  have ql := RR.out.lt
  go_wp2_with fail
  have RE := (RR.out.set0 (lb r1)).set1 (lb r2)
  have BE := (BB.out.setCell (p := ⟨w.heap.size + 1 + 1, 0, none⟩) (by show w.heap.size ≤ w.heap.size + 1 + 1; omega) (.string (lb r1))).setCell (p := ⟨w.heap.size + 1 + 1, 1, none⟩) (by show w.heap.size ≤ w.heap.size + 1 + 1; omega) (.string (lb r2))
  have z0 := RE.cell0
  have z1 := RE.cell1
  clear RE q0 q1
  generalize ((w1.setCell ⟨w.heap.size + 1 + 1, 0, none⟩ (.string (lb r1))).setCell ⟨w.heap.size + 1 + 1, 1, none⟩ (.string (lb r2))) = WE at *
  exact bodyPost_ret (v := .tuple #[.agg #[.string (lb r1), .string (lb r2)], .int .i64 r3]) (by simp [results, Tryz.results44, go_sem, z0, z1]) rfl ⟨rfl, BE⟩
end Go.Proofs.YtfdjdmkpcdbmkaaGreatDoor

/-
  Plain: the operations on fractions, as their functions compute them on texts, are what XQ says.
-/
namespace Go.Proofs.YtfdjdmkpcdbmkaaGreatDoor
open Go.Lib

def out3 (r : Txt × Int) : List UInt8 × List UInt8 × Int := (r.1.1, r.1.2, r.2)
theorem doS_bad (s : List UInt8 → List UInt8 → List UInt8 × Int) (a b : List UInt8) : doS s true a b = ([], true) := rfl
theorem redS_bad (n d : List UInt8) : redS true n d = ([], [], 40) := by unfold redS; rw [if_pos (by simp)]
theorem doS_out {s : List UInt8 → List UInt8 → List UInt8 × Int} {a b : List UInt8} {z : Int} (h : s a b = outS z) : doS s false a b = if fits z then (str z, false) else ([], true) := by
  unfold doS
  rw [h]
  unfold outS fits
  by_cases hz : z.natAbs < lim
  · simp [hz]
  · simp [hz, errInteger]
theorem doS_mul {x y : Int} (hx : x.natAbs < lim) (hy : y.natAbs < lim) : doS mulS false (str x) (str y) = if fits (x * y) then (str (x * y), false) else ([], true) := doS_out (mulS_str hx hy)
theorem doS_add {x y : Int} (hx : x.natAbs < lim) (hy : y.natAbs < lim) : doS addS false (str x) (str y) = if fits (x + y) then (str (x + y), false) else ([], true) := doS_out (addS_str hx hy)
theorem doS_sub {x y : Int} (hx : x.natAbs < lim) (hy : y.natAbs < lim) : doS subS false (str x) (str y) = if fits (x - y) then (str (x - y), false) else ([], true) := doS_out (subS_str hx hy)
theorem redS_reduce {x y : Int} (hx : fits x = true) (hy : fits y = true) : redS false (str x) (str y) = out3 (reduceS true x y) := by
  unfold reduceS out3
  by_cases h0 : y = 0
  · subst h0
    unfold redS
    rw [if_pos (by simp [str_zero])]
    rfl
  · rw [redS_str (fits_iff.1 hx) (fits_iff.1 hy) h0]
    simp [h0, txt]
theorem bad2_eq (a b : Txt) : bad2 a.1 a.2 b.1 b.2 = !(ratValid a && ratValid b) := by
  unfold bad2
  rw [vR_eq, vR_eq]
  simp
theorem denLt {q : Rat} (h : okR q) : ((q.den : Int)).natAbs < lim := by rw [Int.natAbs_natCast]; exact h.2
theorem reduceS_false (n d : Int) : reduceS false n d = (none2, errRational) := by unfold reduceS; rw [Bool.false_and]; rfl
theorem sum_eq (s : List UInt8 → List UInt8 → List UInt8 × Int) (g : Int → Int → Int) (hs : ∀ {x y : Int}, x.natAbs < lim → y.natAbs < lim → doS s false (str x) (str y) = if fits (g x y) then (str (g x y), false) else ([], true)) (a b : Txt) :
    sumRT s a.1 a.2 b.1 b.2 = out3 (reduceS (ratValid a && ratValid b && fits (numZ a * denZ b) && fits (numZ b * denZ a) && fits (g (numZ a * denZ b) (numZ b * denZ a)) && fits (denZ a * denZ b)) (g (numZ a * denZ b) (numZ b * denZ a)) (denZ a * denZ b)) := by
  unfold sumRT
  rw [bad2_eq]
  cases hv : (ratValid a && ratValid b) with
  | false =>
    simp only [Bool.not_false, Bool.false_and, doS_bad, redS_bad, reduceS_false]; rfl
  | true =>
    rw [Bool.and_eq_true] at hv
    obtain ⟨p, rfl, hp⟩ := rat_of hv.1
    obtain ⟨q, rfl, hq⟩ := rat_of hv.2
    simp only [numZ_rt, denZ_rt, Bool.true_and, Bool.not_true]
    rw [show (rt p).1 = str p.num from rfl, show (rt p).2 = str (p.den : Int) from rfl, show (rt q).1 = str q.num from rfl, show (rt q).2 = str (q.den : Int) from rfl]
    rw [doS_mul hp.1 (denLt hq)]
    cases h1 : fits (p.num * (q.den : Int)) with
    | false => simp only [Bool.false_and, doS_bad, redS_bad, reduceS_false, Bool.false_eq_true, if_false]; rfl
    | true =>
      simp only [if_true, Bool.true_and]
      rw [doS_mul hq.1 (denLt hp)]
      cases h2 : fits (q.num * (p.den : Int)) with
      | false => simp only [Bool.false_and, doS_bad, redS_bad, reduceS_false, Bool.false_eq_true, if_false]; rfl
      | true =>
        simp only [if_true, Bool.true_and]
        rw [hs (fits_iff.1 h1) (fits_iff.1 h2)]
        cases h3 : fits (g (p.num * (q.den : Int)) (q.num * (p.den : Int))) with
        | false => simp only [Bool.false_and, doS_bad, redS_bad, reduceS_false, Bool.false_eq_true, if_false]; rfl
        | true =>
          simp only [if_true, Bool.true_and]
          rw [doS_mul (denLt hp) (denLt hq)]
          cases h4 : fits ((p.den : Int) * (q.den : Int)) with
          | false => simp only [redS_bad, reduceS_false, Bool.false_eq_true, if_false]; rfl
          | true =>
            simp only [if_true]
            exact redS_reduce h3 h4
theorem add_eq (a b : Txt) : sumRT addS a.1 a.2 b.1 b.2 = out3 (addQ a b) := sum_eq addS (· + ·) doS_add a b
theorem sub_eq (a b : Txt) : sumRT subS a.1 a.2 b.1 b.2 = out3 (subQ a b) := sum_eq subS (· - ·) doS_sub a b
theorem mul_eq (a b : Txt) : mulRT a.1 a.2 b.1 b.2 = out3 (mulQ a b) := by
  unfold mulRT mulQ
  rw [bad2_eq]
  dsimp only
  cases hv : (ratValid a && ratValid b) with
  | false => simp only [Bool.not_false, Bool.false_and, doS_bad, redS_bad, reduceS_false]; rfl
  | true =>
    rw [Bool.and_eq_true] at hv
    obtain ⟨p, rfl, hp⟩ := rat_of hv.1
    obtain ⟨q, rfl, hq⟩ := rat_of hv.2
    simp only [numZ_rt, denZ_rt, Bool.true_and, Bool.not_true]
    rw [show (rt p).1 = str p.num from rfl, show (rt p).2 = str (p.den : Int) from rfl, show (rt q).1 = str q.num from rfl, show (rt q).2 = str (q.den : Int) from rfl]
    rw [doS_mul hp.1 hq.1]
    cases h1 : fits (p.num * q.num) with
    | false => simp only [Bool.false_and, doS_bad, redS_bad, reduceS_false, Bool.false_eq_true, if_false]; rfl
    | true =>
      simp only [if_true, Bool.true_and]
      rw [doS_mul (denLt hp) (denLt hq)]
      cases h2 : fits ((p.den : Int) * (q.den : Int)) with
      | false => simp only [redS_bad, reduceS_false, Bool.false_eq_true, if_false]; rfl
      | true =>
        simp only [if_true]
        exact redS_reduce h1 h2
theorem div_eq (a b : Txt) : divRT a.1 a.2 b.1 b.2 = out3 (divQ a b) := by
  unfold divRT divQ
  rw [bad2_eq]
  dsimp only
  cases hv : (ratValid a && ratValid b) with
  | false => simp only [Bool.not_false, Bool.false_and, doS_bad, redS_bad, reduceS_false]; rfl
  | true =>
    rw [Bool.and_eq_true] at hv
    obtain ⟨p, rfl, hp⟩ := rat_of hv.1
    obtain ⟨q, rfl, hq⟩ := rat_of hv.2
    simp only [numZ_rt, denZ_rt, Bool.true_and, Bool.not_true]
    rw [show (rt p).1 = str p.num from rfl, show (rt p).2 = str (p.den : Int) from rfl, show (rt q).1 = str q.num from rfl, show (rt q).2 = str (q.den : Int) from rfl]
    rw [doS_mul hp.1 (denLt hq)]
    cases h1 : fits (p.num * (q.den : Int)) with
    | false => simp only [Bool.false_and, doS_bad, redS_bad, reduceS_false, Bool.false_eq_true, if_false]; rfl
    | true =>
      simp only [if_true, Bool.true_and]
      rw [doS_mul (denLt hp) hq.1]
      cases h2 : fits ((p.den : Int) * q.num) with
      | false => simp only [redS_bad, reduceS_false, Bool.false_eq_true, if_false]; rfl
      | true =>
        simp only [if_true]
        exact redS_reduce h1 h2
end Go.Proofs.YtfdjdmkpcdbmkaaGreatDoor
