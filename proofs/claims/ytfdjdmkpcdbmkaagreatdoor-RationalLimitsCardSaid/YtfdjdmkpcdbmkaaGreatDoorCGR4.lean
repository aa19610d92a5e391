/-
  rational.go: round.
-/
import Derived.Test.YtfdjdmkpcdbmkaaGreatDoorCGR3
import Derived.Test.YtfdjdmkpcdbmkaaGreatDoorCGR2
import Derived.Test.YtfdjdmkpcdbmkaaGreatDoorCG5
set_option linter.unusedVariables false
set_option linter.unusedSimpArgs false
namespace Go.Proofs.YtfdjdmkpcdbmkaaGreatDoor
open Go.RowKit Go.Lib

/-- The frame of a rounding: its argument's box, its result's, the calculation's, the slice of one. -/
structure Fh (w W : World) (a0 a1 : ByteArray) (bad : Bool) : Prop where
  below : Below w.heap.size w W
  ra : Rt W w.heap.size a0 a1
  rr : Rt W (w.heap.size + 1) ⟨#[]⟩ ⟨#[]⟩
  wk : Wk W (w.heap.size + 1 + 1) bad
  rows : RowsR W (w.heap.size + 1 + 1 + 1) 1 (fun _ => a0) (fun _ => a1)
theorem Fh.new (w : World) (a0 a1 : ByteArray) (bad : Bool) : Fh w ((((w.alloc (.cells #[.string a0, .string a1] 23)).alloc (.cells #[.string ⟨#[]⟩, .string ⟨#[]⟩] 23)).alloc (.cells #[.bool bad] 78)).alloc (.cells #[.string a0, .string a1] 23)) a0 a1 bad := by
  have al := fun (W : World) (o : Obj) => (Below.refl W.heap.size W).alloc (Nat.le_refl _) o
  have r1 := Rt.new w a0 a1
  have b1' := al w (.cells #[.string a0, .string a1] 23)
  have s1 : (w.alloc (.cells #[.string a0, .string a1] 23)).heap.size = w.heap.size + 1 := by simp
  generalize w.alloc (.cells #[.string a0, .string a1] 23) = W1 at *
  have r2 := Rt.new W1 ⟨#[]⟩ ⟨#[]⟩
  have b2' := al W1 (.cells #[.string ⟨#[]⟩, .string ⟨#[]⟩] 23)
  have s2 : (W1.alloc (.cells #[.string ⟨#[]⟩, .string ⟨#[]⟩] 23)).heap.size = W1.heap.size + 1 := by simp
  generalize W1.alloc (.cells #[.string ⟨#[]⟩, .string ⟨#[]⟩] 23) = W2 at *
  have r3 := Wk.new W2 bad
  have b3' := al W2 (.cells #[.bool bad] 78)
  have s3 : (W2.alloc (.cells #[.bool bad] 78)).heap.size = W2.heap.size + 1 := by simp
  generalize W2.alloc (.cells #[.bool bad] 78) = W3 at *
  have h4 := World.alloc_heap_new W3 (.cells #[.string a0, .string a1] 23)
  have b4' := al W3 (.cells #[.string a0, .string a1] 23)
  have s4 : (W3.alloc (.cells #[.string a0, .string a1] 23)).heap.size = W3.heap.size + 1 := by simp
  generalize W3.alloc (.cells #[.string a0, .string a1] 23) = W4 at *
  rw [s1] at r2
  rw [s2, s1] at r3
  rw [s3, s2, s1] at h4
  refine ⟨bthen' (bthen' (bthen' b1' b2') b3') b4', ((r1.below b2').below b3').below b4', (r2.below b3').below b4', r3.below b4', by omega, fun i hi => ?_⟩
  obtain rfl : i = 0 := by omega
  unfold World.cell?
  simp only [h4]
  exact ⟨rfl, rfl⟩
def inGrid (p : Int) : Bool := decide (0 ≤ p) && decide (p ≤ 30)
set_option maxRecDepth 100000 in
set_option maxHeartbeats 1000000 in
theorem roundR_no (a0 a1 : ByteArray) (p : Int) (up : Bool) (h0 : fit a0) (h1 : fit a1) (hv : (inGrid p && vR (bl a0) (bl a1)) = false) (w : World) (hT : Laid w) :
    Calls Tryz.prog 69 #[.agg #[.string a0, .string a1], .int .i64 p, .bool up] w fun e w' => e = .returned (.tuple #[.agg #[.string ⟨#[]⟩, .string ⟨#[]⟩], .int .i64 40]) ∧ Below w.heap.size w w' := by
  have C0 := Lib.hid (fun p k bad W hp hw hr hk => check_any p k 1 bad (fun _ => a0) (fun _ => a1) (fun _ => h0) (fun _ => h1) (by omega) W hp hw hr hk)
  have HT := Lib.hid hT
  have hbad : ∀ b, (b || !vR (bl a0) (bl a1)) = badTo b (fun _ => a0) (fun _ => a1) 1 := fun b => rfl
  clear hT h0 h1
  by_cases hp : p < 0
  · have hd : decide (p < 0) = true := decide_eq_true hp
    go_enter Tryz.func69, Tryz.ntmps69
    go_wp2_with fail
    have F := Lib.hid (Fh.new w a0 a1 true)
    generalize (((w.alloc (.cells #[.string a0, .string a1] 23)).alloc (.cells #[.string ⟨#[]⟩, .string ⟨#[]⟩] 23)).alloc (.cells #[.bool true] 78)).alloc (.cells #[.string a0, .string a1] 23) = W4 at *
    refine (C0.out _ _ _ _ (fun W hb => But.laid HT.out F.out.below hb (by omega)) F.out.wk F.out.rows (by omega)).mono ?_
    rintro e w1 ⟨rfl, hw, hb⟩
    rw [← hbad, Bool.true_or] at hw
    have HW := Lib.hid hw
    have BB := Lib.hid hb
    clear hw hb
    have hc := HW.out.cell
    have RR := Lib.hid (F.out.rr.but BB.out (by omega))
    have q0 := RR.out.cell0
    have q1 := RR.out.cell1
    have qf0 := RR.out.frozen 0
    have qf1 := RR.out.frozen 1
    have ql := RR.out.lt
    go_wp2_with fail
    have RE := (RR.out.set0 (⟨#[]⟩ : ByteArray)).set1 (⟨#[]⟩ : ByteArray)
    have BE := ((F.out.below.trans (BB.out.below F.out.below.size (by omega))).setCell (p := ⟨w.heap.size + 1, 0, none⟩) (by show w.heap.size ≤ w.heap.size + 1; omega) (.string (⟨#[]⟩ : ByteArray))).setCell (p := ⟨w.heap.size + 1, 1, none⟩) (by show w.heap.size ≤ w.heap.size + 1; omega) (.string (⟨#[]⟩ : ByteArray))
    have z0 := RE.cell0
    have z1 := RE.cell1
    clear RE q0 q1
    generalize ((w1.setCell ⟨w.heap.size + 1, 0, none⟩ (.string (⟨#[]⟩ : ByteArray))).setCell ⟨w.heap.size + 1, 1, none⟩ (.string (⟨#[]⟩ : ByteArray))) = WE at *
    exact bodyPost_ret (v := .tuple #[.agg #[.string (⟨#[]⟩ : ByteArray), .string (⟨#[]⟩ : ByteArray)], .int .i64 40]) (by simp [results, Tryz.results69, go_sem, z0, z1]) rfl ⟨rfl, BE⟩
  · have hd : decide (p < 0) = false := decide_eq_false hp
    by_cases hp2 : p > 30
    · have hd2 : decide (p > 30) = true := decide_eq_true hp2
      go_enter Tryz.func69, Tryz.ntmps69
      go_wp2_with fail
      have F := Lib.hid (Fh.new w a0 a1 true)
      generalize (((w.alloc (.cells #[.string a0, .string a1] 23)).alloc (.cells #[.string ⟨#[]⟩, .string ⟨#[]⟩] 23)).alloc (.cells #[.bool true] 78)).alloc (.cells #[.string a0, .string a1] 23) = W4 at *
      refine (C0.out _ _ _ _ (fun W hb => But.laid HT.out F.out.below hb (by omega)) F.out.wk F.out.rows (by omega)).mono ?_
      rintro e w1 ⟨rfl, hw, hb⟩
      rw [← hbad, Bool.true_or] at hw
      have HW := Lib.hid hw
      have BB := Lib.hid hb
      clear hw hb
      have hc := HW.out.cell
      have RR := Lib.hid (F.out.rr.but BB.out (by omega))
      have q0 := RR.out.cell0
      have q1 := RR.out.cell1
      have qf0 := RR.out.frozen 0
      have qf1 := RR.out.frozen 1
      have ql := RR.out.lt
      go_wp2_with fail
      have RE := (RR.out.set0 (⟨#[]⟩ : ByteArray)).set1 (⟨#[]⟩ : ByteArray)
      have BE := ((F.out.below.trans (BB.out.below F.out.below.size (by omega))).setCell (p := ⟨w.heap.size + 1, 0, none⟩) (by show w.heap.size ≤ w.heap.size + 1; omega) (.string (⟨#[]⟩ : ByteArray))).setCell (p := ⟨w.heap.size + 1, 1, none⟩) (by show w.heap.size ≤ w.heap.size + 1; omega) (.string (⟨#[]⟩ : ByteArray))
      have z0 := RE.cell0
      have z1 := RE.cell1
      clear RE q0 q1
      generalize ((w1.setCell ⟨w.heap.size + 1, 0, none⟩ (.string (⟨#[]⟩ : ByteArray))).setCell ⟨w.heap.size + 1, 1, none⟩ (.string (⟨#[]⟩ : ByteArray))) = WE at *
      exact bodyPost_ret (v := .tuple #[.agg #[.string (⟨#[]⟩ : ByteArray), .string (⟨#[]⟩ : ByteArray)], .int .i64 40]) (by simp [results, Tryz.results69, go_sem, z0, z1]) rfl ⟨rfl, BE⟩
    · have hd2 : decide (p > 30) = false := decide_eq_false hp2
      have hvr : vR (bl a0) (bl a1) = false := by
        unfold inGrid at hv
        rwa [decide_eq_true (by omega : 0 ≤ p), decide_eq_true (by omega : p ≤ 30), Bool.true_and, Bool.true_and] at hv
      go_enter Tryz.func69, Tryz.ntmps69
      go_wp2_with fail
      have F := Lib.hid (Fh.new w a0 a1 false)
      generalize (((w.alloc (.cells #[.string a0, .string a1] 23)).alloc (.cells #[.string ⟨#[]⟩, .string ⟨#[]⟩] 23)).alloc (.cells #[.bool false] 78)).alloc (.cells #[.string a0, .string a1] 23) = W4 at *
      refine (C0.out _ _ _ _ (fun W hb => But.laid HT.out F.out.below hb (by omega)) F.out.wk F.out.rows (by omega)).mono ?_
      rintro e w1 ⟨rfl, hw, hb⟩
      rw [← hbad, hvr, Bool.false_or, Bool.not_false] at hw
      have HW := Lib.hid hw
      have BB := Lib.hid hb
      clear hw hb
      have hc := HW.out.cell
      have RR := Lib.hid (F.out.rr.but BB.out (by omega))
      have q0 := RR.out.cell0
      have q1 := RR.out.cell1
      have qf0 := RR.out.frozen 0
      have qf1 := RR.out.frozen 1
      have ql := RR.out.lt
      go_wp2_with fail
      have RE := (RR.out.set0 (⟨#[]⟩ : ByteArray)).set1 (⟨#[]⟩ : ByteArray)
      have BE := ((F.out.below.trans (BB.out.below F.out.below.size (by omega))).setCell (p := ⟨w.heap.size + 1, 0, none⟩) (by show w.heap.size ≤ w.heap.size + 1; omega) (.string (⟨#[]⟩ : ByteArray))).setCell (p := ⟨w.heap.size + 1, 1, none⟩) (by show w.heap.size ≤ w.heap.size + 1; omega) (.string (⟨#[]⟩ : ByteArray))
      have z0 := RE.cell0
      have z1 := RE.cell1
      clear RE q0 q1
      generalize ((w1.setCell ⟨w.heap.size + 1, 0, none⟩ (.string (⟨#[]⟩ : ByteArray))).setCell ⟨w.heap.size + 1, 1, none⟩ (.string (⟨#[]⟩ : ByteArray))) = WE at *
      exact bodyPost_ret (v := .tuple #[.agg #[.string (⟨#[]⟩ : ByteArray), .string (⟨#[]⟩ : ByteArray)], .int .i64 40]) (by simp [results, Tryz.results69, go_sem, z0, z1]) rfl ⟨rfl, BE⟩
/-- A power of ten's text. -/
theorem dec_ten (k : Nat) : decDigits (10 ^ k) = 49 :: List.replicate k 48 := by
  induction k with
  | zero => rw [Nat.pow_zero, dec_small (by omega)]; rfl
  | succ k ih =>
    have h1 : 1 ≤ 10 ^ k := Nat.one_le_pow _ _ (by omega)
    rw [Nat.pow_succ, dec_big (by omega), Nat.mul_div_cancel _ (by omega), Nat.mul_mod_left, ih, List.replicate_succ', List.cons_append]; rfl
theorem str_ten (p : Int) : str (ten p) = 49 :: List.replicate p.toNat 48 := by
  unfold str ten
  have e : ((10 : Int) ^ p.toNat) = ((10 ^ p.toNat : Nat) : Int) := by rw [Int.natCast_pow]; rfl
  rw [e, if_neg (Int.not_lt.2 (Int.natCast_nonneg _)), Int.natAbs_natCast, dec_ten]
theorem ten_lt {p : Int} (h : p ≤ 30) : (ten p).natAbs < lim := by
  have e : ten p = ((10 ^ p.toNat : Nat) : Int) := by unfold ten; rw [Int.natCast_pow]; rfl
  rw [e, Int.natAbs_natCast]
  exact Nat.lt_of_le_of_lt (Nat.pow_le_pow_right (by omega) (show p.toNat ≤ 30 by omega)) (by decide +kernel)
theorem one_zeros (p : Int) : (⟨#[49]⟩ : ByteArray) ++ lb (List.replicate p.toNat 48) = S' (ten p) := by
  have h : bl ((⟨#[49]⟩ : ByteArray) ++ lb (List.replicate p.toNat 48)) = bl (S' (ten p)) := by
    rw [blS', str_ten]
    unfold bl
    rw [ByteArray.data_append, Array.toList_append, show (lb (List.replicate p.toNat 48)).data.toList = List.replicate p.toNat (48 : UInt8) from bl_lb _]
    rfl
  rw [← lb_bl ((⟨#[49]⟩ : ByteArray) ++ lb (List.replicate p.toNat 48)), h, lb_bl]
theorem repeat_ten (p : Int) (h0 : 0 ≤ p) (h1 : p ≤ 30) (w : World) :
    Calls Tryz.prog 96 #[.string ⟨#[48]⟩, .int .i64 p] w fun e w' => e = .returned (.string (lb (List.replicate p.toNat 48))) ∧ Below w.heap.size w w' := by
  obtain ⟨c, rfl⟩ := Int.eq_ofNat_of_zero_le h0
  refine (Tryz.strings_Repeat ⟨#[48]⟩ c w (by omega) (by show 1 * c ≤ _; omega)).mono ?_
  rintro e w' ⟨rfl, h⟩
  refine ⟨?_, h⟩
  show _ = Ending.returned (.string ⟨_⟩)
  rw [show (ByteArray.mk #[48]).data.toList = [48] from rfl, repeatL_zeros]; rfl
set_option maxRecDepth 100000 in
set_option maxHeartbeats 1000000 in
theorem roundR_big (a0 a1 : ByteArray) (p : Int) (up : Bool) (h0 : fit a0) (h1 : fit a1) (hp : 0 ≤ p ∧ p ≤ 30) (hvr : vR (bl a0) (bl a1) = true) (n : List UInt8) (b2 : Bool)
    (hm : ∀ k W, Laid W → Wk W k false → Calls Tryz.prog 60 #[.pointer (some ⟨k, 0, none⟩), .string a0, .string (S' (ten p))] W fun e w' => e = .returned (.string (lb n)) ∧ Wk w' k b2 ∧ But k W w') (hb2 : b2 = true) (w : World) (hT : Laid w) :
    Calls Tryz.prog 69 #[.agg #[.string a0, .string a1], .int .i64 p, .bool up] w fun e w' => e = .returned (.tuple #[.agg #[.string ⟨#[]⟩, .string ⟨#[]⟩], .int .i64 40]) ∧ Below w.heap.size w w' := by
  have HM := Lib.hid hm
  clear hm
  have C0 := Lib.hid (fun p k bad W hp hw hr hk => check_any p k 1 bad (fun _ => a0) (fun _ => a1) (fun _ => h0) (fun _ => h1) (by omega) W hp hw hr hk)
  have HT := Lib.hid hT
  have hbad : ∀ b, (b || !vR (bl a0) (bl a1)) = badTo b (fun _ => a0) (fun _ => a1) 1 := fun b => rfl
  have hd : decide (p < 0) = false := decide_eq_false (by omega)
  have hd2 : decide (p > 30) = false := decide_eq_false (by omega)
  have CR := Lib.hid (repeat_ten p hp.1 hp.2)
  have hone := one_zeros p
  have hzs : (lb (List.replicate p.toNat 48)).size ≤ 30 := by rw [lb_size, List.length_replicate]; omega
  generalize lb (List.replicate p.toNat 48) = Z at *
  have hsz : (⟨#[49]⟩ : ByteArray).size = 1 := rfl
  have hsum : ((⟨#[49]⟩ : ByteArray).size : Int) + (Z.size : Int) ≤ 9223372036854775807 := by rw [hsz]; omega
  clear hT h0 h1 hp
  go_enter Tryz.func69, Tryz.ntmps69
  go_wp2_with fail
  have F := Lib.hid (Fh.new w a0 a1 false)
  generalize (((w.alloc (.cells #[.string a0, .string a1] 23)).alloc (.cells #[.string ⟨#[]⟩, .string ⟨#[]⟩] 23)).alloc (.cells #[.bool false] 78)).alloc (.cells #[.string a0, .string a1] 23) = W4 at *
  refine (C0.out _ _ _ _ (fun W hb => But.laid HT.out F.out.below hb (by omega)) F.out.wk F.out.rows (by omega)).mono ?_
  rintro e w1 ⟨rfl, hw, hb⟩
  rw [← hbad, hvr, Bool.false_or, Bool.not_true] at hw
  have HW := Lib.hid hw
  have BB := Lib.hid hb
  clear hw hb
  have hc := HW.out.cell
  go_wp2_with fail
  refine (CR.out _).mono ?_
  rintro e w2 ⟨rfl, b⟩
  replace BB := Lib.hid (BB.out.trans (But.of_below b))
  replace HW := Lib.hid (HW.out.below b)
  clear b hc
  have c0 := (F.out.ra.but BB.out (by omega)).cell0
  go_wp2_with fail
  refine (HM.out _ _ (But.laid HT.out F.out.below BB.out (by omega)) HW.out).mono ?_
  rintro e w3 ⟨rfl, hw, hb⟩
  replace HW := Lib.hid hw
  replace BB := Lib.hid (BB.out.trans hb)
  clear hw hb c0
  have hc := HW.out.cell
  rw [hb2] at hc
  have RR := Lib.hid (F.out.rr.but BB.out (by omega))
  have q0 := RR.out.cell0
  have q1 := RR.out.cell1
  have qf0 := RR.out.frozen 0
  have qf1 := RR.out.frozen 1
  have ql := RR.out.lt
  go_wp2_with fail
  have RE := (RR.out.set0 (⟨#[]⟩ : ByteArray)).set1 (⟨#[]⟩ : ByteArray)
  have BE := ((F.out.below.trans (BB.out.below F.out.below.size (by omega))).setCell (p := ⟨w.heap.size + 1, 0, none⟩) (by show w.heap.size ≤ w.heap.size + 1; omega) (.string (⟨#[]⟩ : ByteArray))).setCell (p := ⟨w.heap.size + 1, 1, none⟩) (by show w.heap.size ≤ w.heap.size + 1; omega) (.string (⟨#[]⟩ : ByteArray))
  have z0 := RE.cell0
  have z1 := RE.cell1
  clear RE q0 q1
  generalize ((w3.setCell ⟨w.heap.size + 1, 0, none⟩ (.string (⟨#[]⟩ : ByteArray))).setCell ⟨w.heap.size + 1, 1, none⟩ (.string (⟨#[]⟩ : ByteArray))) = WE at *
  exact bodyPost_ret (v := .tuple #[.agg #[.string (⟨#[]⟩ : ByteArray), .string (⟨#[]⟩ : ByteArray)], .int .i64 40]) (by simp [results, Tryz.results69, go_sem, z0, z1]) rfl ⟨rfl, BE⟩
set_option maxRecDepth 100000 in
set_option maxHeartbeats 1000000 in
theorem roundR_down (a0 a1 : ByteArray) (p : Int) (h0 : fit a0) (h1 : fit a1) (hp : 0 ≤ p ∧ p ≤ 30) (hvr : vR (bl a0) (bl a1) = true) (n q rest : ByteArray)
    (hm : ∀ k W, Laid W → Wk W k false → Calls Tryz.prog 60 #[.pointer (some ⟨k, 0, none⟩), .string a0, .string (S' (ten p))] W fun e w' => e = .returned (.string n) ∧ Wk w' k false ∧ But k W w')
    (hd0 : ∀ W, Laid W → Calls Tryz.prog 58 #[.string n, .string a1] W fun e w' => e = .returned (.tuple #[.string q, .string rest, .int .i64 0]) ∧ Below W.heap.size W w')
    (r1 r2 : ByteArray) (r3 : Int) (hR : (∀ k W, (∀ W', But k W W' → Laid W') → Wk W k false → Calls Tryz.prog 57 #[.pointer (some ⟨k, 0, none⟩), .string q, .string (S' (ten p))] W fun e w' => e = .returned (.tuple #[.agg #[.string r1, .string r2], .int .i64 r3]) ∧ But k W w')) (w : World) (hT : Laid w) :
    Calls Tryz.prog 69 #[.agg #[.string a0, .string a1], .int .i64 p, .bool false] w fun e w' => e = .returned (.tuple #[.agg #[.string r1, .string r2], .int .i64 r3]) ∧ Below w.heap.size w w' := by
  have HM := Lib.hid hm
  have HD := Lib.hid hd0
  have HR := Lib.hid hR
  clear hm hd0 hR
  have C0 := Lib.hid (fun p k bad W hp hw hr hk => check_any p k 1 bad (fun _ => a0) (fun _ => a1) (fun _ => h0) (fun _ => h1) (by omega) W hp hw hr hk)
  have HT := Lib.hid hT
  have hbad : ∀ b, (b || !vR (bl a0) (bl a1)) = badTo b (fun _ => a0) (fun _ => a1) 1 := fun b => rfl
  have hd : decide (p < 0) = false := decide_eq_false (by omega)
  have hd2 : decide (p > 30) = false := decide_eq_false (by omega)
  have CR := Lib.hid (repeat_ten p hp.1 hp.2)
  have hone := one_zeros p
  have hzs : (lb (List.replicate p.toNat 48)).size ≤ 30 := by rw [lb_size, List.length_replicate]; omega
  generalize lb (List.replicate p.toNat 48) = Z at *
  have hsz : (⟨#[49]⟩ : ByteArray).size = 1 := rfl
  have hsum : ((⟨#[49]⟩ : ByteArray).size : Int) + (Z.size : Int) ≤ 9223372036854775807 := by rw [hsz]; omega
  clear hT h0 h1 hp
  go_enter Tryz.func69, Tryz.ntmps69
  go_wp2_with fail
  have F := Lib.hid (Fh.new w a0 a1 false)
  generalize (((w.alloc (.cells #[.string a0, .string a1] 23)).alloc (.cells #[.string ⟨#[]⟩, .string ⟨#[]⟩] 23)).alloc (.cells #[.bool false] 78)).alloc (.cells #[.string a0, .string a1] 23) = W4 at *
  refine (C0.out _ _ _ _ (fun W hb => But.laid HT.out F.out.below hb (by omega)) F.out.wk F.out.rows (by omega)).mono ?_
  rintro e w1 ⟨rfl, hw, hb⟩
  rw [← hbad, hvr, Bool.false_or, Bool.not_true] at hw
  have HW := Lib.hid hw
  have BB := Lib.hid hb
  clear hw hb
  have hc := HW.out.cell
  go_wp2_with fail
  refine (CR.out _).mono ?_
  rintro e w2 ⟨rfl, b⟩
  replace BB := Lib.hid (BB.out.trans (But.of_below b))
  replace HW := Lib.hid (HW.out.below b)
  clear b hc
  have c0 := (F.out.ra.but BB.out (by omega)).cell0
  go_wp2_with fail
  refine (HM.out _ _ (But.laid HT.out F.out.below BB.out (by omega)) HW.out).mono ?_
  rintro e w3 ⟨rfl, hw, hb⟩
  replace HW := Lib.hid hw
  replace BB := Lib.hid (BB.out.trans hb)
  clear hw hb c0
  have hc := HW.out.cell
  have hcf := HW.out.frozen
  have hcl := HW.out.lt
  have c1 := (F.out.ra.but BB.out (by omega)).cell1
  go_wp2_with fail
  refine (HD.out _ (But.laid HT.out F.out.below BB.out (by omega))).mono ?_
  rintro e w4 ⟨rfl, b⟩
  replace BB := Lib.hid (BB.out.trans (But.of_below b))
  replace HW := Lib.hid (HW.out.below b)
  clear b c1 hc hcf hcl
  have hc := HW.out.cell
  have hcf := HW.out.frozen
  have hcl := HW.out.lt
  go_wp2_with fail
  replace HW := Lib.hid (HW.out.set false)
  replace BB := Lib.hid (BB.out.trans (But.set _ w4 0 (.bool false)))
  clear hc hcf hcl
  generalize w4.setCell ⟨w.heap.size + 1 + 1, 0, none⟩ (.bool false) = W8 at *
  refine (HR.out _ _ (fun W hb => But.laid HT.out F.out.below (BB.out.trans hb) (by omega)) HW.out).mono ?_
  rintro e w5 ⟨rfl, hb⟩
  replace BB := Lib.hid (BB.out.trans hb)
  clear hb
  have RR := Lib.hid (F.out.rr.but BB.out (by omega))
  have q0 := RR.out.cell0
  have q1 := RR.out.cell1
  have qf0 := RR.out.frozen 0
  have qf1 := RR.out.frozen 1
  have ql := RR.out.lt
  go_wp2_with fail
  have RE := (RR.out.set0 (r1)).set1 (r2)
  have BE := ((F.out.below.trans (BB.out.below F.out.below.size (by omega))).setCell (p := ⟨w.heap.size + 1, 0, none⟩) (by show w.heap.size ≤ w.heap.size + 1; omega) (.string (r1))).setCell (p := ⟨w.heap.size + 1, 1, none⟩) (by show w.heap.size ≤ w.heap.size + 1; omega) (.string (r2))
  have z0 := RE.cell0
  have z1 := RE.cell1
  clear RE q0 q1
  generalize ((w5.setCell ⟨w.heap.size + 1, 0, none⟩ (.string (r1))).setCell ⟨w.heap.size + 1, 1, none⟩ (.string (r2))) = WE at *
  exact bodyPost_ret (v := .tuple #[.agg #[.string (r1), .string (r2)], .int .i64 r3]) (by simp [results, Tryz.results69, go_sem, z0, z1]) rfl ⟨rfl, BE⟩
set_option maxRecDepth 100000 in
set_option maxHeartbeats 1000000 in
theorem roundR_exact (a0 a1 : ByteArray) (p : Int) (h0 : fit a0) (h1 : fit a1) (hp : 0 ≤ p ∧ p ≤ 30) (hvr : vR (bl a0) (bl a1) = true) (n q rest : ByteArray)
    (hm : ∀ k W, Laid W → Wk W k false → Calls Tryz.prog 60 #[.pointer (some ⟨k, 0, none⟩), .string a0, .string (S' (ten p))] W fun e w' => e = .returned (.string n) ∧ Wk w' k false ∧ But k W w')
    (hd0 : ∀ W, Laid W → Calls Tryz.prog 58 #[.string n, .string a1] W fun e w' => e = .returned (.tuple #[.string q, .string rest, .int .i64 0]) ∧ Below W.heap.size W w') (hr : rest.toList = [48])
    (r1 r2 : ByteArray) (r3 : Int) (hR : (∀ k W, (∀ W', But k W W' → Laid W') → Wk W k false → Calls Tryz.prog 57 #[.pointer (some ⟨k, 0, none⟩), .string q, .string (S' (ten p))] W fun e w' => e = .returned (.tuple #[.agg #[.string r1, .string r2], .int .i64 r3]) ∧ But k W w')) (w : World) (hT : Laid w) :
    Calls Tryz.prog 69 #[.agg #[.string a0, .string a1], .int .i64 p, .bool true] w fun e w' => e = .returned (.tuple #[.agg #[.string r1, .string r2], .int .i64 r3]) ∧ Below w.heap.size w w' := by
  have HM := Lib.hid hm
  have HD := Lib.hid hd0
  have HR := Lib.hid hR
  clear hm hd0 hR
  have hrb : (rest.toList == ([48] : List UInt8)) = true := by rw [hr]; rfl
  have hrn : (rest.toList != ([48] : List UInt8)) = false := by rw [hr]; rfl
  have C0 := Lib.hid (fun p k bad W hp hw hr hk => check_any p k 1 bad (fun _ => a0) (fun _ => a1) (fun _ => h0) (fun _ => h1) (by omega) W hp hw hr hk)
  have HT := Lib.hid hT
  have hbad : ∀ b, (b || !vR (bl a0) (bl a1)) = badTo b (fun _ => a0) (fun _ => a1) 1 := fun b => rfl
  have hd : decide (p < 0) = false := decide_eq_false (by omega)
  have hd2 : decide (p > 30) = false := decide_eq_false (by omega)
  have CR := Lib.hid (repeat_ten p hp.1 hp.2)
  have hone := one_zeros p
  have hzs : (lb (List.replicate p.toNat 48)).size ≤ 30 := by rw [lb_size, List.length_replicate]; omega
  generalize lb (List.replicate p.toNat 48) = Z at *
  have hsz : (⟨#[49]⟩ : ByteArray).size = 1 := rfl
  have hsum : ((⟨#[49]⟩ : ByteArray).size : Int) + (Z.size : Int) ≤ 9223372036854775807 := by rw [hsz]; omega
  clear hT h0 h1 hp
  go_enter Tryz.func69, Tryz.ntmps69
  go_wp2_with fail
  have F := Lib.hid (Fh.new w a0 a1 false)
  generalize (((w.alloc (.cells #[.string a0, .string a1] 23)).alloc (.cells #[.string ⟨#[]⟩, .string ⟨#[]⟩] 23)).alloc (.cells #[.bool false] 78)).alloc (.cells #[.string a0, .string a1] 23) = W4 at *
  refine (C0.out _ _ _ _ (fun W hb => But.laid HT.out F.out.below hb (by omega)) F.out.wk F.out.rows (by omega)).mono ?_
  rintro e w1 ⟨rfl, hw, hb⟩
  rw [← hbad, hvr, Bool.false_or, Bool.not_true] at hw
  have HW := Lib.hid hw
  have BB := Lib.hid hb
  clear hw hb
  have hc := HW.out.cell
  go_wp2_with fail
  refine (CR.out _).mono ?_
  rintro e w2 ⟨rfl, b⟩
  replace BB := Lib.hid (BB.out.trans (But.of_below b))
  replace HW := Lib.hid (HW.out.below b)
  clear b hc
  have c0 := (F.out.ra.but BB.out (by omega)).cell0
  go_wp2_with fail
  refine (HM.out _ _ (But.laid HT.out F.out.below BB.out (by omega)) HW.out).mono ?_
  rintro e w3 ⟨rfl, hw, hb⟩
  replace HW := Lib.hid hw
  replace BB := Lib.hid (BB.out.trans hb)
  clear hw hb c0
  have hc := HW.out.cell
  have hcf := HW.out.frozen
  have hcl := HW.out.lt
  have c1 := (F.out.ra.but BB.out (by omega)).cell1
  go_wp2_with fail
  refine (HD.out _ (But.laid HT.out F.out.below BB.out (by omega))).mono ?_
  rintro e w4 ⟨rfl, b⟩
  replace BB := Lib.hid (BB.out.trans (But.of_below b))
  replace HW := Lib.hid (HW.out.below b)
  clear b c1 hc hcf hcl
  have hc := HW.out.cell
  have hcf := HW.out.frozen
  have hcl := HW.out.lt
  go_wp2_with fail
  replace HW := Lib.hid (HW.out.set false)
  replace BB := Lib.hid (BB.out.trans (But.set _ w4 0 (.bool false)))
  clear hc hcf hcl
  generalize w4.setCell ⟨w.heap.size + 1 + 1, 0, none⟩ (.bool false) = W8 at *
  refine (HR.out _ _ (fun W hb => But.laid HT.out F.out.below (BB.out.trans hb) (by omega)) HW.out).mono ?_
  rintro e w5 ⟨rfl, hb⟩
  replace BB := Lib.hid (BB.out.trans hb)
  clear hb
  have RR := Lib.hid (F.out.rr.but BB.out (by omega))
  have q0 := RR.out.cell0
  have q1 := RR.out.cell1
  have qf0 := RR.out.frozen 0
  have qf1 := RR.out.frozen 1
  have ql := RR.out.lt
  go_wp2_with fail
  have RE := (RR.out.set0 (r1)).set1 (r2)
  have BE := ((F.out.below.trans (BB.out.below F.out.below.size (by omega))).setCell (p := ⟨w.heap.size + 1, 0, none⟩) (by show w.heap.size ≤ w.heap.size + 1; omega) (.string (r1))).setCell (p := ⟨w.heap.size + 1, 1, none⟩) (by show w.heap.size ≤ w.heap.size + 1; omega) (.string (r2))
  have z0 := RE.cell0
  have z1 := RE.cell1
  clear RE q0 q1
  generalize ((w5.setCell ⟨w.heap.size + 1, 0, none⟩ (.string (r1))).setCell ⟨w.heap.size + 1, 1, none⟩ (.string (r2))) = WE at *
  exact bodyPost_ret (v := .tuple #[.agg #[.string (r1), .string (r2)], .int .i64 r3]) (by simp [results, Tryz.results69, go_sem, z0, z1]) rfl ⟨rfl, BE⟩
set_option maxRecDepth 100000 in
set_option maxHeartbeats 1000000 in
theorem roundR_up (a0 a1 : ByteArray) (p : Int) (q' : ByteArray) (h0 : fit a0) (h1 : fit a1) (hp : 0 ≤ p ∧ p ≤ 30) (hvr : vR (bl a0) (bl a1) = true) (n q rest : ByteArray)
    (hm : ∀ k W, Laid W → Wk W k false → Calls Tryz.prog 60 #[.pointer (some ⟨k, 0, none⟩), .string a0, .string (S' (ten p))] W fun e w' => e = .returned (.string n) ∧ Wk w' k false ∧ But k W w')
    (hd0 : ∀ W, Laid W → Calls Tryz.prog 58 #[.string n, .string a1] W fun e w' => e = .returned (.tuple #[.string q, .string rest, .int .i64 0]) ∧ Below W.heap.size W w') (hr : ¬ rest.toList = [48])
    (hadd : ∀ k W, Laid W → Wk W k false → Calls Tryz.prog 84 #[.pointer (some ⟨k, 0, none⟩), .func (.func 62) #[] #[], .string q, .string (⟨#[49]⟩ : ByteArray)] W fun e w' => e = .returned (.string q') ∧ Wk w' k false ∧ But k W w')
    (r1 r2 : ByteArray) (r3 : Int) (hR : (∀ k W, (∀ W', But k W W' → Laid W') → Wk W k false → Calls Tryz.prog 57 #[.pointer (some ⟨k, 0, none⟩), .string q', .string (S' (ten p))] W fun e w' => e = .returned (.tuple #[.agg #[.string r1, .string r2], .int .i64 r3]) ∧ But k W w')) (w : World) (hT : Laid w) :
    Calls Tryz.prog 69 #[.agg #[.string a0, .string a1], .int .i64 p, .bool true] w fun e w' => e = .returned (.tuple #[.agg #[.string r1, .string r2], .int .i64 r3]) ∧ Below w.heap.size w w' := by
  have HM := Lib.hid hm
  have HD := Lib.hid hd0
  have HR := Lib.hid hR
  have HA := Lib.hid hadd
  clear hm hd0 hR hadd
  have hrb : (rest.toList == ([48] : List UInt8)) = false := by simpa using hr
  have hrn : (rest.toList != ([48] : List UInt8)) = true := by simpa using hr
  have C0 := Lib.hid (fun p k bad W hp hw hr hk => check_any p k 1 bad (fun _ => a0) (fun _ => a1) (fun _ => h0) (fun _ => h1) (by omega) W hp hw hr hk)
  have HT := Lib.hid hT
  have hbad : ∀ b, (b || !vR (bl a0) (bl a1)) = badTo b (fun _ => a0) (fun _ => a1) 1 := fun b => rfl
  have hd : decide (p < 0) = false := decide_eq_false (by omega)
  have hd2 : decide (p > 30) = false := decide_eq_false (by omega)
  have CR := Lib.hid (repeat_ten p hp.1 hp.2)
  have hone := one_zeros p
  have hzs : (lb (List.replicate p.toNat 48)).size ≤ 30 := by rw [lb_size, List.length_replicate]; omega
  generalize lb (List.replicate p.toNat 48) = Z at *
  have hsz : (⟨#[49]⟩ : ByteArray).size = 1 := rfl
  have hsum : ((⟨#[49]⟩ : ByteArray).size : Int) + (Z.size : Int) ≤ 9223372036854775807 := by rw [hsz]; omega
  clear hT h0 h1 hp
  go_enter Tryz.func69, Tryz.ntmps69
  go_wp2_with fail
  have F := Lib.hid (Fh.new w a0 a1 false)
  generalize (((w.alloc (.cells #[.string a0, .string a1] 23)).alloc (.cells #[.string ⟨#[]⟩, .string ⟨#[]⟩] 23)).alloc (.cells #[.bool false] 78)).alloc (.cells #[.string a0, .string a1] 23) = W4 at *
  refine (C0.out _ _ _ _ (fun W hb => But.laid HT.out F.out.below hb (by omega)) F.out.wk F.out.rows (by omega)).mono ?_
  rintro e w1 ⟨rfl, hw, hb⟩
  rw [← hbad, hvr, Bool.false_or, Bool.not_true] at hw
  have HW := Lib.hid hw
  have BB := Lib.hid hb
  clear hw hb
  have hc := HW.out.cell
  go_wp2_with fail
  refine (CR.out _).mono ?_
  rintro e w2 ⟨rfl, b⟩
  replace BB := Lib.hid (BB.out.trans (But.of_below b))
  replace HW := Lib.hid (HW.out.below b)
  clear b hc
  have c0 := (F.out.ra.but BB.out (by omega)).cell0
  go_wp2_with fail
  refine (HM.out _ _ (But.laid HT.out F.out.below BB.out (by omega)) HW.out).mono ?_
  rintro e w3 ⟨rfl, hw, hb⟩
  replace HW := Lib.hid hw
  replace BB := Lib.hid (BB.out.trans hb)
  clear hw hb c0
  have hc := HW.out.cell
  have hcf := HW.out.frozen
  have hcl := HW.out.lt
  have c1 := (F.out.ra.but BB.out (by omega)).cell1
  go_wp2_with fail
  refine (HD.out _ (But.laid HT.out F.out.below BB.out (by omega))).mono ?_
  rintro e w4 ⟨rfl, b⟩
  replace BB := Lib.hid (BB.out.trans (But.of_below b))
  replace HW := Lib.hid (HW.out.below b)
  clear b c1 hc hcf hcl
  have hc := HW.out.cell
  have hcf := HW.out.frozen
  have hcl := HW.out.lt
  go_wp2_with fail
  replace HW := Lib.hid (HW.out.set false)
  replace BB := Lib.hid (BB.out.trans (But.set _ w4 0 (.bool false)))
  clear hc hcf hcl
  generalize w4.setCell ⟨w.heap.size + 1 + 1, 0, none⟩ (.bool false) = W8 at *
  refine (HA.out _ _ (But.laid HT.out F.out.below BB.out (by omega)) HW.out).mono ?_
  rintro e w6 ⟨rfl, hw, hb⟩
  replace HW := Lib.hid hw
  replace BB := Lib.hid (BB.out.trans hb)
  clear hw hb
  go_wp2_with fail
  refine (HR.out _ _ (fun W hb => But.laid HT.out F.out.below (BB.out.trans hb) (by omega)) HW.out).mono ?_
  rintro e w5 ⟨rfl, hb⟩
  replace BB := Lib.hid (BB.out.trans hb)
  clear hb
  have RR := Lib.hid (F.out.rr.but BB.out (by omega))
  have q0 := RR.out.cell0
  have q1 := RR.out.cell1
  have qf0 := RR.out.frozen 0
  have qf1 := RR.out.frozen 1
  have ql := RR.out.lt
  go_wp2_with fail
  have RE := (RR.out.set0 (r1)).set1 (r2)
  have BE := ((F.out.below.trans (BB.out.below F.out.below.size (by omega))).setCell (p := ⟨w.heap.size + 1, 0, none⟩) (by show w.heap.size ≤ w.heap.size + 1; omega) (.string (r1))).setCell (p := ⟨w.heap.size + 1, 1, none⟩) (by show w.heap.size ≤ w.heap.size + 1; omega) (.string (r2))
  have z0 := RE.cell0
  have z1 := RE.cell1
  clear RE q0 q1
  generalize ((w5.setCell ⟨w.heap.size + 1, 0, none⟩ (.string (r1))).setCell ⟨w.heap.size + 1, 1, none⟩ (.string (r2))) = WE at *
  exact bodyPost_ret (v := .tuple #[.agg #[.string (r1), .string (r2)], .int .i64 r3]) (by simp [results, Tryz.results69, go_sem, z0, z1]) rfl ⟨rfl, BE⟩
end Go.Proofs.YtfdjdmkpcdbmkaaGreatDoor

/-
  rational.go: Down, Up.
-/
namespace Go.Proofs.YtfdjdmkpcdbmkaaGreatDoor
open Go.RowKit Go.Lib

def roundQ (up : Bool) (r : Txt) (p : Int) : Txt × Int := if up then upQ r p else downQ r p
theorem roundQ_no {up : Bool} {r : Txt} {p : Int} (h : (inGrid p && ratValid r) = false) : roundQ up r p = (none2, errRational) := by
  unfold roundQ upQ downQ
  have e : (decide (0 ≤ p) && decide (p ≤ 30) && ratValid r) = false := h
  simp only [e, Bool.false_and, reduceS_false]
  cases up <;> rfl
theorem div_up {N d : Int} (hd : 0 < d) (hN : N.natAbs < lim) (h0 : N % d ≠ 0) : (N / d + 1).natAbs < lim := by
  have e := Int.mul_ediv_add_emod N d
  have b1 := Int.emod_nonneg N (by omega : d ≠ 0)
  have b2 := Int.emod_lt_of_pos N hd
  have hle := Int.natAbs_ediv_le_natAbs N d
  generalize N / d = k at *
  generalize N % d = r at *
  by_cases hk : 0 ≤ k
  · have h2 : 2 * k ≤ d * k := Int.mul_le_mul_of_nonneg_right (by omega) hk
    omega
  · omega
theorem roundR_any (a0 a1 : ByteArray) (p : Int) (up : Bool) (h0 : fit a0) (h1 : fit a1) (w : World) (hT : Laid w) :
    Calls Tryz.prog 69 #[.agg #[.string a0, .string a1], .int .i64 p, .bool up] w fun e w' =>
      e = .returned (.tuple #[.agg #[.string (lb (roundQ up (bl a0, bl a1) p).1.1), .string (lb (roundQ up (bl a0, bl a1) p).1.2)], .int .i64 (roundQ up (bl a0, bl a1) p).2]) ∧ Below w.heap.size w w' := by
  cases hv : (inGrid p && ratValid (bl a0, bl a1)) with
  | false =>
    rw [roundQ_no hv]
    exact roundR_no a0 a1 p up h0 h1 (by rw [vR_eq]; exact hv) w hT
  | true =>
    rw [Bool.and_eq_true] at hv
    obtain ⟨hg, hval⟩ := hv
    obtain ⟨q, eq, hq⟩ := rat_of hval
    have hp : 0 ≤ p ∧ p ≤ 30 := by unfold inGrid at hg; simpa using hg
    have e := fun {a : ByteArray} {z : Int} (h : bl a = str z) => (show a = S' z by unfold S'; rw [← h, lb_bl])
    have x1 : a0 = S' q.num := e (congrArg Prod.fst eq)
    have x2 : a1 = S' (q.den : Int) := e (congrArg Prod.snd eq)
    have hd : ((q.den : Int)).natAbs < lim := denLt hq
    have hd0 := denI_pos q
    have ht := ten_lt hp.2
    have hvr : vR (bl a0) (bl a1) = true := by rw [vR_eq]; exact hval
    rw [eq]
    subst x1 x2
    have hm := fun (k : Nat) (W : World) (hT : Laid W) (hw : Wk W k false) => mul_rat k false (S' q.num) (S' (ten p)) (fitS' hq.1) (fitS' ht) W hT hw
    simp only [blS'] at hm
    rw [doS_mul hq.1 ht] at hm
    have hr : roundQ up (rt q) p = outQ (fits (q.num * ten p)) (if up then upR q p else downR q p) := by
      unfold roundQ
      have hg2 : gridFit q p = fits (q.num * ten p) := by unfold gridFit; rw [decide_eq_true hp.1, decide_eq_true hp.2]; rfl
      cases up
      · rw [if_neg (by simp), downQ_rt hq, hg2]; rfl
      · rw [if_pos rfl, upQ_rt hq, hg2]; rfl
    rw [hr]
    cases hf : fits (q.num * ten p) with
    | false =>
      rw [hf] at hm
      exact roundR_big _ _ p up (fitS' hq.1) (fitS' hd) hp hvr [] true hm rfl w hT
    | true =>
      rw [hf] at hm
      have hN := fits_iff.1 hf
      have hk : ((q.num * ten p) / (q.den : Int)).natAbs < lim := Nat.lt_of_le_of_lt (Int.natAbs_ediv_le_natAbs _ _) hN
      have hD := fun (W : World) (hT : Laid W) => div_call hN hd (by omega) W hT
      have out : ∀ (z : Int) (hz : z.natAbs < lim), (∀ k W, (∀ W', But k W W' → Laid W') → Wk W k false → Calls Tryz.prog 57 #[.pointer (some ⟨k, 0, none⟩), .string (S' z), .string (S' (ten p))] W fun e w' =>
          e = .returned (.tuple #[.agg #[.string (lb (rt (Rat.divInt z (ten p))).1), .string (lb (rt (Rat.divInt z (ten p))).2)], .int .i64 0]) ∧ But k W w') := by
        intro z hz k W hb hw
        have := reduced_any k false (S' z) (S' (ten p)) (fitS' hz) (fitS' ht) W hb hw
        rw [blS', blS', redS_reduce (fits_iff.2 hz) (fits_iff.2 ht), reduceS_out (by have := ten_pos p; omega)] at this
        exact this
      cases up with
      | false => exact roundR_down _ _ p (fitS' hq.1) (fitS' hd) hp hvr _ _ _ hm hD _ _ _ (out _ hk) w hT
      | true =>
        by_cases hz : q.num * ten p % (q.den : Int) = 0
        · have := roundR_exact _ _ p (fitS' hq.1) (fitS' hd) hp hvr _ _ _ hm hD (S'0.2 hz) _ _ _ (out _ hk) w hT
          rw [if_pos rfl]
          unfold upR
          rw [if_pos hz]
          exact this
        · have hu := div_up hd0 hN hz
          have hadd := fun (k : Nat) (W : World) (hT : Laid W) (hw : Wk W k false) => do_add k false (S' ((q.num * ten p) / (q.den : Int))) (⟨#[49]⟩ : ByteArray) (fitS' hk) (by decide) W hT hw
          simp only [blS', show bl (⟨#[49]⟩ : ByteArray) = str 1 from str_one.symm] at hadd
          rw [doS_add hk (by decide), if_pos (fits_iff.2 hu)] at hadd
          have := roundR_up _ _ p _ (fitS' hq.1) (fitS' hd) hp hvr _ _ _ hm hD (fun h => hz (S'0.1 h)) hadd _ _ _ (out _ hu) w hT
          rw [if_pos rfl]
          unfold upR
          rw [if_neg hz]
          exact this
/-- Two boxes: a fraction, and a result's. -/
structure Fd (w W : World) (a0 a1 : ByteArray) : Prop where
  below : Below w.heap.size w W
  rr : Rt W (w.heap.size + 1) ⟨#[]⟩ ⟨#[]⟩
theorem Fd.new (w : World) (a0 a1 : ByteArray) : Fd w ((w.alloc (.cells #[.string a0, .string a1] 23)).alloc (.cells #[.string ⟨#[]⟩, .string ⟨#[]⟩] 23)) a0 a1 := by
  have h := Fc.new w a0 a1 ⟨#[]⟩ ⟨#[]⟩
  exact ⟨h.below, h.rb⟩
set_option maxRecDepth 100000 in
theorem downR_any (a0 a1 : ByteArray) (p : Int) (ha0 : fit a0) (ha1 : fit a1) (w : World) (hT : Laid w) :
    Calls Tryz.prog 35 #[.agg #[.string a0, .string a1], .int .i64 p] w fun e w' =>
      e = .returned (.tuple #[.agg #[.string (lb (downQ (bl a0, bl a1) p).1.1), .string (lb (downQ (bl a0, bl a1) p).1.2)], .int .i64 (downQ (bl a0, bl a1) p).2]) ∧ Below w.heap.size w w' := by
  have C := Lib.hid (fun w hT => roundR_any a0 a1 p false ha0 ha1 w hT)
  have HT := Lib.hid hT
  rw [show roundQ false (bl a0, bl a1) p = downQ (bl a0, bl a1) p from rfl] at C
  generalize downQ (bl a0, bl a1) p = r at *
  obtain ⟨⟨r1, r2⟩, r3⟩ := r
  clear hT ha0 ha1
  go_enter Tryz.func35, Tryz.ntmps35
  go_wp2_with fail
  have F3 := Fd.new w a0 a1
  generalize (w.alloc (.cells #[.string a0, .string a1] 23)).alloc (.cells #[.string ⟨#[]⟩, .string ⟨#[]⟩] 23) = W3 at *
  refine (C.out _ (HT.out.on F3.below)).mono ?_
  rintro e w1 ⟨rfl, b⟩
  have BB := Lib.hid (bthen' F3.below b)
  have RR := Lib.hid (F3.rr.below b)
  clear b F3
  have q0 := RR.out.cell0
  have q1 := RR.out.cell1
  have qf0 := RR.out.frozen 0
  have qf1 := RR.out.frozen 1
  have ql := RR.out.lt
  go_wp2_with fail
  have RE := (RR.out.set0 (lb r1)).set1 (lb r2)
  have BE := (BB.out.setCell (p := ⟨w.heap.size + 1, 0, none⟩) (by show w.heap.size ≤ w.heap.size + 1; omega) (.string (lb r1))).setCell (p := ⟨w.heap.size + 1, 1, none⟩) (by show w.heap.size ≤ w.heap.size + 1; omega) (.string (lb r2))
  have z0 := RE.cell0
  have z1 := RE.cell1
  clear RE q0 q1
  generalize ((w1.setCell ⟨w.heap.size + 1, 0, none⟩ (.string (lb r1))).setCell ⟨w.heap.size + 1, 1, none⟩ (.string (lb r2))) = WE at *
  exact bodyPost_ret (v := .tuple #[.agg #[.string (lb r1), .string (lb r2)], .int .i64 r3]) (by simp [results, Tryz.results35, go_sem, z0, z1]) rfl ⟨rfl, BE⟩
set_option maxRecDepth 100000 in
theorem upR_any (a0 a1 : ByteArray) (p : Int) (ha0 : fit a0) (ha1 : fit a1) (w : World) (hT : Laid w) :
    Calls Tryz.prog 37 #[.agg #[.string a0, .string a1], .int .i64 p] w fun e w' =>
      e = .returned (.tuple #[.agg #[.string (lb (upQ (bl a0, bl a1) p).1.1), .string (lb (upQ (bl a0, bl a1) p).1.2)], .int .i64 (upQ (bl a0, bl a1) p).2]) ∧ Below w.heap.size w w' := by
  have C := Lib.hid (fun w hT => roundR_any a0 a1 p true ha0 ha1 w hT)
  have HT := Lib.hid hT
  rw [show roundQ true (bl a0, bl a1) p = upQ (bl a0, bl a1) p from rfl] at C
  generalize upQ (bl a0, bl a1) p = r at *
  obtain ⟨⟨r1, r2⟩, r3⟩ := r
  clear hT ha0 ha1
  go_enter Tryz.func37, Tryz.ntmps37
  go_wp2_with fail
  have F3 := Fd.new w a0 a1
  generalize (w.alloc (.cells #[.string a0, .string a1] 23)).alloc (.cells #[.string ⟨#[]⟩, .string ⟨#[]⟩] 23) = W3 at *
  refine (C.out _ (HT.out.on F3.below)).mono ?_
  rintro e w1 ⟨rfl, b⟩
  have BB := Lib.hid (bthen' F3.below b)
  have RR := Lib.hid (F3.rr.below b)
  clear b F3
  have q0 := RR.out.cell0
  have q1 := RR.out.cell1
  have qf0 := RR.out.frozen 0
  have qf1 := RR.out.frozen 1
  have ql := RR.out.lt
  go_wp2_with fail
  have RE := (RR.out.set0 (lb r1)).set1 (lb r2)
  have BE := (BB.out.setCell (p := ⟨w.heap.size + 1, 0, none⟩) (by show w.heap.size ≤ w.heap.size + 1; omega) (.string (lb r1))).setCell (p := ⟨w.heap.size + 1, 1, none⟩) (by show w.heap.size ≤ w.heap.size + 1; omega) (.string (lb r2))
  have z0 := RE.cell0
  have z1 := RE.cell1
  clear RE q0 q1
  generalize ((w1.setCell ⟨w.heap.size + 1, 0, none⟩ (.string (lb r1))).setCell ⟨w.heap.size + 1, 1, none⟩ (.string (lb r2))) = WE at *
  exact bodyPost_ret (v := .tuple #[.agg #[.string (lb r1), .string (lb r2)], .int .i64 r3]) (by simp [results, Tryz.results37, go_sem, z0, z1]) rfl ⟨rfl, BE⟩
end Go.Proofs.YtfdjdmkpcdbmkaaGreatDoor

/-
  A fraction's text, and what is read of a text. No program in this text.
-/
namespace Go.Proofs.YtfdjdmkpcdbmkaaGreatDoor
open Go.Lib

/-- What stands before and behind the first slash. -/
def cut47 : List UInt8 → Option (List UInt8 × List UInt8)
  | [] => none
  | b :: l => if b = 47 then some ([], l) else (cut47 l).map fun p => (b :: p.1, p.2)
theorem cut47_no {l : List UInt8} (h : ∀ b ∈ l, b ≠ 47) : cut47 l = none := by
  induction l with
  | nil => rfl
  | cons b l ih =>
    unfold cut47
    rw [if_neg (h b (by simp)), ih (fun x hx => h x (by simp [hx]))]; rfl
theorem cut47_at {l : List UInt8} (h : ∀ b ∈ l, b ≠ 47) (r : List UInt8) : cut47 (l ++ 47 :: r) = some (l, r) := by
  induction l with
  | nil => show cut47 (47 :: r) = _; unfold cut47; rw [if_pos rfl]
  | cons b l ih =>
    show cut47 (b :: (l ++ 47 :: r)) = _
    unfold cut47
    rw [if_neg (h b (by simp)), ih (fun x hx => h x (by simp [hx]))]; rfl
theorem cut47_some {l : List UInt8} {p : List UInt8 × List UInt8} (h : cut47 l = some p) : l = p.1 ++ 47 :: p.2 ∧ ∀ b ∈ p.1, b ≠ 47 := by
  induction l generalizing p with
  | nil => cases h
  | cons b l ih =>
    unfold cut47 at h
    split at h
    · rename_i hb; subst hb; cases h; exact ⟨rfl, by simp⟩
    · rename_i hb
      cases hc : cut47 l with
      | none => rw [hc] at h; cases h
      | some q =>
        rw [hc] at h
        cases h
        obtain ⟨h1, h2⟩ := ih hc
        exact ⟨by rw [h1]; rfl, fun x hx => by rcases List.mem_cons.1 hx with rfl | hx; exact hb; exact h2 x hx⟩
theorem cut47_none {l : List UInt8} (h : cut47 l = none) : ∀ b ∈ l, b ≠ 47 := by
  induction l with
  | nil => simp
  | cons b l ih =>
    unfold cut47 at h
    split at h
    · cases h
    · rename_i hb
      have hc : cut47 l = none := by
        cases hc : cut47 l with
        | none => rfl
        | some q => rw [hc] at h; cases h
      exact fun x hx => by rcases List.mem_cons.1 hx with rfl | hx; exact hb; exact ih hc x hx
/-- Parse, on texts. -/
def readT (s : List UInt8) : Txt := match cut47 s with | some p => p | none => (s, [49])
def parseS (s : List UInt8) : Txt × Int := if printS (readT s) = s ∧ s ≠ [] then (readT s, 0) else (none2, errRational)
theorem str_no47 (z : Int) : ∀ b ∈ str z, b ≠ 47 := by
  have hd : ∀ n : Nat, ∀ b ∈ decDigits n, b ≠ 47 := by
    intro n b hb h
    subst h
    have := dec_isDig n _ hb
    unfold isDig at this
    simp at this
  intro b hb
  unfold str at hb
  split at hb
  · rcases List.mem_cons.1 hb with rfl | hb
    · decide
    · exact hd _ b hb
  · exact hd _ b hb
theorem printS_rt {q : Rat} (h : okR q) : printS (rt q) = if q.den = 1 then str q.num else str q.num ++ 47 :: str (q.den : Int) := by
  unfold printS
  rw [ratValid_rt h, if_pos rfl]
  have e : ((rt q).2 = [49]) ↔ q.den = 1 := by
    show str (q.den : Int) = [49] ↔ _
    rw [← str_one]
    exact ⟨fun h => by have := str_inj h; omega, fun h => by rw [h]; rfl⟩
  by_cases h1 : q.den = 1
  · rw [if_pos (e.2 h1), if_pos h1]; rfl
  · rw [if_neg (fun h => h1 (e.1 h)), if_neg h1]; rfl
theorem printS_no {r : Txt} (h : ratValid r = false) : printS r = [] := by unfold printS; rw [h]; rfl
theorem printS_nil {r : Txt} : printS r = [] ↔ ratValid r = false := by
  constructor
  · intro h
    cases hv : ratValid r with
    | false => rfl
    | true =>
      obtain ⟨q, rfl, hq⟩ := rat_of hv
      rw [printS_rt hq] at h
      split at h
      · exact absurd h (str_ne_nil _)
      · simp at h
  · exact printS_no
theorem readT_print {q : Rat} (h : okR q) : readT (printS (rt q)) = rt q := by
  rw [printS_rt h]
  unfold readT
  split
  · rename_i p hp
    split at hp
    · rw [cut47_no (str_no47 _)] at hp; cases hp
    · rw [cut47_at (str_no47 _)] at hp; cases hp; rfl
  · rename_i hp
    split at hp
    · rename_i h1
      rw [if_pos h1]
      show _ = (str q.num, str (q.den : Int))
      rw [h1]
      rw [show ((1 : Nat) : Int) = 1 from rfl, str_one]
    · rw [cut47_at (str_no47 _)] at hp; cases hp
theorem parse_print {q : Rat} (h : okR q) : parseS (printS (rt q)) = (rt q, 0) := by
  unfold parseS
  have hne : printS (rt q) ≠ [] := fun h0 => Bool.noConfusion ((ratValid_rt h).symm.trans (printS_nil.1 h0))
  rw [readT_print h, if_pos ⟨rfl, hne⟩]
theorem parse_nil : parseS [] = (none2, errRational) := by unfold parseS; rw [if_neg (by simp)]
/-- The reference asks whether the fraction is valid, and not whether the text is empty. -/
theorem parseS_valid (s : List UInt8) : parseS s = if ratValid (readT s) = true ∧ printS (readT s) = s then (readT s, 0) else (none2, errRational) := by
  unfold parseS
  by_cases h1 : printS (readT s) = s
  · by_cases h2 : s = []
    · rw [if_neg (by simp [h2]), if_neg]
      rintro ⟨hv, _⟩
      exact Bool.noConfusion (hv.symm.trans (printS_nil.1 (h1.trans h2)))
    · have hv : ratValid (readT s) = true := by
        cases hv : ratValid (readT s) with
        | true => rfl
        | false => exact absurd (h1.symm.trans (printS_no hv)) h2
      rw [if_pos ⟨h1, h2⟩, if_pos ⟨hv, h1⟩]
  · rw [if_neg (fun h => h1 h.1), if_neg (fun h => h1 h.2)]
theorem parse_ok {s : List UInt8} (h : (parseS s).2 = 0) : printS (parseS s).1 = s := by
  unfold parseS at *
  split at h
  · rename_i h1; rw [if_pos h1]; exact h1.1
  · exact absurd h (by decide)
end Go.Proofs.YtfdjdmkpcdbmkaaGreatDoor

/-
  The laws of fractions, on texts, by Lean's rational numbers. No program in this text.
-/
namespace Go.Proofs.YtfdjdmkpcdbmkaaGreatDoor

theorem outQ_ok {ok : Bool} {q : Rat} (h : (outQ ok q).2 = 0) : ok = true ∧ (outQ ok q).1 = rt q := by
  unfold outQ at *
  cases ok with
  | true => exact ⟨rfl, rfl⟩
  | false => exact absurd (show errRational = 0 from h) (by decide)
theorem outQ_no {ok : Bool} {q : Rat} (h : (outQ ok q).2 ≠ 0) : outQ ok q = (none2, errRational) := by
  unfold outQ at *
  cases ok with
  | true => exact absurd rfl h
  | false => rfl
theorem valid_both {s t : Txt} : (ratValid s && ratValid t) = false ∨ ∃ a b : Rat, s = rt a ∧ t = rt b ∧ okR a ∧ okR b := by
  cases h1 : ratValid s with
  | false => exact .inl rfl
  | true =>
    cases h2 : ratValid t with
    | false => exact .inl rfl
    | true =>
      obtain ⟨a, ha, oa⟩ := rat_of h1
      obtain ⟨b, hb, ob⟩ := rat_of h2
      exact .inr ⟨a, b, ha, hb, oa, ob⟩
theorem reduceS_no (n d : Int) : reduceS false n d = (none2, errRational) := by unfold reduceS; rw [Bool.false_and]; rfl
theorem addQ_no {s t : Txt} (h : (ratValid s && ratValid t) = false) : addQ s t = (none2, errRational) := by
  unfold addQ; simp only [h, Bool.false_and]; exact reduceS_no _ _
theorem subQ_no {s t : Txt} (h : (ratValid s && ratValid t) = false) : subQ s t = (none2, errRational) := by
  unfold subQ; simp only [h, Bool.false_and]; exact reduceS_no _ _
theorem mulQ_no {s t : Txt} (h : (ratValid s && ratValid t) = false) : mulQ s t = (none2, errRational) := by
  unfold mulQ; simp only [h, Bool.false_and]; exact reduceS_no _ _
theorem divQ_no {s t : Txt} (h : (ratValid s && ratValid t) = false) : divQ s t = (none2, errRational) := by
  unfold divQ; simp only [h, Bool.false_and]; exact reduceS_no _ _
theorem addQ_ok {s t : Txt} (h : (addQ s t).2 = 0) : ∃ a b : Rat, s = rt a ∧ t = rt b ∧ okR a ∧ okR b ∧ okR (a + b) ∧ (addQ s t).1 = rt (a + b) := by
  rcases valid_both (s := s) (t := t) with hn | ⟨a, b, rfl, rfl, oa, ob⟩
  · rw [addQ_no hn] at h; exact absurd h (by decide)
  · rw [addQ_rt oa ob] at h ⊢
    obtain ⟨hf, he⟩ := outQ_ok h
    exact ⟨a, b, rfl, rfl, oa, ob, okR_add hf, he⟩
theorem subQ_ok {s t : Txt} (h : (subQ s t).2 = 0) : ∃ a b : Rat, s = rt a ∧ t = rt b ∧ okR a ∧ okR b ∧ okR (a - b) ∧ (subQ s t).1 = rt (a - b) := by
  rcases valid_both (s := s) (t := t) with hn | ⟨a, b, rfl, rfl, oa, ob⟩
  · rw [subQ_no hn] at h; exact absurd h (by decide)
  · rw [subQ_rt oa ob] at h ⊢
    obtain ⟨hf, he⟩ := outQ_ok h
    exact ⟨a, b, rfl, rfl, oa, ob, okR_sub hf, he⟩
theorem mulQ_ok {s t : Txt} (h : (mulQ s t).2 = 0) : ∃ a b : Rat, s = rt a ∧ t = rt b ∧ okR a ∧ okR b ∧ okR (a * b) ∧ (mulQ s t).1 = rt (a * b) := by
  rcases valid_both (s := s) (t := t) with hn | ⟨a, b, rfl, rfl, oa, ob⟩
  · rw [mulQ_no hn] at h; exact absurd h (by decide)
  · rw [mulQ_rt oa ob] at h ⊢
    obtain ⟨hf, he⟩ := outQ_ok h
    exact ⟨a, b, rfl, rfl, oa, ob, okR_mul hf, he⟩
theorem divFit_ne {a b : Rat} (h : divFit a b = true) : b ≠ 0 := by
  unfold divFit at h
  simp only [Bool.and_eq_true, decide_eq_true_eq] at h
  exact h.2
theorem divQ_ok {s t : Txt} (h : (divQ s t).2 = 0) : ∃ a b : Rat, s = rt a ∧ t = rt b ∧ okR a ∧ okR b ∧ okR (a / b) ∧ b ≠ 0 ∧ (divQ s t).1 = rt (a / b) := by
  rcases valid_both (s := s) (t := t) with hn | ⟨a, b, rfl, rfl, oa, ob⟩
  · rw [divQ_no hn] at h; exact absurd h (by decide)
  · rw [divQ_rt oa ob] at h ⊢
    obtain ⟨hf, he⟩ := outQ_ok h
    exact ⟨a, b, rfl, rfl, oa, ob, okR_div hf, divFit_ne hf, he⟩

/-! ### RationalField -/
theorem addFit_comm (a b : Rat) : addFit a b = addFit b a := by
  unfold addFit
  rw [Int.add_comm (a.num * b.den), Int.mul_comm (a.den : Int), Bool.and_comm (fits (a.num * b.den))]
theorem mulFit_comm (a b : Rat) : mulFit a b = mulFit b a := by
  unfold mulFit
  rw [Int.mul_comm a.num, Int.mul_comm (a.den : Int)]
theorem addQ_comm (s t : Txt) : addQ s t = addQ t s := by
  rcases valid_both (s := s) (t := t) with hn | ⟨a, b, rfl, rfl, oa, ob⟩
  · rw [addQ_no hn, addQ_no (by rw [Bool.and_comm]; exact hn)]
  · rw [addQ_rt oa ob, addQ_rt ob oa, addFit_comm, Rat.add_comm]
theorem mulQ_comm (s t : Txt) : mulQ s t = mulQ t s := by
  rcases valid_both (s := s) (t := t) with hn | ⟨a, b, rfl, rfl, oa, ob⟩
  · rw [mulQ_no hn, mulQ_no (by rw [Bool.and_comm]; exact hn)]
  · rw [mulQ_rt oa ob, mulQ_rt ob oa, mulFit_comm, Rat.mul_comm]
theorem field_add {s t u : Txt} (h1 : (addQ s t).2 = 0) (h2 : (addQ t u).2 = 0) (h3 : (addQ (addQ s t).1 u).2 = 0) (h4 : (addQ s (addQ t u).1).2 = 0) : (addQ (addQ s t).1 u).1 = (addQ s (addQ t u).1).1 := by
  obtain ⟨a, b, rfl, rfl, oa, ob, oab, e1⟩ := addQ_ok h1
  obtain ⟨b', c, hb, rfl, _, oc, obc, e2⟩ := addQ_ok h2
  obtain rfl := rt_inj hb
  rw [e1] at h3 ⊢
  rw [e2] at h4 ⊢
  rw [addQ_rt oab oc] at h3 ⊢
  rw [addQ_rt oa obc] at h4 ⊢
  rw [(outQ_ok h3).2, (outQ_ok h4).2, Rat.add_assoc]
theorem field_mul {s t u : Txt} (h1 : (mulQ s t).2 = 0) (h2 : (mulQ t u).2 = 0) (h3 : (mulQ s (mulQ t u).1).2 = 0) (h4 : (mulQ (mulQ s t).1 u).2 = 0) : (mulQ s (mulQ t u).1).1 = (mulQ (mulQ s t).1 u).1 := by
  obtain ⟨a, b, rfl, rfl, oa, ob, oab, e1⟩ := mulQ_ok h1
  obtain ⟨b', c, hb, rfl, _, oc, obc, e2⟩ := mulQ_ok h2
  obtain rfl := rt_inj hb
  rw [e1] at h4 ⊢
  rw [e2] at h3 ⊢
  rw [mulQ_rt oab oc] at h4 ⊢
  rw [mulQ_rt oa obc] at h3 ⊢
  rw [(outQ_ok h3).2, (outQ_ok h4).2, Rat.mul_assoc]
theorem field_dist {s t u : Txt} (h1 : (addQ s t).2 = 0) (h2 : (mulQ s u).2 = 0) (h3 : (mulQ t u).2 = 0) (h4 : (addQ (mulQ s u).1 (mulQ t u).1).2 = 0) (h5 : (mulQ (addQ s t).1 u).2 = 0) :
    (addQ (mulQ s u).1 (mulQ t u).1).1 = (mulQ (addQ s t).1 u).1 := by
  obtain ⟨a, b, rfl, rfl, oa, ob, oab, e1⟩ := addQ_ok h1
  obtain ⟨a', c, ha, rfl, _, oc, oac, e2⟩ := mulQ_ok h2
  obtain rfl := rt_inj ha
  obtain ⟨b', c', hb, hc, _, _, obc, e3⟩ := mulQ_ok h3
  obtain rfl := rt_inj hb
  obtain rfl := rt_inj hc
  rw [e1] at h5 ⊢
  rw [e2, e3] at h4 ⊢
  rw [mulQ_rt oab oc] at h5 ⊢
  rw [addQ_rt oac obc] at h4 ⊢
  rw [(outQ_ok h4).2, (outQ_ok h5).2, Rat.add_mul]
theorem field_sub {s t : Txt} (h1 : (addQ s t).2 = 0) (h2 : (subQ (addQ s t).1 t).2 = 0) : (subQ (addQ s t).1 t).1 = s := by
  obtain ⟨a, b, rfl, rfl, oa, ob, oab, e1⟩ := addQ_ok h1
  rw [e1] at h2 ⊢
  rw [subQ_rt oab ob] at h2 ⊢
  rw [(outQ_ok h2).2]
  congr 1; grind
theorem field_div {s t : Txt} (h1 : (divQ s t).2 = 0) (h2 : (mulQ (divQ s t).1 t).2 = 0) : (mulQ (divQ s t).1 t).1 = s := by
  obtain ⟨a, b, rfl, rfl, oa, ob, oab, hb, e1⟩ := divQ_ok h1
  rw [e1] at h2 ⊢
  rw [mulQ_rt oab ob] at h2 ⊢
  rw [(outQ_ok h2).2]
  congr 1; grind
/-- Small fractions. -/
def smallR (q : Rat) : Prop := q.num.natAbs ≤ 999 ∧ q.den ≤ 60
theorem fits_le {z : Int} (h : z.natAbs ≤ 10 ^ 100) : fits z = true := by
  rw [fits_iff]
  exact Nat.lt_of_le_of_lt h (by decide +kernel)
theorem mul_le {a b : Int} {m n k : Nat} (ha : a.natAbs ≤ m) (hb : b.natAbs ≤ n) (hk : m * n ≤ k) : (a * b).natAbs ≤ k := by
  rw [Int.natAbs_mul]
  exact Nat.le_trans (Nat.mul_le_mul ha hb) hk
theorem small_ok {q : Rat} (h : smallR q) : okR q :=
  ⟨Nat.lt_of_le_of_lt h.1 (by decide +kernel), Nat.lt_of_le_of_lt h.2 (by decide +kernel)⟩
theorem small_add {a b : Rat} (ha : smallR a) (hb : smallR b) : addFit a b = true := by
  have h1 : (a.num * b.den).natAbs ≤ 60000 := mul_le ha.1 (n := 60) (by have := hb.2; omega) (by omega)
  have h2 : (b.num * a.den).natAbs ≤ 60000 := mul_le hb.1 (n := 60) (by have := ha.2; omega) (by omega)
  have h3 : ((a.den : Int) * b.den).natAbs ≤ 60000 := mul_le (m := 60) (n := 60) (by have := ha.2; omega) (by have := hb.2; omega) (by omega)
  unfold addFit
  generalize a.num * b.den = x at *
  generalize b.num * a.den = y at *
  generalize (a.den : Int) * b.den = z at *
  have big : (1000000 : Nat) ≤ 10 ^ 100 := by decide +kernel
  rw [fits_le (by omega), fits_le (by omega), fits_le (by omega), fits_le (by omega)]
  rfl
theorem small_mul {a b : Rat} (ha : smallR a) (hb : smallR b) : mulFit a b = true := by
  have h1 : (a.num * b.num).natAbs ≤ 1000000 := mul_le ha.1 hb.1 (by omega)
  have h3 : ((a.den : Int) * b.den).natAbs ≤ 60000 := mul_le (m := 60) (n := 60) (by have := ha.2; omega) (by have := hb.2; omega) (by omega)
  unfold mulFit
  generalize a.num * b.num = x at *
  generalize (a.den : Int) * b.den = z at *
  have big : (1000000 : Nat) ≤ 10 ^ 100 := by decide +kernel
  rw [fits_le (by omega), fits_le (by omega)]
  rfl

/-! ### RationalOrder -/
theorem cmpR_swap (a b : Rat) : cmpR b a = -cmpR a b := by
  rcases cmpR_cases a b with ⟨h, e⟩ | ⟨h, e⟩ | ⟨h, e⟩
  · rw [e, cmpR_gt h]; rfl
  · rw [e, cmpR_eq h.symm]; rfl
  · rw [e, cmpR_lt h]
theorem cmpR_zero {a b : Rat} : cmpR a b = 0 ↔ a = b := by
  rcases cmpR_cases a b with ⟨h, e⟩ | ⟨h, e⟩ | ⟨h, e⟩ <;> rw [e] <;> constructor <;> intro h' <;> grind
theorem cmpR_le {a b : Rat} : cmpR a b ≤ 0 ↔ a ≤ b := by
  rcases cmpR_cases a b with ⟨h, e⟩ | ⟨h, e⟩ | ⟨h, e⟩ <;> rw [e] <;> constructor <;> intro h' <;> grind
theorem cmpR_neg {a b : Rat} : cmpR a b < 0 ↔ a < b := by
  rcases cmpR_cases a b with ⟨h, e⟩ | ⟨h, e⟩ | ⟨h, e⟩ <;> rw [e] <;> constructor <;> intro h' <;> grind
theorem cmpR_range (a b : Rat) : -1 ≤ cmpR a b ∧ cmpR a b ≤ 1 := by
  rcases cmpR_cases a b with ⟨h, e⟩ | ⟨h, e⟩ | ⟨h, e⟩ <;> rw [e] <;> omega
theorem cmpR_add (a b t : Rat) : cmpR (a + t) (b + t) = cmpR a b := by
  rcases cmpR_cases a b with ⟨h, e⟩ | ⟨h, e⟩ | ⟨h, e⟩ <;> rw [e]
  · exact cmpR_lt (by grind)
  · exact cmpR_eq (by grind)
  · exact cmpR_gt (by grind)
theorem cmpR_sub (a b : Rat) : cmpR (a - b) 0 = cmpR a b := by
  rcases cmpR_cases a b with ⟨h, e⟩ | ⟨h, e⟩ | ⟨h, e⟩ <;> rw [e]
  · exact cmpR_lt (by grind)
  · exact cmpR_eq (by grind)
  · exact cmpR_gt (by grind)
theorem cmpR_mul (a b t : Rat) : cmpR (a * t) (b * t) = cmpR a b * cmpR t 0 := by
  have pos : ∀ {a b t : Rat}, a < b → 0 < t → a * t < b * t := fun h ht => (Rat.mul_lt_mul_right ht).mpr h
  have neg : ∀ {a b t : Rat}, a < b → t < 0 → b * t < a * t := fun {a b t} h ht => by
    have := pos h (t := -t) (by grind)
    grind
  rcases cmpR_cases t 0 with ⟨ht, et⟩ | ⟨ht, et⟩ | ⟨ht, et⟩ <;> rw [et]
  · rcases cmpR_cases a b with ⟨h, e⟩ | ⟨h, e⟩ | ⟨h, e⟩ <;> rw [e]
    · exact cmpR_gt (neg h ht)
    · exact cmpR_eq (by rw [h])
    · exact cmpR_lt (neg h ht)
  · subst ht
    rw [Int.mul_zero]
    exact cmpR_eq (by grind)
  · rcases cmpR_cases a b with ⟨h, e⟩ | ⟨h, e⟩ | ⟨h, e⟩ <;> rw [e]
    · exact cmpR_lt (pos h ht)
    · exact cmpR_eq (by rw [h])
    · exact cmpR_gt (pos h ht)
theorem ok_zero : okR 0 := ⟨by decide +kernel, by decide +kernel⟩
theorem ok_one : okR 1 := ⟨by decide +kernel, by decide +kernel⟩
theorem rt_zero : rt 0 = ([48], [49]) := by show (str 0, str 1) = _; rw [str_zero, str_one]
theorem rt_one : rt 1 = ([49], [49]) := by show (str 1, str 1) = _; rw [str_one]
theorem order_sub {a b : Rat} (ha : okR a) (hb : okR b) (h : (subQ (rt a) (rt b)).2 = 0) : cmpQ (subQ (rt a) (rt b)).1 (rt 0) = cmpR a b := by
  rw [subQ_rt ha hb] at h ⊢
  obtain ⟨hf, he⟩ := outQ_ok h
  rw [he, cmpQ_rt (okR_sub hf) ok_zero, cmpR_sub]
theorem order_add {a b t : Rat} (ha : okR a) (hb : okR b) (ht : okR t) (h1 : (addQ (rt a) (rt t)).2 = 0) (h2 : (addQ (rt b) (rt t)).2 = 0) : cmpQ (addQ (rt a) (rt t)).1 (addQ (rt b) (rt t)).1 = cmpR a b := by
  rw [addQ_rt ha ht] at h1 ⊢
  rw [addQ_rt hb ht] at h2 ⊢
  obtain ⟨f1, e1⟩ := outQ_ok h1
  obtain ⟨f2, e2⟩ := outQ_ok h2
  rw [e1, e2, cmpQ_rt (okR_add f1) (okR_add f2), cmpR_add]
theorem order_mul {a b t : Rat} (ha : okR a) (hb : okR b) (ht : okR t) (h1 : (mulQ (rt a) (rt t)).2 = 0) (h2 : (mulQ (rt b) (rt t)).2 = 0) : cmpQ (mulQ (rt a) (rt t)).1 (mulQ (rt b) (rt t)).1 = cmpR a b * cmpR t 0 := by
  rw [mulQ_rt ha ht] at h1 ⊢
  rw [mulQ_rt hb ht] at h2 ⊢
  obtain ⟨f1, e1⟩ := outQ_ok h1
  obtain ⟨f2, e2⟩ := outQ_ok h2
  rw [e1, e2, cmpQ_rt (okR_mul f1) (okR_mul f2), cmpR_mul]
end Go.Proofs.YtfdjdmkpcdbmkaaGreatDoor
