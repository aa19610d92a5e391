/-
  rational.go: a calculation's cell; 'do', 'mul', 'quotient'.
-/
import Derived.Test.YtfdjdmkpcdbmkaaGreatDoorCG6
import Derived.Test.YtfdjdmkpcdbmkaaGreatDoorCG1
import Derived.WalkKit
import Derived.RowKit3
set_option linter.unusedVariables false
set_option linter.unusedSimpArgs false
namespace Go.Proofs.YtfdjdmkpcdbmkaaGreatDoor
open Go.RowKit Go.Lib

/-- All blocks but one stay as they are. -/
structure But (p : Nat) (w w' : World) : Prop where
  os : w'.os = w.os
  tape : w'.tape = w.tape
  output : w'.output = w.output
  size : w.heap.size ≤ w'.heap.size
  block : ∀ k, k < w.heap.size → k ≠ p → w'.heap[k]? = w.heap[k]?
theorem But.refl (p : Nat) (w : World) : But p w w := ⟨rfl, rfl, rfl, Nat.le_refl _, fun _ _ _ => rfl⟩
theorem But.trans {p : Nat} {a b c : World} (h : But p a b) (k : But p b c) : But p a c :=
  ⟨k.os.trans h.os, k.tape.trans h.tape, k.output.trans h.output, Nat.le_trans h.size k.size, fun i hi hn => (k.block i (Nat.lt_of_lt_of_le hi h.size) hn).trans (h.block i hi hn)⟩
theorem But.of_below {p : Nat} {w w' : World} (h : Below w.heap.size w w') : But p w w' := ⟨h.os, h.tape, h.output, h.size, fun k hk _ => h.block k hk⟩
theorem But.set (p : Nat) (w : World) (k : Nat) (v : Value) : But p w (w.setCell ⟨p, k, none⟩ v) :=
  ⟨rfl, rfl, rfl, by show w.heap.size ≤ (w.heap.modify p _).size; rw [Array.size_modify]; exact Nat.le_refl _, fun i _ hn => Below.heap_setCell w ⟨p, k, none⟩ v i hn⟩
/-- A block that was made on the way may be the one. -/
theorem But.below {B p : Nat} {w w' : World} (h : But p w w') (hB : B ≤ w.heap.size) (hp : B ≤ p) : Below B w w' := ⟨h.os, h.tape, h.output, h.size, fun k hk => h.block k (by omega) (by omega)⟩
theorem But.drew {p : Nat} {w w' : World} (h : But p w w') : But p w w'.drew := ⟨h.os, h.tape, h.output, h.size, h.block⟩
theorem But.laid {p : Nat} {w0 w w' : World} (hT : Laid w0) (hb : Below w0.heap.size w0 w) (h : But p w w') (hp : w0.heap.size ≤ p) : Laid w' :=
  hT.on (hb.trans (h.below hb.size hp))
/-- The calculation's cell. -/
def Wk (w : World) (p : Nat) (bad : Bool) : Prop := w.heap[p]? = some (.cells #[.bool bad] 78)
theorem Wk.lt {w : World} {p : Nat} {b : Bool} (h : Wk w p b) : p < w.heap.size := by
  rcases Nat.lt_or_ge p w.heap.size with h' | h'
  · exact h'
  · rw [Wk, Array.getElem?_eq_none h'] at h; cases h
theorem Wk.cell {w : World} {p : Nat} {b : Bool} (h : Wk w p b) : w.cell? ⟨p, 0, none⟩ = some (.bool b) := by simp [World.cell?, show w.heap[p]? = _ from h]
theorem Wk.frozen {w : World} {p : Nat} {b : Bool} (h : Wk w p b) : w.frozen? ⟨p, 0, none⟩ = false := by simp [World.frozen?, show w.heap[p]? = _ from h]
theorem Wk.below {w w' : World} {p : Nat} {b : Bool} (h : Wk w p b) (hb : Below w.heap.size w w') : Wk w' p b := (hb.block p h.lt).trans h
theorem Wk.drew {w : World} {p : Nat} {b : Bool} (h : Wk w p b) : Wk w.drew p b := h
theorem Wk.set {w : World} {p : Nat} {b : Bool} (h : Wk w p b) (b' : Bool) : Wk (w.setCell ⟨p, 0, none⟩ (.bool b')) p b' := by
  obtain ⟨hlt, hk⟩ := Array.getElem?_eq_some_iff.1 h
  show (w.heap.modify p _)[p]? = _
  rw [Array.getElem?_eq_getElem (by rw [Array.size_modify]; exact hlt), Array.getElem_modify_self, hk]
  rfl
/-- What an operation answers. -/
def OpC (f : FuncId) (s : List UInt8 → List UInt8 → List UInt8 × Int) : Prop :=
  ∀ (a b : ByteArray) (w : World), fit a → fit b → Laid w → Calls Tryz.prog f #[.string a, .string b] w fun e w' => e = .returned (.tuple #[.string (lb (s (bl a) (bl b)).1), .int .i64 (s (bl a) (bl b)).2]) ∧ Below w.heap.size w w'
theorem opc_add : OpC 62 addS := fun a b w ha hb hT => integer_Add.calls a b _ _ w hT (by unfold integer_Add.f; rw [if_pos ⟨ha, hb⟩])
theorem opc_sub : OpC 73 subS := fun a b w ha hb hT => integer_Sub.calls a b _ _ w hT (by unfold integer_Sub.f; rw [if_pos ⟨ha, hb⟩])
theorem opc_mul : OpC 89 mulS := fun a b w ha hb hT => integer_Mul.calls a b _ _ w hT (by unfold integer_Mul.f; rw [if_pos ⟨ha, hb⟩])
theorem opc_gcd : OpC 51 gcdS := fun a b w ha hb hT => integer_Gcd.calls a b _ _ w hT (by unfold integer_Gcd.f; rw [if_pos ⟨ha, hb⟩])
/-- .. and behind 'do': the string, and whether the calculation is bad. -/
def doS (s : List UInt8 → List UInt8 → List UInt8 × Int) (bad : Bool) (a b : List UInt8) : List UInt8 × Bool := if bad then ([], true) else ((s a b).1, decide ((s a b).2 ≠ 0))

set_option maxRecDepth 100000 in
theorem do_any (f : FuncId) (s : List UInt8 → List UInt8 → List UInt8 × Int) (hf : OpC f s) (eg : ∀ args w, (callFunc f args).run Tryz.prog w = .ok (.enter f args) w) (p : Nat) (bad : Bool) (a b : ByteArray) (ha : fit a) (hb : fit b) (w : World) (hT : Laid w) (hw : Wk w p bad) :
    Calls Tryz.prog 84 #[.pointer (some ⟨p, 0, none⟩), .func (.func f) #[] #[], .string a, .string b] w fun e w' =>
      e = .returned (.string (lb (doS s bad (bl a) (bl b)).1)) ∧ Wk w' p (doS s bad (bl a) (bl b)).2 ∧ But p w w' := by
  obtain ⟨r1, r2, hr⟩ : ∃ r1 r2, s (bl a) (bl b) = (r1, r2) := ⟨_, _, rfl⟩
  have hC : ∀ w, Laid w → Calls Tryz.prog f #[.string a, .string b] w fun e w' => e = .returned (.tuple #[.string (lb r1), .int .i64 r2]) ∧ Below w.heap.size w w' := by
    intro w hT
    have := hf a b w ha hb hT
    rw [hr] at this; exact this
  have hdo : doS s bad (bl a) (bl b) = if bad then ([], true) else (r1, decide (r2 ≠ 0)) := by unfold doS; rw [hr]
  rw [hdo]
  have HC := Lib.hid hC
  have HT := Lib.hid hT
  have HW := Lib.hid hw
  have hc := hw.cell
  clear hf hT hw ha hb hC hr hdo
  cases bad with
  | true =>
    rw [if_pos rfl]
    go_enter Tryz.func84, Tryz.ntmps84
    go_wp2_with fail
    go_ret
    exact ⟨rfl, HW.out, But.refl _ _⟩
  | false =>
    rw [if_neg (by simp)]
    go_enter Tryz.func84, Tryz.ntmps84
    go_wp2_with fail
    refine (HC.out _ HT.out).mono ?_
    rintro e w1 ⟨rfl, b1⟩
    have W1 := Lib.hid (HW.out.below b1)
    have hc1 := W1.out.cell
    have hf1 := W1.out.frozen
    have B1 := Lib.hid b1
    clear b1
    go_wp2_with fail
    go_ret
    refine ⟨rfl, ?_, (But.of_below B1.out).trans (But.set _ _ _ _)⟩
    rw [show decide (r2 ≠ 0) = (r2 != 0) by rw [Bool.eq_iff_iff, decide_eq_true_eq, bne_iff_ne]]
    exact W1.out.set _
set_option maxRecDepth 100000 in
theorem do_add (p : Nat) (bad : Bool) (a b : ByteArray) (ha : fit a) (hb : fit b) (w : World) (hT : Laid w) (hw : Wk w p bad) :
    Calls Tryz.prog 84 #[.pointer (some ⟨p, 0, none⟩), .func (.func 62) #[] #[], .string a, .string b] w fun e w' =>
      e = .returned (.string (lb (doS addS bad (bl a) (bl b)).1)) ∧ Wk w' p (doS addS bad (bl a) (bl b)).2 ∧ But p w w' := do_any _ _ opc_add (fun _ _ => rfl) p bad a b ha hb w hT hw
set_option maxRecDepth 100000 in
theorem do_sub (p : Nat) (bad : Bool) (a b : ByteArray) (ha : fit a) (hb : fit b) (w : World) (hT : Laid w) (hw : Wk w p bad) :
    Calls Tryz.prog 84 #[.pointer (some ⟨p, 0, none⟩), .func (.func 73) #[] #[], .string a, .string b] w fun e w' =>
      e = .returned (.string (lb (doS subS bad (bl a) (bl b)).1)) ∧ Wk w' p (doS subS bad (bl a) (bl b)).2 ∧ But p w w' := do_any _ _ opc_sub (fun _ _ => rfl) p bad a b ha hb w hT hw
set_option maxRecDepth 100000 in
theorem do_gcd (p : Nat) (bad : Bool) (a b : ByteArray) (ha : fit a) (hb : fit b) (w : World) (hT : Laid w) (hw : Wk w p bad) :
    Calls Tryz.prog 84 #[.pointer (some ⟨p, 0, none⟩), .func (.func 51) #[] #[], .string a, .string b] w fun e w' =>
      e = .returned (.string (lb (doS gcdS bad (bl a) (bl b)).1)) ∧ Wk w' p (doS gcdS bad (bl a) (bl b)).2 ∧ But p w w' := do_any _ _ opc_gcd (fun _ _ => rfl) p bad a b ha hb w hT hw
set_option maxRecDepth 100000 in
theorem mul_rat (p : Nat) (bad : Bool) (a b : ByteArray) (ha : fit a) (hb : fit b) (w : World) (hT : Laid w) (hw : Wk w p bad) :
    Calls Tryz.prog 60 #[.pointer (some ⟨p, 0, none⟩), .string a, .string b] w fun e w' =>
      e = .returned (.string (lb (doS mulS bad (bl a) (bl b)).1)) ∧ Wk w' p (doS mulS bad (bl a) (bl b)).2 ∧ But p w w' := by
  have HC := Lib.hid (do_any _ _ opc_mul (fun _ _ => rfl) p bad a b ha hb w hT hw)
  clear hT hw ha hb
  go_enter Tryz.func60, Tryz.ntmps60
  go_wp2_with fail
  refine HC.out.mono ?_
  rintro e w1 ⟨rfl, h1, h2⟩
  have H1 := Lib.hid h1
  clear h1
  go_wp2_with fail
  go_ret
  exact ⟨rfl, H1.out, h2⟩
def quoS (a b : List UInt8) : List UInt8 × Int := ((divS a b).1, (divS a b).2.2)
set_option maxRecDepth 100000 in
theorem opc_quo : OpC 111 quoS := by
  intro a b w ha hb hT
  have HC := Lib.hid (integer_Div.calls a b (lb (divS (bl a) (bl b)).1) (lb (divS (bl a) (bl b)).2.1) (divS (bl a) (bl b)).2.2 w hT (by unfold integer_Div.f; rw [if_pos ⟨ha, hb⟩]))
  unfold quoS
  generalize (divS (bl a) (bl b)).1 = r1 at *
  generalize (divS (bl a) (bl b)).2.1 = r2 at *
  generalize (divS (bl a) (bl b)).2.2 = r3 at *
  clear hT ha hb
  go_enter Tryz.func111, Tryz.ntmps111
  go_wp2_with fail
  refine HC.out.mono ?_
  rintro e w1 ⟨rfl, h1⟩
  go_wp2_with fail
  go_ret2
  exact ⟨rfl, h1⟩
set_option maxRecDepth 100000 in
theorem quo_rat (p : Nat) (bad : Bool) (a b : ByteArray) (ha : fit a) (hb : fit b) (w : World) (hT : Laid w) (hw : Wk w p bad) :
    Calls Tryz.prog 85 #[.pointer (some ⟨p, 0, none⟩), .string a, .string b] w fun e w' =>
      e = .returned (.string (lb (doS quoS bad (bl a) (bl b)).1)) ∧ Wk w' p (doS quoS bad (bl a) (bl b)).2 ∧ But p w w' := by
  have HC := Lib.hid (do_any _ _ opc_quo (fun _ _ => rfl) p bad a b ha hb w hT hw)
  clear hT hw ha hb
  go_enter Tryz.func85, Tryz.ntmps85
  go_wp2_with fail
  refine HC.out.mono ?_
  rintro e w1 ⟨rfl, h1, h2⟩
  have H1 := Lib.hid h1
  clear h1
  go_wp2_with fail
  go_ret
  exact ⟨rfl, H1.out, h2⟩
end Go.Proofs.YtfdjdmkpcdbmkaaGreatDoor

/-
  rational.go: Valid, reduced, Make.
-/
namespace Go.Proofs.YtfdjdmkpcdbmkaaGreatDoor
open Go.RowKit Go.Lib

/-- A fraction's two texts, in the frame of a call. -/
def Rt (w : World) (k : Nat) (a b : ByteArray) : Prop := w.heap[k]? = some (.cells #[.string a, .string b] 23)
theorem Rt.new (w : World) (a b : ByteArray) : Rt (w.alloc (.cells #[.string a, .string b] 23)) w.heap.size a b := World.alloc_heap_new w _
theorem Rt.lt {w : World} {k : Nat} {a b : ByteArray} (h : Rt w k a b) : k < w.heap.size := by
  rcases Nat.lt_or_ge k w.heap.size with h' | h'
  · exact h'
  · rw [Rt, Array.getElem?_eq_none h'] at h; cases h
theorem Rt.cell0 {w : World} {k : Nat} {a b : ByteArray} (h : Rt w k a b) : w.cell? ⟨k, 0, none⟩ = some (.string a) := by simp [World.cell?, show w.heap[k]? = _ from h]
theorem Rt.cell1 {w : World} {k : Nat} {a b : ByteArray} (h : Rt w k a b) : w.cell? ⟨k, 1, none⟩ = some (.string b) := by simp [World.cell?, show w.heap[k]? = _ from h]
theorem Rt.frozen {w : World} {k : Nat} {a b : ByteArray} (h : Rt w k a b) (i : Nat) : w.frozen? ⟨k, i, none⟩ = false := by simp [World.frozen?, show w.heap[k]? = _ from h]
theorem Rt.below {w w' : World} {k : Nat} {a b : ByteArray} (h : Rt w k a b) (hb : Below w.heap.size w w') : Rt w' k a b := (hb.block k h.lt).trans h
theorem Rt.but {w w' : World} {k p : Nat} {a b : ByteArray} (h : Rt w k a b) (hb : But p w w') (hn : k ≠ p) : Rt w' k a b := (hb.block k h.lt hn).trans h
theorem bthen' {w w1 w2 : World} (h1 : Below w.heap.size w w1) (h2 : Below w1.heap.size w1 w2) : Below w.heap.size w w2 := h1.trans (h2.mono h1.size)

/-- Valid, on texts. -/
def vR (n d : List UInt8) : Bool := valid n && valid d && decide (0 < cmpS d [48]) && (decide ((gcdS n d).2 = 0) && decide ((gcdS n d).1 = [49]))

set_option maxRecDepth 100000 in
set_option maxHeartbeats 1000000 in
theorem validR_any (n d : ByteArray) (hn : fit n) (hd : fit d) (w : World) (hT : Laid w) :
    Calls Tryz.prog 17 #[.agg #[.string n, .string d]] w fun e w' => e = .returned (.bool (vR (bl n) (bl d))) ∧ Below w.heap.size w w' := by
  have V1 := Lib.hid (fun w hT => integer_Valid.calls n (valid (bl n)) w hT (by unfold integer_Valid.f; rw [if_pos hn]))
  have V2 := Lib.hid (fun w hT => integer_Valid.calls d (valid (bl d)) w hT (by unfold integer_Valid.f; rw [if_pos hd]))
  have e48 : bl (⟨#[48]⟩ : ByteArray) = [48] := rfl
  have V3 := Lib.hid (fun w hT => integer_Compare.calls d (⟨#[48]⟩ : ByteArray) (cmpS (bl d) [48]) w hT (by unfold integer_Compare.f; rw [if_pos ⟨hd, by decide⟩, e48]))
  have V4 := Lib.hid (fun w hT => integer_Gcd.calls n d (lb (gcdS (bl n) (bl d)).1) (gcdS (bl n) (bl d)).2 w hT (by unfold integer_Gcd.f; rw [if_pos ⟨hn, hd⟩]))
  have hg1 : (lb (gcdS (bl n) (bl d)).1).toList = (gcdS (bl n) (bl d)).1 := by rw [ByteArray.toList_eq]; exact bl_lb _
  unfold vR
  generalize gcdS (bl n) (bl d) = g at *
  obtain ⟨g1, g2⟩ := g
  generalize cmpS (bl d) [48] = c at *
  generalize valid (bl n) = v1 at *
  generalize valid (bl d) = v2 at *
  have HT := Lib.hid hT
  have BB := Lib.hid (Below.refl w.heap.size w)
  have HG := Lib.hid hg1
  clear hT hn hd e48 hg1
  go_enter Tryz.func17, Tryz.ntmps17
  go_wp2_with fail
  have RR := Lib.hid (Rt.new w n d)
  have B0 := Lib.hid (BB.out.alloc (Nat.le_refl _) (.cells #[.string n, .string d] 23))
  clear BB
  generalize w.alloc (.cells #[.string n, .string d] 23) = w0 at *
  generalize hk : w.heap.size = k at RR ⊢
  clear hk
  have step : ∀ w1 w2 : World, Hid (Rt w1 k n d) → Hid (Below w.heap.size w w1) → Below w1.heap.size w1 w2 → Hid (Rt w2 k n d) ∧ Hid (Below w.heap.size w w2) ∧ w2.cell? ⟨k, 0, none⟩ = some (.string n) ∧ w2.cell? ⟨k, 1, none⟩ = some (.string d) :=
    fun _ _ h1 h2 b => ⟨Lib.hid (h1.out.below b), Lib.hid (bthen' h2.out b), (h1.out.below b).cell0, (h1.out.below b).cell1⟩
  have ST := Lib.hid step
  clear step
  refine (V1.out _ (HT.out.on B0.out)).mono ?_
  rintro e w1 ⟨rfl, b⟩
  obtain ⟨R1, B1, c0, c1⟩ := ST.out _ _ RR B0 b
  clear b
  cases v1 with
  | false =>
    go_wp2_with fail
    go_ret
    exact ⟨by simp, B1.out⟩
  | true =>
    go_wp2_with fail
    refine (V2.out _ (HT.out.on B1.out)).mono ?_
    rintro e w2 ⟨rfl, b⟩
    clear c0 c1
    obtain ⟨R2, B2, c0, c1⟩ := ST.out _ _ R1 B1 b
    clear b
    cases v2 with
    | false =>
      go_wp2_with fail
      go_ret
      exact ⟨by simp, B2.out⟩
    | true =>
      go_wp2_with fail
      refine (V3.out _ (HT.out.on B2.out)).mono ?_
      rintro e w3 ⟨rfl, b⟩
      clear c0 c1
      obtain ⟨R3, B3, c0, c1⟩ := ST.out _ _ R2 B2 b
      clear b
      by_cases hc : 0 < c
      · have h1 : decide (c ≤ 0) = false := decide_eq_false (by omega)
        have h2 : decide (0 < c) = true := decide_eq_true hc
        clear hc
        go_wp2_with fail
        refine (V4.out _ (HT.out.on B3.out)).mono ?_
        rintro e w4 ⟨rfl, b⟩
        clear c0 c1
        obtain ⟨R4, B4, c0, c1⟩ := ST.out _ _ R3 B3 b
        clear b
        by_cases hz : g2 = 0
        · subst hz
          go_wp2_with fail
          go_ret
          refine ⟨?_, B4.out⟩
          show Ending.returned (Value.bool ((lb g1).toList == [49])) = _
          rw [HG.out, show (g1 == [49]) = decide (g1 = [49]) by rw [Bool.eq_iff_iff]; simp]
          first | done | simp
        · have h3 : (g2 == 0) = false := beq_eq_false_iff_ne.2 hz
          go_wp2_with fail
          go_ret
          refine ⟨?_, B4.out⟩
          rw [decide_eq_false hz]
          simp
      · have h1 : decide (c ≤ 0) = true := decide_eq_true (by omega)
        have h2 : decide (0 < c) = false := decide_eq_false hc
        clear hc
        go_wp2_with fail
        go_ret
        exact ⟨by simp [h2], B3.out⟩

/-! ### reduced -/
/-- 'reduced', on texts. -/
def redS (bad : Bool) (n d : List UInt8) : List UInt8 × List UInt8 × Int :=
  if bad || decide (d = [48]) then ([], [], 40) else
  let p : (List UInt8 × Bool) × (List UInt8 × Bool) := if cmpS d [48] < 0 then (doS subS false [48] n, doS subS (doS subS false [48] n).2 [48] d) else ((n, false), (d, false))
  let g := doS gcdS p.2.2 p.1.1 p.2.1
  let q := doS quoS g.2 p.1.1 g.1
  let r := doS quoS q.2 p.2.1 g.1
  if r.2 then ([], [], 40) else (q.1, r.1, 0)
theorem fit_lb {l : List UInt8} (h : l.length ≤ 1000) : fit (lb l) := by unfold fit; rw [lb_size]; omega
theorem slen {z : Int} (h : z.natAbs < lim) : (str z).length ≤ 201 := by
  have h1 : (decDigits z.natAbs).length ≤ 200 := dec_length_le (by omega) h
  have := str_length z
  split at this <;> omega
theorem outS_len (z : Int) : (outS z).1.length ≤ 1000 := by
  unfold outS
  split
  · rename_i h; have := slen h; show (str z).length ≤ 1000; omega
  · show ([] : List UInt8).length ≤ 1000; simp
theorem len_if {c : Prop} [Decidable c] {a b : List UInt8 × Int} (ha : c → a.1.length ≤ 1000) (hb : b.1.length ≤ 1000) : (if c then a else b).1.length ≤ 1000 := by
  split
  · rename_i h; exact ha h
  · exact hb
theorem sub_len (a b : List UInt8) : (subS a b).1.length ≤ 1000 := len_if (fun _ => outS_len _) (by simp)
theorem add_len (a b : List UInt8) : (addS a b).1.length ≤ 1000 := len_if (fun _ => outS_len _) (by simp)
theorem mul_len (a b : List UInt8) : (mulS a b).1.length ≤ 1000 := len_if (fun _ => outS_len _) (by simp)
theorem gcd_len (a b : List UInt8) : (gcdS a b).1.length ≤ 1000 := by
  refine len_if (fun h => ?_) (by simp)
  rw [Bool.and_eq_true] at h
  obtain ⟨x, hx, rfl⟩ := of_valid h.1
  obtain ⟨y, hy, rfl⟩ := of_valid h.2
  have := slen (z := (Int.gcd (toZ (str x)) (toZ (str y)) : Int)) (by rw [toZ_str, toZ_str, Int.natAbs_natCast]; exact gcd_lt hx hy)
  exact Nat.le_trans this (by omega)
theorem quo_len (a b : List UInt8) : (quoS a b).1.length ≤ 1000 := by
  unfold quoS divS
  split
  · rename_i h
    rw [Bool.and_eq_true, Bool.and_eq_true] at h
    obtain ⟨x, hx, rfl⟩ := of_valid h.1.1
    have := slen (z := toZ (str x) / toZ b) (by rw [toZ_str]; exact Nat.lt_of_le_of_lt (div_natAbs_le x) hx)
    exact Nat.le_trans this (by omega)
  · simp
theorem do_len {s : List UInt8 → List UInt8 → List UInt8 × Int} (h : ∀ a b, (s a b).1.length ≤ 1000) (bad : Bool) (a b : List UInt8) : (doS s bad a b).1.length ≤ 1000 := by
  unfold doS
  split
  · simp
  · exact h a b
theorem fit_do {s : List UInt8 → List UInt8 → List UInt8 × Int} (h : ∀ a b, (s a b).1.length ≤ 1000) (bad : Bool) (a b : List UInt8) : fit (lb (doS s bad a b).1) := fit_lb (do_len h bad a b)

/-- The end of 'reduced', from the greatest common divisor on. -/
def endS (bad : Bool) (n d : List UInt8) : List UInt8 × List UInt8 × Int :=
  let g := doS gcdS bad n d
  let q := doS quoS g.2 n g.1
  let r := doS quoS q.2 d g.1
  if r.2 then ([], [], 40) else (q.1, r.1, 0)

theorem But.set_new {p k : Nat} {w W : World} (h : But p w W) (hk : w.heap.size ≤ k) (j : Nat) (v : Value) : But p w (W.setCell ⟨k, j, none⟩ v) :=
  ⟨h.os, h.tape, h.output, by show w.heap.size ≤ (W.heap.modify k _).size; rw [Array.size_modify]; exact h.size, fun i hi hn => (Below.heap_setCell W ⟨k, j, none⟩ v i (by show i ≠ k; omega)).trans (h.block i hi hn)⟩
theorem But.alloc' {p : Nat} {w W : World} (h : But p w W) (o : Obj) : But p w (W.alloc o) := h.trans (But.of_below ((Below.refl _ W).alloc (Nat.le_refl _) o))
theorem Rt.set0 {W : World} {k : Nat} {a b : ByteArray} (h : Rt W k a b) (a' : ByteArray) : Rt (W.setCell ⟨k, 0, none⟩ (.string a')) k a' b := by
  obtain ⟨hlt, hk⟩ := Array.getElem?_eq_some_iff.1 h
  show (W.heap.modify k _)[k]? = _
  rw [Array.getElem?_eq_getElem (by rw [Array.size_modify]; exact hlt), Array.getElem_modify_self, hk]
  rfl
theorem Rt.set1 {W : World} {k : Nat} {a b : ByteArray} (h : Rt W k a b) (b' : ByteArray) : Rt (W.setCell ⟨k, 1, none⟩ (.string b')) k a b' := by
  obtain ⟨hlt, hk⟩ := Array.getElem?_eq_some_iff.1 h
  show (W.heap.modify k _)[k]? = _
  rw [Array.getElem?_eq_getElem (by rw [Array.size_modify]; exact hlt), Array.getElem_modify_self, hk]
  rfl
theorem Rt.alloc {W : World} {k : Nat} {a b : ByteArray} (h : Rt W k a b) (o : Obj) : Rt (W.alloc o) k a b := h.below ((Below.refl _ W).alloc (Nat.le_refl _) o)

set_option maxRecDepth 100000 in
theorem end3 (p : Nat) (B : Bool) (n d : ByteArray) (hn : fit n) (hd : fit d) : ∃ (g1 q1 r1 : List UInt8) (g2 q2 r2 : Bool),
    (∀ W, Laid W → Wk W p B → Calls Tryz.prog 84 #[.pointer (some ⟨p, 0, none⟩), .func (.func 51) #[] #[], .string n, .string d] W fun e w' => e = .returned (.string (lb g1)) ∧ Wk w' p g2 ∧ But p W w') ∧
    (∀ W, Laid W → Wk W p g2 → Calls Tryz.prog 85 #[.pointer (some ⟨p, 0, none⟩), .string n, .string (lb g1)] W fun e w' => e = .returned (.string (lb q1)) ∧ Wk w' p q2 ∧ But p W w') ∧
    (∀ W, Laid W → Wk W p q2 → Calls Tryz.prog 85 #[.pointer (some ⟨p, 0, none⟩), .string d, .string (lb g1)] W fun e w' => e = .returned (.string (lb r1)) ∧ Wk w' p r2 ∧ But p W w') ∧
    endS B (bl n) (bl d) = if r2 then ([], [], 40) else (q1, r1, 0) := by
  have hg := do_len gcd_len B (bl n) (bl d)
  refine ⟨(doS gcdS B (bl n) (bl d)).1, (doS quoS (doS gcdS B (bl n) (bl d)).2 (bl n) (doS gcdS B (bl n) (bl d)).1).1, (doS quoS (doS quoS (doS gcdS B (bl n) (bl d)).2 (bl n) (doS gcdS B (bl n) (bl d)).1).2 (bl d) (doS gcdS B (bl n) (bl d)).1).1, (doS gcdS B (bl n) (bl d)).2, (doS quoS (doS gcdS B (bl n) (bl d)).2 (bl n) (doS gcdS B (bl n) (bl d)).1).2, (doS quoS (doS quoS (doS gcdS B (bl n) (bl d)).2 (bl n) (doS gcdS B (bl n) (bl d)).1).2 (bl d) (doS gcdS B (bl n) (bl d)).1).2, ?_, ?_, ?_, rfl⟩
  · exact fun W hT hw => do_gcd p B n d hn hd W hT hw
  · intro W hT hw
    have := quo_rat p _ n (lb (doS gcdS B (bl n) (bl d)).1) hn (fit_lb hg) W hT hw
    rwa [bl_lb] at this
  · intro W hT hw
    have := quo_rat p _ d (lb (doS gcdS B (bl n) (bl d)).1) hd (fit_lb hg) W hT hw
    rwa [bl_lb] at this

set_option maxRecDepth 100000 in
theorem neg2 (p : Nat) (n d : ByteArray) (hn : fit n) (hd : fit d) : ∃ (n1 d1 : List UInt8) (b1 b2 : Bool), fit (lb n1) ∧ fit (lb d1) ∧
    (∀ W, Laid W → Wk W p false → Calls Tryz.prog 84 #[.pointer (some ⟨p, 0, none⟩), .func (.func 73) #[] #[], .string ⟨#[48]⟩, .string n] W fun e w' => e = .returned (.string (lb n1)) ∧ Wk w' p b1 ∧ But p W w') ∧
    (∀ W, Laid W → Wk W p b1 → Calls Tryz.prog 84 #[.pointer (some ⟨p, 0, none⟩), .func (.func 73) #[] #[], .string ⟨#[48]⟩, .string d] W fun e w' => e = .returned (.string (lb d1)) ∧ Wk w' p b2 ∧ But p W w') ∧
    endS (doS subS (doS subS false [48] (bl n)).2 [48] (bl d)).2 (doS subS false [48] (bl n)).1 (doS subS (doS subS false [48] (bl n)).2 [48] (bl d)).1 = endS b2 (bl (lb n1)) (bl (lb d1)) := by
  refine ⟨(doS subS false [48] (bl n)).1, (doS subS (doS subS false [48] (bl n)).2 [48] (bl d)).1, (doS subS false [48] (bl n)).2, (doS subS (doS subS false [48] (bl n)).2 [48] (bl d)).2, fit_do sub_len _ _ _, fit_do sub_len _ _ _, ?_, ?_, by rw [bl_lb, bl_lb]⟩
  · exact fun W hT hw => do_sub p false (⟨#[48]⟩ : ByteArray) n (by decide) hn W hT hw
  · exact fun W hT hw => do_sub p _ (⟨#[48]⟩ : ByteArray) d (by decide) hd W hT hw

set_option maxRecDepth 100000 in
set_option maxHeartbeats 1000000 in
theorem reduced_any (p : Nat) (bad : Bool) (n d : ByteArray) (hn : fit n) (hd : fit d) (w : World) (hp : ∀ W, But p w W → Laid W) (hw : Wk w p bad) :
    Calls Tryz.prog 57 #[.pointer (some ⟨p, 0, none⟩), .string n, .string d] w fun e w' =>
      e = .returned (.tuple #[.agg #[.string (lb (redS bad (bl n) (bl d)).1), .string (lb (redS bad (bl n) (bl d)).2.1)], .int .i64 (redS bad (bl n) (bl d)).2.2]) ∧ But p w w' := by
  have HT := Lib.hid hp
  have HW := Lib.hid hw
  have hc := hw.cell
  have hpl := hw.lt
  clear hp hw
  cases bad with
  | true =>
    go_enter Tryz.func57, Tryz.ntmps57
    go_wp2_with fail
    have RR := Rt.new w (⟨#[]⟩ : ByteArray) (⟨#[]⟩ : ByteArray)
    have q0 := RR.cell0
    have q1 := RR.cell1
    have B0 := But.of_below (p := p) ((Below.refl w.heap.size w).alloc (Nat.le_refl _) (.cells #[.string (⟨#[]⟩ : ByteArray), .string (⟨#[]⟩ : ByteArray)] 23))
    clear RR
    generalize w.alloc (.cells #[.string (⟨#[]⟩ : ByteArray), .string (⟨#[]⟩ : ByteArray)] 23) = W0 at *
    refine bodyPost_ret (v := .tuple #[.agg #[.string (⟨#[]⟩ : ByteArray), .string (⟨#[]⟩ : ByteArray)], .int .i64 40]) (by simp [results, Tryz.results57, go_sem, q0, q1]) rfl ⟨rfl, B0⟩
  | false =>
    have e48 : bl (⟨#[48]⟩ : ByteArray) = [48] := rfl
    have dl : d.toList = bl d := ByteArray.toList_eq d
    by_cases hz : bl d = [48]
    · have hz1 : (d.toList == [48]) = true := by rw [dl, hz]; rfl
      have hr : redS false (bl n) (bl d) = ([], [], 40) := by unfold redS; rw [if_pos (by simp [hz])]
      rw [hr]
      clear hz dl e48 hr
      go_enter Tryz.func57, Tryz.ntmps57
      go_wp2_with fail
      have RR := Rt.new w (⟨#[]⟩ : ByteArray) (⟨#[]⟩ : ByteArray)
      have q0 := RR.cell0
      have q1 := RR.cell1
      have B0 := But.of_below (p := p) ((Below.refl w.heap.size w).alloc (Nat.le_refl _) (.cells #[.string (⟨#[]⟩ : ByteArray), .string (⟨#[]⟩ : ByteArray)] 23))
      clear RR
      generalize w.alloc (.cells #[.string (⟨#[]⟩ : ByteArray), .string (⟨#[]⟩ : ByteArray)] 23) = W0 at *
      refine bodyPost_ret (v := .tuple #[.agg #[.string (⟨#[]⟩ : ByteArray), .string (⟨#[]⟩ : ByteArray)], .int .i64 40]) (by simp [results, Tryz.results57, go_sem, q0, q1]) rfl ⟨rfl, B0⟩
    · have hz1 : (d.toList == [48]) = false := by rw [dl]; exact beq_eq_false_iff_ne.2 hz
      have hr : redS false (bl n) (bl d) = if cmpS (bl d) [48] < 0 then endS (doS subS (doS subS false [48] (bl n)).2 [48] (bl d)).2 (doS subS false [48] (bl n)).1 (doS subS (doS subS false [48] (bl n)).2 [48] (bl d)).1 else endS false (bl n) (bl d) := by
        unfold redS
        rw [if_neg (by simp [hz])]
        split <;> rfl
      rw [hr]
      have C1 := Lib.hid (fun w hT => integer_Compare.calls d (⟨#[48]⟩ : ByteArray) (cmpS (bl d) [48]) w hT (by unfold integer_Compare.f; rw [if_pos ⟨hd, by decide⟩, e48]))
      have FN := Lib.hid hn
      have FD := Lib.hid hd
      clear hz dl hr hn hd
      by_cases hneg : cmpS (bl d) [48] < 0
      · have hn1 : decide (cmpS (bl d) [48] < 0) = true := decide_eq_true hneg
        rw [if_pos hneg]
        clear hneg
        obtain ⟨n1, d1, b1, b2, f1, f2, C2, C3, hd2⟩ := neg2 p n d FN.out FD.out
        obtain ⟨g1, q1, r1, g2, q2, r2, CG, CQ, CR, he⟩ := end3 p b2 (lb n1) (lb d1) f1 f2
        rw [hd2, he]
        replace C2 := Lib.hid C2
        replace C3 := Lib.hid C3
        clear hd2 f1 f2
        replace CG := Lib.hid CG
        replace CQ := Lib.hid CQ
        replace CR := Lib.hid CR
        clear he
        cases r2 with
        | true =>
          go_enter Tryz.func57, Tryz.ntmps57
          go_wp2_with fail
          have RR := Lib.hid (Rt.new w (⟨#[]⟩ : ByteArray) (⟨#[]⟩ : ByteArray))
          have BB := Lib.hid (But.of_below (p := p) ((Below.refl w.heap.size w).alloc (Nat.le_refl _) (.cells #[.string (⟨#[]⟩ : ByteArray), .string (⟨#[]⟩ : ByteArray)] 23)))
          replace HW := Lib.hid (HW.out.below ((Below.refl w.heap.size w).alloc (Nat.le_refl _) (.cells #[.string (⟨#[]⟩ : ByteArray), .string (⟨#[]⟩ : ByteArray)] 23)))
          generalize w.alloc (.cells #[.string (⟨#[]⟩ : ByteArray), .string (⟨#[]⟩ : ByteArray)] 23) = W0 at *
          generalize hk : w.heap.size = k at *
          clear hc
          refine (C1.out _ (HT.out _ BB.out)).mono ?_
          rintro e w1 ⟨rfl, b⟩
          replace BB := Lib.hid (BB.out.trans (But.of_below b))
          replace RR := Lib.hid (RR.out.below b)
          replace HW := Lib.hid (HW.out.below b)
          clear b
          go_wp2_with fail
          refine (C2.out _ (HT.out _ BB.out) HW.out).mono ?_
          rintro e w6 ⟨rfl, hw', hb'⟩
          replace BB := Lib.hid (BB.out.trans hb')
          replace RR := Lib.hid (RR.out.but hb' (by omega))
          replace HW := Lib.hid hw'
          clear hw' hb'
          go_wp2_with fail
          refine (C3.out _ (HT.out _ BB.out) HW.out).mono ?_
          rintro e w7 ⟨rfl, hw', hb'⟩
          replace BB := Lib.hid (BB.out.trans hb')
          replace RR := Lib.hid (RR.out.but hb' (by omega))
          replace HW := Lib.hid hw'
          clear hw' hb'
          go_wp2_with fail
          refine (CG.out _ (HT.out _ BB.out) HW.out).mono ?_
          rintro e w3 ⟨rfl, hw', hb'⟩
          replace BB := Lib.hid (BB.out.trans hb')
          replace RR := Lib.hid (RR.out.but hb' (by omega))
          replace HW := Lib.hid hw'
          clear hw' hb'
          go_wp2_with fail
          refine (CQ.out _ (HT.out _ BB.out) HW.out).mono ?_
          rintro e w4 ⟨rfl, hw', hb'⟩
          replace BB := Lib.hid (BB.out.trans hb')
          replace RR := Lib.hid (RR.out.but hb' (by omega))
          replace HW := Lib.hid hw'
          clear hw' hb'
          go_wp2_with fail
          refine (CR.out _ (HT.out _ BB.out) HW.out).mono ?_
          rintro e w5 ⟨rfl, hw', hb'⟩
          replace BB := Lib.hid (BB.out.trans hb')
          replace RR := Lib.hid (RR.out.but hb' (by omega))
          replace HW := Lib.hid hw'
          clear hw' hb'
          have hc5 := HW.out.cell
          have hl5 := HW.out.lt
          have q0 := RR.out.cell0
          have q1' := RR.out.cell1
          have qf0 := RR.out.frozen 0
          have qf1 := RR.out.frozen 1
          have ql := RR.out.lt
          go_wp2_with fail
          have RE := ((RR.out.set0 (⟨#[]⟩ : ByteArray)).set1 (⟨#[]⟩ : ByteArray)).alloc (.cells #[.string (lb q1), .string (lb r1)] 23)
          have BE := ((BB.out.set_new (k := k) (by omega) 0 (.string (⟨#[]⟩ : ByteArray))).set_new (k := k) (by omega) 1 (.string (⟨#[]⟩ : ByteArray))).alloc' (.cells #[.string (lb q1), .string (lb r1)] 23)
          have z0 := RE.cell0
          have z1 := RE.cell1
          clear RE
          generalize (((w5.setCell ⟨k, 0, none⟩ (.string (⟨#[]⟩ : ByteArray))).setCell ⟨k, 1, none⟩ (.string (⟨#[]⟩ : ByteArray))).alloc (.cells #[.string (lb q1), .string (lb r1)] 23)) = WE at *
          exact bodyPost_ret (v := .tuple #[.agg #[.string (⟨#[]⟩ : ByteArray), .string (⟨#[]⟩ : ByteArray)], .int .i64 40]) (by simp [results, Tryz.results57, go_sem, z0, z1]) rfl ⟨rfl, BE⟩
        | false =>
          go_enter Tryz.func57, Tryz.ntmps57
          go_wp2_with fail
          have RR := Lib.hid (Rt.new w (⟨#[]⟩ : ByteArray) (⟨#[]⟩ : ByteArray))
          have BB := Lib.hid (But.of_below (p := p) ((Below.refl w.heap.size w).alloc (Nat.le_refl _) (.cells #[.string (⟨#[]⟩ : ByteArray), .string (⟨#[]⟩ : ByteArray)] 23)))
          replace HW := Lib.hid (HW.out.below ((Below.refl w.heap.size w).alloc (Nat.le_refl _) (.cells #[.string (⟨#[]⟩ : ByteArray), .string (⟨#[]⟩ : ByteArray)] 23)))
          generalize w.alloc (.cells #[.string (⟨#[]⟩ : ByteArray), .string (⟨#[]⟩ : ByteArray)] 23) = W0 at *
          generalize hk : w.heap.size = k at *
          clear hc
          refine (C1.out _ (HT.out _ BB.out)).mono ?_
          rintro e w1 ⟨rfl, b⟩
          replace BB := Lib.hid (BB.out.trans (But.of_below b))
          replace RR := Lib.hid (RR.out.below b)
          replace HW := Lib.hid (HW.out.below b)
          clear b
          go_wp2_with fail
          refine (C2.out _ (HT.out _ BB.out) HW.out).mono ?_
          rintro e w6 ⟨rfl, hw', hb'⟩
          replace BB := Lib.hid (BB.out.trans hb')
          replace RR := Lib.hid (RR.out.but hb' (by omega))
          replace HW := Lib.hid hw'
          clear hw' hb'
          go_wp2_with fail
          refine (C3.out _ (HT.out _ BB.out) HW.out).mono ?_
          rintro e w7 ⟨rfl, hw', hb'⟩
          replace BB := Lib.hid (BB.out.trans hb')
          replace RR := Lib.hid (RR.out.but hb' (by omega))
          replace HW := Lib.hid hw'
          clear hw' hb'
          go_wp2_with fail
          refine (CG.out _ (HT.out _ BB.out) HW.out).mono ?_
          rintro e w3 ⟨rfl, hw', hb'⟩
          replace BB := Lib.hid (BB.out.trans hb')
          replace RR := Lib.hid (RR.out.but hb' (by omega))
          replace HW := Lib.hid hw'
          clear hw' hb'
          go_wp2_with fail
          refine (CQ.out _ (HT.out _ BB.out) HW.out).mono ?_
          rintro e w4 ⟨rfl, hw', hb'⟩
          replace BB := Lib.hid (BB.out.trans hb')
          replace RR := Lib.hid (RR.out.but hb' (by omega))
          replace HW := Lib.hid hw'
          clear hw' hb'
          go_wp2_with fail
          refine (CR.out _ (HT.out _ BB.out) HW.out).mono ?_
          rintro e w5 ⟨rfl, hw', hb'⟩
          replace BB := Lib.hid (BB.out.trans hb')
          replace RR := Lib.hid (RR.out.but hb' (by omega))
          replace HW := Lib.hid hw'
          clear hw' hb'
          have hc5 := HW.out.cell
          have hl5 := HW.out.lt
          have q0 := RR.out.cell0
          have q1' := RR.out.cell1
          have qf0 := RR.out.frozen 0
          have qf1 := RR.out.frozen 1
          have ql := RR.out.lt
          go_wp2_with fail
          have RE := ((RR.out.set0 (lb q1)).set1 (lb r1)).alloc (.cells #[.string (lb q1), .string (lb r1)] 23)
          have BE := ((BB.out.set_new (k := k) (by omega) 0 (.string (lb q1))).set_new (k := k) (by omega) 1 (.string (lb r1))).alloc' (.cells #[.string (lb q1), .string (lb r1)] 23)
          have z0 := RE.cell0
          have z1 := RE.cell1
          clear RE
          generalize (((w5.setCell ⟨k, 0, none⟩ (.string (lb q1))).setCell ⟨k, 1, none⟩ (.string (lb r1))).alloc (.cells #[.string (lb q1), .string (lb r1)] 23)) = WE at *
          exact bodyPost_ret (v := .tuple #[.agg #[.string (lb q1), .string (lb r1)], .int .i64 0]) (by simp [results, Tryz.results57, go_sem, z0, z1]) rfl ⟨rfl, BE⟩
      · have hn1 : decide (cmpS (bl d) [48] < 0) = false := decide_eq_false hneg
        rw [if_neg hneg]
        clear hneg
        obtain ⟨g1, q1, r1, g2, q2, r2, CG, CQ, CR, he⟩ := end3 p false n d FN.out FD.out
        rw [he]
        replace CG := Lib.hid CG
        replace CQ := Lib.hid CQ
        replace CR := Lib.hid CR
        clear he
        cases r2 with
        | true =>
          go_enter Tryz.func57, Tryz.ntmps57
          go_wp2_with fail
          have RR := Lib.hid (Rt.new w (⟨#[]⟩ : ByteArray) (⟨#[]⟩ : ByteArray))
          have BB := Lib.hid (But.of_below (p := p) ((Below.refl w.heap.size w).alloc (Nat.le_refl _) (.cells #[.string (⟨#[]⟩ : ByteArray), .string (⟨#[]⟩ : ByteArray)] 23)))
          replace HW := Lib.hid (HW.out.below ((Below.refl w.heap.size w).alloc (Nat.le_refl _) (.cells #[.string (⟨#[]⟩ : ByteArray), .string (⟨#[]⟩ : ByteArray)] 23)))
          generalize w.alloc (.cells #[.string (⟨#[]⟩ : ByteArray), .string (⟨#[]⟩ : ByteArray)] 23) = W0 at *
          generalize hk : w.heap.size = k at *
          clear hc
          refine (C1.out _ (HT.out _ BB.out)).mono ?_
          rintro e w1 ⟨rfl, b⟩
          replace BB := Lib.hid (BB.out.trans (But.of_below b))
          replace RR := Lib.hid (RR.out.below b)
          replace HW := Lib.hid (HW.out.below b)
          clear b
          go_wp2_with fail
          refine (CG.out _ (HT.out _ BB.out) HW.out).mono ?_
          rintro e w3 ⟨rfl, hw', hb'⟩
          replace BB := Lib.hid (BB.out.trans hb')
          replace RR := Lib.hid (RR.out.but hb' (by omega))
          replace HW := Lib.hid hw'
          clear hw' hb'
          go_wp2_with fail
          refine (CQ.out _ (HT.out _ BB.out) HW.out).mono ?_
          rintro e w4 ⟨rfl, hw', hb'⟩
          replace BB := Lib.hid (BB.out.trans hb')
          replace RR := Lib.hid (RR.out.but hb' (by omega))
          replace HW := Lib.hid hw'
          clear hw' hb'
          go_wp2_with fail
          refine (CR.out _ (HT.out _ BB.out) HW.out).mono ?_
          rintro e w5 ⟨rfl, hw', hb'⟩
          replace BB := Lib.hid (BB.out.trans hb')
          replace RR := Lib.hid (RR.out.but hb' (by omega))
          replace HW := Lib.hid hw'
          clear hw' hb'
          have hc5 := HW.out.cell
          have hl5 := HW.out.lt
          have q0 := RR.out.cell0
          have q1' := RR.out.cell1
          have qf0 := RR.out.frozen 0
          have qf1 := RR.out.frozen 1
          have ql := RR.out.lt
          go_wp2_with fail
          have RE := ((RR.out.set0 (⟨#[]⟩ : ByteArray)).set1 (⟨#[]⟩ : ByteArray)).alloc (.cells #[.string (lb q1), .string (lb r1)] 23)
          have BE := ((BB.out.set_new (k := k) (by omega) 0 (.string (⟨#[]⟩ : ByteArray))).set_new (k := k) (by omega) 1 (.string (⟨#[]⟩ : ByteArray))).alloc' (.cells #[.string (lb q1), .string (lb r1)] 23)
          have z0 := RE.cell0
          have z1 := RE.cell1
          clear RE
          generalize (((w5.setCell ⟨k, 0, none⟩ (.string (⟨#[]⟩ : ByteArray))).setCell ⟨k, 1, none⟩ (.string (⟨#[]⟩ : ByteArray))).alloc (.cells #[.string (lb q1), .string (lb r1)] 23)) = WE at *
          exact bodyPost_ret (v := .tuple #[.agg #[.string (⟨#[]⟩ : ByteArray), .string (⟨#[]⟩ : ByteArray)], .int .i64 40]) (by simp [results, Tryz.results57, go_sem, z0, z1]) rfl ⟨rfl, BE⟩
        | false =>
          go_enter Tryz.func57, Tryz.ntmps57
          go_wp2_with fail
          have RR := Lib.hid (Rt.new w (⟨#[]⟩ : ByteArray) (⟨#[]⟩ : ByteArray))
          have BB := Lib.hid (But.of_below (p := p) ((Below.refl w.heap.size w).alloc (Nat.le_refl _) (.cells #[.string (⟨#[]⟩ : ByteArray), .string (⟨#[]⟩ : ByteArray)] 23)))
          replace HW := Lib.hid (HW.out.below ((Below.refl w.heap.size w).alloc (Nat.le_refl _) (.cells #[.string (⟨#[]⟩ : ByteArray), .string (⟨#[]⟩ : ByteArray)] 23)))
          generalize w.alloc (.cells #[.string (⟨#[]⟩ : ByteArray), .string (⟨#[]⟩ : ByteArray)] 23) = W0 at *
          generalize hk : w.heap.size = k at *
          clear hc
          refine (C1.out _ (HT.out _ BB.out)).mono ?_
          rintro e w1 ⟨rfl, b⟩
          replace BB := Lib.hid (BB.out.trans (But.of_below b))
          replace RR := Lib.hid (RR.out.below b)
          replace HW := Lib.hid (HW.out.below b)
          clear b
          go_wp2_with fail
          refine (CG.out _ (HT.out _ BB.out) HW.out).mono ?_
          rintro e w3 ⟨rfl, hw', hb'⟩
          replace BB := Lib.hid (BB.out.trans hb')
          replace RR := Lib.hid (RR.out.but hb' (by omega))
          replace HW := Lib.hid hw'
          clear hw' hb'
          go_wp2_with fail
          refine (CQ.out _ (HT.out _ BB.out) HW.out).mono ?_
          rintro e w4 ⟨rfl, hw', hb'⟩
          replace BB := Lib.hid (BB.out.trans hb')
          replace RR := Lib.hid (RR.out.but hb' (by omega))
          replace HW := Lib.hid hw'
          clear hw' hb'
          go_wp2_with fail
          refine (CR.out _ (HT.out _ BB.out) HW.out).mono ?_
          rintro e w5 ⟨rfl, hw', hb'⟩
          replace BB := Lib.hid (BB.out.trans hb')
          replace RR := Lib.hid (RR.out.but hb' (by omega))
          replace HW := Lib.hid hw'
          clear hw' hb'
          have hc5 := HW.out.cell
          have hl5 := HW.out.lt
          have q0 := RR.out.cell0
          have q1' := RR.out.cell1
          have qf0 := RR.out.frozen 0
          have qf1 := RR.out.frozen 1
          have ql := RR.out.lt
          go_wp2_with fail
          have RE := ((RR.out.set0 (lb q1)).set1 (lb r1)).alloc (.cells #[.string (lb q1), .string (lb r1)] 23)
          have BE := ((BB.out.set_new (k := k) (by omega) 0 (.string (lb q1))).set_new (k := k) (by omega) 1 (.string (lb r1))).alloc' (.cells #[.string (lb q1), .string (lb r1)] 23)
          have z0 := RE.cell0
          have z1 := RE.cell1
          clear RE
          generalize (((w5.setCell ⟨k, 0, none⟩ (.string (lb q1))).setCell ⟨k, 1, none⟩ (.string (lb r1))).alloc (.cells #[.string (lb q1), .string (lb r1)] 23)) = WE at *
          exact bodyPost_ret (v := .tuple #[.agg #[.string (lb q1), .string (lb r1)], .int .i64 0]) (by simp [results, Tryz.results57, go_sem, z0, z1]) rfl ⟨rfl, BE⟩
end Go.Proofs.YtfdjdmkpcdbmkaaGreatDoor

/-
  rational.go: Make, Of, check, sum.
-/
namespace Go.Proofs.YtfdjdmkpcdbmkaaGreatDoor
open Go.RowKit Go.Lib

theorem Wk.new (w : World) (b : Bool) : Wk (w.alloc (.cells #[.bool b] 78)) w.heap.size b := World.alloc_heap_new w _
/-- Make, on texts. -/
def mkT (n d : List UInt8) : List UInt8 × List UInt8 × Int := redS (!(valid n && valid d)) n d
set_option maxRecDepth 100000 in
set_option maxHeartbeats 1000000 in
theorem make_any (n d : ByteArray) (hn : fit n) (hd : fit d) (w : World) (hT : Laid w) :
    Calls Tryz.prog 22 #[.string n, .string d] w fun e w' =>
      e = .returned (.tuple #[.agg #[.string (lb (mkT (bl n) (bl d)).1), .string (lb (mkT (bl n) (bl d)).2.1)], .int .i64 (mkT (bl n) (bl d)).2.2]) ∧ Below w.heap.size w w' := by
  have V1 := Lib.hid (fun w hT => integer_Valid.calls n (valid (bl n)) w hT (by unfold integer_Valid.f; rw [if_pos hn]))
  have V2 := Lib.hid (fun w hT => integer_Valid.calls d (valid (bl d)) w hT (by unfold integer_Valid.f; rw [if_pos hd]))
  have RD0 := fun p w hp hw => reduced_any p (!(valid (bl n) && valid (bl d))) n d hn hd w hp hw
  unfold mkT
  generalize valid (bl n) = v1 at *
  generalize valid (bl d) = v2 at *
  generalize redS (!(v1 && v2)) (bl n) (bl d) = r at *
  obtain ⟨r1, r2, r3⟩ := r
  have RD := Lib.hid RD0
  have HT := Lib.hid hT
  clear hT hn hd RD0
  go_enter Tryz.func22, Tryz.ntmps22
  go_wp2_with fail
  have RR := Lib.hid (Rt.new w (⟨#[]⟩ : ByteArray) (⟨#[]⟩ : ByteArray))
  have BB := Lib.hid ((Below.refl w.heap.size w).alloc (Nat.le_refl _) (.cells #[.string (⟨#[]⟩ : ByteArray), .string (⟨#[]⟩ : ByteArray)] 23))
  generalize w.alloc (.cells #[.string (⟨#[]⟩ : ByteArray), .string (⟨#[]⟩ : ByteArray)] 23) = W0 at *
  generalize hk : w.heap.size = k at RR ⊢
  refine (V1.out _ (HT.out.on BB.out)).mono ?_
  rintro e w1 ⟨rfl, b⟩
  replace BB := Lib.hid (bthen' BB.out b)
  replace RR := Lib.hid (RR.out.below b)
  clear b
  cases v1 with
  | false =>
    go_wp2_with fail
    have WN := Lib.hid (Wk.new w1 true)
    have BA := Lib.hid (bthen' BB.out ((Below.refl _ w1).alloc (Nat.le_refl _) (.cells #[.bool true] 78)))
    have RA := Lib.hid (RR.out.alloc (.cells #[.bool true] 78))
    have hkp : k < w1.heap.size := RR.out.lt
    have hwp : w.heap.size ≤ w1.heap.size := BB.out.size
    clear BB RR
    generalize w1.alloc (.cells #[.bool true] 78) = WA at *
    generalize w1.heap.size = p at *
    refine (RD.out p _ (fun W hb => But.laid HT.out BA.out hb hwp) WN.out).mono ?_
    rintro e w9 ⟨rfl, hb⟩
    have B9 := Lib.hid (BA.out.trans (hb.below BA.out.size hwp))
    have R9 := Lib.hid (RA.out.but hb (by omega))
    clear hb
    have q0 := R9.out.cell0
    have q1 := R9.out.cell1
    have qf0 := R9.out.frozen 0
    have qf1 := R9.out.frozen 1
    have ql := R9.out.lt
    go_wp2_with fail
    have RE := (R9.out.set0 (lb r1)).set1 (lb r2)
    have BE := (B9.out.setCell (p := ⟨k, 0, none⟩) (by show w.heap.size ≤ k; omega) (.string (lb r1))).setCell (p := ⟨k, 1, none⟩) (by show w.heap.size ≤ k; omega) (.string (lb r2))
    have z0 := RE.cell0
    have z1 := RE.cell1
    clear RE q0 q1
    generalize ((w9.setCell ⟨k, 0, none⟩ (.string (lb r1))).setCell ⟨k, 1, none⟩ (.string (lb r2))) = WE at *
    exact bodyPost_ret (v := .tuple #[.agg #[.string (lb r1), .string (lb r2)], .int .i64 r3]) (by simp [results, Tryz.results22, go_sem, z0, z1]) rfl ⟨rfl, BE⟩
  | true =>
    go_wp2_with fail
    refine (V2.out _ (HT.out.on BB.out)).mono ?_
    rintro e w2 ⟨rfl, b⟩
    replace BB := Lib.hid (bthen' BB.out b)
    replace RR := Lib.hid (RR.out.below b)
    clear b
    cases v2 with
    | false =>
      go_wp2_with fail
      have WN := Lib.hid (Wk.new w2 true)
      have BA := Lib.hid (bthen' BB.out ((Below.refl _ w2).alloc (Nat.le_refl _) (.cells #[.bool true] 78)))
      have RA := Lib.hid (RR.out.alloc (.cells #[.bool true] 78))
      have hkp : k < w2.heap.size := RR.out.lt
      have hwp : w.heap.size ≤ w2.heap.size := BB.out.size
      clear BB RR
      generalize w2.alloc (.cells #[.bool true] 78) = WA at *
      generalize w2.heap.size = p at *
      refine (RD.out p _ (fun W hb => But.laid HT.out BA.out hb hwp) WN.out).mono ?_
      rintro e w9 ⟨rfl, hb⟩
      have B9 := Lib.hid (BA.out.trans (hb.below BA.out.size hwp))
      have R9 := Lib.hid (RA.out.but hb (by omega))
      clear hb
      have q0 := R9.out.cell0
      have q1 := R9.out.cell1
      have qf0 := R9.out.frozen 0
      have qf1 := R9.out.frozen 1
      have ql := R9.out.lt
      go_wp2_with fail
      have RE := (R9.out.set0 (lb r1)).set1 (lb r2)
      have BE := (B9.out.setCell (p := ⟨k, 0, none⟩) (by show w.heap.size ≤ k; omega) (.string (lb r1))).setCell (p := ⟨k, 1, none⟩) (by show w.heap.size ≤ k; omega) (.string (lb r2))
      have z0 := RE.cell0
      have z1 := RE.cell1
      clear RE q0 q1
      generalize ((w9.setCell ⟨k, 0, none⟩ (.string (lb r1))).setCell ⟨k, 1, none⟩ (.string (lb r2))) = WE at *
      exact bodyPost_ret (v := .tuple #[.agg #[.string (lb r1), .string (lb r2)], .int .i64 r3]) (by simp [results, Tryz.results22, go_sem, z0, z1]) rfl ⟨rfl, BE⟩
    | true =>
      go_wp2_with fail
      have WN := Lib.hid (Wk.new w2 false)
      have BA := Lib.hid (bthen' BB.out ((Below.refl _ w2).alloc (Nat.le_refl _) (.cells #[.bool false] 78)))
      have RA := Lib.hid (RR.out.alloc (.cells #[.bool false] 78))
      have hkp : k < w2.heap.size := RR.out.lt
      have hwp : w.heap.size ≤ w2.heap.size := BB.out.size
      clear BB RR
      generalize w2.alloc (.cells #[.bool false] 78) = WA at *
      generalize w2.heap.size = p at *
      refine (RD.out p _ (fun W hb => But.laid HT.out BA.out hb hwp) WN.out).mono ?_
      rintro e w9 ⟨rfl, hb⟩
      have B9 := Lib.hid (BA.out.trans (hb.below BA.out.size hwp))
      have R9 := Lib.hid (RA.out.but hb (by omega))
      clear hb
      have q0 := R9.out.cell0
      have q1 := R9.out.cell1
      have qf0 := R9.out.frozen 0
      have qf1 := R9.out.frozen 1
      have ql := R9.out.lt
      go_wp2_with fail
      have RE := (R9.out.set0 (lb r1)).set1 (lb r2)
      have BE := (B9.out.setCell (p := ⟨k, 0, none⟩) (by show w.heap.size ≤ k; omega) (.string (lb r1))).setCell (p := ⟨k, 1, none⟩) (by show w.heap.size ≤ k; omega) (.string (lb r2))
      have z0 := RE.cell0
      have z1 := RE.cell1
      clear RE q0 q1
      generalize ((w9.setCell ⟨k, 0, none⟩ (.string (lb r1))).setCell ⟨k, 1, none⟩ (.string (lb r2))) = WE at *
      exact bodyPost_ret (v := .tuple #[.agg #[.string (lb r1), .string (lb r2)], .int .i64 r3]) (by simp [results, Tryz.results22, go_sem, z0, z1]) rfl ⟨rfl, BE⟩

set_option maxRecDepth 100000 in
theorem of_any (n d : Int) (hn : -9223372036854775808 ≤ n ∧ n ≤ 9223372036854775807) (hd : -9223372036854775808 ≤ d ∧ d ≤ 9223372036854775807) (w : World) (hT : Laid w) :
    Calls Tryz.prog 41 #[.int .i64 n, .int .i64 d] w fun e w' =>
      e = .returned (.tuple #[.agg #[.string (lb (mkT (str n) (str d)).1), .string (lb (mkT (str n) (str d)).2.1)], .int .i64 (mkT (str n) (str d)).2.2]) ∧ Below w.heap.size w w' := by
  have hl : ∀ {z : Int}, -9223372036854775808 ≤ z ∧ z ≤ 9223372036854775807 → z.natAbs < lim := fun {z} h => Nat.lt_of_le_of_lt (show z.natAbs ≤ 9223372036854775808 by omega) (by decide)
  have fn : fit (lb (str n)) := fit_lb (by have := slen (hl hn); omega)
  have fd : fit (lb (str d)) := fit_lb (by have := slen (hl hd); omega)
  have C1 := Lib.hid (fun w hT => integer_FromInt.calls n (lb (str n)) w hT (by unfold integer_FromInt.f; rw [if_pos hn]))
  have C2 := Lib.hid (fun w hT => integer_FromInt.calls d (lb (str d)) w hT (by unfold integer_FromInt.f; rw [if_pos hd]))
  have C3 := Lib.hid (fun w hT => make_any (lb (str n)) (lb (str d)) fn fd w hT)
  simp only [bl_lb] at C3
  generalize mkT (str n) (str d) = r at *
  obtain ⟨r1, r2, r3⟩ := r
  have HT := Lib.hid hT
  clear hT hn hd fn fd hl
  go_enter Tryz.func41, Tryz.ntmps41
  go_wp2_with fail
  have RR := Lib.hid (Rt.new w (⟨#[]⟩ : ByteArray) (⟨#[]⟩ : ByteArray))
  have BB := Lib.hid ((Below.refl w.heap.size w).alloc (Nat.le_refl _) (.cells #[.string (⟨#[]⟩ : ByteArray), .string (⟨#[]⟩ : ByteArray)] 23))
  generalize w.alloc (.cells #[.string (⟨#[]⟩ : ByteArray), .string (⟨#[]⟩ : ByteArray)] 23) = W0 at *
  generalize hk : w.heap.size = k at RR ⊢
  refine (C1.out _ (HT.out.on BB.out)).mono ?_
  rintro e w1 ⟨rfl, b⟩
  replace BB := Lib.hid (bthen' BB.out b)
  replace RR := Lib.hid (RR.out.below b)
  clear b
  go_wp2_with fail
  refine (C2.out _ (HT.out.on BB.out)).mono ?_
  rintro e w2 ⟨rfl, b⟩
  replace BB := Lib.hid (bthen' BB.out b)
  replace RR := Lib.hid (RR.out.below b)
  clear b
  go_wp2_with fail
  refine (C3.out _ (HT.out.on BB.out)).mono ?_
  rintro e w3 ⟨rfl, b⟩
  replace BB := Lib.hid (bthen' BB.out b)
  replace RR := Lib.hid (RR.out.below b)
  clear b
  have q0 := RR.out.cell0
  have q1 := RR.out.cell1
  have qf0 := RR.out.frozen 0
  have qf1 := RR.out.frozen 1
  have ql := RR.out.lt
  go_wp2_with fail
  have RE := (RR.out.set0 (lb r1)).set1 (lb r2)
  have BE := (BB.out.setCell (p := ⟨k, 0, none⟩) (by show w.heap.size ≤ k; omega) (.string (lb r1))).setCell (p := ⟨k, 1, none⟩) (by show w.heap.size ≤ k; omega) (.string (lb r2))
  have z0 := RE.cell0
  have z1 := RE.cell1
  clear RE q0 q1
  generalize ((w3.setCell ⟨k, 0, none⟩ (.string (lb r1))).setCell ⟨k, 1, none⟩ (.string (lb r2))) = WE at *
  exact bodyPost_ret (v := .tuple #[.agg #[.string (lb r1), .string (lb r2)], .int .i64 r3]) (by simp [results, Tryz.results41, go_sem, z0, z1]) rfl ⟨rfl, BE⟩
end Go.Proofs.YtfdjdmkpcdbmkaaGreatDoor

/-
  Plain: what package rational's functions compute on texts is what XRat's specs say.
-/
namespace Go.Proofs.YtfdjdmkpcdbmkaaGreatDoor
open Go.Lib

theorem endS_str {x y : Int} (hx : x.natAbs < lim) (hy : y.natAbs < lim) (h0 : y ≠ 0) : endS false (str x) (str y) = (str (x / Int.gcd x y), str (y / Int.gcd x y), 0) := by
  have hg : (Int.gcd x y : Int).natAbs < lim := by rw [Int.natAbs_natCast]; exact gcd_lt hx hy
  have hg0 : (Int.gcd x y : Int) ≠ 0 := by have := gcd_pos_of (n := x) h0; omega
  have e1 : doS gcdS false (str x) (str y) = (str (Int.gcd x y), false) := by unfold doS; rw [gcdS_str hx hy]; rfl
  have e2 : doS quoS false (str x) (str (Int.gcd x y)) = (str (x / Int.gcd x y), false) := by unfold doS quoS; rw [divS_str hx hg hg0]; rfl
  have e3 : doS quoS false (str y) (str (Int.gcd x y)) = (str (y / Int.gcd x y), false) := by unfold doS quoS; rw [divS_str hy hg hg0]; rfl
  unfold endS
  rw [e1]
  dsimp only
  rw [e2]
  dsimp only
  rw [e3]
  rfl
theorem redS_str {x y : Int} (hx : x.natAbs < lim) (hy : y.natAbs < lim) (h0 : y ≠ 0) : redS false (str x) (str y) = (str (red x y).1, str (red x y).2, 0) := by
  have hz : ¬ str y = [48] := by rw [← str_zero]; intro h; exact h0 (str_inj h)
  have hr : redS false (str x) (str y) = if cmpS (str y) [48] < 0 then endS (doS subS (doS subS false [48] (str x)).2 [48] (str y)).2 (doS subS false [48] (str x)).1 (doS subS (doS subS false [48] (str x)).2 [48] (str y)).1 else endS false (str x) (str y) := by
    unfold redS
    rw [if_neg (by simp [hz])]
    split <;> rfl
  have l0 : (0 : Int).natAbs < lim := by decide
  rw [hr, ← str_zero, cmpS_str hy l0]
  by_cases hy0 : y < 0
  · have hx' : (0 - x).natAbs < lim := by omega
    have hy' : (0 - y).natAbs < lim := by omega
    have e1 : doS subS false (str 0) (str x) = (str (0 - x), false) := by unfold doS; rw [subS_str l0 hx, outS_ok hx']; rfl
    have e2 : doS subS false (str 0) (str y) = (str (0 - y), false) := by unfold doS; rw [subS_str l0 hy, outS_ok hy']; rfl
    rw [if_pos (by unfold cmpZ; rw [if_pos hy0]; omega), e1]
    dsimp only
    rw [e2]
    dsimp only
    rw [endS_str hx' hy' (by omega)]
    unfold red; rw [if_pos hy0]
  · rw [if_neg (by unfold cmpZ; rw [if_neg hy0]; split <;> omega), endS_str hx hy h0]
    unfold red; rw [if_neg hy0]
theorem mkT_eq (n d : List UInt8) : mkT n d = ((makeS n d).1.1, (makeS n d).1.2, (makeS n d).2) := by
  unfold mkT makeS
  by_cases hv : (valid n && valid d) = true
  · have hv2 := hv
    rw [Bool.and_eq_true] at hv2
    obtain ⟨x, hx, rfl⟩ := of_valid hv2.1
    obtain ⟨y, hy, rfl⟩ := of_valid hv2.2
    rw [hv, toZ_str, toZ_str]
    by_cases h0 : y = 0
    · subst h0
      rw [if_neg (by simp)]
      unfold redS
      rw [if_pos (by simp [str_zero])]
      rfl
    · rw [if_pos (by simp [h0])]
      exact redS_str hx hy h0
  · have hv' : (valid n && valid d) = false := by simpa using hv
    rw [hv', if_neg (by simp)]
    unfold redS
    rw [if_pos (by simp)]
    rfl
/-- Valid, on texts. -/
theorem vR_eq (n d : List UInt8) : vR n d = ratValid (n, d) := by
  unfold vR ratValid numZ denZ
  by_cases hv : (valid n && valid d) = true
  · have hv2 := hv
    rw [Bool.and_eq_true] at hv2
    obtain ⟨x, hx, rfl⟩ := of_valid hv2.1
    obtain ⟨y, hy, rfl⟩ := of_valid hv2.2
    have l0 : (0 : Int).natAbs < lim := by decide
    dsimp only
    rw [hv, toZ_str, toZ_str, gcdS_str hx hy, ← str_zero, cmpS_str hy l0, ← str_one]
    have e1 : decide (0 < cmpZ y 0) = decide (0 < y) := by
      rw [decide_eq_decide]; unfold cmpZ; split <;> (try split) <;> omega
    have e2 : decide (str (Int.gcd x y) = str 1) = decide (Int.gcd x y = 1) := by
      rw [decide_eq_decide]
      exact ⟨fun h => by have := str_inj h; omega, fun h => by rw [h]; rfl⟩
    rw [e1, e2]
    simp
  · have hv' : (valid n && valid d) = false := by simpa using hv
    dsimp only
    rw [hv']; simp
end Go.Proofs.YtfdjdmkpcdbmkaaGreatDoor
