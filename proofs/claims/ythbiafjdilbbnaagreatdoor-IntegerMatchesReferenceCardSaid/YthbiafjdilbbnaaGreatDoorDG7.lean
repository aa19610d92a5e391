/-
  What the printed functions of the reference come to: trim, text, Made; and the printed examples ('sane').
-/
import Derived.Test.YthbiafjdilbbnaaGreatDoorDPIx2
import Derived.Test.YthbiafjdilbbnaaGreatDoorCG7
set_option linter.unusedVariables false
set_option linter.unusedSimpArgs false
namespace Go.Proofs.YthbiafjdilbbnaaGreatDoor
open Go.RowKit Go.Lib Go.Proofs.YthbiafjdilbbnaaGreatDoor.PI Go.Proofs.YthbiafjdilbbnaaGreatDoorW.PrintWords Go.Proofs.YthbiafjdilbbnaaGreatDoorW.PrintLast

/-- The one string of a number. -/
def S (z : Int) : ByteArray := lb (str z)
theorem bl_S (z : Int) : bl (S z) = str z := bl_lb _
theorem S_toList (z : Int) : (S z).toList = str z := by rw [ByteArray.toList_eq]; exact bl_S z
theorem str_len {z : Int} (h : z.natAbs < lim) : (str z).length ≤ 201 := by
  have h1 : (decDigits z.natAbs).length ≤ 200 := dec_length_le (by omega) h
  have := str_length z
  split at this <;> omega
theorem S_size {z : Int} (h : z.natAbs < lim) : (S z).size ≤ 201 := by unfold S; rw [lb_size]; exact str_len h
theorem S_fit {z : Int} (h : z.natAbs < lim) : fit (S z) := by have := S_size h; unfold fit; omega
theorem lb_lit {l : List UInt8} {z : Int} (h : valid l = true) (hz : toZ l = z) : lb l = S z := by
  obtain ⟨y, hy, rfl⟩ := of_valid h
  rw [toZ_str] at hz; subst hz; rfl

/-! ### The given operations at numbers' strings -/
theorem add_S {a b : Int} (ha : a.natAbs < lim) (hb : b.natAbs < lim) (h : (a + b).natAbs < lim) : integer_Add.f (S a) (S b) = some (S (a + b), 0) := by
  unfold integer_Add.f
  rw [if_pos ⟨S_fit ha, S_fit hb⟩, bl_S, bl_S, addS_str ha hb, outS_ok h]; rfl
theorem sub_S {a b : Int} (ha : a.natAbs < lim) (hb : b.natAbs < lim) (h : (a - b).natAbs < lim) : integer_Sub.f (S a) (S b) = some (S (a - b), 0) := by
  unfold integer_Sub.f
  rw [if_pos ⟨S_fit ha, S_fit hb⟩, bl_S, bl_S, subS_str ha hb, outS_ok h]; rfl
theorem mul_S {a b : Int} (ha : a.natAbs < lim) (hb : b.natAbs < lim) (h : (a * b).natAbs < lim) : integer_Mul.f (S a) (S b) = some (S (a * b), 0) := by
  unfold integer_Mul.f
  rw [if_pos ⟨S_fit ha, S_fit hb⟩, bl_S, bl_S, mulS_str ha hb, outS_ok h]; rfl
theorem div_S {a b : Int} (ha : a.natAbs < lim) (hb : b.natAbs < lim) (h : b ≠ 0) : integer_Div.f (S a) (S b) = some (S (a / b), S (a % b), 0) := by
  unfold integer_Div.f
  rw [if_pos ⟨S_fit ha, S_fit hb⟩, bl_S, bl_S, divS_str ha hb h]; rfl
theorem gcd_S {a b : Int} (ha : a.natAbs < lim) (hb : b.natAbs < lim) : integer_Gcd.f (S a) (S b) = some (S (Int.gcd a b), 0) := by
  unfold integer_Gcd.f
  rw [if_pos ⟨S_fit ha, S_fit hb⟩, bl_S, bl_S, gcdS_str ha hb]; rfl
theorem root_S {a : Int} (ha : a.natAbs < lim) (h : 0 ≤ a) : integer_Root.f (S a) = some (S (isq a.natAbs), 0) := by
  unfold integer_Root.f
  rw [if_pos (S_fit ha), bl_S, rootS_str ha h]; rfl
theorem root_neg_S {a : Int} (ha : a.natAbs < lim) (h : a < 0) : integer_Root.f (S a) = some (lb [], 30) := by
  unfold integer_Root.f
  rw [if_pos (S_fit ha), bl_S, rootS_neg h]; rfl
theorem cmp_S {a b : Int} (ha : a.natAbs < lim) (hb : b.natAbs < lim) : integer_Compare.f (S a) (S b) = some (cmpZ a b) := by
  unfold integer_Compare.f
  rw [if_pos ⟨S_fit ha, S_fit hb⟩, bl_S, bl_S, cmpS_str ha hb]
theorem valid_S {a : Int} (ha : a.natAbs < lim) : integer_Valid.f (S a) = some true := by
  unfold integer_Valid.f
  rw [if_pos (S_fit ha), bl_S, valid_str ha]
theorem fromInt_S {n : Int} (h0 : -9223372036854775808 ≤ n) (h1 : n ≤ 9223372036854775807) : integer_FromInt.f n = some (S n) := by
  unfold integer_FromInt.f
  rw [if_pos ⟨h0, h1⟩]; rfl

/-! ### trim -/
theorem wrap_id {x : Int} (h0 : -9223372036854775808 ≤ x) (h1 : x ≤ 9223372036854775807) : wrap64 x = x := by unfold wrap64; omega
theorem trim_ev (l : List Int) (hd : Dg l) (hl : l.length ≤ 1000000) : Ev (fun k => newswireref03_trim.l0 k l) (dgs (dv l)) := by
  induction hn : l.length generalizing l with
  | zero =>
    obtain rfl : l = [] := List.length_eq_zero_iff.1 hn
    refine Ev.step (f := fun _ => some []) (fun k => ?_) ?_
    · simp only [newswireref03_trim.l0]; rfl
    · rw [show dv [] = 0 from rfl, dgs_zero]; exact Ev.now _
  | succ n ih =>
    obtain ⟨m, x, rfl⟩ : ∃ m x, l = m ++ [x] := ⟨l.dropLast, l.getLast (by intro e; subst e; simp at hn), (List.dropLast_concat_getLast _).symm⟩
    have hm : m.length = n := by simpa using hn
    have hd' := dg_append.1 hd
    have hx := (dg_cons.1 hd'.2).1
    have hw : wrap64 (((m ++ [x]).length : Int) - 1) = (n : Int) := by rw [hn]; rw [wrap_id (by omega) (by omega)]; omega
    have hr : rd (m ++ [x]) (n : Int) = x := by unfold rd; rw [Int.toNat_natCast, ← hm]; simp [List.getD_eq_getElem?_getD]
    by_cases h0 : x = 0
    · subst h0
      have e : dv (m ++ [0]) = dv m := by rw [dv_snoc]; simp
      rw [e]
      refine Ev.step (f := fun k => newswireref03_trim.l0 k m) (fun k => ?_) (ih m hd'.1 (by omega) hm)
      simp only [newswireref03_trim.l0]
      rw [hw, if_pos (by rw [hn]; omega), if_pos (by omega), if_pos (by rw [hn]; omega), hr, if_pos rfl, if_pos (by rw [hn]; omega), Int.toNat_natCast, List.take_left' hm]
    · have e : dgs (dv (m ++ [x])) = m ++ [x] := dgs_dv hd (.inr (by simp; exact h0))
      rw [e]
      refine Ev.step (f := fun _ => some (m ++ [x])) (fun k => ?_) (Ev.now _)
      simp only [newswireref03_trim.l0]
      rw [hw, if_pos (by rw [hn]; omega), if_pos (by omega), if_pos (by rw [hn]; omega), hr, if_neg h0]

/-! ### text -/
theorem text_loop (l : List Int) (hd : Dg l) (hl : l.length ≤ 1000000) (j : Nat) (hj : j ≤ l.length) (out : List Int) (ho : out.length ≤ 1000001 + l.length - j) :
    Ev (fun k => newswireref03_text.l0 k l out ((j : Int) - 1)) (strOfNums (out ++ ((l.take j).reverse.map (48 + ·))), decide ((l.length : Int) ≤ 200)) := by
  induction j generalizing out with
  | zero =>
    refine Ev.step (f := fun _ => some (strOfNums out, decide ((l.length : Int) ≤ 200))) (fun k => ?_) (by simp; exact Ev.now _)
    simp only [newswireref03_text.l0]
    rw [if_neg (by omega)]
  | succ j ih =>
    have hlt : j < l.length := by omega
    have hx : 0 ≤ l[j] ∧ l[j] < 10 := hd _ (List.getElem_mem hlt)
    have hr : rd l (j : Int) = l[j] := by unfold rd; rw [Int.toNat_natCast, List.getD_eq_getElem?_getD, List.getElem?_eq_getElem hlt]; rfl
    have e : out ++ ((l.take (j + 1)).reverse.map (48 + ·)) = (out ++ [48 + l[j]]) ++ ((l.take j).reverse.map (48 + ·)) := by
      rw [List.take_succ_eq_append_getElem hlt, List.reverse_append, List.map_append, List.append_assoc]; rfl
    rw [e]
    refine Ev.step (f := fun k => newswireref03_text.l0 k l (out ++ [48 + l[j]]) ((j : Int) - 1)) (fun k => ?_) (ih (by omega) (out ++ [48 + l[j]]) (by simp only [List.length_append, List.length_cons, List.length_nil]; omega))
    simp only [newswireref03_text.l0]
    rw [show ((j + 1 : Nat) : Int) - 1 = (j : Int) by omega, if_pos (by omega), if_pos (by omega), if_pos (by omega), if_pos (by omega), hr, wrap_id (by omega) (by omega), wrap_id (by omega) (by omega), Int.emod_eq_of_lt (by omega) (by omega)]
theorem strOf_txt (neg : Bool) {n : Nat} (h : n ≠ 0) : strOfNums (dtxt neg n) = S (sgn neg n) := by
  have h1 := bytesOf_dtxt neg h
  unfold S lb
  rw [← h1]; rfl
theorem text_ev (neg : Bool) (n : Nat) (hl : (dgs n).length ≤ 1000000) : Ev (fun k => newswireref03_text.f k neg (dgs n)) (S (sgn neg n), decide (n < lim)) := by
  have hlim : decide (((dgs n).length : Int) ≤ 200) = decide (n < lim) := by
    have := @dgs_length_le_iff n 200
    unfold lim
    rw [decide_eq_decide]
    constructor
    · intro h; exact this.1 (by omega)
    · intro h; have := this.2 h; omega
  by_cases h0 : n = 0
  · subst h0
    have e : S (sgn neg 0) = (⟨#[48]⟩ : ByteArray) := by
      rw [show sgn neg 0 = 0 by unfold sgn; cases neg <;> rfl]
      unfold S; rw [str_zero]; rfl
    rw [e]
    refine Ev.congr (f := fun _ => some ((⟨#[48]⟩ : ByteArray), true)) (fun k => ?_) (by rw [decide_eq_true (by decide : 0 < lim)]; exact Ev.now _)
    unfold newswireref03_text.f
    rw [dgs_zero]; rfl
  · have hne : dgs n ≠ [] := fun e => h0 (dgs_eq_nil.1 e)
    have hlp : (dgs n).length ≠ 0 := fun e => hne (List.length_eq_zero_iff.1 e)
    have hw : wrap64 (((dgs n).length : Int) - 1) = ((dgs n).length : Int) - 1 := wrap_id (by omega) (by omega)
    have go : ∀ out : List Int, out.length ≤ 1 → strOfNums (out ++ (dgs n).reverse.map (48 + ·)) = S (sgn neg n) → Ev (fun k => newswireref03_text.j0 k (dgs n) out) (S (sgn neg n), decide (n < lim)) := by
      intro out ho he
      have := text_loop (dgs n) (dg_dgs n) hl (dgs n).length (Nat.le_refl _) out (by omega)
      rw [List.take_length, he, hlim] at this
      refine Ev.step (fun k => ?_) this
      simp only [newswireref03_text.j0]
      rw [hw]
    have hs := strOf_txt neg h0
    unfold dtxt at hs
    cases neg with
    | true =>
      refine Ev.congr (fun k => ?_) (go ([] ++ [45]) (by simp) (by simpa using hs))
      unfold newswireref03_text.f
      rw [if_neg (by omega), if_pos rfl, if_pos (by simp)]
    | false =>
      refine Ev.congr (fun k => ?_) (go [] (by simp) (by simpa using hs))
      unfold newswireref03_text.f
      rw [if_neg (by omega), if_neg (by simp)]

/-! ### Made -/
theorem bt_range (s : ByteArray) (i : Int) : 0 ≤ bt s i ∧ bt s i ≤ 255 := by
  unfold bt
  split
  · rename_i h
    have := (s[i.toNat]'h).toNat_lt
    omega
  · omega
theorem made_end (l : List Int) (hd : Dg l) (hl : l.length ≤ 200) (neg : Bool) :
    Ev (fun k => (newswireref03_trim.f k l).bind fun t => (newswireref03_text.f k neg t).bind fun bt => some bt.1) (S (sgn neg (dv l))) := by
  refine Ev.bind (trim_ev l hd (by omega)) ?_
  have hlen : (dgs (dv l)).length ≤ 1000000 := by
    have := dgs_length_le (dv_lt hd); omega
  exact Ev.bind (text_ev neg (dv l) hlen) (Ev.now _)
theorem made_loop (s : ByteArray) (hs : s.size ≤ 140737488351232) (most : Nat) (hm : most ≤ 200) (d : Nat) : ∀ (l : List Int), Dg l → l.length ≤ most → most - l.length = d →
    ∃ z : Int, z.natAbs < 10 ^ most ∧ Ev (fun k => newswireref03_Made.l0 k s (most : Int) l (l.length : Int)) (S z) := by
  induction d with
  | zero =>
    intro l hd hl he
    have hb : dv l < 10 ^ most := Nat.lt_of_lt_of_le (dv_lt hd) (Nat.pow_le_pow_right (by omega) hl)
    obtain ⟨neg, hneg⟩ : ∃ neg : Bool, neg = (decide (0 < s.size) && decide (bt s 0 ≥ 128)) := ⟨_, rfl⟩
    refine ⟨sgn neg (dv l), by rw [natAbs_sgn]; exact hb, Ev.step (fun k => ?_) (made_end l hd (by omega) neg)⟩
    simp only [newswireref03_Made.l0]
    have h0 : ¬ ((l.length : Int) < (most : Int)) := by omega
    by_cases hsz : 0 < s.size
    · have e : neg = decide (bt s 0 ≥ 128) := by rw [hneg, decide_eq_true hsz, Bool.true_and]
      rw [e]
      split
      · first | rw [if_neg h0, if_pos (by omega), if_pos (by omega)] | rw [if_pos (by omega), if_pos (by omega)]
      · rw [if_pos (by omega), if_pos (by omega)]
    · have e : neg = false := by rw [hneg, decide_eq_false hsz, Bool.false_and]
      rw [e]
      split
      · first | rw [if_neg h0, if_neg (by omega)] | rw [if_neg (by omega)]
      · rw [if_neg (by omega)]
  | succ d ih =>
    intro l hd hl he
    by_cases hlt : (l.length : Int) < (s.size : Int)
    · have hb := bt_range s (l.length : Int)
      have hdig : Int.tmod (wrap64 (bt s l.length)) 10 = bt s l.length % 10 := by
        rw [wrap_id (by omega) (by omega), Int.tmod_eq_emod_of_nonneg (by omega)]
      obtain ⟨z, h1, h2⟩ := ih (l ++ [bt s l.length % 10]) (dg_append.2 ⟨hd, dg_cons.2 ⟨by omega, dg_nil⟩⟩) (by simp; omega) (by simp; omega)
      refine ⟨z, h1, Ev.step (fun k => ?_) h2⟩
      simp only [newswireref03_Made.l0]
      rw [if_pos hlt, if_pos (by omega), if_pos (by omega), if_pos (by omega), hdig, wrap_id (by omega) (by omega)]
      congr 1
      simp
    · have hb : dv l < 10 ^ most := Nat.lt_of_lt_of_le (dv_lt hd) (Nat.pow_le_pow_right (by omega) hl)
      obtain ⟨neg, hneg⟩ : ∃ neg : Bool, neg = (decide (0 < s.size) && decide (bt s 0 ≥ 128)) := ⟨_, rfl⟩
      refine ⟨sgn neg (dv l), by rw [natAbs_sgn]; exact hb, Ev.step (fun k => ?_) (made_end l hd (by omega) neg)⟩
      simp only [newswireref03_Made.l0]
      rw [if_neg hlt]
      by_cases hsz : 0 < s.size
      · have e : neg = decide (bt s 0 ≥ 128) := by rw [hneg, decide_eq_true hsz, Bool.true_and]
        rw [e, if_pos (by omega), if_pos (by omega)]
      · have e : neg = false := by rw [hneg, decide_eq_false hsz, Bool.false_and]
        rw [e, if_neg (by omega)]
/-- **Made hands back the string of some number of at most so many digits.** -/
theorem made_ev (s : ByteArray) (hs : s.size ≤ 140737488351232) (most : Nat) (hm : most ≤ 200) : ∃ z : Int, z.natAbs < 10 ^ most ∧ Ev (fun k => newswireref03_Made.f k s (most : Int)) (S z) :=
  made_loop s hs most hm most [] dg_nil (by simp) (by simp)
end Go.Proofs.YthbiafjdilbbnaaGreatDoor

/-
  The examples with which each statement begins ('sane') come to true.
-/
namespace Go.Proofs.YthbiafjdilbbnaaGreatDoor
open Go.RowKit Go.Lib Go.Proofs.YthbiafjdilbbnaaGreatDoor.PI Go.Proofs.YthbiafjdilbbnaaGreatDoorW.PrintWords Go.Proofs.YthbiafjdilbbnaaGreatDoorW.PrintLast

theorem l1 : (⟨#[49]⟩ : ByteArray) = S 1 := lb_lit (l := [49]) (by decide) (by decide)
theorem l0 : (⟨#[48]⟩ : ByteArray) = S 0 := lb_lit (l := [48]) (by decide) (by decide)
theorem l2 : (⟨#[50]⟩ : ByteArray) = S 2 := lb_lit (l := [50]) (by decide) (by decide)
theorem l4 : (⟨#[52]⟩ : ByteArray) = S 4 := lb_lit (l := [52]) (by decide) (by decide)
theorem l6 : (⟨#[54]⟩ : ByteArray) = S 6 := lb_lit (l := [54]) (by decide) (by decide)
theorem l9 : (⟨#[57]⟩ : ByteArray) = S 9 := lb_lit (l := [57]) (by decide) (by decide)
theorem l12 : (⟨#[49, 50]⟩ : ByteArray) = S 12 := lb_lit (l := [49, 50]) (by decide) (by decide)
theorem l99 : (⟨#[57, 57]⟩ : ByteArray) = S 99 := lb_lit (l := [57, 57]) (by decide) (by decide)
theorem l999 : (⟨#[57, 57, 57]⟩ : ByteArray) = S 999 := lb_lit (l := [57, 57, 57]) (by decide) (by decide)
theorem l1000 : (⟨#[49, 48, 48, 48]⟩ : ByteArray) = S 1000 := lb_lit (l := [49, 48, 48, 48]) (by decide) (by decide)
theorem m1 : (⟨#[45, 49]⟩ : ByteArray) = S (-1) := lb_lit (l := [45, 49]) (by decide) (by decide)
theorem m2 : (⟨#[45, 50]⟩ : ByteArray) = S (-2) := lb_lit (l := [45, 50]) (by decide) (by decide)
theorem m4 : (⟨#[45, 52]⟩ : ByteArray) = S (-4) := lb_lit (l := [45, 52]) (by decide) (by decide)
theorem m7 : (⟨#[45, 55]⟩ : ByteArray) = S (-7) := lb_lit (l := [45, 55]) (by decide) (by decide)
theorem m8 : (⟨#[45, 56]⟩ : ByteArray) = S (-8) := lb_lit (l := [45, 56]) (by decide) (by decide)
theorem m12 : (⟨#[45, 49, 50]⟩ : ByteArray) = S (-12) := lb_lit (l := [45, 49, 50]) (by decide) (by decide)
theorem m18 : (⟨#[45, 49, 56]⟩ : ByteArray) = S (-18) := lb_lit (l := [45, 49, 56]) (by decide) (by decide)
theorem m144 : (⟨#[45, 49, 52, 52]⟩ : ByteArray) = S (-144) := lb_lit (l := [45, 49, 52, 52]) (by decide) (by decide)
theorem m999 : (⟨#[45, 57, 57, 57]⟩ : ByteArray) = S (-999) := lb_lit (l := [45, 57, 57, 57]) (by decide) (by decide)

theorem sane_ev : Ev (fun k => newswirelaw03_sane.f k) true := by
  have h1 : integer_Add.f (⟨#[57, 57, 57]⟩ : ByteArray) (⟨#[49]⟩ : ByteArray) = some (⟨#[49, 48, 48, 48]⟩, 0) := by rw [l999, l1, l1000]; exact add_S (by decide) (by decide) (by decide)
  have h2 : integer_Sub.f (⟨#[49]⟩ : ByteArray) (⟨#[49, 48, 48, 48]⟩ : ByteArray) = some (⟨#[45, 57, 57, 57]⟩, 0) := by rw [m999, l1, l1000]; exact sub_S (by decide) (by decide) (by decide)
  have h3 : integer_Mul.f (⟨#[45, 49, 50]⟩ : ByteArray) (⟨#[49, 50]⟩ : ByteArray) = some (⟨#[45, 49, 52, 52]⟩, 0) := by rw [m12, l12, m144]; exact mul_S (by decide) (by decide) (by decide)
  have h4 : integer_Div.f (⟨#[45, 55]⟩ : ByteArray) (⟨#[50]⟩ : ByteArray) = some (⟨#[45, 52]⟩, ⟨#[49]⟩, 0) := by rw [m7, l2, m4, l1]; exact div_S (by decide) (by decide) (by decide)
  have h5 : integer_Div.f (⟨#[45, 55]⟩ : ByteArray) (⟨#[45, 50]⟩ : ByteArray) = some (⟨#[52]⟩, ⟨#[49]⟩, 0) := by rw [m7, m2, l4, l1]; exact div_S (by decide) (by decide) (by decide)
  have h6 : integer_Gcd.f (⟨#[49, 50]⟩ : ByteArray) (⟨#[45, 49, 56]⟩ : ByteArray) = some (⟨#[54]⟩, 0) := by rw [l12, m18, l6]; exact gcd_S (by decide) (by decide)
  have h7 : integer_Root.f (⟨#[57, 57]⟩ : ByteArray) = some (⟨#[57]⟩, 0) := by
    rw [l99, l9]
    have := root_S (a := 99) (by decide) (by decide)
    rw [this, show isq (99 : Int).natAbs = 9 from isq_unique (by decide) (by decide)]; rfl
  have h8 : integer_Root.f (⟨#[45, 49]⟩ : ByteArray) = some (lb [], 30) := by rw [m1]; exact root_neg_S (by decide) (by decide)
  have h9 : integer_Add.f (⟨#[48, 48, 55]⟩ : ByteArray) (⟨#[49]⟩ : ByteArray) = some (lb [], 30) := by
    unfold integer_Add.f
    rw [if_pos ⟨by decide, by decide⟩]
    have : addS (bl ⟨#[48, 48, 55]⟩) (bl ⟨#[49]⟩) = ([], errInteger) := by
      unfold addS
      rw [show valid (bl ⟨#[48, 48, 55]⟩) = false by decide]; rfl
    rw [this]; rfl
  have h10 : integer_Valid.f (⟨#[45, 55]⟩ : ByteArray) = some true := by rw [m7]; exact valid_S (by decide)
  have h11 : integer_Valid.f (⟨#[45, 48]⟩ : ByteArray) = some false := by
    unfold integer_Valid.f
    rw [if_pos (by decide), show valid (bl ⟨#[45, 48]⟩) = false by decide]
  have h12 : integer_Valid.f (⟨#[]⟩ : ByteArray) = some false := by
    unfold integer_Valid.f
    rw [if_pos (by decide), show valid (bl ⟨#[]⟩) = false by decide]
  have h13 : integer_Compare.f (⟨#[45, 56]⟩ : ByteArray) (⟨#[45, 55]⟩ : ByteArray) = some (-1) := by rw [m8, m7]; exact cmp_S (by decide) (by decide)
  refine ⟨1, fun k hk => ?_⟩
  obtain ⟨k, rfl⟩ : ∃ m, k = m + 1 := ⟨k - 1, by omega⟩
  unfold newswirelaw03_sane.f
  rw [h1, h2, h3, h4, h5, h6, h7, h8, h9]
  simp only [Option.bind_some, newswirelaw03_sane.j0, ByteArray.toList_eq]
  rw [h10, h11, h12, h13]
  rfl
end Go.Proofs.YthbiafjdilbbnaaGreatDoor

/-
  Small words for proofs over printed functions: a step whose answer is known, a test whose answer is known; equality of numbers' strings.
-/
namespace Go.Proofs.YthbiafjdilbbnaaGreatDoor
open Go.RowKit Go.Lib Go.Proofs.YthbiafjdilbbnaaGreatDoorW.PrintWords Go.Proofs.YthbiafjdilbbnaaGreatDoorW.PrintLast

theorem ev_pos {α : Type} {c : Prop} [Decidable c] {f g : Nat → Option α} {r : α} (h : c) (k : Ev f r) : Ev (fun n => if c then f n else g n) r := by
  rw [show (fun n => if c then f n else g n) = f from funext fun n => if_pos h]; exact k
theorem ev_neg {α : Type} {c : Prop} [Decidable c] {f g : Nat → Option α} {r : α} (h : ¬ c) (k : Ev g r) : Ev (fun n => if c then f n else g n) r := by
  rw [show (fun n => if c then f n else g n) = g from funext fun n => if_neg h]; exact k
theorem ev_now {α : Type} {r s : α} (h : s = r) : Ev (fun _ => some s) r := by subst h; exact Ev.now _
theorem S_zero {a : Int} : (S a).toList = [48] ↔ a = 0 := by
  rw [S_toList, ← str_zero]
  exact ⟨str_inj, fun h => by rw [h]⟩
theorem S_beq0 (a : Int) : ((S a).toList == ([48] : List UInt8)) = decide (a = 0) := by
  rw [Bool.eq_iff_iff, beq_iff_eq, S_zero, decide_eq_true_eq]
theorem p10 {k : Nat} {z : Int} (h : z.natAbs < 10 ^ k) (hk : k ≤ 200) : z.natAbs < lim := Nat.lt_of_lt_of_le h (Nat.pow_le_pow_right (by omega) hk)
theorem made_at (s : ByteArray) (hs : s.size ≤ 140737488351232) (most : Nat) (m : Int) (hmm : m = (most : Int)) (hm : most ≤ 200) : ∃ z : Int, z.natAbs < 10 ^ most ∧ Ev (fun k => PI.newswireref03_Made.f k s m) (S z) := by
  subst hmm; exact made_ev s hs most hm
end Go.Proofs.YthbiafjdilbbnaaGreatDoor
