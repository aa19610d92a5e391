/-
  integer.go: 'parse': plain.
-/
import Derived.Test.YtfdjdmkpcdbmkaaGreatDoorCTimesW
import Derived.Test.YtfdjdmkpcdbmkaaGreatDoorCG1
import Derived.Test.YtfdjdmkpcdbmkaaGreatDoorCGSh
import Derived.Lib.SmallJoins
import Derived.Shelf.Strings.SlTrimAscii
import Derived.RangeFuncWrites
import Derived.Shelf.Strings.Builder1
set_option linter.unusedVariables false
set_option linter.unusedSimpArgs false
namespace Go.Proofs.YtfdjdmkpcdbmkaaGreatDoor
open Go.RowKit Go.Shelf Go.Lib

theorem num_from (b : List UInt8) (n : Nat) : b.foldl (fun n b => n * 10 + (b.toNat - 48)) n = n * 10 ^ b.length + num b := by
  induction b generalizing n with
  | nil => simp [num]
  | cons x b ih =>
    unfold num
    rw [List.foldl_cons, List.foldl_cons, ih, ih (0 * 10 + (x.toNat - 48)), List.length_cons, Nat.pow_succ, Nat.zero_mul, Nat.zero_add, Nat.add_mul, Nat.mul_assoc, Nat.mul_comm 10 (10 ^ b.length), Nat.add_assoc]
theorem num_append (a b : List UInt8) : num (a ++ b) = num a * 10 ^ b.length + num b := by
  rw [← num_from]; unfold num; rw [List.foldl_append]
theorem num_lt {l : List UInt8} (h : ∀ b ∈ l, isDig b = true) : num l < 10 ^ l.length := by
  induction l with
  | nil => simp [num]
  | cons x l ih =>
    have h1 := ih fun b hb => h b (by simp [hb])
    have h2 := h x (by simp)
    have h3 : num (x :: l) = (x.toNat - 48) * 10 ^ l.length + num l := by rw [← num_from]; unfold num; rw [List.foldl_cons, Nat.zero_mul, Nat.zero_add]
    unfold isDig at h2
    simp at h2
    have h4 : x.toNat - 48 ≤ 9 := by omega
    have h5 := Nat.mul_le_mul_right (10 ^ l.length) h4
    rw [h3, List.length_cons, Nat.pow_succ]
    omega

/-- Between two rounds of 'parse': xs holds the places read, l what is left. -/
structure Read (n : Nat) (xs : List Int) (l : List UInt8) : Prop where
  dig : Dig xs
  digits : ∀ b ∈ l, isDig b = true
  sum : val xs + 10000 ^ xs.length * (num l : Int) = n
  short : xs.length + l.length ≤ 200
theorem Read.start {n : Nat} (h : n < lim) : Read n [] (decDigits n) :=
  ⟨by unfold Dig; simp, dec_isDig n, by rw [num_dec]; simp [val], by
    have := dec_length_le (k := 200) (by omega) (by unfold lim at h; exact h)
    simp only [List.length_nil]; omega⟩
theorem Read.step {n : Nat} {xs : List Int} {l : List UInt8} (h : Read n xs l) (hne : 0 < l.length) : Read n (xs ++ [(num (l.drop (l.length - 4)) : Int)]) (l.take (l.length - 4)) := by
  have hd : ∀ b ∈ l.drop (l.length - 4), isDig b = true := fun b hb => h.digits b (List.mem_of_mem_drop hb)
  have hlt := num_lt hd
  have hl4 : (l.drop (l.length - 4)).length ≤ 4 := by rw [List.length_drop]; omega
  have hlt4 : num (l.drop (l.length - 4)) < 10000 := Nat.lt_of_lt_of_le hlt (Nat.pow_le_pow_right (by omega) hl4)
  refine ⟨dig_append.2 ⟨h.dig, ?_⟩, fun b hb => h.digits b (List.mem_of_mem_take hb), ?_, ?_⟩
  · unfold Dig; simp; omega
  · have hs := h.sum
    have hn : num l = num (l.take (l.length - 4)) * 10000 + num (l.drop (l.length - 4)) := by
      have h1 := num_append (l.take (l.length - 4)) (l.drop (l.length - 4))
      rw [List.take_append_drop] at h1
      by_cases h4 : l.length ≤ 4
      · have : l.length - 4 = 0 := by omega
        rw [this, List.take_zero, List.drop_zero]
        rw [show num [] = 0 from rfl, Nat.zero_mul, Nat.zero_add]
      · rw [h1, List.length_drop, show l.length - (l.length - 4) = 4 by omega]
    rw [hn] at hs
    rw [val_snoc, List.length_append, List.length_singleton, ← hs, Int.pow_succ]
    generalize (10000 : Int) ^ xs.length = p
    generalize num (l.take (l.length - 4)) = a
    generalize num (l.drop (l.length - 4)) = b
    rw [Int.natCast_add, Int.natCast_mul, show ((10000 : Nat) : Int) = 10000 from rfl]
    clear hs hn hlt hlt4
    grind
  · have := h.short
    rw [List.length_append, List.length_singleton, List.length_take]
    omega
theorem Read.done {n : Nat} {xs : List Int} (h : Read n xs []) : (val xs).toNat = n := by
  have := h.sum
  rw [show num [] = 0 from rfl, Int.natCast_zero, Int.mul_zero, Int.add_zero] at this
  omega
theorem Read.digit {n : Nat} {xs : List Int} {l : List UInt8} (h : Read n xs l) (hne : 0 < l.length) : Lib.atoi (l.drop (l.length - 4)) = some (num (l.drop (l.length - 4)) : Int) :=
  atoi_digits _ (by intro e; have := congrArg List.length e; rw [List.length_drop] at this; simp at this; omega) fun b hb => h.digits b (List.mem_of_mem_drop hb)
theorem trim_minus (z : Int) : Lib.trimPrefix (str z) [45] = decDigits z.natAbs := by
  unfold str
  split
  · simp [Lib.trimPrefix, Lib.hasPrefix]
  · have h := dec_no_minus z.natAbs
    cases hd : decDigits z.natAbs with
    | nil => exact absurd hd (dec_ne_nil _)
    | cons b t =>
      have := h b (by rw [hd]; simp)
      simp [Lib.trimPrefix, Lib.hasPrefix, Ne.symm this]
theorem str_length (z : Int) : (str z).length = (decDigits z.natAbs).length + (if z < 0 then 1 else 0) := by
  unfold str; split <;> simp
end Go.Proofs.YtfdjdmkpcdbmkaaGreatDoor

/-
  integer.go: 'parse'.
-/
namespace Go.Proofs.YtfdjdmkpcdbmkaaGreatDoor
open Go.RowKit Go.Shelf Go.Lib

attribute [local go_sem] Oper.semAt_some

def bstr (l : List UInt8) : Value := .string ⟨l.toArray⟩

/-- What 'parse' leaves: the number's sign and its places. -/
def SignedIs (z : Int) (v : Value) (w : World) : Prop := ∃ d, v = .agg #[.bool (decide (z < 0)), d] ∧ Row w d (groups z.natAbs)

/-- A block of two cells: a struct's box. -/
def Boxed2 (W : World) (B : Nat) (t : TypeId) (a b : Value) : Prop := W.heap[B]? = some (.cells #[a, b] t (0, 0))
theorem Boxed2.lt {W : World} {B : Nat} {t : TypeId} {a b : Value} (h : Boxed2 W B t a b) : B < W.heap.size := (Array.getElem?_eq_some_iff.1 h).1
theorem Boxed2.cell0 {W : World} {B : Nat} {t : TypeId} {a b : Value} (h : Boxed2 W B t a b) : W.cell? ⟨B, 0, none⟩ = some a := by simp [World.cell?, show W.heap[B]? = _ from h]
theorem Boxed2.cell1 {W : World} {B : Nat} {t : TypeId} {a b : Value} (h : Boxed2 W B t a b) : W.cell? ⟨B, 1, none⟩ = some b := by simp [World.cell?, show W.heap[B]? = _ from h]
theorem Boxed2.frozen {W : World} {B : Nat} {t : TypeId} {a b : Value} (h : Boxed2 W B t a b) (k : Nat) : W.frozen? ⟨B, k, none⟩ = false := by simp [World.frozen?, show W.heap[B]? = _ from h]
theorem Boxed2.new (W : World) (t : TypeId) (a b : Value) : Boxed2 (W.alloc (.cells #[a, b] t)) W.heap.size t a b := World.alloc_heap_new W _
theorem Boxed2.below {W W' : World} {n B : Nat} {t : TypeId} {a b : Value} (h : Boxed2 W B t a b) (hb : Below n W W') (hn : B < n) : Boxed2 W' B t a b := (hb.block B hn).trans h
theorem Boxed2.kept {W W' : World} {row : Option Nat} {B : Nat} {t : TypeId} {a b : Value} (h : Boxed2 W B t a b) (hg : W.grownBy W' row) (hne : some B ≠ row) : Boxed2 W' B t a b := (hg.block B h.lt hne).trans h
theorem Boxed2.set1 {W : World} {B : Nat} {t : TypeId} {a b : Value} (b' : Value) (h : Boxed2 W B t a b) : Boxed2 (W.setCell ⟨B, 1, none⟩ b') B t a b' := by
  obtain ⟨hlt, hk⟩ := Array.getElem?_eq_some_iff.1 h
  show (W.heap.modify B _)[B]? = _
  rw [Array.getElem?_eq_getElem (by rw [Array.size_modify]; exact hlt), Array.getElem_modify_self, hk]
  rfl
theorem Boxed2.set0 {W : World} {B : Nat} {t : TypeId} {a b : Value} (a' : Value) (h : Boxed2 W B t a b) : Boxed2 (W.setCell ⟨B, 0, none⟩ a') B t a' b := by
  obtain ⟨hlt, hk⟩ := Array.getElem?_eq_some_iff.1 h
  show (W.heap.modify B _)[B]? = _
  rw [Array.getElem?_eq_getElem (by rw [Array.size_modify]; exact hlt), Array.getElem_modify_self, hk]
  rfl
theorem Boxed2.other {W : World} {B n k : Nat} {t : TypeId} {a b v : Value} (h : Boxed2 W B t a b) (hn : B ≠ n) : Boxed2 (W.setCell ⟨n, k, none⟩ v) B t a b := (Below.heap_setCell W ⟨n, k, none⟩ v B hn).trans h
theorem Row.set_box2 {W : World} {v a b v' : Value} {xs : List Int} {n k : Nat} {t : TypeId} (h : Row W v xs) (hb : Boxed2 W n t a b) (ha : ∀ i, a ≠ .int .i64 i) (hb' : ∀ i, b ≠ .int .i64 i) : Row (W.setCell ⟨n, k, none⟩ v') v xs := by
  refine ⟨h.1, ?_⟩
  rcases h.2 with h | ⟨g, off, cap, e, h1, h2, h3, h4⟩
  · exact .inl h
  · refine .inr ⟨g, off, cap, e, h1, h2, Nat.lt_of_lt_of_le h3 (KeepsOthers.setCell W _ _).size, fun j hj => ?_⟩
    have hc := h4 j hj
    by_cases hgn : g = n
    · exfalso
      subst hgn
      unfold World.cell? at hc
      rw [show W.heap[g]? = _ from hb] at hc
      simp at hc
      generalize off + j = m at hc
      match m, hc with
      | 0, hc => simp at hc; exact ha _ hc
      | 1, hc => simp at hc; exact hb' _ hc
      | m + 2, hc => simp at hc
    · exact (World.cell?_of_block (Below.heap_setCell W ⟨n, k, none⟩ v' g hgn)).trans hc
theorem ownBlock_ge {W : World} {base e size k : Nat} {v : Value} {xs : List Value} (h : W.ownsRow base e size v k xs) (b : Nat) (hb : b < base) : some b ≠ v.ownBlock := fun e' => by
  have := (h.lt b e'.symm).1
  omega

theorem own_not_int {W : World} {base e size k : Nat} {v : Value} {xs : List Value} (h : W.ownsRow base e size v k xs) (i : Int) : v ≠ .int .i64 i := by
  rintro rfl
  rcases h.2 with ⟨h, _⟩ | ⟨g, cap, cur, h, _⟩ <;> cases h
theorem own_shape {W : World} {base e size k : Nat} {v : Value} {xs : List Value} (h : W.ownsRow base e size v k xs) : ∃ A c, v = .slice A k c := by
  rcases h.2 with ⟨h1, h2⟩ | ⟨g, cap, cur, h, _⟩
  · exact ⟨none, 0, by rw [h1, h2]⟩
  · exact ⟨_, _, h⟩
structure ParseI (w W : World) (neg : Bool) (v : Value) (xs : List Int) : Prop where
  s0 : Boxed2 W w.heap.size 100 (.bool false) (.slice none 0 0)
  s1 : Boxed2 W (w.heap.size + 1) 100 (.bool neg) v
  own : W.ownsRow (w.heap.size + 1 + 1) 3 1 v xs.length (xs.map (Value.int .i64))
  below : Below w.heap.size w W
/-- A round's end: the new place lies in the row, the row's header in the box. -/
theorem ParseI.next {w W W2 W3 : World} {neg : Bool} {v v' : Value} {xs : List Int} {d : Int} (h : ParseI w W neg v xs) (h2 : Below W.heap.size W W2) (ho : W2.ownsRow (w.heap.size + 1 + 1) 3 1 v xs.length (xs.map (Value.int .i64)))
    (hown : W3.ownsRow (w.heap.size + 1 + 1) 3 1 v' (xs.length + 1) (xs.map (Value.int .i64) ++ [.int .i64 d])) (hg : W2.grownBy W3 v.ownBlock) :
    ParseI w (W3.setCell ⟨w.heap.size + 1, 1, none⟩ v') neg v' (xs ++ [d]) := by
  have a0 := (h.s0.below h2 h.s0.lt).kept hg (ownBlock_ge ho _ (by omega))
  have a1 := (h.s1.below h2 h.s1.lt).kept hg (ownBlock_ge ho _ (by omega))
  have b2 : Below w.heap.size w W2 := h.below.trans (h2.mono h.below.size)
  refine ⟨a0.other (by omega), a1.set1 v', ?_, (b2.grown hg b2.size (fun k e => by have := (ho.lt k e).1; omega)).setCell (p := ⟨w.heap.size + 1, 1, none⟩) (by show w.heap.size ≤ w.heap.size + 1; omega) _⟩
  rw [List.length_append, List.length_singleton, List.map_append]
  refine World.ownsRow.kept hown (row := some (w.heap.size + 1)) ⟨rfl, rfl, rfl, (KeepsWalks.setCell W3 _ v').size, fun k _ hk => Below.heap_setCell _ _ _ k (fun e => hk (by rw [e]))⟩ (.inr (ownBlock_ge hown _ (by omega)).symm)

set_option maxRecDepth 100000 in
set_option maxHeartbeats 4000000 in
theorem parse_any (z : Int) (hz : z.natAbs < lim) (w : World) :
    Calls Tryz.prog 104 #[.string ⟨(str z).toArray⟩] w fun e w' => ∃ v, e = .returned v ∧ SignedIs z v w' ∧ Below w.heap.size w w' := by
  obtain ⟨i0, hi, hz0, hz1, hz2⟩ := info_parts Tryz.info3
  have hst := Read.start hz
  have htp := trim_minus z
  have hsl := str_length z
  have hneg : decide ((decDigits z.natAbs).length < (str z).length) = decide (z < 0) := by
    rw [hsl]; split <;> simp [*]
  clear hsl
  go_enter Tryz.func104, Tryz.ntmps104
  go_wp2_with (go_at_call 102; refine (Tryz.strings_TrimPrefix _ _ _).mono ?_; rintro e w' ⟨rfl, rfl⟩)
  have hI0 : ParseI w ((w.alloc (.cells #[.bool false, .slice none 0 0] 100)).alloc (.cells #[.bool (decide (z < 0)), .slice none 0 0] 100)) (decide (z < 0)) (.slice none 0 0) [] := by
    have b1 := Boxed2.new (w.alloc (.cells #[.bool false, .slice none 0 0] 100)) 100 (.bool (decide (z < 0))) (.slice none 0 0)
    rw [World.size_alloc] at b1
    exact ⟨(Boxed2.new w 100 (.bool false) (.slice none 0 0)).kept (World.grownBy_alloc _ _ none) (by simp), b1, ⟨rfl, .inl ⟨rfl, rfl⟩⟩, ((Below.refl _ w).alloc (Nat.le_refl _) _).alloc (by simp) _⟩
  have HI0 := Lib.hid hI0
  have HST := Lib.hid hst
  generalize hng : decide (z < 0) = neg at *
  have HNG := Lib.hid hng
  clear htp hneg hI0 hst hng
  go_loopw [3] (fun s3 wr => ∃ (xs : List Int) (v : Value) (l : List UInt8), s3 = bstr l ∧ Hid (ParseI w wr neg v xs) ∧ Hid (Read z.natAbs xs l)) (fun s3 _ => match s3 with | .string b => b.size | _ => 0)
  case atStart => exact ⟨[], _, _, rfl, HI0, HST⟩
  case round =>
    obtain ⟨xs, v, l, rfl, HI, HR⟩ := hrel
    have hsh := HR.out.short
    unfold bstr
    have hc0 := HI.out.s1.cell0
    have hc1 := HI.out.s1.cell1
    have hf1 := HI.out.s1.frozen 1
    have he0 := HI.out.s0.cell0
    have he1 := HI.out.s0.cell1
    have hfe0 := HI.out.s0.frozen 0
    have hfe1 := HI.out.s0.frozen 1
    have hlt1 := HI.out.s1.lt
    rcases Nat.eq_zero_or_pos l.length with h0 | h0
    · have hrow := Lib.hid (Row.of_owns HI.out.own (by omega))
      have hdig := Lib.hid HR.out.dig
      have hdone : Hid ((val xs).toNat = z.natAbs) := by
        obtain rfl : l = [] := List.length_eq_zero_iff.1 h0
        exact Lib.hid HR.out.done
      go_wp2_with (go_at_call 107; refine (trimmed_at _ _ _ hrow.out hdig.out).mono ?_; rintro e w1 ⟨v1, rfl, r1, rfl, f1⟩; rw [hdone.out] at r1; obtain ⟨A1, c1, hv1⟩ := r1.shape; subst hv1; clear f1)
      have hs1 := (HI.out.s1.set1 (.slice A1 (groups z.natAbs).length c1)).other (n := w.heap.size) (k := 0) (v := .bool neg) (by omega)
      have e0 : (((w1.setCell ⟨w.heap.size + 1, 1, none⟩ (.slice A1 (groups z.natAbs).length c1)).setCell ⟨w.heap.size, 0, none⟩ (.bool neg)).setCell ⟨w.heap.size, 1, none⟩ (.slice A1 (groups z.natAbs).length c1)).heap[w.heap.size]? = some (.cells #[.bool neg, .slice A1 (groups z.natAbs).length c1] 100 (0, 0)) :=
        Boxed2.set1 _ (Boxed2.set0 (.bool neg) (HI.out.s0.other (n := w.heap.size + 1) (k := 1) (v := .slice A1 (groups z.natAbs).length c1) (by omega)))
      have g0 := Boxed2.cell0 e0
      have g1 := Boxed2.cell1 e0
      refine ⟨rfl, .agg #[.bool neg, .slice A1 (groups z.natAbs).length c1], by simp [results, Tryz.f104, go_sem, g0, g1], _, rfl, ⟨_, by rw [HNG.out], ?_⟩, ?_⟩
      · have r2 := r1.set_box2 (k := 1) (v' := .slice A1 (groups z.natAbs).length c1) HI.out.s1 (by intro i e; cases e) (fun i e => (own_not_int HI.out.own i e))
        have q2 := HI.out.s0.other (n := w.heap.size + 1) (k := 1) (v := .slice A1 (groups z.natAbs).length c1) (by omega)
        have r3 := r2.set_box2 (k := 0) (v' := .bool neg) q2 (by intro i e; cases e) (by intro i e; cases e)
        exact r3.set_box2 (k := 1) (v' := .slice A1 (groups z.natAbs).length c1) (q2.set0 _) (by intro i e; cases e) (by intro i e; cases e)
      · exact ((HI.out.below.setCell (p := ⟨w.heap.size + 1, 1, none⟩) (by show w.heap.size ≤ w.heap.size + 1; omega) _).setCell (p := ⟨w.heap.size, 0, none⟩) (Nat.le_refl _) _).setCell (p := ⟨w.heap.size, 1, none⟩) (Nat.le_refl _) _
    · have hat := HR.out.digit h0
      have hm : max 0 ((l.length : Int) - 4) = ((l.length - 4 : Nat) : Int) := by omega
      have hx1 : (ByteArray.mk l.toArray).extract (l.length - 4) l.length = ByteArray.mk (l.drop (l.length - 4)).toArray := by
        rw [ByteArray.extract_mk, List.take_of_length_le (by rw [List.length_drop]; omega)]
      have hx2 : (ByteArray.mk l.toArray).extract 0 (l.length - 4) = ByteArray.mk (l.take (l.length - 4)).toArray := by
        rw [ByteArray.extract_mk, List.drop_zero, Nat.sub_zero]
      have hdl : (l.drop (l.length - 4)).length ≤ 4 := by rw [List.length_drop]; omega
      have hil : l.length - 4 ≤ l.length := by omega
      have HN := Lib.hid (HR.out.step h0)
      generalize hdd : l.drop (l.length - 4) = dd at *
      generalize htt : l.take (l.length - 4) = tt at *
      generalize hdn : num dd = dn at *
      generalize hii : l.length - 4 = ii at *
      have HII := Lib.hid hii
      have HTT := Lib.hid htt.symm
      clear hdd htt hii hdn
      go_wp2_with fail
      refine (Tryz.strconv_Atoi _ _ (by show dd.toArray.size ≤ 18; simp; omega) (by simpa using hat) _).mono ?_
      rintro e w1 ⟨rfl, t, rfl⟩
      have hb := Joins.below_bytesWorld wr.heap.size wr 5 t (Nat.le_refl _)
      generalize bytesWorld wr 5 t = wb at *
      have hlt2 : w.heap.size + 1 < wb.heap.size := Nat.lt_of_lt_of_le hlt1 hb.size
      have hc0b := (HI.out.s1.below hb hlt1).cell0
      have hc1b := (HI.out.s1.below hb hlt1).cell1
      have hf1b := (HI.out.s1.below hb hlt1).frozen 1
      have hob := owns_below HI.out.own hb
      have HB := Lib.hid hb
      have HOB := Lib.hid hob
      clear hc0 hc1 hf1 he0 he1 hfe0 hfe1 hb hob hat hx1 hlt1
      go_wp2_with (at_builtin; refine wpList_append_own _ rfl (.tmp 31) (.tmp 33) 98 rfl (w.heap.size + 1 + 1) 3 i0 (.int .i64 0) 1 8 Tryz.underlying98 hi hz0 hz1 hz2 rfl (by decide) _ _ _ rfl (HOB.out.alloc _) ⟨wb.heap.size, 0, none⟩ 1 1 [.int .i64 dn] rfl rfl (one_at _ _ _) ?c2 ?c3 ?c4 ?c5 ?_)
      case c2 => intro u hu; simp at hu; subst hu; rfl
      case c3 => unfold maxLen; omega
      case c4 => omega
      case c5 => simp; omega
      intro v' w3 hown hgrow _
      obtain ⟨A3, c3, hv3⟩ := own_shape hown
      subst hv3
      have hbx := (HI.out.s1.below HB.out (by have := HI.out.s1.lt; omega)).kept ((World.grownBy_alloc wb _ v.ownBlock).trans hgrow) (ownBlock_ge HOB.out _ (by omega))
      have hc0c := hbx.cell0
      have hc1c := hbx.cell1
      have hf1c := hbx.frozen 1
      have R := HI.out.next (HB.out.alloc HB.out.size _) (HOB.out.alloc _) hown hgrow
      have HRR := Lib.hid R
      have hlt3 := hbx.lt
      clear hc0b hc1b hf1b hown hgrow R hbx hlt2
      go_wp2
      go_roundw
      case rel => exact ⟨_, _, _, rfl, HRR, HN⟩
      case measure =>
        have h9 : tt.length < l.length := by have h := HII.out; rw [HTT.out, List.length_take]; omega
        show tt.toArray.size < l.toArray.size
        simpa using h9
end Go.Proofs.YtfdjdmkpcdbmkaaGreatDoor

/-
  integer.go: 'isValid'.
-/
namespace Go.Proofs.YtfdjdmkpcdbmkaaGreatDoor
open Go.RowKit Go.Shelf Go.Lib

attribute [local go_sem] Oper.semAt_some

theorem digs_trim (s : List UInt8) : Lib.trimPrefix s [45] = digs s := by
  unfold digs Lib.trimPrefix Lib.hasPrefix
  cases s with
  | nil => rfl
  | cons b t => by_cases h : b = 45 <;> simp [h, Ne.symm]

theorem trim_digits (s : List UInt8) (hs : s.length ≤ 9223372036854775807) (w : World) :
    Calls Tryz.prog 103 #[.string ⟨s.toArray⟩, .string ⟨#[48, 49, 50, 51, 52, 53, 54, 55, 56, 57]⟩] w fun e w' => e = .returned (.string ⟨(Lib.trimS s digits10).toArray⟩) ∧ Below w.heap.size w w' := by
  have := Any.strings_Trim_laid Tryz.lays160 (by kernel_rfl) ⟨s.toArray⟩ ⟨#[48, 49, 50, 51, 52, 53, 54, 55, 56, 57]⟩ w (by show s.toArray.size ≤ _; simpa using hs) (by decide) (ascii_of_all (by decide))
  unfold digits10
  simpa using (show Calls Tryz.prog 103 _ w _ from this)

set_option maxRecDepth 100000 in
set_option maxHeartbeats 4000000 in
theorem isValid_any (s : List UInt8) (hs : s.length ≤ 9223372036854775807) (w : World) :
    Calls Tryz.prog 78 #[.string ⟨s.toArray⟩] w fun e w' => e = .returned (.bool (valid s)) ∧ Below w.heap.size w w' := by
  have hd := digs_trim s
  have hle : (digs s).length ≤ s.length := by unfold digs; split <;> simp
  by_cases h0 : digs s = []
  · go_enter Tryz.func78, Tryz.ntmps78
    go_wp2_with (go_at_call 102; refine (Tryz.strings_TrimPrefix _ _ _).mono ?_; rintro e w' ⟨rfl, rfl⟩; rw [show (ByteArray.mk s.toArray).data.toList = s by simp, show (ByteArray.mk #[45]).data.toList = [45] from rfl, hd])
    go_ret
    exact ⟨by simp [valid, h0], Below.refl _ _⟩
  · obtain ⟨d, t, hdt⟩ : ∃ d t, digs s = d :: t := by
      cases h : digs s with
      | nil => exact absurd h h0
      | cons d t => exact ⟨d, t, rfl⟩
    have hv : valid s = (decide ((d :: t).length ≤ 200) && (d :: t).all isDig && (decide (s = [48]) || decide (d ≠ 48))) := by
      unfold valid; rw [hdt]; simp
    have HV := Lib.hid hv
    clear hv h0
    rw [hdt] at hd hle
    have htr := trimS_nil (d :: t)
    by_cases h1 : 200 < (d :: t).length
    · have hl : decide ((200 : Int) < (t.length : Int) + 1) = true := by simp at h1 ⊢; omega
      go_enter Tryz.func78, Tryz.ntmps78
      go_wp2_with (go_at_call 102; refine (Tryz.strings_TrimPrefix _ _ _).mono ?_; rintro e w' ⟨rfl, rfl⟩; rw [show (ByteArray.mk s.toArray).data.toList = s by simp, show (ByteArray.mk #[45]).data.toList = [45] from rfl, hd])
      go_ret
      refine ⟨?_, Below.refl _ _⟩
      rw [HV.out]
      have h2 : ¬ (d :: t).length ≤ 200 := by omega
      simp only [h2, decide_false, Bool.false_and]
      rfl
    · have h2 : (d :: t).length ≤ 200 := by omega
      have hv2 : valid s = ((d :: t).all isDig && (decide (s = [48]) || decide (d ≠ 48))) := by rw [HV.out]; simp only [h2, decide_true, Bool.true_and]
      have HV2 := Lib.hid hv2
      clear hv2
      cases hall : (d :: t).all isDig with
      | false =>
        rw [hall] at htr
        have hl : decide ((200 : Int) < (t.length : Int) + 1) = false := by simp at h1 ⊢; omega
        go_enter Tryz.func78, Tryz.ntmps78
        go_wp2_with (first
          | (go_at_call 102; refine (Tryz.strings_TrimPrefix _ _ _).mono ?_; rintro e w' ⟨rfl, rfl⟩; rw [show (ByteArray.mk s.toArray).data.toList = s by simp, show (ByteArray.mk #[45]).data.toList = [45] from rfl, hd])
          | (go_at_call 103; refine (trim_digits _ (by omega) _).mono ?_; rintro e w2 ⟨rfl, b2⟩; have B2 := Lib.hid b2; clear b2))
        go_ret
        exact ⟨by rw [HV2.out, hall]; rfl, B2.out⟩
      | true =>
        rw [hall] at htr
        have hl : decide ((200 : Int) < (t.length : Int) + 1) = false := by simp at h1 ⊢; omega
        go_enter Tryz.func78, Tryz.ntmps78
        go_wp2_with (first
          | (go_at_call 102; refine (Tryz.strings_TrimPrefix _ _ _).mono ?_; rintro e w' ⟨rfl, rfl⟩; rw [show (ByteArray.mk s.toArray).data.toList = s by simp, show (ByteArray.mk #[45]).data.toList = [45] from rfl, hd])
          | (go_at_call 103; refine (trim_digits _ (by omega) _).mono ?_; rintro e w2 ⟨rfl, b2⟩; have B2 := Lib.hid b2; clear b2))
        · rename_i hz
          go_ret
          exact ⟨by rw [HV2.out, hall, hz]; rfl, B2.out⟩
        · rename_i hz
          go_ret
          refine ⟨?_, B2.out⟩
          rw [HV2.out, hall]
          show Ending.returned (.bool (s == [48] || ((d.toNat : Int) != 48))) = _
          have h8 : (d = 48) = (d.toNat = 48) := by
            apply propext
            constructor
            · rintro rfl; rfl
            · intro h; exact UInt8.toNat_inj.1 h
          have h9 : ((d.toNat : Int) = 48) = (d.toNat = 48) := by apply propext; omega
          have h5 : (s == [48]) = false := by simpa using hz
          have h6 : ((d.toNat : Int) != 48) = decide (d ≠ 48) := by
            rw [Bool.eq_iff_iff]; simp only [bne_iff_ne, ne_eq, decide_eq_true_eq]; rw [h9, h8]
          rw [h5, h6]; simp [hz]
end Go.Proofs.YtfdjdmkpcdbmkaaGreatDoor

/-
  strings.Builder at this dump: 'copyCheck' and 'WriteString' (the shelf does not lay them here).
-/
namespace Go.Proofs.YtfdjdmkpcdbmkaaGreatDoor
open Go.RowKit Go.Shelf Go.Lib

attribute [local go_sem] Oper.semAt_some

theorem builder_size : (Tryz.prog.info? 91).map (·.size) = some 2 := by kernel_rfl
theorem builder_lies : liesAt Tryz.prog Tryz.prog.depth 91 (2 / Tryz.prog.cellsOf 91) 0 91 1 = true := by kernel_rfl
theorem byte_info : (Tryz.prog.info? 5).map (fun i => (i.zero, i.size, i.bytes)) = some (some (.int .u8 0), 1, 1) := by kernel_rfl

set_option maxHeartbeats 1000000 in
set_option maxRecDepth 100000 in
theorem copyCheck_used (b : Nat) (w : World) (h0 : w.cell? ⟨b, 0, none⟩ = some (.pointer (some ⟨b, 0, none⟩))) :
    Calls Tryz.prog 99 #[.pointer (some ⟨b, 0, none⟩)] w fun e w' => e = .returned (.tuple #[]) ∧ w' = w := by
  obtain ⟨j, hj, _⟩ := Option.map_eq_some_iff.1 builder_size
  go_enter Tryz.func99, Tryz.ntmps99
  go_wp2
  rw [Lib.run_neq_ptr_same w _ Tryz.underlying89 hj]
  go_wp2
  go_end0
  exact ⟨rfl, rfl⟩

set_option maxHeartbeats 1000000 in
set_option maxRecDepth 100000 in
theorem copyCheck_fresh (b : Nat) (w : World) (h0 : w.cell? ⟨b, 0, none⟩ = some (.pointer none)) (hsh : w.shape? b = some (91, 2)) (hfz : w.frozen? ⟨b, 0, none⟩ = false) :
    Calls Tryz.prog 99 #[.pointer (some ⟨b, 0, none⟩)] w fun e w' => e = .returned (.tuple #[]) ∧ w' = w.setCell ⟨b, 0, none⟩ (.pointer (some ⟨b, 0, none⟩)) := by
  obtain ⟨j, hj, hjs⟩ := Option.map_eq_some_iff.1 builder_size
  go_enter Tryz.func99, Tryz.ntmps99
  go_wp2
  rw [Lib.run_to_unsafe w ⟨b, 0, none⟩ Tryz.underlying89 Tryz.underlying132 hj (by rw [hjs]; decide) hsh (Nat.zero_lt_succ 1)]
  simp only [Result.andThen]
  rw [Oper.upon_value]
  go_wp2
  rw [run_callFunc_extern Tryz.func121 (by kernel_rfl) (by kernel_rfl) (by kernel_rfl) (e := Extern.AbiNoEscape.same) (by kernel_rfl)]
  rw [Lib.run_noEscape]
  simp only [Result.andThen]
  rw [Oper.upon_value]
  go_wp2
  rw [Lib.run_from_unsafe w ⟨b, 0, none⟩ Tryz.underlying132 Tryz.underlying89 hj hsh builder_lies]
  simp only [Result.andThen]
  rw [Oper.upon_value]
  go_wp2
  go_end0
  exact ⟨rfl, rfl⟩

theorem copyCheck_any (B b : Nat) (bs : List Value) (w : World) (h : Lib.IsBuilder 91 5 B b bs w) :
    Calls Tryz.prog 99 #[.pointer (some ⟨b, 0, none⟩)] w fun e w' => e = .returned (.tuple #[]) ∧ Lib.BuilderAt 91 5 B b (.pointer (some ⟨b, 0, none⟩)) bs w' ∧ Below B w w' ∧ KeepsOthers w w' ∧ ∀ k, k ≠ b → w'.heap[k]? = w.heap[k]? := by
  rcases h with h | h
  · refine (copyCheck_fresh b w h.cell0 h.shape h.frozen0).mono ?_
    rintro e w' ⟨rfl, rfl⟩
    exact ⟨rfl, h.used _, (Below.refl B w).setCell (p := ⟨b, 0, none⟩) h.1 _, KeepsOthers.setCell _ _ _, fun k hk => Below.heap_setCell w ⟨b, 0, none⟩ _ k hk⟩
  · refine (copyCheck_used b w h.cell0).mono ?_
    rintro e w' ⟨rfl, rfl⟩
    exact ⟨rfl, h, Below.refl B _, KeepsOthers.refl _, fun _ _ => rfl⟩

set_option maxHeartbeats 2000000 in
set_option maxRecDepth 100000 in
theorem writeString_any (B b : Nat) (l : List UInt8) (s : List UInt8) (w : World) (h : Lib.IsBuilder 91 5 B b (Lib.byteCells l) w) (hlen : l.length + s.length ≤ 1000000) (hBw : B ≤ w.heap.size) :
    Calls Tryz.prog 75 #[.pointer (some ⟨b, 0, none⟩), .string ⟨s.toArray⟩] w fun e w' => e = .returned (.tuple #[.int .i64 s.length, .nilIface]) ∧ Lib.IsBuilder 91 5 B b (Lib.byteCells (l ++ s)) w' ∧ Below B w w' ∧ KeepsOthers w w' ∧ ∀ k t u, k ≠ b → t ≠ 5 → Boxed w k t u → Boxed w' k t u := by
  obtain ⟨i0, hi, hz0, hz1, hz2⟩ := info_parts byte_info
  go_enter Tryz.func75, Tryz.ntmps75
  go_wp2_with (go_at_call 99; refine (copyCheck_any B b _ _ h).mono ?_)
  rintro e w1 ⟨rfl, h1, hb1, ho1, hk1⟩
  obtain ⟨hB, v, hbk, hown, hne⟩ := h1
  have c0 : w1.cell? ⟨b, 0, none⟩ = some (.pointer (some ⟨b, 0, none⟩)) := by rw [Lib.cell_of_heap hbk]; rfl
  have c1 : w1.cell? ⟨b, 1, none⟩ = some v := by rw [Lib.cell_of_heap hbk]; rfl
  go_wp2_with (at_builtin; refine Lib.wpList_append_own_string _ rfl _ _ 35 9 rfl B 5 i0 Tryz.underlying35 Tryz.underlying9 hi hz0 hz1 hz2 _ _ _ rfl hown ⟨s.toArray⟩ rfl ?c3 ?c4 ?c5 ?_)
  case c3 => rw [Lib.byteCells_length]; show l.length + s.toArray.size ≤ _; unfold maxLen; simp; omega
  case c4 => rw [Lib.byteCells_length]; show l.length + s.toArray.size ≤ _; simp; omega
  case c5 => have := hb1.size; omega
  intro v' w2 hown' hgrow _
  have hlt : b < w1.heap.size := (Array.getElem?_eq_some_iff.1 hbk).1
  have hb2 : w2.heap[b]? = some (.cells #[.pointer (some ⟨b, 0, none⟩), v] 91 (0, 0)) := (hgrow.block b hlt (fun e => hne e.symm)).trans hbk
  have d0 : w2.cell? ⟨b, 0, none⟩ = some (.pointer (some ⟨b, 0, none⟩)) := by rw [Lib.cell_of_heap hb2]; rfl
  have d1 : w2.cell? ⟨b, 1, none⟩ = some v := by rw [Lib.cell_of_heap hb2]; rfl
  have f1 : w2.frozen? ⟨b, 1, none⟩ = false := Lib.frozen_of_heap hb2 1
  have hown2 : w2.ownsRow B 5 1 v' (Lib.byteCells (l ++ s)).length (Lib.byteCells (l ++ s)) := by
    have e1 : Lib.byteCells l ++ Lib.strCells ⟨s.toArray⟩ = Lib.byteCells (l ++ s) := by simp [Lib.byteCells, Lib.strCells]
    have e2 : (Lib.byteCells l).length + (ByteArray.mk s.toArray).size = (Lib.byteCells (l ++ s)).length := by
      rw [Lib.byteCells_length, Lib.byteCells_length, List.length_append]; show l.length + s.toArray.size = _; simp
    rw [← e1] at e2 ⊢
    rw [← e2]; exact hown'
  obtain ⟨ao, n', cap, rfl⟩ : ∃ ao n' cap, v' = .slice ao n' cap := by
    rcases hown'.2 with ⟨hv, _⟩ | ⟨g, cap, cur, hv, _⟩
    · exact ⟨_, _, _, hv⟩
    · exact ⟨_, _, _, hv⟩
  go_wp2
  go_ret2
  refine ⟨by simp, ?_, ?_, ?_, fun k t u hk ht hx => ?_⟩
  · exact .inr (Lib.BuilderAt.put (T := 91) (e := 5) hB hb2 hown2 (by decide))
  · exact (hb1.grown hgrow (by have := hb1.size; omega) (fun k hk => (hown.lt k hk).1)).setCell (p := ⟨b, 1, none⟩) hB _
  · refine (ho1.trans (KeepsOthers.of_grownBy hgrow fun j o e h => ?_)).trans (KeepsOthers.setCell _ _ _)
    rcases hown.2 with ⟨rfl, _⟩ | ⟨g, cap, cur, rfl, _, hg, _⟩
    · simp [Value.ownBlock] at e
    · have : j = g := by simpa [Value.ownBlock] using e.symm
      subst this
      rw [hg] at h; cases h; rfl
  · have x1 : Boxed w1 k t u := (hk1 k hk).trans hx
    exact (Below.heap_setCell w2 ⟨b, 1, none⟩ _ k hk).trans (x1.kept hgrow (x1.not_row ht hown))
end Go.Proofs.YtfdjdmkpcdbmkaaGreatDoor

/-
  integer.go: 'both'.
-/
namespace Go.Proofs.YtfdjdmkpcdbmkaaGreatDoor
open Go.RowKit Go.Shelf Go.Lib

attribute [local go_sem] Oper.semAt_some

theorem SignedIs.below {z : Int} {v : Value} {W W' : World} (h : SignedIs z v W) (hb : Below W.heap.size W W') : SignedIs z v W' := by
  obtain ⟨d, rfl, hr⟩ := h
  exact ⟨d, rfl, hr.below hb⟩

theorem SignedIs.row {z : Int} {b d : Value} {W : World} (h : SignedIs z (.agg #[b, d]) W) : Row W d (groups z.natAbs) := by
  obtain ⟨d', e, hr⟩ := h
  have : d = d' := by simp at e; exact e.2
  rw [this]; exact hr
theorem Boxed2.later {W W' : World} {B : Nat} {t : TypeId} {a b : Value} (h : Boxed2 W B t a b) (hb : Below W.heap.size W W') : Boxed2 W' B t a b := h.below hb h.lt
theorem set_two {W : World} {n : Nat} {t : TypeId} {p0 p1 : Bool} (h0 : Boxed2 W n t (.bool p0) (.slice none 0 0)) (h1 : Boxed2 W (n + 1) t (.bool p1) (.slice none 0 0)) (x y : Bool) (A A' : Option Addr) (l c l' c' : Nat) :
    Boxed2 ((((W.setCell ⟨n, 0, none⟩ (.bool x)).setCell ⟨n, 1, none⟩ (.slice A l c)).setCell ⟨n + 1, 0, none⟩ (.bool y)).setCell ⟨n + 1, 1, none⟩ (.slice A' l' c')) n t (.bool x) (.slice A l c) ∧
    Boxed2 ((((W.setCell ⟨n, 0, none⟩ (.bool x)).setCell ⟨n, 1, none⟩ (.slice A l c)).setCell ⟨n + 1, 0, none⟩ (.bool y)).setCell ⟨n + 1, 1, none⟩ (.slice A' l' c')) (n + 1) t (.bool y) (.slice A' l' c') ∧
    (∀ v xs, Row W v xs → Row ((((W.setCell ⟨n, 0, none⟩ (.bool x)).setCell ⟨n, 1, none⟩ (.slice A l c)).setCell ⟨n + 1, 0, none⟩ (.bool y)).setCell ⟨n + 1, 1, none⟩ (.slice A' l' c')) v xs) ∧
    Below n W ((((W.setCell ⟨n, 0, none⟩ (.bool x)).setCell ⟨n, 1, none⟩ (.slice A l c)).setCell ⟨n + 1, 0, none⟩ (.bool y)).setCell ⟨n + 1, 1, none⟩ (.slice A' l' c')) := by
  have a1 := h0.set0 (.bool x)
  have b1 := h1.other (n := n) (k := 0) (v := .bool x) (by omega)
  have a2 := a1.set1 (.slice A l c)
  have b2 := b1.other (n := n) (k := 1) (v := .slice A l c) (by omega)
  have a3 := a2.other (n := n + 1) (k := 0) (v := .bool y) (by omega)
  have b3 := b2.set0 (.bool y)
  have a4 := a3.other (n := n + 1) (k := 1) (v := .slice A' l' c') (by omega)
  have b4 := b3.set1 (.slice A' l' c')
  refine ⟨a4, b4, fun v xs h => ?_, ?_⟩
  · exact (((h.set_box2 (k := 0) (v' := .bool x) h0 (by intro i e; cases e) (by intro i e; cases e)).set_box2 (k := 1) (v' := .slice A l c) a1 (by intro i e; cases e) (by intro i e; cases e)).set_box2 (k := 0) (v' := .bool y) b2 (by intro i e; cases e) (by intro i e; cases e)).set_box2 (k := 1) (v' := .slice A' l' c') b3 (by intro i e; cases e) (by intro i e; cases e)
  · exact ((((Below.refl n W).setCell (p := ⟨n, 0, none⟩) (Nat.le_refl _) _).setCell (p := ⟨n, 1, none⟩) (Nat.le_refl _) _).setCell (p := ⟨n + 1, 0, none⟩) (Nat.le_succ _) _).setCell (p := ⟨n + 1, 1, none⟩) (Nat.le_succ _) _

theorem str_short {z : Int} (h : z.natAbs < lim) : (str z).length ≤ 9223372036854775807 := by
  have h1 := (Read.start h).short
  have h2 := str_length z
  have h3 : (if z < 0 then 1 else 0) ≤ 1 := by split <;> decide
  generalize (if z < 0 then 1 else 0) = q at *
  simp only [List.length_nil] at h1
  clear h
  omega

theorem isValid_yes (s : List UInt8) (h : valid s = true) (w : World) :
    Calls Tryz.prog 78 #[.string ⟨s.toArray⟩] w fun e w' => e = .returned (.bool true) ∧ Below w.heap.size w w' := by
  obtain ⟨z, hz, rfl⟩ := of_valid h
  have := isValid_any _ (str_short hz) w
  rwa [h] at this
theorem parse_valid (s : List UInt8) (h : valid s = true) (w : World) :
    Calls Tryz.prog 104 #[.string ⟨s.toArray⟩] w fun e w' => ∃ v, e = .returned v ∧ SignedIs (toZ s) v w' ∧ Below w.heap.size w w' := by
  obtain ⟨z, hz, rfl⟩ := of_valid h
  rw [toZ_str]
  exact parse_any z hz w

set_option maxRecDepth 100000 in
set_option maxHeartbeats 4000000 in
theorem both_yes (s t : List UInt8) (hs : valid s = true) (ht : valid t = true) (w : World) :
    Calls Tryz.prog 79 #[.string ⟨s.toArray⟩, .string ⟨t.toArray⟩] w fun e w' => ∃ vx vy, e = .returned (.tuple #[vx, vy, .bool true]) ∧ SignedIs (toZ s) vx w' ∧ SignedIs (toZ t) vy w' ∧ Below w.heap.size w w' := by
  have HVS := Lib.hid hs
  have HVT := Lib.hid ht
  clear hs ht
  go_enter Tryz.func79, Tryz.ntmps79
  have q0 := (Boxed2.new w 100 (.bool false) (.slice none 0 0)).kept (World.grownBy_alloc _ (.cells #[.bool false, .slice none 0 0] 100) none) (by simp)
  have q1 := Boxed2.new (w.alloc (.cells #[.bool false, .slice none 0 0] 100)) 100 (.bool false) (.slice none 0 0)
  rw [World.size_alloc] at q1
  have qb : Below w.heap.size w ((w.alloc (.cells #[.bool false, .slice none 0 0] 100)).alloc (.cells #[.bool false, .slice none 0 0] 100)) := ((Below.refl _ w).alloc (Nat.le_refl _) _).alloc (by simp) _
  have Q0 := Lib.hid q0
  have Q1 := Lib.hid q1
  have QB := Lib.hid qb
  clear q0 q1 qb
  go_wp2_with (first
    | (go_at_call 78; refine (isValid_yes _ (by first | exact HVS.out | exact HVT.out) _).mono ?_; rintro e w1 ⟨rfl, b1⟩; have q0 := Q0.out.later b1; have q1 := Q1.out.later b1; have qb := QB.out.trans (b1.mono QB.out.size); clear Q0 Q1 QB; have Q0 := Lib.hid q0; have Q1 := Lib.hid q1; have QB := Lib.hid qb; clear q0 q1 qb; clear b1)
    | (go_at_call 104; refine (parse_valid _ (by first | exact HVS.out | exact HVT.out) _).mono ?_; rintro e w3 ⟨v3, rfl, s3, b3⟩; have q0 := Q0.out.later b3; have q1 := Q1.out.later b3; have qb := QB.out.trans (b3.mono QB.out.size); clear Q0 Q1 QB; have Q0 := Lib.hid q0; have Q1 := Lib.hid q1; have QB := Lib.hid qb; clear q0 q1 qb; (try (have s0 := S3.out.below b3; clear S3; have S0 := Lib.hid s0; clear s0)); obtain ⟨d3, hv3, r3⟩ := id s3; obtain ⟨A3, c3, hw3⟩ := r3.shape; subst hw3; subst hv3; have S3 := Lib.hid s3; clear s3 r3 b3; have c00 := Q0.out.cell0; have c01 := Q0.out.cell1; have c10 := Q1.out.cell0; have c11 := Q1.out.cell1; have f00 := Q0.out.frozen 0; have f01 := Q0.out.frozen 1; have f10 := Q1.out.frozen 0; have f11 := Q1.out.frozen 1; have lt0 := Q0.out.lt; have lt1 := Q1.out.lt))
  rename_i A0 c0 _ _ _ _ _ _ _ _ _ _
  obtain ⟨e0, e1, er, eb⟩ := set_two Q0.out Q1.out (decide (toZ s < 0)) (decide (toZ t < 0)) A0 A3 (groups (toZ s).natAbs).length c0 (groups (toZ t).natAbs).length c3
  have g00 := e0.cell0
  have g01 := e0.cell1
  have g10 := e1.cell0
  have g11 := e1.cell1
  refine ⟨rfl, .tuple #[.agg #[.bool (decide (toZ s < 0)), .slice A0 (groups (toZ s).natAbs).length c0], .agg #[.bool (decide (toZ t < 0)), .slice A3 (groups (toZ t).natAbs).length c3], .bool true], by simp [results, Tryz.f79, go_sem, g00, g01, g10, g11], _, _, rfl, ⟨_, rfl, er _ _ S0.out.row⟩, ⟨_, rfl, er _ _ S3.out.row⟩, QB.out.trans eb⟩

set_option maxRecDepth 100000 in
set_option maxHeartbeats 4000000 in
/-- One of the two is no number's text. -/
theorem both_no (s t : List UInt8) (hs : s.length ≤ 9223372036854775807) (ht : t.length ≤ 9223372036854775807) (h : (valid s && valid t) = false) (w : World) :
    Calls Tryz.prog 79 #[.string ⟨s.toArray⟩, .string ⟨t.toArray⟩] w fun e w' => e = .returned (.tuple #[.agg #[.bool false, .slice none 0 0], .agg #[.bool false, .slice none 0 0], .bool false]) ∧ Below w.heap.size w w' := by
  have q0 := (Boxed2.new w 100 (.bool false) (.slice none 0 0)).kept (World.grownBy_alloc _ (.cells #[.bool false, .slice none 0 0] 100) none) (by simp)
  have q1 := Boxed2.new (w.alloc (.cells #[.bool false, .slice none 0 0] 100)) 100 (.bool false) (.slice none 0 0)
  rw [World.size_alloc] at q1
  have qb : Below w.heap.size w ((w.alloc (.cells #[.bool false, .slice none 0 0] 100)).alloc (.cells #[.bool false, .slice none 0 0] 100)) := ((Below.refl _ w).alloc (Nat.le_refl _) _).alloc (by simp) _
  have Q0 := Lib.hid q0
  have Q1 := Lib.hid q1
  have QB := Lib.hid qb
  have HL1 := Lib.hid hs
  have HL2 := Lib.hid ht
  clear q0 q1 qb hs ht
  cases hvs : valid s with
  | false =>
    go_enter Tryz.func79, Tryz.ntmps79
    go_wp2_with (go_at_call 78; refine (isValid_any _ (by first | exact HL1.out | exact HL2.out) _).mono ?_; rintro e w1 ⟨rfl, b1⟩; rw [hvs]; have q0 := Q0.out.later b1; have q1 := Q1.out.later b1; have qb := QB.out.trans (b1.mono QB.out.size); clear Q0 Q1 QB; have Q0 := Lib.hid q0; have Q1 := Lib.hid q1; have QB := Lib.hid qb; clear q0 q1 qb; clear b1; have c00 := Q0.out.cell0; have c01 := Q0.out.cell1; have c10 := Q1.out.cell0; have c11 := Q1.out.cell1; have f00 := Q0.out.frozen 0; have f01 := Q0.out.frozen 1; have f10 := Q1.out.frozen 0; have f11 := Q1.out.frozen 1; have lt0 := Q0.out.lt; have lt1 := Q1.out.lt)
    obtain ⟨e0, e1, er, eb⟩ := set_two Q0.out Q1.out false false none none 0 0 0 0
    have g00 := e0.cell0
    have g01 := e0.cell1
    have g10 := e1.cell0
    have g11 := e1.cell1
    exact ⟨rfl, .tuple #[.agg #[.bool false, .slice none 0 0], .agg #[.bool false, .slice none 0 0], .bool false], by simp [results, Tryz.f79, go_sem, g00, g01, g10, g11], rfl, QB.out.trans eb⟩
  | true =>
    rw [hvs, Bool.true_and] at h
    have HVS := Lib.hid hvs
    have HVT := Lib.hid h
    clear hvs h
    go_enter Tryz.func79, Tryz.ntmps79
    go_wp2_with (go_at_call 78; refine (isValid_any _ (by first | exact HL1.out | exact HL2.out) _).mono ?_; rintro e w1 ⟨rfl, b1⟩; (first | rw [HVS.out] | rw [HVT.out]); have q0 := Q0.out.later b1; have q1 := Q1.out.later b1; have qb := QB.out.trans (b1.mono QB.out.size); clear Q0 Q1 QB; have Q0 := Lib.hid q0; have Q1 := Lib.hid q1; have QB := Lib.hid qb; clear q0 q1 qb; clear b1; have c00 := Q0.out.cell0; have c01 := Q0.out.cell1; have c10 := Q1.out.cell0; have c11 := Q1.out.cell1; have f00 := Q0.out.frozen 0; have f01 := Q0.out.frozen 1; have f10 := Q1.out.frozen 0; have f11 := Q1.out.frozen 1; have lt0 := Q0.out.lt; have lt1 := Q1.out.lt)
    obtain ⟨e0, e1, er, eb⟩ := set_two Q0.out Q1.out false false none none 0 0 0 0
    have g00 := e0.cell0
    have g01 := e0.cell1
    have g10 := e1.cell0
    have g11 := e1.cell1
    exact ⟨rfl, .tuple #[.agg #[.bool false, .slice none 0 0], .agg #[.bool false, .slice none 0 0], .bool false], by simp [results, Tryz.f79, go_sem, g00, g01, g10, g11], rfl, QB.out.trans eb⟩
end Go.Proofs.YtfdjdmkpcdbmkaaGreatDoor
