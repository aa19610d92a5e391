/-
  integer.go: 'signed.text'.
-/
import Derived.Test.YtfdjdmkpcdbmkaaGreatDoorCG4
import Derived.Test.YtfdjdmkpcdbmkaaGreatDoorCSPlusW
import Derived.Test.YtfdjdmkpcdbmkaaGreatDoorCG3
import Derived.Lib.AppendIntMem
import Derived.Deep.RegionHeld3
import Derived.Test.YtfdjdmkpcdbmkaaGreatDoorCOverW
import Derived.Deep.LoopGhost
set_option linter.unusedVariables false
set_option linter.unusedSimpArgs false
namespace Go.Proofs.YtfdjdmkpcdbmkaaGreatDoor
open Go.RowKit Go.Shelf Go.Lib

attribute [local go_sem] Oper.semAt_some

def textT (xs : List Int) (pre : List Nat) : List UInt8 := (pre.map (dn xs)).foldl (textStep xs.length) []
theorem textT_snoc (xs : List Int) (pre : List Nat) (x : Nat) : textT xs (pre ++ [x]) = textStep xs.length (textT xs pre) (dn xs x) := by
  unfold textT; rw [List.map_append, List.foldl_append]; rfl
theorem textT_all {n : Nat} (h : n ≠ 0) : textT (groups n) (List.range (groups n).length) = decDigits n := by
  unfold textT; rw [down_eq, text_groups h]

/-- A table of the program's own lies below every block that a call makes. -/
def Tab (w : World) : Prop := Lib.TabIs Tryz.prog w "internal/strconv.uint64pow10" .u64 Lib.pow10Tab


theorem builderAt_calm {T e : TypeId} {B b : Nat} {p : Value} {bs : List Value} {W W' : World} {row : Option Nat} (h : Lib.BuilderAt T e B b p bs W) (hg : W.grownBy W' row) (hr : ∀ k, row = some k → ∃ o : Obj, W.heap[k]? = some o ∧ o.isCells = false) : Lib.BuilderAt T e B b p bs W' := by
  obtain ⟨hB, v, hb, hown, hne⟩ := h
  refine ⟨hB, v, ?_, own_row_any (β := Unit) _ _ _ _ _ (fun _ => bs) () W W' row hown hg hr, hne⟩
  refine (hg.block b (Array.getElem?_eq_some_iff.1 hb).1 (fun e => ?_)).trans hb
  obtain ⟨o, ho, hc⟩ := hr b e.symm
  rw [hb] at ho; cases ho; cases hc
theorem builder_calm {T e : TypeId} {B b : Nat} {bs : List Value} {W W' : World} {row : Option Nat} (h : Lib.IsBuilder T e B b bs W) (hg : W.grownBy W' row) (hr : ∀ k, row = some k → ∃ o : Obj, W.heap[k]? = some o ∧ o.isCells = false) : Lib.IsBuilder T e B b bs W' :=
  h.imp (fun h => builderAt_calm h hg hr) (fun h => builderAt_calm h hg hr)
theorem builder_below {T e : TypeId} {B b : Nat} {bs : List Value} {W W' : World} (h : Lib.IsBuilder T e B b bs W) (hb : Below W.heap.size W W') : Lib.IsBuilder T e B b bs W' :=
  builder_calm (row := none) h ⟨hb.os, hb.tape, hb.output, hb.size, fun k hk _ => hb.block k hk⟩ (fun _ e => by cases e)
theorem Boxed2.calm {W W' : World} {row : Option Nat} {B : Nat} {t : TypeId} {a b : Value} (h : Boxed2 W B t a b) (hg : W.grownBy W' row) (hr : ∀ r, row = some r → ∃ o : Obj, W.heap[r]? = some o ∧ o.isCells = false) : Boxed2 W' B t a b :=
  h.kept hg (fun e => by
    obtain ⟨o, ho, hc⟩ := hr B e.symm
    rw [show W.heap[B]? = _ from h] at ho; cases ho; cases hc)

theorem textT_length (xs : List Int) (hx : Dig xs) (pre : List Nat) : (textT xs pre).length ≤ 4 * pre.length := by
  induction hp : pre.length generalizing pre with
  | zero =>
    obtain rfl : pre = [] := List.length_eq_zero_iff.1 hp
    exact Nat.zero_le _
  | succ k ih =>
    have hne : pre ≠ [] := by intro e; subst e; simp at hp
    obtain ⟨b, x, rfl⟩ : ∃ b x, pre = b ++ [x] := ⟨pre.dropLast, pre.getLast hne, (List.dropLast_concat_getLast hne).symm⟩
    have hb : b.length = k := by simpa using hp
    have h1 := ih b hb
    have hd := dig_at hx (xs.length - 1 - x)
    have h2 : (decDigits ((xs[xs.length - 1 - x]?.getD 0).toNat)).length ≤ 4 := dec_length_le (by omega) (by omega)
    have h3 : (pad4 ((xs[xs.length - 1 - x]?.getD 0).toNat)).length = 4 := pad4_length (by omega)
    rw [textT_snoc]
    unfold textStep dn
    dsimp only
    split <;> simp only [List.length_append] <;> omega

structure TextI (w W : World) (neg : Bool) (vd : Value) (l : List UInt8) : Prop where
  bs : Boxed2 W w.heap.size 100 (.bool neg) vd
  bb : Lib.IsBuilder 91 5 (w.heap.size + 1) (w.heap.size + 1) (Lib.byteCells l) W
  bk : Boxed W (w.heap.size + 1 + 1) 98 vd
  sz : w.heap.size + 3 ≤ W.heap.size
  below : Below w.heap.size w W
theorem TextI.calm {w W W' : World} {row : Option Nat} {neg : Bool} {vd : Value} {l : List UInt8} (h : TextI w W neg vd l) (hg : W.grownBy W' row) (hr : ∀ k, row = some k → w.heap.size ≤ k ∧ ∃ o : Obj, W.heap[k]? = some o ∧ o.isCells = false) : TextI w W' neg vd l :=
  have hr' : ∀ k, row = some k → ∃ o : Obj, W.heap[k]? = some o ∧ o.isCells = false := fun k e => (hr k e).2
  ⟨h.bs.calm hg hr', builder_calm h.bb hg hr', boxed_calm h.bk hg hr', Nat.le_trans h.sz hg.size, h.below.grown hg h.below.size (fun k e => (hr k e).1)⟩
theorem TextI.new {w W W' : World} {neg : Bool} {vd : Value} {l : List UInt8} (h : TextI w W neg vd l) (hb : Below W.heap.size W W') : TextI w W' neg vd l :=
  ⟨h.bs.below hb h.bs.lt, builder_below h.bb hb, boxed_below h.bk hb h.bk.lt, Nat.le_trans h.sz hb.size, h.below.trans (hb.mono h.below.size)⟩
/-- Behind a write into the builder. -/
theorem TextI.wrote {w W W' : World} {neg : Bool} {vd : Value} {l l' : List UInt8} (h : TextI w W neg vd l) (hb : Lib.IsBuilder 91 5 (w.heap.size + 1) (w.heap.size + 1) (Lib.byteCells l') W') (h1 : Below (w.heap.size + 1) W W') (hk : Boxed W (w.heap.size + 1 + 1) 98 vd → Boxed W' (w.heap.size + 1 + 1) 98 vd) : TextI w W' neg vd l' :=
  ⟨h.bs.below h1 (Nat.lt_succ_self _), hb, hk h.bk, Nat.le_trans h.sz h1.size, h.below.trans (h1.mono (Nat.le_succ _))⟩

def textOut (neg : Bool) (a : Nat) : List UInt8 × Int := if a < lim then (str (sgn neg a), 0) else ([], 30)

theorem itoa_any (n : Int) (h0 : -9223372036854775808 ≤ n) (h1 : n ≤ 9223372036854775807) (w : World) (htab : Tab w) :
    Calls Tryz.prog 98 #[.int .i64 n] w fun e w' => e = .returned (bstr (str n)) ∧ Below w.heap.size w w' := by
  refine (Tryz.strconv_Itoa n h0 h1 w htab).mono ?_
  rintro e w' ⟨rfl, k, os, rfl⟩
  refine ⟨by rw [str_itoa]; rfl, ?_⟩
  exact below_grow _ _ (Nat.le_refl _) _ _


theorem repeatL_zeros (c : Nat) : Lib.repeatL [48] c = List.replicate c (48 : UInt8) := by
  induction c with
  | zero => rfl
  | succ c ih => rw [List.replicate_succ, ← ih]; rfl
theorem repeat_zeros (k : Int) (h0 : 0 ≤ k) (h1 : k ≤ 4) (w : World) :
    Calls Tryz.prog 96 #[.string ⟨#[48]⟩, .int .i64 k] w fun e w' => e = .returned (bstr (List.replicate k.toNat 48)) ∧ Below w.heap.size w w' := by
  obtain ⟨c, rfl⟩ := Int.eq_ofNat_of_zero_le h0
  refine (Tryz.strings_Repeat ⟨#[48]⟩ c w (by omega) (by show 1 * c ≤ _; omega)).mono ?_
  rintro e w' ⟨rfl, h⟩
  refine ⟨?_, h⟩
  show _ = Ending.returned (.string ⟨_⟩)
  rw [show (ByteArray.mk #[48]).data.toList = [48] from rfl, repeatL_zeros]; rfl

theorem text_round {m : Nat} {w W W' : World} {neg : Bool} {vd : Value} {xs : List Int} {pre : List Nat} {x : Nat} {l l' : List UInt8} (hl : textT xs (pre ++ [x]) = l') (h : TextI w W neg vd l) (h' : TextI w W' neg vd l') (hk : KeepsOthers W W') (hb : Below w.heap.size W W') :
    KeepsFrom m W W' ∧ KB w.heap.size (w.heap.size + 1 + 1) W W' ∧ TextI w W' neg vd (textT xs (pre ++ [x])) :=
  ⟨hk.from _, ⟨hb, h'.bk.cell.trans h.bk.cell.symm⟩, by rw [hl]; exact h'⟩

set_option maxRecDepth 100000 in
set_option maxHeartbeats 4000000 in
theorem text_in (neg : Bool) (a : Nat) (v : Value) (w : World) (hv : SignedAs neg a v w) (hla : (groups a).length ≤ 1000) (htab : Tab w) :
    CallsIn Fence.wide 9 Tryz.prog 82 #[v] w fun e w' => e = .returned (.tuple #[bstr (textOut neg a).1, .int .i64 (textOut neg a).2]) ∧ Below w.heap.size w w' := by
  have hro : Fence.wide.round = none := rfl
  have hmx : Tryz.prog.follows .mixedOrders = true := by kernel_rfl
  have HTB := Lib.hid (Lib.tabBelow_of_tabIs htab)
  clear htab
  obtain ⟨d, rfl, r⟩ := hv
  obtain ⟨A, c, e⟩ := r.shape
  subst e
  have R := Lib.hid r
  clear r
  by_cases ha : a = 0
  · subst ha
    have hto : textOut neg 0 = ([48], 0) := by
      have : sgn neg 0 = 0 := by unfold sgn; cases neg <;> rfl
      unfold textOut; rw [if_pos (by decide), this, str_zero]
    have HTO := Lib.hid hto
    clear hto
    have hg0 : (groups 0).length = 0 := by rw [groups_zero]; rfl
    refine callsIn_of_wp_marks Tryz.func82 rfl trivial ?_ hro
    simp only [Tryz.ntmps82, List.size_toArray, List.length_cons, List.length_nil, Nat.reduceAdd, Nat.reduceSub, Array.replicate_succ, Array.replicate_zero, List.push_toArray, List.append_toArray, List.nil_append, List.cons_append]
    rw [hg0]
    gi_wp2
    refine ⟨.tuple #[bstr [48], .int .i64 0], ?_, ?_, ?_⟩
    · simp [results, Tryz.f82, go_sem, bstr]
    · rw [HTO.out]
    · exact (Below.refl _ w).alloc (Nat.le_refl _) _
  · have hgl : (groups a).length ≠ 0 := by
      intro h
      exact ha (groups_eq_nil.1 (List.length_eq_zero_iff.1 h))
    have hgp : 0 < (groups a).length := Nat.pos_of_ne_zero hgl
    have hgd : decide ((groups a).length = 0) = false := by simpa using hgl
    have hgb : (((groups a).length : Int) == 0) = false := by simpa using hgl
    have HGL := Lib.hid hgl
    clear hgl
    refine callsIn_of_wp_marks Tryz.func82 rfl trivial ?_ hro
    simp only [Tryz.ntmps82, List.size_toArray, List.length_cons, List.length_nil, Nat.reduceAdd, Nat.reduceSub, Array.replicate_succ, Array.replicate_zero, List.push_toArray, List.append_toArray, List.nil_append, List.cons_append]
    have hB2 : Below w.heap.size w ((w.alloc (.cells #[.bool neg, .slice A (groups a).length c] 100)).alloc (.cells #[.pointer none, .slice none 0 0] 91)) := ((Below.refl _ w).alloc (Nat.le_refl _) _).alloc (by simp) _
    gi_wp2_with (refine ⟨trivial, ?_⟩; gi_at_call 106; refine (back_in Fence.wide _ trivial hro _ (groups a) _ (R.out.below hB2)).mono ?_; rintro e w' ⟨rfl, rfl⟩)
    have hI3 : TextI w (((w.alloc (.cells #[.bool neg, .slice A (groups a).length c] 100)).alloc (.cells #[.pointer none, .slice none 0 0] 91)).alloc (.cells #[.slice A (groups a).length c] 98)) neg (.slice A (groups a).length c) [] := by
      have b0 := Boxed2.new w 100 (.bool neg) (.slice A (groups a).length c)
      have b1 := Lib.fresh_isBuilder 91 5 (w.alloc (.cells #[.bool neg, .slice A (groups a).length c] 100))
      have b2 := Boxed.new ((w.alloc (.cells #[.bool neg, .slice A (groups a).length c] 100)).alloc (.cells #[.pointer none, .slice none 0 0] 91)) 98 (.slice A (groups a).length c)
      rw [World.size_alloc] at b1
      rw [World.size_alloc, World.size_alloc] at b2
      refine ⟨((b0.kept (World.grownBy_alloc _ _ none) (by simp)).kept (World.grownBy_alloc _ _ none) (by simp)), ?_, b2, by simp, hB2.alloc (by simp; omega) _⟩
      exact builder_below b1 ((Below.refl _ _).alloc (Nat.le_refl _) _)
    generalize (((w.alloc (.cells #[.bool neg, .slice A (groups a).length c] 100)).alloc (.cells #[.pointer none, .slice none 0 0] 91)).alloc (.cells #[.slice A (groups a).length c] 98)) = W3 at *
    have h1 : 1 ≤ 9 := by omega
    have hsz3 := hI3.sz
    refine wpIn_rangeFunc_ownG hro h1 (gf := 137) (lb := #[.pointer (some ⟨w.heap.size + 1 + 1, 0, none⟩)]) rfl trivial (enters_of Tryz.func137 (by kernel_rfl) rfl)
      (back_stops Fence.wide (9 - 1) trivial hro (by omega) (w.heap.size + 1 + 1) w.heap.size _ (groups a) W3 (by omega) (by omega) hI3.bk.cell w R.out (Nat.le_refl _) hI3.below) KB.trans (KB.put (by omega) (by omega)) (Below.refl _ _) (fun _ => rfl)
      (fun pre W => TextI w W neg (.slice A (groups a).length c) (textT (groups a) pre))
      (fun _ _ _ => False)
      ?hI ?hIx ?h0 ?act ?assign ?body ?done ?stop
    case assign =>
      intro l x W K hK
      gi_wp2
      exact hK
    case hI =>
      rintro s A B row hs hg hr
      exact hs.calm hg (fun k e => ⟨by have := (hr k e).1; omega, (hr k e).2⟩)
    case hIx => exact fun _ _ _ _ _ hs _ _ => hs
    case h0 => exact hI3
    case body =>
      rintro l pre x W hI hlen
      have hd := dig_at (dig_groups a) ((groups a).length - 1 - x)
      have hS := textT_snoc (groups a) pre x
      have hpl : (groups a).length - 1 - x < (groups a).length := by omega
      have hTl : (textT (groups a) pre).length ≤ 4000 := by
        refine Nat.le_trans (textT_length _ (dig_groups a) pre) ?_
        omega
      unfold dn textStep at hS
      generalize (groups a)[(groups a).length - 1 - x]?.getD 0 = d at *
      generalize (groups a).length - 1 - x = p at *
      generalize textT (groups a) pre = T at *
      dsimp only at hS
      have HS := Lib.hid hS
      have HI := Lib.hid hI
      have hc0 := hI.bs.cell0
      have hc1 := hI.bs.cell1
      have hszW := hI.sz
      have hlt0 : w.heap.size < W.heap.size := by omega
      have HT1 := Lib.hid ((HTB.out.on hI.below).here)
      have hsd : (str d).length ≤ 4 := by
        unfold str; rw [if_neg (by omega)]; exact dec_length_le (by omega) (by omega)
      have hstr : str d = decDigits d.toNat := by
        unfold str; rw [if_neg (by omega)]; congr 1; omega
      generalize hsde : str d = sd at *
      have HSD := Lib.hid hsde
      have HSE := Lib.hid hstr
      clear hS hI hsde hstr
      by_cases hp : p + 1 < (groups a).length
      · have hpi : (p : Int) < ((groups a).length : Int) - 1 := by omega
        gi_wp2_with (first
        | (refine ⟨trivial, ?_⟩; gi_at_call 98; refine (CallsIn.inRound l (callsIn_wide.2 (itoa_any d (by omega) (by omega) _ HT1.out))).mono ?_; rintro e w1 ⟨rfl, b1⟩; rw [HSD.out]; unfold bstr; have hI1 := HI.out.new b1; have hc01 := hI1.bs.cell0; have hc11 := hI1.bs.cell1; have hlt1 := hI1.bs.lt; have B1 := Lib.hid b1; have HI1 := Lib.hid hI1; clear b1 hI1)
        | (refine ⟨trivial, ?_⟩; gi_at_call 96; refine (CallsIn.inRound l (callsIn_wide.2 (repeat_zeros _ (by omega) (by omega) _))).mono ?_; rintro e w2 ⟨rfl, b2⟩; unfold bstr; have hI2 := HI1.out.new b2; have hc02 := hI2.bs.cell0; have hc12 := hI2.bs.cell1; have hlt2 := hI2.bs.lt; have B2 := Lib.hid b2; have HI2 := Lib.hid hI2; clear b2 hI2))
        have happ : (ByteArray.mk (Array.replicate (4 - sd.length) 48) ++ ByteArray.mk sd.toArray) = ByteArray.mk (pad4 d.toNat).toArray := by
          apply ByteArray.ext
          rw [ByteArray.data_append]
          unfold pad4
          rw [← HSE.out]
          simp
        rw [happ]
        clear happ
        refine ⟨trivial, ?_⟩
        refine (CallsIn.inRound l (callsIn_wide.2 (writeString_any (w.heap.size + 1) (w.heap.size + 1) T (pad4 d.toNat) _ HI2.out.bb (by rw [pad4_length (by omega)]; omega) (by omega)))).mono ?_
        rintro e w3 ⟨rfl, hbb, hb3, ho3, hk3⟩
        have hI3' := HI2.out.wrote hbb hb3 (hk3 _ _ _ (by omega) (by decide))
        have hend := text_round (m := W3.heap.size) (by rw [HS.out, if_pos hp]) HI.out hI3' ((KeepsOthers.of_below B1.out).trans ((KeepsOthers.of_below B2.out).trans ho3)) ((B1.out.mono (by omega)).trans ((B2.out.mono (by have := HI1.out.sz; omega)).trans (hb3.mono (by omega))))
        have HEND := Lib.hid hend
        clear hbb hb3 ho3 hk3 hI3' hend
        gi_wp2
        exact HEND.out
      · have hpi : ¬ ((p : Int) < ((groups a).length : Int) - 1) := by omega
        gi_wp2_with (first
        | (refine ⟨trivial, ?_⟩; gi_at_call 98; refine (CallsIn.inRound l (callsIn_wide.2 (itoa_any d (by omega) (by omega) _ HT1.out))).mono ?_; rintro e w1 ⟨rfl, b1⟩; rw [HSD.out]; unfold bstr; have hI1 := HI.out.new b1; have hc01 := hI1.bs.cell0; have hc11 := hI1.bs.cell1; have hlt1 := hI1.bs.lt; have B1 := Lib.hid b1; have HI1 := Lib.hid hI1; clear b1 hI1)
        | (refine ⟨trivial, ?_⟩; gi_at_call 96; refine (CallsIn.inRound l (callsIn_wide.2 (repeat_zeros _ (by omega) (by omega) _))).mono ?_; rintro e w2 ⟨rfl, b2⟩; unfold bstr; have hI2 := HI1.out.new b2; have hc02 := hI2.bs.cell0; have hc12 := hI2.bs.cell1; have hlt2 := hI2.bs.lt; have B2 := Lib.hid b2; have HI2 := Lib.hid hI2; clear b2 hI2))
        refine ⟨trivial, ?_⟩
        refine (CallsIn.inRound l (callsIn_wide.2 (writeString_any (w.heap.size + 1) (w.heap.size + 1) T sd _ HI1.out.bb (by omega) (by omega)))).mono ?_
        rintro e w3 ⟨rfl, hbb, hb3, ho3, hk3⟩
        have hI3' := HI1.out.wrote hbb hb3 (hk3 _ _ _ (by omega) (by decide))
        have hend := text_round (m := W3.heap.size) (by rw [HS.out, if_neg hp, HSE.out]) HI.out hI3' ((KeepsOthers.of_below B1.out).trans ho3) ((B1.out.mono (by omega)).trans (hb3.mono (by omega)))
        have HEND := Lib.hid hend
        clear hbb hb3 ho3 hk3 hI3' hend
        gi_wp2
        exact HEND.out
    case done =>
      rintro D ys W hD rfl hI hK
      rw [textT_all ha] at hI
      have HI := Lib.hid hI
      have HK := Lib.hid hK
      have hDb : D ≠ w.heap.size + 1 := by omega
      have hlm := dec_length_le_iff (u := a) (k := 200) (by omega)
      have hbl : ∀ l : List UInt8, (ByteArray.mk l.toArray).size = l.length := fun l => by show l.toArray.size = _; simp
      generalize hde : decDigits a = da at *
      have HDE := Lib.hid hde
      clear hI hK hde
      have hcall : Hid (∀ WW, WW = W → Calls Tryz.prog 76 #[.pointer (some ⟨w.heap.size + 1, 0, none⟩)] WW fun e w' => e = .returned (.string ⟨da.toArray⟩) ∧ Hid (Below (w.heap.size + 1) W w' ∧ w'.heap[D]? = W.heap[D]?)) := Lib.hid fun WW e => by
        subst e
        refine (Tryz.Builder_String_any_k (w.heap.size + 1) (w.heap.size + 1) da _ (Lib.IsBuilderF.of HI.out.bb) (by have := HI.out.sz; omega)).mono ?_
        rintro e w' ⟨rfl, _, hb, hk⟩
        exact ⟨rfl, Lib.hid ⟨hb, (hk D _ HK.out (by simp; omega) (fun _ _ h => by cases h)).trans HK.out.symm⟩⟩
      by_cases hlim : a < lim
      · have hl2 : da.length ≤ 200 := hlm.2 (by simpa [lim] using hlim)
        have hl3 : ¬ ((200 : Int) < (da.length : Int)) := by omega
        have HTO : Hid (textOut neg a = (str (sgn neg a), 0)) := Lib.hid (by unfold textOut; rw [if_pos hlim])
        clear hlm hlim
        cases neg with
        | false =>
          gi_wp2_with (refine ⟨trivial, ?_⟩; gi_at_call 76; refine (callsIn_wide.2 (hcall.out _ rfl)).mono ?_; rintro e w1 ⟨rfl, hh⟩; have hc0 : w1.cell? ⟨w.heap.size, 0, none⟩ = some (.bool false) := (HI.out.bs.below hh.out.1 (Nat.lt_succ_self _)).cell0)
          have hk := hh.out.2.trans HK.out
          refine ⟨by simp, .inl ⟨_, _, rfl, run_takeDeferred hk, ?_⟩⟩
          refine ⟨.tuple #[bstr da, .int .i64 0], by simp [results, Tryz.f82, go_sem, bstr], ?_, (HI.out.below.trans (hh.out.1.mono (Nat.le_succ _))).trans (belowK_b (w := w) (Nat.le_refl _) w1 D _ _ (by omega) hk rfl rfl)⟩
          rw [HTO.out]
          show _ = Ending.returned (.tuple #[bstr (str (sgn false a)), .int .i64 0])
          rw [show sgn false a = (a : Int) from rfl, show str (a : Int) = decDigits a by unfold str; rw [if_neg (by omega)]; rfl, HDE.out]
        | true =>
          gi_wp2_with (refine ⟨trivial, ?_⟩; gi_at_call 76; refine (callsIn_wide.2 (hcall.out _ rfl)).mono ?_; rintro e w1 ⟨rfl, hh⟩; have hc0 : w1.cell? ⟨w.heap.size, 0, none⟩ = some (.bool true) := (HI.out.bs.below hh.out.1 (Nat.lt_succ_self _)).cell0)
          have happ : (ByteArray.mk #[45] ++ ByteArray.mk da.toArray) = ByteArray.mk (45 :: da).toArray := by
            apply ByteArray.ext
            rw [ByteArray.data_append]
            simp
          have hk := hh.out.2.trans HK.out
          refine ⟨by simp, .inl ⟨_, _, rfl, run_takeDeferred hk, ?_⟩⟩
          refine ⟨.tuple #[bstr (45 :: da), .int .i64 0], by simp [results, Tryz.f82, go_sem, bstr, happ], ?_, (HI.out.below.trans (hh.out.1.mono (Nat.le_succ _))).trans (belowK_b (w := w) (Nat.le_refl _) w1 D _ _ (by omega) hk rfl rfl)⟩
          rw [HTO.out]
          show _ = Ending.returned (.tuple #[bstr (str (sgn true a)), .int .i64 0])
          rw [show sgn true a = -(a : Int) from rfl, show str (-(a : Int)) = 45 :: decDigits a by unfold str; rw [if_pos (by omega), Int.natAbs_neg]; rfl, HDE.out]
      · have hl2 : 200 < da.length := by
          rcases Nat.lt_or_ge 200 da.length with h | h
          · exact h
          · exact absurd (by simpa [lim] using hlm.1 h) hlim
        have hl3 : (200 : Int) < (da.length : Int) := by omega
        have HTO : Hid (textOut neg a = ([], 30)) := Lib.hid (by unfold textOut; rw [if_neg hlim])
        clear hlm hlim
        gi_wp2_with (refine ⟨trivial, ?_⟩; gi_at_call 76; refine (callsIn_wide.2 (hcall.out _ rfl)).mono ?_; rintro e w1 ⟨rfl, hh⟩; have hc0 : w1.cell? ⟨w.heap.size, 0, none⟩ = some (.bool neg) := (HI.out.bs.below hh.out.1 (Nat.lt_succ_self _)).cell0)
        have hk := hh.out.2.trans HK.out
        refine ⟨by simp, .inl ⟨_, _, rfl, run_takeDeferred hk, ?_⟩⟩
        refine ⟨.tuple #[bstr [], .int .i64 30], by simp [results, Tryz.f82, go_sem, bstr], ?_, (HI.out.below.trans (hh.out.1.mono (Nat.le_succ _))).trans (belowK_b (w := w) (Nat.le_refl _) w1 D _ _ (by omega) hk rfl rfl)⟩
        rw [HTO.out]
    case stop =>
      rintro D c pre W _ _ h _
      exact h.elim
theorem text_any (neg : Bool) (a : Nat) (v : Value) (w : World) (hv : SignedAs neg a v w) (hla : (groups a).length ≤ 1000) (htab : Tab w) :
    Calls Tryz.prog 82 #[v] w fun e w' => e = .returned (.tuple #[bstr (textOut neg a).1, .int .i64 (textOut neg a).2]) ∧ Below w.heap.size w w' := callsIn_wide.1 (text_in neg a v w hv hla htab)
end Go.Proofs.YtfdjdmkpcdbmkaaGreatDoor

/-
  integer.go: the exported operations: Valid, FromInt, Add, Sub, Mul, Compare.
-/
namespace Go.Proofs.YtfdjdmkpcdbmkaaGreatDoor
open Go.RowKit Go.Shelf Go.Lib

attribute [local go_sem] Oper.semAt_some

theorem lim_eq : lim = 10000 ^ 50 := by
  unfold lim
  rw [show (10000 : Nat) = 10 ^ 4 from rfl, ← Nat.pow_mul]
theorem glen {a : Nat} (h : a < lim) : (groups a).length ≤ 50 := groups_length_le (by rw [← lim_eq]; exact h)
theorem natAbs_sgn (n : Bool) (a : Nat) : (sgn n a).natAbs = a := by unfold sgn; cases n <;> simp
theorem textOut_eq (n : Bool) (a : Nat) : textOut n a = outS (sgn n a) := by
  unfold textOut outS; rw [natAbs_sgn]; rfl
theorem toZ_lt {s : List UInt8} (h : valid s = true) : (toZ s).natAbs < lim := by
  obtain ⟨z, hz, rfl⟩ := of_valid h
  rw [toZ_str]; exact hz
theorem Tab.on {w w' : World} (h : Tab w) (hb : Below w.heap.size w w') : Tab w' := (Lib.tabBelow_of_tabIs h) w' hb
theorem boxed2_two (w : World) (t : TypeId) (a1 b1 a2 b2 : Value) :
    Boxed2 ((w.alloc (.cells #[a1, b1] t)).alloc (.cells #[a2, b2] t)) w.heap.size t a1 b1 ∧ Boxed2 ((w.alloc (.cells #[a1, b1] t)).alloc (.cells #[a2, b2] t)) (w.heap.size + 1) t a2 b2 ∧
    Below w.heap.size w ((w.alloc (.cells #[a1, b1] t)).alloc (.cells #[a2, b2] t)) := by
  have q1 := Boxed2.new (w.alloc (.cells #[a1, b1] t)) t a2 b2
  rw [World.size_alloc] at q1
  exact ⟨(Boxed2.new w t a1 b1).kept (World.grownBy_alloc _ _ none) (by simp), q1, ((Below.refl _ w).alloc (Nat.le_refl _) _).alloc (by simp) _⟩

theorem valid_any (s : List UInt8) (hs : s.length ≤ 9223372036854775807) (w : World) :
    Calls Tryz.prog 49 #[.string ⟨s.toArray⟩] w fun e w' => e = .returned (.bool (valid s)) ∧ Below w.heap.size w w' := by
  go_enter Tryz.func49, Tryz.ntmps49
  go_wp2_with (go_at_call 78; refine (isValid_any _ hs _).mono ?_; rintro e w1 ⟨rfl, b1⟩; have B1 := Lib.hid b1; clear b1)
  go_ret
  exact ⟨rfl, B1.out⟩

theorem fromInt_any (n : Int) (h0 : -9223372036854775808 ≤ n) (h1 : n ≤ 9223372036854775807) (w : World) (htab : Tab w) :
    Calls Tryz.prog 72 #[.int .i64 n] w fun e w' => e = .returned (bstr (str n)) ∧ Below w.heap.size w w' := by
  have HT := Lib.hid htab
  clear htab
  go_enter Tryz.func72, Tryz.ntmps72
  go_wp2_with (go_at_call 98; refine (itoa_any n h0 h1 _ HT.out).mono ?_; rintro e w1 ⟨rfl, b1⟩; have B1 := Lib.hid b1; clear b1)
  go_ret
  exact ⟨rfl, B1.out⟩


theorem bthen {w w1 w2 : World} (h1 : Below w.heap.size w w1) (h2 : Below w1.heap.size w1 w2) : Below w.heap.size w w2 := h1.trans (h2.mono h1.size)
theorem two_below (w : World) (t : TypeId) (a1 b1 a2 b2 : Value) : Below w.heap.size w ((w.alloc (.cells #[a1, b1] t)).alloc (.cells #[a2, b2] t)) := (boxed2_two w t a1 b1 a2 b2).2.2
theorem gsum {a b c : Nat} (ha : a < lim) (hb : b < lim) (h : c ≤ a + b) : (groups c).length ≤ 51 := by
  apply groups_length_le
  rw [lim_eq] at ha hb
  have : (10000 : Nat) ^ 51 = 10000 ^ 50 * 10000 := Nat.pow_succ ..
  omega
theorem sgn_not (n : Bool) (a : Nat) : sgn (!n) a = -(sgn n a) := by unfold sgn; cases n <;> simp
theorem sgn_le {n : Bool} {c : Nat} {x y : Int} (h : sgn n c = x + y) : c ≤ x.natAbs + y.natAbs := by
  have := congrArg Int.natAbs h
  rw [natAbs_sgn] at this; omega
theorem sgn_le' {n : Bool} {c : Nat} {x y : Int} (h : sgn n c = x + -y) : c ≤ x.natAbs + y.natAbs := by
  have := congrArg Int.natAbs h
  rw [natAbs_sgn] at this; omega

set_option maxRecDepth 100000 in
set_option maxHeartbeats 4000000 in
theorem add_yes (s t : List UInt8) (hs : valid s = true) (ht : valid t = true) (w : World) (htab : Tab w) :
    Calls Tryz.prog 62 #[.string ⟨s.toArray⟩, .string ⟨t.toArray⟩] w fun e w' => e = .returned (.tuple #[bstr (outS (toZ s + toZ t)).1, .int .i64 (outS (toZ s + toZ t)).2]) ∧ Below w.heap.size w w' := by
  have HVS := Lib.hid hs
  have HVT := Lib.hid ht
  have HT := Lib.hid htab
  have gx := glen (toZ_lt hs)
  have gy := glen (toZ_lt ht)
  have HG := Lib.hid (And.intro (toZ_lt hs) (toZ_lt ht))
  clear hs ht htab
  go_enter Tryz.func62, Tryz.ntmps62
  go_wp2_with (first
    | (go_at_call 79; refine (both_yes _ _ HVS.out HVT.out _).mono ?_; rintro e w1 ⟨vx, vy, rfl, sx, sy, b1⟩; obtain ⟨dx, rfl, rx⟩ := sx; obtain ⟨dy, rfl, ry⟩ := sy; obtain ⟨Ax, cx, ex⟩ := rx.shape; obtain ⟨Ay, cy, ey⟩ := ry.shape; subst ex; subst ey; have B1 := Lib.hid b1; have RX := Lib.hid rx; have RY := Lib.hid ry; clear b1 rx ry)
    | (go_at_call 90; refine (signed_plus _ _ (toZ s).natAbs (toZ t).natAbs _ _ _ (by exact ⟨_, rfl, RX.out.below (two_below _ _ _ _ _ _)⟩) (by exact ⟨_, rfl, RY.out.below (two_below _ _ _ _ _ _)⟩) (by omega) (by omega)).mono ?_; rintro e w2 ⟨v, n, c, rfl, sc, hc, b2⟩; obtain ⟨d3, rfl, r3⟩ := sc; obtain ⟨A3, c3, e3⟩ := r3.shape; subst e3; have R3 := Lib.hid r3; have HC := Lib.hid hc; have B2 := Lib.hid (bthen B1.out (bthen (two_below _ _ _ _ _ _) b2)); clear r3 hc b2)
    | (go_at_call 82; refine (text_any n c _ _ (by exact ⟨_, rfl, R3.out⟩) (by exact Nat.le_trans (gsum HG.out.1 HG.out.2 (by have := HC.out; simp only [sgn_is] at this; exact sgn_le this)) (by omega)) (by exact HT.out.on B2.out)).mono ?_; rintro e w3 ⟨rfl, b3⟩; have B3 := Lib.hid (bthen B2.out b3); clear b3))
  go_ret2
  refine ⟨?_, B3.out⟩
  rw [textOut_eq, HC.out, sgn_is, sgn_is]
  rfl

set_option maxRecDepth 100000 in
set_option maxHeartbeats 4000000 in
theorem add_no (s t : List UInt8) (hs : s.length ≤ 9223372036854775807) (ht : t.length ≤ 9223372036854775807) (h : (valid s && valid t) = false) (w : World) :
    Calls Tryz.prog 62 #[.string ⟨s.toArray⟩, .string ⟨t.toArray⟩] w fun e w' => e = .returned (.tuple #[bstr [], .int .i64 30]) ∧ Below w.heap.size w w' := by
  have H := Lib.hid (And.intro hs (And.intro ht h))
  clear hs ht h
  go_enter Tryz.func62, Tryz.ntmps62
  go_wp2_with (go_at_call 79; refine (both_no _ _ H.out.1 H.out.2.1 H.out.2.2 _).mono ?_; rintro e w1 ⟨rfl, b1⟩; have B1 := Lib.hid b1; clear b1)
  go_ret2
  exact ⟨rfl, bthen B1.out (two_below _ _ _ _ _ _)⟩
theorem add_any (s t : List UInt8) (hs : s.length ≤ 9223372036854775807) (ht : t.length ≤ 9223372036854775807) (w : World) (htab : Tab w) :
    Calls Tryz.prog 62 #[.string ⟨s.toArray⟩, .string ⟨t.toArray⟩] w fun e w' => e = .returned (.tuple #[bstr (addS s t).1, .int .i64 (addS s t).2]) ∧ Below w.heap.size w w' := by
  unfold addS
  cases h : (valid s && valid t) with
  | false => exact add_no s t hs ht h w
  | true =>
    rw [Bool.and_eq_true] at h
    exact add_yes s t h.1 h.2 w htab

set_option maxRecDepth 100000 in
set_option maxHeartbeats 4000000 in
theorem sub_yes (s t : List UInt8) (hs : valid s = true) (ht : valid t = true) (w : World) (htab : Tab w) :
    Calls Tryz.prog 73 #[.string ⟨s.toArray⟩, .string ⟨t.toArray⟩] w fun e w' => e = .returned (.tuple #[bstr (outS (toZ s - toZ t)).1, .int .i64 (outS (toZ s - toZ t)).2]) ∧ Below w.heap.size w w' := by
  have HVS := Lib.hid hs
  have HVT := Lib.hid ht
  have HT := Lib.hid htab
  have gx := glen (toZ_lt hs)
  have gy := glen (toZ_lt ht)
  have HG := Lib.hid (And.intro (toZ_lt hs) (toZ_lt ht))
  clear hs ht htab
  go_enter Tryz.func73, Tryz.ntmps73
  go_wp2_with (first
    | (go_at_call 79; refine (both_yes _ _ HVS.out HVT.out _).mono ?_; rintro e w1 ⟨vx, vy, rfl, sx, sy, b1⟩; obtain ⟨dx, rfl, rx⟩ := sx; obtain ⟨dy, rfl, ry⟩ := sy; obtain ⟨Ax, cx, ex⟩ := rx.shape; obtain ⟨Ay, cy, ey⟩ := ry.shape; subst ex; subst ey; have B1 := Lib.hid b1; have RX := Lib.hid rx; have RY := Lib.hid ry; clear b1 rx ry)
    | (go_at_call 90; refine (signed_plus _ _ (toZ s).natAbs (toZ t).natAbs _ _ _ (by exact ⟨_, rfl, RX.out.below (two_below _ _ _ _ _ _)⟩) (by exact ⟨_, rfl, RY.out.below (two_below _ _ _ _ _ _)⟩) (by omega) (by omega)).mono ?_; rintro e w2 ⟨v, n, c, rfl, sc, hc, b2⟩; obtain ⟨d3, rfl, r3⟩ := sc; obtain ⟨A3, c3, e3⟩ := r3.shape; subst e3; have R3 := Lib.hid r3; have HC := Lib.hid hc; have B2 := Lib.hid (bthen B1.out (bthen (two_below _ _ _ _ _ _) b2)); clear r3 hc b2)
    | (go_at_call 82; refine (text_any n c _ _ (by exact ⟨_, rfl, R3.out⟩) (by exact Nat.le_trans (gsum HG.out.1 HG.out.2 (by have := HC.out; simp only [sgn_not, sgn_is] at this; exact sgn_le' this)) (by omega)) (by exact HT.out.on B2.out)).mono ?_; rintro e w3 ⟨rfl, b3⟩; have B3 := Lib.hid (bthen B2.out b3); clear b3))
  go_ret2
  refine ⟨?_, B3.out⟩
  rw [textOut_eq, HC.out, sgn_not, sgn_is, sgn_is, ← Int.sub_eq_add_neg]
  rfl

set_option maxRecDepth 100000 in
set_option maxHeartbeats 4000000 in
theorem sub_no (s t : List UInt8) (hs : s.length ≤ 9223372036854775807) (ht : t.length ≤ 9223372036854775807) (h : (valid s && valid t) = false) (w : World) :
    Calls Tryz.prog 73 #[.string ⟨s.toArray⟩, .string ⟨t.toArray⟩] w fun e w' => e = .returned (.tuple #[bstr [], .int .i64 30]) ∧ Below w.heap.size w w' := by
  have H := Lib.hid (And.intro hs (And.intro ht h))
  clear hs ht h
  go_enter Tryz.func73, Tryz.ntmps73
  go_wp2_with (go_at_call 79; refine (both_no _ _ H.out.1 H.out.2.1 H.out.2.2 _).mono ?_; rintro e w1 ⟨rfl, b1⟩; have B1 := Lib.hid b1; clear b1)
  go_ret2
  exact ⟨rfl, bthen B1.out (two_below _ _ _ _ _ _)⟩
theorem sub_any (s t : List UInt8) (hs : s.length ≤ 9223372036854775807) (ht : t.length ≤ 9223372036854775807) (w : World) (htab : Tab w) :
    Calls Tryz.prog 73 #[.string ⟨s.toArray⟩, .string ⟨t.toArray⟩] w fun e w' => e = .returned (.tuple #[bstr (subS s t).1, .int .i64 (subS s t).2]) ∧ Below w.heap.size w w' := by
  unfold subS
  cases h : (valid s && valid t) with
  | false => exact sub_no s t hs ht h w
  | true =>
    rw [Bool.and_eq_true] at h
    exact sub_yes s t h.1 h.2 w htab

theorem gprod {a b : Nat} (ha : a < lim) (hb : b < lim) : (groups (a * b)).length ≤ 100 := by
  apply groups_length_le
  rw [lim_eq] at ha hb
  rw [show (100 : Nat) = 50 + 50 from rfl, Nat.pow_add]
  exact Nat.mul_lt_mul'' ha hb
theorem sgn_mul (n m : Bool) (a b : Nat) : sgn (!(n == m)) (a * b) = sgn n a * sgn m b := by
  unfold sgn; cases n <;> cases m <;> simp [Int.neg_mul, Int.mul_neg]

set_option maxRecDepth 100000 in
set_option maxHeartbeats 4000000 in
theorem mul_yes (s t : List UInt8) (hs : valid s = true) (ht : valid t = true) (w : World) (htab : Tab w) :
    Calls Tryz.prog 89 #[.string ⟨s.toArray⟩, .string ⟨t.toArray⟩] w fun e w' => e = .returned (.tuple #[bstr (outS (toZ s * toZ t)).1, .int .i64 (outS (toZ s * toZ t)).2]) ∧ Below w.heap.size w w' := by
  have HVS := Lib.hid hs
  have HVT := Lib.hid ht
  have HT := Lib.hid htab
  have gx := glen (toZ_lt hs)
  have gy := glen (toZ_lt ht)
  have gp := gprod (toZ_lt hs) (toZ_lt ht)
  clear hs ht htab
  go_enter Tryz.func89, Tryz.ntmps89
  go_wp2_with (go_at_call 79; refine (both_yes _ _ HVS.out HVT.out _).mono ?_; rintro e w1 ⟨vx, vy, rfl, sx, sy, b1⟩; obtain ⟨dx, rfl, rx⟩ := sx; obtain ⟨dy, rfl, ry⟩ := sy; obtain ⟨Ax, cx, ex⟩ := rx.shape; obtain ⟨Ay, cy, ey⟩ := ry.shape; subst ex; subst ey; have B1 := Lib.hid b1; have RX := Lib.hid rx; have RY := Lib.hid ry; clear b1 rx ry)
  obtain ⟨q0, q1, qb⟩ := boxed2_two w1 100 (.bool (decide (toZ s < 0))) (.slice Ax (groups (toZ s).natAbs).length cx) (.bool (decide (toZ t < 0))) (.slice Ay (groups (toZ t).natAbs).length cy)
  generalize hnx : decide (toZ s < 0) = nx at *
  generalize hny : decide (toZ t < 0) = ny at *
  have HNX := Lib.hid hnx
  have HNY := Lib.hid hny
  generalize ((w1.alloc (.cells #[.bool nx, .slice Ax (groups (toZ s).natAbs).length cx] 100)).alloc (.cells #[.bool ny, .slice Ay (groups (toZ t).natAbs).length cy] 100)) = W0 at *
  have P1 := Lib.hid (RX.out.below qb)
  have P2 := Lib.hid (RY.out.below qb)
  have c00 := q0.cell0
  have c01 := q0.cell1
  have c10 := q1.cell0
  have c11 := q1.cell1
  have Q0 := Lib.hid q0
  have Q1 := Lib.hid q1
  have QB := Lib.hid (bthen B1.out qb)
  clear q0 q1 qb hnx hny
  go_region_held3 (fun w' => w'.cell? ⟨w1.heap.size, 0, none⟩ = some (.bool nx) ∧ w'.cell? ⟨w1.heap.size, 1, none⟩ = some (.slice Ax (groups (toZ s).natAbs).length cx) ∧ w'.cell? ⟨w1.heap.size + 1, 0, none⟩ = some (.bool ny) ∧ w'.cell? ⟨w1.heap.size + 1, 1, none⟩ = some (.slice Ay (groups (toZ t).natAbs).length cy))
    (first
      | exact ⟨c00, c01, c10, c11⟩
      | exact ⟨d00, d01, d10, d11⟩
      | exact ⟨e00, e01, e10, e11⟩
      | go_keep)
    (first
      | (go_at_call 116; refine (times_any _ _ (toZ s).natAbs (toZ t).natAbs _ (by exact P1.out.drew) (by exact P2.out.drew) (by omega)).mono ?_; rintro e w2 ⟨v3, rfl, r3, b2⟩; obtain ⟨A3, c3, hv⟩ := r3.shape; subst hv; have z0 := (Q0.out.later (below_of_drew b2)); have z1 := Q1.out.later (below_of_drew b2); have d00 := z0.cell0; have d01 := z0.cell1; have d10 := z1.cell0; have d11 := z1.cell1; have R3 := Lib.hid r3; have Z0 := Lib.hid z0; have Z1 := Lib.hid z1; have B2 := Lib.hid (bthen QB.out (below_of_drew b2)); clear r3 b2 z0 z1)
      | (go_at_call 82; refine (text_any _ ((toZ s).natAbs * (toZ t).natAbs) _ _ (by exact ⟨_, rfl, R3.out⟩) (by omega) (by exact HT.out.on B2.out)).mono ?_; rintro e w3 ⟨rfl, b3⟩; have z0 := Z0.out.later b3; have z1 := Z1.out.later b3; have e00 := z0.cell0; have e01 := z0.cell1; have e10 := z1.cell0; have e11 := z1.cell1; have B3 := Lib.hid (bthen B2.out b3); clear b3 z0 z1))
  all_goals go_wp2
  all_goals go_ret2
  all_goals
    refine ⟨?_, B3.out⟩
    rw [textOut_eq, sgn_mul, ← HNX.out, ← HNY.out, sgn_is, sgn_is]
    rfl
set_option maxRecDepth 100000 in
set_option maxHeartbeats 4000000 in
theorem mul_no (s t : List UInt8) (hs : s.length ≤ 9223372036854775807) (ht : t.length ≤ 9223372036854775807) (h : (valid s && valid t) = false) (w : World) :
    Calls Tryz.prog 89 #[.string ⟨s.toArray⟩, .string ⟨t.toArray⟩] w fun e w' => e = .returned (.tuple #[bstr [], .int .i64 30]) ∧ Below w.heap.size w w' := by
  have H := Lib.hid (And.intro hs (And.intro ht h))
  clear hs ht h
  go_enter Tryz.func89, Tryz.ntmps89
  go_wp2_with (go_at_call 79; refine (both_no _ _ H.out.1 H.out.2.1 H.out.2.2 _).mono ?_; rintro e w1 ⟨rfl, b1⟩; have B1 := Lib.hid b1; clear b1)
  go_ret2
  exact ⟨rfl, bthen B1.out (two_below _ _ _ _ _ _)⟩
theorem mul_any (s t : List UInt8) (hs : s.length ≤ 9223372036854775807) (ht : t.length ≤ 9223372036854775807) (w : World) (htab : Tab w) :
    Calls Tryz.prog 89 #[.string ⟨s.toArray⟩, .string ⟨t.toArray⟩] w fun e w' => e = .returned (.tuple #[bstr (mulS s t).1, .int .i64 (mulS s t).2]) ∧ Below w.heap.size w w' := by
  unfold mulS
  cases h : (valid s && valid t) with
  | false => exact mul_no s t hs ht h w
  | true =>
    rw [Bool.and_eq_true] at h
    exact mul_yes s t h.1 h.2 w htab

end Go.Proofs.YtfdjdmkpcdbmkaaGreatDoor

/-
  integer.go: Compare.
-/
namespace Go.Proofs.YtfdjdmkpcdbmkaaGreatDoor
open Go.RowKit Go.Shelf Go.Lib

attribute [local go_sem] Oper.semAt_some

theorem cmpZ_case_false_false {x y : Int} (hx : decide (x < 0) = false) (hy : decide (y < 0) = false) : cmpZ x y = cmpZ (x.natAbs : Int) (y.natAbs : Int) := by
  rw [decide_eq_false_iff_not] at hx hy
  rw [show (x.natAbs : Int) = x by omega, show (y.natAbs : Int) = y by omega]
theorem cmpZ_case_true_true {x y : Int} (hx : decide (x < 0) = true) (hy : decide (y < 0) = true) : cmpZ x y = cmpZ (y.natAbs : Int) (x.natAbs : Int) := by
  rw [decide_eq_true_eq] at hx hy
  unfold cmpZ
  repeat' split
  all_goals first | rfl | omega
theorem cmpZ_case_true_false {x y : Int} (hx : decide (x < 0) = true) (hy : decide (y < 0) = false) : cmpZ x y = -1 := by
  rw [decide_eq_true_eq] at hx
  rw [decide_eq_false_iff_not] at hy
  unfold cmpZ; rw [if_pos (by omega)]
theorem cmpZ_case_false_true {x y : Int} (hx : decide (x < 0) = false) (hy : decide (y < 0) = true) : cmpZ x y = 1 := by
  rw [decide_eq_true_eq] at hy
  rw [decide_eq_false_iff_not] at hx
  unfold cmpZ; rw [if_neg (by omega), if_pos (by omega)]

set_option maxRecDepth 100000 in
set_option maxHeartbeats 4000000 in
theorem compare_false_false (s t : List UInt8) (hs : valid s = true) (ht : valid t = true) (hx : decide (toZ s < 0) = false) (hy : decide (toZ t < 0) = false) (w : World) :
    Calls Tryz.prog 50 #[.string ⟨s.toArray⟩, .string ⟨t.toArray⟩] w fun e w' => e = .returned (.int .i64 (cmpZ (toZ s) (toZ t))) ∧ Below w.heap.size w w' := by
  have HVS := Lib.hid hs
  have HVT := Lib.hid ht
  have HNX := Lib.hid hx
  have HNY := Lib.hid hy
  have HE := Lib.hid (cmpZ_case_false_false hx hy)
  clear hs ht hx hy
  go_enter Tryz.func50, Tryz.ntmps50
  go_wp2_with (first
    | (go_at_call 79; refine (both_yes _ _ HVS.out HVT.out _).mono ?_; rintro e w1 ⟨vx, vy, rfl, sx, sy, b1⟩; obtain ⟨dx, rfl, rx⟩ := sx; obtain ⟨dy, rfl, ry⟩ := sy; obtain ⟨Ax, cx, ex⟩ := rx.shape; obtain ⟨Ay, cy, ey⟩ := ry.shape; subst ex; subst ey; rw [HNX.out, HNY.out]; have B1 := Lib.hid b1; have RX := Lib.hid rx; have RY := Lib.hid ry; clear b1 rx ry)
    | (go_at_call 80; refine (compare_any _ _ (toZ s).natAbs (toZ t).natAbs _ (by exact RX.out.below (two_below _ _ _ _ _ _)) (by exact RY.out.below (two_below _ _ _ _ _ _))).mono ?_; rintro e w2 ⟨rfl, b2⟩; have B2 := Lib.hid (bthen B1.out (bthen (two_below _ _ _ _ _ _) b2)); clear b2))
  go_ret
  exact ⟨by rw [HE.out]; rfl, B2.out⟩

set_option maxRecDepth 100000 in
set_option maxHeartbeats 4000000 in
theorem compare_false_true (s t : List UInt8) (hs : valid s = true) (ht : valid t = true) (hx : decide (toZ s < 0) = false) (hy : decide (toZ t < 0) = true) (w : World) :
    Calls Tryz.prog 50 #[.string ⟨s.toArray⟩, .string ⟨t.toArray⟩] w fun e w' => e = .returned (.int .i64 (cmpZ (toZ s) (toZ t))) ∧ Below w.heap.size w w' := by
  have HVS := Lib.hid hs
  have HVT := Lib.hid ht
  have HNX := Lib.hid hx
  have HNY := Lib.hid hy
  have HE := Lib.hid (cmpZ_case_false_true hx hy)
  clear hs ht hx hy
  go_enter Tryz.func50, Tryz.ntmps50
  go_wp2_with (go_at_call 79; refine (both_yes _ _ HVS.out HVT.out _).mono ?_; rintro e w1 ⟨vx, vy, rfl, sx, sy, b1⟩; obtain ⟨dx, rfl, rx⟩ := sx; obtain ⟨dy, rfl, ry⟩ := sy; obtain ⟨Ax, cx, ex⟩ := rx.shape; obtain ⟨Ay, cy, ey⟩ := ry.shape; subst ex; subst ey; rw [HNX.out, HNY.out]; have B1 := Lib.hid b1; have RX := Lib.hid rx; have RY := Lib.hid ry; clear b1 rx ry)
  go_ret
  exact ⟨by rw [HE.out]; rfl, bthen B1.out (two_below _ _ _ _ _ _)⟩

set_option maxRecDepth 100000 in
set_option maxHeartbeats 4000000 in
theorem compare_true_false (s t : List UInt8) (hs : valid s = true) (ht : valid t = true) (hx : decide (toZ s < 0) = true) (hy : decide (toZ t < 0) = false) (w : World) :
    Calls Tryz.prog 50 #[.string ⟨s.toArray⟩, .string ⟨t.toArray⟩] w fun e w' => e = .returned (.int .i64 (cmpZ (toZ s) (toZ t))) ∧ Below w.heap.size w w' := by
  have HVS := Lib.hid hs
  have HVT := Lib.hid ht
  have HNX := Lib.hid hx
  have HNY := Lib.hid hy
  have HE := Lib.hid (cmpZ_case_true_false hx hy)
  clear hs ht hx hy
  go_enter Tryz.func50, Tryz.ntmps50
  go_wp2_with (go_at_call 79; refine (both_yes _ _ HVS.out HVT.out _).mono ?_; rintro e w1 ⟨vx, vy, rfl, sx, sy, b1⟩; obtain ⟨dx, rfl, rx⟩ := sx; obtain ⟨dy, rfl, ry⟩ := sy; obtain ⟨Ax, cx, ex⟩ := rx.shape; obtain ⟨Ay, cy, ey⟩ := ry.shape; subst ex; subst ey; rw [HNX.out, HNY.out]; have B1 := Lib.hid b1; have RX := Lib.hid rx; have RY := Lib.hid ry; clear b1 rx ry)
  go_ret
  exact ⟨by rw [HE.out]; rfl, bthen B1.out (two_below _ _ _ _ _ _)⟩

set_option maxRecDepth 100000 in
set_option maxHeartbeats 4000000 in
theorem compare_true_true (s t : List UInt8) (hs : valid s = true) (ht : valid t = true) (hx : decide (toZ s < 0) = true) (hy : decide (toZ t < 0) = true) (w : World) :
    Calls Tryz.prog 50 #[.string ⟨s.toArray⟩, .string ⟨t.toArray⟩] w fun e w' => e = .returned (.int .i64 (cmpZ (toZ s) (toZ t))) ∧ Below w.heap.size w w' := by
  have HVS := Lib.hid hs
  have HVT := Lib.hid ht
  have HNX := Lib.hid hx
  have HNY := Lib.hid hy
  have HE := Lib.hid (cmpZ_case_true_true hx hy)
  clear hs ht hx hy
  go_enter Tryz.func50, Tryz.ntmps50
  go_wp2_with (first
    | (go_at_call 79; refine (both_yes _ _ HVS.out HVT.out _).mono ?_; rintro e w1 ⟨vx, vy, rfl, sx, sy, b1⟩; obtain ⟨dx, rfl, rx⟩ := sx; obtain ⟨dy, rfl, ry⟩ := sy; obtain ⟨Ax, cx, ex⟩ := rx.shape; obtain ⟨Ay, cy, ey⟩ := ry.shape; subst ex; subst ey; rw [HNX.out, HNY.out]; have B1 := Lib.hid b1; have RX := Lib.hid rx; have RY := Lib.hid ry; clear b1 rx ry)
    | (go_at_call 80; refine (compare_any _ _ (toZ t).natAbs (toZ s).natAbs _ (by exact RY.out.below (two_below _ _ _ _ _ _)) (by exact RX.out.below (two_below _ _ _ _ _ _))).mono ?_; rintro e w2 ⟨rfl, b2⟩; have B2 := Lib.hid (bthen B1.out (bthen (two_below _ _ _ _ _ _) b2)); clear b2))
  go_ret
  exact ⟨by rw [HE.out]; rfl, B2.out⟩

set_option maxRecDepth 100000 in
set_option maxHeartbeats 4000000 in
theorem compare_no (s t : List UInt8) (hs : s.length ≤ 9223372036854775807) (ht : t.length ≤ 9223372036854775807) (h : (valid s && valid t) = false) (w : World) :
    Calls Tryz.prog 50 #[.string ⟨s.toArray⟩, .string ⟨t.toArray⟩] w fun e w' => e = .returned (.int .i64 0) ∧ Below w.heap.size w w' := by
  have H := Lib.hid (And.intro hs (And.intro ht h))
  clear hs ht h
  go_enter Tryz.func50, Tryz.ntmps50
  go_wp2_with (go_at_call 79; refine (both_no _ _ H.out.1 H.out.2.1 H.out.2.2 _).mono ?_; rintro e w1 ⟨rfl, b1⟩; have B1 := Lib.hid b1; clear b1)
  go_ret
  exact ⟨rfl, bthen B1.out (two_below _ _ _ _ _ _)⟩
theorem cmp_any (s t : List UInt8) (hs : s.length ≤ 9223372036854775807) (ht : t.length ≤ 9223372036854775807) (w : World) :
    Calls Tryz.prog 50 #[.string ⟨s.toArray⟩, .string ⟨t.toArray⟩] w fun e w' => e = .returned (.int .i64 (cmpS s t)) ∧ Below w.heap.size w w' := by
  unfold cmpS
  cases h : (valid s && valid t) with
  | false => exact compare_no s t hs ht h w
  | true =>
    rw [Bool.and_eq_true] at h
    cases hx : decide (toZ s < 0) <;> cases hy : decide (toZ t < 0)
    · exact compare_false_false s t h.1 h.2 hx hy w
    · exact compare_false_true s t h.1 h.2 hx hy w
    · exact compare_true_false s t h.1 h.2 hx hy w
    · exact compare_true_true s t h.1 h.2 hx hy w
end Go.Proofs.YtfdjdmkpcdbmkaaGreatDoor

/-
  integer.go: Gcd.
-/
namespace Go.Proofs.YtfdjdmkpcdbmkaaGreatDoor
open Go.RowKit Go.Shelf Go.Lib

attribute [local go_sem] Oper.semAt_some

set_option maxRecDepth 100000 in
set_option maxHeartbeats 4000000 in
theorem gcd_yes (s t : List UInt8) (hs : valid s = true) (ht : valid t = true) (w : World) (htab : Tab w) :
    Calls Tryz.prog 51 #[.string ⟨s.toArray⟩, .string ⟨t.toArray⟩] w fun e w' => e = .returned (.tuple #[bstr (str (Int.gcd (toZ s) (toZ t) : Int)), .int .i64 0]) ∧ Below w.heap.size w w' := by
  have HVS := Lib.hid hs
  have HVT := Lib.hid ht
  have HT := Lib.hid htab
  have gx := glen (toZ_lt hs)
  have gy := glen (toZ_lt ht)
  have HG := Lib.hid (gcd_lt (toZ_lt hs) (toZ_lt ht))
  clear hs ht htab
  go_enter Tryz.func51, Tryz.ntmps51
  go_wp2_with (go_at_call 79; refine (both_yes _ _ HVS.out HVT.out _).mono ?_; rintro e w1 ⟨vx, vy, rfl, sx, sy, b1⟩; obtain ⟨dx, rfl, rx⟩ := sx; obtain ⟨dy, rfl, ry⟩ := sy; obtain ⟨Ax, cx, ex⟩ := rx.shape; obtain ⟨Ay, cy, ey⟩ := ry.shape; subst ex; subst ey; have B1 := Lib.hid b1; have RX := Lib.hid rx; have RY := Lib.hid ry; clear b1 rx ry)
  obtain ⟨q0, q1, qb⟩ := boxed2_two w1 100 (.bool (decide (toZ s < 0))) (.slice Ax (groups (toZ s).natAbs).length cx) (.bool (decide (toZ t < 0))) (.slice Ay (groups (toZ t).natAbs).length cy)
  generalize hx : (toZ s).natAbs = x at *
  generalize hy : (toZ t).natAbs = y at *
  have HE : Hid (Int.gcd (toZ s) (toZ t) = Nat.gcd x y) := Lib.hid (by unfold Int.gcd; rw [hx, hy])
  clear hx hy
  generalize ((w1.alloc (.cells #[.bool (decide (toZ s < 0)), .slice Ax (groups x).length cx] 100)).alloc (.cells #[.bool (decide (toZ t < 0)), .slice Ay (groups y).length cy] 100)) = W0 at *
  have P1 := Lib.hid (RX.out.below qb)
  have P2 := Lib.hid (RY.out.below qb)
  have c00 := q0.cell0
  have c01 := q0.cell1
  have c10 := q1.cell0
  have c11 := q1.cell1
  have QB := Lib.hid (bthen B1.out qb)
  clear q0 q1 qb
  go_quiet (fail)
  have D1 := Lib.hid (P1.out.drewN nq)
  have D2 := Lib.hid (P2.out.drewN nq)
  have DB := Lib.hid (bthen QB.out (below_drewN (Below.refl _ W0) nq))
  clear c00 c01 c10 c11 P1 P2 QB RX RY B1
  generalize W0.drewN nq = W1 at *
  go_wp2
  go_loopg [9, 10] y (fun g k l wr => ∃ (a b : Nat) (A1 A2 : Option Addr) (c1 c2 : Nat), k = .slice A1 (groups a).length c1 ∧ l = .slice A2 (groups b).length c2 ∧ Hid (Row wr (.slice A1 (groups a).length c1) (groups a)) ∧ Hid (Row wr (.slice A2 (groups b).length c2) (groups b)) ∧
    (groups a).length ≤ 50 ∧ (groups b).length ≤ 50 ∧ Hid (Nat.gcd a b = Nat.gcd x y) ∧ Hid (g = b) ∧ Hid (Below w.heap.size w wr))
  case atStart => exact ⟨x, y, _, _, _, _, rfl, rfl, D1, D2, gx, gy, Lib.hid rfl, Lib.hid rfl, DB⟩
  case round =>
    obtain ⟨a, b, A1, A2, c1, c2, rfl, rfl, ra, rb, la, lb, HGC, HGB, hbw⟩ := hrel
    by_cases hb : b = 0
    · have hb0 : (groups b).length = 0 := by rw [hb, groups_zero]; rfl
      have HA : Hid (a = Int.gcd (toZ s) (toZ t)) := Lib.hid (by rw [HE.out, ← HGC.out, hb, Nat.gcd_zero_right])
      generalize hlb : (groups b).length = lb' at *
      subst hb0
      clear hb hlb
      go_wp2_with (go_at_call 82; refine (text_any _ a _ _ (by exact ⟨_, rfl, ra.out⟩) (by omega) (by exact HT.out.on hbw.out)).mono ?_; rintro e w3 ⟨rfl, b3⟩; have B3 := Lib.hid (bthen hbw.out b3); clear b3)
      go_ret2
      refine ⟨?_, B3.out⟩
      have h := HA.out
      have h2 := HG.out
      rw [textOut_eq, outS_ok (by rw [natAbs_sgn, h]; exact h2), h]
      rfl
    · have hb0 : 0 < (groups b).length := by
        rcases Nat.eq_zero_or_pos (groups b).length with h | h
        · exact absurd (groups_eq_nil.1 (List.length_eq_zero_iff.1 h)) hb
        · exact h
      have HB0 := Lib.hid hb
      clear hb
      go_wp2_with (go_at_call 81; refine (over_any _ _ a b _ (by exact ra.out) (by exact rb.out) (by omega) (by have := HB0.out; omega) (by omega)).mono ?_; rintro e w3 ⟨vq, vr, rfl, rq, rr, b3⟩; obtain ⟨A3, c3, e3⟩ := rr.shape; subst e3; have RR := Lib.hid rr; have RB := Lib.hid (rb.out.below b3); have B3 := Lib.hid (bthen hbw.out b3); clear rq rr b3)
      go_roundg (a % b)
      case rel =>
        have hm : a % b < b := Nat.mod_lt _ (by have := HB0.out; omega)
        exact ⟨b, a % b, _, _, _, _, rfl, rfl, RB, RR, lb, Nat.le_trans (groups_length_mono (Nat.le_of_lt hm)) lb, Lib.hid (by rw [← HGC.out, Nat.gcd_comm a b, Nat.gcd_rec b a, Nat.gcd_comm]), Lib.hid rfl, B3⟩
      case measure =>
        have := HGB.out
        rw [this]
        exact Nat.mod_lt _ (by have := HB0.out; omega)

set_option maxRecDepth 100000 in
set_option maxHeartbeats 4000000 in
theorem gcd_no (s t : List UInt8) (hs : s.length ≤ 9223372036854775807) (ht : t.length ≤ 9223372036854775807) (h : (valid s && valid t) = false) (w : World) :
    Calls Tryz.prog 51 #[.string ⟨s.toArray⟩, .string ⟨t.toArray⟩] w fun e w' => e = .returned (.tuple #[bstr [], .int .i64 30]) ∧ Below w.heap.size w w' := by
  have H := Lib.hid (And.intro hs (And.intro ht h))
  clear hs ht h
  go_enter Tryz.func51, Tryz.ntmps51
  go_wp2_with (go_at_call 79; refine (both_no _ _ H.out.1 H.out.2.1 H.out.2.2 _).mono ?_; rintro e w1 ⟨rfl, b1⟩; have B1 := Lib.hid b1; clear b1)
  go_ret2
  exact ⟨rfl, bthen B1.out (two_below _ _ _ _ _ _)⟩
theorem gcd_any (s t : List UInt8) (hs : s.length ≤ 9223372036854775807) (ht : t.length ≤ 9223372036854775807) (w : World) (htab : Tab w) :
    Calls Tryz.prog 51 #[.string ⟨s.toArray⟩, .string ⟨t.toArray⟩] w fun e w' => e = .returned (.tuple #[bstr (gcdS s t).1, .int .i64 (gcdS s t).2]) ∧ Below w.heap.size w w' := by
  unfold gcdS
  cases h : (valid s && valid t) with
  | false => exact gcd_no s t hs ht h w
  | true =>
    rw [Bool.and_eq_true] at h
    exact gcd_yes s t h.1 h.2 w htab
end Go.Proofs.YtfdjdmkpcdbmkaaGreatDoor
