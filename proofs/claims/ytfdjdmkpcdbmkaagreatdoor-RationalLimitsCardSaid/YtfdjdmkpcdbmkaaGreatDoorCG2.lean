/-
  integer.go: 'at', the closures, 'fold', 'trimmed'.
-/
import Derived.Test.YtfdjdmkpcdbmkaaGreatDoorProg
import Derived.Test.YtfdjdmkpcdbmkaaGreatDoorCG1
import Derived.Deep.LoopGhost
import Derived.Deep.RegionWith
import Derived.WalkLawsBesides
import Derived.WalkSpells
import Derived.RangeFuncNested
import Derived.Shelf.Abstract
import Derived.RangeFuncBox
import Derived.RangeFuncLeaves
import Derived.RangeFuncBound
import Derived.RangeFuncCalls
import Derived.OwnWalkIn
import Derived.TacticsInMore
import Derived.LoopNIn
import Derived.LoopIn
set_option linter.unusedVariables false
set_option linter.unusedSimpArgs false
namespace Go.Proofs.YtfdjdmkpcdbmkaaGreatDoor
open Go.RowKit Go.Lib

set_option maxHeartbeats 400000 in
theorem at_any (v : Value) (xs : List Int) (i : Int) (w : World) (h : Row w v xs) (h0 : 0 ≤ i) :
    Calls Tryz.prog 114 #[v, .int .i64 i] w fun e w' => e = .returned (.int .i64 (xs[i.toNat]?.getD 0)) ∧ w' = w := by
  obtain ⟨k, rfl⟩ := Int.eq_ofNat_of_zero_le h0
  rw [Int.toNat_natCast]
  have hlen := h.1
  rcases h.2 with ⟨rfl, rfl⟩ | ⟨b, off, cap, rfl, h1, h2, h3, h4⟩
  · go_enter Tryz.func114, Tryz.ntmps114
    go_wp2
    go_ret
    exact ⟨by simp, rfl⟩
  · by_cases hk : k < xs.length
    · have hc := h4 k hk
      clear h4
      go_enter Tryz.func114, Tryz.ntmps114
      go_wp2
      go_ret
      exact ⟨by simp [hk], rfl⟩
    · have he : xs[k]?.getD 0 = 0 := by rw [List.getElem?_eq_none (by omega)]; rfl
      have HE := Lib.hid he
      clear h4 he
      go_enter Tryz.func114, Tryz.ntmps114
      go_wp2
      go_ret
      exact ⟨by rw [HE.out]; rfl, rfl⟩

/-- WHAT A CLOSURE THAT IS HANDED TO 'fold' GIVES AT A PLACE. -/
def DigitAt (g : Nat) (lb : Array Value) (d : Nat → Int) (w : World) : Prop :=
  ∀ (W : World) (i : Int), Below w.heap.size w W → 0 ≤ i → i ≤ 2000000 → Calls Tryz.prog g (#[.int .i64 i] ++ lb) W fun e w' => e = .returned (.int .i64 (d i.toNat)) ∧ ∃ q, w' = W.drewN q
theorem dig_at {xs : List Int} (h : Dig xs) (k : Nat) : 0 ≤ xs[k]?.getD 0 ∧ xs[k]?.getD 0 < 10000 := by
  cases e : xs[k]? with
  | none => simp
  | some x => exact h x (List.mem_of_getElem? e)

set_option maxHeartbeats 400000 in
theorem plus1_any (b1 b2 : Nat) (v1 v2 : Value) (xs ys : List Int) (i : Int) (w : World) (h1 : Row w v1 xs) (h2 : Row w v2 ys) (hx : Dig xs) (hy : Dig ys) (c1 : w.cell? ⟨b1, 0, none⟩ = some v1) (c2 : w.cell? ⟨b2, 0, none⟩ = some v2) (h0 : 0 ≤ i) :
    Calls Tryz.prog 113 #[.int .i64 i, .pointer (some ⟨b1, 0, none⟩), .pointer (some ⟨b2, 0, none⟩)] w fun e w' => e = .returned (.int .i64 (xs[i.toNat]?.getD 0 + ys[i.toNat]?.getD 0)) ∧ ∃ q, w' = w.drewN q := by
  have g1 := dig_at hx i.toNat
  have g2 := dig_at hy i.toNat
  have k1 : 0 ≤ xs[i.toNat]?.getD 0 + ys[i.toNat]?.getD 0 := by omega
  go_enter Tryz.func113, Tryz.ntmps113
  go_wp2
  go_quiet ((first | (go_at_call_of 114 v1; exact Calls.quiet_of_same (at_any _ xs _ _ (h1.drewN _) h0)) | (go_at_call 114; exact Calls.quiet_of_same (at_any _ ys _ _ (h2.drewN _) h0))))
  go_wp2
  go_ret
  exact ⟨rfl, _, rfl⟩

theorem Tryz.info3 : (Tryz.prog.info? 3).map (fun i => (i.zero, i.size, i.bytes)) = some (some (.int .i64 0), 1, 8) := by kernel_rfl

/-- What 'fold' comes to: a row of digits with the value S. -/
def FoldPost (S : Int) (w : World) (e : Ending) (w' : World) : Prop := ∃ v out, e = .returned v ∧ Row w' v out ∧ Dig out ∧ val out = S ∧ Below w.heap.size w w'

theorem fold_next {w wr w1 : World} {v v' : Value} {out : List Int} {y : Int} {q : Nat} (hown : wr.ownsRow w.heap.size 3 1 v out.length (out.map (Value.int .i64))) (hnx : Below w.heap.size w wr) {o : Obj}
    (hown' : w1.ownsRow w.heap.size 3 1 v' (out.length + 1) (out.map (Value.int .i64) ++ [.int .i64 y])) (hgrow : ((wr.drewN q).alloc o).grownBy w1 v.ownBlock) :
    w1.ownsRow w.heap.size 3 1 v' (out ++ [y]).length ((out ++ [y]).map (Value.int .i64)) ∧ Below w.heap.size w w1 := by
  refine ⟨by simpa using hown', ?_⟩
  refine ((below_drewN hnx q).alloc (hnx.size) o).grown hgrow ?_ (fun k hk => ?_)
  · have := hnx.size; simp; omega
  · exact (hown.lt k hk).1

set_option maxRecDepth 100000 in
set_option maxHeartbeats 2000000 in
theorem fold_any (g : Nat) (lb : Array Value) (d : Nat → Int) (n : Nat) (w : World) (hb : Bounded d n) (hn : n ≤ 1000) (hd : DigitAt g lb d w) (eg : ∀ args w, (callFunc g args).run Tryz.prog w = .ok (.enter g args) w) :
    Calls Tryz.prog 112 #[.int .i64 n, .int .i64 0, .func (.func g) #[] lb] w (FoldPost (sumTo d n) w) := by
  obtain ⟨i0, hi, hz0, hz1, hz2⟩ := info_parts Tryz.info3
  have HB := Lib.hid hb
  have HD := Lib.hid hd
  clear hb hd
  go_enter Tryz.func112, Tryz.ntmps112
  go_wp2_with (at_make; refine wpList_make_own _ rfl _ _ 98 rfl w.heap.size 3 i0 (.int .i64 0) 1 Tryz.underlying98 hi hz0 hz1 _ _ _ (n + 1) rfl rfl (by omega) ?b2 ?b3 (Nat.le_refl _) ?_)
  case b2 => rw [hz2]; omega
  case b3 => unfold maxLen; omega
  intro w0 hown0 hgrow0
  have hb0 : Below w.heap.size w w0 := (Below.refl _ _).grown hgrow0 (Nat.le_refl _) (fun k h => by cases h)
  clear hgrow0
  go_wp2
  go_loopw [1, 7, 8] (fun s1 s7 s8 wr => ∃ (out : List Int) (c : Int), s1 = .int .i64 c ∧ s8 = .int .i64 out.length ∧ wr.ownsRow w.heap.size 3 1 s7 out.length (out.map (Value.int .i64)) ∧ Hid (Carry d n out c) ∧ Below w.heap.size w wr)
    (fun s1 _ s8 _ => carryLeft n (intOf s8).toNat (intOf s1))
  case atStart => exact ⟨[], 0, rfl, rfl, hown0, Lib.hid (Carry.start d n), hb0⟩
  case round =>
    obtain ⟨out, c, rfl, rfl, hown, HC, hnx⟩ := hrel
    have l1 := HC.out.lo
    have l2 := HC.out.hi
    have l3 := HC.out.short
    have l4 := HB.out.lo out.length
    have l5 := HB.out.hi out.length
    have hcall := HD.out wr out.length hnx (by omega) (by omega)
    rw [Int.toNat_natCast] at hcall
    generalize hx : d out.length = x at *
    have HX := Lib.hid hx
    have HCALL := Lib.hid hcall
    clear hx hcall
    by_cases hl : out.length < n
    · -- A place of the numbers
      rcases Int.lt_or_le (x + c) 0 with hs | hs
      · skip
        go_wp2_with fail
        refine HCALL.out.mono ?_
        rintro e w' ⟨rfl, q, rfl⟩
        go_wp2_with (at_builtin; refine wpList_append_own _ rfl (.tmp 37) (.tmp 39) 98 rfl w.heap.size 3 i0 (.int .i64 0) 1 8 Tryz.underlying98 hi hz0 hz1 hz2 rfl (by decide) _ _ _ rfl ((owns_drewN hown q).alloc _) ⟨wr.heap.size, 0, none⟩ 1 1 [.int .i64 (x + c + 10000)] rfl rfl (one_at _ _ _) ?c2 ?c3 ?c4 ?c5 ?_)
        case c2 => intro u hu; simp at hu; subst hu; rfl
        case c3 => unfold maxLen; omega
        case c4 => omega
        case c5 => have := hnx.size; simp; omega
        intro v' w1 hown' hgrow _
        have R := fold_next hown (q := q) hnx hown' hgrow
        clear hown' hgrow hown
        go_wp2
        go_roundw
        case rel => exact ⟨out ++ [x + c + 10000], -1, by go_num, by simp, R.1, Lib.hid (HC.out.step HB.out (x := x + c + 10000) (c' := -1) (by rw [HX.out]; omega) (by omega) (by omega) (by omega)), R.2⟩
        case measure => simp only [intOf]; rw [show ((out.length : Int) + 1).toNat = out.length + 1 by omega, Int.toNat_natCast]; exact HC.out.less HB.out (x := x + c + 10000) (c' := -1) (by rw [HX.out]; omega) (by omega) (by omega) (by omega)
      · rcases Int.lt_or_le (x + c) 10000 with hs2 | hs2
        · skip
          go_wp2_with fail
          refine HCALL.out.mono ?_
          rintro e w' ⟨rfl, q, rfl⟩
          go_wp2_with (at_builtin; refine wpList_append_own _ rfl (.tmp 37) (.tmp 39) 98 rfl w.heap.size 3 i0 (.int .i64 0) 1 8 Tryz.underlying98 hi hz0 hz1 hz2 rfl (by decide) _ _ _ rfl ((owns_drewN hown q).alloc _) ⟨wr.heap.size, 0, none⟩ 1 1 [.int .i64 (x + c)] rfl rfl (one_at _ _ _) ?c2 ?c3 ?c4 ?c5 ?_)
          case c2 => intro u hu; simp at hu; subst hu; rfl
          case c3 => unfold maxLen; omega
          case c4 => omega
          case c5 => have := hnx.size; simp; omega
          intro v' w1 hown' hgrow _
          have R := fold_next hown (q := q) hnx hown' hgrow
          clear hown' hgrow hown
          go_wp2
          go_roundw
          case rel => exact ⟨out ++ [x + c], 0, by go_num, by simp, R.1, Lib.hid (HC.out.step HB.out (x := x + c) (c' := 0) (by rw [HX.out]; omega) (by omega) (by omega) (by omega)), R.2⟩
          case measure => simp only [intOf]; rw [show ((out.length : Int) + 1).toNat = out.length + 1 by omega, Int.toNat_natCast]; exact HC.out.less HB.out (x := x + c) (c' := 0) (by rw [HX.out]; omega) (by omega) (by omega) (by omega)
        · skip
          go_wp2_with fail
          refine HCALL.out.mono ?_
          rintro e w' ⟨rfl, q, rfl⟩
          go_wp2_with (at_builtin; refine wpList_append_own _ rfl (.tmp 37) (.tmp 39) 98 rfl w.heap.size 3 i0 (.int .i64 0) 1 8 Tryz.underlying98 hi hz0 hz1 hz2 rfl (by decide) _ _ _ rfl ((owns_drewN hown q).alloc _) ⟨wr.heap.size, 0, none⟩ 1 1 [.int .i64 ((x + c) % 10000)] rfl rfl (one_at _ _ _) ?c2 ?c3 ?c4 ?c5 ?_)
          case c2 => intro u hu; simp at hu; subst hu; rfl
          case c3 => unfold maxLen; omega
          case c4 => omega
          case c5 => have := hnx.size; simp; omega
          intro v' w1 hown' hgrow _
          have R := fold_next hown (q := q) hnx hown' hgrow
          clear hown' hgrow hown
          go_wp2
          go_roundw
          case rel => exact ⟨out ++ [(x + c) % 10000], (x + c) / 10000, by go_num, by simp, R.1, Lib.hid (HC.out.step HB.out (x := (x + c) % 10000) (c' := (x + c) / 10000) (by rw [HX.out]; omega) (by omega) (by omega) (by omega)), R.2⟩
          case measure => simp only [intOf]; rw [show ((out.length : Int) + 1).toNat = out.length + 1 by omega, Int.toNat_natCast]; exact HC.out.less HB.out (x := (x + c) % 10000) (c' := (x + c) / 10000) (by rw [HX.out]; omega) (by omega) (by omega) (by omega)
    have hge : n ≤ out.length := by omega
    have hpos := HC.out.pos HB.out hge
    by_cases hc0 : c = 0
    · -- The end
      subst hc0
      go_wp2
      go_ret
      exact ⟨_, out, rfl, Row.of_owns hown (by omega), HC.out.dig, HC.out.done HB.out (by omega), hnx⟩
    · -- A carry beyond them
      have hc1 : (c != 0) = true := by simpa using hc0
      have hz := HB.out.zero out.length hge
      rw [HX.out] at hz
      subst hz
      have hc2 : 0 < c := by omega
      rcases Int.lt_or_le c 10000 with hs2 | hs2
      · skip
        go_wp2_with fail
        refine HCALL.out.mono ?_
        rintro e w' ⟨rfl, q, rfl⟩
        go_wp2_with (at_builtin; refine wpList_append_own _ rfl (.tmp 37) (.tmp 39) 98 rfl w.heap.size 3 i0 (.int .i64 0) 1 8 Tryz.underlying98 hi hz0 hz1 hz2 rfl (by decide) _ _ _ rfl ((owns_drewN hown q).alloc _) ⟨wr.heap.size, 0, none⟩ 1 1 [.int .i64 (c)] rfl rfl (one_at _ _ _) ?c2 ?c3 ?c4 ?c5 ?_)
        case c2 => intro u hu; simp at hu; subst hu; rfl
        case c3 => unfold maxLen; omega
        case c4 => omega
        case c5 => have := hnx.size; simp; omega
        intro v' w1 hown' hgrow _
        have R := fold_next hown (q := q) hnx hown' hgrow
        clear hown' hgrow hown
        go_wp2
        go_roundw
        case rel => exact ⟨out ++ [c], 0, by go_num, by simp, R.1, Lib.hid (HC.out.step HB.out (x := c) (c' := 0) (by rw [HX.out]; omega) (by omega) (by omega) (by omega)), R.2⟩
        case measure => simp only [intOf]; rw [show ((out.length : Int) + 1).toNat = out.length + 1 by omega, Int.toNat_natCast]; exact HC.out.less HB.out (x := c) (c' := 0) (by rw [HX.out]; omega) (by omega) (by omega) (by omega)
      · skip
        go_wp2_with fail
        refine HCALL.out.mono ?_
        rintro e w' ⟨rfl, q, rfl⟩
        go_wp2_with (at_builtin; refine wpList_append_own _ rfl (.tmp 37) (.tmp 39) 98 rfl w.heap.size 3 i0 (.int .i64 0) 1 8 Tryz.underlying98 hi hz0 hz1 hz2 rfl (by decide) _ _ _ rfl ((owns_drewN hown q).alloc _) ⟨wr.heap.size, 0, none⟩ 1 1 [.int .i64 (c % 10000)] rfl rfl (one_at _ _ _) ?c2 ?c3 ?c4 ?c5 ?_)
        case c2 => intro u hu; simp at hu; subst hu; rfl
        case c3 => unfold maxLen; omega
        case c4 => omega
        case c5 => have := hnx.size; simp; omega
        intro v' w1 hown' hgrow _
        have R := fold_next hown (q := q) hnx hown' hgrow
        clear hown' hgrow hown
        go_wp2
        go_roundw
        case rel => exact ⟨out ++ [c % 10000], c / 10000, by go_num, by simp, R.1, Lib.hid (HC.out.step HB.out (x := c % 10000) (c' := c / 10000) (by rw [HX.out]; omega) (by omega) (by omega) (by omega)), R.2⟩
        case measure => simp only [intOf]; rw [show ((out.length : Int) + 1).toNat = out.length + 1 by omega, Int.toNat_natCast]; exact HC.out.less HB.out (x := c % 10000) (c' := c / 10000) (by rw [HX.out]; omega) (by omega) (by omega) (by omega)
end Go.Proofs.YtfdjdmkpcdbmkaaGreatDoor

/-
  integer.go: 'trimmed'.
-/
namespace Go.Proofs.YtfdjdmkpcdbmkaaGreatDoor
open Go.RowKit Go.Lib

/-- The number a, as a slice. -/
def NumPost (a : Nat) (w : World) (e : Ending) (w' : World) : Prop := ∃ v, e = .returned v ∧ Row w' v (groups a) ∧ Below w.heap.size w w'

/-- .. behind 'trimmed': in the very memory of what came in; nothing is made. -/
def TrimPost (v : Value) (a : Nat) (w : World) (e : Ending) (w' : World) : Prop := ∃ v', e = .returned v' ∧ Row w v' (groups a) ∧ w' = w ∧ ∀ b off l c, v' = .slice (some ⟨b, off, none⟩) l c → ∃ l' c', v = .slice (some ⟨b, off, none⟩) l' c'
theorem take_snoc' (xs : List Int) (k : Nat) (h : k < xs.length) : xs.take (k + 1) = xs.take k ++ [xs[k]?.getD 0] := by
  rw [List.take_succ_eq_append_getElem h, List.getElem?_eq_getElem h]; rfl

set_option maxRecDepth 100000 in
set_option maxHeartbeats 1000000 in
theorem trimmed_at (v : Value) (xs : List Int) (w : World) (h : Row w v xs) (hd : Dig xs) :
    Calls Tryz.prog 107 #[v] w (TrimPost v (val xs).toNat w) := by
  have hlen := h.1
  rcases h.2 with ⟨rfl, rfl⟩ | ⟨b, off, cap, rfl, h1, h2, h3, h4⟩
  · go_enter Tryz.func107, Tryz.ntmps107
    go_wp2
    go_loop [0] (fun s0 => s0 = .slice none 0 0) (fun _ => 0)
    case atStart => rfl
    case round =>
      subst hrel
      go_wp2
      go_ret
      exact ⟨_, rfl, by show Row w (.slice none 0 0) (groups (val []).toNat); rw [show (val []).toNat = 0 from rfl, groups_zero]; exact Row.nil w, rfl, fun _ _ _ _ e => by cases e⟩
  · have HD := Lib.hid hd
    have H4 := Lib.hid h4
    have HH := Lib.hid h
    clear hd h4 h
    go_enter Tryz.func107, Tryz.ntmps107
    go_wp2
    go_loop [0] (fun s0 => ∃ k : Nat, k ≤ xs.length ∧ s0 = .slice (some ⟨b, off, none⟩) k cap ∧ Hid (trim (xs.take k) = trim xs)) (fun s0 => match s0 with | .slice _ k _ => k | _ => 0)
    case atStart => exact ⟨xs.length, Nat.le_refl _, rfl, Lib.hid (by rw [List.take_length])⟩
    case round =>
      obtain ⟨k, hk, rfl, HT⟩ := hrel
      cases k with
      | zero =>
        go_wp2
        go_ret
        refine ⟨_, rfl, ?_, rfl, fun _ _ _ _ e => ⟨_, _, by injection e with e1; rw [e1]⟩⟩
        have e : groups (val xs).toNat = xs.take 0 := by rw [← trim_groups HD.out, ← HT.out]; rfl
        rw [e]
        exact HH.out.take (Nat.zero_le _)
      | succ k =>
        have hc := H4.out k (by omega)
        by_cases hz : xs[k]?.getD 0 = 0
        · have hz1 : (xs[k]?.getD 0 == 0) = true := by simpa using hz
          have hs := take_snoc' xs k (by omega)
          have HS : Hid (trim (xs.take k) = trim xs) := Lib.hid (by rw [← HT.out, hs, hz, trim_snoc_zero])
          clear hs hz
          go_wp2
          go_round
          case rel => exact ⟨k, by omega, rfl, HS⟩
          case measure => simp
        · have hz1 : (xs[k]?.getD 0 == 0) = false := by simpa using hz
          have hs := take_snoc' xs k (by omega)
          have e : groups (val xs).toNat = xs.take (k + 1) := by rw [← trim_groups HD.out, ← HT.out, hs, trim_snoc hz]
          have HE := Lib.hid e
          clear hs hz e
          go_wp2
          go_ret
          refine ⟨_, rfl, ?_, rfl, fun _ _ _ _ e => ⟨_, _, by injection e with e1; rw [e1]⟩⟩
          rw [HE.out]
          exact HH.out.take hk
theorem trimmed_any (v : Value) (xs : List Int) (w : World) (h : Row w v xs) (hd : Dig xs) :
    Calls Tryz.prog 107 #[v] w (NumPost (val xs).toNat w) :=
  (trimmed_at v xs w h hd).mono fun _ _ ⟨v', he, hr, hw, _⟩ => by subst hw; exact ⟨v', he, hr, Below.refl _ _⟩
end Go.Proofs.YtfdjdmkpcdbmkaaGreatDoor

/-
  integer.go: 'plus', 'minus', 'by' of numbers.
-/
namespace Go.Proofs.YtfdjdmkpcdbmkaaGreatDoor
open Go.RowKit Go.Lib

theorem below_two {w w1 : World} {o p : Obj} (h : Below ((w.alloc o).alloc p).heap.size ((w.alloc o).alloc p) w1) : Below w.heap.size w w1 :=
  (((Below.refl w.heap.size w).alloc (Nat.le_refl _) o).alloc (by simp) p).trans (h.mono (by simp; omega))
theorem below_then {B : Nat} {w w1 w2 : World} (h : Below B w w1) (hB : B ≤ w.heap.size) (k : Below w1.heap.size w1 w2) : Below B w w2 := h.trans (k.mono (Nat.le_trans hB h.size))
theorem cell_fst (w : World) (v : Value) (t : TypeId) (o : Obj) : ((w.alloc (.cells #[v] t)).alloc o).cell? ⟨w.heap.size, 0, none⟩ = some v := by
  simp
theorem cell_snd (w : World) (v : Value) (t : TypeId) (o : Obj) : ((w.alloc o).alloc (.cells #[v] t)).cell? ⟨w.heap.size + 1, 0, none⟩ = some v := by
  simp

def digitsSum (a b : Nat) (j : Nat) : Int := (groups a)[j]?.getD 0 + (groups b)[j]?.getD 0
theorem bounded_sum (a b n : Nat) (ha : (groups a).length ≤ n) (hb : (groups b).length ≤ n) : Bounded (digitsSum a b) n ∧ sumTo (digitsSum a b) n = ((a + b : Nat) : Int) := by
  have e : sumTo (digitsSum a b) n = ((a + b : Nat) : Int) := by
    unfold digitsSum
    rw [sumTo_add]
    have h1 := sumTo_list (groups a) n ha
    have h2 := sumTo_list (groups b) n hb
    simp only [List.getD_eq_getElem?_getD] at h1 h2
    rw [h1, h2, val_groups, val_groups]; omega
  have d1 := fun j => dig_at (dig_groups a) j
  have d2 := fun j => dig_at (dig_groups b) j
  refine ⟨⟨fun j => ?_, fun j => ?_, fun j hj => ?_, by rw [e]; omega⟩, e⟩
  · have := d1 j; have := d2 j; unfold digitsSum; omega
  · have := d1 j; have := d2 j; unfold digitsSum; omega
  · unfold digitsSum; rw [List.getElem?_eq_none (by omega), List.getElem?_eq_none (by omega)]; rfl
/-- 'fold', then 'trimmed'. -/
theorem num_of_fold {S : Nat} {w w1 w2 : World} {e : Ending} {out : List Int} (hv : val out = (S : Int)) (hb : Below w.heap.size w w1) (h : NumPost (val out).toNat w1 e w2) : NumPost S w e w2 := by
  obtain ⟨v, he, hr, hb2⟩ := h
  rw [hv, Int.toNat_natCast] at hr
  exact ⟨v, he, hr, below_then hb (Nat.le_refl _) hb2⟩

set_option maxHeartbeats 400000 in
theorem minus1_any (b1 b2 : Nat) (v1 v2 : Value) (xs ys : List Int) (i : Int) (w : World) (h1 : Row w v1 xs) (h2 : Row w v2 ys) (hx : Dig xs) (hy : Dig ys) (c1 : w.cell? ⟨b1, 0, none⟩ = some v1) (c2 : w.cell? ⟨b2, 0, none⟩ = some v2) (h0 : 0 ≤ i) :
    Calls Tryz.prog 115 #[.int .i64 i, .pointer (some ⟨b1, 0, none⟩), .pointer (some ⟨b2, 0, none⟩)] w fun e w' => e = .returned (.int .i64 (xs[i.toNat]?.getD 0 - ys[i.toNat]?.getD 0)) ∧ ∃ q, w' = w.drewN q := by
  have g1 := dig_at hx i.toNat
  have g2 := dig_at hy i.toNat
  go_enter Tryz.func115, Tryz.ntmps115
  go_wp2
  go_quiet ((first | (go_at_call_of 114 v1; exact Calls.quiet_of_same (at_any _ xs _ _ (h1.drewN _) h0)) | (go_at_call 114; exact Calls.quiet_of_same (at_any _ ys _ _ (h2.drewN _) h0))))
  go_wp2
  go_ret
  exact ⟨rfl, _, rfl⟩

set_option maxHeartbeats 400000 in
theorem by1_any (b1 b2 : Nat) (v1 : Value) (n : Int) (xs : List Int) (i : Int) (w : World) (h1 : Row w v1 xs) (hx : Dig xs) (hn : 0 ≤ n) (hn2 : n ≤ 10000) (c1 : w.cell? ⟨b1, 0, none⟩ = some v1) (c2 : w.cell? ⟨b2, 0, none⟩ = some (.int .i64 n)) (h0 : 0 ≤ i) :
    Calls Tryz.prog 138 #[.int .i64 i, .pointer (some ⟨b1, 0, none⟩), .pointer (some ⟨b2, 0, none⟩)] w fun e w' => e = .returned (.int .i64 (xs[i.toNat]?.getD 0 * n)) ∧ ∃ q, w' = w.drewN q := by
  have g1 := dig_at hx i.toNat
  have g2 : 0 ≤ xs[i.toNat]?.getD 0 * n := Int.mul_nonneg g1.1 hn
  have g3 : xs[i.toNat]?.getD 0 * n ≤ 10000 * 10000 := Int.mul_le_mul (by omega) hn2 hn (by omega)
  go_enter Tryz.func138, Tryz.ntmps138
  go_wp2
  go_quiet ((go_at_call 114; exact Calls.quiet_of_same (at_any _ xs _ _ (h1.drewN _) h0)))
  go_wp2
  go_ret
  exact ⟨rfl, _, rfl⟩

def digitsDiff (a b : Nat) (j : Nat) : Int := (groups a)[j]?.getD 0 - (groups b)[j]?.getD 0
theorem bounded_diff (a b n : Nat) (ha : (groups a).length ≤ n) (hab : b ≤ a) : Bounded (digitsDiff a b) n ∧ sumTo (digitsDiff a b) n = ((a - b : Nat) : Int) := by
  have hb := Nat.le_trans (groups_length_mono hab) ha
  have e : sumTo (digitsDiff a b) n = ((a - b : Nat) : Int) := by
    unfold digitsDiff
    rw [sumTo_sub]
    have h1 := sumTo_list (groups a) n ha
    have h2 := sumTo_list (groups b) n hb
    simp only [List.getD_eq_getElem?_getD] at h1 h2
    rw [h1, h2, val_groups, val_groups]; omega
  have d1 := fun j => dig_at (dig_groups a) j
  have d2 := fun j => dig_at (dig_groups b) j
  refine ⟨⟨fun j => ?_, fun j => ?_, fun j hj => ?_, by rw [e]; omega⟩, e⟩
  · have := d1 j; have := d2 j; unfold digitsDiff; omega
  · have := d1 j; have := d2 j; unfold digitsDiff; omega
  · unfold digitsDiff; rw [List.getElem?_eq_none (by omega), List.getElem?_eq_none (by omega)]; rfl
def digitsBy (a : Nat) (m : Int) (j : Nat) : Int := (groups a)[j]?.getD 0 * m
theorem bounded_by (a n : Nat) (m : Int) (hm : 0 ≤ m) (hm2 : m ≤ 10000) (ha : (groups a).length ≤ n) : Bounded (digitsBy a m) n ∧ sumTo (digitsBy a m) n = ((a * m.toNat : Nat) : Int) := by
  have e : sumTo (digitsBy a m) n = ((a * m.toNat : Nat) : Int) := by
    unfold digitsBy
    rw [sumTo_mul]
    have h1 := sumTo_list (groups a) n ha
    simp only [List.getD_eq_getElem?_getD] at h1
    rw [h1, val_groups, Int.natCast_mul, Int.toNat_of_nonneg hm]
  have d1 := fun j => dig_at (dig_groups a) j
  refine ⟨⟨fun j => ?_, fun j => ?_, fun j hj => ?_, by rw [e]; omega⟩, e⟩
  · have := d1 j; have := Int.mul_nonneg (d1 j).1 hm; unfold digitsBy; omega
  · have : (groups a)[j]?.getD 0 * m ≤ 10000 * 10000 := Int.mul_le_mul (by have := d1 j; omega) hm2 hm (by omega)
    unfold digitsBy; omega
  · unfold digitsBy; rw [List.getElem?_eq_none (by omega)]; simp

set_option maxRecDepth 100000 in
set_option maxHeartbeats 1000000 in
theorem plus_any (v1 v2 : Value) (a b : Nat) (w : World) (h1 : Row w v1 (groups a)) (h2 : Row w v2 (groups b)) (la : (groups a).length ≤ 500) (lb : (groups b).length ≤ 500) :
    Calls Tryz.prog 86 #[v1, v2] w (NumPost (a + b) w) := by
  have hd : ∀ (o p : Value → Obj), DigitAt 113 #[.pointer (some ⟨w.heap.size, 0, none⟩), .pointer (some ⟨w.heap.size + 1, 0, none⟩)] (digitsSum a b) ((w.alloc (.cells #[v1] 98)).alloc (.cells #[v2] 98)) := by
    intro _ _ W i hW h0 _
    have hw : Below w.heap.size w W := below_two hW
    have c1 := (hW.cell (p := ⟨w.heap.size, 0, none⟩) (by simp; omega)).trans (cell_fst w v1 _ _)
    have c2 := (hW.cell (p := ⟨w.heap.size + 1, 0, none⟩) (by simp)).trans (cell_snd w v2 _ _)
    exact plus1_any _ _ v1 v2 (groups a) (groups b) i W (h1.below hw) (h2.below hw) (dig_groups a) (dig_groups b) c1 c2 h0
  have HD := Lib.hid (hd (fun _ => .cells #[] 0) (fun _ => .cells #[] 0))
  clear hd
  have hmf : ∀ (fn : Fn) (first cap : Array Value) (w : World), (Instr.makeFunc fn first cap).run Tryz.prog w = .ok (.func fn first cap) w := fun _ _ _ _ => rfl
  obtain ⟨A1, c1, rfl⟩ : ∃ A c, v1 = .slice A (groups a).length c := by
    rcases h1.2 with ⟨e, e2⟩ | ⟨b, off, cap, e, _⟩
    · exact ⟨none, 0, by rw [e2]; exact e⟩
    · exact ⟨_, cap, e⟩
  obtain ⟨A2, c2, rfl⟩ : ∃ A c, v2 = .slice A (groups b).length c := by
    rcases h2.2 with ⟨e, e2⟩ | ⟨b, off, cap, e, _⟩
    · exact ⟨none, 0, by rw [e2]; exact e⟩
    · exact ⟨_, cap, e⟩
  have H1 := Lib.hid h1
  have H2 := Lib.hid h2
  clear h1 h2
  go_enter Tryz.func86, Tryz.ntmps86
  go_wp2_with fail
  all_goals
    refine (fold_any _ _ (digitsSum a b) _ _ (bounded_sum a b _ (by omega) (by omega)).1 (by omega) HD.out (enters_of Tryz.func113 (by kernel_rfl) rfl)).mono ?_
    rintro e w1 ⟨v, out, rfl, hr, hdig, hv, hb⟩
    rw [(bounded_sum a b _ (by omega) (by omega)).2] at hv
    have HV := Lib.hid hv
    clear hv
    go_wp2_with fail
    refine (trimmed_any v out _ hr hdig).mono ?_
    rintro e w2 hp
    have hp' := num_of_fold HV.out (below_two hb) hp
    obtain ⟨v', rfl, hr', hb'⟩ := hp'
    clear hp hr hdig
    go_wp2
    go_ret
    exact ⟨v', rfl, hr', hb'⟩
set_option maxRecDepth 100000 in
set_option maxHeartbeats 1000000 in
theorem minus_any (v1 v2 : Value) (a b : Nat) (w : World) (h1 : Row w v1 (groups a)) (h2 : Row w v2 (groups b)) (la : (groups a).length ≤ 500) (hab : b ≤ a) :
    Calls Tryz.prog 88 #[v1, v2] w (NumPost (a - b) w) := by
  have lb := groups_length_mono hab
  have hd : ∀ (o p : Value → Obj), DigitAt 115 #[.pointer (some ⟨w.heap.size, 0, none⟩), .pointer (some ⟨w.heap.size + 1, 0, none⟩)] (digitsDiff a b) ((w.alloc (.cells #[v1] 98)).alloc (.cells #[v2] 98)) := by
    intro _ _ W i hW h0 _
    have hw : Below w.heap.size w W := below_two hW
    have c1 := (hW.cell (p := ⟨w.heap.size, 0, none⟩) (by simp; omega)).trans (cell_fst w v1 _ _)
    have c2 := (hW.cell (p := ⟨w.heap.size + 1, 0, none⟩) (by simp)).trans (cell_snd w v2 _ _)
    exact minus1_any _ _ v1 v2 (groups a) (groups b) i W (h1.below hw) (h2.below hw) (dig_groups a) (dig_groups b) c1 c2 h0
  have HD := Lib.hid (hd (fun _ => .cells #[] 0) (fun _ => .cells #[] 0))
  clear hd
  have hmf : ∀ (fn : Fn) (first cap : Array Value) (w : World), (Instr.makeFunc fn first cap).run Tryz.prog w = .ok (.func fn first cap) w := fun _ _ _ _ => rfl
  obtain ⟨A1, c1, rfl⟩ : ∃ A c, v1 = .slice A (groups a).length c := by
    rcases h1.2 with ⟨e, e2⟩ | ⟨b, off, cap, e, _⟩
    · exact ⟨none, 0, by rw [e2]; exact e⟩
    · exact ⟨_, cap, e⟩
  obtain ⟨A2, c2, rfl⟩ : ∃ A c, v2 = .slice A (groups b).length c := by
    rcases h2.2 with ⟨e, e2⟩ | ⟨b, off, cap, e, _⟩
    · exact ⟨none, 0, by rw [e2]; exact e⟩
    · exact ⟨_, cap, e⟩
  have H1 := Lib.hid h1
  have H2 := Lib.hid h2
  clear h1 h2
  go_enter Tryz.func88, Tryz.ntmps88
  go_wp2_with fail
  all_goals
    refine (fold_any _ _ (digitsDiff a b) _ _ (bounded_diff a b _ (by omega) hab).1 (by omega) HD.out (enters_of Tryz.func115 (by kernel_rfl) rfl)).mono ?_
    rintro e w1 ⟨v, out, rfl, hr, hdig, hv, hb⟩
    rw [(bounded_diff a b _ (by omega) hab).2] at hv
    have HV := Lib.hid hv
    clear hv
    go_wp2_with fail
    refine (trimmed_any v out _ hr hdig).mono ?_
    rintro e w2 hp
    have hp' := num_of_fold HV.out (below_two hb) hp
    obtain ⟨v', rfl, hr', hb'⟩ := hp'
    clear hp hr hdig
    go_wp2
    go_ret
    exact ⟨v', rfl, hr', hb'⟩
set_option maxRecDepth 100000 in
set_option maxHeartbeats 1000000 in
theorem by_any (v1 : Value) (a : Nat) (m : Int) (w : World) (h1 : Row w v1 (groups a)) (hm : 0 ≤ m) (hm2 : m ≤ 10000) (la : (groups a).length ≤ 500) :
    Calls Tryz.prog 108 #[v1, .int .i64 m] w (NumPost (a * m.toNat) w) := by
  have hd : ∀ (o p : Value → Obj), DigitAt 138 #[.pointer (some ⟨w.heap.size, 0, none⟩), .pointer (some ⟨w.heap.size + 1, 0, none⟩)] (digitsBy a m) ((w.alloc (.cells #[v1] 98)).alloc (.cells #[.int .i64 m] 3)) := by
    intro _ _ W i hW h0 _
    have hw : Below w.heap.size w W := below_two hW
    have c1 := (hW.cell (p := ⟨w.heap.size, 0, none⟩) (by simp; omega)).trans (cell_fst w v1 _ _)
    have c2 := (hW.cell (p := ⟨w.heap.size + 1, 0, none⟩) (by simp)).trans (cell_snd w (.int .i64 m) _ _)
    exact by1_any _ _ v1 m (groups a) i W (h1.below hw) (dig_groups a) hm hm2 c1 c2 h0
  have HD := Lib.hid (hd (fun _ => .cells #[] 0) (fun _ => .cells #[] 0))
  clear hd
  have hmf : ∀ (fn : Fn) (first cap : Array Value) (w : World), (Instr.makeFunc fn first cap).run Tryz.prog w = .ok (.func fn first cap) w := fun _ _ _ _ => rfl
  obtain ⟨A1, c1, rfl⟩ : ∃ A c, v1 = .slice A (groups a).length c := by
    rcases h1.2 with ⟨e, e2⟩ | ⟨b, off, cap, e, _⟩
    · exact ⟨none, 0, by rw [e2]; exact e⟩
    · exact ⟨_, cap, e⟩
  have H1 := Lib.hid h1
  clear h1
  go_enter Tryz.func108, Tryz.ntmps108
  go_wp2_with fail
  all_goals
    refine (fold_any _ _ (digitsBy a m) _ _ (bounded_by a _ m hm hm2 (by omega)).1 (by omega) HD.out (enters_of Tryz.func138 (by kernel_rfl) rfl)).mono ?_
    rintro e w1 ⟨v, out, rfl, hr, hdig, hv, hb⟩
    rw [(bounded_by a _ m hm hm2 (by omega)).2] at hv
    have HV := Lib.hid hv
    clear hv
    go_wp2_with fail
    refine (trimmed_any v out _ hr hdig).mono ?_
    rintro e w2 hp
    have hp' := num_of_fold HV.out (below_two hb) hp
    obtain ⟨v', rfl, hr', hb'⟩ := hp'
    clear hp hr hdig
    go_wp2
    go_ret
    exact ⟨v', rfl, hr', hb'⟩
end Go.Proofs.YtfdjdmkpcdbmkaaGreatDoor

/-
  slices.Backward over a number: its contract as an iterator: the places from the last one down, each with its group.
  (After the kit's worked text on slices.Values and slices.All.)
-/
namespace Go.Proofs.YtfdjdmkpcdbmkaaGreatDoor
open Go.RowKit Go.Shelf

attribute [local go_sem] Oper.semAt_some

/-- The j-th that comes. -/
def dn (xs : List Int) (j : Nat) : Nat × Int := (xs.length - 1 - j, xs[xs.length - 1 - j]?.getD 0)
theorem down_eq (xs : List Int) : (List.range xs.length).map (dn xs) = down xs := by unfold down dn; simp only [List.getD_eq_getElem?_getD]

/-- WHAT A ROUND KEEPS: all below n₀, and the iterator's own box. -/
def KB (n₀ Bs : Nat) (W W' : World) : Prop := Below n₀ W W' ∧ W'.cell? ⟨Bs, 0, none⟩ = W.cell? ⟨Bs, 0, none⟩
theorem KB.refl (n₀ Bs : Nat) (W : World) : KB n₀ Bs W W := ⟨Below.refl _ _, rfl⟩
theorem KB.trans {n₀ Bs : Nat} {A B C : World} (h : KB n₀ Bs A B) (k : KB n₀ Bs B C) : KB n₀ Bs A C := ⟨h.1.trans k.1, k.2.trans h.2⟩
theorem KB.of_below {n₀ Bs B : Nat} {W W' : World} (h : Below B W W') (h1 : n₀ ≤ B) (h2 : Bs < B) : KB n₀ Bs W W' := ⟨h.mono h1, h.cell (p := ⟨Bs, 0, none⟩) h2⟩
theorem KB.put {n₀ Bs : Nat} {w : World} (hn : n₀ ≤ w.heap.size) (hBs : Bs < w.heap.size) (W : World) (l : Nat) (o o' : Obj) (hl : w.heap.size ≤ l) (h : W.heap[l]? = some o) (h1 : o.isCells = false) (h2 : o.isWalk = false) : KB n₀ Bs W (W.putObj l o') := by
  have hb := belowK_b (n₀ := w.heap.size) (w := w) (Nat.le_refl _) W l o o' hl h h1 h2
  exact KB.of_below hb hn hBs

set_option maxRecDepth 100000 in
set_option maxHeartbeats 2000000 in
theorem back1_in (F : Fence) (n : Nat) (hf : F.fn 137) (hro : F.round = none) (hn : 1 ≤ n) (l Bs n₀ b off len cap : Nat) (zs : List Int) (hreach : len ≤ 1000000) (_hlc : len ≤ cap) (hb : b < n₀) (J Jx : List Nat → World → Prop)
    (hY : ∀ pre j W, J pre W → pre.length < len + 1 → YieldAt F (n - 1) Tryz.prog l #[.int .i64 ((len - j : Nat) : Int), .int .i64 (zs[len - j]?.getD 0)] W fun e W' =>
      (e = .returned (.bool true) ∧ J (pre ++ [j]) W' ∧ KB n₀ Bs W W') ∨ (e = .returned (.bool false) ∧ Jx (pre ++ [j]) W'))
    (W : World) (hBs : W.cell? ⟨Bs, 0, none⟩ = some (.slice (some ⟨b, off, none⟩) (len + 1) cap)) (hc : ∀ j, j < len + 1 → W.cell? ⟨b, off + j, none⟩ = some (.int .i64 (zs[j]?.getD 0))) (h0 : J [] W) :
    CallsIn F n Tryz.prog 137 #[.func (.yield l) #[] #[], .pointer (some ⟨Bs, 0, none⟩)] W fun e W' => (∃ v, e = .returned v) ∧
      ((∃ ys, ys = List.range (len + 1) ∧ J ys W') ∨ (∃ pre, (∃ k, k ≤ len + 1 ∧ pre = List.range k) ∧ Jx pre W')) := by
  refine callsIn_of_wp Tryz.func137 rfl hf ?_ hro
  simp only [Tryz.ntmps137, List.size_toArray, List.length_cons, List.length_nil, Nat.reduceAdd, Nat.reduceSub, Array.replicate_succ, Array.replicate_zero, List.push_toArray, List.append_toArray, List.nil_append, List.cons_append]
  have hnm : ∀ m : Nat, m + 1 ≤ len + 1 → (m : Int) ≤ 1000000 := fun m hm => by omega
  gi_wp2
  gi_loopw [3] (fun i wr => ∃ k : Nat, Hid (k ≤ len + 1) ∧ Hid (J (List.range k) wr) ∧ KB n₀ Bs W wr ∧ ((Hid (k = len + 1) ∧ i = .int .i64 (-1)) ∨ ∃ m : Nat, m ≤ len ∧ Hid (m = len - k ∧ k ≤ len) ∧ i = .int .i64 (m : Int)))
    (fun i _ => (intOf i + 1).toNat)
  case atStart => exact ⟨0, Lib.hid (Nat.zero_le _), Lib.hid h0, KB.refl _ _ _, .inr ⟨len, Nat.le_refl _, Lib.hid ⟨by omega, by omega⟩, by go_num⟩⟩
  case round =>
    obtain ⟨k, hk, hJs, hnx, ⟨hk2, rfl⟩ | ⟨m, hm, hmk, rfl⟩⟩ := hrel
    · gi_wp2
      go_end0
      exact ⟨⟨_, rfl⟩, .inl ⟨_, by rw [← hk2.out], hJs.out⟩⟩
    · have hcx : wr.cell? ⟨b, off + m, none⟩ = some (.int .i64 (zs[m]?.getD 0)) := (hnx.1.cell (p := ⟨b, off + m, none⟩) hb).trans (hc m (by omega))
      have hbx : wr.cell? ⟨Bs, 0, none⟩ = some (.slice (some ⟨b, off, none⟩) (len + 1) cap) := hnx.2.trans hBs
      have hYk := hY (List.range k) k wr hJs.out (by rw [List.length_range]; have := hmk.out; omega)
      rw [← hmk.out.1] at hYk
      obtain ⟨fn, tmps, assign, body, hy, hR⟩ := hYk
      clear hY hc
      gi_wp2
      refine hR.mono ?_
      rintro e W3 (⟨rfl, hJ3, hk3⟩ | ⟨rfl, hJx3⟩)
      · have HJ3 := Lib.hid hJ3
        clear hJ3 hy hR
        gi_wp2
        go_roundw
        case rel =>
          refine ⟨k + 1, Lib.hid (by have := hmk.out; omega), Lib.hid (by rw [List.range_succ]; exact HJ3.out), hnx.trans hk3, ?_⟩
          cases m with
          | zero => exact .inl ⟨Lib.hid (by have := hmk.out; omega), by go_num⟩
          | succ m => exact .inr ⟨m, by omega, Lib.hid (by have := hmk.out; omega), by go_num⟩
        case measure => simp [intOf]
      · gi_wp2
        refine bodyPost_ret (results_none rfl _ _ _) rfl ?_
        exact ⟨⟨_, rfl⟩, .inr ⟨_, ⟨k + 1, by have := hmk.out; omega, by rw [List.range_succ]⟩, hJx3⟩⟩

set_option maxRecDepth 100000 in
set_option maxHeartbeats 1000000 in
theorem back1_nil_in (F : Fence) (n : Nat) (hf : F.fn 137) (hro : F.round = none) (l Bs : Nat) (a : Option Addr) (cap : Nat) (J : List Nat → World → Prop) (W : World) (hBs : W.cell? ⟨Bs, 0, none⟩ = some (.slice a 0 cap)) (h0 : J [] W) :
    CallsIn F n Tryz.prog 137 #[.func (.yield l) #[] #[], .pointer (some ⟨Bs, 0, none⟩)] W fun e W' => (∃ v, e = .returned v) ∧ J [] W' := by
  refine callsIn_of_wp Tryz.func137 rfl hf ?_ hro
  simp only [Tryz.ntmps137, List.size_toArray, List.length_cons, List.length_nil, Nat.reduceAdd, Nat.reduceSub, Array.replicate_succ, Array.replicate_zero, List.push_toArray, List.append_toArray, List.nil_append, List.cons_append]
  gi_wp2
  gi_loopw [3] (fun i wr => i = .int .i64 (-1) ∧ J [] wr) (fun _ _ => 0)
  case atStart => exact ⟨rfl, h0⟩
  case round =>
    obtain ⟨rfl, hJs⟩ := hrel
    gi_wp2
    go_end0
    exact ⟨⟨_, rfl⟩, hJs⟩

set_option maxHeartbeats 1000000 in
theorem back_in (F : Fence) (n : Nat) (hf : F.fn 106) (hro : F.round = none) (v : Value) (xs : List Int) (w : World) (h : Row w v xs) :
    CallsIn F n Tryz.prog 106 #[v] w fun e w' => e = .returned (.func (.func 137) #[] #[.pointer (some ⟨w.heap.size, 0, none⟩)]) ∧ w' = w.alloc (.cells #[v] 98) := by
  obtain ⟨A, c, rfl⟩ : ∃ A c, v = .slice A xs.length c := by
    rcases h.2 with ⟨e, e2⟩ | ⟨b, off, cap, e, _⟩
    · exact ⟨none, 0, by rw [e2]; exact e⟩
    · exact ⟨_, cap, e⟩
  clear h
  refine callsIn_of_wp Tryz.func106 rfl hf ?_ hro
  simp only [Tryz.ntmps106, List.size_toArray, List.length_cons, List.length_nil, Nat.reduceAdd, Nat.reduceSub, Array.replicate_succ, Array.replicate_zero, List.push_toArray, List.append_toArray, List.nil_append, List.cons_append]
  gi_wp2
  go_ret
  exact ⟨rfl, rfl⟩

/-- **slices.Backward(l) hands back an iterator over the places from the last one down.** -/
theorem back_stops (F : Fence) (n : Nat) (hf : F.fn 137) (hro : F.round = none) (hn : 1 ≤ n) (Bs n₀ : Nat) (v : Value) (xs : List Int) (w : World) (hBs : Bs < w.heap.size) (hn₀ : n₀ ≤ w.heap.size)
    (hc : w.cell? ⟨Bs, 0, none⟩ = some v) (w0 : World) (hI : Row w0 v xs) (hw0 : w0.heap.size ≤ n₀) (hbw : Below w0.heap.size w0 w) :
    SeqStopsK F n Tryz.prog 137 #[.pointer (some ⟨Bs, 0, none⟩)] (fun j : Nat => #[Value.int .i64 ((xs.length - 1 - j : Nat) : Int), Value.int .i64 (xs[xs.length - 1 - j]?.getD 0)]) (KB n₀ Bs) (fun ys => ys = List.range xs.length) (fun pre => ∃ k, k ≤ xs.length ∧ pre = List.range k) xs.length w := fun l J Jx W hW _ _ hY h0 => by
  have hc' := (hW.cell (p := ⟨Bs, 0, none⟩) hBs).trans hc
  have hlen := hI.1
  rcases hI.2 with ⟨rfl, rfl⟩ | ⟨b, off, cap, rfl, h1, h2, h3, h4⟩
  · exact (back1_nil_in F n hf hro l Bs none 0 J W hc' h0).mono fun e W' ⟨he, hj⟩ => ⟨he, .inl ⟨_, rfl, hj⟩⟩
  · cases hx : xs with
    | nil =>
      subst hx
      exact (back1_nil_in F n hf hro l Bs _ cap J W hc' h0).mono fun e W' ⟨he, hj⟩ => ⟨he, .inl ⟨_, rfl, hj⟩⟩
    | cons x xs' =>
      rw [← hx]
      have hl : xs.length = xs'.length + 1 := by rw [hx]; rfl
      have hcs : ∀ j, j < xs'.length + 1 → W.cell? ⟨b, off + j, none⟩ = some (.int .i64 (xs[j]?.getD 0)) := fun j hj =>
        (hW.cell (p := ⟨b, off + j, none⟩) (by have := hbw.size; show b < _; omega)).trans ((hbw.cell (p := ⟨b, off + j, none⟩) h3).trans (h4 j (by omega)))
      rw [hl] at hc'
      rw [hl]
      refine back1_in F n hf hro hn l Bs n₀ b off xs'.length cap xs (by omega) (by omega) (by omega) J Jx ?_ W hc' hcs h0
      intro pre j W1 hJ hp
      have := hY pre j W1 hJ (by omega)
      dsimp only at this
      rw [hl, Nat.add_sub_cancel] at this
      exact this
end Go.Proofs.YtfdjdmkpcdbmkaaGreatDoor

/-
  integer.go: 'compare' of numbers; cmp.Compare.
-/
namespace Go.Proofs.YtfdjdmkpcdbmkaaGreatDoor
open Go.RowKit Go.Shelf

attribute [local go_sem] Oper.semAt_some

theorem nan_any (x : Int) (w : World) : Calls Tryz.prog 136 #[.int .i64 x] w fun e w' => e = .returned (.bool false) ∧ w = w' := by
  go_enter Tryz.func136, Tryz.ntmps136
  go_wp2
  go_ret
  exact ⟨by simp, rfl⟩
theorem cmpc_any (x y : Int) (w : World) : Calls Tryz.prog 105 #[.int .i64 x, .int .i64 y] w fun e w' => e = .returned (.int .i64 (cmpZ x y)) ∧ w = w' := by
  rcases Int.lt_trichotomy x y with h | h | h
  · rw [cmpZ_lt h]
    go_enter Tryz.func105, Tryz.ntmps105
    go_wp2_with (go_at_call 136; refine (nan_any _ _).mono ?_; rintro e w' ⟨rfl, rfl⟩)
    go_ret
    exact ⟨rfl, rfl⟩
  · subst h
    rw [cmpZ_eq rfl]
    go_enter Tryz.func105, Tryz.ntmps105
    go_wp2_with (go_at_call 136; refine (nan_any _ _).mono ?_; rintro e w' ⟨rfl, rfl⟩)
    go_ret
    exact ⟨rfl, rfl⟩
  · rw [cmpZ_gt h]
    go_enter Tryz.func105, Tryz.ntmps105
    go_wp2_with (go_at_call 136; refine (nan_any _ _).mono ?_; rintro e w' ⟨rfl, rfl⟩)
    go_ret
    exact ⟨rfl, rfl⟩

/-! ### Plain: comparing groups -/
theorem val_lt_of_length {a b : Nat} (h : (groups a).length < (groups b).length) : a < b := by
  have h1 := lt_groups_length a
  have hb : b ≠ 0 := by intro e; subst e; rw [groups_zero] at h; simp at h
  have h2 := groups_length_ge hb
  have h3 : 10000 ^ (groups a).length ≤ 10000 ^ ((groups b).length - 1) := Nat.pow_le_pow_right (by omega) (by omega)
  omega
theorem cmp_length {a b : Nat} (h : (groups a).length ≠ (groups b).length) : cmpZ ((groups a).length : Nat) ((groups b).length : Nat) = cmpZ (a : Int) (b : Int) := by
  rcases Nat.lt_or_gt_of_ne h with h1 | h1
  · rw [cmpZ_lt (by omega), cmpZ_lt (by have := val_lt_of_length h1; omega)]
  · rw [cmpZ_gt (by omega), cmpZ_gt (by have := val_lt_of_length h1; omega)]
/-- The highest place at which two rows of one length part decides. -/
theorem cmp_first : ∀ (xs ys : List Int) (k : Nat), Dig xs → Dig ys → xs.length = ys.length → k < xs.length → (∀ j, k < j → j < xs.length → xs[j]?.getD 0 = ys[j]?.getD 0) → xs[k]?.getD 0 ≠ ys[k]?.getD 0 →
    cmpZ (xs[k]?.getD 0) (ys[k]?.getD 0) = cmpZ (val xs) (val ys)
  | [], _, k, _, _, _, hk, _, _ => by simp at hk
  | _ :: _, [], _, _, _, hl, _, _, _ => by simp at hl
  | x :: xs, y :: ys, k, hx, hy, hl, hk, heq, hne => by
    have hx := dig_cons.1 hx
    have hy := dig_cons.1 hy
    have hl' : xs.length = ys.length := by simpa using hl
    cases k with
    | zero =>
      have : xs = ys := by
        apply List.ext_getElem hl'
        intro i h1 h2
        have := heq (i + 1) (by omega) (by simp; omega)
        simpa [h1, h2] using this
      subst this
      simp only [List.getElem?_cons_zero, Option.getD_some] at hne ⊢
      rw [val, val]
      exact cmpZ_of_sub (by omega)
    | succ k =>
      have ih := cmp_first xs ys k hx.2 hy.2 hl' (by simpa using hk) (fun j h1 h2 => by have := heq (j + 1) (by omega) (by simp; omega); simpa using this) (by simpa using hne)
      simp only [List.getElem?_cons_succ]
      rw [ih, val, val]
      rcases Int.lt_trichotomy (val xs) (val ys) with h | h | h
      · rw [cmpZ_lt h, cmpZ_lt (by omega)]
      · exfalso
        have e := val_inj hx.2 hy.2 hl' h
        rw [e] at hne
        exact hne rfl
      · rw [cmpZ_gt h, cmpZ_gt (by omega)]
theorem cmp_same {xs ys : List Int} (hl : xs.length = ys.length) (h : ∀ j, j < xs.length → xs[j]?.getD 0 = ys[j]?.getD 0) : xs = ys := by
  apply List.ext_getElem hl
  intro i h1 h2
  have := h i h1
  simpa [h1, h2] using this

theorem alike_all {xs ys : List Int} (hl : xs.length = ys.length) (h : ∀ j ∈ List.range xs.length, xs[xs.length - 1 - j]?.getD 0 = ys[xs.length - 1 - j]?.getD 0) : xs = ys :=
  cmp_same hl fun j hj => by
    have := h (xs.length - 1 - j) (List.mem_range.2 (by omega))
    rwa [show xs.length - 1 - (xs.length - 1 - j) = j by omega] at this
theorem alike_then {xs ys : List Int} (hx : Dig xs) (hy : Dig ys) (hl : xs.length = ys.length) {k : Nat} (hk : k < xs.length) (h : ∀ j ∈ List.range k, xs[xs.length - 1 - j]?.getD 0 = ys[xs.length - 1 - j]?.getD 0)
    (hne : xs[xs.length - 1 - k]?.getD 0 ≠ ys[xs.length - 1 - k]?.getD 0) : cmpZ (xs[xs.length - 1 - k]?.getD 0) (ys[xs.length - 1 - k]?.getD 0) = cmpZ (val xs) (val ys) :=
  cmp_first xs ys (xs.length - 1 - k) hx hy hl (by omega) (fun j h1 h2 => by
    have := h (xs.length - 1 - j) (List.mem_range.2 (by omega))
    rwa [show xs.length - 1 - (xs.length - 1 - j) = j by omega] at this) hne

/-! ### compare -/
/-- What the loop knows when 'pre' has come: there the rows are alike. -/
def Alike (xs ys : List Int) (pre : List Nat) : Prop := ∀ j ∈ pre, xs[xs.length - 1 - j]?.getD 0 = ys[xs.length - 1 - j]?.getD 0

set_option maxRecDepth 100000 in
set_option maxHeartbeats 4000000 in
theorem compare_in (v1 v2 : Value) (a b : Nat) (w : World) (h1 : Row w v1 (groups a)) (h2 : Row w v2 (groups b)) :
    CallsIn Fence.wide 9 Tryz.prog 80 #[v1, v2] w fun e w' => e = .returned (.int .i64 (cmpZ a b)) ∧ Below w.heap.size w w' := by
  have hro : Fence.wide.round = none := rfl
  have la := h1.1
  have lb := h2.1
  have H1 := Lib.hid h1
  have H2 := Lib.hid h2
  obtain ⟨A1, c1, e1⟩ : ∃ A c, v1 = .slice A (groups a).length c := by
    rcases h1.2 with ⟨e, e2⟩ | ⟨b, off, cap, e, _⟩
    · exact ⟨none, 0, by rw [e2]; exact e⟩
    · exact ⟨_, cap, e⟩
  obtain ⟨A2, c2, e2⟩ : ∃ A c, v2 = .slice A (groups b).length c := by
    rcases h2.2 with ⟨e, e2⟩ | ⟨b, off, cap, e, _⟩
    · exact ⟨none, 0, by rw [e2]; exact e⟩
    · exact ⟨_, cap, e⟩
  clear h1 h2
  subst e1; subst e2
  refine callsIn_of_wp_marks Tryz.func80 rfl trivial ?_ hro
  simp only [Tryz.ntmps80, List.size_toArray, List.length_cons, List.length_nil, Nat.reduceAdd, Nat.reduceSub, Array.replicate_succ, Array.replicate_zero, List.push_toArray, List.append_toArray, List.nil_append, List.cons_append]
  by_cases hl : (groups a).length = (groups b).length
  · have hne : (((groups a).length : Int) != ((groups b).length : Int)) = false := by rw [bne_eq_false_iff_eq]; omega
    have HL := Lib.hid hl
    have hlb : (groups b).length = (groups a).length := hl.symm
    have HLB := Lib.hid hlb
    clear hl hlb
    have ebox : (w.alloc (.cells #[.slice A2 (groups b).length c2] 98)).heap.size = w.heap.size + 1 := by simp
    have hB2 : Below w.heap.size w ((w.alloc (.cells #[.slice A2 (groups b).length c2] 98)).alloc (.cells #[.int .i64 0] 3)) := ((Below.refl _ w).alloc (Nat.le_refl _) _).alloc (by simp) _
    gi_wp2_with (refine ⟨trivial, ?_⟩; gi_at_call 106; refine (back_in Fence.wide _ trivial hro _ (groups a) _ (H1.out.below hB2)).mono ?_; rintro e w' ⟨rfl, rfl⟩)
    have h1 : 1 ≤ 9 := by omega
    have hs3 : (((w.alloc (.cells #[.slice A2 (groups b).length c2] 98)).alloc (.cells #[.int .i64 0] 3)).alloc (.cells #[.slice A1 (groups a).length c1] 98)).heap.size = w.heap.size + 3 := by simp
    have hB3 : Below w.heap.size w (((w.alloc (.cells #[.slice A2 (groups b).length c2] 98)).alloc (.cells #[.int .i64 0] 3)).alloc (.cells #[.slice A1 (groups a).length c1] 98)) := hB2.alloc (by simp; omega) _
    have b0 := ((Boxed.new w 98 (.slice A2 (groups b).length c2)).alloc (.cells #[.int .i64 0] 3)).alloc (.cells #[.slice A1 (groups a).length c1] 98)
    have b1 := (Boxed.new (w.alloc (.cells #[.slice A2 (groups b).length c2] 98)) 3 (.int .i64 0)).alloc (.cells #[.slice A1 (groups a).length c1] 98)
    have b2 := Boxed.new ((w.alloc (.cells #[.slice A2 (groups b).length c2] 98)).alloc (.cells #[.int .i64 0] 3)) 98 (.slice A1 (groups a).length c1)
    rw [World.size_alloc] at b1
    rw [World.size_alloc, World.size_alloc] at b2
    have hc3 := b2.cell
    have hm3 := b0.cell
    have hr3 := And.intro b1.cell b1.frozen
    clear b0 b1 b2
    generalize (((w.alloc (.cells #[.slice A2 (groups b).length c2] 98)).alloc (.cells #[.int .i64 0] 3)).alloc (.cells #[.slice A1 (groups a).length c1] 98)) = W3 at *
    refine wpIn_rangeFunc_ownG hro h1 (gf := 137) (lb := #[.pointer (some ⟨w.heap.size + 1 + 1, 0, none⟩)]) rfl trivial (enters_of Tryz.func137 (by kernel_rfl) rfl)
      (back_stops Fence.wide (9 - 1) trivial hro (by omega) (w.heap.size + 1 + 1) w.heap.size _ (groups a) W3 (by omega) (by omega) hc3 w H1.out (Nat.le_refl _) hB3) KB.trans (KB.put (by omega) (by omega)) (Below.refl _ _) (fun _ => rfl)
      (fun pre W => (W.cell? ⟨w.heap.size + 1, 0, none⟩ = some (.int .i64 0) ∧ W.frozen? ⟨w.heap.size + 1, 0, none⟩ = false ∧ W.cell? ⟨w.heap.size, 0, none⟩ = some (.slice A2 (groups b).length c2) ∧ Hid (Alike (groups a) (groups b) pre)) ∧ Below w.heap.size w W)
      (fun c pre W => (c = .ret ∧ Hid (∃ ini last, pre = ini ++ [last] ∧ Alike (groups a) (groups b) ini ∧ (groups a)[(groups a).length - 1 - last]?.getD 0 ≠ (groups b)[(groups a).length - 1 - last]?.getD 0 ∧ W.cell? ⟨w.heap.size + 1, 0, none⟩ = some (.int .i64 (cmpZ ((groups a)[(groups a).length - 1 - last]?.getD 0) ((groups b)[(groups a).length - 1 - last]?.getD 0))))) ∧ Below w.heap.size w W)
      ?hI ?hIx ?h0 ?act ?assign ?body ?done ?stop
    case assign =>
      intro l x W K hK
      gi_wp2
      exact hK
    case hI => exact OwnFrom.and (Own.from (fun s A B row hs hg hr => ⟨cell_kept hs.1 hg hr, (frozen_kept hs.1 hg hr).trans hs.2.1, cell_kept hs.2.2.1 hg hr, hs.2.2.2⟩) _) (ownFrom_below (Nat.le_refl _) (by omega))
    case hIx =>
      intro c
      exact OwnFrom.and (Own.from (fun s A B row hs hg hr => ⟨hs.1, by obtain ⟨ini, last, e1, e2, e3, e4⟩ := hs.2.out; exact Lib.hid ⟨ini, last, e1, e2, e3, cell_kept e4 hg hr⟩⟩) _) (ownFrom_below (Nat.le_refl _) (by omega))
    case h0 => exact ⟨⟨hr3.1, hr3.2, hm3, Lib.hid (fun j hj => by cases hj)⟩, hB3⟩
    case body =>
      rintro l pre x W ⟨⟨hc, hf, hm, HA⟩, hB⟩ hlen
      rcases H2.out.2 with ⟨_, e2⟩ | ⟨b', off', cap', e, g1, g2, g3, g4⟩
      · exfalso
        have := HL.out
        rw [e2] at this
        simp at this
        rw [this] at hlen
        simp at hlen
      · injection e with e1 e2' e3
        subst e1; subst e3
        have hpl : (groups a).length - 1 - x < (groups a).length := by omega
        have hcellA : ∀ p, p < (groups a).length → W.cell? ⟨b', off' + p, none⟩ = some (.int .i64 ((groups b)[p]?.getD 0)) := fun p h => (hB.cell (p := ⟨b', off' + p, none⟩) g3).trans (g4 p (by have := HL.out; omega))
        have hcell := hcellA _ hpl
        clear hcellA
        have hplb : (groups a).length - 1 - x < (groups b).length := by have := HL.out; omega
        have HAn : (groups a)[(groups a).length - 1 - x]?.getD 0 = (groups b)[(groups a).length - 1 - x]?.getD 0 → Alike (groups a) (groups b) (pre ++ [x]) := fun e j hj => by
          rcases List.mem_append.1 hj with h | h
          · exact HA.out j h
          · simp at h; subst h; exact e
        have HAN := Lib.hid HAn
        clear HAn g4
        have HN : Hid (∀ p, p = (groups a).length - 1 - x → W.cell? ⟨w.heap.size + 1, 0, none⟩ = some (.int .i64 0)) := Lib.hid (fun _ _ => hc)
        generalize hX : (groups a)[(groups a).length - 1 - x]?.getD 0 = X at *
        obtain ⟨Y, hY⟩ : ∃ Y, (groups b)[(groups a).length - 1 - x]?.getD 0 = Y := ⟨_, rfl⟩
        rw [hY] at hcell HAN
        have HX := Lib.hid hX
        have HY := Lib.hid hY
        clear hX hY
        generalize hp : (groups a).length - 1 - x = p at *
        have HPX := Lib.hid hp
        clear hp
        by_cases hd : X = Y
        · have hd1 : (X != Y) = false := by simpa using hd
          have HD := Lib.hid hd
          clear hd
          gi_wp2
          exact ⟨KeepsFrom.refl _ _, KB.refl _ _ _, ⟨hc, hf, hm, Lib.hid (HAN.out HD.out)⟩, hB⟩
        · have hd1 : (X != Y) = true := by simpa using hd
          have HD := Lib.hid hd
          clear hd
          gi_wp2_with (refine ⟨trivial, ?_⟩; gi_at_call 105; refine (CallsIn.inRound l (callsIn_wide.2 (cmpc_any _ _ _))).mono ?_; rintro e w' ⟨rfl, rfl⟩)
          have hcs := World.cell?_setCell_same' W ⟨w.heap.size + 1, 0, none⟩ (.int .i64 (cmpZ X Y)) (by rw [hc]; rfl)
          exact ⟨(KeepsOthers.setCell _ _ _).from _, ⟨rfl, Lib.hid ⟨pre, x, rfl, HA.out, by have h1 := HX.out; have h2 := HY.out; rw [HPX.out, h1, h2]; exact HD.out, by rw [HPX.out, HX.out, HY.out]; exact hcs⟩⟩, hB.setCell (p := ⟨w.heap.size + 1, 0, none⟩) (by show w.heap.size ≤ w.heap.size + 1; omega) _⟩
    case done =>
      rintro D ys W hD rfl ⟨⟨hc, hf, hm, HA⟩, hB⟩ hK
      have e : groups a = groups b := alike_all HL.out HA.out
      have e0 : cmpZ (a : Int) (b : Int) = 0 := cmpZ_eq (by rw [← val_groups a, ← val_groups b, e])
      have E0 := Lib.hid e0
      clear e e0
      gi_wp2
      have hK' := (KeepsOthers.setCell W ⟨w.heap.size + 1, 0, none⟩ (.int .i64 0)).same D _ hK rfl
      refine ⟨by simp, .inl ⟨_, _, rfl, run_takeDeferred hK', ?_⟩⟩
      have hc5 := cell_kept (World.cell?_setCell_same' W ⟨w.heap.size + 1, 0, none⟩ (.int .i64 0) (by rw [hc]; rfl)) (grownBy_putObj' _ D (.deferred none)) (fun r e => by cases e; exact ⟨_, hK', rfl⟩)
      refine ⟨.int .i64 0, ?_, by rw [E0.out], (hB.setCell (p := ⟨w.heap.size + 1, 0, none⟩) (by show w.heap.size ≤ w.heap.size + 1; omega) _).trans (belowK_b (w := w) (Nat.le_refl _) _ D _ _ (by omega) hK' rfl rfl)⟩
      simp [results, Tryz.f80, go_sem, hc5]
    case stop =>
      rintro D c pre W hD ⟨k, hk, rfl⟩ ⟨⟨rfl, HX⟩, hB⟩ hK
      obtain ⟨ini, last, e1, e2, e3, e4⟩ := HX.out
      obtain ⟨k', rfl⟩ : ∃ k', k = k' + 1 := by
        cases k with
        | zero => simp at e1
        | succ k' => exact ⟨k', rfl⟩
      rw [List.range_succ] at e1
      obtain ⟨rfl, e5⟩ := List.append_inj' e1 rfl
      obtain rfl : k' = last := by simpa using e5
      have ev := alike_then (dig_groups a) (dig_groups b) HL.out (by omega) e2 e3
      rw [val_groups, val_groups] at ev
      rw [ev] at e4
      clear e1 e2 e3 e5 ev HX
      gi_wp2
      refine ⟨by simp, .inl ⟨_, _, rfl, run_takeDeferred hK, ?_⟩⟩
      have hc5 := cell_kept e4 (grownBy_putObj' _ D (.deferred none)) (fun r e => by cases e; exact ⟨_, hK, rfl⟩)
      refine ⟨.int .i64 (cmpZ a b), ?_, rfl, hB.trans (belowK_b (w := w) (Nat.le_refl _) W D _ _ (by omega) hK rfl rfl)⟩
      simp [results, Tryz.f80, go_sem, hc5]
  · have hne : (((groups a).length : Int) != ((groups b).length : Int)) = true := by rw [bne_iff_ne]; omega
    have HC := Lib.hid (cmp_length hl)
    clear hl
    gi_wp2_with (refine ⟨trivial, ?_⟩; gi_at_call 105; refine (callsIn_wide.2 (cmpc_any _ _ _)).mono ?_; rintro e w' ⟨rfl, rfl⟩)
    refine ⟨.int .i64 (cmpZ ((groups a).length : Nat) ((groups b).length : Nat)), ?_, ?_, ?_⟩
    · simp [results, Tryz.f80, go_sem]
    · rw [HC.out]
    · exact ((Below.refl _ w).alloc (Nat.le_refl _) _).alloc (by simp) _
theorem compare_any (v1 v2 : Value) (a b : Nat) (w : World) (h1 : Row w v1 (groups a)) (h2 : Row w v2 (groups b)) :
    Calls Tryz.prog 80 #[v1, v2] w fun e w' => e = .returned (.int .i64 (cmpZ a b)) ∧ Below w.heap.size w w' := callsIn_wide.1 (compare_in v1 v2 a b w h1 h2)
end Go.Proofs.YtfdjdmkpcdbmkaaGreatDoor
