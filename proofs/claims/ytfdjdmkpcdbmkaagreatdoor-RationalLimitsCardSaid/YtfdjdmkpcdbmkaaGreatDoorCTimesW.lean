/-
  integer.go: 'times'.
-/
import Derived.Test.YtfdjdmkpcdbmkaaGreatDoorCG2
import Derived.Shelf.RegionOpen
set_option linter.unusedVariables false
set_option linter.unusedSimpArgs false
namespace Go.Proofs.YtfdjdmkpcdbmkaaGreatDoor
open Go.RowKit Go.Shelf

attribute [local go_sem] Oper.semAt_some

/-! ### Boxes and rows under the loop's book-keeping -/
theorem boxed_below {W W' : World} {n B : Nat} {t : TypeId} {v : Value} (h : Boxed W B t v) (hb : Below n W W') (hn : B < n) : Boxed W' B t v := (hb.block B hn).trans h
theorem boxed_calm {W W' : World} {row : Option Nat} {B : Nat} {t : TypeId} {v : Value} (h : Boxed W B t v) (hg : W.grownBy W' row) (hr : ∀ r, row = some r → ∃ o : Obj, W.heap[r]? = some o ∧ o.isCells = false) : Boxed W' B t v :=
  h.kept hg (fun e => by
    obtain ⟨o, ho, hc⟩ := hr B e.symm
    rw [show W.heap[B]? = _ from h] at ho; cases ho; cases hc)
theorem Row.calm {W W' : World} {row : Option Nat} {v : Value} {xs : List Int} (h : Row W v xs) (hg : W.grownBy W' row) (hr : ∀ r, row = some r → ∃ o : Obj, W.heap[r]? = some o ∧ o.isCells = false) : Row W' v xs := by
  refine ⟨h.1, ?_⟩
  rcases h.2 with h | ⟨b, off, cap, e, h1, h2, h3, h4⟩
  · exact .inl h
  · exact .inr ⟨b, off, cap, e, h1, h2, Nat.lt_of_lt_of_le h3 hg.size, fun j hj => cell_kept (h4 j hj) hg hr⟩
theorem own_boxed_row {β : Type} (B : Nat) (t : TypeId) (f : β → List Int) : Own (fun (s : β) W => ∃ v, Boxed W B t v ∧ Row W v (f s)) := by
  rintro s X Y row ⟨v, hv, hr⟩ hg hrow
  exact ⟨v, boxed_calm hv hg hrow, hr.calm hg hrow⟩
theorem Row.shape {W : World} {v : Value} {xs : List Int} (h : Row W v xs) : ∃ A c, v = .slice A xs.length c := by
  rcases h.2 with ⟨e, e2⟩ | ⟨b, off, cap, e, _⟩
  · exact ⟨none, 0, by rw [e2]; exact e⟩
  · exact ⟨_, cap, e⟩
theorem Row.drew {w : World} {v : Value} {xs : List Int} (h : Row w v xs) : Row w.drew v xs := h.below (Below.refl _ w).drew
theorem KeepsOthers.of_below {W W' : World} (h : Below W.heap.size W W') : KeepsOthers W W' := ⟨h.size, fun k _ hk _ => (h.block k (Array.getElem?_eq_some_iff.1 hk).1).trans hk⟩

theorem Row.set_box {W : World} {v u v' : Value} {xs : List Int} {n : Nat} {t : TypeId} (h : Row W v xs) (hb : Boxed W n t u) (hu : ∀ i, u ≠ .int .i64 i) : Row (W.setCell ⟨n, 0, none⟩ v') v xs := by
  refine ⟨h.1, ?_⟩
  rcases h.2 with h | ⟨b, off, cap, e, h1, h2, h3, h4⟩
  · exact .inl h
  · refine .inr ⟨b, off, cap, e, h1, h2, Nat.lt_of_lt_of_le h3 (KeepsOthers.setCell W _ _).size, fun j hj => ?_⟩
    have hc := h4 j hj
    by_cases hbn : b = n
    · exfalso
      subst hbn
      unfold World.cell? at hc
      rw [show W.heap[b]? = _ from hb] at hc
      simp at hc
      rcases Nat.eq_zero_or_pos (off + j) with h0 | h0
      · rw [h0] at hc
        simp at hc
        exact hu _ hc
      · rw [List.getElem?_eq_none (by simp; omega)] at hc
        cases hc
    · rw [World.cell?_of_block (Below.heap_setCell W ⟨n, 0, none⟩ v' b hbn)]
      exact hc
theorem below_of_drew {w w' : World} (h : Below w.drew.heap.size w.drew w') : Below w.heap.size w w' := ⟨h.os, h.tape, h.output, h.size, h.block⟩
/-- Another box lives on. -/
theorem stored_other {W w2 : World} {n k : Nat} {v' u : Value} {t : TypeId} (h2 : Below W.heap.size W w2) (hb : Boxed W k t u) (hk : k ≠ n) : Boxed (w2.setCell ⟨n, 0, none⟩ v') k t u :=
  (Below.heap_setCell w2 ⟨n, 0, none⟩ v' k hk).trans (boxed_below hb h2 hb.lt)
/-- What a round of 'times' (and of its like) leaves: what was reckoned in new memory is stored into the box. -/
theorem stored_end {w W w2 : World} {m : Nat} {v v' : Value} {xs : List Int} {t : TypeId} (hv : ∀ i, v ≠ .int .i64 i) (hb : Boxed W (w.heap.size + 1) t v) (hlt : w.heap.size + 1 < W.heap.size) (hlt2 : w.heap.size + 1 + 1 < W.heap.size) (hB : Below w.heap.size w W) (h2 : Below W.heap.size W w2) (hr : Row w2 v' xs) :
    KeepsFrom m W (w2.setCell ⟨w.heap.size + 1, 0, none⟩ v') ∧ KB w.heap.size (w.heap.size + 1 + 1) W (w2.setCell ⟨w.heap.size + 1, 0, none⟩ v') ∧ (∃ v, Boxed (w2.setCell ⟨w.heap.size + 1, 0, none⟩ v') (w.heap.size + 1) t v ∧ Row (w2.setCell ⟨w.heap.size + 1, 0, none⟩ v') v xs) ∧
      Below w.heap.size w (w2.setCell ⟨w.heap.size + 1, 0, none⟩ v') := by
  have hb2 := boxed_below hb h2 hlt
  have hs : Below w.heap.size w2 (w2.setCell ⟨w.heap.size + 1, 0, none⟩ v') := (Below.refl _ _).setCell (p := ⟨w.heap.size + 1, 0, none⟩) (by show w.heap.size ≤ w.heap.size + 1; omega) _
  refine ⟨((KeepsOthers.of_below h2).trans (KeepsOthers.setCell _ _ _)).from _, (KB.of_below h2 (by have := hB.size; omega) hlt2).trans ⟨hs, ?_⟩, ⟨v', hb2.set v', hr.set_box hb2 hv⟩, (hB.trans (h2.mono (hB.size))).trans hs⟩
  exact World.cell?_of_block (Below.heap_setCell w2 ⟨w.heap.size + 1, 0, none⟩ v' _ (by show w.heap.size + 1 + 1 ≠ w.heap.size + 1; omega))

/-! ### Plain: how great the product becomes -/
def mulT (a : Nat) (ys : List Int) (pre : List Nat) : Nat := (pre.map (dn ys)).foldl (mulStep a) 0
theorem mulT_snoc (a : Nat) (ys : List Int) (pre : List Nat) (x : Nat) : mulT a ys (pre ++ [x]) = mulT a ys pre * 10000 + a * (ys[ys.length - 1 - x]?.getD 0).toNat := by
  unfold mulT; rw [List.map_append, List.foldl_append]; rfl
theorem mulT_all (a b : Nat) : mulT a (groups b) (List.range (groups b).length) = a * b := by unfold mulT; rw [down_eq, mul_groups]
theorem mulT_le (a : Nat) (ys : List Int) (hy : Dig ys) (pre : List Nat) : mulT a ys pre + a ≤ a * 10000 ^ pre.length := by
  induction hp : pre.length generalizing pre with
  | zero =>
    have : pre = [] := List.length_eq_zero_iff.1 hp
    subst this
    show 0 + a ≤ _
    simp
  | succ k ih =>
    have hne : pre ≠ [] := by intro e; subst e; simp at hp
    obtain ⟨b, x, rfl⟩ : ∃ b x, pre = b ++ [x] := ⟨pre.dropLast, pre.getLast hne, (List.dropLast_concat_getLast hne).symm⟩
    have hb : b.length = k := by simpa using hp
    have := ih b hb
    rw [mulT_snoc, Nat.pow_succ, ← Nat.mul_assoc]
    have hd := dig_at hy (ys.length - 1 - x)
    have h2 : a * (ys[ys.length - 1 - x]?.getD 0).toNat ≤ a * 9999 := Nat.mul_le_mul_left a (by omega)
    omega
theorem mulT_length (a : Nat) (ys : List Int) (hy : Dig ys) (pre : List Nat) : (groups (mulT a ys pre)).length ≤ (groups a).length + pre.length := by
  apply groups_length_le
  have h1 := mulT_le a ys hy pre
  have h2 := lt_groups_length a
  have h3 : (a + 1) * 10000 ^ pre.length ≤ 10000 ^ (groups a).length * 10000 ^ pre.length := Nat.mul_le_mul_right _ h2
  rw [← Nat.pow_add, Nat.add_mul] at h3
  have h4 : 0 < 10000 ^ pre.length := Nat.pow_pos (by omega)
  omega

set_option maxRecDepth 100000 in
set_option maxHeartbeats 4000000 in
theorem times_in (v1 v2 : Value) (a b : Nat) (w : World) (h1 : Row w v1 (groups a)) (h2 : Row w v2 (groups b)) (hab : (groups a).length + (groups b).length ≤ 400) :
    CallsIn Fence.wide 9 Tryz.prog 116 #[v1, v2] w (NumPost (a * b) w) := by
  have hro : Fence.wide.round = none := rfl
  have hmx : Tryz.prog.follows .mixedOrders = true := by kernel_rfl
  obtain ⟨i0, hi, hz0, hz1, hz2⟩ := info_parts Tryz.info3
  have H1 := Lib.hid h1
  have H2 := Lib.hid h2
  obtain ⟨A1, c1, e1⟩ := h1.shape
  obtain ⟨A2, c2, e2⟩ := h2.shape
  clear h1 h2
  subst e1; subst e2
  refine callsIn_of_wp_marks Tryz.func116 rfl trivial ?_ hro
  simp only [Tryz.ntmps116, List.size_toArray, List.length_cons, List.length_nil, Nat.reduceAdd, Nat.reduceSub, Array.replicate_succ, Array.replicate_zero, List.push_toArray, List.append_toArray, List.nil_append, List.cons_append]
  have hB2 : Below w.heap.size w ((w.alloc (.cells #[.slice A1 (groups a).length c1] 98)).alloc (.cells #[.slice none 0 0] 98)) := ((Below.refl _ w).alloc (Nat.le_refl _) _).alloc (by simp) _
  gi_wp2_with (refine ⟨trivial, ?_⟩; gi_at_call 106; refine (back_in Fence.wide _ trivial hro _ (groups b) _ (H2.out.below hB2)).mono ?_; rintro e w' ⟨rfl, rfl⟩)
  have hs3 : (((w.alloc (.cells #[.slice A1 (groups a).length c1] 98)).alloc (.cells #[.slice none 0 0] 98)).alloc (.cells #[.slice A2 (groups b).length c2] 98)).heap.size = w.heap.size + 3 := by simp
  have hB3 := hB2.alloc (by simp; omega) (.cells #[.slice A2 (groups b).length c2] 98)
  have b0 := ((Boxed.new w 98 (.slice A1 (groups a).length c1)).alloc (.cells #[.slice none 0 0] 98)).alloc (.cells #[.slice A2 (groups b).length c2] 98)
  have b1 := (Boxed.new (w.alloc (.cells #[.slice A1 (groups a).length c1] 98)) 98 (.slice none 0 0)).alloc (.cells #[.slice A2 (groups b).length c2] 98)
  have b2 := Boxed.new ((w.alloc (.cells #[.slice A1 (groups a).length c1] 98)).alloc (.cells #[.slice none 0 0] 98)) 98 (.slice A2 (groups b).length c2)
  rw [World.size_alloc] at b1
  rw [World.size_alloc, World.size_alloc] at b2
  have hc3 := b2.cell
  clear b2
  generalize (((w.alloc (.cells #[.slice A1 (groups a).length c1] 98)).alloc (.cells #[.slice none 0 0] 98)).alloc (.cells #[.slice A2 (groups b).length c2] 98)) = W3 at *
  have h1 : 1 ≤ 9 := by omega
  refine wpIn_rangeFunc_ownG hro h1 (gf := 137) (lb := #[.pointer (some ⟨w.heap.size + 1 + 1, 0, none⟩)]) rfl trivial (enters_of Tryz.func137 (by kernel_rfl) rfl)
    (back_stops Fence.wide (9 - 1) trivial hro (by omega) (w.heap.size + 1 + 1) w.heap.size _ (groups b) W3 (by omega) (by omega) hc3 w H2.out (Nat.le_refl _) hB3) KB.trans (KB.put (by omega) (by omega)) (Below.refl _ _) (fun _ => rfl)
    (fun pre W => ((∃ v, Boxed W (w.heap.size + 1) 98 v ∧ Row W v (groups (mulT a (groups b) pre))) ∧ Boxed W w.heap.size 98 (.slice A1 (groups a).length c1) ∧ w.heap.size + 3 ≤ W.heap.size) ∧ Below w.heap.size w W)
    (fun _ _ _ => False)
    ?hI ?hIx ?h0 ?act ?assign ?body ?done ?stop
  case assign =>
    intro l x W K hK
    gi_wp2
    exact hK
  case hI => exact OwnFrom.and (Own.from (fun s A B row hs hg hr => ⟨own_boxed_row _ _ (fun s => groups (mulT a (groups b) s)) s A B row hs.1 hg hr, boxed_calm hs.2.1 hg hr, Nat.le_trans hs.2.2 hg.size⟩) _) (ownFrom_below (Nat.le_refl _) (by omega))
  case hIx => exact fun _ _ _ _ _ hs _ _ => hs
  case h0 => exact ⟨⟨⟨_, b1, by show Row W3 _ (groups 0); rw [groups_zero]; exact Row.nil _⟩, b0, by omega⟩, hB3⟩
  case body =>
    rintro l pre x W ⟨⟨⟨v, hbx, hrow⟩, hl, hs3W⟩, hB⟩ hlen
    have hd := dig_at (dig_groups b) ((groups b).length - 1 - x)
    have hT := mulT_length a (groups b) (dig_groups b) pre
    have hS := mulT_snoc a (groups b) pre x
    generalize (groups b)[(groups b).length - 1 - x]?.getD 0 = d at *
    generalize (groups b).length - 1 - x = p at *
    generalize mulT a (groups b) pre = u at *
    have HS := Lib.hid hS
    clear hS
    obtain ⟨A, c, rfl⟩ := hrow.shape
    have HR := Lib.hid hrow
    have HL : Hid (Row W (.slice A1 (groups a).length c1) (groups a)) := Lib.hid (H1.out.below hB)
    have HBX := Lib.hid hbx
    have HBL := Lib.hid hl
    have hcx := hbx.cell
    have hfx := hbx.frozen
    have hcl := hl.cell
    have hsz := hB3.size
    have hszW := hB.size
    have hlt : w.heap.size + 1 < W.heap.size := hbx.lt
    clear hrow hbx hl
    have hTd : (groups (a * d.toNat)).length ≤ 500 := by
      have h2 := lt_groups_length a
      have h3 : (groups (a * d.toNat)).length ≤ (groups a).length + 1 := groups_length_le (by
        rw [Nat.pow_succ]
        exact Nat.lt_of_le_of_lt (Nat.mul_le_mul_left a (by omega : d.toNat ≤ 10000)) (Nat.mul_lt_mul_of_pos_right h2 (by omega)))
      omega
    by_cases hu : u = 0
    · have hu0 : (groups u).length = 0 := by rw [hu, groups_zero]; rfl
      have HU := Lib.hid hu
      clear hu
      have HE : Hid (∀ xs : List Int, Row W (.slice A (groups u).length c) (groups u) → Row W (.slice A 0 c) (groups u)) := Lib.hid (fun _ h => by rw [hu0] at h; exact h)
      have HR0 := Lib.hid (HE.out [] HR.out)
      generalize hlu : (groups u).length = lu at *
      subst hu0
      gi_wp2
      gi_region_with_o (first
        | (refine ⟨trivial, ?_⟩; gi_at_call 108; refine (CallsIn.inRound l (callsIn_wide.2 (by_any _ a _ _ (by exact HL.out) hd.1 (by omega) (by omega)))).mono ?_; rintro e w1 ⟨v21, rfl, r21, b21⟩; have hcx1 : w1.cell? ⟨w.heap.size + 1, 0, none⟩ = some (.slice A 0 c) := (b21.cell (p := ⟨w.heap.size + 1, 0, none⟩) (by exact hlt)).trans hcx; have hfx1 : w1.frozen? ⟨w.heap.size + 1, 0, none⟩ = false := (b21.frozen (p := ⟨w.heap.size + 1, 0, none⟩) (by exact hlt)).trans hfx; have R21 := Lib.hid r21; have B21 := Lib.hid b21; clear r21 b21)
        | (refine ⟨trivial, ?_⟩; gi_at_call 86; refine (CallsIn.inRound l (callsIn_wide.2 (plus_any _ _ u (a * d.toNat) _ (by exact HR0.out.drew.below B21.out) R21.out (by omega) (by exact hTd)))).mono ?_; rintro e w2 ⟨v22, rfl, r22, b22⟩; have hcx2 : w2.cell? ⟨w.heap.size + 1, 0, none⟩ = some (.slice A 0 c) := (b22.cell (p := ⟨w.heap.size + 1, 0, none⟩) (Nat.lt_of_lt_of_le (by exact hlt) B21.out.size)).trans hcx1; have hfx2 : w2.frozen? ⟨w.heap.size + 1, 0, none⟩ = false := (b22.frozen (p := ⟨w.heap.size + 1, 0, none⟩) (Nat.lt_of_lt_of_le (by exact hlt) B21.out.size)).trans hfx1; obtain ⟨A', c', hv22⟩ := r22.shape; subst hv22; have R22 := Lib.hid r22; have B22 := Lib.hid b22; clear r22 b22))
      all_goals gi_wp2
      all_goals
        have h2 : Below W.heap.size W w2 := below_then (below_of_drew B21.out) (Nat.le_refl _) B22.out
        have hend := stored_end (m := W3.heap.size) (v' := .slice A' _ c') (fun i e => by cases e) HBX.out hlt (by omega) hB h2 R22.out
        have hoth := stored_other (n := w.heap.size + 1) (v' := .slice A' (groups (u + a * d.toNat)).length c') h2 HBL.out (by omega)
        exact ⟨hend.1, hend.2.1, ⟨by rw [HS.out, HU.out, Nat.zero_mul]; rw [HU.out] at hend; exact hend.2.2.1, by rw [HU.out] at hoth ⊢; exact hoth, by have := hend.2.2.2.size; have := h2.size; have := (KeepsOthers.setCell w2 ⟨w.heap.size + 1, 0, none⟩ (.slice A' (groups (u + a * d.toNat)).length c')).size; omega⟩, hend.2.2.2⟩
    · obtain ⟨n0, hn0⟩ : ∃ n0, (groups u).length = n0 + 1 := by
        cases hg : groups u with
        | nil => exact absurd (groups_eq_nil.1 hg) hu
        | cons y ys => exact ⟨ys.length, rfl⟩
      have hsh := groups_shift (n := u) 0 (by omega) (by omega)
      obtain ⟨ad, hA⟩ : ∃ ad, A = some ad := by
        rcases HR.out.2 with ⟨e, _⟩ | ⟨b', off', cap', e, _⟩
        · injection e with e1 e2; omega
        · injection e with e1; exact ⟨_, e1⟩
      subst hA
      have hnews : ∀ j (y : Value), ((groups u).map (Value.int .i64))[j]? = some y → (W.alloc (.cells #[.int .i64 0] 3)).cell? (ad.add j) = some y := by
        intro j y hj
        rcases HR.out.2 with ⟨e, _⟩ | ⟨b', off', cap', e, g1, g2, g3, g4⟩
        · cases e
        · injection e with e1; injection e1 with e1; subst e1
          have hjl : j < (groups u).length := by
            have := (List.getElem?_eq_some_iff.1 hj).1
            simpa using this
          rw [List.getElem?_map, List.getElem?_eq_getElem hjl] at hj
          simp at hj
          subst hj
          have := g4 j hjl
          rw [List.getElem?_eq_getElem hjl] at this
          have hx : (⟨b', off', none⟩ : Addr).add j = ⟨b', off' + j, none⟩ := by unfold Addr.add; simp
          rw [hx]
          exact (((Below.refl W.heap.size W).alloc (Nat.le_refl _) _).cell (p := ⟨b', off' + j, none⟩) g3).trans this
      have HNEWS := Lib.hid hnews
      have HSH := Lib.hid hsh
      have HU := Lib.hid hu
      clear hnews hsh hu
      have HE : Hid (Row W (.slice (some ad) (n0 + 1) c) (groups u) ∧ ((groups u).map (Value.int .i64)).length = (n0 + 1) * 1) := Lib.hid ⟨by rw [← hn0]; exact HR.out, by simp [hn0]⟩
      rw [hn0] at hcx HBX
      have hT2 : n0 + 1 ≤ 400 := by omega
      have HN0 := Lib.hid hn0
      clear hn0 HR
      generalize hlu : (groups u).length = lu at *
      gi_wp2_with (gi_at_builtin; refine wpListIn_append_own _ rfl (.tmp 15) (.tmp 16) 98 rfl W.heap.size 3 i0 (.int .i64 0) 1 8 Tryz.underlying98 hi hz0 hz1 hz2 rfl (by decide) _ 1 [.int .i64 0] rfl ?c0 ad (n0 + 1) c ((groups u).map (Value.int .i64)) rfl HE.out.2 HNEWS.out ?c2 ?c3 ?c4 ?c5 ?_)
      case c0 => exact World.ownsRow_lit W #[.int .i64 0] 1 (Nat.le_refl _) (by unfold maxLen; omega) rfl
      case c2 =>
        intro y hy
        simp only [List.mem_map] at hy
        obtain ⟨z, _, rfl⟩ := hy
        rfl
      case c3 => unfold maxLen; omega
      case c4 => omega
      case c5 => simp
      intro v' w' hown hgrow _
      rw [show 1 + (n0 + 1) = n0 + 1 + 1 by omega] at hown
      obtain ⟨g', cap', rfl⟩ := ownsRow_succ hown
      have hg' := (hown.lt g' rfl).1
      have hBW : Below W.heap.size W w' := ((Below.refl _ W).alloc (Nat.le_refl _) _).grown hgrow (by simp) (fun k hk => by cases hk; exact Nat.le_refl _)
      have hr' : Row w' (.slice (some ⟨g', 0, none⟩) (n0 + 1 + 1) cap') (groups (u * 10000 + 0)) := by
        rw [HSH.out]
        have hl' := HE.out.2
        refine Row.of_owns (base := W.heap.size) (e := 3) (n := n0 + 1 + 1) (by simpa using hown) (by simp at hl' ⊢; omega)
      have hend1 := stored_end (m := W3.heap.size) (v' := .slice (some ⟨g', 0, none⟩) (n0 + 1 + 1) cap') (fun i e => by cases e) HBX.out hlt (by omega) hB hBW hr'
      have hoth1 := stored_other (n := w.heap.size + 1) (v' := .slice (some ⟨g', 0, none⟩) (n0 + 1 + 1) cap') hBW HBL.out (by omega)
      have hbx1 := boxed_below HBX.out hBW hlt
      have hrw1 := hr'.set_box hbx1 (v' := .slice (some ⟨g', 0, none⟩) (n0 + 1 + 1) cap') (fun i e => by cases e)
      have hbxx := hbx1.set (.slice (some ⟨g', 0, none⟩) (n0 + 1 + 1) cap')
      have hlrow : Row (w'.setCell ⟨w.heap.size + 1, 0, none⟩ (.slice (some ⟨g', 0, none⟩) (n0 + 1 + 1) cap')) (.slice A1 (groups a).length c1) (groups a) := (HL.out.below hBW).set_box hbx1 (fun i e => by cases e)
      have hcw := hbx1.cell
      have hfw := hbx1.frozen
      have HEND1 := Lib.hid hend1
      have HOTH1 := Lib.hid hoth1
      have HBXX := Lib.hid hbxx
      have HRX := Lib.hid hrw1
      have HLX := Lib.hid hlrow
      have hcxx := hbxx.cell
      have hfxx := hbxx.frozen
      have hclx := hoth1.cell
      have hltx := hbxx.lt
      have hszx := (KeepsOthers.setCell w' ⟨w.heap.size + 1, 0, none⟩ (.slice (some ⟨g', 0, none⟩) (n0 + 1 + 1) cap')).size
      have hszx1 := hBW.size
      have hTx : (groups (u * 10000 + 0)).length = n0 + 1 + 1 := by rw [HSH.out]; simp [hlu, HN0.out]
      have HTX : Hid ((groups (u * 10000 + 0)).length ≤ 401) := Lib.hid (by omega)
      clear hend1 hoth1 hbxx hrw1 hlrow hown hgrow hr' hbx1 hTx hBW HNEWS HE
      gi_wp2
      generalize w'.setCell ⟨w.heap.size + 1, 0, none⟩ (.slice (some ⟨g', 0, none⟩) (n0 + 1 + 1) cap') = Wx at *
      gi_region_with_o (first
        | (refine ⟨trivial, ?_⟩; gi_at_call 108; refine (CallsIn.inRound l (callsIn_wide.2 (by_any _ a _ _ (by exact HLX.out) hd.1 (by omega) (by omega)))).mono ?_; rintro e w1 ⟨v21, rfl, r21, b21⟩; have hcx1 : w1.cell? ⟨w.heap.size + 1, 0, none⟩ = some (.slice (some ⟨g', 0, none⟩) (n0 + 1 + 1) cap') := (b21.cell (p := ⟨w.heap.size + 1, 0, none⟩) (by exact hltx)).trans hcxx; have hfx1 : w1.frozen? ⟨w.heap.size + 1, 0, none⟩ = false := (b21.frozen (p := ⟨w.heap.size + 1, 0, none⟩) (by exact hltx)).trans hfxx; have R21 := Lib.hid r21; have B21 := Lib.hid b21; clear r21 b21)
        | (refine ⟨trivial, ?_⟩; gi_at_call 86; refine (CallsIn.inRound l (callsIn_wide.2 (plus_any _ _ (u * 10000 + 0) (a * d.toNat) _ (by exact HRX.out.drew.below B21.out) R21.out (by have := HTX.out; omega) (by exact hTd)))).mono ?_; rintro e w2 ⟨v22, rfl, r22, b22⟩; have hcx2 : w2.cell? ⟨w.heap.size + 1, 0, none⟩ = some (.slice (some ⟨g', 0, none⟩) (n0 + 1 + 1) cap') := (b22.cell (p := ⟨w.heap.size + 1, 0, none⟩) (Nat.lt_of_lt_of_le (by exact hltx) B21.out.size)).trans hcx1; have hfx2 : w2.frozen? ⟨w.heap.size + 1, 0, none⟩ = false := (b22.frozen (p := ⟨w.heap.size + 1, 0, none⟩) (Nat.lt_of_lt_of_le (by exact hltx) B21.out.size)).trans hfx1; obtain ⟨A', c', hv22⟩ := r22.shape; subst hv22; have R22 := Lib.hid r22; have B22 := Lib.hid b22; clear r22 b22))
      all_goals gi_wp2
      all_goals
        have h2 : Below Wx.heap.size Wx w2 := below_then (below_of_drew B21.out) (Nat.le_refl _) B22.out
        have hend := stored_end (m := W3.heap.size) (v' := .slice A' _ c') (fun i e => by cases e) HBXX.out hltx (by omega) HEND1.out.2.2.2 h2 R22.out
        have hoth := stored_other (n := w.heap.size + 1) (v' := .slice A' (groups (u * 10000 + 0 + a * d.toNat)).length c') h2 HOTH1.out (by omega)
        exact ⟨HEND1.out.1.trans hend.1, HEND1.out.2.1.trans hend.2.1, ⟨by rw [HS.out]; exact hend.2.2.1, hoth, Nat.le_trans (by omega : w.heap.size + 3 ≤ Wx.heap.size) (Nat.le_trans h2.size (KeepsOthers.setCell _ _ _).size)⟩, hend.2.2.2⟩
  case done =>
    rintro D ys W hD rfl ⟨⟨⟨v, hbx, hrow⟩, _, _⟩, hB⟩ hK
    rw [mulT_all] at hrow
    have hcx := hbx.cell
    obtain ⟨A, c, rfl⟩ := hrow.shape
    have HR := Lib.hid hrow
    clear hrow
    gi_wp2
    refine ⟨by simp, .inl ⟨_, _, rfl, run_takeDeferred hK, ?_⟩⟩
    refine ⟨.slice A (groups (a * b)).length c, by simp [results, Tryz.f116, go_sem], _, rfl, HR.out.calm (grownBy_putObj' _ D (.deferred none)) (fun r e => by cases e; exact ⟨_, hK, rfl⟩), hB.trans (belowK_b (w := w) (Nat.le_refl _) W D _ _ (by omega) hK rfl rfl)⟩
  case stop =>
    rintro D c pre W _ _ h _
    exact h.elim
theorem times_any (v1 v2 : Value) (a b : Nat) (w : World) (h1 : Row w v1 (groups a)) (h2 : Row w v2 (groups b)) (hab : (groups a).length + (groups b).length ≤ 400) :
    Calls Tryz.prog 116 #[v1, v2] w (NumPost (a * b) w) := callsIn_wide.1 (times_in v1 v2 a b w h1 h2 hab)
end Go.Proofs.YtfdjdmkpcdbmkaaGreatDoor
