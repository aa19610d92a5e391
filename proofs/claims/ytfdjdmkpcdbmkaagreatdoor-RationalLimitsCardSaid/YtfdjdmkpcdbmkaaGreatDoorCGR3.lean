/-
  rational.go: Compare.
-/
import Derived.Test.YtfdjdmkpcdbmkaaGreatDoorCGR2
import Derived.WalkMore
import Derived.ScopeJumps
import Derived.Test.YtfdjdmkpcdbmkaaGreatDoorCGR1
set_option linter.unusedVariables false
set_option linter.unusedSimpArgs false
namespace Go.Proofs.YtfdjdmkpcdbmkaaGreatDoor
open Go.RowKit Go.Lib

/-- The frame of a comparison: its two boxes. -/
structure Fc (w W : World) (a0 a1 b0 b1 : ByteArray) : Prop where
  below : Below w.heap.size w W
  ra : Rt W w.heap.size a0 a1
  rb : Rt W (w.heap.size + 1) b0 b1
theorem Fc.new (w : World) (a0 a1 b0 b1 : ByteArray) : Fc w ((w.alloc (.cells #[.string a0, .string a1] 23)).alloc (.cells #[.string b0, .string b1] 23)) a0 a1 b0 b1 := by
  have al := fun (W : World) (o : Obj) => (Below.refl W.heap.size W).alloc (Nat.le_refl _) o
  have r1 := Rt.new w a0 a1
  have b1' := al w (.cells #[.string a0, .string a1] 23)
  have s1 : (w.alloc (.cells #[.string a0, .string a1] 23)).heap.size = w.heap.size + 1 := by simp
  generalize w.alloc (.cells #[.string a0, .string a1] 23) = W1 at *
  have r2 := Rt.new W1 b0 b1
  have b2' := al W1 (.cells #[.string b0, .string b1] 23)
  rw [s1] at r2
  exact ⟨bthen' b1' b2', r1.below b2', r2⟩
theorem Fc.later {w W W' : World} {a0 a1 b0 b1 : ByteArray} (h : Fc w W a0 a1 b0 b1) (hb : Below W.heap.size W W') : Fc w W' a0 a1 b0 b1 := ⟨bthen' h.below hb, h.ra.below hb, h.rb.below hb⟩

theorem Fc.put {w W : World} {a0 a1 b0 b1 : ByteArray} (h : Fc w W a0 a1 b0 b1) (x y z t : ByteArray) :
    Fc w ((((W.setCell ⟨w.heap.size, 0, none⟩ (.string x)).setCell ⟨w.heap.size, 1, none⟩ (.string y)).setCell ⟨w.heap.size + 1, 0, none⟩ (.string z)).setCell ⟨w.heap.size + 1, 1, none⟩ (.string t)).drew x y z t := by
  have b1 := h.below.setCell (p := ⟨w.heap.size, 0, none⟩) (Nat.le_refl _) (.string x)
  have a1 := h.ra.set0 x
  have n1 : But w.heap.size W (W.setCell ⟨w.heap.size, 0, none⟩ (.string x)) := But.set _ W 0 _
  have r1 := h.rb.but n1 (by omega)
  generalize W.setCell ⟨w.heap.size, 0, none⟩ (.string x) = W1 at *
  have b2 := b1.setCell (p := ⟨w.heap.size, 1, none⟩) (Nat.le_refl _) (.string y)
  have a2 := a1.set1 y
  have n2 : But w.heap.size W1 (W1.setCell ⟨w.heap.size, 1, none⟩ (.string y)) := But.set _ W1 1 _
  have r2 := r1.but n2 (by omega)
  generalize W1.setCell ⟨w.heap.size, 1, none⟩ (.string y) = W2 at *
  have b3 := b2.setCell (p := ⟨w.heap.size + 1, 0, none⟩) (Nat.le_succ _) (.string z)
  have r3 := r2.set0 z
  have n3 : But (w.heap.size + 1) W2 (W2.setCell ⟨w.heap.size + 1, 0, none⟩ (.string z)) := But.set _ W2 0 _
  have a3 := a2.but n3 (by omega)
  generalize W2.setCell ⟨w.heap.size + 1, 0, none⟩ (.string z) = W3 at *
  have b4 := b3.setCell (p := ⟨w.heap.size + 1, 1, none⟩) (Nat.le_succ _) (.string t)
  have r4 := r3.set1 t
  have n4 : But (w.heap.size + 1) W3 (W3.setCell ⟨w.heap.size + 1, 1, none⟩ (.string t)) := But.set _ W3 1 _
  have a4 := a3.but n4 (by omega)
  generalize W3.setCell ⟨w.heap.size + 1, 1, none⟩ (.string t) = W4 at *
  exact ⟨⟨b4.os, b4.tape, b4.output, b4.size, b4.block⟩, a4, r4⟩
/-- An integer's text, as bytes. -/
def S' (z : Int) : ByteArray := lb (str z)

theorem wp_scope_loop {P : Program} {a : Act} {w : World} {Q : Exit → Act → World → Prop} {c rest : Code} (l : Nat) (J : Act → World → Prop) (μ : Act → World → Nat) (hf : findLabel c l = some (Code.seq .skip rest))
    (pass : ∀ a w, J a w → rest.wp P (Exit.jump l (fun a' w' => J a' w' ∧ μ a' w' < μ a w) Q) a w)
    (first : (∀ a w, J a w → rest.wp P (Exit.jump l J Q) a w) → c.wp P (Exit.jump l J Q) a w) : (Code.scope c).wp P Q a w := by
  refine wp_scope_jumps l J μ hf (first fun a w h => ?_) (fun a w h => wp_seq (wp_skip (pass a w h)))
  refine wp_mono (pass a w h) ?_
  intro e a' w' hq
  cases e with
  | goto l' => exact ⟨hq.1, hq.2.1⟩
  | normal => exact hq
  | exit id => exact hq
  | ret => exact hq
  | panic ch => exact hq
  | outgrown => exact hq
/-- Where a comparison stands at its label. -/
structure CmpAt (T n d m c sg : Int) : Prop where
  hn : n.natAbs < lim
  hd : d.natAbs < lim
  hm : m.natAbs < lim
  hc : c.natAbs < lim
  d0 : 0 < d
  c0 : 0 < c
  hs : sg = 1 ∨ sg = -1
  eq : sg * cmpZ (n * c) (m * d) = T
def cellZ (k : Nat) (W : World) : Nat := match W.cell? ⟨k, 1, none⟩ with | some (.string s) => (toZ (bl s)).toNat | _ => 0
theorem Fc.cellZ {w W : World} {n d m c : Int} (h : Fc w W (S' n) (S' d) (S' m) (S' c)) : cellZ w.heap.size W = d.toNat := by
  unfold Go.Proofs.YtfdjdmkpcdbmkaaGreatDoor.cellZ
  rw [h.ra.cell1]
  unfold S'
  dsimp only
  rw [bl_lb, toZ_str]
theorem fitS' {z : Int} (h : z.natAbs < lim) : fit (S' z) := fit_lb (by have := slen h; omega)
theorem blS' (z : Int) : bl (S' z) = str z := bl_lb _
theorem div_call {n d : Int} (hn : n.natAbs < lim) (hd : d.natAbs < lim) (h0 : d ≠ 0) (w : World) (hT : Laid w) :
    Calls Tryz.prog 58 #[.string (S' n), .string (S' d)] w fun e w' => e = .returned (.tuple #[.string (S' (n / d)), .string (S' (n % d)), .int .i64 0]) ∧ Below w.heap.size w w' :=
  integer_Div.calls _ _ _ _ _ w hT (by unfold integer_Div.f; rw [if_pos ⟨fitS' hn, fitS' hd⟩, blS', blS', divS_str hn hd h0]; rfl)
theorem cmp_call {a b : Int} (ha : a.natAbs < lim) (hb : b.natAbs < lim) (w : World) (hT : Laid w) :
    Calls Tryz.prog 50 #[.string (S' a), .string (S' b)] w fun e w' => e = .returned (.int .i64 (cmpZ a b)) ∧ Below w.heap.size w w' :=
  integer_Compare.calls _ _ _ w hT (by unfold integer_Compare.f; rw [if_pos ⟨fitS' ha, fitS' hb⟩, blS', blS', cmpS_str ha hb])
theorem S'0 {z : Int} : (S' z).toList = [48] ↔ z = 0 := by
  rw [ByteArray.toList_eq, show (S' z).data.toList = bl (S' z) from rfl, blS', ← str_zero]
  exact ⟨fun h => str_inj h, fun h => by rw [h]⟩
theorem wrap_sg {sg x : Int} (h : sg = 1 ∨ sg = -1) (k : x = -1 ∨ x = 0 ∨ x = 1) : wrap64 (sg * x) = sg * x := by
  rcases h with rfl | rfl <;> rcases k with rfl | rfl | rfl <;> simp [wrap64]
theorem wrap_neg {sg : Int} (h : sg = 1 ∨ sg = -1) : wrap64 (-sg) = -sg := by
  rcases h with rfl | rfl <;> simp [wrap64]
section
variable {T n d m c sg p q r s : Int}
theorem fact_rest (h : CmpAt T n d m c sg) (k : n / d = p ∧ n % d = r ∧ m / c = q ∧ m % c = s) (e : cmpZ p q = 0) : T = sg * cmpZ (r * c) (s * d) ∧ 0 ≤ r ∧ r < d ∧ 0 ≤ s ∧ s < c := by
  obtain ⟨hp, hr, hq, hs⟩ := k
  rw [cmpZ_iff_eq, ← hp, ← hq] at e
  have hd := h.d0
  have hc := h.c0
  refine ⟨?_, ?_, ?_, ?_, ?_⟩
  · rw [← h.eq, cmp_rest e, hr, hs]
  · rw [← hr]; exact Int.emod_nonneg _ (by omega)
  · rw [← hr]; exact Int.emod_lt_of_pos _ hd
  · rw [← hs]; exact Int.emod_nonneg _ (by omega)
  · rw [← hs]; exact Int.emod_lt_of_pos _ hc
theorem fact1 (h : CmpAt T n d m c sg) (k : n / d = p ∧ n % d = r ∧ m / c = q ∧ m % c = s) (e : ¬ cmpZ p q = 0) : sg * cmpZ p q = T := by
  obtain ⟨hp, hr, hq, hs⟩ := k
  rw [cmpZ_iff_eq, ← hp, ← hq] at e
  rw [← h.eq, cmp_whole h.d0 h.c0 e, hp, hq]
theorem fact2 (h : CmpAt T n d m c sg) (k : n / d = p ∧ n % d = r ∧ m / c = q ∧ m % c = s) (e : cmpZ p q = 0) (hr : r = 0) (hs : s = 0) : T = 0 := by
  rw [(fact_rest h k e).1, hr, hs, cmpZ_eq (by rw [Int.zero_mul, Int.zero_mul]), Int.mul_zero]
theorem fact3 (h : CmpAt T n d m c sg) (k : n / d = p ∧ n % d = r ∧ m / c = q ∧ m % c = s) (e : cmpZ p q = 0) (hr : r = 0) (hs : ¬ s = 0) : T = -sg := by
  obtain ⟨e1, h1, h2, h3, h4⟩ := fact_rest h k e
  have hd := h.d0
  have : 0 < s * d := Int.mul_pos (by omega) hd
  rw [e1, hr, Int.zero_mul, cmpZ_lt this]; omega
theorem fact4 (h : CmpAt T n d m c sg) (k : n / d = p ∧ n % d = r ∧ m / c = q ∧ m % c = s) (e : cmpZ p q = 0) (hr : ¬ r = 0) (hs : s = 0) : T = sg := by
  obtain ⟨e1, h1, h2, h3, h4⟩ := fact_rest h k e
  have hc := h.c0
  have : 0 < r * c := Int.mul_pos (by omega) hc
  rw [e1, hs, Int.zero_mul, cmpZ_gt this]; omega
theorem fact5 (h : CmpAt T n d m c sg) (k : n / d = p ∧ n % d = r ∧ m / c = q ∧ m % c = s) (e : cmpZ p q = 0) (hr : ¬ r = 0) (hs : ¬ s = 0) : CmpAt T d r c s (-sg) ∧ r.toNat < d.toNat := by
  obtain ⟨e1, h1, h2, h3, h4⟩ := fact_rest h k e
  have b1 := h.hd
  have b2 := h.hc
  refine ⟨⟨h.hd, by omega, h.hc, by omega, by omega, by omega, by rcases h.hs with e | e <;> omega, ?_⟩, by omega⟩
  have hu := cmp_upside r d s c
  rw [e1, hu, Int.mul_neg, Int.neg_mul]
end
set_option maxRecDepth 100000 in
set_option maxHeartbeats 1000000 in
theorem compareR_yes (n d m c : Int) (hn : n.natAbs < lim) (hd : d.natAbs < lim) (hm : m.natAbs < lim) (hc : c.natAbs < lim) (hd0 : 0 < d) (hc0 : 0 < c)
    (hv1 : vR (str n) (str d) = true) (hv2 : vR (str m) (str c) = true) (w : World) (hT : Laid w) :
    Calls Tryz.prog 23 #[.agg #[.string (S' n), .string (S' d)], .agg #[.string (S' m), .string (S' c)]] w fun e w' => e = .returned (.int .i64 (cmpZ (n * c) (m * d))) ∧ Below w.heap.size w w' := by
  have V1 := Lib.hid (fun w hT => validR_any (S' n) (S' d) (fit_lb (by have := slen hn; omega)) (fit_lb (by have := slen hd; omega)) w hT)
  have V2 := Lib.hid (fun w hT => validR_any (S' m) (S' c) (fit_lb (by have := slen hm; omega)) (fit_lb (by have := slen hc; omega)) w hT)
  have eS : ∀ z, bl (S' z) = str z := fun z => bl_lb _
  rw [eS, eS, hv1] at V1
  rw [eS, eS, hv2] at V2
  have HT := Lib.hid hT
  have F := Lib.hid (Fc.new w (S' n) (S' d) (S' m) (S' c))
  have HA := Lib.hid (CmpAt.mk (T := cmpZ (n * c) (m * d)) hn hd hm hc hd0 hc0 (.inl rfl) (by rw [Int.one_mul]))
  clear hT hv1 hv2 hn hd hm hc hd0 hc0 eS
  generalize hTT : cmpZ (n * c) (m * d) = T at *
  go_enter Tryz.func23, Tryz.ntmps23
  go_wp2_with fail
  generalize (w.alloc (.cells #[.string (S' n), .string (S' d)] 23)).alloc (.cells #[.string (S' m), .string (S' c)] 23) = W2 at *
  refine wp_scope_loop 0 (fun a' w' => ∃ n' d' m' c' sg : Int, CmpAt T n' d' m' c' sg ∧ Hid (Fc w w' (S' n') (S' d') (S' m') (S' c')) ∧ ∃ u6 u7 u8 u9 u10 u11 u12 u13 u14 u15 u16 u17 u18 u19 u20 u21 u22 u23 u24 u25 u26 u27 u28 u29 u30 u31 u32 u33 u34 u35 u36 u37 u38 u39 u40 u41 u42 u43 u44 u45 u46 u47 u48 u49 u50 u51 u52 u53 u54 u55 u56 u57 u58 u59 u60 u61 u62 u63 u64 u65 u66 u67 u68 u69 u70 u71 u72 u73 : Value, a' = { tmps := List.toArray (Value.agg #[.string (S' n), .string (S' d)] :: Value.agg #[.string (S' m), .string (S' c)] :: Value.pointer (some ⟨w.heap.size, 0, none⟩) :: Value.pointer (some ⟨w.heap.size + 1, 0, none⟩) :: Value.int .i64 0 :: Value.int .i64 sg :: u6 :: u7 :: u8 :: u9 :: u10 :: u11 :: u12 :: u13 :: u14 :: u15 :: u16 :: u17 :: u18 :: u19 :: u20 :: u21 :: u22 :: u23 :: u24 :: u25 :: u26 :: u27 :: u28 :: u29 :: u30 :: u31 :: u32 :: u33 :: u34 :: u35 :: u36 :: u37 :: u38 :: u39 :: u40 :: u41 :: u42 :: u43 :: u44 :: u45 :: u46 :: u47 :: u48 :: u49 :: u50 :: u51 :: u52 :: u53 :: u54 :: u55 :: u56 :: u57 :: u58 :: u59 :: u60 :: u61 :: u62 :: u63 :: u64 :: u65 :: u66 :: u67 :: u68 :: u69 :: u70 :: u71 :: u72 :: u73 :: []), defers := [] })
    (fun _ w' => cellZ w.heap.size w') rfl ?_ ?_
  · rintro a' w' ⟨n', d', m', c', sg, HC, HF, u6, u7, u8, u9, u10, u11, u12, u13, u14, u15, u16, u17, u18, u19, u20, u21, u22, u23, u24, u25, u26, u27, u28, u29, u30, u31, u32, u33, u34, u35, u36, u37, u38, u39, u40, u41, u42, u43, u44, u45, u46, u47, u48, u49, u50, u51, u52, u53, u54, u55, u56, u57, u58, u59, u60, u61, u62, u63, u64, u65, u66, u67, u68, u69, u70, u71, u72, u73, rfl⟩
    have c0 := HF.out.ra.cell0
    have c1 := HF.out.ra.cell1
    have c2 := HF.out.rb.cell0
    have c3 := HF.out.rb.cell1
    have hC := HC
    obtain ⟨hn, hd, hm, hc, hd0, hc0, hsg, heq⟩ := HC
    have HC := Lib.hid hC
    have HZ := Lib.hid HF.out.cellZ
    have DV1 := Lib.hid (div_call hn hd (by omega))
    have DV2 := Lib.hid (div_call hm hc (by omega))
    have hp : (n' / d').natAbs < lim := Nat.lt_of_le_of_lt (Int.natAbs_ediv_le_natAbs _ _) hn
    have hq : (m' / c').natAbs < lim := Nat.lt_of_le_of_lt (Int.natAbs_ediv_le_natAbs _ _) hm
    have CP := Lib.hid (cmp_call hp hq)
    clear hC hn hd hm hc hd0 hc0 heq hp hq
    generalize hp : n' / d' = p at *
    generalize hr : n' % d' = r at *
    generalize hq : m' / c' = q at *
    generalize hs : m' % c' = s at *
    have H4 := Lib.hid (And.intro hp (And.intro hr (And.intro hq hs)))
    clear hp hr hq hs F V1 V2 HA
    go_hide hQ
    go_wp2_with fail
    refine (DV1.out _ (HT.out.on HF.out.below)).mono ?_
    rintro e w1 ⟨rfl, b⟩
    replace HF := Lib.hid (HF.out.later b)
    clear b c0 c1 c2 c3
    have c2 := HF.out.rb.cell0
    have c3 := HF.out.rb.cell1
    go_wp2_with fail
    refine (DV2.out _ (HT.out.on HF.out.below)).mono ?_
    rintro e w3 ⟨rfl, b⟩
    replace HF := Lib.hid (HF.out.later b)
    clear b c2 c3
    go_wp2_with fail
    refine (CP.out _ (HT.out.on HF.out.below)).mono ?_
    rintro e w4 ⟨rfl, b⟩
    replace HF := Lib.hid (HF.out.later b)
    clear b
    have c0 := HF.out.ra.cell0
    have c1 := HF.out.ra.cell1
    have c2 := HF.out.rb.cell0
    have c3 := HF.out.rb.cell1
    have f0 := HF.out.ra.frozen 0
    have f1 := HF.out.ra.frozen 1
    have f2 := HF.out.rb.frozen 0
    have f3 := HF.out.rb.frozen 1
    have l0 := HF.out.ra.lt
    have l1 := HF.out.rb.lt
    clear DV1 DV2 CP
    have hrng := cmpZ_range p q
    go_wp2_with fail
    · have g1 : (cmpZ p q != 0) = true := by assumption
      have e1 : ¬ cmpZ p q = 0 := by simpa using g1
      subst hQ
      try simp only [Exit.jump]
      go_ret
      refine ⟨?_, HF.out.below⟩
      rw [← fact1 HC.out H4.out e1]
      show Ending.returned (Value.int .i64 (wrap64 (sg * cmpZ p q))) = _
      rw [wrap_sg hsg hrng]
    · have g1 : (cmpZ p q != 0) = false := by assumption
      have g2 : (S' r).toList = [48] := by assumption
      have g3 : ((S' s).toList == [48]) = true := by assumption
      have e1 : cmpZ p q = 0 := by simpa using g1
      have e3 : s = 0 := S'0.1 (by simpa using g3)
      subst hQ
      try simp only [Exit.jump]
      go_ret
      refine ⟨?_, HF.out.below⟩
      rw [fact2 HC.out H4.out e1 (S'0.1 g2) e3]
      rfl
    · have g1 : (cmpZ p q != 0) = false := by assumption
      have g2 : (S' r).toList = [48] := by assumption
      have g3 : ((S' s).toList == [48]) = false := by assumption
      have e1 : cmpZ p q = 0 := by simpa using g1
      have e3 : ¬ s = 0 := fun h => by rw [S'0.2 h] at g3; simp at g3
      subst hQ
      try simp only [Exit.jump]
      go_ret
      refine ⟨?_, HF.out.below⟩
      rw [fact3 HC.out H4.out e1 (S'0.1 g2) e3]
      first | (show Ending.returned (Value.int .i64 (wrap64 (-sg))) = _; rw [wrap_neg hsg]) | (show Ending.returned (Value.int .i64 (-sg)) = _; rfl) | trace_state
    · have g2 : ¬ (S' r).toList = [48] := by assumption
      have g3 : ((S' r).toList == [48]) = true := by assumption
      exact absurd (by simpa using g3) g2
    · have g1 : (cmpZ p q != 0) = false := by assumption
      have g2 : ¬ (S' r).toList = [48] := by assumption
      have g4 : ((S' s).toList == [48]) = true := by assumption
      have e1 : cmpZ p q = 0 := by simpa using g1
      have e3 : s = 0 := S'0.1 (by simpa using g4)
      subst hQ
      try simp only [Exit.jump]
      go_ret
      refine ⟨?_, HF.out.below⟩
      rw [fact4 HC.out H4.out e1 (fun h => g2 (S'0.2 h)) e3]
      rfl
    · have g1 : (cmpZ p q != 0) = false := by assumption
      have g2 : ¬ (S' r).toList = [48] := by assumption
      have g4 : ((S' s).toList == [48]) = false := by assumption
      have e1 : cmpZ p q = 0 := by simpa using g1
      have e3 : ¬ s = 0 := fun h => by rw [S'0.2 h] at g4; simp at g4
      have HN := Lib.hid (fact5 HC.out H4.out e1 (fun h => g2 (S'0.2 h)) e3)
      clear g1 g2 g4 e1 e3
      have hmx : Tryz.prog.follows .mixedOrders = true := by kernel_rfl
      subst hQ
      go_region
      have HP := Lib.hid (HF.out.put (S' d') (S' r) (S' c') (S' s))
      go_wp2_with fail
      go_step3
      refine ⟨rfl, ⟨d', r, c', s, -sg, HN.out.1, HP, ?_⟩, ?_⟩
      · first | exact ⟨_, _, _, _, _, _, _, _, _, _, _, _, _, _, _, _, _, _, _, _, _, _, _, _, _, _, _, _, _, _, _, _, _, _, _, _, _, _, _, _, _, _, _, _, _, _, _, _, _, _, _, _, _, _, _, _, _, _, _, _, _, _, _, _, _, _, _, _, rfl⟩ | (rw [wrap_neg hsg]; exact ⟨_, _, _, _, _, _, _, _, _, _, _, _, _, _, _, _, _, _, _, _, _, _, _, _, _, _, _, _, _, _, _, _, _, _, _, _, _, _, _, _, _, _, _, _, _, _, _, _, _, _, _, _, _, _, _, _, _, _, _, _, _, _, _, _, _, _, _, _, rfl⟩) | trace_state
      · rw [HP.out.cellZ, HZ.out]
        exact HN.out.2
  · intro hp
    have c0 := F.out.ra.cell0
    have c1 := F.out.ra.cell1
    have c2 := F.out.rb.cell0
    have c3 := F.out.rb.cell1
    go_wp2_with fail
    refine (V1.out _ (HT.out.on F.out.below)).mono ?_
    rintro e w1 ⟨rfl, b⟩
    replace F := Lib.hid (F.out.later b)
    clear b c0 c1 c2 c3
    have c0 := F.out.ra.cell0
    have c1 := F.out.ra.cell1
    have c2 := F.out.rb.cell0
    have c3 := F.out.rb.cell1
    go_wp2_with fail
    refine (V2.out _ (HT.out.on F.out.below)).mono ?_
    rintro e w3 ⟨rfl, b⟩
    replace F := Lib.hid (F.out.later b)
    clear b c0 c1 c2 c3
    go_wp2_with fail
    go_step3
    rename_i K hK
    refine hK _ _ (hp _ _ ?_)
    exact ⟨n, d, m, c, 1, HA.out, F, _, _, _, _, _, _, _, _, _, _, _, _, _, _, _, _, _, _, _, _, _, _, _, _, _, _, _, _, _, _, _, _, _, _, _, _, _, _, _, _, _, _, _, _, _, _, _, _, _, _, _, _, _, _, _, _, _, _, _, _, _, _, _, _, _, _, _, _, rfl⟩
end Go.Proofs.YtfdjdmkpcdbmkaaGreatDoor

/-
  rational.go: Compare, of any two fractions.
-/
namespace Go.Proofs.YtfdjdmkpcdbmkaaGreatDoor
open Go.RowKit Go.Lib

set_option maxRecDepth 100000 in
set_option maxHeartbeats 1000000 in
theorem compareR_no (a0 a1 b0 b1 : ByteArray) (h0 : fit a0) (h1 : fit a1) (h2 : fit b0) (h3 : fit b1) (hv : (vR (bl a0) (bl a1) && vR (bl b0) (bl b1)) = false) (w : World) (hT : Laid w) :
    Calls Tryz.prog 23 #[.agg #[.string a0, .string a1], .agg #[.string b0, .string b1]] w fun e w' => e = .returned (.int .i64 0) ∧ Below w.heap.size w w' := by
  have V1 := Lib.hid (fun w hT => validR_any a0 a1 h0 h1 w hT)
  have V2 := Lib.hid (fun w hT => validR_any b0 b1 h2 h3 w hT)
  have HT := Lib.hid hT
  have F := Lib.hid (Fc.new w a0 a1 b0 b1)
  generalize vR (bl a0) (bl a1) = v1 at *
  generalize vR (bl b0) (bl b1) = v2 at *
  clear hT h0 h1 h2 h3
  cases v1 with
  | false =>
    clear hv
    go_enter Tryz.func23, Tryz.ntmps23
    go_wp2_with fail
    generalize (w.alloc (.cells #[.string a0, .string a1] 23)).alloc (.cells #[.string b0, .string b1] 23) = W2 at *
    go_step3
    have c0 := F.out.ra.cell0
    have c1 := F.out.ra.cell1
    go_wp2_with fail
    refine (V1.out _ (HT.out.on F.out.below)).mono ?_
    rintro e w1 ⟨rfl, b⟩
    replace F := Lib.hid (F.out.later b)
    clear b c0 c1
    go_wp2_with fail
    try rw [Exit.noGoto_ret]
    go_ret
    exact ⟨rfl, F.out.below⟩
  | true =>
    cases v2 with
    | true => cases hv
    | false =>
      clear hv
      go_enter Tryz.func23, Tryz.ntmps23
      go_wp2_with fail
      generalize (w.alloc (.cells #[.string a0, .string a1] 23)).alloc (.cells #[.string b0, .string b1] 23) = W2 at *
      go_step3
      have c0 := F.out.ra.cell0
      have c1 := F.out.ra.cell1
      go_wp2_with fail
      refine (V1.out _ (HT.out.on F.out.below)).mono ?_
      rintro e w1 ⟨rfl, b⟩
      replace F := Lib.hid (F.out.later b)
      clear b c0 c1
      have c2 := F.out.rb.cell0
      have c3 := F.out.rb.cell1
      go_wp2_with fail
      refine (V2.out _ (HT.out.on F.out.below)).mono ?_
      rintro e w3 ⟨rfl, b⟩
      replace F := Lib.hid (F.out.later b)
      clear b c2 c3
      go_wp2_with fail
      try rw [Exit.noGoto_ret]
      go_ret
      exact ⟨rfl, F.out.below⟩
theorem compareR_any (a0 a1 b0 b1 : ByteArray) (h0 : fit a0) (h1 : fit a1) (h2 : fit b0) (h3 : fit b1) (w : World) (hT : Laid w) :
    Calls Tryz.prog 23 #[.agg #[.string a0, .string a1], .agg #[.string b0, .string b1]] w fun e w' => e = .returned (.int .i64 (cmpQ (bl a0, bl a1) (bl b0, bl b1))) ∧ Below w.heap.size w w' := by
  unfold cmpQ
  cases hv : (ratValid (bl a0, bl a1) && ratValid (bl b0, bl b1)) with
  | false =>
    rw [if_neg (by simp)]
    exact compareR_no a0 a1 b0 b1 h0 h1 h2 h3 (by rw [vR_eq, vR_eq]; exact hv) w hT
  | true =>
    rw [if_pos rfl]
    rw [Bool.and_eq_true] at hv
    obtain ⟨p, ep, hp⟩ := rat_of hv.1
    obtain ⟨q, eq, hq⟩ := rat_of hv.2
    have e := fun {a : ByteArray} {z : Int} (h : bl a = str z) => (show a = S' z by unfold S'; rw [← h, lb_bl])
    have x1 : a0 = S' p.num := e (congrArg Prod.fst ep)
    have x2 : a1 = S' (p.den : Int) := e (congrArg Prod.snd ep)
    have x3 : b0 = S' q.num := e (congrArg Prod.fst eq)
    have x4 : b1 = S' (q.den : Int) := e (congrArg Prod.snd eq)
    have d1 : ((p.den : Int)).natAbs < lim := by rw [Int.natAbs_natCast]; exact hp.2
    have d2 : ((q.den : Int)).natAbs < lim := by rw [Int.natAbs_natCast]; exact hq.2
    rw [ep, eq, numZ_rt, denZ_rt, numZ_rt, denZ_rt]
    subst x1 x2 x3 x4
    refine compareR_yes p.num p.den q.num q.den hp.1 d1 hq.1 d2 (denI_pos p) (denI_pos q) ?_ ?_ w hT
    · rw [vR_eq]; exact ratValid_rt hp
    · rw [vR_eq]; exact ratValid_rt hq
end Go.Proofs.YtfdjdmkpcdbmkaaGreatDoor
