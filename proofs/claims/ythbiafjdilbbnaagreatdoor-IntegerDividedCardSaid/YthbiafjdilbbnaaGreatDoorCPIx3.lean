-- Printed by a program of this session's own, over the kit's print: functions of the program as plain functions, and their calls' contracts.
import Derived.Test.YthbiafjdilbbnaaGreatDoorCPIx0
import Derived.Test.YthbiafjdilbbnaaGreatDoorCPIx1
import Derived.Test.YthbiafjdilbbnaaGreatDoorCPIx2
set_option linter.unusedVariables false
set_option linter.unusedSimpArgs false
namespace Go.Proofs.YthbiafjdilbbnaaGreatDoor.PI
open Go.RowKit Go.Proofs.YthbiafjdilbbnaaGreatDoorW.PrintWords Go.Proofs.YthbiafjdilbbnaaGreatDoorW.PrintLast Go.Proofs.YthbiafjdilbbnaaGreatDoorW.PrintMore
attribute [local go_sem] max2_int min2_int max_two min_two max_three min_three max_four min_four   -- for this text's walks alone
set_option linter.unusedVariables false
set_option linter.unusedSimpArgs false

/-! ### newswirelaw03_IntegerDivided: function 4 -/
def newswirelaw03_IntegerDivided.j0 : Nat → Bool → ByteArray → ByteArray → ByteArray → Int → Int → ByteArray → Int → ByteArray → Int → Option (Bool)
  | 0, _, _, _, _, _, _, _, _, _, _ => none
  | k + 1, x5, x6, x7, x9, x10, x12, x13, x14, x15, x16 => (integer_Mul.f x6 x7).bind fun bt176 => ((integer_Div.f bt176.1 x7).bind fun bt178 => (if x5 = true then (if x10 = 0 then (if x12 = 0 then (if x14 = 0 then (if x16 = 0 then (if x13.toList = x6.toList then ((integer_Compare.f x9 (⟨#[48]⟩ : ByteArray)).bind fun t181 => (if t181 ≥ 0 then ((integer_Compare.f x9 x15).bind fun t182 => (if t182 < 0 then ((integer_Valid.f x9).bind fun t183 => (if t183 = true then (if bt176.2 = 0 then (if bt178.2.2 = 0 then (if bt178.1.toList = x6.toList then (some (bt178.2.1.toList == ([48] : List UInt8))) else (some false)) else (some false)) else (some false)) else (some false))) else (some false))) else (some false))) else (some false)) else (some false)) else (some false)) else (some false)) else (some false)) else (some false)))
def newswirelaw03_IntegerDivided.f (k : Nat) (a0 : ByteArray) (a1 : ByteArray) : Option (Bool) := (newswirelaw03_sane.f k).bind fun t161 => ((newswireref03_Made.f k a0 90).bind fun t162 => ((newswireref03_Made.f k a1 60).bind fun t163 => ((integer_Div.f t162 t163).bind fun bt164 => (if t163.toList = ([48] : List UInt8) then (if t161 = true then (some (bt164.2.2 == 30)) else (some false)) else ((integer_Mul.f bt164.1 t163).bind fun bt167 => ((integer_Add.f bt167.1 bt164.2.1).bind fun bt169 => ((integer_Mul.f t163 (⟨#[49]⟩ : ByteArray)).bind fun bt171 => ((integer_Compare.f t163 (⟨#[48]⟩ : ByteArray)).bind fun t173 => (if t173 < 0 then ((integer_Sub.f (⟨#[48]⟩ : ByteArray) t163).bind fun bt174 => (newswirelaw03_IntegerDivided.j0 k t161 t162 t163 bt164.2.1 bt164.2.2 bt167.2 bt169.1 bt169.2 bt174.1 bt174.2)) else (newswirelaw03_IntegerDivided.j0 k t161 t162 t163 bt164.2.1 bt164.2.2 bt167.2 bt169.1 bt169.2 bt171.1 bt171.2))))))))))
theorem newswirelaw03_IntegerDivided.mono_l : ∀ k, (∀ y0 y1 y2 y3 y4 y5 y6 y7 y8 y9, LeO (newswirelaw03_IntegerDivided.j0 k y0 y1 y2 y3 y4 y5 y6 y7 y8 y9) (newswirelaw03_IntegerDivided.j0 (k + 1) y0 y1 y2 y3 y4 y5 y6 y7 y8 y9))
  | 0 => fun _ _ _ _ _ _ _ _ _ _ r h => by simp [newswirelaw03_IntegerDivided.j0] at h
  | k + 1 => by
    have ih0 := newswirelaw03_IntegerDivided.mono_l k
    · intro y0 y1 y2 y3 y4 y5 y6 y7 y8 y9
      unfold newswirelaw03_IntegerDivided.j0
      repeat' first
      | (with_reducible exact ih0 _ _ _ _ _ _ _ _ _ _)
      | (with_reducible exact newswirelaw03_sane.mono _)
      | (with_reducible exact newswireref03_Made.mono _ _ _)
      | (with_reducible exact LeO.refl _)
      | (with_reducible exact LeO.none _)
      | (with_reducible refine LeO.ite ?_ ?_)
      | (with_reducible refine LeO.bind ?_ (fun _ => ?_))
      | exact ih0 _ _ _ _ _ _ _ _ _ _
      | exact newswirelaw03_sane.mono _
      | exact newswireref03_Made.mono _ _ _
      | exact LeO.none _
      | refine LeO.ite ?_ ?_
      | refine LeO.bind ?_ (fun _ => ?_)
theorem newswirelaw03_IntegerDivided.mono : ∀ a0 a1 k, LeO (newswirelaw03_IntegerDivided.f k a0 a1) (newswirelaw03_IntegerDivided.f (k + 1) a0 a1) := by
  intro a0 a1 k
  have ih0 := newswirelaw03_IntegerDivided.mono_l k
  unfold newswirelaw03_IntegerDivided.f
  repeat' first
      | (with_reducible exact ih0 _ _ _ _ _ _ _ _ _ _)
      | (with_reducible exact newswirelaw03_sane.mono _)
      | (with_reducible exact newswireref03_Made.mono _ _ _)
      | (with_reducible exact LeO.refl _)
      | (with_reducible exact LeO.none _)
      | (with_reducible refine LeO.ite ?_ ?_)
      | (with_reducible refine LeO.bind ?_ (fun _ => ?_))
      | exact ih0 _ _ _ _ _ _ _ _ _ _
      | exact newswirelaw03_sane.mono _
      | exact newswireref03_Made.mono _ _ _
      | exact LeO.none _
      | refine LeO.ite ?_ ?_
      | refine LeO.bind ?_ (fun _ => ?_)
set_option maxHeartbeats 8000000 in
set_option maxRecDepth 100000 in
theorem newswirelaw03_IntegerDivided.calls (k : Nat) (a0 : ByteArray) (a1 : ByteArray) (r : Bool) (w : World) (hT : Laid w) (h : newswirelaw03_IntegerDivided.f k a0 a1 = some r) :
    Calls Tryz.prog 4 #[.string a0, .string a1] w fun e w' => e = .returned (.bool r) ∧ Below w.heap.size w w' := by
  have HT := Aside0.mk hT
  clear hT
  have HB := Aside0.mk (Below.refl w.heap.size w)
  have H : ((newswirelaw03_sane.f k).bind fun t161 => ((newswireref03_Made.f k a0 90).bind fun t162 => ((newswireref03_Made.f k a1 60).bind fun t163 => ((integer_Div.f t162 t163).bind fun bt164 => (if t163.toList = ([48] : List UInt8) then (if t161 = true then (some (bt164.2.2 == 30)) else (some false)) else ((integer_Mul.f bt164.1 t163).bind fun bt167 => ((integer_Add.f bt167.1 bt164.2.1).bind fun bt169 => ((integer_Mul.f t163 (⟨#[49]⟩ : ByteArray)).bind fun bt171 => ((integer_Compare.f t163 (⟨#[48]⟩ : ByteArray)).bind fun t173 => (if t173 < 0 then ((integer_Sub.f (⟨#[48]⟩ : ByteArray) t163).bind fun bt174 => (newswirelaw03_IntegerDivided.j0 k t161 t162 t163 bt164.2.1 bt164.2.2 bt167.2 bt169.1 bt169.2 bt174.1 bt174.2)) else (newswirelaw03_IntegerDivided.j0 k t161 t162 t163 bt164.2.1 bt164.2.2 bt167.2 bt169.1 bt169.2 bt171.1 bt171.2))))))))))) = some r := h
  clear h
  replace H := Option.bind_eq_some_iff.mp H
  obtain ⟨t161, A30, H⟩ := H
  replace H : ((newswireref03_Made.f k a0 90).bind fun t162 => ((newswireref03_Made.f k a1 60).bind fun t163 => ((integer_Div.f t162 t163).bind fun bt164 => (if t163.toList = ([48] : List UInt8) then (if t161 = true then (some (bt164.2.2 == 30)) else (some false)) else ((integer_Mul.f bt164.1 t163).bind fun bt167 => ((integer_Add.f bt167.1 bt164.2.1).bind fun bt169 => ((integer_Mul.f t163 (⟨#[49]⟩ : ByteArray)).bind fun bt171 => ((integer_Compare.f t163 (⟨#[48]⟩ : ByteArray)).bind fun t173 => (if t173 < 0 then ((integer_Sub.f (⟨#[48]⟩ : ByteArray) t163).bind fun bt174 => (newswirelaw03_IntegerDivided.j0 k t161 t162 t163 bt164.2.1 bt164.2.2 bt167.2 bt169.1 bt169.2 bt174.1 bt174.2)) else (newswirelaw03_IntegerDivided.j0 k t161 t162 t163 bt164.2.1 bt164.2.2 bt167.2 bt169.1 bt169.2 bt171.1 bt171.2)))))))))) = some r := H
  have A3 := Aside0.mk A30
  clear A30
  replace H := Option.bind_eq_some_iff.mp H
  obtain ⟨t162, A40, H⟩ := H
  replace H : ((newswireref03_Made.f k a1 60).bind fun t163 => ((integer_Div.f t162 t163).bind fun bt164 => (if t163.toList = ([48] : List UInt8) then (if t161 = true then (some (bt164.2.2 == 30)) else (some false)) else ((integer_Mul.f bt164.1 t163).bind fun bt167 => ((integer_Add.f bt167.1 bt164.2.1).bind fun bt169 => ((integer_Mul.f t163 (⟨#[49]⟩ : ByteArray)).bind fun bt171 => ((integer_Compare.f t163 (⟨#[48]⟩ : ByteArray)).bind fun t173 => (if t173 < 0 then ((integer_Sub.f (⟨#[48]⟩ : ByteArray) t163).bind fun bt174 => (newswirelaw03_IntegerDivided.j0 k t161 t162 t163 bt164.2.1 bt164.2.2 bt167.2 bt169.1 bt169.2 bt174.1 bt174.2)) else (newswirelaw03_IntegerDivided.j0 k t161 t162 t163 bt164.2.1 bt164.2.2 bt167.2 bt169.1 bt169.2 bt171.1 bt171.2))))))))) = some r := H
  have A4 := Aside0.mk A40
  clear A40
  replace H := Option.bind_eq_some_iff.mp H
  obtain ⟨t163, A50, H⟩ := H
  replace H : ((integer_Div.f t162 t163).bind fun bt164 => (if t163.toList = ([48] : List UInt8) then (if t161 = true then (some (bt164.2.2 == 30)) else (some false)) else ((integer_Mul.f bt164.1 t163).bind fun bt167 => ((integer_Add.f bt167.1 bt164.2.1).bind fun bt169 => ((integer_Mul.f t163 (⟨#[49]⟩ : ByteArray)).bind fun bt171 => ((integer_Compare.f t163 (⟨#[48]⟩ : ByteArray)).bind fun t173 => (if t173 < 0 then ((integer_Sub.f (⟨#[48]⟩ : ByteArray) t163).bind fun bt174 => (newswirelaw03_IntegerDivided.j0 k t161 t162 t163 bt164.2.1 bt164.2.2 bt167.2 bt169.1 bt169.2 bt174.1 bt174.2)) else (newswirelaw03_IntegerDivided.j0 k t161 t162 t163 bt164.2.1 bt164.2.2 bt167.2 bt169.1 bt169.2 bt171.1 bt171.2)))))))) = some r := H
  have A5 := Aside0.mk A50
  clear A50
  replace H := Option.bind_eq_some_iff.mp H
  obtain ⟨⟨t164, t165, t166⟩, A60, H⟩ := H
  replace H : (if t163.toList = ([48] : List UInt8) then (if t161 = true then (some (t166 == 30)) else (some false)) else ((integer_Mul.f t164 t163).bind fun bt167 => ((integer_Add.f bt167.1 t165).bind fun bt169 => ((integer_Mul.f t163 (⟨#[49]⟩ : ByteArray)).bind fun bt171 => ((integer_Compare.f t163 (⟨#[48]⟩ : ByteArray)).bind fun t173 => (if t173 < 0 then ((integer_Sub.f (⟨#[48]⟩ : ByteArray) t163).bind fun bt174 => (newswirelaw03_IntegerDivided.j0 k t161 t162 t163 t165 t166 bt167.2 bt169.1 bt169.2 bt174.1 bt174.2)) else (newswirelaw03_IntegerDivided.j0 k t161 t162 t163 t165 t166 bt167.2 bt169.1 bt169.2 bt171.1 bt171.2))))))) = some r := H
  have A6 := Aside0.mk A60
  clear A60
  by_cases c7 : t163.toList = ([48] : List UInt8)
  · rw [if_pos c7] at H
    have c7b0 : (t163.toList == ([48] : List UInt8)) = true := beq_iff_eq.mpr c7
    have c7b1 : (t163.toList != ([48] : List UInt8)) = false := bne_eq_false_iff_eq.mpr c7
    clear c7
    by_cases c8 : t161 = true
    · subst c8
      have H1 : (some (t166 == 30)) = some r := by rw [if_pos rfl] at H; exact H
      clear H
      have H := H1
      clear H1
      obtain rfl := Option.some.inj H
      go_enter Tryz.func4, Tryz.ntmps4
      go_wp2_with (first | ((with_reducible refine gate_callee (f := 12) rfl ?_); refine goesL_ (some 22) rfl rfl Tryz.func12 (by kernel_rfl) rfl #[] rfl (by (try simp only [List.map_toArray, List.map_cons, List.map_nil]); first | done | rfl | (simp only [List.length_drop, List.length_take]; rfl)) ?_; (with_reducible refine (newswirelaw03_sane.calls k  true _ ?side1 A3.out).mono ?_); (case side1 => exact Laid.on HT.out (by repeat (first | (with_reducible first | exact HB.out | apply below_alloc | apply pw_below_drewN | apply below_drew1) | exact HB.out))); rintro e w9 ⟨rfl, hb⟩; refine ⟨_, rfl, ?_⟩; have n0_ := Aside0.mk (below_step (by repeat (first | (with_reducible first | exact HB.out | apply below_alloc | apply pw_below_drewN | apply below_drew1) | exact HB.out)) hb); clear HB; have HB := n0_; clear n0_; (try clear hb); (try clear hb2); (try clear hk); (try clear hi)) | ((with_reducible refine gate_callee (f := 13) rfl ?_); refine goesL_ (some 24) rfl rfl Tryz.func13 (by kernel_rfl) rfl #[.string a0, .int .i64 90] rfl (by (try simp only [List.map_toArray, List.map_cons, List.map_nil]); first | done | rfl | (simp only [List.length_drop, List.length_take]; rfl)) ?_; (with_reducible refine (newswireref03_Made.calls k a0 90 t162 _ A4.out).mono ?_); rintro e w10 ⟨rfl, hb⟩; refine ⟨_, rfl, ?_⟩; have n0_ := Aside0.mk (below_step (by repeat (first | (with_reducible first | exact HB.out | apply below_alloc | apply pw_below_drewN | apply below_drew1) | exact HB.out)) hb); clear HB; have HB := n0_; clear n0_; (try clear hb); (try clear hb2); (try clear hk); (try clear hi)) | ((with_reducible refine gate_callee (f := 13) rfl ?_); refine goesL_ (some 26) rfl rfl Tryz.func13 (by kernel_rfl) rfl #[.string a1, .int .i64 60] rfl (by (try simp only [List.map_toArray, List.map_cons, List.map_nil]); first | done | rfl | (simp only [List.length_drop, List.length_take]; rfl)) ?_; (with_reducible refine (newswireref03_Made.calls k a1 60 t163 _ A5.out).mono ?_); rintro e w11 ⟨rfl, hb⟩; refine ⟨_, rfl, ?_⟩; have n0_ := Aside0.mk (below_step (by repeat (first | (with_reducible first | exact HB.out | apply below_alloc | apply pw_below_drewN | apply below_drew1) | exact HB.out)) hb); clear HB; have HB := n0_; clear n0_; (try clear hb); (try clear hb2); (try clear hk); (try clear hi)) | ((with_reducible refine gate_callee (f := 17) rfl ?_); refine goesL_ (some 30) rfl rfl Tryz.func17 (by kernel_rfl) rfl #[.string t162, .string t163] rfl (by (try simp only [List.map_toArray, List.map_cons, List.map_nil]); first | done | rfl | (simp only [List.length_drop, List.length_take]; rfl)) ?_; (with_reducible refine (integer_Div.calls t162 t163 t164 t165 t166 _ ?side1 A6.out).mono ?_); (case side1 => exact Laid.on HT.out (by repeat (first | (with_reducible first | exact HB.out | apply below_alloc | apply pw_below_drewN | apply below_drew1) | exact HB.out))); rintro e w12 ⟨rfl, hb⟩; refine ⟨_, rfl, ?_⟩; have n0_ := Aside0.mk (below_step (by repeat (first | (with_reducible first | exact HB.out | apply below_alloc | apply pw_below_drewN | apply below_drew1) | exact HB.out)) hb); clear HB; have HB := n0_; clear n0_; (try clear hb); (try clear hb2); (try clear hk); (try clear hi)))
      go_ret
      exact ⟨by first | rfl | (simp [errW_none, errW_some] <;> rfl) | (simp [*, errW_none, errW_some] <;> rfl), by repeat (first | (with_reducible first | exact HB.out | apply below_alloc | apply pw_below_drewN | apply below_drew1) | exact HB.out)⟩
    · replace c8 := Bool.eq_false_iff.mpr c8
      subst c8
      have H1 : (some false) = some r := by rw [if_neg (show ¬ (false = true) by decide)] at H; exact H
      clear H
      have H := H1
      clear H1
      obtain rfl := Option.some.inj H
      go_enter Tryz.func4, Tryz.ntmps4
      go_wp2_with (first | ((with_reducible refine gate_callee (f := 12) rfl ?_); refine goesL_ (some 22) rfl rfl Tryz.func12 (by kernel_rfl) rfl #[] rfl (by (try simp only [List.map_toArray, List.map_cons, List.map_nil]); first | done | rfl | (simp only [List.length_drop, List.length_take]; rfl)) ?_; (with_reducible refine (newswirelaw03_sane.calls k  false _ ?side1 A3.out).mono ?_); (case side1 => exact Laid.on HT.out (by repeat (first | (with_reducible first | exact HB.out | apply below_alloc | apply pw_below_drewN | apply below_drew1) | exact HB.out))); rintro e w13 ⟨rfl, hb⟩; refine ⟨_, rfl, ?_⟩; have n0_ := Aside0.mk (below_step (by repeat (first | (with_reducible first | exact HB.out | apply below_alloc | apply pw_below_drewN | apply below_drew1) | exact HB.out)) hb); clear HB; have HB := n0_; clear n0_; (try clear hb); (try clear hb2); (try clear hk); (try clear hi)) | ((with_reducible refine gate_callee (f := 13) rfl ?_); refine goesL_ (some 24) rfl rfl Tryz.func13 (by kernel_rfl) rfl #[.string a0, .int .i64 90] rfl (by (try simp only [List.map_toArray, List.map_cons, List.map_nil]); first | done | rfl | (simp only [List.length_drop, List.length_take]; rfl)) ?_; (with_reducible refine (newswireref03_Made.calls k a0 90 t162 _ A4.out).mono ?_); rintro e w14 ⟨rfl, hb⟩; refine ⟨_, rfl, ?_⟩; have n0_ := Aside0.mk (below_step (by repeat (first | (with_reducible first | exact HB.out | apply below_alloc | apply pw_below_drewN | apply below_drew1) | exact HB.out)) hb); clear HB; have HB := n0_; clear n0_; (try clear hb); (try clear hb2); (try clear hk); (try clear hi)) | ((with_reducible refine gate_callee (f := 13) rfl ?_); refine goesL_ (some 26) rfl rfl Tryz.func13 (by kernel_rfl) rfl #[.string a1, .int .i64 60] rfl (by (try simp only [List.map_toArray, List.map_cons, List.map_nil]); first | done | rfl | (simp only [List.length_drop, List.length_take]; rfl)) ?_; (with_reducible refine (newswireref03_Made.calls k a1 60 t163 _ A5.out).mono ?_); rintro e w15 ⟨rfl, hb⟩; refine ⟨_, rfl, ?_⟩; have n0_ := Aside0.mk (below_step (by repeat (first | (with_reducible first | exact HB.out | apply below_alloc | apply pw_below_drewN | apply below_drew1) | exact HB.out)) hb); clear HB; have HB := n0_; clear n0_; (try clear hb); (try clear hb2); (try clear hk); (try clear hi)) | ((with_reducible refine gate_callee (f := 17) rfl ?_); refine goesL_ (some 30) rfl rfl Tryz.func17 (by kernel_rfl) rfl #[.string t162, .string t163] rfl (by (try simp only [List.map_toArray, List.map_cons, List.map_nil]); first | done | rfl | (simp only [List.length_drop, List.length_take]; rfl)) ?_; (with_reducible refine (integer_Div.calls t162 t163 t164 t165 t166 _ ?side1 A6.out).mono ?_); (case side1 => exact Laid.on HT.out (by repeat (first | (with_reducible first | exact HB.out | apply below_alloc | apply pw_below_drewN | apply below_drew1) | exact HB.out))); rintro e w16 ⟨rfl, hb⟩; refine ⟨_, rfl, ?_⟩; have n0_ := Aside0.mk (below_step (by repeat (first | (with_reducible first | exact HB.out | apply below_alloc | apply pw_below_drewN | apply below_drew1) | exact HB.out)) hb); clear HB; have HB := n0_; clear n0_; (try clear hb); (try clear hb2); (try clear hk); (try clear hi)))
      go_ret
      exact ⟨by first | rfl | (simp [errW_none, errW_some] <;> rfl) | (simp [*, errW_none, errW_some] <;> rfl), by repeat (first | (with_reducible first | exact HB.out | apply below_alloc | apply pw_below_drewN | apply below_drew1) | exact HB.out)⟩
  · rw [if_neg c7] at H
    have c7b0 : (t163.toList == ([48] : List UInt8)) = false := beq_eq_false_iff_ne.mpr c7
    have c7b1 : (t163.toList != ([48] : List UInt8)) = true := bne_iff_ne.mpr c7
    replace H := Option.bind_eq_some_iff.mp H
    obtain ⟨⟨t167, t168⟩, A170, H⟩ := H
    replace H : ((integer_Add.f t167 t165).bind fun bt169 => ((integer_Mul.f t163 (⟨#[49]⟩ : ByteArray)).bind fun bt171 => ((integer_Compare.f t163 (⟨#[48]⟩ : ByteArray)).bind fun t173 => (if t173 < 0 then ((integer_Sub.f (⟨#[48]⟩ : ByteArray) t163).bind fun bt174 => (newswirelaw03_IntegerDivided.j0 k t161 t162 t163 t165 t166 t168 bt169.1 bt169.2 bt174.1 bt174.2)) else (newswirelaw03_IntegerDivided.j0 k t161 t162 t163 t165 t166 t168 bt169.1 bt169.2 bt171.1 bt171.2))))) = some r := H
    have A17 := Aside0.mk A170
    clear A170
    replace H := Option.bind_eq_some_iff.mp H
    obtain ⟨⟨t169, t170⟩, A180, H⟩ := H
    replace H : ((integer_Mul.f t163 (⟨#[49]⟩ : ByteArray)).bind fun bt171 => ((integer_Compare.f t163 (⟨#[48]⟩ : ByteArray)).bind fun t173 => (if t173 < 0 then ((integer_Sub.f (⟨#[48]⟩ : ByteArray) t163).bind fun bt174 => (newswirelaw03_IntegerDivided.j0 k t161 t162 t163 t165 t166 t168 t169 t170 bt174.1 bt174.2)) else (newswirelaw03_IntegerDivided.j0 k t161 t162 t163 t165 t166 t168 t169 t170 bt171.1 bt171.2)))) = some r := H
    have A18 := Aside0.mk A180
    clear A180
    replace H := Option.bind_eq_some_iff.mp H
    obtain ⟨⟨t171, t172⟩, A190, H⟩ := H
    replace H : ((integer_Compare.f t163 (⟨#[48]⟩ : ByteArray)).bind fun t173 => (if t173 < 0 then ((integer_Sub.f (⟨#[48]⟩ : ByteArray) t163).bind fun bt174 => (newswirelaw03_IntegerDivided.j0 k t161 t162 t163 t165 t166 t168 t169 t170 bt174.1 bt174.2)) else (newswirelaw03_IntegerDivided.j0 k t161 t162 t163 t165 t166 t168 t169 t170 t171 t172))) = some r := H
    have A19 := Aside0.mk A190
    clear A190
    replace H := Option.bind_eq_some_iff.mp H
    obtain ⟨t173, A200, H⟩ := H
    replace H : (if t173 < 0 then ((integer_Sub.f (⟨#[48]⟩ : ByteArray) t163).bind fun bt174 => (newswirelaw03_IntegerDivided.j0 k t161 t162 t163 t165 t166 t168 t169 t170 bt174.1 bt174.2)) else (newswirelaw03_IntegerDivided.j0 k t161 t162 t163 t165 t166 t168 t169 t170 t171 t172)) = some r := H
    have A20 := Aside0.mk A200
    clear A200
    have HC21 := Aside0.mk H
    clear H
    go_enter Tryz.func4, Tryz.ntmps4
    go_upto_if 60 with (first | ((with_reducible refine gate_callee (f := 12) rfl ?_); refine goesL_ (some 22) rfl rfl Tryz.func12 (by kernel_rfl) rfl #[] rfl (by (try simp only [List.map_toArray, List.map_cons, List.map_nil]); first | done | rfl | (simp only [List.length_drop, List.length_take]; rfl)) ?_; (with_reducible refine (newswirelaw03_sane.calls k  t161 _ ?side1 A3.out).mono ?_); (case side1 => exact Laid.on HT.out (by repeat (first | (with_reducible first | exact HB.out | apply below_alloc | apply pw_below_drewN | apply below_drew1) | exact HB.out))); rintro e w22 ⟨rfl, hb⟩; refine ⟨_, rfl, ?_⟩; have n0_ := Aside0.mk (below_step (by repeat (first | (with_reducible first | exact HB.out | apply below_alloc | apply pw_below_drewN | apply below_drew1) | exact HB.out)) hb); clear HB; have HB := n0_; clear n0_; (try clear hb); (try clear hb2); (try clear hk); (try clear hi)) | ((with_reducible refine gate_callee (f := 13) rfl ?_); refine goesL_ (some 24) rfl rfl Tryz.func13 (by kernel_rfl) rfl #[.string a0, .int .i64 90] rfl (by (try simp only [List.map_toArray, List.map_cons, List.map_nil]); first | done | rfl | (simp only [List.length_drop, List.length_take]; rfl)) ?_; (with_reducible refine (newswireref03_Made.calls k a0 90 t162 _ A4.out).mono ?_); rintro e w23 ⟨rfl, hb⟩; refine ⟨_, rfl, ?_⟩; have n0_ := Aside0.mk (below_step (by repeat (first | (with_reducible first | exact HB.out | apply below_alloc | apply pw_below_drewN | apply below_drew1) | exact HB.out)) hb); clear HB; have HB := n0_; clear n0_; (try clear hb); (try clear hb2); (try clear hk); (try clear hi)) | ((with_reducible refine gate_callee (f := 13) rfl ?_); refine goesL_ (some 26) rfl rfl Tryz.func13 (by kernel_rfl) rfl #[.string a1, .int .i64 60] rfl (by (try simp only [List.map_toArray, List.map_cons, List.map_nil]); first | done | rfl | (simp only [List.length_drop, List.length_take]; rfl)) ?_; (with_reducible refine (newswireref03_Made.calls k a1 60 t163 _ A5.out).mono ?_); rintro e w24 ⟨rfl, hb⟩; refine ⟨_, rfl, ?_⟩; have n0_ := Aside0.mk (below_step (by repeat (first | (with_reducible first | exact HB.out | apply below_alloc | apply pw_below_drewN | apply below_drew1) | exact HB.out)) hb); clear HB; have HB := n0_; clear n0_; (try clear hb); (try clear hb2); (try clear hk); (try clear hi)) | ((with_reducible refine gate_callee (f := 17) rfl ?_); refine goesL_ (some 30) rfl rfl Tryz.func17 (by kernel_rfl) rfl #[.string t162, .string t163] rfl (by (try simp only [List.map_toArray, List.map_cons, List.map_nil]); first | done | rfl | (simp only [List.length_drop, List.length_take]; rfl)) ?_; (with_reducible refine (integer_Div.calls t162 t163 t164 t165 t166 _ ?side1 A6.out).mono ?_); (case side1 => exact Laid.on HT.out (by repeat (first | (with_reducible first | exact HB.out | apply below_alloc | apply pw_below_drewN | apply below_drew1) | exact HB.out))); rintro e w25 ⟨rfl, hb⟩; refine ⟨_, rfl, ?_⟩; have n0_ := Aside0.mk (below_step (by repeat (first | (with_reducible first | exact HB.out | apply below_alloc | apply pw_below_drewN | apply below_drew1) | exact HB.out)) hb); clear HB; have HB := n0_; clear n0_; (try clear hb); (try clear hb2); (try clear hk); (try clear hi)) | ((with_reducible refine gate_callee (f := 15) rfl ?_); refine goesL_ (some 44) rfl rfl Tryz.func15 (by kernel_rfl) rfl #[.string t164, .string t163] rfl (by (try simp only [List.map_toArray, List.map_cons, List.map_nil]); first | done | rfl | (simp only [List.length_drop, List.length_take]; rfl)) ?_; (with_reducible refine (integer_Mul.calls t164 t163 t167 t168 _ ?side1 A17.out).mono ?_); (case side1 => exact Laid.on HT.out (by repeat (first | (with_reducible first | exact HB.out | apply below_alloc | apply pw_below_drewN | apply below_drew1) | exact HB.out))); rintro e w26 ⟨rfl, hb⟩; refine ⟨_, rfl, ?_⟩; have n0_ := Aside0.mk (below_step (by repeat (first | (with_reducible first | exact HB.out | apply below_alloc | apply pw_below_drewN | apply below_drew1) | exact HB.out)) hb); clear HB; have HB := n0_; clear n0_; (try clear hb); (try clear hb2); (try clear hk); (try clear hi)) | ((with_reducible refine gate_callee (f := 14) rfl ?_); refine goesL_ (some 50) rfl rfl Tryz.func14 (by kernel_rfl) rfl #[.string t167, .string t165] rfl (by (try simp only [List.map_toArray, List.map_cons, List.map_nil]); first | done | rfl | (simp only [List.length_drop, List.length_take]; rfl)) ?_; (with_reducible refine (integer_Add.calls t167 t165 t169 t170 _ ?side1 A18.out).mono ?_); (case side1 => exact Laid.on HT.out (by repeat (first | (with_reducible first | exact HB.out | apply below_alloc | apply pw_below_drewN | apply below_drew1) | exact HB.out))); rintro e w27 ⟨rfl, hb⟩; refine ⟨_, rfl, ?_⟩; have n0_ := Aside0.mk (below_step (by repeat (first | (with_reducible first | exact HB.out | apply below_alloc | apply pw_below_drewN | apply below_drew1) | exact HB.out)) hb); clear HB; have HB := n0_; clear n0_; (try clear hb); (try clear hb2); (try clear hk); (try clear hi)) | ((with_reducible refine gate_callee (f := 15) rfl ?_); refine goesL_ (some 55) rfl rfl Tryz.func15 (by kernel_rfl) rfl #[.string t163, .string (⟨#[49]⟩ : ByteArray)] rfl (by (try simp only [List.map_toArray, List.map_cons, List.map_nil]); first | done | rfl | (simp only [List.length_drop, List.length_take]; rfl)) ?_; (with_reducible refine (integer_Mul.calls t163 (⟨#[49]⟩ : ByteArray) t171 t172 _ ?side1 A19.out).mono ?_); (case side1 => exact Laid.on HT.out (by repeat (first | (with_reducible first | exact HB.out | apply below_alloc | apply pw_below_drewN | apply below_drew1) | exact HB.out))); rintro e w28 ⟨rfl, hb⟩; refine ⟨_, rfl, ?_⟩; have n0_ := Aside0.mk (below_step (by repeat (first | (with_reducible first | exact HB.out | apply below_alloc | apply pw_below_drewN | apply below_drew1) | exact HB.out)) hb); clear HB; have HB := n0_; clear n0_; (try clear hb); (try clear hb2); (try clear hk); (try clear hi)) | ((with_reducible refine gate_callee (f := 18) rfl ?_); refine goesL_ (some 59) rfl rfl Tryz.func18 (by kernel_rfl) rfl #[.string t163, .string (⟨#[48]⟩ : ByteArray)] rfl (by (try simp only [List.map_toArray, List.map_cons, List.map_nil]); first | done | rfl | (simp only [List.length_drop, List.length_take]; rfl)) ?_; (with_reducible refine (integer_Compare.calls t163 (⟨#[48]⟩ : ByteArray) t173 _ ?side1 A20.out).mono ?_); (case side1 => exact Laid.on HT.out (by repeat (first | (with_reducible first | exact HB.out | apply below_alloc | apply pw_below_drewN | apply below_drew1) | exact HB.out))); rintro e w29 ⟨rfl, hb⟩; refine ⟨_, rfl, ?_⟩; have n0_ := Aside0.mk (below_step (by repeat (first | (with_reducible first | exact HB.out | apply below_alloc | apply pw_below_drewN | apply below_drew1) | exact HB.out)) hb); clear HB; have HB := n0_; clear n0_; (try clear hb); (try clear hb2); (try clear hk); (try clear hi)))
    (try simp only [Act.put, List.setIfInBounds_toArray, List.set_cons_zero, List.set_cons_succ])
    go_cut [15, 16] (fun v15 v16 wc => ∃ (kq : Nat) (x15_20 : ByteArray) (x16_20 : Int), v15 = .string x15_20 ∧ v16 = .int .i64 x16_20 ∧ Aside0 (newswirelaw03_IntegerDivided.j0 kq t161 t162 t163 t165 t166 t168 t169 t170 x15_20 x16_20 = some r) ∧ Aside0 (kq ≤ k) ∧ Aside0 (Below w.heap.size w wc))
    case first =>
      have H := HC21.out
      clear HC21
      by_cases c30 : t173 < 0
      · rw [if_pos c30] at H
        have c30b0 : decide (t173 < 0) = true := decide_eq_true c30
        clear c30
        (first | rw [c30b0] | (simp only [i64_w, i32_w]; rw [c30b0]) | skip)
        replace H := Option.bind_eq_some_iff.mp H
        obtain ⟨⟨t174, t175⟩, A310, H⟩ := H
        replace H : (newswirelaw03_IntegerDivided.j0 k t161 t162 t163 t165 t166 t168 t169 t170 t174 t175) = some r := H
        have A31 := Aside0.mk A310
        clear A310
        have H' := Aside0.mk H
        clear H
        go_wp2_with (first | ((with_reducible refine gate_callee (f := 16) rfl ?_); refine goesL_ (some 63) rfl rfl Tryz.func16 (by kernel_rfl) rfl #[.string (⟨#[48]⟩ : ByteArray), .string t163] rfl (by (try simp only [List.map_toArray, List.map_cons, List.map_nil]); first | done | rfl | (simp only [List.length_drop, List.length_take]; rfl)) ?_; (with_reducible refine (integer_Sub.calls (⟨#[48]⟩ : ByteArray) t163 t174 t175 _ ?side1 A31.out).mono ?_); (case side1 => exact Laid.on HT.out (by repeat (first | (with_reducible first | exact HB.out | apply below_alloc | apply pw_below_drewN | apply below_drew1) | exact HB.out))); rintro e w32 ⟨rfl, hb⟩; refine ⟨_, rfl, ?_⟩; have n0_ := Aside0.mk (below_step (by repeat (first | (with_reducible first | exact HB.out | apply below_alloc | apply pw_below_drewN | apply below_drew1) | exact HB.out)) hb); clear HB; have HB := n0_; clear n0_; (try clear hb); (try clear hb2); (try clear hk); (try clear hi)))
        go_meet
        case rel => exact ⟨_, (t174), (t175), (by first | rfl | (simp; done) | (simp [*]; done)), (by first | rfl | (simp; done) | (simp [*]; done)), H', ⟨by first | omega | exact Nat.le_refl _⟩, ⟨by repeat (first | (with_reducible first | exact HB.out | apply below_alloc | apply pw_below_drewN | apply below_drew1) | exact HB.out)⟩⟩
      · rw [if_neg c30] at H
        have c30b0 : decide (t173 < 0) = false := decide_eq_false c30
        clear c30
        (first | rw [c30b0] | (simp only [i64_w, i32_w]; rw [c30b0]) | skip)
        have H' := Aside0.mk H
        clear H
        go_wp2
        go_meet
        case rel => exact ⟨_, (t171), (t172), (by first | rfl | (simp; done) | (simp [*]; done)), (by first | rfl | (simp; done) | (simp [*]; done)), H', ⟨by first | omega | exact Nat.le_refl _⟩, ⟨by repeat (first | (with_reducible first | exact HB.out | apply below_alloc | apply pw_below_drewN | apply below_drew1) | exact HB.out)⟩⟩
    case rest =>
      clear HC21
      try clear c1
      try clear p2
      try clear c3
      try clear c4
      try clear c7
      try clear c7b0
      try clear c7b1
      try clear c8
      try clear c12
      try clear c13
      try clear c14
      try clear c15
      try clear c16
      try clear c17
      try clear c18
      try clear c30
      try clear c30b0
      obtain ⟨kq, x15_20, x16_20, rfl, rfl, HA, HJ20, HB⟩ := hcut
      cases kq with
      | zero => exact absurd HA.out (by simp [newswirelaw03_IntegerDivided.j0])
      | succ kj20 =>
        have H := HA.out
        clear HA
        simp only [newswirelaw03_IntegerDivided.j0] at H
        replace H := Option.bind_eq_some_iff.mp H
        obtain ⟨⟨t176, t177⟩, A330, H⟩ := H
        replace H : ((integer_Div.f t176 t163).bind fun bt178 => (if t161 = true then (if t166 = 0 then (if t168 = 0 then (if t170 = 0 then (if x16_20 = 0 then (if t169.toList = t162.toList then ((integer_Compare.f t165 (⟨#[48]⟩ : ByteArray)).bind fun t181 => (if t181 ≥ 0 then ((integer_Compare.f t165 x15_20).bind fun t182 => (if t182 < 0 then ((integer_Valid.f t165).bind fun t183 => (if t183 = true then (if t177 = 0 then (if bt178.2.2 = 0 then (if bt178.1.toList = t162.toList then (some (bt178.2.1.toList == ([48] : List UInt8))) else (some false)) else (some false)) else (some false)) else (some false))) else (some false))) else (some false))) else (some false)) else (some false)) else (some false)) else (some false)) else (some false)) else (some false))) = some r := H
        have A33 := Aside0.mk A330
        clear A330
        replace H := Option.bind_eq_some_iff.mp H
        obtain ⟨⟨t178, t179, t180⟩, A340, H⟩ := H
        replace H : (if t161 = true then (if t166 = 0 then (if t168 = 0 then (if t170 = 0 then (if x16_20 = 0 then (if t169.toList = t162.toList then ((integer_Compare.f t165 (⟨#[48]⟩ : ByteArray)).bind fun t181 => (if t181 ≥ 0 then ((integer_Compare.f t165 x15_20).bind fun t182 => (if t182 < 0 then ((integer_Valid.f t165).bind fun t183 => (if t183 = true then (if t177 = 0 then (if t180 = 0 then (if t178.toList = t162.toList then (some (t179.toList == ([48] : List UInt8))) else (some false)) else (some false)) else (some false)) else (some false))) else (some false))) else (some false))) else (some false)) else (some false)) else (some false)) else (some false)) else (some false)) else (some false)) = some r := H
        have A34 := Aside0.mk A340
        clear A340
        by_cases c35 : t161 = true
        · subst c35
          have H1 : (if t166 = 0 then (if t168 = 0 then (if t170 = 0 then (if x16_20 = 0 then (if t169.toList = t162.toList then ((integer_Compare.f t165 (⟨#[48]⟩ : ByteArray)).bind fun t181 => (if t181 ≥ 0 then ((integer_Compare.f t165 x15_20).bind fun t182 => (if t182 < 0 then ((integer_Valid.f t165).bind fun t183 => (if t183 = true then (if t177 = 0 then (if t180 = 0 then (if t178.toList = t162.toList then (some (t179.toList == ([48] : List UInt8))) else (some false)) else (some false)) else (some false)) else (some false))) else (some false))) else (some false))) else (some false)) else (some false)) else (some false)) else (some false)) else (some false)) = some r := by rw [if_pos rfl] at H; exact H
          clear H
          have H := H1
          clear H1
          by_cases c36 : t166 = 0
          · rw [if_pos c36] at H
            have c36b0 : (t166 == 0) = true := beq_iff_eq.mpr c36
            have c36b1 : (t166 != 0) = false := bne_eq_false_iff_eq.mpr c36
            clear c36
            by_cases c37 : t168 = 0
            · rw [if_pos c37] at H
              have c37b0 : (t168 == 0) = true := beq_iff_eq.mpr c37
              have c37b1 : (t168 != 0) = false := bne_eq_false_iff_eq.mpr c37
              clear c37
              by_cases c38 : t170 = 0
              · rw [if_pos c38] at H
                have c38b0 : (t170 == 0) = true := beq_iff_eq.mpr c38
                have c38b1 : (t170 != 0) = false := bne_eq_false_iff_eq.mpr c38
                clear c38
                by_cases c39 : x16_20 = 0
                · rw [if_pos c39] at H
                  have c39b0 : (x16_20 == 0) = true := beq_iff_eq.mpr c39
                  have c39b1 : (x16_20 != 0) = false := bne_eq_false_iff_eq.mpr c39
                  clear c39
                  by_cases c40 : t169.toList = t162.toList
                  · rw [if_pos c40] at H
                    have c40b0 : (t169.toList == t162.toList) = true := beq_iff_eq.mpr c40
                    have c40b1 : (t169.toList != t162.toList) = false := bne_eq_false_iff_eq.mpr c40
                    clear c40
                    replace H := Option.bind_eq_some_iff.mp H
                    obtain ⟨t181, A410, H⟩ := H
                    replace H : (if t181 ≥ 0 then ((integer_Compare.f t165 x15_20).bind fun t182 => (if t182 < 0 then ((integer_Valid.f t165).bind fun t183 => (if t183 = true then (if t177 = 0 then (if t180 = 0 then (if t178.toList = t162.toList then (some (t179.toList == ([48] : List UInt8))) else (some false)) else (some false)) else (some false)) else (some false))) else (some false))) else (some false)) = some r := H
                    have A41 := Aside0.mk A410
                    clear A410
                    by_cases c42 : t181 ≥ 0
                    · rw [if_pos c42] at H
                      have c42b0 : decide (0 ≤ t181) = true := decide_eq_true c42
                      clear c42
                      replace H := Option.bind_eq_some_iff.mp H
                      obtain ⟨t182, A430, H⟩ := H
                      replace H : (if t182 < 0 then ((integer_Valid.f t165).bind fun t183 => (if t183 = true then (if t177 = 0 then (if t180 = 0 then (if t178.toList = t162.toList then (some (t179.toList == ([48] : List UInt8))) else (some false)) else (some false)) else (some false)) else (some false))) else (some false)) = some r := H
                      have A43 := Aside0.mk A430
                      clear A430
                      by_cases c44 : t182 < 0
                      · rw [if_pos c44] at H
                        have c44b0 : decide (t182 < 0) = true := decide_eq_true c44
                        clear c44
                        replace H := Option.bind_eq_some_iff.mp H
                        obtain ⟨t183, A450, H⟩ := H
                        replace H : (if t183 = true then (if t177 = 0 then (if t180 = 0 then (if t178.toList = t162.toList then (some (t179.toList == ([48] : List UInt8))) else (some false)) else (some false)) else (some false)) else (some false)) = some r := H
                        have A45 := Aside0.mk A450
                        clear A450
                        by_cases c46 : t183 = true
                        · subst c46
                          have H1 : (if t177 = 0 then (if t180 = 0 then (if t178.toList = t162.toList then (some (t179.toList == ([48] : List UInt8))) else (some false)) else (some false)) else (some false)) = some r := by rw [if_pos rfl] at H; exact H
                          clear H
                          have H := H1
                          clear H1
                          by_cases c47 : t177 = 0
                          · rw [if_pos c47] at H
                            have c47b0 : (t177 == 0) = true := beq_iff_eq.mpr c47
                            have c47b1 : (t177 != 0) = false := bne_eq_false_iff_eq.mpr c47
                            clear c47
                            by_cases c48 : t180 = 0
                            · rw [if_pos c48] at H
                              have c48b0 : (t180 == 0) = true := beq_iff_eq.mpr c48
                              have c48b1 : (t180 != 0) = false := bne_eq_false_iff_eq.mpr c48
                              clear c48
                              by_cases c49 : t178.toList = t162.toList
                              · rw [if_pos c49] at H
                                have c49b0 : (t178.toList == t162.toList) = true := beq_iff_eq.mpr c49
                                have c49b1 : (t178.toList != t162.toList) = false := bne_eq_false_iff_eq.mpr c49
                                clear c49
                                obtain rfl := Option.some.inj H
                                go_wp2_with (first | ((with_reducible refine gate_callee (f := 15) rfl ?_); refine goesL_ (some 69) rfl rfl Tryz.func15 (by kernel_rfl) rfl #[.string t162, .string t163] rfl (by (try simp only [List.map_toArray, List.map_cons, List.map_nil]); first | done | rfl | (simp only [List.length_drop, List.length_take]; rfl)) ?_; (with_reducible refine (integer_Mul.calls t162 t163 t176 t177 _ ?side1 A33.out).mono ?_); (case side1 => exact Laid.on HT.out (by repeat (first | (with_reducible first | exact HB.out | apply below_alloc | apply pw_below_drewN | apply below_drew1) | exact HB.out))); rintro e w50 ⟨rfl, hb⟩; refine ⟨_, rfl, ?_⟩; have n0_ := Aside0.mk (below_step (by repeat (first | (with_reducible first | exact HB.out | apply below_alloc | apply pw_below_drewN | apply below_drew1) | exact HB.out)) hb); clear HB; have HB := n0_; clear n0_; (try clear hb); (try clear hb2); (try clear hk); (try clear hi)) | ((with_reducible refine gate_callee (f := 17) rfl ?_); refine goesL_ (some 75) rfl rfl Tryz.func17 (by kernel_rfl) rfl #[.string t176, .string t163] rfl (by (try simp only [List.map_toArray, List.map_cons, List.map_nil]); first | done | rfl | (simp only [List.length_drop, List.length_take]; rfl)) ?_; (with_reducible refine (integer_Div.calls t176 t163 t178 t179 t180 _ ?side1 A34.out).mono ?_); (case side1 => exact Laid.on HT.out (by repeat (first | (with_reducible first | exact HB.out | apply below_alloc | apply pw_below_drewN | apply below_drew1) | exact HB.out))); rintro e w51 ⟨rfl, hb⟩; refine ⟨_, rfl, ?_⟩; have n0_ := Aside0.mk (below_step (by repeat (first | (with_reducible first | exact HB.out | apply below_alloc | apply pw_below_drewN | apply below_drew1) | exact HB.out)) hb); clear HB; have HB := n0_; clear n0_; (try clear hb); (try clear hb2); (try clear hk); (try clear hi)) | (go_at_call 18; (with_reducible refine (integer_Compare.calls t165 (⟨#[48]⟩ : ByteArray) t181 _ ?side1 A41.out).mono ?_); (case side1 => exact Laid.on HT.out (by repeat (first | (with_reducible first | exact HB.out | apply below_alloc | apply pw_below_drewN | apply below_drew1) | exact HB.out))); rintro e w52 ⟨rfl, hb⟩; have n0_ := Aside0.mk (below_step (by repeat (first | (with_reducible first | exact HB.out | apply below_alloc | apply pw_below_drewN | apply below_drew1) | exact HB.out)) hb); clear HB; have HB := n0_; clear n0_; (try clear hb); (try clear hb2); (try clear hk); (try clear hi)) | (go_at_call 18; (with_reducible refine (integer_Compare.calls t165 x15_20 t182 _ ?side1 A43.out).mono ?_); (case side1 => exact Laid.on HT.out (by repeat (first | (with_reducible first | exact HB.out | apply below_alloc | apply pw_below_drewN | apply below_drew1) | exact HB.out))); rintro e w53 ⟨rfl, hb⟩; have n0_ := Aside0.mk (below_step (by repeat (first | (with_reducible first | exact HB.out | apply below_alloc | apply pw_below_drewN | apply below_drew1) | exact HB.out)) hb); clear HB; have HB := n0_; clear n0_; (try clear hb); (try clear hb2); (try clear hk); (try clear hi)) | (go_at_call 19; (with_reducible refine (integer_Valid.calls t165 true _ ?side1 A45.out).mono ?_); (case side1 => exact Laid.on HT.out (by repeat (first | (with_reducible first | exact HB.out | apply below_alloc | apply pw_below_drewN | apply below_drew1) | exact HB.out))); rintro e w54 ⟨rfl, hb⟩; have n0_ := Aside0.mk (below_step (by repeat (first | (with_reducible first | exact HB.out | apply below_alloc | apply pw_below_drewN | apply below_drew1) | exact HB.out)) hb); clear HB; have HB := n0_; clear n0_; (try clear hb); (try clear hb2); (try clear hk); (try clear hi)))
                                go_ret
                                exact ⟨by first | rfl | (simp [errW_none, errW_some] <;> rfl) | (simp [*, errW_none, errW_some] <;> rfl), by repeat (first | (with_reducible first | exact HB.out | apply below_alloc | apply pw_below_drewN | apply below_drew1) | exact HB.out)⟩
                              · rw [if_neg c49] at H
                                have c49b0 : (t178.toList == t162.toList) = false := beq_eq_false_iff_ne.mpr c49
                                have c49b1 : (t178.toList != t162.toList) = true := bne_iff_ne.mpr c49
                                obtain rfl := Option.some.inj H
                                go_wp2_with (first | ((with_reducible refine gate_callee (f := 15) rfl ?_); refine goesL_ (some 69) rfl rfl Tryz.func15 (by kernel_rfl) rfl #[.string t162, .string t163] rfl (by (try simp only [List.map_toArray, List.map_cons, List.map_nil]); first | done | rfl | (simp only [List.length_drop, List.length_take]; rfl)) ?_; (with_reducible refine (integer_Mul.calls t162 t163 t176 t177 _ ?side1 A33.out).mono ?_); (case side1 => exact Laid.on HT.out (by repeat (first | (with_reducible first | exact HB.out | apply below_alloc | apply pw_below_drewN | apply below_drew1) | exact HB.out))); rintro e w55 ⟨rfl, hb⟩; refine ⟨_, rfl, ?_⟩; have n0_ := Aside0.mk (below_step (by repeat (first | (with_reducible first | exact HB.out | apply below_alloc | apply pw_below_drewN | apply below_drew1) | exact HB.out)) hb); clear HB; have HB := n0_; clear n0_; (try clear hb); (try clear hb2); (try clear hk); (try clear hi)) | ((with_reducible refine gate_callee (f := 17) rfl ?_); refine goesL_ (some 75) rfl rfl Tryz.func17 (by kernel_rfl) rfl #[.string t176, .string t163] rfl (by (try simp only [List.map_toArray, List.map_cons, List.map_nil]); first | done | rfl | (simp only [List.length_drop, List.length_take]; rfl)) ?_; (with_reducible refine (integer_Div.calls t176 t163 t178 t179 t180 _ ?side1 A34.out).mono ?_); (case side1 => exact Laid.on HT.out (by repeat (first | (with_reducible first | exact HB.out | apply below_alloc | apply pw_below_drewN | apply below_drew1) | exact HB.out))); rintro e w56 ⟨rfl, hb⟩; refine ⟨_, rfl, ?_⟩; have n0_ := Aside0.mk (below_step (by repeat (first | (with_reducible first | exact HB.out | apply below_alloc | apply pw_below_drewN | apply below_drew1) | exact HB.out)) hb); clear HB; have HB := n0_; clear n0_; (try clear hb); (try clear hb2); (try clear hk); (try clear hi)) | (go_at_call 18; (with_reducible refine (integer_Compare.calls t165 (⟨#[48]⟩ : ByteArray) t181 _ ?side1 A41.out).mono ?_); (case side1 => exact Laid.on HT.out (by repeat (first | (with_reducible first | exact HB.out | apply below_alloc | apply pw_below_drewN | apply below_drew1) | exact HB.out))); rintro e w57 ⟨rfl, hb⟩; have n0_ := Aside0.mk (below_step (by repeat (first | (with_reducible first | exact HB.out | apply below_alloc | apply pw_below_drewN | apply below_drew1) | exact HB.out)) hb); clear HB; have HB := n0_; clear n0_; (try clear hb); (try clear hb2); (try clear hk); (try clear hi)) | (go_at_call 18; (with_reducible refine (integer_Compare.calls t165 x15_20 t182 _ ?side1 A43.out).mono ?_); (case side1 => exact Laid.on HT.out (by repeat (first | (with_reducible first | exact HB.out | apply below_alloc | apply pw_below_drewN | apply below_drew1) | exact HB.out))); rintro e w58 ⟨rfl, hb⟩; have n0_ := Aside0.mk (below_step (by repeat (first | (with_reducible first | exact HB.out | apply below_alloc | apply pw_below_drewN | apply below_drew1) | exact HB.out)) hb); clear HB; have HB := n0_; clear n0_; (try clear hb); (try clear hb2); (try clear hk); (try clear hi)) | (go_at_call 19; (with_reducible refine (integer_Valid.calls t165 true _ ?side1 A45.out).mono ?_); (case side1 => exact Laid.on HT.out (by repeat (first | (with_reducible first | exact HB.out | apply below_alloc | apply pw_below_drewN | apply below_drew1) | exact HB.out))); rintro e w59 ⟨rfl, hb⟩; have n0_ := Aside0.mk (below_step (by repeat (first | (with_reducible first | exact HB.out | apply below_alloc | apply pw_below_drewN | apply below_drew1) | exact HB.out)) hb); clear HB; have HB := n0_; clear n0_; (try clear hb); (try clear hb2); (try clear hk); (try clear hi)))
                                go_ret
                                exact ⟨by first | rfl | (simp [errW_none, errW_some] <;> rfl) | (simp [*, errW_none, errW_some] <;> rfl), by repeat (first | (with_reducible first | exact HB.out | apply below_alloc | apply pw_below_drewN | apply below_drew1) | exact HB.out)⟩
                            · rw [if_neg c48] at H
                              have c48b0 : (t180 == 0) = false := beq_eq_false_iff_ne.mpr c48
                              have c48b1 : (t180 != 0) = true := bne_iff_ne.mpr c48
                              obtain rfl := Option.some.inj H
                              go_wp2_with (first | ((with_reducible refine gate_callee (f := 15) rfl ?_); refine goesL_ (some 69) rfl rfl Tryz.func15 (by kernel_rfl) rfl #[.string t162, .string t163] rfl (by (try simp only [List.map_toArray, List.map_cons, List.map_nil]); first | done | rfl | (simp only [List.length_drop, List.length_take]; rfl)) ?_; (with_reducible refine (integer_Mul.calls t162 t163 t176 t177 _ ?side1 A33.out).mono ?_); (case side1 => exact Laid.on HT.out (by repeat (first | (with_reducible first | exact HB.out | apply below_alloc | apply pw_below_drewN | apply below_drew1) | exact HB.out))); rintro e w60 ⟨rfl, hb⟩; refine ⟨_, rfl, ?_⟩; have n0_ := Aside0.mk (below_step (by repeat (first | (with_reducible first | exact HB.out | apply below_alloc | apply pw_below_drewN | apply below_drew1) | exact HB.out)) hb); clear HB; have HB := n0_; clear n0_; (try clear hb); (try clear hb2); (try clear hk); (try clear hi)) | ((with_reducible refine gate_callee (f := 17) rfl ?_); refine goesL_ (some 75) rfl rfl Tryz.func17 (by kernel_rfl) rfl #[.string t176, .string t163] rfl (by (try simp only [List.map_toArray, List.map_cons, List.map_nil]); first | done | rfl | (simp only [List.length_drop, List.length_take]; rfl)) ?_; (with_reducible refine (integer_Div.calls t176 t163 t178 t179 t180 _ ?side1 A34.out).mono ?_); (case side1 => exact Laid.on HT.out (by repeat (first | (with_reducible first | exact HB.out | apply below_alloc | apply pw_below_drewN | apply below_drew1) | exact HB.out))); rintro e w61 ⟨rfl, hb⟩; refine ⟨_, rfl, ?_⟩; have n0_ := Aside0.mk (below_step (by repeat (first | (with_reducible first | exact HB.out | apply below_alloc | apply pw_below_drewN | apply below_drew1) | exact HB.out)) hb); clear HB; have HB := n0_; clear n0_; (try clear hb); (try clear hb2); (try clear hk); (try clear hi)) | (go_at_call 18; (with_reducible refine (integer_Compare.calls t165 (⟨#[48]⟩ : ByteArray) t181 _ ?side1 A41.out).mono ?_); (case side1 => exact Laid.on HT.out (by repeat (first | (with_reducible first | exact HB.out | apply below_alloc | apply pw_below_drewN | apply below_drew1) | exact HB.out))); rintro e w62 ⟨rfl, hb⟩; have n0_ := Aside0.mk (below_step (by repeat (first | (with_reducible first | exact HB.out | apply below_alloc | apply pw_below_drewN | apply below_drew1) | exact HB.out)) hb); clear HB; have HB := n0_; clear n0_; (try clear hb); (try clear hb2); (try clear hk); (try clear hi)) | (go_at_call 18; (with_reducible refine (integer_Compare.calls t165 x15_20 t182 _ ?side1 A43.out).mono ?_); (case side1 => exact Laid.on HT.out (by repeat (first | (with_reducible first | exact HB.out | apply below_alloc | apply pw_below_drewN | apply below_drew1) | exact HB.out))); rintro e w63 ⟨rfl, hb⟩; have n0_ := Aside0.mk (below_step (by repeat (first | (with_reducible first | exact HB.out | apply below_alloc | apply pw_below_drewN | apply below_drew1) | exact HB.out)) hb); clear HB; have HB := n0_; clear n0_; (try clear hb); (try clear hb2); (try clear hk); (try clear hi)) | (go_at_call 19; (with_reducible refine (integer_Valid.calls t165 true _ ?side1 A45.out).mono ?_); (case side1 => exact Laid.on HT.out (by repeat (first | (with_reducible first | exact HB.out | apply below_alloc | apply pw_below_drewN | apply below_drew1) | exact HB.out))); rintro e w64 ⟨rfl, hb⟩; have n0_ := Aside0.mk (below_step (by repeat (first | (with_reducible first | exact HB.out | apply below_alloc | apply pw_below_drewN | apply below_drew1) | exact HB.out)) hb); clear HB; have HB := n0_; clear n0_; (try clear hb); (try clear hb2); (try clear hk); (try clear hi)))
                              go_ret
                              exact ⟨by first | rfl | (simp [errW_none, errW_some] <;> rfl) | (simp [*, errW_none, errW_some] <;> rfl), by repeat (first | (with_reducible first | exact HB.out | apply below_alloc | apply pw_below_drewN | apply below_drew1) | exact HB.out)⟩
                          · rw [if_neg c47] at H
                            have c47b0 : (t177 == 0) = false := beq_eq_false_iff_ne.mpr c47
                            have c47b1 : (t177 != 0) = true := bne_iff_ne.mpr c47
                            obtain rfl := Option.some.inj H
                            go_wp2_with (first | ((with_reducible refine gate_callee (f := 15) rfl ?_); refine goesL_ (some 69) rfl rfl Tryz.func15 (by kernel_rfl) rfl #[.string t162, .string t163] rfl (by (try simp only [List.map_toArray, List.map_cons, List.map_nil]); first | done | rfl | (simp only [List.length_drop, List.length_take]; rfl)) ?_; (with_reducible refine (integer_Mul.calls t162 t163 t176 t177 _ ?side1 A33.out).mono ?_); (case side1 => exact Laid.on HT.out (by repeat (first | (with_reducible first | exact HB.out | apply below_alloc | apply pw_below_drewN | apply below_drew1) | exact HB.out))); rintro e w65 ⟨rfl, hb⟩; refine ⟨_, rfl, ?_⟩; have n0_ := Aside0.mk (below_step (by repeat (first | (with_reducible first | exact HB.out | apply below_alloc | apply pw_below_drewN | apply below_drew1) | exact HB.out)) hb); clear HB; have HB := n0_; clear n0_; (try clear hb); (try clear hb2); (try clear hk); (try clear hi)) | ((with_reducible refine gate_callee (f := 17) rfl ?_); refine goesL_ (some 75) rfl rfl Tryz.func17 (by kernel_rfl) rfl #[.string t176, .string t163] rfl (by (try simp only [List.map_toArray, List.map_cons, List.map_nil]); first | done | rfl | (simp only [List.length_drop, List.length_take]; rfl)) ?_; (with_reducible refine (integer_Div.calls t176 t163 t178 t179 t180 _ ?side1 A34.out).mono ?_); (case side1 => exact Laid.on HT.out (by repeat (first | (with_reducible first | exact HB.out | apply below_alloc | apply pw_below_drewN | apply below_drew1) | exact HB.out))); rintro e w66 ⟨rfl, hb⟩; refine ⟨_, rfl, ?_⟩; have n0_ := Aside0.mk (below_step (by repeat (first | (with_reducible first | exact HB.out | apply below_alloc | apply pw_below_drewN | apply below_drew1) | exact HB.out)) hb); clear HB; have HB := n0_; clear n0_; (try clear hb); (try clear hb2); (try clear hk); (try clear hi)) | (go_at_call 18; (with_reducible refine (integer_Compare.calls t165 (⟨#[48]⟩ : ByteArray) t181 _ ?side1 A41.out).mono ?_); (case side1 => exact Laid.on HT.out (by repeat (first | (with_reducible first | exact HB.out | apply below_alloc | apply pw_below_drewN | apply below_drew1) | exact HB.out))); rintro e w67 ⟨rfl, hb⟩; have n0_ := Aside0.mk (below_step (by repeat (first | (with_reducible first | exact HB.out | apply below_alloc | apply pw_below_drewN | apply below_drew1) | exact HB.out)) hb); clear HB; have HB := n0_; clear n0_; (try clear hb); (try clear hb2); (try clear hk); (try clear hi)) | (go_at_call 18; (with_reducible refine (integer_Compare.calls t165 x15_20 t182 _ ?side1 A43.out).mono ?_); (case side1 => exact Laid.on HT.out (by repeat (first | (with_reducible first | exact HB.out | apply below_alloc | apply pw_below_drewN | apply below_drew1) | exact HB.out))); rintro e w68 ⟨rfl, hb⟩; have n0_ := Aside0.mk (below_step (by repeat (first | (with_reducible first | exact HB.out | apply below_alloc | apply pw_below_drewN | apply below_drew1) | exact HB.out)) hb); clear HB; have HB := n0_; clear n0_; (try clear hb); (try clear hb2); (try clear hk); (try clear hi)) | (go_at_call 19; (with_reducible refine (integer_Valid.calls t165 true _ ?side1 A45.out).mono ?_); (case side1 => exact Laid.on HT.out (by repeat (first | (with_reducible first | exact HB.out | apply below_alloc | apply pw_below_drewN | apply below_drew1) | exact HB.out))); rintro e w69 ⟨rfl, hb⟩; have n0_ := Aside0.mk (below_step (by repeat (first | (with_reducible first | exact HB.out | apply below_alloc | apply pw_below_drewN | apply below_drew1) | exact HB.out)) hb); clear HB; have HB := n0_; clear n0_; (try clear hb); (try clear hb2); (try clear hk); (try clear hi)))
                            go_ret
                            exact ⟨by first | rfl | (simp [errW_none, errW_some] <;> rfl) | (simp [*, errW_none, errW_some] <;> rfl), by repeat (first | (with_reducible first | exact HB.out | apply below_alloc | apply pw_below_drewN | apply below_drew1) | exact HB.out)⟩
                        · replace c46 := Bool.eq_false_iff.mpr c46
                          subst c46
                          have H1 : (some false) = some r := by rw [if_neg (show ¬ (false = true) by decide)] at H; exact H
                          clear H
                          have H := H1
                          clear H1
                          obtain rfl := Option.some.inj H
                          go_wp2_with (first | ((with_reducible refine gate_callee (f := 15) rfl ?_); refine goesL_ (some 69) rfl rfl Tryz.func15 (by kernel_rfl) rfl #[.string t162, .string t163] rfl (by (try simp only [List.map_toArray, List.map_cons, List.map_nil]); first | done | rfl | (simp only [List.length_drop, List.length_take]; rfl)) ?_; (with_reducible refine (integer_Mul.calls t162 t163 t176 t177 _ ?side1 A33.out).mono ?_); (case side1 => exact Laid.on HT.out (by repeat (first | (with_reducible first | exact HB.out | apply below_alloc | apply pw_below_drewN | apply below_drew1) | exact HB.out))); rintro e w70 ⟨rfl, hb⟩; refine ⟨_, rfl, ?_⟩; have n0_ := Aside0.mk (below_step (by repeat (first | (with_reducible first | exact HB.out | apply below_alloc | apply pw_below_drewN | apply below_drew1) | exact HB.out)) hb); clear HB; have HB := n0_; clear n0_; (try clear hb); (try clear hb2); (try clear hk); (try clear hi)) | ((with_reducible refine gate_callee (f := 17) rfl ?_); refine goesL_ (some 75) rfl rfl Tryz.func17 (by kernel_rfl) rfl #[.string t176, .string t163] rfl (by (try simp only [List.map_toArray, List.map_cons, List.map_nil]); first | done | rfl | (simp only [List.length_drop, List.length_take]; rfl)) ?_; (with_reducible refine (integer_Div.calls t176 t163 t178 t179 t180 _ ?side1 A34.out).mono ?_); (case side1 => exact Laid.on HT.out (by repeat (first | (with_reducible first | exact HB.out | apply below_alloc | apply pw_below_drewN | apply below_drew1) | exact HB.out))); rintro e w71 ⟨rfl, hb⟩; refine ⟨_, rfl, ?_⟩; have n0_ := Aside0.mk (below_step (by repeat (first | (with_reducible first | exact HB.out | apply below_alloc | apply pw_below_drewN | apply below_drew1) | exact HB.out)) hb); clear HB; have HB := n0_; clear n0_; (try clear hb); (try clear hb2); (try clear hk); (try clear hi)) | (go_at_call 18; (with_reducible refine (integer_Compare.calls t165 (⟨#[48]⟩ : ByteArray) t181 _ ?side1 A41.out).mono ?_); (case side1 => exact Laid.on HT.out (by repeat (first | (with_reducible first | exact HB.out | apply below_alloc | apply pw_below_drewN | apply below_drew1) | exact HB.out))); rintro e w72 ⟨rfl, hb⟩; have n0_ := Aside0.mk (below_step (by repeat (first | (with_reducible first | exact HB.out | apply below_alloc | apply pw_below_drewN | apply below_drew1) | exact HB.out)) hb); clear HB; have HB := n0_; clear n0_; (try clear hb); (try clear hb2); (try clear hk); (try clear hi)) | (go_at_call 18; (with_reducible refine (integer_Compare.calls t165 x15_20 t182 _ ?side1 A43.out).mono ?_); (case side1 => exact Laid.on HT.out (by repeat (first | (with_reducible first | exact HB.out | apply below_alloc | apply pw_below_drewN | apply below_drew1) | exact HB.out))); rintro e w73 ⟨rfl, hb⟩; have n0_ := Aside0.mk (below_step (by repeat (first | (with_reducible first | exact HB.out | apply below_alloc | apply pw_below_drewN | apply below_drew1) | exact HB.out)) hb); clear HB; have HB := n0_; clear n0_; (try clear hb); (try clear hb2); (try clear hk); (try clear hi)) | (go_at_call 19; (with_reducible refine (integer_Valid.calls t165 false _ ?side1 A45.out).mono ?_); (case side1 => exact Laid.on HT.out (by repeat (first | (with_reducible first | exact HB.out | apply below_alloc | apply pw_below_drewN | apply below_drew1) | exact HB.out))); rintro e w74 ⟨rfl, hb⟩; have n0_ := Aside0.mk (below_step (by repeat (first | (with_reducible first | exact HB.out | apply below_alloc | apply pw_below_drewN | apply below_drew1) | exact HB.out)) hb); clear HB; have HB := n0_; clear n0_; (try clear hb); (try clear hb2); (try clear hk); (try clear hi)))
                          go_ret
                          exact ⟨by first | rfl | (simp [errW_none, errW_some] <;> rfl) | (simp [*, errW_none, errW_some] <;> rfl), by repeat (first | (with_reducible first | exact HB.out | apply below_alloc | apply pw_below_drewN | apply below_drew1) | exact HB.out)⟩
                      · rw [if_neg c44] at H
                        have c44b0 : decide (t182 < 0) = false := decide_eq_false c44
                        clear c44
                        obtain rfl := Option.some.inj H
                        go_wp2_with (first | ((with_reducible refine gate_callee (f := 15) rfl ?_); refine goesL_ (some 69) rfl rfl Tryz.func15 (by kernel_rfl) rfl #[.string t162, .string t163] rfl (by (try simp only [List.map_toArray, List.map_cons, List.map_nil]); first | done | rfl | (simp only [List.length_drop, List.length_take]; rfl)) ?_; (with_reducible refine (integer_Mul.calls t162 t163 t176 t177 _ ?side1 A33.out).mono ?_); (case side1 => exact Laid.on HT.out (by repeat (first | (with_reducible first | exact HB.out | apply below_alloc | apply pw_below_drewN | apply below_drew1) | exact HB.out))); rintro e w75 ⟨rfl, hb⟩; refine ⟨_, rfl, ?_⟩; have n0_ := Aside0.mk (below_step (by repeat (first | (with_reducible first | exact HB.out | apply below_alloc | apply pw_below_drewN | apply below_drew1) | exact HB.out)) hb); clear HB; have HB := n0_; clear n0_; (try clear hb); (try clear hb2); (try clear hk); (try clear hi)) | ((with_reducible refine gate_callee (f := 17) rfl ?_); refine goesL_ (some 75) rfl rfl Tryz.func17 (by kernel_rfl) rfl #[.string t176, .string t163] rfl (by (try simp only [List.map_toArray, List.map_cons, List.map_nil]); first | done | rfl | (simp only [List.length_drop, List.length_take]; rfl)) ?_; (with_reducible refine (integer_Div.calls t176 t163 t178 t179 t180 _ ?side1 A34.out).mono ?_); (case side1 => exact Laid.on HT.out (by repeat (first | (with_reducible first | exact HB.out | apply below_alloc | apply pw_below_drewN | apply below_drew1) | exact HB.out))); rintro e w76 ⟨rfl, hb⟩; refine ⟨_, rfl, ?_⟩; have n0_ := Aside0.mk (below_step (by repeat (first | (with_reducible first | exact HB.out | apply below_alloc | apply pw_below_drewN | apply below_drew1) | exact HB.out)) hb); clear HB; have HB := n0_; clear n0_; (try clear hb); (try clear hb2); (try clear hk); (try clear hi)) | (go_at_call 18; (with_reducible refine (integer_Compare.calls t165 (⟨#[48]⟩ : ByteArray) t181 _ ?side1 A41.out).mono ?_); (case side1 => exact Laid.on HT.out (by repeat (first | (with_reducible first | exact HB.out | apply below_alloc | apply pw_below_drewN | apply below_drew1) | exact HB.out))); rintro e w77 ⟨rfl, hb⟩; have n0_ := Aside0.mk (below_step (by repeat (first | (with_reducible first | exact HB.out | apply below_alloc | apply pw_below_drewN | apply below_drew1) | exact HB.out)) hb); clear HB; have HB := n0_; clear n0_; (try clear hb); (try clear hb2); (try clear hk); (try clear hi)) | (go_at_call 18; (with_reducible refine (integer_Compare.calls t165 x15_20 t182 _ ?side1 A43.out).mono ?_); (case side1 => exact Laid.on HT.out (by repeat (first | (with_reducible first | exact HB.out | apply below_alloc | apply pw_below_drewN | apply below_drew1) | exact HB.out))); rintro e w78 ⟨rfl, hb⟩; have n0_ := Aside0.mk (below_step (by repeat (first | (with_reducible first | exact HB.out | apply below_alloc | apply pw_below_drewN | apply below_drew1) | exact HB.out)) hb); clear HB; have HB := n0_; clear n0_; (try clear hb); (try clear hb2); (try clear hk); (try clear hi)))
                        go_ret
                        exact ⟨by first | rfl | (simp [errW_none, errW_some] <;> rfl) | (simp [*, errW_none, errW_some] <;> rfl), by repeat (first | (with_reducible first | exact HB.out | apply below_alloc | apply pw_below_drewN | apply below_drew1) | exact HB.out)⟩
                    · rw [if_neg c42] at H
                      have c42b0 : decide (0 ≤ t181) = false := decide_eq_false c42
                      clear c42
                      obtain rfl := Option.some.inj H
                      go_wp2_with (first | ((with_reducible refine gate_callee (f := 15) rfl ?_); refine goesL_ (some 69) rfl rfl Tryz.func15 (by kernel_rfl) rfl #[.string t162, .string t163] rfl (by (try simp only [List.map_toArray, List.map_cons, List.map_nil]); first | done | rfl | (simp only [List.length_drop, List.length_take]; rfl)) ?_; (with_reducible refine (integer_Mul.calls t162 t163 t176 t177 _ ?side1 A33.out).mono ?_); (case side1 => exact Laid.on HT.out (by repeat (first | (with_reducible first | exact HB.out | apply below_alloc | apply pw_below_drewN | apply below_drew1) | exact HB.out))); rintro e w79 ⟨rfl, hb⟩; refine ⟨_, rfl, ?_⟩; have n0_ := Aside0.mk (below_step (by repeat (first | (with_reducible first | exact HB.out | apply below_alloc | apply pw_below_drewN | apply below_drew1) | exact HB.out)) hb); clear HB; have HB := n0_; clear n0_; (try clear hb); (try clear hb2); (try clear hk); (try clear hi)) | ((with_reducible refine gate_callee (f := 17) rfl ?_); refine goesL_ (some 75) rfl rfl Tryz.func17 (by kernel_rfl) rfl #[.string t176, .string t163] rfl (by (try simp only [List.map_toArray, List.map_cons, List.map_nil]); first | done | rfl | (simp only [List.length_drop, List.length_take]; rfl)) ?_; (with_reducible refine (integer_Div.calls t176 t163 t178 t179 t180 _ ?side1 A34.out).mono ?_); (case side1 => exact Laid.on HT.out (by repeat (first | (with_reducible first | exact HB.out | apply below_alloc | apply pw_below_drewN | apply below_drew1) | exact HB.out))); rintro e w80 ⟨rfl, hb⟩; refine ⟨_, rfl, ?_⟩; have n0_ := Aside0.mk (below_step (by repeat (first | (with_reducible first | exact HB.out | apply below_alloc | apply pw_below_drewN | apply below_drew1) | exact HB.out)) hb); clear HB; have HB := n0_; clear n0_; (try clear hb); (try clear hb2); (try clear hk); (try clear hi)) | (go_at_call 18; (with_reducible refine (integer_Compare.calls t165 (⟨#[48]⟩ : ByteArray) t181 _ ?side1 A41.out).mono ?_); (case side1 => exact Laid.on HT.out (by repeat (first | (with_reducible first | exact HB.out | apply below_alloc | apply pw_below_drewN | apply below_drew1) | exact HB.out))); rintro e w81 ⟨rfl, hb⟩; have n0_ := Aside0.mk (below_step (by repeat (first | (with_reducible first | exact HB.out | apply below_alloc | apply pw_below_drewN | apply below_drew1) | exact HB.out)) hb); clear HB; have HB := n0_; clear n0_; (try clear hb); (try clear hb2); (try clear hk); (try clear hi)))
                      go_ret
                      exact ⟨by first | rfl | (simp [errW_none, errW_some] <;> rfl) | (simp [*, errW_none, errW_some] <;> rfl), by repeat (first | (with_reducible first | exact HB.out | apply below_alloc | apply pw_below_drewN | apply below_drew1) | exact HB.out)⟩
                  · rw [if_neg c40] at H
                    have c40b0 : (t169.toList == t162.toList) = false := beq_eq_false_iff_ne.mpr c40
                    have c40b1 : (t169.toList != t162.toList) = true := bne_iff_ne.mpr c40
                    obtain rfl := Option.some.inj H
                    go_wp2_with (first | ((with_reducible refine gate_callee (f := 15) rfl ?_); refine goesL_ (some 69) rfl rfl Tryz.func15 (by kernel_rfl) rfl #[.string t162, .string t163] rfl (by (try simp only [List.map_toArray, List.map_cons, List.map_nil]); first | done | rfl | (simp only [List.length_drop, List.length_take]; rfl)) ?_; (with_reducible refine (integer_Mul.calls t162 t163 t176 t177 _ ?side1 A33.out).mono ?_); (case side1 => exact Laid.on HT.out (by repeat (first | (with_reducible first | exact HB.out | apply below_alloc | apply pw_below_drewN | apply below_drew1) | exact HB.out))); rintro e w82 ⟨rfl, hb⟩; refine ⟨_, rfl, ?_⟩; have n0_ := Aside0.mk (below_step (by repeat (first | (with_reducible first | exact HB.out | apply below_alloc | apply pw_below_drewN | apply below_drew1) | exact HB.out)) hb); clear HB; have HB := n0_; clear n0_; (try clear hb); (try clear hb2); (try clear hk); (try clear hi)) | ((with_reducible refine gate_callee (f := 17) rfl ?_); refine goesL_ (some 75) rfl rfl Tryz.func17 (by kernel_rfl) rfl #[.string t176, .string t163] rfl (by (try simp only [List.map_toArray, List.map_cons, List.map_nil]); first | done | rfl | (simp only [List.length_drop, List.length_take]; rfl)) ?_; (with_reducible refine (integer_Div.calls t176 t163 t178 t179 t180 _ ?side1 A34.out).mono ?_); (case side1 => exact Laid.on HT.out (by repeat (first | (with_reducible first | exact HB.out | apply below_alloc | apply pw_below_drewN | apply below_drew1) | exact HB.out))); rintro e w83 ⟨rfl, hb⟩; refine ⟨_, rfl, ?_⟩; have n0_ := Aside0.mk (below_step (by repeat (first | (with_reducible first | exact HB.out | apply below_alloc | apply pw_below_drewN | apply below_drew1) | exact HB.out)) hb); clear HB; have HB := n0_; clear n0_; (try clear hb); (try clear hb2); (try clear hk); (try clear hi)))
                    go_ret
                    exact ⟨by first | rfl | (simp [errW_none, errW_some] <;> rfl) | (simp [*, errW_none, errW_some] <;> rfl), by repeat (first | (with_reducible first | exact HB.out | apply below_alloc | apply pw_below_drewN | apply below_drew1) | exact HB.out)⟩
                · rw [if_neg c39] at H
                  have c39b0 : (x16_20 == 0) = false := beq_eq_false_iff_ne.mpr c39
                  have c39b1 : (x16_20 != 0) = true := bne_iff_ne.mpr c39
                  obtain rfl := Option.some.inj H
                  go_wp2_with (first | ((with_reducible refine gate_callee (f := 15) rfl ?_); refine goesL_ (some 69) rfl rfl Tryz.func15 (by kernel_rfl) rfl #[.string t162, .string t163] rfl (by (try simp only [List.map_toArray, List.map_cons, List.map_nil]); first | done | rfl | (simp only [List.length_drop, List.length_take]; rfl)) ?_; (with_reducible refine (integer_Mul.calls t162 t163 t176 t177 _ ?side1 A33.out).mono ?_); (case side1 => exact Laid.on HT.out (by repeat (first | (with_reducible first | exact HB.out | apply below_alloc | apply pw_below_drewN | apply below_drew1) | exact HB.out))); rintro e w84 ⟨rfl, hb⟩; refine ⟨_, rfl, ?_⟩; have n0_ := Aside0.mk (below_step (by repeat (first | (with_reducible first | exact HB.out | apply below_alloc | apply pw_below_drewN | apply below_drew1) | exact HB.out)) hb); clear HB; have HB := n0_; clear n0_; (try clear hb); (try clear hb2); (try clear hk); (try clear hi)) | ((with_reducible refine gate_callee (f := 17) rfl ?_); refine goesL_ (some 75) rfl rfl Tryz.func17 (by kernel_rfl) rfl #[.string t176, .string t163] rfl (by (try simp only [List.map_toArray, List.map_cons, List.map_nil]); first | done | rfl | (simp only [List.length_drop, List.length_take]; rfl)) ?_; (with_reducible refine (integer_Div.calls t176 t163 t178 t179 t180 _ ?side1 A34.out).mono ?_); (case side1 => exact Laid.on HT.out (by repeat (first | (with_reducible first | exact HB.out | apply below_alloc | apply pw_below_drewN | apply below_drew1) | exact HB.out))); rintro e w85 ⟨rfl, hb⟩; refine ⟨_, rfl, ?_⟩; have n0_ := Aside0.mk (below_step (by repeat (first | (with_reducible first | exact HB.out | apply below_alloc | apply pw_below_drewN | apply below_drew1) | exact HB.out)) hb); clear HB; have HB := n0_; clear n0_; (try clear hb); (try clear hb2); (try clear hk); (try clear hi)))
                  go_ret
                  exact ⟨by first | rfl | (simp [errW_none, errW_some] <;> rfl) | (simp [*, errW_none, errW_some] <;> rfl), by repeat (first | (with_reducible first | exact HB.out | apply below_alloc | apply pw_below_drewN | apply below_drew1) | exact HB.out)⟩
              · rw [if_neg c38] at H
                have c38b0 : (t170 == 0) = false := beq_eq_false_iff_ne.mpr c38
                have c38b1 : (t170 != 0) = true := bne_iff_ne.mpr c38
                obtain rfl := Option.some.inj H
                go_wp2_with (first | ((with_reducible refine gate_callee (f := 15) rfl ?_); refine goesL_ (some 69) rfl rfl Tryz.func15 (by kernel_rfl) rfl #[.string t162, .string t163] rfl (by (try simp only [List.map_toArray, List.map_cons, List.map_nil]); first | done | rfl | (simp only [List.length_drop, List.length_take]; rfl)) ?_; (with_reducible refine (integer_Mul.calls t162 t163 t176 t177 _ ?side1 A33.out).mono ?_); (case side1 => exact Laid.on HT.out (by repeat (first | (with_reducible first | exact HB.out | apply below_alloc | apply pw_below_drewN | apply below_drew1) | exact HB.out))); rintro e w86 ⟨rfl, hb⟩; refine ⟨_, rfl, ?_⟩; have n0_ := Aside0.mk (below_step (by repeat (first | (with_reducible first | exact HB.out | apply below_alloc | apply pw_below_drewN | apply below_drew1) | exact HB.out)) hb); clear HB; have HB := n0_; clear n0_; (try clear hb); (try clear hb2); (try clear hk); (try clear hi)) | ((with_reducible refine gate_callee (f := 17) rfl ?_); refine goesL_ (some 75) rfl rfl Tryz.func17 (by kernel_rfl) rfl #[.string t176, .string t163] rfl (by (try simp only [List.map_toArray, List.map_cons, List.map_nil]); first | done | rfl | (simp only [List.length_drop, List.length_take]; rfl)) ?_; (with_reducible refine (integer_Div.calls t176 t163 t178 t179 t180 _ ?side1 A34.out).mono ?_); (case side1 => exact Laid.on HT.out (by repeat (first | (with_reducible first | exact HB.out | apply below_alloc | apply pw_below_drewN | apply below_drew1) | exact HB.out))); rintro e w87 ⟨rfl, hb⟩; refine ⟨_, rfl, ?_⟩; have n0_ := Aside0.mk (below_step (by repeat (first | (with_reducible first | exact HB.out | apply below_alloc | apply pw_below_drewN | apply below_drew1) | exact HB.out)) hb); clear HB; have HB := n0_; clear n0_; (try clear hb); (try clear hb2); (try clear hk); (try clear hi)))
                go_ret
                exact ⟨by first | rfl | (simp [errW_none, errW_some] <;> rfl) | (simp [*, errW_none, errW_some] <;> rfl), by repeat (first | (with_reducible first | exact HB.out | apply below_alloc | apply pw_below_drewN | apply below_drew1) | exact HB.out)⟩
            · rw [if_neg c37] at H
              have c37b0 : (t168 == 0) = false := beq_eq_false_iff_ne.mpr c37
              have c37b1 : (t168 != 0) = true := bne_iff_ne.mpr c37
              obtain rfl := Option.some.inj H
              go_wp2_with (first | ((with_reducible refine gate_callee (f := 15) rfl ?_); refine goesL_ (some 69) rfl rfl Tryz.func15 (by kernel_rfl) rfl #[.string t162, .string t163] rfl (by (try simp only [List.map_toArray, List.map_cons, List.map_nil]); first | done | rfl | (simp only [List.length_drop, List.length_take]; rfl)) ?_; (with_reducible refine (integer_Mul.calls t162 t163 t176 t177 _ ?side1 A33.out).mono ?_); (case side1 => exact Laid.on HT.out (by repeat (first | (with_reducible first | exact HB.out | apply below_alloc | apply pw_below_drewN | apply below_drew1) | exact HB.out))); rintro e w88 ⟨rfl, hb⟩; refine ⟨_, rfl, ?_⟩; have n0_ := Aside0.mk (below_step (by repeat (first | (with_reducible first | exact HB.out | apply below_alloc | apply pw_below_drewN | apply below_drew1) | exact HB.out)) hb); clear HB; have HB := n0_; clear n0_; (try clear hb); (try clear hb2); (try clear hk); (try clear hi)) | ((with_reducible refine gate_callee (f := 17) rfl ?_); refine goesL_ (some 75) rfl rfl Tryz.func17 (by kernel_rfl) rfl #[.string t176, .string t163] rfl (by (try simp only [List.map_toArray, List.map_cons, List.map_nil]); first | done | rfl | (simp only [List.length_drop, List.length_take]; rfl)) ?_; (with_reducible refine (integer_Div.calls t176 t163 t178 t179 t180 _ ?side1 A34.out).mono ?_); (case side1 => exact Laid.on HT.out (by repeat (first | (with_reducible first | exact HB.out | apply below_alloc | apply pw_below_drewN | apply below_drew1) | exact HB.out))); rintro e w89 ⟨rfl, hb⟩; refine ⟨_, rfl, ?_⟩; have n0_ := Aside0.mk (below_step (by repeat (first | (with_reducible first | exact HB.out | apply below_alloc | apply pw_below_drewN | apply below_drew1) | exact HB.out)) hb); clear HB; have HB := n0_; clear n0_; (try clear hb); (try clear hb2); (try clear hk); (try clear hi)))
              go_ret
              exact ⟨by first | rfl | (simp [errW_none, errW_some] <;> rfl) | (simp [*, errW_none, errW_some] <;> rfl), by repeat (first | (with_reducible first | exact HB.out | apply below_alloc | apply pw_below_drewN | apply below_drew1) | exact HB.out)⟩
          · rw [if_neg c36] at H
            have c36b0 : (t166 == 0) = false := beq_eq_false_iff_ne.mpr c36
            have c36b1 : (t166 != 0) = true := bne_iff_ne.mpr c36
            obtain rfl := Option.some.inj H
            go_wp2_with (first | ((with_reducible refine gate_callee (f := 15) rfl ?_); refine goesL_ (some 69) rfl rfl Tryz.func15 (by kernel_rfl) rfl #[.string t162, .string t163] rfl (by (try simp only [List.map_toArray, List.map_cons, List.map_nil]); first | done | rfl | (simp only [List.length_drop, List.length_take]; rfl)) ?_; (with_reducible refine (integer_Mul.calls t162 t163 t176 t177 _ ?side1 A33.out).mono ?_); (case side1 => exact Laid.on HT.out (by repeat (first | (with_reducible first | exact HB.out | apply below_alloc | apply pw_below_drewN | apply below_drew1) | exact HB.out))); rintro e w90 ⟨rfl, hb⟩; refine ⟨_, rfl, ?_⟩; have n0_ := Aside0.mk (below_step (by repeat (first | (with_reducible first | exact HB.out | apply below_alloc | apply pw_below_drewN | apply below_drew1) | exact HB.out)) hb); clear HB; have HB := n0_; clear n0_; (try clear hb); (try clear hb2); (try clear hk); (try clear hi)) | ((with_reducible refine gate_callee (f := 17) rfl ?_); refine goesL_ (some 75) rfl rfl Tryz.func17 (by kernel_rfl) rfl #[.string t176, .string t163] rfl (by (try simp only [List.map_toArray, List.map_cons, List.map_nil]); first | done | rfl | (simp only [List.length_drop, List.length_take]; rfl)) ?_; (with_reducible refine (integer_Div.calls t176 t163 t178 t179 t180 _ ?side1 A34.out).mono ?_); (case side1 => exact Laid.on HT.out (by repeat (first | (with_reducible first | exact HB.out | apply below_alloc | apply pw_below_drewN | apply below_drew1) | exact HB.out))); rintro e w91 ⟨rfl, hb⟩; refine ⟨_, rfl, ?_⟩; have n0_ := Aside0.mk (below_step (by repeat (first | (with_reducible first | exact HB.out | apply below_alloc | apply pw_below_drewN | apply below_drew1) | exact HB.out)) hb); clear HB; have HB := n0_; clear n0_; (try clear hb); (try clear hb2); (try clear hk); (try clear hi)))
            go_ret
            exact ⟨by first | rfl | (simp [errW_none, errW_some] <;> rfl) | (simp [*, errW_none, errW_some] <;> rfl), by repeat (first | (with_reducible first | exact HB.out | apply below_alloc | apply pw_below_drewN | apply below_drew1) | exact HB.out)⟩
        · replace c35 := Bool.eq_false_iff.mpr c35
          subst c35
          have H1 : (some false) = some r := by rw [if_neg (show ¬ (false = true) by decide)] at H; exact H
          clear H
          have H := H1
          clear H1
          obtain rfl := Option.some.inj H
          go_wp2_with (first | ((with_reducible refine gate_callee (f := 15) rfl ?_); refine goesL_ (some 69) rfl rfl Tryz.func15 (by kernel_rfl) rfl #[.string t162, .string t163] rfl (by (try simp only [List.map_toArray, List.map_cons, List.map_nil]); first | done | rfl | (simp only [List.length_drop, List.length_take]; rfl)) ?_; (with_reducible refine (integer_Mul.calls t162 t163 t176 t177 _ ?side1 A33.out).mono ?_); (case side1 => exact Laid.on HT.out (by repeat (first | (with_reducible first | exact HB.out | apply below_alloc | apply pw_below_drewN | apply below_drew1) | exact HB.out))); rintro e w92 ⟨rfl, hb⟩; refine ⟨_, rfl, ?_⟩; have n0_ := Aside0.mk (below_step (by repeat (first | (with_reducible first | exact HB.out | apply below_alloc | apply pw_below_drewN | apply below_drew1) | exact HB.out)) hb); clear HB; have HB := n0_; clear n0_; (try clear hb); (try clear hb2); (try clear hk); (try clear hi)) | ((with_reducible refine gate_callee (f := 17) rfl ?_); refine goesL_ (some 75) rfl rfl Tryz.func17 (by kernel_rfl) rfl #[.string t176, .string t163] rfl (by (try simp only [List.map_toArray, List.map_cons, List.map_nil]); first | done | rfl | (simp only [List.length_drop, List.length_take]; rfl)) ?_; (with_reducible refine (integer_Div.calls t176 t163 t178 t179 t180 _ ?side1 A34.out).mono ?_); (case side1 => exact Laid.on HT.out (by repeat (first | (with_reducible first | exact HB.out | apply below_alloc | apply pw_below_drewN | apply below_drew1) | exact HB.out))); rintro e w93 ⟨rfl, hb⟩; refine ⟨_, rfl, ?_⟩; have n0_ := Aside0.mk (below_step (by repeat (first | (with_reducible first | exact HB.out | apply below_alloc | apply pw_below_drewN | apply below_drew1) | exact HB.out)) hb); clear HB; have HB := n0_; clear n0_; (try clear hb); (try clear hb2); (try clear hk); (try clear hi)))
          go_ret
          exact ⟨by first | rfl | (simp [errW_none, errW_some] <;> rfl) | (simp [*, errW_none, errW_some] <;> rfl), by repeat (first | (with_reducible first | exact HB.out | apply below_alloc | apply pw_below_drewN | apply below_drew1) | exact HB.out)⟩

/-- THE ONE PURE STATEMENT of newswirelaw03_IntegerDivided: yours. -/
def newswirelaw03_IntegerDivided.Pure : Prop := ∀ (a0 : ByteArray) (a1 : ByteArray), a0.size ≤ 140737488351232 → a1.size ≤ 140737488351232 → ∃ k, newswirelaw03_IntegerDivided.f k a0 a1 = some true
theorem newswirelaw03_IntegerDivided.walk (P : newswirelaw03_IntegerDivided.Pure) (a0 : ByteArray) (a1 : ByteArray) (w : World) (w0 : a0.size ≤ 140737488351232) (w1 : a1.size ≤ 140737488351232) (hT : Laid w) :
    Calls Tryz.prog 4 #[.string a0, .string a1] w fun e w' => e = .returned (.bool true) ∧ Below w.heap.size w w' := by
  obtain ⟨k, h⟩ := P a0 a1 w0 w1
  refine (newswirelaw03_IntegerDivided.calls k a0 a1 true w hT h).mono ?_
  rintro e w' ⟨rfl, hd⟩
  exact ⟨rfl, hd⟩

/-! ### newswirelaw03_IntegerRoot: function 6 -/
def newswirelaw03_IntegerRoot.j0 : Nat → Bool → ByteArray → ByteArray → Int → Bool → Option (Bool)
  | 0, _, _, _, _, _ => none
  | k + 1, x3, x4, x5, x6, x62 => if x62 = true then (some false) else ((integer_Compare.f x4 (⟨#[48]⟩ : ByteArray)).bind fun t194 => (if t194 < 0 then (if x3 = true then (if x6 = 30 then (some (x5.toList == ([] : List UInt8))) else (some false)) else (some false)) else ((integer_Mul.f x5 x5).bind fun bt195 => ((integer_Add.f x5 (⟨#[49]⟩ : ByteArray)).bind fun bt197 => ((integer_Mul.f bt197.1 bt197.1).bind fun bt199 => (if x3 = true then (if x6 = 0 then (if bt195.2 = 0 then (if bt197.2 = 0 then (if bt199.2 = 0 then ((integer_Compare.f bt195.1 x4).bind fun t201 => (if t201 ≤ 0 then ((integer_Compare.f bt199.1 x4).bind fun t202 => (some (decide (t202 > 0)))) else (some false))) else (some false)) else (some false)) else (some false)) else (some false)) else (some false)))))))
def newswirelaw03_IntegerRoot.f (k : Nat) (a0 : ByteArray) : Option (Bool) := (newswirelaw03_sane.f k).bind fun t184 => ((newswireref03_Made.f k a0 80).bind fun t185 => ((integer_Root.f t185).bind fun bt186 => ((integer_Mul.f t185 t185).bind fun bt188 => ((integer_Root.f bt188.1).bind fun bt190 => ((integer_Add.f bt190.1 t185).bind fun bt192 => (if bt188.2 = 0 then (if bt190.2 = 0 then (if bt192.2 = 0 then (if bt190.1.toList = t185.toList then (newswirelaw03_IntegerRoot.j0 k t184 t185 bt186.1 bt186.2 false) else (newswirelaw03_IntegerRoot.j0 k t184 t185 bt186.1 bt186.2 (bt192.1.toList != ([48] : List UInt8)))) else (newswirelaw03_IntegerRoot.j0 k t184 t185 bt186.1 bt186.2 true)) else (newswirelaw03_IntegerRoot.j0 k t184 t185 bt186.1 bt186.2 true)) else (newswirelaw03_IntegerRoot.j0 k t184 t185 bt186.1 bt186.2 true)))))))
theorem newswirelaw03_IntegerRoot.mono_l : ∀ k, (∀ y0 y1 y2 y3 y4, LeO (newswirelaw03_IntegerRoot.j0 k y0 y1 y2 y3 y4) (newswirelaw03_IntegerRoot.j0 (k + 1) y0 y1 y2 y3 y4))
  | 0 => fun _ _ _ _ _ r h => by simp [newswirelaw03_IntegerRoot.j0] at h
  | k + 1 => by
    have ih0 := newswirelaw03_IntegerRoot.mono_l k
    · intro y0 y1 y2 y3 y4
      unfold newswirelaw03_IntegerRoot.j0
      repeat' first
      | (with_reducible exact ih0 _ _ _ _ _)
      | (with_reducible exact newswirelaw03_sane.mono _)
      | (with_reducible exact newswireref03_Made.mono _ _ _)
      | (with_reducible exact LeO.refl _)
      | (with_reducible exact LeO.none _)
      | (with_reducible refine LeO.ite ?_ ?_)
      | (with_reducible refine LeO.bind ?_ (fun _ => ?_))
      | exact ih0 _ _ _ _ _
      | exact newswirelaw03_sane.mono _
      | exact newswireref03_Made.mono _ _ _
      | exact LeO.none _
      | refine LeO.ite ?_ ?_
      | refine LeO.bind ?_ (fun _ => ?_)
theorem newswirelaw03_IntegerRoot.mono : ∀ a0 k, LeO (newswirelaw03_IntegerRoot.f k a0) (newswirelaw03_IntegerRoot.f (k + 1) a0) := by
  intro a0 k
  have ih0 := newswirelaw03_IntegerRoot.mono_l k
  unfold newswirelaw03_IntegerRoot.f
  repeat' first
      | (with_reducible exact ih0 _ _ _ _ _)
      | (with_reducible exact newswirelaw03_sane.mono _)
      | (with_reducible exact newswireref03_Made.mono _ _ _)
      | (with_reducible exact LeO.refl _)
      | (with_reducible exact LeO.none _)
      | (with_reducible refine LeO.ite ?_ ?_)
      | (with_reducible refine LeO.bind ?_ (fun _ => ?_))
      | exact ih0 _ _ _ _ _
      | exact newswirelaw03_sane.mono _
      | exact newswireref03_Made.mono _ _ _
      | exact LeO.none _
      | refine LeO.ite ?_ ?_
      | refine LeO.bind ?_ (fun _ => ?_)
set_option maxHeartbeats 8000000 in
set_option maxRecDepth 100000 in
theorem newswirelaw03_IntegerRoot.calls (k : Nat) (a0 : ByteArray) (r : Bool) (w : World) (hT : Laid w) (h : newswirelaw03_IntegerRoot.f k a0 = some r) :
    Calls Tryz.prog 6 #[.string a0] w fun e w' => e = .returned (.bool r) ∧ Below w.heap.size w w' := by
  have HT := Aside0.mk hT
  clear hT
  have HB := Aside0.mk (Below.refl w.heap.size w)
  have H : ((newswirelaw03_sane.f k).bind fun t184 => ((newswireref03_Made.f k a0 80).bind fun t185 => ((integer_Root.f t185).bind fun bt186 => ((integer_Mul.f t185 t185).bind fun bt188 => ((integer_Root.f bt188.1).bind fun bt190 => ((integer_Add.f bt190.1 t185).bind fun bt192 => (if bt188.2 = 0 then (if bt190.2 = 0 then (if bt192.2 = 0 then (if bt190.1.toList = t185.toList then (newswirelaw03_IntegerRoot.j0 k t184 t185 bt186.1 bt186.2 false) else (newswirelaw03_IntegerRoot.j0 k t184 t185 bt186.1 bt186.2 (bt192.1.toList != ([48] : List UInt8)))) else (newswirelaw03_IntegerRoot.j0 k t184 t185 bt186.1 bt186.2 true)) else (newswirelaw03_IntegerRoot.j0 k t184 t185 bt186.1 bt186.2 true)) else (newswirelaw03_IntegerRoot.j0 k t184 t185 bt186.1 bt186.2 true)))))))) = some r := h
  clear h
  replace H := Option.bind_eq_some_iff.mp H
  obtain ⟨t184, A20, H⟩ := H
  replace H : ((newswireref03_Made.f k a0 80).bind fun t185 => ((integer_Root.f t185).bind fun bt186 => ((integer_Mul.f t185 t185).bind fun bt188 => ((integer_Root.f bt188.1).bind fun bt190 => ((integer_Add.f bt190.1 t185).bind fun bt192 => (if bt188.2 = 0 then (if bt190.2 = 0 then (if bt192.2 = 0 then (if bt190.1.toList = t185.toList then (newswirelaw03_IntegerRoot.j0 k t184 t185 bt186.1 bt186.2 false) else (newswirelaw03_IntegerRoot.j0 k t184 t185 bt186.1 bt186.2 (bt192.1.toList != ([48] : List UInt8)))) else (newswirelaw03_IntegerRoot.j0 k t184 t185 bt186.1 bt186.2 true)) else (newswirelaw03_IntegerRoot.j0 k t184 t185 bt186.1 bt186.2 true)) else (newswirelaw03_IntegerRoot.j0 k t184 t185 bt186.1 bt186.2 true))))))) = some r := H
  have A2 := Aside0.mk A20
  clear A20
  replace H := Option.bind_eq_some_iff.mp H
  obtain ⟨t185, A30, H⟩ := H
  replace H : ((integer_Root.f t185).bind fun bt186 => ((integer_Mul.f t185 t185).bind fun bt188 => ((integer_Root.f bt188.1).bind fun bt190 => ((integer_Add.f bt190.1 t185).bind fun bt192 => (if bt188.2 = 0 then (if bt190.2 = 0 then (if bt192.2 = 0 then (if bt190.1.toList = t185.toList then (newswirelaw03_IntegerRoot.j0 k t184 t185 bt186.1 bt186.2 false) else (newswirelaw03_IntegerRoot.j0 k t184 t185 bt186.1 bt186.2 (bt192.1.toList != ([48] : List UInt8)))) else (newswirelaw03_IntegerRoot.j0 k t184 t185 bt186.1 bt186.2 true)) else (newswirelaw03_IntegerRoot.j0 k t184 t185 bt186.1 bt186.2 true)) else (newswirelaw03_IntegerRoot.j0 k t184 t185 bt186.1 bt186.2 true)))))) = some r := H
  have A3 := Aside0.mk A30
  clear A30
  replace H := Option.bind_eq_some_iff.mp H
  obtain ⟨⟨t186, t187⟩, A40, H⟩ := H
  replace H : ((integer_Mul.f t185 t185).bind fun bt188 => ((integer_Root.f bt188.1).bind fun bt190 => ((integer_Add.f bt190.1 t185).bind fun bt192 => (if bt188.2 = 0 then (if bt190.2 = 0 then (if bt192.2 = 0 then (if bt190.1.toList = t185.toList then (newswirelaw03_IntegerRoot.j0 k t184 t185 t186 t187 false) else (newswirelaw03_IntegerRoot.j0 k t184 t185 t186 t187 (bt192.1.toList != ([48] : List UInt8)))) else (newswirelaw03_IntegerRoot.j0 k t184 t185 t186 t187 true)) else (newswirelaw03_IntegerRoot.j0 k t184 t185 t186 t187 true)) else (newswirelaw03_IntegerRoot.j0 k t184 t185 t186 t187 true))))) = some r := H
  have A4 := Aside0.mk A40
  clear A40
  replace H := Option.bind_eq_some_iff.mp H
  obtain ⟨⟨t188, t189⟩, A50, H⟩ := H
  replace H : ((integer_Root.f t188).bind fun bt190 => ((integer_Add.f bt190.1 t185).bind fun bt192 => (if t189 = 0 then (if bt190.2 = 0 then (if bt192.2 = 0 then (if bt190.1.toList = t185.toList then (newswirelaw03_IntegerRoot.j0 k t184 t185 t186 t187 false) else (newswirelaw03_IntegerRoot.j0 k t184 t185 t186 t187 (bt192.1.toList != ([48] : List UInt8)))) else (newswirelaw03_IntegerRoot.j0 k t184 t185 t186 t187 true)) else (newswirelaw03_IntegerRoot.j0 k t184 t185 t186 t187 true)) else (newswirelaw03_IntegerRoot.j0 k t184 t185 t186 t187 true)))) = some r := H
  have A5 := Aside0.mk A50
  clear A50
  replace H := Option.bind_eq_some_iff.mp H
  obtain ⟨⟨t190, t191⟩, A60, H⟩ := H
  replace H : ((integer_Add.f t190 t185).bind fun bt192 => (if t189 = 0 then (if t191 = 0 then (if bt192.2 = 0 then (if t190.toList = t185.toList then (newswirelaw03_IntegerRoot.j0 k t184 t185 t186 t187 false) else (newswirelaw03_IntegerRoot.j0 k t184 t185 t186 t187 (bt192.1.toList != ([48] : List UInt8)))) else (newswirelaw03_IntegerRoot.j0 k t184 t185 t186 t187 true)) else (newswirelaw03_IntegerRoot.j0 k t184 t185 t186 t187 true)) else (newswirelaw03_IntegerRoot.j0 k t184 t185 t186 t187 true))) = some r := H
  have A6 := Aside0.mk A60
  clear A60
  replace H := Option.bind_eq_some_iff.mp H
  obtain ⟨⟨t192, t193⟩, A70, H⟩ := H
  replace H : (if t189 = 0 then (if t191 = 0 then (if t193 = 0 then (if t190.toList = t185.toList then (newswirelaw03_IntegerRoot.j0 k t184 t185 t186 t187 false) else (newswirelaw03_IntegerRoot.j0 k t184 t185 t186 t187 (t192.toList != ([48] : List UInt8)))) else (newswirelaw03_IntegerRoot.j0 k t184 t185 t186 t187 true)) else (newswirelaw03_IntegerRoot.j0 k t184 t185 t186 t187 true)) else (newswirelaw03_IntegerRoot.j0 k t184 t185 t186 t187 true)) = some r := H
  have A7 := Aside0.mk A70
  clear A70
  have HC8 := Aside0.mk H
  clear H
  go_enter Tryz.func6, Tryz.ntmps6
  go_upto_region 7 with (first | ((with_reducible refine gate_callee (f := 12) rfl ?_); refine goesL_ (some 19) rfl rfl Tryz.func12 (by kernel_rfl) rfl #[] rfl (by (try simp only [List.map_toArray, List.map_cons, List.map_nil]); first | done | rfl | (simp only [List.length_drop, List.length_take]; rfl)) ?_; (with_reducible refine (newswirelaw03_sane.calls k  t184 _ ?side1 A2.out).mono ?_); (case side1 => exact Laid.on HT.out (by repeat (first | (with_reducible first | exact HB.out | apply below_alloc | apply pw_below_drewN | apply below_drew1) | exact HB.out))); rintro e w9 ⟨rfl, hb⟩; refine ⟨_, rfl, ?_⟩; have n0_ := Aside0.mk (below_step (by repeat (first | (with_reducible first | exact HB.out | apply below_alloc | apply pw_below_drewN | apply below_drew1) | exact HB.out)) hb); clear HB; have HB := n0_; clear n0_; (try clear hb); (try clear hb2); (try clear hk); (try clear hi)) | ((with_reducible refine gate_callee (f := 13) rfl ?_); refine goesL_ (some 21) rfl rfl Tryz.func13 (by kernel_rfl) rfl #[.string a0, .int .i64 80] rfl (by (try simp only [List.map_toArray, List.map_cons, List.map_nil]); first | done | rfl | (simp only [List.length_drop, List.length_take]; rfl)) ?_; (with_reducible refine (newswireref03_Made.calls k a0 80 t185 _ A3.out).mono ?_); rintro e w10 ⟨rfl, hb⟩; refine ⟨_, rfl, ?_⟩; have n0_ := Aside0.mk (below_step (by repeat (first | (with_reducible first | exact HB.out | apply below_alloc | apply pw_below_drewN | apply below_drew1) | exact HB.out)) hb); clear HB; have HB := n0_; clear n0_; (try clear hb); (try clear hb2); (try clear hk); (try clear hi)) | ((with_reducible refine gate_callee (f := 21) rfl ?_); refine goesL_ (some 24) rfl rfl Tryz.func21 (by kernel_rfl) rfl #[.string t185] rfl (by (try simp only [List.map_toArray, List.map_cons, List.map_nil]); first | done | rfl | (simp only [List.length_drop, List.length_take]; rfl)) ?_; (with_reducible refine (integer_Root.calls t185 t186 t187 _ ?side1 A4.out).mono ?_); (case side1 => exact Laid.on HT.out (by repeat (first | (with_reducible first | exact HB.out | apply below_alloc | apply pw_below_drewN | apply below_drew1) | exact HB.out))); rintro e w11 ⟨rfl, hb⟩; refine ⟨_, rfl, ?_⟩; have n0_ := Aside0.mk (below_step (by repeat (first | (with_reducible first | exact HB.out | apply below_alloc | apply pw_below_drewN | apply below_drew1) | exact HB.out)) hb); clear HB; have HB := n0_; clear n0_; (try clear hb); (try clear hb2); (try clear hk); (try clear hi)) | ((with_reducible refine gate_callee (f := 15) rfl ?_); refine goesL_ (some 30) rfl rfl Tryz.func15 (by kernel_rfl) rfl #[.string t185, .string t185] rfl (by (try simp only [List.map_toArray, List.map_cons, List.map_nil]); first | done | rfl | (simp only [List.length_drop, List.length_take]; rfl)) ?_; (with_reducible refine (integer_Mul.calls t185 t185 t188 t189 _ ?side1 A5.out).mono ?_); (case side1 => exact Laid.on HT.out (by repeat (first | (with_reducible first | exact HB.out | apply below_alloc | apply pw_below_drewN | apply below_drew1) | exact HB.out))); rintro e w12 ⟨rfl, hb⟩; refine ⟨_, rfl, ?_⟩; have n0_ := Aside0.mk (below_step (by repeat (first | (with_reducible first | exact HB.out | apply below_alloc | apply pw_below_drewN | apply below_drew1) | exact HB.out)) hb); clear HB; have HB := n0_; clear n0_; (try clear hb); (try clear hb2); (try clear hk); (try clear hi)) | ((with_reducible refine gate_callee (f := 21) rfl ?_); refine goesL_ (some 35) rfl rfl Tryz.func21 (by kernel_rfl) rfl #[.string t188] rfl (by (try simp only [List.map_toArray, List.map_cons, List.map_nil]); first | done | rfl | (simp only [List.length_drop, List.length_take]; rfl)) ?_; (with_reducible refine (integer_Root.calls t188 t190 t191 _ ?side1 A6.out).mono ?_); (case side1 => exact Laid.on HT.out (by repeat (first | (with_reducible first | exact HB.out | apply below_alloc | apply pw_below_drewN | apply below_drew1) | exact HB.out))); rintro e w13 ⟨rfl, hb⟩; refine ⟨_, rfl, ?_⟩; have n0_ := Aside0.mk (below_step (by repeat (first | (with_reducible first | exact HB.out | apply below_alloc | apply pw_below_drewN | apply below_drew1) | exact HB.out)) hb); clear HB; have HB := n0_; clear n0_; (try clear hb); (try clear hb2); (try clear hk); (try clear hi)) | ((with_reducible refine gate_callee (f := 14) rfl ?_); refine goesL_ (some 41) rfl rfl Tryz.func14 (by kernel_rfl) rfl #[.string t190, .string t185] rfl (by (try simp only [List.map_toArray, List.map_cons, List.map_nil]); first | done | rfl | (simp only [List.length_drop, List.length_take]; rfl)) ?_; (with_reducible refine (integer_Add.calls t190 t185 t192 t193 _ ?side1 A7.out).mono ?_); (case side1 => exact Laid.on HT.out (by repeat (first | (with_reducible first | exact HB.out | apply below_alloc | apply pw_below_drewN | apply below_drew1) | exact HB.out))); rintro e w14 ⟨rfl, hb⟩; refine ⟨_, rfl, ?_⟩; have n0_ := Aside0.mk (below_step (by repeat (first | (with_reducible first | exact HB.out | apply below_alloc | apply pw_below_drewN | apply below_drew1) | exact HB.out)) hb); clear HB; have HB := n0_; clear n0_; (try clear hb); (try clear hb2); (try clear hk); (try clear hi)))
  (try simp only [Act.put, List.setIfInBounds_toArray, List.set_cons_zero, List.set_cons_succ])
  go_cut [62] (fun v62 wc => ∃ (kq : Nat) (x62_7 : Bool), v62 = .bool x62_7 ∧ Aside0 (newswirelaw03_IntegerRoot.j0 kq t184 t185 t186 t187 x62_7 = some r) ∧ Aside0 (kq ≤ k) ∧ Aside0 (Below w.heap.size w wc))
  case first =>
    have H := HC8.out
    clear HC8
    by_cases c15 : t189 = 0
    · rw [if_pos c15] at H
      have c15b0 : (t189 == 0) = true := beq_iff_eq.mpr c15
      have c15b1 : (t189 != 0) = false := bne_eq_false_iff_eq.mpr c15
      clear c15
      (first | rw [c15b0] | (simp only [i64_w, i32_w]; rw [c15b0]) | skip)
      by_cases c16 : t191 = 0
      · rw [if_pos c16] at H
        have c16b0 : (t191 == 0) = true := beq_iff_eq.mpr c16
        have c16b1 : (t191 != 0) = false := bne_eq_false_iff_eq.mpr c16
        clear c16
        by_cases c17 : t193 = 0
        · rw [if_pos c17] at H
          have c17b0 : (t193 == 0) = true := beq_iff_eq.mpr c17
          have c17b1 : (t193 != 0) = false := bne_eq_false_iff_eq.mpr c17
          clear c17
          by_cases c18 : t190.toList = t185.toList
          · rw [if_pos c18] at H
            have c18b0 : (t190.toList == t185.toList) = true := beq_iff_eq.mpr c18
            have c18b1 : (t190.toList != t185.toList) = false := bne_eq_false_iff_eq.mpr c18
            clear c18
            have H' := Aside0.mk H
            clear H
            go_wp2
            go_meet
            case rel => exact ⟨_, (false), (by first | rfl | (simp; done) | (simp [*]; done)), H', ⟨by first | omega | exact Nat.le_refl _⟩, ⟨by repeat (first | (with_reducible first | exact HB.out | apply below_alloc | apply pw_below_drewN | apply below_drew1) | exact HB.out)⟩⟩
          · rw [if_neg c18] at H
            have c18b0 : (t190.toList == t185.toList) = false := beq_eq_false_iff_ne.mpr c18
            have c18b1 : (t190.toList != t185.toList) = true := bne_iff_ne.mpr c18
            have H' := Aside0.mk H
            clear H
            go_wp2
            go_meet
            case rel => exact ⟨_, ((t192.toList != ([48] : List UInt8))), (by first | rfl | (simp; done) | (simp [*]; done)), H', ⟨by first | omega | exact Nat.le_refl _⟩, ⟨by repeat (first | (with_reducible first | exact HB.out | apply below_alloc | apply pw_below_drewN | apply below_drew1) | exact HB.out)⟩⟩
        · rw [if_neg c17] at H
          have c17b0 : (t193 == 0) = false := beq_eq_false_iff_ne.mpr c17
          have c17b1 : (t193 != 0) = true := bne_iff_ne.mpr c17
          have H' := Aside0.mk H
          clear H
          go_wp2
          go_meet
          case rel => exact ⟨_, (true), (by first | rfl | (simp; done) | (simp [*]; done)), H', ⟨by first | omega | exact Nat.le_refl _⟩, ⟨by repeat (first | (with_reducible first | exact HB.out | apply below_alloc | apply pw_below_drewN | apply below_drew1) | exact HB.out)⟩⟩
      · rw [if_neg c16] at H
        have c16b0 : (t191 == 0) = false := beq_eq_false_iff_ne.mpr c16
        have c16b1 : (t191 != 0) = true := bne_iff_ne.mpr c16
        have H' := Aside0.mk H
        clear H
        go_wp2
        go_meet
        case rel => exact ⟨_, (true), (by first | rfl | (simp; done) | (simp [*]; done)), H', ⟨by first | omega | exact Nat.le_refl _⟩, ⟨by repeat (first | (with_reducible first | exact HB.out | apply below_alloc | apply pw_below_drewN | apply below_drew1) | exact HB.out)⟩⟩
    · rw [if_neg c15] at H
      have c15b0 : (t189 == 0) = false := beq_eq_false_iff_ne.mpr c15
      have c15b1 : (t189 != 0) = true := bne_iff_ne.mpr c15
      (first | rw [c15b0] | (simp only [i64_w, i32_w]; rw [c15b0]) | skip)
      have H' := Aside0.mk H
      clear H
      go_wp2
      go_meet
      case rel => exact ⟨_, (true), (by first | rfl | (simp; done) | (simp [*]; done)), H', ⟨by first | omega | exact Nat.le_refl _⟩, ⟨by repeat (first | (with_reducible first | exact HB.out | apply below_alloc | apply pw_below_drewN | apply below_drew1) | exact HB.out)⟩⟩
  case rest =>
    clear HC8
    try clear c1
    try clear c2
    try clear p2
    try clear c6
    try clear c12
    try clear c13
    try clear c14
    try clear c15
    try clear c15b0
    try clear c15b1
    try clear c16
    try clear c16b0
    try clear c16b1
    try clear c17
    try clear c17b0
    try clear c17b1
    try clear c18
    try clear c18b0
    try clear c18b1
    obtain ⟨kq, x62_7, rfl, HA, HJ7, HB⟩ := hcut
    cases kq with
    | zero => exact absurd HA.out (by simp [newswirelaw03_IntegerRoot.j0])
    | succ kj7 =>
      have H := HA.out
      clear HA
      simp only [newswirelaw03_IntegerRoot.j0] at H
      by_cases c19 : x62_7 = true
      · subst c19
        have H1 : (some false) = some r := by rw [if_pos rfl] at H; exact H
        clear H
        have H := H1
        clear H1
        obtain rfl := Option.some.inj H
        go_wp2
        go_ret
        exact ⟨by first | rfl | (simp [errW_none, errW_some] <;> rfl) | (simp [*, errW_none, errW_some] <;> rfl), by repeat (first | (with_reducible first | exact HB.out | apply below_alloc | apply pw_below_drewN | apply below_drew1) | exact HB.out)⟩
      · replace c19 := Bool.eq_false_iff.mpr c19
        subst c19
        have H1 : ((integer_Compare.f t185 (⟨#[48]⟩ : ByteArray)).bind fun t194 => (if t194 < 0 then (if t184 = true then (if t187 = 30 then (some (t186.toList == ([] : List UInt8))) else (some false)) else (some false)) else ((integer_Mul.f t186 t186).bind fun bt195 => ((integer_Add.f t186 (⟨#[49]⟩ : ByteArray)).bind fun bt197 => ((integer_Mul.f bt197.1 bt197.1).bind fun bt199 => (if t184 = true then (if t187 = 0 then (if bt195.2 = 0 then (if bt197.2 = 0 then (if bt199.2 = 0 then ((integer_Compare.f bt195.1 t185).bind fun t201 => (if t201 ≤ 0 then ((integer_Compare.f bt199.1 t185).bind fun t202 => (some (decide (t202 > 0)))) else (some false))) else (some false)) else (some false)) else (some false)) else (some false)) else (some false))))))) = some r := by rw [if_neg (show ¬ (false = true) by decide)] at H; exact H
        clear H
        have H := H1
        clear H1
        replace H := Option.bind_eq_some_iff.mp H
        obtain ⟨t194, A200, H⟩ := H
        replace H : (if t194 < 0 then (if t184 = true then (if t187 = 30 then (some (t186.toList == ([] : List UInt8))) else (some false)) else (some false)) else ((integer_Mul.f t186 t186).bind fun bt195 => ((integer_Add.f t186 (⟨#[49]⟩ : ByteArray)).bind fun bt197 => ((integer_Mul.f bt197.1 bt197.1).bind fun bt199 => (if t184 = true then (if t187 = 0 then (if bt195.2 = 0 then (if bt197.2 = 0 then (if bt199.2 = 0 then ((integer_Compare.f bt195.1 t185).bind fun t201 => (if t201 ≤ 0 then ((integer_Compare.f bt199.1 t185).bind fun t202 => (some (decide (t202 > 0)))) else (some false))) else (some false)) else (some false)) else (some false)) else (some false)) else (some false)))))) = some r := H
        have A20 := Aside0.mk A200
        clear A200
        by_cases c21 : t194 < 0
        · rw [if_pos c21] at H
          have c21b0 : decide (t194 < 0) = true := decide_eq_true c21
          clear c21
          by_cases c22 : t184 = true
          · subst c22
            have H1 : (if t187 = 30 then (some (t186.toList == ([] : List UInt8))) else (some false)) = some r := by rw [if_pos rfl] at H; exact H
            clear H
            have H := H1
            clear H1
            by_cases c23 : t187 = 30
            · rw [if_pos c23] at H
              have c23b0 : (t187 == 30) = true := beq_iff_eq.mpr c23
              have c23b1 : (t187 != 30) = false := bne_eq_false_iff_eq.mpr c23
              clear c23
              obtain rfl := Option.some.inj H
              go_wp2_with (first | ((with_reducible refine gate_callee (f := 18) rfl ?_); refine goesL_ (some 64) rfl rfl Tryz.func18 (by kernel_rfl) rfl #[.string t185, .string (⟨#[48]⟩ : ByteArray)] rfl (by (try simp only [List.map_toArray, List.map_cons, List.map_nil]); first | done | rfl | (simp only [List.length_drop, List.length_take]; rfl)) ?_; (with_reducible refine (integer_Compare.calls t185 (⟨#[48]⟩ : ByteArray) t194 _ ?side1 A20.out).mono ?_); (case side1 => exact Laid.on HT.out (by repeat (first | (with_reducible first | exact HB.out | apply below_alloc | apply pw_below_drewN | apply below_drew1) | exact HB.out))); rintro e w24 ⟨rfl, hb⟩; refine ⟨_, rfl, ?_⟩; have n0_ := Aside0.mk (below_step (by repeat (first | (with_reducible first | exact HB.out | apply below_alloc | apply pw_below_drewN | apply below_drew1) | exact HB.out)) hb); clear HB; have HB := n0_; clear n0_; (try clear hb); (try clear hb2); (try clear hk); (try clear hi)))
              go_ret
              exact ⟨by first | rfl | (simp [errW_none, errW_some] <;> rfl) | (simp [*, errW_none, errW_some] <;> rfl), by repeat (first | (with_reducible first | exact HB.out | apply below_alloc | apply pw_below_drewN | apply below_drew1) | exact HB.out)⟩
            · rw [if_neg c23] at H
              have c23b0 : (t187 == 30) = false := beq_eq_false_iff_ne.mpr c23
              have c23b1 : (t187 != 30) = true := bne_iff_ne.mpr c23
              obtain rfl := Option.some.inj H
              go_wp2_with (first | ((with_reducible refine gate_callee (f := 18) rfl ?_); refine goesL_ (some 64) rfl rfl Tryz.func18 (by kernel_rfl) rfl #[.string t185, .string (⟨#[48]⟩ : ByteArray)] rfl (by (try simp only [List.map_toArray, List.map_cons, List.map_nil]); first | done | rfl | (simp only [List.length_drop, List.length_take]; rfl)) ?_; (with_reducible refine (integer_Compare.calls t185 (⟨#[48]⟩ : ByteArray) t194 _ ?side1 A20.out).mono ?_); (case side1 => exact Laid.on HT.out (by repeat (first | (with_reducible first | exact HB.out | apply below_alloc | apply pw_below_drewN | apply below_drew1) | exact HB.out))); rintro e w25 ⟨rfl, hb⟩; refine ⟨_, rfl, ?_⟩; have n0_ := Aside0.mk (below_step (by repeat (first | (with_reducible first | exact HB.out | apply below_alloc | apply pw_below_drewN | apply below_drew1) | exact HB.out)) hb); clear HB; have HB := n0_; clear n0_; (try clear hb); (try clear hb2); (try clear hk); (try clear hi)))
              go_ret
              exact ⟨by first | rfl | (simp [errW_none, errW_some] <;> rfl) | (simp [*, errW_none, errW_some] <;> rfl), by repeat (first | (with_reducible first | exact HB.out | apply below_alloc | apply pw_below_drewN | apply below_drew1) | exact HB.out)⟩
          · replace c22 := Bool.eq_false_iff.mpr c22
            subst c22
            have H1 : (some false) = some r := by rw [if_neg (show ¬ (false = true) by decide)] at H; exact H
            clear H
            have H := H1
            clear H1
            obtain rfl := Option.some.inj H
            go_wp2_with (first | ((with_reducible refine gate_callee (f := 18) rfl ?_); refine goesL_ (some 64) rfl rfl Tryz.func18 (by kernel_rfl) rfl #[.string t185, .string (⟨#[48]⟩ : ByteArray)] rfl (by (try simp only [List.map_toArray, List.map_cons, List.map_nil]); first | done | rfl | (simp only [List.length_drop, List.length_take]; rfl)) ?_; (with_reducible refine (integer_Compare.calls t185 (⟨#[48]⟩ : ByteArray) t194 _ ?side1 A20.out).mono ?_); (case side1 => exact Laid.on HT.out (by repeat (first | (with_reducible first | exact HB.out | apply below_alloc | apply pw_below_drewN | apply below_drew1) | exact HB.out))); rintro e w26 ⟨rfl, hb⟩; refine ⟨_, rfl, ?_⟩; have n0_ := Aside0.mk (below_step (by repeat (first | (with_reducible first | exact HB.out | apply below_alloc | apply pw_below_drewN | apply below_drew1) | exact HB.out)) hb); clear HB; have HB := n0_; clear n0_; (try clear hb); (try clear hb2); (try clear hk); (try clear hi)))
            go_ret
            exact ⟨by first | rfl | (simp [errW_none, errW_some] <;> rfl) | (simp [*, errW_none, errW_some] <;> rfl), by repeat (first | (with_reducible first | exact HB.out | apply below_alloc | apply pw_below_drewN | apply below_drew1) | exact HB.out)⟩
        · rw [if_neg c21] at H
          have c21b0 : decide (t194 < 0) = false := decide_eq_false c21
          clear c21
          replace H := Option.bind_eq_some_iff.mp H
          obtain ⟨⟨t195, t196⟩, A270, H⟩ := H
          replace H : ((integer_Add.f t186 (⟨#[49]⟩ : ByteArray)).bind fun bt197 => ((integer_Mul.f bt197.1 bt197.1).bind fun bt199 => (if t184 = true then (if t187 = 0 then (if t196 = 0 then (if bt197.2 = 0 then (if bt199.2 = 0 then ((integer_Compare.f t195 t185).bind fun t201 => (if t201 ≤ 0 then ((integer_Compare.f bt199.1 t185).bind fun t202 => (some (decide (t202 > 0)))) else (some false))) else (some false)) else (some false)) else (some false)) else (some false)) else (some false)))) = some r := H
          have A27 := Aside0.mk A270
          clear A270
          replace H := Option.bind_eq_some_iff.mp H
          obtain ⟨⟨t197, t198⟩, A280, H⟩ := H
          replace H : ((integer_Mul.f t197 t197).bind fun bt199 => (if t184 = true then (if t187 = 0 then (if t196 = 0 then (if t198 = 0 then (if bt199.2 = 0 then ((integer_Compare.f t195 t185).bind fun t201 => (if t201 ≤ 0 then ((integer_Compare.f bt199.1 t185).bind fun t202 => (some (decide (t202 > 0)))) else (some false))) else (some false)) else (some false)) else (some false)) else (some false)) else (some false))) = some r := H
          have A28 := Aside0.mk A280
          clear A280
          replace H := Option.bind_eq_some_iff.mp H
          obtain ⟨⟨t199, t200⟩, A290, H⟩ := H
          replace H : (if t184 = true then (if t187 = 0 then (if t196 = 0 then (if t198 = 0 then (if t200 = 0 then ((integer_Compare.f t195 t185).bind fun t201 => (if t201 ≤ 0 then ((integer_Compare.f t199 t185).bind fun t202 => (some (decide (t202 > 0)))) else (some false))) else (some false)) else (some false)) else (some false)) else (some false)) else (some false)) = some r := H
          have A29 := Aside0.mk A290
          clear A290
          by_cases c30 : t184 = true
          · subst c30
            have H1 : (if t187 = 0 then (if t196 = 0 then (if t198 = 0 then (if t200 = 0 then ((integer_Compare.f t195 t185).bind fun t201 => (if t201 ≤ 0 then ((integer_Compare.f t199 t185).bind fun t202 => (some (decide (t202 > 0)))) else (some false))) else (some false)) else (some false)) else (some false)) else (some false)) = some r := by rw [if_pos rfl] at H; exact H
            clear H
            have H := H1
            clear H1
            by_cases c31 : t187 = 0
            · rw [if_pos c31] at H
              have c31b0 : (t187 == 0) = true := beq_iff_eq.mpr c31
              have c31b1 : (t187 != 0) = false := bne_eq_false_iff_eq.mpr c31
              clear c31
              by_cases c32 : t196 = 0
              · rw [if_pos c32] at H
                have c32b0 : (t196 == 0) = true := beq_iff_eq.mpr c32
                have c32b1 : (t196 != 0) = false := bne_eq_false_iff_eq.mpr c32
                clear c32
                by_cases c33 : t198 = 0
                · rw [if_pos c33] at H
                  have c33b0 : (t198 == 0) = true := beq_iff_eq.mpr c33
                  have c33b1 : (t198 != 0) = false := bne_eq_false_iff_eq.mpr c33
                  clear c33
                  by_cases c34 : t200 = 0
                  · rw [if_pos c34] at H
                    have c34b0 : (t200 == 0) = true := beq_iff_eq.mpr c34
                    have c34b1 : (t200 != 0) = false := bne_eq_false_iff_eq.mpr c34
                    clear c34
                    replace H := Option.bind_eq_some_iff.mp H
                    obtain ⟨t201, A350, H⟩ := H
                    replace H : (if t201 ≤ 0 then ((integer_Compare.f t199 t185).bind fun t202 => (some (decide (t202 > 0)))) else (some false)) = some r := H
                    have A35 := Aside0.mk A350
                    clear A350
                    by_cases c36 : t201 ≤ 0
                    · rw [if_pos c36] at H
                      have c36b0 : decide (t201 ≤ 0) = true := decide_eq_true c36
                      clear c36
                      replace H := Option.bind_eq_some_iff.mp H
                      obtain ⟨t202, A370, H⟩ := H
                      replace H : (some (decide (t202 > 0))) = some r := H
                      have A37 := Aside0.mk A370
                      clear A370
                      obtain rfl := Option.some.inj H
                      go_wp2_with (first | ((with_reducible refine gate_callee (f := 18) rfl ?_); refine goesL_ (some 64) rfl rfl Tryz.func18 (by kernel_rfl) rfl #[.string t185, .string (⟨#[48]⟩ : ByteArray)] rfl (by (try simp only [List.map_toArray, List.map_cons, List.map_nil]); first | done | rfl | (simp only [List.length_drop, List.length_take]; rfl)) ?_; (with_reducible refine (integer_Compare.calls t185 (⟨#[48]⟩ : ByteArray) t194 _ ?side1 A20.out).mono ?_); (case side1 => exact Laid.on HT.out (by repeat (first | (with_reducible first | exact HB.out | apply below_alloc | apply pw_below_drewN | apply below_drew1) | exact HB.out))); rintro e w38 ⟨rfl, hb⟩; refine ⟨_, rfl, ?_⟩; have n0_ := Aside0.mk (below_step (by repeat (first | (with_reducible first | exact HB.out | apply below_alloc | apply pw_below_drewN | apply below_drew1) | exact HB.out)) hb); clear HB; have HB := n0_; clear n0_; (try clear hb); (try clear hb2); (try clear hk); (try clear hi)) | ((with_reducible refine gate_callee (f := 15) rfl ?_); refine goesL_ (some 78) rfl rfl Tryz.func15 (by kernel_rfl) rfl #[.string t186, .string t186] rfl (by (try simp only [List.map_toArray, List.map_cons, List.map_nil]); first | done | rfl | (simp only [List.length_drop, List.length_take]; rfl)) ?_; (with_reducible refine (integer_Mul.calls t186 t186 t195 t196 _ ?side1 A27.out).mono ?_); (case side1 => exact Laid.on HT.out (by repeat (first | (with_reducible first | exact HB.out | apply below_alloc | apply pw_below_drewN | apply below_drew1) | exact HB.out))); rintro e w39 ⟨rfl, hb⟩; refine ⟨_, rfl, ?_⟩; have n0_ := Aside0.mk (below_step (by repeat (first | (with_reducible first | exact HB.out | apply below_alloc | apply pw_below_drewN | apply below_drew1) | exact HB.out)) hb); clear HB; have HB := n0_; clear n0_; (try clear hb); (try clear hb2); (try clear hk); (try clear hi)) | ((with_reducible refine gate_callee (f := 14) rfl ?_); refine goesL_ (some 83) rfl rfl Tryz.func14 (by kernel_rfl) rfl #[.string t186, .string (⟨#[49]⟩ : ByteArray)] rfl (by (try simp only [List.map_toArray, List.map_cons, List.map_nil]); first | done | rfl | (simp only [List.length_drop, List.length_take]; rfl)) ?_; (with_reducible refine (integer_Add.calls t186 (⟨#[49]⟩ : ByteArray) t197 t198 _ ?side1 A28.out).mono ?_); (case side1 => exact Laid.on HT.out (by repeat (first | (with_reducible first | exact HB.out | apply below_alloc | apply pw_below_drewN | apply below_drew1) | exact HB.out))); rintro e w40 ⟨rfl, hb⟩; refine ⟨_, rfl, ?_⟩; have n0_ := Aside0.mk (below_step (by repeat (first | (with_reducible first | exact HB.out | apply below_alloc | apply pw_below_drewN | apply below_drew1) | exact HB.out)) hb); clear HB; have HB := n0_; clear n0_; (try clear hb); (try clear hb2); (try clear hk); (try clear hi)) | ((with_reducible refine gate_callee (f := 15) rfl ?_); refine goesL_ (some 89) rfl rfl Tryz.func15 (by kernel_rfl) rfl #[.string t197, .string t197] rfl (by (try simp only [List.map_toArray, List.map_cons, List.map_nil]); first | done | rfl | (simp only [List.length_drop, List.length_take]; rfl)) ?_; (with_reducible refine (integer_Mul.calls t197 t197 t199 t200 _ ?side1 A29.out).mono ?_); (case side1 => exact Laid.on HT.out (by repeat (first | (with_reducible first | exact HB.out | apply below_alloc | apply pw_below_drewN | apply below_drew1) | exact HB.out))); rintro e w41 ⟨rfl, hb⟩; refine ⟨_, rfl, ?_⟩; have n0_ := Aside0.mk (below_step (by repeat (first | (with_reducible first | exact HB.out | apply below_alloc | apply pw_below_drewN | apply below_drew1) | exact HB.out)) hb); clear HB; have HB := n0_; clear n0_; (try clear hb); (try clear hb2); (try clear hk); (try clear hi)) | (go_at_call 18; (with_reducible refine (integer_Compare.calls t195 t185 t201 _ ?side1 A35.out).mono ?_); (case side1 => exact Laid.on HT.out (by repeat (first | (with_reducible first | exact HB.out | apply below_alloc | apply pw_below_drewN | apply below_drew1) | exact HB.out))); rintro e w42 ⟨rfl, hb⟩; have n0_ := Aside0.mk (below_step (by repeat (first | (with_reducible first | exact HB.out | apply below_alloc | apply pw_below_drewN | apply below_drew1) | exact HB.out)) hb); clear HB; have HB := n0_; clear n0_; (try clear hb); (try clear hb2); (try clear hk); (try clear hi)) | (go_at_call 18; (with_reducible refine (integer_Compare.calls t199 t185 t202 _ ?side1 A37.out).mono ?_); (case side1 => exact Laid.on HT.out (by repeat (first | (with_reducible first | exact HB.out | apply below_alloc | apply pw_below_drewN | apply below_drew1) | exact HB.out))); rintro e w43 ⟨rfl, hb⟩; have n0_ := Aside0.mk (below_step (by repeat (first | (with_reducible first | exact HB.out | apply below_alloc | apply pw_below_drewN | apply below_drew1) | exact HB.out)) hb); clear HB; have HB := n0_; clear n0_; (try clear hb); (try clear hb2); (try clear hk); (try clear hi)))
                      go_ret
                      exact ⟨by first | rfl | (simp [errW_none, errW_some] <;> rfl) | (simp [*, errW_none, errW_some] <;> rfl), by repeat (first | (with_reducible first | exact HB.out | apply below_alloc | apply pw_below_drewN | apply below_drew1) | exact HB.out)⟩
                    · rw [if_neg c36] at H
                      have c36b0 : decide (t201 ≤ 0) = false := decide_eq_false c36
                      clear c36
                      obtain rfl := Option.some.inj H
                      go_wp2_with (first | ((with_reducible refine gate_callee (f := 18) rfl ?_); refine goesL_ (some 64) rfl rfl Tryz.func18 (by kernel_rfl) rfl #[.string t185, .string (⟨#[48]⟩ : ByteArray)] rfl (by (try simp only [List.map_toArray, List.map_cons, List.map_nil]); first | done | rfl | (simp only [List.length_drop, List.length_take]; rfl)) ?_; (with_reducible refine (integer_Compare.calls t185 (⟨#[48]⟩ : ByteArray) t194 _ ?side1 A20.out).mono ?_); (case side1 => exact Laid.on HT.out (by repeat (first | (with_reducible first | exact HB.out | apply below_alloc | apply pw_below_drewN | apply below_drew1) | exact HB.out))); rintro e w44 ⟨rfl, hb⟩; refine ⟨_, rfl, ?_⟩; have n0_ := Aside0.mk (below_step (by repeat (first | (with_reducible first | exact HB.out | apply below_alloc | apply pw_below_drewN | apply below_drew1) | exact HB.out)) hb); clear HB; have HB := n0_; clear n0_; (try clear hb); (try clear hb2); (try clear hk); (try clear hi)) | ((with_reducible refine gate_callee (f := 15) rfl ?_); refine goesL_ (some 78) rfl rfl Tryz.func15 (by kernel_rfl) rfl #[.string t186, .string t186] rfl (by (try simp only [List.map_toArray, List.map_cons, List.map_nil]); first | done | rfl | (simp only [List.length_drop, List.length_take]; rfl)) ?_; (with_reducible refine (integer_Mul.calls t186 t186 t195 t196 _ ?side1 A27.out).mono ?_); (case side1 => exact Laid.on HT.out (by repeat (first | (with_reducible first | exact HB.out | apply below_alloc | apply pw_below_drewN | apply below_drew1) | exact HB.out))); rintro e w45 ⟨rfl, hb⟩; refine ⟨_, rfl, ?_⟩; have n0_ := Aside0.mk (below_step (by repeat (first | (with_reducible first | exact HB.out | apply below_alloc | apply pw_below_drewN | apply below_drew1) | exact HB.out)) hb); clear HB; have HB := n0_; clear n0_; (try clear hb); (try clear hb2); (try clear hk); (try clear hi)) | ((with_reducible refine gate_callee (f := 14) rfl ?_); refine goesL_ (some 83) rfl rfl Tryz.func14 (by kernel_rfl) rfl #[.string t186, .string (⟨#[49]⟩ : ByteArray)] rfl (by (try simp only [List.map_toArray, List.map_cons, List.map_nil]); first | done | rfl | (simp only [List.length_drop, List.length_take]; rfl)) ?_; (with_reducible refine (integer_Add.calls t186 (⟨#[49]⟩ : ByteArray) t197 t198 _ ?side1 A28.out).mono ?_); (case side1 => exact Laid.on HT.out (by repeat (first | (with_reducible first | exact HB.out | apply below_alloc | apply pw_below_drewN | apply below_drew1) | exact HB.out))); rintro e w46 ⟨rfl, hb⟩; refine ⟨_, rfl, ?_⟩; have n0_ := Aside0.mk (below_step (by repeat (first | (with_reducible first | exact HB.out | apply below_alloc | apply pw_below_drewN | apply below_drew1) | exact HB.out)) hb); clear HB; have HB := n0_; clear n0_; (try clear hb); (try clear hb2); (try clear hk); (try clear hi)) | ((with_reducible refine gate_callee (f := 15) rfl ?_); refine goesL_ (some 89) rfl rfl Tryz.func15 (by kernel_rfl) rfl #[.string t197, .string t197] rfl (by (try simp only [List.map_toArray, List.map_cons, List.map_nil]); first | done | rfl | (simp only [List.length_drop, List.length_take]; rfl)) ?_; (with_reducible refine (integer_Mul.calls t197 t197 t199 t200 _ ?side1 A29.out).mono ?_); (case side1 => exact Laid.on HT.out (by repeat (first | (with_reducible first | exact HB.out | apply below_alloc | apply pw_below_drewN | apply below_drew1) | exact HB.out))); rintro e w47 ⟨rfl, hb⟩; refine ⟨_, rfl, ?_⟩; have n0_ := Aside0.mk (below_step (by repeat (first | (with_reducible first | exact HB.out | apply below_alloc | apply pw_below_drewN | apply below_drew1) | exact HB.out)) hb); clear HB; have HB := n0_; clear n0_; (try clear hb); (try clear hb2); (try clear hk); (try clear hi)) | (go_at_call 18; (with_reducible refine (integer_Compare.calls t195 t185 t201 _ ?side1 A35.out).mono ?_); (case side1 => exact Laid.on HT.out (by repeat (first | (with_reducible first | exact HB.out | apply below_alloc | apply pw_below_drewN | apply below_drew1) | exact HB.out))); rintro e w48 ⟨rfl, hb⟩; have n0_ := Aside0.mk (below_step (by repeat (first | (with_reducible first | exact HB.out | apply below_alloc | apply pw_below_drewN | apply below_drew1) | exact HB.out)) hb); clear HB; have HB := n0_; clear n0_; (try clear hb); (try clear hb2); (try clear hk); (try clear hi)))
                      go_ret
                      exact ⟨by first | rfl | (simp [errW_none, errW_some] <;> rfl) | (simp [*, errW_none, errW_some] <;> rfl), by repeat (first | (with_reducible first | exact HB.out | apply below_alloc | apply pw_below_drewN | apply below_drew1) | exact HB.out)⟩
                  · rw [if_neg c34] at H
                    have c34b0 : (t200 == 0) = false := beq_eq_false_iff_ne.mpr c34
                    have c34b1 : (t200 != 0) = true := bne_iff_ne.mpr c34
                    obtain rfl := Option.some.inj H
                    go_wp2_with (first | ((with_reducible refine gate_callee (f := 18) rfl ?_); refine goesL_ (some 64) rfl rfl Tryz.func18 (by kernel_rfl) rfl #[.string t185, .string (⟨#[48]⟩ : ByteArray)] rfl (by (try simp only [List.map_toArray, List.map_cons, List.map_nil]); first | done | rfl | (simp only [List.length_drop, List.length_take]; rfl)) ?_; (with_reducible refine (integer_Compare.calls t185 (⟨#[48]⟩ : ByteArray) t194 _ ?side1 A20.out).mono ?_); (case side1 => exact Laid.on HT.out (by repeat (first | (with_reducible first | exact HB.out | apply below_alloc | apply pw_below_drewN | apply below_drew1) | exact HB.out))); rintro e w49 ⟨rfl, hb⟩; refine ⟨_, rfl, ?_⟩; have n0_ := Aside0.mk (below_step (by repeat (first | (with_reducible first | exact HB.out | apply below_alloc | apply pw_below_drewN | apply below_drew1) | exact HB.out)) hb); clear HB; have HB := n0_; clear n0_; (try clear hb); (try clear hb2); (try clear hk); (try clear hi)) | ((with_reducible refine gate_callee (f := 15) rfl ?_); refine goesL_ (some 78) rfl rfl Tryz.func15 (by kernel_rfl) rfl #[.string t186, .string t186] rfl (by (try simp only [List.map_toArray, List.map_cons, List.map_nil]); first | done | rfl | (simp only [List.length_drop, List.length_take]; rfl)) ?_; (with_reducible refine (integer_Mul.calls t186 t186 t195 t196 _ ?side1 A27.out).mono ?_); (case side1 => exact Laid.on HT.out (by repeat (first | (with_reducible first | exact HB.out | apply below_alloc | apply pw_below_drewN | apply below_drew1) | exact HB.out))); rintro e w50 ⟨rfl, hb⟩; refine ⟨_, rfl, ?_⟩; have n0_ := Aside0.mk (below_step (by repeat (first | (with_reducible first | exact HB.out | apply below_alloc | apply pw_below_drewN | apply below_drew1) | exact HB.out)) hb); clear HB; have HB := n0_; clear n0_; (try clear hb); (try clear hb2); (try clear hk); (try clear hi)) | ((with_reducible refine gate_callee (f := 14) rfl ?_); refine goesL_ (some 83) rfl rfl Tryz.func14 (by kernel_rfl) rfl #[.string t186, .string (⟨#[49]⟩ : ByteArray)] rfl (by (try simp only [List.map_toArray, List.map_cons, List.map_nil]); first | done | rfl | (simp only [List.length_drop, List.length_take]; rfl)) ?_; (with_reducible refine (integer_Add.calls t186 (⟨#[49]⟩ : ByteArray) t197 t198 _ ?side1 A28.out).mono ?_); (case side1 => exact Laid.on HT.out (by repeat (first | (with_reducible first | exact HB.out | apply below_alloc | apply pw_below_drewN | apply below_drew1) | exact HB.out))); rintro e w51 ⟨rfl, hb⟩; refine ⟨_, rfl, ?_⟩; have n0_ := Aside0.mk (below_step (by repeat (first | (with_reducible first | exact HB.out | apply below_alloc | apply pw_below_drewN | apply below_drew1) | exact HB.out)) hb); clear HB; have HB := n0_; clear n0_; (try clear hb); (try clear hb2); (try clear hk); (try clear hi)) | ((with_reducible refine gate_callee (f := 15) rfl ?_); refine goesL_ (some 89) rfl rfl Tryz.func15 (by kernel_rfl) rfl #[.string t197, .string t197] rfl (by (try simp only [List.map_toArray, List.map_cons, List.map_nil]); first | done | rfl | (simp only [List.length_drop, List.length_take]; rfl)) ?_; (with_reducible refine (integer_Mul.calls t197 t197 t199 t200 _ ?side1 A29.out).mono ?_); (case side1 => exact Laid.on HT.out (by repeat (first | (with_reducible first | exact HB.out | apply below_alloc | apply pw_below_drewN | apply below_drew1) | exact HB.out))); rintro e w52 ⟨rfl, hb⟩; refine ⟨_, rfl, ?_⟩; have n0_ := Aside0.mk (below_step (by repeat (first | (with_reducible first | exact HB.out | apply below_alloc | apply pw_below_drewN | apply below_drew1) | exact HB.out)) hb); clear HB; have HB := n0_; clear n0_; (try clear hb); (try clear hb2); (try clear hk); (try clear hi)))
                    go_ret
                    exact ⟨by first | rfl | (simp [errW_none, errW_some] <;> rfl) | (simp [*, errW_none, errW_some] <;> rfl), by repeat (first | (with_reducible first | exact HB.out | apply below_alloc | apply pw_below_drewN | apply below_drew1) | exact HB.out)⟩
                · rw [if_neg c33] at H
                  have c33b0 : (t198 == 0) = false := beq_eq_false_iff_ne.mpr c33
                  have c33b1 : (t198 != 0) = true := bne_iff_ne.mpr c33
                  obtain rfl := Option.some.inj H
                  go_wp2_with (first | ((with_reducible refine gate_callee (f := 18) rfl ?_); refine goesL_ (some 64) rfl rfl Tryz.func18 (by kernel_rfl) rfl #[.string t185, .string (⟨#[48]⟩ : ByteArray)] rfl (by (try simp only [List.map_toArray, List.map_cons, List.map_nil]); first | done | rfl | (simp only [List.length_drop, List.length_take]; rfl)) ?_; (with_reducible refine (integer_Compare.calls t185 (⟨#[48]⟩ : ByteArray) t194 _ ?side1 A20.out).mono ?_); (case side1 => exact Laid.on HT.out (by repeat (first | (with_reducible first | exact HB.out | apply below_alloc | apply pw_below_drewN | apply below_drew1) | exact HB.out))); rintro e w53 ⟨rfl, hb⟩; refine ⟨_, rfl, ?_⟩; have n0_ := Aside0.mk (below_step (by repeat (first | (with_reducible first | exact HB.out | apply below_alloc | apply pw_below_drewN | apply below_drew1) | exact HB.out)) hb); clear HB; have HB := n0_; clear n0_; (try clear hb); (try clear hb2); (try clear hk); (try clear hi)) | ((with_reducible refine gate_callee (f := 15) rfl ?_); refine goesL_ (some 78) rfl rfl Tryz.func15 (by kernel_rfl) rfl #[.string t186, .string t186] rfl (by (try simp only [List.map_toArray, List.map_cons, List.map_nil]); first | done | rfl | (simp only [List.length_drop, List.length_take]; rfl)) ?_; (with_reducible refine (integer_Mul.calls t186 t186 t195 t196 _ ?side1 A27.out).mono ?_); (case side1 => exact Laid.on HT.out (by repeat (first | (with_reducible first | exact HB.out | apply below_alloc | apply pw_below_drewN | apply below_drew1) | exact HB.out))); rintro e w54 ⟨rfl, hb⟩; refine ⟨_, rfl, ?_⟩; have n0_ := Aside0.mk (below_step (by repeat (first | (with_reducible first | exact HB.out | apply below_alloc | apply pw_below_drewN | apply below_drew1) | exact HB.out)) hb); clear HB; have HB := n0_; clear n0_; (try clear hb); (try clear hb2); (try clear hk); (try clear hi)) | ((with_reducible refine gate_callee (f := 14) rfl ?_); refine goesL_ (some 83) rfl rfl Tryz.func14 (by kernel_rfl) rfl #[.string t186, .string (⟨#[49]⟩ : ByteArray)] rfl (by (try simp only [List.map_toArray, List.map_cons, List.map_nil]); first | done | rfl | (simp only [List.length_drop, List.length_take]; rfl)) ?_; (with_reducible refine (integer_Add.calls t186 (⟨#[49]⟩ : ByteArray) t197 t198 _ ?side1 A28.out).mono ?_); (case side1 => exact Laid.on HT.out (by repeat (first | (with_reducible first | exact HB.out | apply below_alloc | apply pw_below_drewN | apply below_drew1) | exact HB.out))); rintro e w55 ⟨rfl, hb⟩; refine ⟨_, rfl, ?_⟩; have n0_ := Aside0.mk (below_step (by repeat (first | (with_reducible first | exact HB.out | apply below_alloc | apply pw_below_drewN | apply below_drew1) | exact HB.out)) hb); clear HB; have HB := n0_; clear n0_; (try clear hb); (try clear hb2); (try clear hk); (try clear hi)) | ((with_reducible refine gate_callee (f := 15) rfl ?_); refine goesL_ (some 89) rfl rfl Tryz.func15 (by kernel_rfl) rfl #[.string t197, .string t197] rfl (by (try simp only [List.map_toArray, List.map_cons, List.map_nil]); first | done | rfl | (simp only [List.length_drop, List.length_take]; rfl)) ?_; (with_reducible refine (integer_Mul.calls t197 t197 t199 t200 _ ?side1 A29.out).mono ?_); (case side1 => exact Laid.on HT.out (by repeat (first | (with_reducible first | exact HB.out | apply below_alloc | apply pw_below_drewN | apply below_drew1) | exact HB.out))); rintro e w56 ⟨rfl, hb⟩; refine ⟨_, rfl, ?_⟩; have n0_ := Aside0.mk (below_step (by repeat (first | (with_reducible first | exact HB.out | apply below_alloc | apply pw_below_drewN | apply below_drew1) | exact HB.out)) hb); clear HB; have HB := n0_; clear n0_; (try clear hb); (try clear hb2); (try clear hk); (try clear hi)))
                  go_ret
                  exact ⟨by first | rfl | (simp [errW_none, errW_some] <;> rfl) | (simp [*, errW_none, errW_some] <;> rfl), by repeat (first | (with_reducible first | exact HB.out | apply below_alloc | apply pw_below_drewN | apply below_drew1) | exact HB.out)⟩
              · rw [if_neg c32] at H
                have c32b0 : (t196 == 0) = false := beq_eq_false_iff_ne.mpr c32
                have c32b1 : (t196 != 0) = true := bne_iff_ne.mpr c32
                obtain rfl := Option.some.inj H
                go_wp2_with (first | ((with_reducible refine gate_callee (f := 18) rfl ?_); refine goesL_ (some 64) rfl rfl Tryz.func18 (by kernel_rfl) rfl #[.string t185, .string (⟨#[48]⟩ : ByteArray)] rfl (by (try simp only [List.map_toArray, List.map_cons, List.map_nil]); first | done | rfl | (simp only [List.length_drop, List.length_take]; rfl)) ?_; (with_reducible refine (integer_Compare.calls t185 (⟨#[48]⟩ : ByteArray) t194 _ ?side1 A20.out).mono ?_); (case side1 => exact Laid.on HT.out (by repeat (first | (with_reducible first | exact HB.out | apply below_alloc | apply pw_below_drewN | apply below_drew1) | exact HB.out))); rintro e w57 ⟨rfl, hb⟩; refine ⟨_, rfl, ?_⟩; have n0_ := Aside0.mk (below_step (by repeat (first | (with_reducible first | exact HB.out | apply below_alloc | apply pw_below_drewN | apply below_drew1) | exact HB.out)) hb); clear HB; have HB := n0_; clear n0_; (try clear hb); (try clear hb2); (try clear hk); (try clear hi)) | ((with_reducible refine gate_callee (f := 15) rfl ?_); refine goesL_ (some 78) rfl rfl Tryz.func15 (by kernel_rfl) rfl #[.string t186, .string t186] rfl (by (try simp only [List.map_toArray, List.map_cons, List.map_nil]); first | done | rfl | (simp only [List.length_drop, List.length_take]; rfl)) ?_; (with_reducible refine (integer_Mul.calls t186 t186 t195 t196 _ ?side1 A27.out).mono ?_); (case side1 => exact Laid.on HT.out (by repeat (first | (with_reducible first | exact HB.out | apply below_alloc | apply pw_below_drewN | apply below_drew1) | exact HB.out))); rintro e w58 ⟨rfl, hb⟩; refine ⟨_, rfl, ?_⟩; have n0_ := Aside0.mk (below_step (by repeat (first | (with_reducible first | exact HB.out | apply below_alloc | apply pw_below_drewN | apply below_drew1) | exact HB.out)) hb); clear HB; have HB := n0_; clear n0_; (try clear hb); (try clear hb2); (try clear hk); (try clear hi)) | ((with_reducible refine gate_callee (f := 14) rfl ?_); refine goesL_ (some 83) rfl rfl Tryz.func14 (by kernel_rfl) rfl #[.string t186, .string (⟨#[49]⟩ : ByteArray)] rfl (by (try simp only [List.map_toArray, List.map_cons, List.map_nil]); first | done | rfl | (simp only [List.length_drop, List.length_take]; rfl)) ?_; (with_reducible refine (integer_Add.calls t186 (⟨#[49]⟩ : ByteArray) t197 t198 _ ?side1 A28.out).mono ?_); (case side1 => exact Laid.on HT.out (by repeat (first | (with_reducible first | exact HB.out | apply below_alloc | apply pw_below_drewN | apply below_drew1) | exact HB.out))); rintro e w59 ⟨rfl, hb⟩; refine ⟨_, rfl, ?_⟩; have n0_ := Aside0.mk (below_step (by repeat (first | (with_reducible first | exact HB.out | apply below_alloc | apply pw_below_drewN | apply below_drew1) | exact HB.out)) hb); clear HB; have HB := n0_; clear n0_; (try clear hb); (try clear hb2); (try clear hk); (try clear hi)) | ((with_reducible refine gate_callee (f := 15) rfl ?_); refine goesL_ (some 89) rfl rfl Tryz.func15 (by kernel_rfl) rfl #[.string t197, .string t197] rfl (by (try simp only [List.map_toArray, List.map_cons, List.map_nil]); first | done | rfl | (simp only [List.length_drop, List.length_take]; rfl)) ?_; (with_reducible refine (integer_Mul.calls t197 t197 t199 t200 _ ?side1 A29.out).mono ?_); (case side1 => exact Laid.on HT.out (by repeat (first | (with_reducible first | exact HB.out | apply below_alloc | apply pw_below_drewN | apply below_drew1) | exact HB.out))); rintro e w60 ⟨rfl, hb⟩; refine ⟨_, rfl, ?_⟩; have n0_ := Aside0.mk (below_step (by repeat (first | (with_reducible first | exact HB.out | apply below_alloc | apply pw_below_drewN | apply below_drew1) | exact HB.out)) hb); clear HB; have HB := n0_; clear n0_; (try clear hb); (try clear hb2); (try clear hk); (try clear hi)))
                go_ret
                exact ⟨by first | rfl | (simp [errW_none, errW_some] <;> rfl) | (simp [*, errW_none, errW_some] <;> rfl), by repeat (first | (with_reducible first | exact HB.out | apply below_alloc | apply pw_below_drewN | apply below_drew1) | exact HB.out)⟩
            · rw [if_neg c31] at H
              have c31b0 : (t187 == 0) = false := beq_eq_false_iff_ne.mpr c31
              have c31b1 : (t187 != 0) = true := bne_iff_ne.mpr c31
              obtain rfl := Option.some.inj H
              go_wp2_with (first | ((with_reducible refine gate_callee (f := 18) rfl ?_); refine goesL_ (some 64) rfl rfl Tryz.func18 (by kernel_rfl) rfl #[.string t185, .string (⟨#[48]⟩ : ByteArray)] rfl (by (try simp only [List.map_toArray, List.map_cons, List.map_nil]); first | done | rfl | (simp only [List.length_drop, List.length_take]; rfl)) ?_; (with_reducible refine (integer_Compare.calls t185 (⟨#[48]⟩ : ByteArray) t194 _ ?side1 A20.out).mono ?_); (case side1 => exact Laid.on HT.out (by repeat (first | (with_reducible first | exact HB.out | apply below_alloc | apply pw_below_drewN | apply below_drew1) | exact HB.out))); rintro e w61 ⟨rfl, hb⟩; refine ⟨_, rfl, ?_⟩; have n0_ := Aside0.mk (below_step (by repeat (first | (with_reducible first | exact HB.out | apply below_alloc | apply pw_below_drewN | apply below_drew1) | exact HB.out)) hb); clear HB; have HB := n0_; clear n0_; (try clear hb); (try clear hb2); (try clear hk); (try clear hi)) | ((with_reducible refine gate_callee (f := 15) rfl ?_); refine goesL_ (some 78) rfl rfl Tryz.func15 (by kernel_rfl) rfl #[.string t186, .string t186] rfl (by (try simp only [List.map_toArray, List.map_cons, List.map_nil]); first | done | rfl | (simp only [List.length_drop, List.length_take]; rfl)) ?_; (with_reducible refine (integer_Mul.calls t186 t186 t195 t196 _ ?side1 A27.out).mono ?_); (case side1 => exact Laid.on HT.out (by repeat (first | (with_reducible first | exact HB.out | apply below_alloc | apply pw_below_drewN | apply below_drew1) | exact HB.out))); rintro e w62 ⟨rfl, hb⟩; refine ⟨_, rfl, ?_⟩; have n0_ := Aside0.mk (below_step (by repeat (first | (with_reducible first | exact HB.out | apply below_alloc | apply pw_below_drewN | apply below_drew1) | exact HB.out)) hb); clear HB; have HB := n0_; clear n0_; (try clear hb); (try clear hb2); (try clear hk); (try clear hi)) | ((with_reducible refine gate_callee (f := 14) rfl ?_); refine goesL_ (some 83) rfl rfl Tryz.func14 (by kernel_rfl) rfl #[.string t186, .string (⟨#[49]⟩ : ByteArray)] rfl (by (try simp only [List.map_toArray, List.map_cons, List.map_nil]); first | done | rfl | (simp only [List.length_drop, List.length_take]; rfl)) ?_; (with_reducible refine (integer_Add.calls t186 (⟨#[49]⟩ : ByteArray) t197 t198 _ ?side1 A28.out).mono ?_); (case side1 => exact Laid.on HT.out (by repeat (first | (with_reducible first | exact HB.out | apply below_alloc | apply pw_below_drewN | apply below_drew1) | exact HB.out))); rintro e w63 ⟨rfl, hb⟩; refine ⟨_, rfl, ?_⟩; have n0_ := Aside0.mk (below_step (by repeat (first | (with_reducible first | exact HB.out | apply below_alloc | apply pw_below_drewN | apply below_drew1) | exact HB.out)) hb); clear HB; have HB := n0_; clear n0_; (try clear hb); (try clear hb2); (try clear hk); (try clear hi)) | ((with_reducible refine gate_callee (f := 15) rfl ?_); refine goesL_ (some 89) rfl rfl Tryz.func15 (by kernel_rfl) rfl #[.string t197, .string t197] rfl (by (try simp only [List.map_toArray, List.map_cons, List.map_nil]); first | done | rfl | (simp only [List.length_drop, List.length_take]; rfl)) ?_; (with_reducible refine (integer_Mul.calls t197 t197 t199 t200 _ ?side1 A29.out).mono ?_); (case side1 => exact Laid.on HT.out (by repeat (first | (with_reducible first | exact HB.out | apply below_alloc | apply pw_below_drewN | apply below_drew1) | exact HB.out))); rintro e w64 ⟨rfl, hb⟩; refine ⟨_, rfl, ?_⟩; have n0_ := Aside0.mk (below_step (by repeat (first | (with_reducible first | exact HB.out | apply below_alloc | apply pw_below_drewN | apply below_drew1) | exact HB.out)) hb); clear HB; have HB := n0_; clear n0_; (try clear hb); (try clear hb2); (try clear hk); (try clear hi)))
              go_ret
              exact ⟨by first | rfl | (simp [errW_none, errW_some] <;> rfl) | (simp [*, errW_none, errW_some] <;> rfl), by repeat (first | (with_reducible first | exact HB.out | apply below_alloc | apply pw_below_drewN | apply below_drew1) | exact HB.out)⟩
          · replace c30 := Bool.eq_false_iff.mpr c30
            subst c30
            have H1 : (some false) = some r := by rw [if_neg (show ¬ (false = true) by decide)] at H; exact H
            clear H
            have H := H1
            clear H1
            obtain rfl := Option.some.inj H
            go_wp2_with (first | ((with_reducible refine gate_callee (f := 18) rfl ?_); refine goesL_ (some 64) rfl rfl Tryz.func18 (by kernel_rfl) rfl #[.string t185, .string (⟨#[48]⟩ : ByteArray)] rfl (by (try simp only [List.map_toArray, List.map_cons, List.map_nil]); first | done | rfl | (simp only [List.length_drop, List.length_take]; rfl)) ?_; (with_reducible refine (integer_Compare.calls t185 (⟨#[48]⟩ : ByteArray) t194 _ ?side1 A20.out).mono ?_); (case side1 => exact Laid.on HT.out (by repeat (first | (with_reducible first | exact HB.out | apply below_alloc | apply pw_below_drewN | apply below_drew1) | exact HB.out))); rintro e w65 ⟨rfl, hb⟩; refine ⟨_, rfl, ?_⟩; have n0_ := Aside0.mk (below_step (by repeat (first | (with_reducible first | exact HB.out | apply below_alloc | apply pw_below_drewN | apply below_drew1) | exact HB.out)) hb); clear HB; have HB := n0_; clear n0_; (try clear hb); (try clear hb2); (try clear hk); (try clear hi)) | ((with_reducible refine gate_callee (f := 15) rfl ?_); refine goesL_ (some 78) rfl rfl Tryz.func15 (by kernel_rfl) rfl #[.string t186, .string t186] rfl (by (try simp only [List.map_toArray, List.map_cons, List.map_nil]); first | done | rfl | (simp only [List.length_drop, List.length_take]; rfl)) ?_; (with_reducible refine (integer_Mul.calls t186 t186 t195 t196 _ ?side1 A27.out).mono ?_); (case side1 => exact Laid.on HT.out (by repeat (first | (with_reducible first | exact HB.out | apply below_alloc | apply pw_below_drewN | apply below_drew1) | exact HB.out))); rintro e w66 ⟨rfl, hb⟩; refine ⟨_, rfl, ?_⟩; have n0_ := Aside0.mk (below_step (by repeat (first | (with_reducible first | exact HB.out | apply below_alloc | apply pw_below_drewN | apply below_drew1) | exact HB.out)) hb); clear HB; have HB := n0_; clear n0_; (try clear hb); (try clear hb2); (try clear hk); (try clear hi)) | ((with_reducible refine gate_callee (f := 14) rfl ?_); refine goesL_ (some 83) rfl rfl Tryz.func14 (by kernel_rfl) rfl #[.string t186, .string (⟨#[49]⟩ : ByteArray)] rfl (by (try simp only [List.map_toArray, List.map_cons, List.map_nil]); first | done | rfl | (simp only [List.length_drop, List.length_take]; rfl)) ?_; (with_reducible refine (integer_Add.calls t186 (⟨#[49]⟩ : ByteArray) t197 t198 _ ?side1 A28.out).mono ?_); (case side1 => exact Laid.on HT.out (by repeat (first | (with_reducible first | exact HB.out | apply below_alloc | apply pw_below_drewN | apply below_drew1) | exact HB.out))); rintro e w67 ⟨rfl, hb⟩; refine ⟨_, rfl, ?_⟩; have n0_ := Aside0.mk (below_step (by repeat (first | (with_reducible first | exact HB.out | apply below_alloc | apply pw_below_drewN | apply below_drew1) | exact HB.out)) hb); clear HB; have HB := n0_; clear n0_; (try clear hb); (try clear hb2); (try clear hk); (try clear hi)) | ((with_reducible refine gate_callee (f := 15) rfl ?_); refine goesL_ (some 89) rfl rfl Tryz.func15 (by kernel_rfl) rfl #[.string t197, .string t197] rfl (by (try simp only [List.map_toArray, List.map_cons, List.map_nil]); first | done | rfl | (simp only [List.length_drop, List.length_take]; rfl)) ?_; (with_reducible refine (integer_Mul.calls t197 t197 t199 t200 _ ?side1 A29.out).mono ?_); (case side1 => exact Laid.on HT.out (by repeat (first | (with_reducible first | exact HB.out | apply below_alloc | apply pw_below_drewN | apply below_drew1) | exact HB.out))); rintro e w68 ⟨rfl, hb⟩; refine ⟨_, rfl, ?_⟩; have n0_ := Aside0.mk (below_step (by repeat (first | (with_reducible first | exact HB.out | apply below_alloc | apply pw_below_drewN | apply below_drew1) | exact HB.out)) hb); clear HB; have HB := n0_; clear n0_; (try clear hb); (try clear hb2); (try clear hk); (try clear hi)))
            go_ret
            exact ⟨by first | rfl | (simp [errW_none, errW_some] <;> rfl) | (simp [*, errW_none, errW_some] <;> rfl), by repeat (first | (with_reducible first | exact HB.out | apply below_alloc | apply pw_below_drewN | apply below_drew1) | exact HB.out)⟩

/-- THE ONE PURE STATEMENT of newswirelaw03_IntegerRoot: yours. -/
def newswirelaw03_IntegerRoot.Pure : Prop := ∀ (a0 : ByteArray), a0.size ≤ 140737488351232 → ∃ k, newswirelaw03_IntegerRoot.f k a0 = some true
theorem newswirelaw03_IntegerRoot.walk (P : newswirelaw03_IntegerRoot.Pure) (a0 : ByteArray) (w : World) (w0 : a0.size ≤ 140737488351232) (hT : Laid w) :
    Calls Tryz.prog 6 #[.string a0] w fun e w' => e = .returned (.bool true) ∧ Below w.heap.size w w' := by
  obtain ⟨k, h⟩ := P a0 w0
  refine (newswirelaw03_IntegerRoot.calls k a0 true w hT h).mono ?_
  rintro e w' ⟨rfl, hd⟩
  exact ⟨rfl, hd⟩

end Go.Proofs.YthbiafjdilbbnaaGreatDoor.PI
