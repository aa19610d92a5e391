/-
  What the reference's functions on digit lists come to: plus, minus, order.
-/
import Derived.Test.YthbiafjdilbbnaaGreatDoorDPIx7
import Derived.Test.YthbiafjdilbbnaaGreatDoorDG7
import Derived.Test.YthbiafjdilbbnaaGreatDoorDPIx8
import Derived.Test.YthbiafjdilbbnaaGreatDoorDPIx9
import Derived.Test.YthbiafjdilbbnaaGreatDoorDPIx6
import Derived.Test.YthbiafjdilbbnaaGreatDoorDPIx10
import Derived.Test.YthbiafjdilbbnaaGreatDoorDPIx11
import Derived.Test.YthbiafjdilbbnaaGreatDoorDPIx5
set_option linter.unusedVariables false
set_option linter.unusedSimpArgs false
namespace Go.Proofs.YthbiafjdilbbnaaGreatDoor
open Go.RowKit Go.Lib Go.Proofs.YthbiafjdilbbnaaGreatDoor.PI Go.Proofs.YthbiafjdilbbnaaGreatDoorW.PrintWords Go.Proofs.YthbiafjdilbbnaaGreatDoorW.PrintLast

theorem div_pow_succ (m i : Nat) : m / 10 ^ (i + 1) = m / 10 ^ i / 10 := by rw [Nat.pow_succ, Nat.div_div_eq_div_mul]
theorem rd_dgs (m i : Nat) : rd (dgs m) (i : Int) = ((m / 10 ^ i % 10 : Nat) : Int) := by
  unfold rd
  rw [Int.toNat_natCast]
  induction i generalizing m with
  | zero =>
    by_cases h : m = 0
    · subst h; rw [dgs_zero]; rfl
    · rw [dgs_pos h]; simp
  | succ i ih =>
    by_cases h : m = 0
    · subst h; rw [dgs_zero]; simp
    · rw [dgs_pos h, List.getD_cons_succ, ih, Nat.pow_succ', Nat.div_div_eq_div_mul]
theorem lt_dgs (m i : Nat) : (i : Int) < ((dgs m).length : Int) ↔ m / 10 ^ i ≠ 0 := by
  have h := @dgs_length_le_iff m i
  have h2 : m / 10 ^ i = 0 ↔ m < 10 ^ i := by rw [Nat.div_eq_zero_iff]; have := Nat.pow_pos (n := i) (show 0 < 10 by omega); omega
  rw [Ne, h2, ← h]; omega
theorem dgs_length_mono {m n : Nat} (h : m ≤ n) : (dgs m).length ≤ (dgs n).length := dgs_length_le (Nat.lt_of_le_of_lt h (lt_dgs_length n))

set_option maxRecDepth 4000 in
theorem plus_loop (m n : Nat) (hm : (dgs m).length ≤ 900) (hn : (dgs n).length ≤ 900) (d : Nat) : ∀ (out : List Int) (c i : Nat), d = m / 10 ^ i + n / 10 ^ i + c → out.length ≤ i → c ≤ 1 → i ≤ 901 → (c = 1 → i ≤ 900) →
    Ev (fun k => newswireref03_plus.l0 k (dgs m) (dgs n) out (c : Int) (i : Int)) (out ++ dgs d) := by
  have h1 := hm
  have h2 := hn
  induction d using Nat.strongRecOn with
  | _ d ih =>
    intro out c i hd ho hc hi hci
    have la := lt_dgs m i
    have lb := lt_dgs n i
    have ea := div_pow_succ m i
    have eb := div_pow_succ n i
    have ra := rd_dgs m i
    have rb := rd_dgs n i
    obtain ⟨A, hA⟩ : ∃ A, A = m / 10 ^ i := ⟨_, rfl⟩
    obtain ⟨B, hB⟩ : ∃ B, B = n / 10 ^ i := ⟨_, rfl⟩
    rw [← hA] at ra la ea hd
    rw [← hB] at rb lb eb hd
    by_cases h0 : d = 0
    · have c0 : c = 0 := by omega
      subst c0
      refine Ev.step (f := fun k => newswireref03_plus.j1 k (dgs m) (dgs n) out ((0 : Nat) : Int) (i : Int) false) (fun k => ?_) ?_
      · simp only [newswireref03_plus.l0]
        rw [if_neg (by rw [la]; omega), if_neg (by rw [lb]; omega)]; rfl
      · refine Ev.step (f := fun _ => some out) (fun k => ?_) ?_
        · simp only [newswireref03_plus.j1]; rfl
        · rw [h0, dgs_zero, List.append_nil]; exact Ev.now _
    · refine Ev.step (f := fun k => newswireref03_plus.j1 k (dgs m) (dgs n) out (c : Int) (i : Int) true) (fun k => ?_) ?_
      · simp only [newswireref03_plus.l0]
        by_cases ha : (i : Int) < ((dgs m).length : Int)
        · rw [if_pos ha]
        · rw [if_neg ha]
          by_cases hb : (i : Int) < ((dgs n).length : Int)
          · rw [if_pos hb]
          · rw [if_neg hb, decide_eq_true (by have := mt la.2 ha; have := mt lb.2 hb; omega)]
      · have hi' : i ≤ 900 := by
          by_cases c1 : c = 1
          · exact hci c1
          · have : A ≠ 0 ∨ B ≠ 0 := by omega
            rcases this with h | h
            · have := la.2 h; omega
            · have := lb.2 h; omega
        have key : ∀ s : Nat, s = A % 10 + B % 10 + c → Ev (fun k => newswireref03_plus.l0 k (dgs m) (dgs n) (out ++ [Int.tmod (s : Int) 10]) (wrap64 (Int.tdiv (s : Int) 10)) (wrap64 ((i : Int) + 1))) (out ++ dgs d) := by
          intro s hs
          have := ih (d / 10) (by omega) (out ++ [((d % 10 : Nat) : Int)]) (s / 10) (i + 1) (by omega) (by simp; omega) (by omega) (by omega)
            (by
              intro h
              by_cases h3 : A ≠ 0
              · have := la.2 h3; omega
              · by_cases h4 : B ≠ 0
                · have := lb.2 h4; omega
                · omega)
          rw [dgs_pos h0]
          rw [List.append_assoc] at this
          refine Ev.congr (fun k => ?_) this
          rw [Int.tmod_eq_emod_of_nonneg (by omega), Int.tdiv_eq_ediv_of_nonneg (by omega), wrap_id (by omega) (by omega), wrap_id (by omega) (by omega)]
          rw [show ((s : Int) % 10) = ((d % 10 : Nat) : Int) by omega, show ((s : Int) / 10) = ((s / 10 : Nat) : Int) by omega, show (i : Int) + 1 = ((i + 1 : Nat) : Int) by omega]
        refine Ev.step (fun k => ?_) (key (A % 10 + B % 10 + c) rfl)
        simp only [newswireref03_plus.j1]
        rw [if_pos trivial]
        by_cases ha : (i : Int) < ((dgs m).length : Int)
        · rw [if_pos ha, if_pos (by omega)]
          by_cases hb : (i : Int) < ((dgs n).length : Int)
          · rw [if_pos hb, if_pos (by omega), ra, rb, wrap_id (x := (c : Int) + _) (by omega) (by omega), wrap_id (x := (c : Int) + _ + _) (by omega) (by omega)]
            rw [show (c : Int) + ((A % 10 : Nat) : Int) + ((B % 10 : Nat) : Int) = ((A % 10 + B % 10 + c : Nat) : Int) by omega]
          · have := mt lb.2 hb
            rw [if_neg hb, if_pos (by omega), ra, wrap_id (x := (c : Int) + _) (by omega) (by omega)]
            rw [show (c : Int) + ((A % 10 : Nat) : Int) = ((A % 10 + B % 10 + c : Nat) : Int) by omega]
        · have := mt la.2 ha
          rw [if_neg ha]
          by_cases hb : (i : Int) < ((dgs n).length : Int)
          · rw [if_pos hb, if_pos (by omega), if_pos (by omega), rb, wrap_id (x := (c : Int) + _) (by omega) (by omega)]
            rw [show (c : Int) + ((B % 10 : Nat) : Int) = ((A % 10 + B % 10 + c : Nat) : Int) by omega]
          · have := mt lb.2 hb
            rw [if_neg hb, if_pos (by omega)]
            rw [show (c : Int) = ((A % 10 + B % 10 + c : Nat) : Int) by omega]
theorem plus_ev {m n : Nat} (hm : (dgs m).length ≤ 900) (hn : (dgs n).length ≤ 900) : Ev (fun k => newswireref03_plus.f k (dgs m) (dgs n)) (dgs (m + n)) := by
  have := plus_loop m n hm hn (m + n) [] 0 0 (by simp) (by simp) (by omega) (by omega) (by omega)
  exact Ev.congr (fun k => by unfold newswireref03_plus.f; rfl) this

set_option maxRecDepth 4000 in
theorem minus_loop (m n : Nat) (hm : (dgs m).length ≤ 900) (d : Nat) : ∀ (out : List Int) (w i : Nat), d = (dgs m).length - i → out.length = i → i ≤ (dgs m).length → Dg out → w ≤ 1 → n / 10 ^ i + w ≤ m / 10 ^ i →
    dv out + 10 ^ i * (m / 10 ^ i - n / 10 ^ i - w) = m - n → Ev (fun k => newswireref03_minus.l0 k (dgs m) (dgs n) out (w : Int) (i : Int)) (dgs (m - n)) := by
  have h1 := hm
  induction d with
  | zero =>
    intro out w i hd ho hi hg hw hle he
    have la := lt_dgs m i
    have h0 : m / 10 ^ i = 0 := by
      by_cases h : m / 10 ^ i = 0
      · exact h
      · have := la.2 h; omega
    rw [h0] at he
    rw [Nat.zero_sub, Nat.zero_sub, Nat.mul_zero, Nat.add_zero] at he
    refine Ev.step (f := fun k => (newswireref03_trim.f k out).bind fun t => some t) (fun k => ?_) ?_
    · simp only [newswireref03_minus.l0]
      rw [if_neg (by omega)]
    · rw [← he]
      exact Ev.bind (trim_ev out hg (by omega)) (Ev.now _)
  | succ d ih =>
    intro out w i hd ho hi hg hw hle he
    have la := lt_dgs m i
    have lb := lt_dgs n i
    have ea := div_pow_succ m i
    have eb := div_pow_succ n i
    have ra := rd_dgs m i
    have rb := rd_dgs n i
    obtain ⟨A, hA⟩ : ∃ A, A = m / 10 ^ i := ⟨_, rfl⟩
    obtain ⟨B, hB⟩ : ∃ B, B = n / 10 ^ i := ⟨_, rfl⟩
    rw [← hA] at ra la ea hle he
    rw [← hB] at rb lb eb hle he
    have key : ∀ (x w' : Nat), x < 10 → w' ≤ 1 → A % 10 + 10 * w' = x + B % 10 + w → Ev (fun k => newswireref03_minus.l0 k (dgs m) (dgs n) (out ++ [(x : Int)]) (w' : Int) ((i + 1 : Nat) : Int)) (dgs (m - n)) := by
      intro x w' hx hw' hs
      refine ih (out ++ [(x : Int)]) w' (i + 1) (by omega) (by simp; omega) (by omega) (dg_append.2 ⟨hg, dg_cons.2 ⟨by omega, dg_nil⟩⟩) hw' (by rw [ea, eb]; omega) ?_
      rw [dv_snoc, ho, ea, eb, Int.toNat_natCast, Nat.pow_succ, Nat.mul_assoc, Nat.add_assoc, ← Nat.mul_add, ← he]
      congr 2
      omega
    have hlt : (i : Int) < ((dgs m).length : Int) := by omega
    by_cases hb : (i : Int) < ((dgs n).length : Int)
    · by_cases ht : A % 10 < B % 10 + w
      · refine Ev.step (fun k => ?_) (key (A % 10 + 10 - B % 10 - w) 1 (by omega) (by omega) (by omega))
        simp only [newswireref03_minus.l0]
        rw [if_pos hlt, if_pos (by omega), if_pos hb, ra, rb, wrap_id (x := ((A % 10 : Nat) : Int) - _) (by omega) (by omega), wrap_id (x := ((A % 10 : Nat) : Int) - _ - _) (by omega) (by omega),
          if_pos (by omega), if_pos (by omega), wrap_id (by omega) (by omega), wrap_id (by omega) (by omega),
          show ((A % 10 : Nat) : Int) - (w : Int) - ((B % 10 : Nat) : Int) + 10 = ((A % 10 + 10 - B % 10 - w : Nat) : Int) by omega, show (i : Int) + 1 = ((i + 1 : Nat) : Int) by omega]
        rfl
      · refine Ev.step (fun k => ?_) (key (A % 10 - B % 10 - w) 0 (by omega) (by omega) (by omega))
        simp only [newswireref03_minus.l0]
        rw [if_pos hlt, if_pos (by omega), if_pos hb, ra, rb, wrap_id (x := ((A % 10 : Nat) : Int) - _) (by omega) (by omega), wrap_id (x := ((A % 10 : Nat) : Int) - _ - _) (by omega) (by omega),
          if_neg (by omega), if_pos (by omega), wrap_id (by omega) (by omega),
          show ((A % 10 : Nat) : Int) - (w : Int) - ((B % 10 : Nat) : Int) = ((A % 10 - B % 10 - w : Nat) : Int) by omega, show (i : Int) + 1 = ((i + 1 : Nat) : Int) by omega]
        rfl
    · have hB0 := mt lb.2 hb
      by_cases ht : A % 10 < w
      · refine Ev.step (fun k => ?_) (key (A % 10 + 10 - w) 1 (by omega) (by omega) (by omega))
        simp only [newswireref03_minus.l0]
        rw [if_pos hlt, if_pos (by omega), if_neg hb, ra, wrap_id (x := ((A % 10 : Nat) : Int) - _) (by omega) (by omega),
          if_pos (by omega), if_pos (by omega), wrap_id (by omega) (by omega), wrap_id (by omega) (by omega),
          show ((A % 10 : Nat) : Int) - (w : Int) + 10 = ((A % 10 + 10 - w : Nat) : Int) by omega, show (i : Int) + 1 = ((i + 1 : Nat) : Int) by omega]
        rfl
      · refine Ev.step (fun k => ?_) (key (A % 10 - w) 0 (by omega) (by omega) (by omega))
        simp only [newswireref03_minus.l0]
        rw [if_pos hlt, if_pos (by omega), if_neg hb, ra, wrap_id (x := ((A % 10 : Nat) : Int) - _) (by omega) (by omega),
          if_neg (by omega), if_pos (by omega), wrap_id (by omega) (by omega),
          show ((A % 10 : Nat) : Int) - (w : Int) = ((A % 10 - w : Nat) : Int) by omega, show (i : Int) + 1 = ((i + 1 : Nat) : Int) by omega]
        rfl
theorem minus_ev {m n : Nat} (hm : (dgs m).length ≤ 900) (hnm : n ≤ m) : Ev (fun k => newswireref03_minus.f k (dgs m) (dgs n)) (dgs (m - n)) := by
  have := minus_loop m n hm (dgs m).length [] 0 0 rfl rfl (by omega) dg_nil (by omega) (by simpa using hnm) (by simp [dv])
  exact Ev.congr (fun k => by unfold newswireref03_minus.f; rfl) this

theorem order_loop (m n : Nat) (hm : (dgs m).length ≤ 900) (hl : (dgs m).length = (dgs n).length) (j : Nat) : j ≤ (dgs m).length → m / 10 ^ j = n / 10 ^ j → Ev (fun k => newswireref03_order.l0 k (dgs m) (dgs n) ((j : Int) - 1)) (cmpZ m n) := by
  have h1 := hm
  induction j with
  | zero =>
    intro _ he
    simp only [Nat.pow_zero, Nat.div_one] at he
    subst he
    refine Ev.step (f := fun _ => some 0) (fun k => ?_) ?_
    · simp only [newswireref03_order.l0]; rfl
    · rw [show cmpZ (m : Int) (m : Int) = 0 by unfold cmpZ; rw [if_neg (by omega), if_neg (by omega)]]; exact Ev.now _
  | succ j ih =>
    intro hj he
    have ra := rd_dgs m j
    have rb := rd_dgs n j
    have ea := div_pow_succ m j
    have eb := div_pow_succ n j
    have e0 : ((j + 1 : Nat) : Int) - 1 = (j : Int) := by omega
    by_cases hc : m / 10 ^ j % 10 = n / 10 ^ j % 10
    · refine Ev.step (fun k => ?_) (ih (by omega) (by omega))
      simp only [newswireref03_order.l0]
      rw [e0, if_pos (by omega), if_pos (by omega), if_pos (by omega), if_pos (by omega), ra, rb, if_pos (by omega), wrap_id (by omega) (by omega)]
    · by_cases hc2 : m / 10 ^ j % 10 < n / 10 ^ j % 10
      · have hlt : m < n := by
          apply Nat.lt_of_not_le
          intro h
          have := Nat.div_le_div_right (c := 10 ^ j) h
          omega
        refine Ev.step (f := fun _ => some (-1)) (fun k => ?_) ?_
        · simp only [newswireref03_order.l0]
          rw [e0, if_pos (by omega), if_pos (by omega), if_pos (by omega), if_pos (by omega), ra, rb, if_neg (by omega), if_pos (by omega)]
        · rw [show cmpZ (m : Int) (n : Int) = -1 by unfold cmpZ; rw [if_pos (by omega)]]; exact Ev.now _
      · have hlt : n < m := by
          apply Nat.lt_of_not_le
          intro h
          have := Nat.div_le_div_right (c := 10 ^ j) h
          omega
        refine Ev.step (f := fun _ => some 1) (fun k => ?_) ?_
        · simp only [newswireref03_order.l0]
          rw [e0, if_pos (by omega), if_pos (by omega), if_pos (by omega), if_pos (by omega), ra, rb, if_neg (by omega), if_neg (by omega)]
        · rw [show cmpZ (m : Int) (n : Int) = 1 by unfold cmpZ; rw [if_neg (by omega), if_pos (by omega)]]; exact Ev.now _
theorem lt_of_len {m n : Nat} (h : (dgs m).length < (dgs n).length) : m < n := by
  by_cases h0 : m < n
  · exact h0
  · have h1 := dgs_length_le (Nat.lt_of_le_of_lt (Nat.le_of_not_lt h0) (lt_dgs_length m))
    omega
theorem order_ev {m n : Nat} (hm : (dgs m).length ≤ 900) : Ev (fun k => newswireref03_order.f k (dgs m) (dgs n)) (cmpZ m n) := by
  have h1 := hm
  by_cases hl : (dgs m).length = (dgs n).length
  · have he : m / 10 ^ (dgs m).length = n / 10 ^ (dgs m).length := by
      rw [Nat.div_eq_of_lt (lt_dgs_length m), hl, Nat.div_eq_of_lt (lt_dgs_length n)]
    have := order_loop m n hm hl (dgs m).length (Nat.le_refl _) he
    refine Ev.congr (fun k => ?_) this
    unfold newswireref03_order.f
    rw [if_pos (by omega), wrap_id (by omega) (by omega)]
  · by_cases h2 : (dgs m).length < (dgs n).length
    · have := lt_of_len h2
      refine Ev.congr (f := fun _ => some (-1)) (fun k => ?_) ?_
      · unfold newswireref03_order.f
        rw [if_neg (by omega), if_pos (by omega)]
      · rw [show cmpZ (m : Int) (n : Int) = -1 by unfold cmpZ; rw [if_pos (by omega)]]; exact Ev.now _
    · have : n < m := lt_of_len (by omega)
      refine Ev.congr (f := fun _ => some 1) (fun k => ?_) ?_
      · unfold newswireref03_order.f
        rw [if_neg (by omega), if_neg (by omega)]
      · rw [show cmpZ (m : Int) (n : Int) = 1 by unfold cmpZ; rw [if_neg (by omega), if_pos (by omega)]]; exact Ev.now _
end Go.Proofs.YthbiafjdilbbnaaGreatDoor

/-
  What the reference's functions on digit lists come to: times, divided.
-/
namespace Go.Proofs.YthbiafjdilbbnaaGreatDoor
open Go.RowKit Go.Lib Go.Proofs.YthbiafjdilbbnaaGreatDoor.PI Go.Proofs.YthbiafjdilbbnaaGreatDoorW.PrintWords Go.Proofs.YthbiafjdilbbnaaGreatDoorW.PrintLast

theorem rd_at {l : List Int} {j : Nat} (h : j < l.length) : rd l (j : Int) = l[j] := by
  unfold rd; rw [Int.toNat_natCast, List.getD_eq_getElem?_getD, List.getElem?_eq_getElem h]; rfl
theorem dv_set (l : List Int) (j : Nat) (h : j < l.length) (x : Int) : dv (l.set j x) + 10 ^ j * (l[j]).toNat = dv l + 10 ^ j * x.toNat := by
  induction l generalizing j with
  | nil => simp at h
  | cons y l ih =>
    cases j with
    | zero => simp [dv]; omega
    | succ j =>
      have := ih j (by simpa using h)
      rw [List.set_cons_succ, dv, dv, List.getElem_cons_succ, Nat.pow_succ]
      rw [Nat.mul_comm (10 ^ j) 10, Nat.mul_assoc, Nat.mul_assoc]
      omega
theorem dg_set {l : List Int} (h : Dg l) (j : Nat) {x : Int} (h0 : 0 ≤ x) (h1 : x < 10) : Dg (l.set j x) := by
  intro y hy
  rcases List.mem_or_eq_of_mem_set hy with h2 | h2
  · exact h y h2
  · omega
theorem dv_append (a b : List Int) : dv (a ++ b) = dv a + 10 ^ a.length * dv b := by
  induction a with
  | nil => simp [dv]
  | cons x a ih => rw [List.cons_append, dv, ih, dv, List.length_cons, Nat.pow_succ]; grind
theorem dv_zeros (k : Nat) : dv (List.replicate k 0) = 0 := by
  induction k with
  | zero => rfl
  | succ k ih => rw [List.replicate_succ, dv, ih]; rfl
theorem dg_zeros (k : Nat) : Dg (List.replicate k 0) := by
  intro x hx
  have := List.eq_of_mem_replicate hx
  omega
theorem mod_pow_succ (m i : Nat) : m % 10 ^ (i + 1) = m % 10 ^ i + 10 ^ i * (m / 10 ^ i % 10) := Nat.mod_pow_succ

set_option maxRecDepth 4000 in
theorem rtimes_in (m n : Nat) (hm : (dgs m).length ≤ 400) (hn : (dgs n).length ≤ 400) (i T : Nat) (R : List Int) (hi : i < (dgs m).length) (hT : T < 10 ^ (i + 1 + (dgs n).length))
    (next : ∀ out : List Int, out.length = (dgs m).length + (dgs n).length → Dg out → dv out = T → Ev (fun k => newswireref03_times.l0 k (dgs m) (dgs n) out ((i + 1 : Nat) : Int)) R) (d : Nat) :
    ∀ (out : List Int) (c kk : Nat), d = (dgs m).length + (dgs n).length - (i + kk) → out.length = (dgs m).length + (dgs n).length → kk ≤ (dgs n).length + 1 → Dg out → c ≤ 9 →
      dv out + 10 ^ (i + kk) * (c + m / 10 ^ i % 10 * (n / 10 ^ kk)) = T → Ev (fun k => newswireref03_times.l1 k (dgs m) (dgs n) out (i : Int) (c : Int) (kk : Int)) R := by
  have h1 : (dgs m).length ≤ 400 := hm
  have h2 : (dgs n).length ≤ 400 := hn
  induction d using Nat.strongRecOn with
  | _ d ih =>
    intro out c kk hd ho hk hg hc he
    have lb := lt_dgs n kk
    have ra := rd_dgs m i
    have rb := rd_dgs n kk
    have eb := div_pow_succ n kk
    have hTP : (dgs n).length + 1 ≤ kk → T < 10 ^ (i + kk) := fun h => Nat.lt_of_lt_of_le hT (Nat.pow_le_pow_right (by omega) (by omega))
    have hP1 : 10 ^ (i + (kk + 1)) = 10 ^ (i + kk) * 10 := Nat.pow_succ 10 (i + kk)
    have hset0 := fun (h : i + kk < out.length) (x : Int) => dv_set out (i + kk) h x
    have HN := Aside0.mk next
    have HI := Aside0.mk ih
    clear hT next ih
    obtain ⟨P, hP⟩ : ∃ P, P = 10 ^ (i + kk) := ⟨_, rfl⟩
    rw [← hP] at he hTP hP1
    simp only [← hP] at hset0
    clear hP
    obtain ⟨B, hB⟩ : ∃ B, B = n / 10 ^ kk := ⟨_, rfl⟩
    rw [← hB] at rb lb eb he
    obtain ⟨a, ha⟩ : ∃ a, a = m / 10 ^ i % 10 := ⟨_, rfl⟩
    have ha9 : a ≤ 9 := by omega
    rw [← ha] at ra he
    obtain ⟨U, hU⟩ : ∃ U, U = a * (B % 10) := ⟨_, rfl⟩
    have hab : U ≤ 81 := by rw [hU]; exact Nat.mul_le_mul ha9 (show B % 10 ≤ 9 by omega)
    have HU := Aside0.mk hU
    have HP1 := Aside0.mk hP1
    have HE := Aside0.mk he
    have HS := Aside0.mk hset0
    have HA := Aside0.mk ha
    clear hU he hset0 ha hP1
    by_cases hgo : kk < (dgs n).length ∨ 0 < c
    · have hkk : kk ≤ (dgs n).length := by
        apply Nat.le_of_not_lt
        intro h4
        have h5 := hTP h4
        have h6 : P * 1 ≤ P * (c + a * B) := Nat.mul_le_mul_left _ (by generalize a * B = z; omega)
        have he := HE.out
        generalize P * (c + a * B) = z at *
        omega
      have hin : i + kk < (dgs m).length + (dgs n).length := by omega
      have hlt : i + kk < out.length := by omega
      have ro := rd_at hlt
      have hx := hg _ (List.getElem_mem hlt)
      obtain ⟨x, hxx⟩ : ∃ x, x = out[i + kk] := ⟨_, rfl⟩
      rw [← hxx] at ro hx
      have HX := Aside0.mk hxx
      clear hxx
      have HW := Aside0.mk (show wrap64 ((i : Int) + (kk : Int)) = ((i + kk : Nat) : Int) by rw [wrap_id (by omega) (by omega)]; omega)
      have RA := Aside0.mk ra
      have RB := Aside0.mk rb
      have RO := Aside0.mk ro
      clear ra rb ro
      have key : ∀ s : Nat, s = x.toNat + c + U → Ev (fun k => newswireref03_times.l1 k (dgs m) (dgs n) (out.set (i + kk) (Int.tmod (s : Int) 10)) (i : Int) (wrap64 (Int.tdiv (s : Int) 10)) (wrap64 ((kk : Int) + 1))) R := by
        intro s hs
        refine Ev.congr (fun k => ?_) (HI.out (d - 1) (by omega) (out.set (i + kk) ((s % 10 : Nat) : Int)) (s / 10) (kk + 1) (by omega) (by rw [List.length_set]; exact ho) (by omega) (dg_set hg _ (by omega) (by omega)) (by omega) ?_)
        · rw [Int.tmod_eq_emod_of_nonneg (by omega), Int.tdiv_eq_ediv_of_nonneg (by omega), wrap_id (by omega) (by omega), wrap_id (by omega) (by omega)]
          rw [show ((s : Int) % 10) = ((s % 10 : Nat) : Int) by omega, show ((s : Int) / 10) = ((s / 10 : Nat) : Int) by omega, show (kk : Int) + 1 = ((kk + 1 : Nat) : Int) by omega]
        · have e1 := HS.out hlt ((s % 10 : Nat) : Int)
          rw [← HX.out, Int.toNat_natCast] at e1
          rw [← HA.out, eb, ← HE.out, HP1.out, Nat.mul_assoc]
          have e2 : 10 * (s / 10 + a * (B / 10)) + s % 10 = x.toNat + (c + a * B) := by
            have e3 : a * B = 10 * (a * (B / 10)) + U := by
              rw [HU.out, Nat.mul_left_comm, ← Nat.mul_add]; congr 1; omega
            rw [e3]
            generalize a * (B / 10) = z
            omega
          have e4 : P * (10 * (s / 10 + a * (B / 10)) + s % 10) = P * (x.toNat + (c + a * B)) := by rw [e2]
          rw [Nat.mul_add P (10 * (s / 10 + a * (B / 10))), Nat.mul_add P x.toNat] at e4
          generalize P * (10 * (s / 10 + a * (B / 10))) = z1 at *
          generalize P * (s % 10) = z2 at *
          generalize P * x.toNat = z3 at *
          generalize P * (c + a * B) = z4 at *
          clear hs hTP hx hin hkk hgo
          omega
      refine Ev.step (f := fun k => newswireref03_times.j2 k (dgs m) (dgs n) out (i : Int) (c : Int) (kk : Int) true) (fun k => ?_) (Ev.step (fun k => ?_) (key _ rfl))
      · simp only [newswireref03_times.l1]
        by_cases h3 : (kk : Int) < ((dgs n).length : Int)
        · rw [if_pos h3]
        · rw [if_neg h3, decide_eq_true (by omega)]
      · simp only [newswireref03_times.j2]
        rw [if_pos trivial, HW.out, if_pos (by omega), if_pos (by omega)]
        by_cases h3 : (kk : Int) < ((dgs n).length : Int)
        · rw [if_pos h3, if_pos (by omega), if_pos (by omega), if_pos (by omega), RA.out, RB.out, RO.out, Int.toNat_natCast]
          have hm2 : ((a : Nat) : Int) * ((B % 10 : Nat) : Int) = (U : Int) := by rw [HU.out, Int.natCast_mul]
          rw [hm2, wrap_id (x := x + _) (by omega) (by omega), wrap_id (x := (U : Int)) (by omega) (by omega), wrap_id (x := x + _ + _) (by omega) (by omega)]
          rw [show x + (c : Int) + (U : Int) = ((x.toNat + c + U : Nat) : Int) by omega]
        · have hB0 := mt lb.2 h3
          have hB1 : B = 0 := by omega
          have hU0 : U = 0 := by rw [HU.out, hB1]; rfl
          rw [if_neg h3, RO.out, Int.toNat_natCast, wrap_id (x := x + _) (by omega) (by omega)]
          rw [show x + (c : Int) = ((x.toNat + c + U : Nat) : Int) by omega]
    · have hB0 := mt lb.2 (by omega)
      have hB1 : B = 0 := by omega
      have c0 : c = 0 := by omega
      subst c0
      have he := HE.out
      rw [hB1, Nat.mul_zero, Nat.add_zero, Nat.mul_zero, Nat.add_zero] at he
      clear HE HS HA HU
      refine Ev.step (f := fun k => newswireref03_times.j2 k (dgs m) (dgs n) out (i : Int) ((0 : Nat) : Int) (kk : Int) false) (fun k => ?_) (Ev.step (fun k => ?_) (HN.out out ho hg he))
      · simp only [newswireref03_times.l1]
        rw [if_neg (by omega)]; rfl
      · simp only [newswireref03_times.j2]
        rw [if_neg (by simp), wrap_id (by omega) (by omega)]; rfl
theorem rtimes_out (m n : Nat) (hm : (dgs m).length ≤ 400) (hn : (dgs n).length ≤ 400) (d : Nat) : ∀ (i : Nat) (out : List Int), d = (dgs m).length - i → i ≤ (dgs m).length → out.length = (dgs m).length + (dgs n).length → Dg out → dv out = m % 10 ^ i * n →
    Ev (fun k => newswireref03_times.l0 k (dgs m) (dgs n) out (i : Int)) (dgs (m * n)) := by
  have h1 : (dgs m).length ≤ 400 := hm
  have h2 : (dgs n).length ≤ 400 := hn
  induction d with
  | zero =>
    intro i out hd hi ho hg he
    have e : m % 10 ^ i = m := Nat.mod_eq_of_lt (by rw [show i = (dgs m).length by omega]; exact lt_dgs_length m)
    rw [e] at he
    refine Ev.step (f := fun k => (newswireref03_trim.f k out).bind fun t => some t) (fun k => ?_) ?_
    · simp only [newswireref03_times.l0]
      rw [if_neg (by omega)]
    · rw [← he]; clear he e; exact Ev.bind (trim_ev out hg (by rw [ho]; omega)) (Ev.now _)
  | succ d ih =>
    intro i out hd hi ho hg he
    refine Ev.step (f := fun k => newswireref03_times.l1 k (dgs m) (dgs n) out (i : Int) ((0 : Nat) : Int) ((0 : Nat) : Int)) (fun k => ?_) ?_
    · simp only [newswireref03_times.l0]
      rw [if_pos (by omega)]; rfl
    · refine rtimes_in m n hm hn i (m % 10 ^ (i + 1) * n) _ (by omega) ?_ (fun out' h3 h4 h5 => ih (i + 1) out' (by omega) (by omega) h3 h4 h5) _ out 0 0 rfl ho (by omega) hg (by omega) ?_
      · rw [Nat.pow_add 10 (i + 1)]
        exact Nat.mul_lt_mul'' (Nat.mod_lt _ (show 0 < 10 ^ (i + 1) from Nat.pow_pos (by decide))) (lt_dgs_length n)
      · rw [mod_pow_succ, he, Nat.add_zero, Nat.pow_zero, Nat.div_one, Nat.zero_add, Nat.add_mul, Nat.mul_assoc]
theorem times_ev {m n : Nat} (hm : (dgs m).length ≤ 400) (hn : (dgs n).length ≤ 400) : Ev (fun k => newswireref03_times.f k (dgs m) (dgs n)) (dgs (m * n)) := by
  have h1 : (dgs m).length ≤ 400 := hm
  have h2 : (dgs n).length ≤ 400 := hn
  have e : wrap64 (((dgs m).length : Int) + ((dgs n).length : Int)) = (((dgs m).length + (dgs n).length : Nat) : Int) := by rw [wrap_id (by omega) (by omega)]; omega
  refine Ev.congr (fun k => ?_) (rtimes_out m n hm hn (dgs m).length 0 (List.replicate ((dgs m).length + (dgs n).length) 0) rfl (by omega) (by simp) (dg_zeros _) (by rw [dv_zeros, Nat.pow_zero, Nat.mod_one, Nat.zero_mul]))
  unfold newswireref03_times.f
  rw [e, if_pos (by omega), Int.toNat_natCast, if_pos (by omega)]; rfl

/-! ### divided -/
theorem set_zeros (i : Nat) (hi : List Int) (t v : Int) : (List.replicate i 0 ++ t :: hi).set i v = List.replicate i 0 ++ v :: hi := by
  rw [List.set_append_right _ _ (by simp)]; simp
theorem rd_zeros (i : Nat) (hi : List Int) (t : Int) : rd (List.replicate i 0 ++ t :: hi) (i : Int) = t := by
  unfold rd; rw [Int.toNat_natCast]; simp [List.getD_eq_getElem?_getD]
theorem snoc_zeros (i : Nat) (hi : List Int) : List.replicate (i + 1) (0 : Int) ++ hi = List.replicate i 0 ++ 0 :: hi := by
  rw [List.replicate_succ']; simp

theorem rdiv_in (m n : Nat) (hn : 0 < n) (hn4 : (dgs n).length ≤ 400) (i Q R0 a : Nat) (hi : List Int) (hR0 : R0 < n) (ha : a < 10) (hg : Dg hi) (hq : dv hi = Q) (hl : i + hi.length < 1000)
    (hA : m / 10 ^ i = n * (10 * Q) + (10 * R0 + a)) (X : List Int × List Int)
    (next : ∀ hi' : List Int, hi'.length = hi.length + 1 → Dg hi' → dv hi' = m / 10 ^ i / n → Ev (fun k => newswireref03_divided.l0 k (dgs m) (dgs n) (List.replicate i 0 ++ hi') (dgs (m / 10 ^ i % n)) ((i : Int) - 1)) X) (R : Nat) :
    ∀ t : Nat, R + t * n = 10 * R0 + a → Ev (fun k => newswireref03_divided.l1 k (dgs m) (dgs n) (List.replicate i 0 ++ (t : Int) :: hi) (dgs R) (i : Int)) X := by
  induction R using Nat.strongRecOn with
  | _ R ih =>
    intro t ht
    have hR : (dgs R).length ≤ 900 := by
      have h1 := lt_dgs_length n
      have h3 : R < 10 ^ ((dgs n).length + 1) := by rw [Nat.pow_succ]; omega
      have := dgs_length_le h3
      omega
    have ht9 : t < 10 := by
      apply Nat.lt_of_not_le
      intro h
      have := Nat.mul_le_mul_right n h
      omega
    by_cases hc : n ≤ R
    · refine Ev.step (fun k => by simp only [newswireref03_divided.l1]; rfl) (Ev.bind (order_ev hR) ?_)
      refine ev_pos (by unfold cmpZ; split <;> (try split) <;> omega) (Ev.bind (minus_ev hR hc) ?_)
      refine ev_pos (by omega) (ev_pos (by simp; omega) ?_)
      have := ih (R - n) (by omega) (t + 1) (by rw [Nat.add_mul, Nat.one_mul]; omega)
      refine Ev.congr (fun k => ?_) this
      rw [Int.toNat_natCast, rd_zeros, set_zeros, wrap_id (by omega) (by omega), show (t : Int) + 1 = ((t + 1 : Nat) : Int) by omega]
    · refine Ev.step (fun k => by simp only [newswireref03_divided.l1]; rfl) (Ev.bind (order_ev hR) ?_)
      refine ev_neg (by unfold cmpZ; split <;> (try split) <;> omega) ?_
      have hdm : m / 10 ^ i / n = 10 * Q + t ∧ m / 10 ^ i % n = R := by
        refine (Nat.div_mod_unique hn).2 ⟨?_, by omega⟩
        rw [hA, Nat.mul_add, Nat.mul_comm n t]; omega
      have := next ((t : Int) :: hi) (by simp) (dg_cons.2 ⟨by omega, hg⟩) (by rw [dv, hq, hdm.1, Int.toNat_natCast]; omega)
      rw [hdm.2] at this
      refine Ev.congr (fun k => ?_) this
      rw [wrap_id (by omega) (by omega)]
theorem rdiv_out (m n : Nat) (hm : (dgs m).length ≤ 900) (hn : 0 < n) (hn4 : (dgs n).length ≤ 400) (i : Nat) : ∀ hi : List Int, i + hi.length = (dgs m).length → Dg hi → dv hi = m / 10 ^ i / n →
    Ev (fun k => newswireref03_divided.l0 k (dgs m) (dgs n) (List.replicate i 0 ++ hi) (dgs (m / 10 ^ i % n)) ((i : Int) - 1)) (dgs (m / n), dgs (m % n)) := by
  have h1 := hm
  induction i with
  | zero =>
    intro hi hl hg he
    rw [Nat.pow_zero, Nat.div_one] at he ⊢
    refine Ev.step (f := fun k => (newswireref03_trim.f k hi).bind fun t => some (t, dgs (m % n))) (fun k => ?_) ?_
    · simp only [newswireref03_divided.l0]
      rw [if_neg (by omega)]; rfl
    · rw [← he]; exact Ev.bind (trim_ev hi hg (by omega)) (Ev.now _)
  | succ i ih =>
    intro hi hl hg he
    have ra := rd_dgs m i
    have ea := div_pow_succ m i
    have hdm := Nat.div_add_mod (m / 10 ^ (i + 1)) n
    obtain ⟨A, hAe⟩ : ∃ A, A = m / 10 ^ i := ⟨_, rfl⟩
    rw [← hAe] at ra ea
    rw [ea] at hdm he ⊢
    have hR0 : A / 10 % n < n := Nat.mod_lt _ hn
    obtain ⟨Q, hQ⟩ : ∃ Q, Q = A / 10 / n := ⟨_, rfl⟩
    obtain ⟨R0, hR⟩ : ∃ R0, R0 = A / 10 % n := ⟨_, rfl⟩
    rw [← hQ] at he hdm
    rw [← hR] at hR0 hdm ⊢
    have hlen : (dgs R0).length ≤ 400 := Nat.le_trans (dgs_length_mono (Nat.le_of_lt hR0)) hn4
    have hin := rdiv_in m n hn hn4 i Q R0 (A % 10) hi hR0 (by omega) hg he (by omega) (by rw [← hAe, Nat.mul_left_comm]; omega) (dgs (m / n), dgs (m % n))
      (fun hi' h3 h4 h5 => ih hi' (by omega) h4 h5) (10 * R0 + A % 10) 0 (by omega)
    have htr := trim_ev ([((A % 10 : Nat) : Int)] ++ dgs R0) (dg_append.2 ⟨dg_cons.2 ⟨by omega, dg_nil⟩, dg_dgs R0⟩) (by simp; omega)
    rw [show dv ([((A % 10 : Nat) : Int)] ++ dgs R0) = 10 * R0 + A % 10 by rw [List.singleton_append, dv, dv_dgs, Int.toNat_natCast]; omega] at htr
    rw [snoc_zeros, show ((i + 1 : Nat) : Int) - 1 = (i : Int) by omega]
    refine Ev.step (f := fun k => (newswireref03_trim.f k ([((A % 10 : Nat) : Int)] ++ dgs R0)).bind fun t => newswireref03_divided.l1 k (dgs m) (dgs n) (List.replicate i 0 ++ (0 : Int) :: hi) t (i : Int)) (fun k => ?_) (Ev.bind htr hin)
    simp only [newswireref03_divided.l0, Option.bind_some]
    rw [if_pos (by omega), if_pos (by omega), if_pos (by omega), if_pos (by simp; omega), ra]
theorem divided_ev {m n : Nat} (hm : (dgs m).length ≤ 900) (hn : 0 < n) (hn4 : (dgs n).length ≤ 400) : Ev (fun k => newswireref03_divided.f k (dgs m) (dgs n)) (dgs (m / n), dgs (m % n)) := by
  have h1 := hm
  have e : m / 10 ^ (dgs m).length = 0 := Nat.div_eq_of_lt (lt_dgs_length m)
  have := rdiv_out m n hm hn hn4 (dgs m).length [] (by simp) dg_nil (by rw [e, Nat.zero_div]; rfl)
  rw [e, Nat.zero_mod, dgs_zero, List.append_nil] at this
  refine Ev.congr (fun k => ?_) this
  unfold newswireref03_divided.f
  rw [if_pos (by omega), Int.toNat_natCast, if_pos (by omega), wrap_id (by omega) (by omega)]
end Go.Proofs.YthbiafjdilbbnaaGreatDoor

/-
  What the reference's functions on strings come to: Valid, digits, checked, and the operations at numbers' strings.
-/
namespace Go.Proofs.YthbiafjdilbbnaaGreatDoor
open Go.RowKit Go.Lib Go.Proofs.YthbiafjdilbbnaaGreatDoor.PI Go.Proofs.YthbiafjdilbbnaaGreatDoorW.PrintWords Go.Proofs.YthbiafjdilbbnaaGreatDoorW.PrintLast

theorem bt_bl {s : ByteArray} {i : Nat} (h : i < (bl s).length) : bt s (i : Int) = (((bl s)[i]).toNat : Int) := by
  have h2 : i < s.size := by rw [← bl_length]; exact h
  unfold bt
  rw [Int.toNat_natCast, dif_pos h2]; rfl
theorem bl_extract1 (s : ByteArray) : bl (s.extract 1 s.size) = (bl s).drop 1 := by
  unfold bl
  rw [ByteArray.data_extract, Array.toList_extract]
  simp only [List.extract_eq_take_drop]
  rw [List.take_of_length_le (by simp)]
theorem toList_bl (s : ByteArray) : s.toList = bl s := by rw [ByteArray.toList_eq]; rfl
theorem size_bl (s : ByteArray) : (s.size : Int) = ((bl s).length : Int) := by rw [bl_length]

/-! ### digits -/
theorem digits_loop (x0 : ByteArray) (neg : Bool) (n : Nat) (hn : n ≠ 0) (hx : bl x0 = decDigits n) (hl : (dgs n).length ≤ 1000) (j : Nat) (hj : j ≤ (dgs n).length) :
    Ev (fun k => newswireref03_digits.l0 k x0 neg ((dgs n).take ((dgs n).length - j)) ((j : Int) - 1)) (neg, dgs n) := by
  have hlen : (bl x0).length = (dgs n).length := by rw [hx, dec_dgs hn, List.length_map, List.length_reverse]
  induction j with
  | zero =>
    refine Ev.step (f := fun _ => some (neg, dgs n)) (fun k => ?_) (Ev.now _)
    simp only [newswireref03_digits.l0]
    rw [if_neg (by omega), Nat.sub_zero, List.take_length]
  | succ j ih =>
    have hlt : j < (bl x0).length := by omega
    have hk : (dgs n).length - 1 - j < (dgs n).length := by omega
    have hd := dg_dgs n _ (List.getElem_mem hk)
    have hb := bt_bl hlt
    have he : (bl x0)[j] = UInt8.ofNat (48 + ((dgs n)[(dgs n).length - 1 - j]).toNat) := by
      have e1 : (bl x0)[j]? = some (UInt8.ofNat (48 + ((dgs n)[(dgs n).length - 1 - j]).toNat)) := by
        rw [hx, dec_dgs hn, List.getElem?_map, List.getElem?_reverse (by omega), List.getElem?_eq_getElem hk]; rfl
      rw [List.getElem?_eq_getElem hlt] at e1
      exact Option.some.inj e1
    obtain ⟨d, hdd⟩ : ∃ d, d = (dgs n)[(dgs n).length - 1 - j] := ⟨_, rfl⟩
    rw [← hdd] at hd he
    rw [he, show (UInt8.ofNat (48 + d.toNat)).toNat = 48 + d.toNat from dig_ofNat (by omega)] at hb
    have hne : ¬ x0.toList = [48] := by
      rw [toList_bl, hx]
      intro e
      have e0 : decDigits 0 = [48] := by rw [dec_small (by omega)]; rfl
      exact hn (dec_inj (e.trans e0.symm))
    refine Ev.step (fun k => ?_) (ih (by omega))
    simp only [newswireref03_digits.l0]
    have e2 : (dgs n).take ((dgs n).length - j) = (dgs n).take ((dgs n).length - (j + 1)) ++ [d] := by
      rw [show (dgs n).length - j = ((dgs n).length - (j + 1)) + 1 by omega, List.take_succ_eq_append_getElem (by omega)]
      congr 2
      rw [hdd]
      congr 1
      omega
    have hs := size_bl x0
    have hw : (bt x0 (j : Int) - 48) % 256 = d := by rw [hb]; omega
    clear hb he
    rw [show ((j + 1 : Nat) : Int) - 1 = (j : Int) by omega, if_pos (by omega), if_neg hne, if_pos (by omega), if_pos (by rw [hs]; omega), if_pos (by rw [List.length_take]; omega), hw, e2, wrap_id (by omega) (by omega)]
theorem digits_j (x0 : ByteArray) (neg : Bool) (n : Nat) (hx : bl x0 = decDigits n) (hl : (dgs n).length ≤ 1000) :
    Ev (fun k => newswireref03_digits.j0 k x0 neg) (neg, dgs n) := by
  have hs := size_bl x0
  by_cases hn : n = 0
  · subst hn
    have e0 : decDigits 0 = [48] := by rw [dec_small (by omega)]; rfl
    have hl0 : (x0.toList = ([48] : List UInt8)) := by rw [toList_bl, hx, e0]
    rw [hx, e0] at hs
    have hs1 : (x0.size : Int) = 1 := hs
    refine Ev.step (f := fun k => newswireref03_digits.l0 k x0 neg [] 0) (fun k => ?_) (Ev.step (f := fun _ => some (neg, [])) (fun k => ?_) (by rw [dgs_zero]; exact Ev.now _))
    · simp only [newswireref03_digits.j0]
      rw [hs1, wrap_id (by omega) (by omega)]; rfl
    · simp only [newswireref03_digits.l0]
      rw [if_pos (by omega), if_pos hl0]
  · have hlen : (bl x0).length = (dgs n).length := by rw [hx, dec_dgs hn, List.length_map, List.length_reverse]
    have := digits_loop x0 neg n hn hx hl (dgs n).length (Nat.le_refl _)
    rw [Nat.sub_self, List.take_zero] at this
    refine Ev.step (fun k => ?_) this
    simp only [newswireref03_digits.j0]
    rw [hs, hlen, wrap_id (by omega) (by omega)]
theorem dgs_lim {n : Nat} (h : n < lim) : (dgs n).length ≤ 200 := dgs_length_le h
theorem digits_ev {z : Int} (h : z.natAbs < lim) : Ev (fun k => newswireref03_digits.f k (S z)) (decide (z < 0), dgs z.natAbs) := by
  have hl := dgs_lim h
  have hb := bl_S z
  have hs := size_bl (S z)
  have hp : 0 < (bl (S z)).length := by rw [hb]; exact List.length_pos_iff.2 (str_ne_nil z)
  have h0 := bt_bl hp
  by_cases hz : z < 0
  · have e : str z = 45 :: decDigits z.natAbs := by unfold str; rw [if_pos hz]
    have h45 : bt (S z) 0 = 45 := by
      have e1 : (bl (S z))[0] = 45 := by simp only [hb, e]; rfl
      rw [e1] at h0; exact h0
    have := digits_j ((S z).extract 1 (S z).size) true z.natAbs (by rw [bl_extract1, hb, e]; rfl) (by omega)
    rw [decide_eq_true hz]
    refine Ev.congr (fun k => ?_) this
    unfold newswireref03_digits.f
    rw [if_pos (by rw [hs]; omega), if_pos h45, if_pos (by rw [hs]; omega), h45]; rfl
  · have e : str z = decDigits z.natAbs := by unfold str; rw [if_neg hz]
    have h45 : ¬ bt (S z) 0 = 45 := by
      intro h2
      have h3 : ((bl (S z))[0]).toNat = 45 := by have h4 := h0.symm.trans h2; omega
      have h5 : (bl (S z))[0] = 45 := UInt8.toNat_inj.1 h3
      exact dec_no_minus z.natAbs _ (by rw [← e, ← hb]; exact List.getElem_mem hp) h5
    have := digits_j (S z) false z.natAbs (by rw [hb, e]) (by omega)
    rw [decide_eq_false hz]
    refine Ev.congr (fun k => ?_) this
    unfold newswireref03_digits.f
    rw [if_pos (by rw [hs]; omega), if_neg h45]
    rw [show (bt (S z) 0 == 45) = false from beq_eq_false_iff_ne.2 h45]

/-! ### Valid -/
def okD (d : List UInt8) (z : Bool) : Bool := !(d.isEmpty) && decide (d.length ≤ 200) && d.all isDig && (z || decide (d.head? ≠ some 48))
theorem valid_loop (s : ByteArray) (hs : s.size ≤ 281474976710656) (e : Nat) : ∀ i : Nat, e = (bl s).length - i → i ≤ (bl s).length → ((bl s).take i).all isDig = true → Ev (fun k => newswireref03_Valid.l0 k s (i : Int)) (okD (bl s) (decide (bl s = [48]))) := by
  have hsz := size_bl s
  have hbl := bl_length s
  induction e with
  | zero =>
    intro i he hi ha
    have hi2 : i = (bl s).length := by omega
    rw [hi2, List.take_length] at ha
    cases hb : bl s with
    | nil =>
      refine Ev.step (f := fun _ => some false) (fun k => ?_) (Ev.now _)
      simp only [newswireref03_Valid.l0]
      rw [hb] at hsz hi
      have h0 : (s.size : Int) = 0 := hsz
      rw [if_neg (by omega), if_neg (by omega)]
    | cons c l =>
      have hpos : 0 < (bl s).length := by rw [hb]; simp
      have h0 := bt_bl hpos
      have e1 : (bl s)[0] = c := by simp only [hb]; rfl
      rw [e1] at h0
      refine Ev.step (f := fun _ => some (okD (bl s) (decide (bl s = [48])))) (fun k => ?_) (by rw [hb]; exact Ev.now _)
      simp only [newswireref03_Valid.l0]
      rw [if_neg (by rw [hsz]; omega), if_pos (by rw [hsz]; omega)]
      unfold okD
      rw [ha]
      by_cases h2 : (bl s).length ≤ 200
      · rw [if_pos (by rw [hsz]; omega), decide_eq_true h2]
        by_cases h3 : bl s = [48]
        · rw [if_pos (by rw [toList_bl]; exact h3), decide_eq_true h3]
          rw [h3]; rfl
        · rw [if_neg (by rw [toList_bl]; exact h3), decide_eq_false h3, if_pos (by rw [hsz]; omega)]
          congr 1
          rw [show bt s 0 = (c.toNat : Int) from h0, hb]
          simp only [List.isEmpty_cons, Bool.not_false, Bool.true_and, Bool.and_true, Bool.false_or, List.head?_cons]
          by_cases h4 : c = 48
          · subst h4; rfl
          · have h6 : ((c.toNat : Int) != 48) = true := bne_iff_ne.2 (fun h5 => h4 (UInt8.toNat_inj.1 (by have : (48 : UInt8).toNat = 48 := rfl; omega)))
            rw [h6]
            symm
            exact decide_eq_true (fun h7 => h4 (Option.some.inj h7))
      · rw [if_neg (by rw [hsz]; omega), decide_eq_false h2, Bool.and_false, Bool.false_and, Bool.false_and]
  | succ e ih =>
    intro i he hi ha
    have hlt : i < (bl s).length := by omega
    have hb := bt_bl hlt
    by_cases hd : isDig (bl s)[i] = true
    · have hr : 48 ≤ ((bl s)[i]).toNat ∧ ((bl s)[i]).toNat ≤ 57 := by unfold isDig at hd; simpa using hd
      refine Ev.step (fun k => ?_) (ih (i + 1) (by omega) (by omega) (by rw [List.take_succ_eq_append_getElem hlt, List.all_append, ha]; simp [hd]))
      simp only [newswireref03_Valid.l0]
      rw [if_pos (by rw [hsz]; omega), if_pos (by omega), hb, if_neg (by omega), if_neg (by omega), wrap_id (by omega) (by omega)]; rfl
    · have hr : ¬ (48 ≤ ((bl s)[i]).toNat ∧ ((bl s)[i]).toNat ≤ 57) := by unfold isDig at hd; simpa using hd
      have hall : (bl s).all isDig = false := by
        rw [List.all_eq_false]
        exact ⟨_, List.getElem_mem hlt, hd⟩
      refine Ev.step (f := fun _ => some false) (fun k => ?_) (by unfold okD; rw [hall, Bool.and_false, Bool.false_and]; exact Ev.now _)
      simp only [newswireref03_Valid.l0]
      rw [if_pos (by rw [hsz]; omega), if_pos (by omega), hb]
      by_cases h2 : ((bl s)[i]).toNat < 48
      · rw [if_pos (by omega)]
      · rw [if_neg (by omega), if_pos (by omega)]
theorem valid_okD (s : List UInt8) : valid s = okD (digs s) (decide (s = [48])) := by unfold valid okD; rfl
theorem rvalid_ev {s : ByteArray} (hs : fit s) : Ev (fun k => newswireref03_Valid.f k s) (valid (bl s)) := by
  have hsz := size_bl s
  have hbl := bl_length s
  rw [valid_okD]
  have plain : (bl s).head? ≠ some 45 → Ev (fun k => newswireref03_Valid.j0 k s false) (okD (digs (bl s)) (decide (bl s = [48]))) := by
    intro h
    have e : digs (bl s) = bl s := by unfold digs; rw [if_neg h]
    rw [e]
    refine Ev.step (f := fun k => newswireref03_Valid.j1 k s) (fun k => ?_) (Ev.step (fun k => ?_) (valid_loop s hs _ 0 rfl (by omega) (by simp)))
    · simp only [newswireref03_Valid.j0]; rfl
    · simp only [newswireref03_Valid.j1]; rfl
  cases hb : bl s with
  | nil =>
    have := plain (by rw [hb]; simp)
    rw [hb] at this hsz
    have h0 : (s.size : Int) = 0 := hsz
    refine Ev.congr (fun k => ?_) this
    unfold newswireref03_Valid.f
    rw [if_neg (by omega)]
  | cons c l =>
    have hpos : 0 < (bl s).length := by rw [hb]; simp
    have h0 := bt_bl hpos
    have e1 : (bl s)[0] = c := by simp only [hb]; rfl
    rw [e1] at h0
    have h0' : bt s 0 = (c.toNat : Int) := h0
    by_cases hc : c = 45
    · subst hc
      have h45 : (bt s 0 == 45) = true := by rw [h0']; rfl
      have hx : bl (s.extract 1 s.size) = l := by rw [bl_extract1, hb]; rfl
      have e : digs (45 :: l) = l := by unfold digs; rfl
      have hne : decide ((45 :: l : List UInt8) = [48]) = false := by simp
      rw [e, hne]
      have start : ∀ r, Ev (fun k => if (s.extract 1 s.size).toList = ([48] : List UInt8) then some false else newswireref03_Valid.j1 k (s.extract 1 s.size)) r → Ev (fun k => newswireref03_Valid.f k s) r := by
        intro r h
        refine Ev.congr (f := fun k => newswireref03_Valid.j0 k s true) (fun k => ?_) (Ev.step (fun k => ?_) h)
        · unfold newswireref03_Valid.f
          rw [if_pos (by rw [hsz]; omega), if_pos (by rw [hsz]; omega), h45]
        · simp only [newswireref03_Valid.j0]
          rw [if_pos trivial, if_pos (by rw [hsz]; omega)]
      refine start _ ?_
      by_cases h48 : l = [48]
      · refine ev_pos (by rw [toList_bl, hx, h48]) ?_
        rw [h48]; exact Ev.now _
      · refine ev_neg (by rw [toList_bl, hx]; exact h48) ?_
        have hsz2 : (s.extract 1 s.size).size ≤ 281474976710656 := by rw [← bl_length, hx]; have hb2 := bl_length s; rw [hb] at hb2; unfold fit at hs; simp at hb2; omega
        have := valid_loop (s.extract 1 s.size) hsz2 _ 0 rfl (by omega) (by simp)
        rw [hx, decide_eq_false h48] at this
        refine Ev.step (fun k => ?_) this
        simp only [newswireref03_Valid.j1]; rfl
    · have := plain (by rw [hb]; simpa using hc)
      rw [hb] at this
      have h45 : (bt s 0 == 45) = false := by
        rw [h0']
        apply beq_eq_false_iff_ne.2
        intro h5
        exact hc (UInt8.toNat_inj.1 (by have : (45 : UInt8).toNat = 45 := rfl; omega))
      refine Ev.congr (fun k => ?_) this
      unfold newswireref03_Valid.f
      rw [if_pos (by rw [hsz]; omega), if_pos (by rw [hsz]; omega), h45]

/-! ### The operations -/
def lb2 (p : List UInt8 × Int) : ByteArray × Int := (lb p.1, p.2)
theorem checked_ev (neg : Bool) {n : Nat} (h : (dgs n).length ≤ 1000) : Ev (fun k => newswireref03_checked.f k neg (dgs n)) (lb2 (outS (sgn neg n))) := by
  refine Ev.congr (fun k => by unfold newswireref03_checked.f; rfl) (Ev.bind (text_ev neg n (by omega)) ?_)
  unfold outS lb2
  rw [natAbs_sgn]
  by_cases hn : n < lim
  · rw [decide_eq_true hn, if_pos hn]; exact ev_pos rfl (Ev.now _)
  · rw [decide_eq_false hn, if_neg hn]; exact ev_neg (by simp) (Ev.now _)
theorem sum_ev {a b : Int} (ha : a.natAbs < lim) (hb : b.natAbs < lim) (nb : Bool) {c : Int} (hc : c = sgn nb b.natAbs) (hz : b.natAbs = 0 → nb = false ∨ a = 0 ∨ True) :
    Ev (fun k => newswireref03_sum.f k (decide (a < 0)) (dgs a.natAbs) nb (dgs b.natAbs)) (lb2 (outS (a + c))) := by
  have h1 := dgs_lim ha
  have h2 := dgs_lim hb
  have hsa : a = sgn (decide (a < 0)) a.natAbs := by unfold sgn; by_cases h : a < 0 <;> simp [h] <;> omega
  have hlen : ∀ {m : Nat}, m ≤ a.natAbs + b.natAbs → (dgs m).length ≤ 1000 := by
    intro m hm
    have : m < 10 ^ (200 + 1) := by
      rw [Nat.pow_succ]
      have h3 : 10 ^ 200 = lim := rfl
      rw [h3]
      omega
    have := dgs_length_le this
    omega
  by_cases he : decide (a < 0) = nb
  · refine Ev.congr (fun k => by unfold newswireref03_sum.f; rfl) (ev_pos (by rw [he]; simp) (Ev.bind (plus_ev (by omega) (by omega)) (Ev.bind (checked_ev _ (hlen (Nat.le_refl _))) ?_)))
    have e : sgn (decide (a < 0)) (a.natAbs + b.natAbs) = a + c := by
      rw [hc, ← he]
      unfold sgn
      by_cases h : a < 0 <;> simp [h] <;> omega
    rw [e]; exact Ev.now _
  · have hnb : nb = !decide (a < 0) := Bool.eq_not.2 (fun h => he h.symm)
    refine Ev.congr (fun k => by unfold newswireref03_sum.f; rfl) (ev_neg (by simpa using he) (Ev.bind (order_ev (by omega)) ?_))
    by_cases hle : b.natAbs ≤ a.natAbs
    · refine ev_pos (by unfold cmpZ; split <;> (try split) <;> omega) (Ev.bind (minus_ev (by omega) hle) (Ev.bind (checked_ev _ (hlen (by omega))) ?_))
      have e : sgn (decide (a < 0)) (a.natAbs - b.natAbs) = a + c := by
        rw [hc]
        unfold sgn
        by_cases h : a < 0
        · rw [hnb, decide_eq_true h]; simp; omega
        · rw [hnb, decide_eq_false h]; simp; omega
      rw [e]; exact Ev.now _
    · refine ev_neg (by unfold cmpZ; split <;> (try split) <;> omega) (Ev.bind (minus_ev (by omega) (by omega)) (Ev.bind (checked_ev _ (hlen (by omega))) ?_))
      have e : sgn nb (b.natAbs - a.natAbs) = a + c := by
        rw [hc]
        unfold sgn
        by_cases h : a < 0
        · rw [hnb, decide_eq_true h]; simp; omega
        · rw [hnb, decide_eq_false h]; simp; omega
      rw [e]; exact Ev.now _
theorem S_of {s : ByteArray} (h : valid (bl s) = true) : ∃ z : Int, z.natAbs < lim ∧ s = S z := by
  obtain ⟨z, h1, h2⟩ := of_valid h
  exact ⟨z, h1, by unfold S; rw [← h2, lb_bl]⟩
theorem two_ev {β : Type} {a b : ByteArray} (ha : fit a) (hb : fit b) {J : Nat → Bool → Option β} {r : β} (h : Ev (fun k => J k (!(valid (bl a) && valid (bl b)))) r) :
    Ev (fun k => (newswireref03_Valid.f k a).bind fun t => if t = true then (newswireref03_Valid.f k b).bind fun u => J k (!u) else J k true) r := by
  refine Ev.bind (rvalid_ev ha) ?_
  cases hv : valid (bl a) with
  | false => rw [hv] at h; exact ev_neg (by simp) h
  | true => rw [hv, Bool.true_and] at h; exact ev_pos rfl (Ev.bind (rvalid_ev hb) h)
theorem one_ev {β : Type} {a b : ByteArray} (ha : fit a) (hb : fit b) {J : Nat → Bool → Option β} {r bad : β} (hbad : ∀ k, J (k + 1) true = some bad)
    (h0 : (valid (bl a) && valid (bl b)) = false → r = bad) (h1 : ∀ x y : Int, x.natAbs < lim → y.natAbs < lim → a = S x → b = S y → Ev (fun k => J k false) r) :
    Ev (fun k => (newswireref03_Valid.f k a).bind fun t => if t = true then (newswireref03_Valid.f k b).bind fun u => J k (!u) else J k true) r := by
  refine two_ev ha hb ?_
  cases hv : valid (bl a) && valid (bl b) with
  | false => rw [h0 hv]; exact Ev.step (f := fun _ => some bad) (fun k => hbad k) (Ev.now _)
  | true =>
    rw [Bool.and_eq_true] at hv
    obtain ⟨x, hx, ex⟩ := S_of hv.1
    obtain ⟨y, hy, ey⟩ := S_of hv.2
    exact h1 x y hx hy ex ey
theorem radd_ev {a b : ByteArray} (ha : fit a) (hb : fit b) : Ev (fun k => newswireref03_Add.f k a b) (lb2 (addS (bl a) (bl b))) := by
  refine Ev.congr (fun k => by unfold newswireref03_Add.f; rfl) (one_ev (bad := (lb [], 30)) ha hb (fun k => by simp only [newswireref03_Add.j0]; rfl) (fun h => by unfold addS; rw [if_neg (by simp [h])]; rfl) ?_)
  rintro x y hx hy rfl rfl
  rw [bl_S, bl_S, addS_str hx hy]
  refine Ev.step (fun k => by simp only [newswireref03_Add.j0]; rfl) (Ev.bind (digits_ev hx) (Ev.bind (digits_ev hy) (Ev.bind (sum_ev hx hy (decide (y < 0)) (c := y) ?_ (fun _ => .inr (.inr trivial))) (Ev.now _))))
  unfold sgn; by_cases h : y < 0 <;> simp [h] <;> omega
theorem rsub_ev {a b : ByteArray} (ha : fit a) (hb : fit b) : Ev (fun k => newswireref03_Sub.f k a b) (lb2 (subS (bl a) (bl b))) := by
  refine Ev.congr (fun k => by unfold newswireref03_Sub.f; rfl) (one_ev (bad := (lb [], 30)) ha hb (fun k => by simp only [newswireref03_Sub.j0]; rfl) (fun h => by unfold subS; rw [if_neg (by simp [h])]; rfl) ?_)
  rintro x y hx hy rfl rfl
  rw [bl_S, bl_S, subS_str hx hy, Int.sub_eq_add_neg]
  refine Ev.step (fun k => by simp only [newswireref03_Sub.j0]; rfl) (Ev.bind (digits_ev hx) (Ev.bind (digits_ev hy) (Ev.bind (sum_ev hx hy (!decide (y < 0)) (c := -y) ?_ (fun _ => .inr (.inr trivial))) (Ev.now _))))
  unfold sgn; by_cases h : y < 0 <;> simp [h] <;> omega
theorem rsgn_mul (x y : Int) : sgn (decide (x < 0) != decide (y < 0)) (x.natAbs * y.natAbs) = x * y := by
  have e : ((x.natAbs * y.natAbs : Nat) : Int) = (x.natAbs : Int) * (y.natAbs : Int) := Int.natCast_mul _ _
  unfold sgn
  by_cases hx : x < 0 <;> by_cases hy : y < 0
  · simp only [hx, hy, decide_true, bne_self_eq_false, Bool.false_eq_true, if_false, e]
    rw [show (x.natAbs : Int) = -x by omega, show (y.natAbs : Int) = -y by omega, Int.neg_mul_neg]
  · simp only [hx, hy, decide_true, decide_false, bne_iff_ne, ne_eq, Bool.true_eq_false, not_false_eq_true, if_true, e]
    rw [show (x.natAbs : Int) = -x by omega, show (y.natAbs : Int) = y by omega, Int.neg_mul, Int.neg_neg]
  · simp only [hx, hy, decide_true, decide_false, bne_iff_ne, ne_eq, Bool.false_eq_true, not_false_eq_true, if_true, e]
    rw [show (x.natAbs : Int) = x by omega, show (y.natAbs : Int) = -y by omega, Int.mul_neg, Int.neg_neg]
  · simp only [hx, hy, decide_false, bne_self_eq_false, Bool.false_eq_true, if_false, e]
    rw [show (x.natAbs : Int) = x by omega, show (y.natAbs : Int) = y by omega]
theorem dgs_mul_len {m n j k : Nat} (h1 : m < 10 ^ j) (h2 : n < 10 ^ k) : (dgs (m * n)).length ≤ j + k := dgs_length_le (by rw [Nat.pow_add]; exact Nat.mul_lt_mul'' h1 h2)
theorem rmul_ev {a b : ByteArray} (ha : fit a) (hb : fit b) : Ev (fun k => newswireref03_Mul.f k a b) (lb2 (mulS (bl a) (bl b))) := by
  refine Ev.congr (fun k => by unfold newswireref03_Mul.f; rfl) (one_ev (bad := (lb [], 30)) ha hb (fun k => by simp only [newswireref03_Mul.j0]; rfl) (fun h => by unfold mulS; rw [if_neg (by simp [h])]; rfl) ?_)
  rintro x y hx hy rfl rfl
  rw [bl_S, bl_S, mulS_str hx hy, ← rsgn_mul x y]
  have h1 := dgs_lim hx
  have h2 := dgs_lim hy
  have h3 : (dgs (x.natAbs * y.natAbs)).length ≤ 200 + 200 := dgs_mul_len hx hy
  exact Ev.step (fun k => by simp only [newswireref03_Mul.j0]; rfl) (Ev.bind (digits_ev hx) (Ev.bind (digits_ev hy) (Ev.bind (times_ev (m := x.natAbs) (n := y.natAbs) (by omega) (by omega)) (Ev.bind (checked_ev _ (n := x.natAbs * y.natAbs) (by omega)) (Ev.now _)))))
theorem rcmp_ev {a b : ByteArray} (ha : fit a) (hb : fit b) : Ev (fun k => newswireref03_Compare.f k a b) (cmpS (bl a) (bl b)) := by
  refine Ev.congr (fun k => by unfold newswireref03_Compare.f; rfl) (one_ev (bad := 0) ha hb (fun k => by simp only [newswireref03_Compare.j0]; rfl) (fun h => by unfold cmpS; rw [if_neg (by simp [h])]) ?_)
  rintro x y hx hy rfl rfl
  rw [bl_S, bl_S, cmpS_str hx hy]
  have h1 := dgs_lim hx
  have h2 := dgs_lim hy
  refine Ev.step (fun k => by simp only [newswireref03_Compare.j0]; rfl) (Ev.bind (digits_ev hx) (Ev.bind (digits_ev hy) ?_))
  by_cases hxn : x < 0 <;> by_cases hyn : y < 0
  · rw [decide_eq_true hxn, decide_eq_true hyn]
    refine ev_neg (by simp) (ev_pos rfl (Ev.bind (order_ev (by omega)) (ev_now ?_)))
    unfold cmpZ; split <;> split <;> (try split) <;> (try split) <;> omega
  · rw [decide_eq_true hxn, decide_eq_false hyn]
    refine ev_pos (by simp) (ev_pos rfl (ev_now ?_))
    unfold cmpZ; rw [if_pos (by omega)]
  · rw [decide_eq_false hxn, decide_eq_true hyn]
    refine ev_pos (by simp) (ev_neg (by simp) (ev_now ?_))
    unfold cmpZ; rw [if_neg (by omega), if_pos (by omega)]
  · rw [decide_eq_false hxn, decide_eq_false hyn]
    refine ev_neg (by simp) (ev_neg (by simp) (Ev.bind (order_ev (by omega)) (ev_now ?_)))
    unfold cmpZ; split <;> split <;> (try split) <;> (try split) <;> omega
theorem rgcd_loop (a b : Nat) (ha : (dgs a).length ≤ 400) (hb : (dgs b).length ≤ 400) : Ev (fun k => newswireref03_Gcd.l0 k (dgs a) (dgs b)) (lb2 (outS (Nat.gcd a b))) := by
  induction b using Nat.strongRecOn generalizing a with
  | _ b ih =>
    by_cases h0 : b = 0
    · subst h0
      refine Ev.step (fun k => by simp only [newswireref03_Gcd.l0]; rfl) (ev_neg (by rw [dgs_zero]; simp) (Ev.bind (checked_ev false (by omega)) ?_))
      rw [Nat.gcd_zero_right]; exact Ev.now _
    · have hp : (dgs b).length ≠ 0 := fun e => h0 (dgs_eq_nil.1 (List.length_eq_zero_iff.1 e))
      have hlt : a % b < b := Nat.mod_lt _ (by omega)
      refine Ev.step (fun k => by simp only [newswireref03_Gcd.l0]; rfl) (ev_pos (by omega) (Ev.bind (divided_ev (by omega) (by omega) hb) ?_))
      have := ih (a % b) hlt b hb (Nat.le_trans (dgs_length_mono (Nat.le_of_lt hlt)) hb)
      rw [Nat.gcd_comm a b, Nat.gcd_rec b a, Nat.gcd_comm (a % b) b]
      exact this
theorem rgcd_ev {a b : ByteArray} (ha : fit a) (hb : fit b) : Ev (fun k => newswireref03_Gcd.f k a b) (lb2 (gcdS (bl a) (bl b))) := by
  refine Ev.congr (fun k => by unfold newswireref03_Gcd.f; rfl) (one_ev (bad := (lb [], 30)) ha hb (fun k => by simp only [newswireref03_Gcd.j0]; rfl) (fun h => by unfold gcdS; rw [if_neg (by simp [h])]; rfl) ?_)
  rintro x y hx hy rfl rfl
  have h1 := dgs_lim hx
  have h2 := dgs_lim hy
  have := rgcd_loop x.natAbs y.natAbs (by omega) (by omega)
  rw [show Nat.gcd x.natAbs y.natAbs = Int.gcd x y from rfl, outS_ok (by rw [Int.natAbs_natCast]; exact gcd_lt hx hy)] at this
  rw [bl_S, bl_S, gcdS_str hx hy]
  exact Ev.step (fun k => by simp only [newswireref03_Gcd.j0]; rfl) (Ev.bind (digits_ev hx) (Ev.bind (digits_ev hy) this))
end Go.Proofs.YthbiafjdilbbnaaGreatDoor

/-
  What the reference's functions on strings come to: Div, Root, ToInt, FromInt.
-/
namespace Go.Proofs.YthbiafjdilbbnaaGreatDoor
open Go.RowKit Go.Lib Go.Proofs.YthbiafjdilbbnaaGreatDoor.PI Go.Proofs.YthbiafjdilbbnaaGreatDoorW.PrintWords Go.Proofs.YthbiafjdilbbnaaGreatDoorW.PrintLast

def lb3 (p : List UInt8 × List UInt8 × Int) : ByteArray × ByteArray × Int := (lb p.1, lb p.2.1, p.2.2)
theorem rdiv_end (x7 x9 : Bool) {q r : Nat} (z : Int) (hz : z = sgn (x7 != x9) q) (hq : q < lim) (hr : (dgs r).length ≤ 400) (w : Int) (hw : w = r) :
    Ev (fun k => newswireref03_Div.j2 k x7 x9 (dgs q) (dgs r)) (lb3 (str z, str w, 0)) := by
  have hlq := dgs_lim hq
  refine Ev.step (fun k => by simp only [newswireref03_Div.j2]; rfl) (Ev.bind (checked_ev _ (by omega)) (Ev.bind (text_ev false r (by omega)) ?_))
  subst hz hw
  rw [outS_ok (by rw [natAbs_sgn]; exact hq)]
  exact ev_pos rfl (Ev.now _)
theorem rdiv_ev {a b : ByteArray} (ha : fit a) (hb : fit b) : Ev (fun k => newswireref03_Div.f k a b) (lb3 (divS (bl a) (bl b))) := by
  have bad : ∀ k, newswireref03_Div.j0 (k + 1) a b true = some (lb3 ([], [], 30)) := fun k => by simp only [newswireref03_Div.j0]; rfl
  refine Ev.congr (fun k => by unfold newswireref03_Div.f; rfl) (Ev.bind (rvalid_ev ha) ?_)
  cases hva : valid (bl a) with
  | false =>
    refine ev_neg (by simp) (Ev.step bad ?_)
    unfold divS; rw [if_neg (by simp [hva])]; exact Ev.now _
  | true =>
    refine ev_pos rfl (Ev.bind (rvalid_ev hb) ?_)
    cases hvb : valid (bl b) with
    | false =>
      refine ev_neg (by simp) (Ev.step bad ?_)
      unfold divS; rw [if_neg (by simp [hvb])]; exact Ev.now _
    | true =>
      refine ev_pos rfl ?_
      obtain ⟨x, hx, rfl⟩ := S_of hva
      obtain ⟨y, hy, rfl⟩ := S_of hvb
      rw [S_beq0]
      by_cases h0 : y = 0
      · subst h0
        rw [decide_eq_true rfl]
        refine Ev.step bad ?_
        rw [bl_S, bl_S, divS_zero]; exact Ev.now _
      · rw [decide_eq_false h0, bl_S, bl_S, divS_str hx hy h0]
        have h1 := dgs_lim hx
        have h2 := dgs_lim hy
        have hyp : 0 < y.natAbs := by omega
        have hmlt : x.natAbs % y.natAbs < y.natAbs := Nat.mod_lt _ hyp
        have hqle : x.natAbs / y.natAbs ≤ x.natAbs := Nat.div_le_self _ _
        have hrl : (dgs (x.natAbs % y.natAbs)).length ≤ 200 := Nat.le_trans (dgs_length_mono (Nat.le_of_lt hmlt)) h2
        refine Ev.step (fun k => by simp only [newswireref03_Div.j0]; rfl) (Ev.bind (digits_ev hx) (Ev.bind (digits_ev hy) (Ev.bind (divided_ev (m := x.natAbs) (n := y.natAbs) (by omega) hyp (by omega)) ?_)))
        by_cases hxn : x < 0
        · refine ev_pos (by simpa using hxn) ?_
          by_cases hr0 : x.natAbs % y.natAbs = 0
          · obtain ⟨e1, e2⟩ := div_neg h0 (decide_eq_true hxn) hr0
            have hlen0 : (dgs (x.natAbs % y.natAbs)).length = 0 := by rw [hr0, dgs_zero]; rfl
            refine Ev.step (f := fun k => newswireref03_Div.j2 k (decide (x < 0)) (decide (y < 0)) (dgs (x.natAbs / y.natAbs)) (dgs (x.natAbs % y.natAbs))) (fun k => ?_) ?_
            · simp only [newswireref03_Div.j1]
              rw [if_neg (by simp [hlen0])]
            · refine rdiv_end _ _ _ ?_ (by omega) (by omega) _ ?_
              · rw [e1, decide_eq_true hxn]; cases decide (y < 0) <;> rfl
              · rw [e2]; rfl
          · obtain ⟨e1, e2⟩ := div_neg' h0 (decide_eq_true hxn) hr0
            have hlenp : (dgs (x.natAbs % y.natAbs)).length ≠ 0 := fun e => hr0 (dgs_eq_nil.1 (List.length_eq_zero_iff.1 e))
            have hup := div_up_le hr0 (by omega)
            have d1 : dgs 1 = [1] := by rw [dgs_pos (by omega), show (1 : Nat) / 10 = 0 by omega, dgs_zero]; rfl
            have hp := plus_ev (m := x.natAbs / y.natAbs) (n := 1) (Nat.le_trans (dgs_length_mono hqle) (by omega)) (by rw [d1]; simp)
            rw [d1] at hp
            refine Ev.step (f := fun k => (newswireref03_plus.f k (dgs (x.natAbs / y.natAbs)) [1]).bind fun t => (newswireref03_minus.f k (dgs y.natAbs) (dgs (x.natAbs % y.natAbs))).bind fun u => newswireref03_Div.j2 k (decide (x < 0)) (decide (y < 0)) t u) (fun k => ?_) ?_
            · simp only [newswireref03_Div.j1]
              rw [if_pos (by simp; omega)]
            · refine Ev.bind hp (Ev.bind (minus_ev (by omega) (Nat.le_of_lt hmlt)) (rdiv_end _ _ _ ?_ (by omega) (Nat.le_trans (dgs_length_mono (Nat.sub_le _ _)) (by omega)) _ ?_))
              · rw [e1, decide_eq_true hxn]; cases decide (y < 0) <;> rfl
              · rw [e2]; rfl
        · refine ev_neg (by simpa using hxn) ?_
          obtain ⟨e1, e2⟩ := div_pos h0 (decide_eq_false hxn)
          refine Ev.step (f := fun k => newswireref03_Div.j2 k (decide (x < 0)) (decide (y < 0)) (dgs (x.natAbs / y.natAbs)) (dgs (x.natAbs % y.natAbs))) (fun k => ?_) ?_
          · simp only [newswireref03_Div.j1]
            rw [if_neg (by simp)]
          · refine rdiv_end _ _ _ ?_ (by omega) (by omega) _ ?_
            · rw [e1, decide_eq_false hxn]; cases decide (y < 0) <;> rfl
            · rw [e2]; rfl

/-! ### FromInt -/
theorem fromInt_loop (n : Int) (h0 : -9223372036854775808 ≤ n) (h1 : n ≤ 9223372036854775807) (e : Nat) : ∀ (i : Nat) (m : Int), m = sgn (decide (n < 0)) e → i ≤ (dgs n.natAbs).length → n.natAbs / 10 ^ i = e →
    Ev (fun k => newswireref03_FromInt.l0 k n ((dgs n.natAbs).take i) m) (S n) := by
  have hlen : (dgs n.natAbs).length ≤ 20 := dgs_length_le (by omega)
  induction e using Nat.strongRecOn with
  | _ e ih =>
    intro i m hm hi hq
    have la := lt_dgs n.natAbs i
    rw [hq] at la
    have hle : e ≤ n.natAbs := by rw [← hq]; exact Nat.div_le_self _ _
    have hlt : ((dgs n.natAbs).take i).length < 17592186044416 := by rw [List.length_take]; omega
    by_cases hz : e = 0
    · subst hz
      have m0 : m = 0 := by rw [hm]; unfold sgn; split <;> rfl
      have hil : i = (dgs n.natAbs).length := by omega
      refine Ev.step (f := fun k => (newswireref03_text.f k (decide (n < 0)) (dgs n.natAbs)).bind fun t => some t.1) (fun k => ?_) (Ev.bind (text_ev _ _ (by omega)) (ev_now ?_))
      · simp only [newswireref03_FromInt.l0]
        rw [if_pos m0, hil, List.take_length]
      · show S (sgn (decide (n < 0)) n.natAbs) = S n
        congr 1
        unfold sgn; by_cases h : n < 0 <;> simp [h] <;> omega
    · have hil : i < (dgs n.natAbs).length := by have := la.2 hz; omega
      have hd : (dgs n.natAbs)[i] = ((e % 10 : Nat) : Int) := by rw [← rd_at hil, rd_dgs, hq]
      have next := ih (e / 10) (by omega) (i + 1) (sgn (decide (n < 0)) (e / 10)) rfl (by omega) (by rw [div_pow_succ, hq])
      rw [List.take_succ_eq_append_getElem hil, hd] at next
      refine Ev.step (fun k => ?_) next
      simp only [newswireref03_FromInt.l0]
      have ep : Int.tdiv (e : Int) 10 = ((e / 10 : Nat) : Int) := by rw [Int.tdiv_eq_ediv_of_nonneg (by omega)]; omega
      by_cases hn : n < 0
      · have em : m = -(e : Int) := by rw [hm, decide_eq_true hn]; rfl
        have es : sgn (decide (n < 0)) (e / 10) = -((e / 10 : Nat) : Int) := by rw [decide_eq_true hn]; rfl
        have et : Int.tdiv m 10 = -((e / 10 : Nat) : Int) := by rw [em, Int.neg_tdiv, ep]
        have emt : Int.tmod m 10 = -((e % 10 : Nat) : Int) := by rw [Int.tmod_def, et, em]; omega
        rw [if_neg (by omega), et, emt, es, wrap_id (x := -((e / 10 : Nat) : Int)) (by omega) (by omega)]
        by_cases h9 : e % 10 = 0
        · rw [if_neg (by omega), if_pos hlt, h9]; rfl
        · rw [if_pos (by omega), if_pos hlt, wrap_id (by omega) (by omega), Int.neg_neg]
      · have em : m = (e : Int) := by rw [hm, decide_eq_false hn]; rfl
        have es : sgn (decide (n < 0)) (e / 10) = ((e / 10 : Nat) : Int) := by rw [decide_eq_false hn]; rfl
        have emt : Int.tmod m 10 = ((e % 10 : Nat) : Int) := by rw [Int.tmod_def, em, ep]; omega
        rw [if_neg (by omega), emt, es, em, ep, wrap_id (x := ((e / 10 : Nat) : Int)) (by omega) (by omega), if_neg (by omega), if_pos hlt]
theorem rfromInt_ev {n : Int} (h0 : -9223372036854775808 ≤ n) (h1 : n ≤ 9223372036854775807) : Ev (fun k => newswireref03_FromInt.f k n) (S n) := by
  have := fromInt_loop n h0 h1 n.natAbs 0 n (by unfold sgn; by_cases h : n < 0 <;> simp [h] <;> omega) (by omega) (by simp)
  exact Ev.congr (fun k => by unfold newswireref03_FromInt.f; rfl) this

/-! ### ToInt -/
theorem num_take_le (l : List UInt8) (i : Nat) : num (l.take i) ≤ num l := by
  have e := num_append (l.take i) (l.drop i)
  rw [List.take_append_drop] at e
  have h : num (l.take i) * 1 ≤ num (l.take i) * 10 ^ (l.drop i).length := Nat.mul_le_mul_left _ (Nat.pow_pos (by omega))
  omega
theorem num_take_succ {l : List UInt8} {i : Nat} (h : i < l.length) : num (l.take (i + 1)) = num (l.take i) * 10 + (l[i].toNat - 48) := by
  rw [List.take_succ_eq_append_getElem h, num_snoc]
theorem toInt_loop (s : ByteArray) (hs : s.size ≤ 1000) (neg : Bool) (ds : List UInt8) (hb : bl s = (if neg then [45] else []) ++ ds) (hd : ∀ b ∈ ds, isDig b = true) (hn : num ds ≤ 9223372036854775807 + (if neg then 1 else 0)) (e : Nat) :
    ∀ i : Nat, e = ds.length - i → i ≤ ds.length → Ev (fun k => newswireref03_ToInt.l0 k s (sgn neg (num (ds.take i))) (((if neg then 1 else 0) + i : Nat) : Int)) (sgn neg (num ds), 0) := by
  have hsz := size_bl s
  have hlen : (bl s).length = (if neg then 1 else 0) + ds.length := by rw [hb]; cases neg <;> simp; omega
  obtain ⟨p, hp⟩ : ∃ p : Nat, p = if neg then 1 else 0 := ⟨_, rfl⟩
  rw [← hp] at hlen hn ⊢
  have hp1 : p ≤ 1 := by rw [hp]; split <;> omega
  induction e with
  | zero =>
    intro i he hi
    refine Ev.step (f := fun _ => some (sgn neg (num ds), 0)) (fun k => ?_) (Ev.now _)
    simp only [newswireref03_ToInt.l0]
    rw [if_neg (by omega), show i = ds.length by omega, List.take_length]
  | succ e ih =>
    intro i he hi
    have hlt : i < ds.length := by omega
    have hdig := hd _ (List.getElem_mem hlt)
    have hr : 48 ≤ (ds[i]).toNat ∧ (ds[i]).toNat ≤ 57 := by unfold isDig at hdig; simpa using hdig
    have hlt2 : p + i < (bl s).length := by omega
    have hbt := bt_bl hlt2
    have e1 : (bl s)[p + i] = ds[i] := by
      have e2 : (bl s)[p + i]? = some ds[i] := by
        rw [hb, hp]
        cases neg
        · simp [List.getElem?_eq_getElem hlt]
        · simp only [if_true, List.singleton_append]
          rw [Nat.add_comm, List.getElem?_cons_succ, List.getElem?_eq_getElem hlt]
      rw [List.getElem?_eq_getElem hlt2] at e2
      exact Option.some.inj e2
    rw [e1] at hbt
    have hpos : 0 < (bl s).length := by omega
    have h0 := bt_bl hpos
    have hstep := num_take_succ hlt
    have hle := num_take_le ds (i + 1)
    have hneg : bt s 0 = 45 ↔ neg = true := by
      rw [show bt s 0 = (((bl s)[0]).toNat : Int) from h0]
      cases hneg : neg
      · subst hneg
        have hpz : p = 0 := hp
        have hl0 : 0 < ds.length := by omega
        have e3 : (bl s)[0] = ds[0] := by simp only [hb]; rfl
        have hd0 := hd _ (List.getElem_mem hl0)
        have hr0 : 48 ≤ (ds[0]).toNat ∧ (ds[0]).toNat ≤ 57 := by unfold isDig at hd0; simpa using hd0
        rw [e3]
        simp; omega
      · subst hneg
        have e3 : (bl s)[0] = 45 := by simp only [hb]; rfl
        rw [e3]; simp
    obtain ⟨d, hdd⟩ : ∃ d, d = (ds[i]).toNat := ⟨_, rfl⟩
    rw [← hdd] at hbt hr hstep
    obtain ⟨u, hu⟩ : ∃ u, u = num (ds.take i) := ⟨_, rfl⟩
    rw [← hu] at hstep ⊢
    have next := ih (i + 1) (by omega) (by omega)
    rw [hstep] at next
    rw [hstep] at hle
    have hsum : (((p + i : Nat) : Int) + 1) = ((p + (i + 1) : Nat) : Int) := by omega
    have hmod : (bt s ((p + i : Nat) : Int) - 48) % 256 = ((d - 48 : Nat) : Int) := by rw [hbt]; omega
    have h45 : ¬ bt s ((p + i : Nat) : Int) = 45 := by rw [hbt]; omega
    have hlts : ((p + i : Nat) : Int) < (s.size : Int) := by omega
    clear hbt h0
    refine Ev.step (fun k => ?_) next
    simp only [newswireref03_ToInt.l0]
    rw [if_pos hlts, if_pos (by omega), if_neg h45, if_pos (by omega), hmod]
    cases hng : neg
    · have hp0 : p = 0 := by rw [hp, hng]; rfl
      rw [if_neg (by rw [hneg, hng]; simp)]
      rw [show sgn false u = (u : Int) from rfl, wrap_id (x := 10 * (u : Int)) (by omega) (by omega), wrap_id (x := 10 * (u : Int) + _) (by omega) (by omega), wrap_id (by omega) (by omega), hsum]
      rw [show sgn false (u * 10 + (d - 48)) = 10 * (u : Int) + ((d - 48 : Nat) : Int) by show ((u * 10 + (d - 48) : Nat) : Int) = _; omega]
    · rw [if_pos (by rw [hneg, hng])]
      rw [show sgn true u = -(u : Int) from rfl, wrap_id (x := 10 * (-(u : Int))) (by omega) (by omega), wrap_id (x := 10 * (-(u : Int)) + _) (by omega) (by omega), wrap_id (by omega) (by omega), hsum]
      rw [show sgn true (u * 10 + (d - 48)) = 10 * (-(u : Int)) + -((d - 48 : Nat) : Int) by show -((u * 10 + (d - 48) : Nat) : Int) = _; omega]
theorem rtoInt_ev {a : ByteArray} (ha : fit a) : Ev (fun k => newswireref03_ToInt.f k a) (toIntS (bl a)) := by
  have bad : ∀ k, newswireref03_ToInt.j0 (k + 1) a true = some (0, 30) := fun k => by simp only [newswireref03_ToInt.j0]; rfl
  refine Ev.congr (fun k => by unfold newswireref03_ToInt.f; rfl) (Ev.bind (rvalid_ev ha) ?_)
  cases hva : valid (bl a) with
  | false =>
    refine ev_neg (by simp) (Ev.step bad ?_)
    unfold toIntS; rw [if_neg (by simp [hva])]; exact Ev.now _
  | true =>
    obtain ⟨x, hx, rfl⟩ := S_of hva
    have m1 : (⟨#[45, 57, 50, 50, 51, 51, 55, 50, 48, 51, 54, 56, 53, 52, 55, 55, 53, 56, 48, 56]⟩ : ByteArray) = S (-9223372036854775808) := lb_lit (l := [45, 57, 50, 50, 51, 51, 55, 50, 48, 51, 54, 56, 53, 52, 55, 55, 53, 56, 48, 56]) (by decide) (by decide)
    have m2 : (⟨#[57, 50, 50, 51, 51, 55, 50, 48, 51, 54, 56, 53, 52, 55, 55, 53, 56, 48, 55]⟩ : ByteArray) = S 9223372036854775807 := lb_lit (l := [57, 50, 50, 51, 51, 55, 50, 48, 51, 54, 56, 53, 52, 55, 55, 53, 56, 48, 55]) (by decide) (by decide)
    have l1 : (-9223372036854775808 : Int).natAbs < lim := by decide
    have l2 : (9223372036854775807 : Int).natAbs < lim := by decide
    have c1 := rcmp_ev ha (S_fit l1)
    have c2 := rcmp_ev ha (S_fit l2)
    rw [bl_S, bl_S, cmpS_str hx l1] at c1
    rw [bl_S, bl_S, cmpS_str hx l2] at c2
    rw [← m1] at c1
    rw [← m2] at c2
    have hbad : small x = false → toIntS (bl (S x)) = (0, 30) := by
      intro h; unfold toIntS; rw [bl_S, toZ_str, h, Bool.and_false]; rfl
    refine ev_pos rfl (Ev.bind c1 ?_)
    by_cases hlo : x < -9223372036854775808
    · rw [hbad (by unfold small; exact decide_eq_false (by omega))]
      exact ev_pos (by unfold cmpZ; rw [if_pos hlo]; omega) (Ev.step bad (Ev.now _))
    · refine ev_neg (by unfold cmpZ; rw [if_neg hlo]; split <;> omega) (Ev.bind c2 ?_)
      by_cases hhi : 9223372036854775807 < x
      · rw [hbad (by unfold small; exact decide_eq_false (by omega)), show decide (cmpZ x 9223372036854775807 > 0) = true from decide_eq_true (by unfold cmpZ; rw [if_neg (by omega), if_pos hhi]; omega)]
        exact Ev.step bad (Ev.now _)
      · rw [show decide (cmpZ x 9223372036854775807 > 0) = false from decide_eq_false (by unfold cmpZ; split <;> (try split) <;> omega)]
        rw [bl_S, toIntS_str hx (by unfold small; exact decide_eq_true (by omega))]
        have hsS : (S x).size ≤ 1000 := by have := S_size hx; omega
        refine Ev.step (f := fun k => newswireref03_ToInt.l0 k (S x) 0 0) (fun k => by simp only [newswireref03_ToInt.j0]; rfl) ?_
        by_cases hn : x < 0
        · have hb : bl (S x) = (if true then [45] else []) ++ decDigits x.natAbs := by rw [bl_S]; unfold str; rw [if_pos hn]; rfl
          have := toInt_loop (S x) hsS true _ hb (dec_isDig _) (by rw [num_dec]; simp; omega) _ 0 rfl (by omega)
          rw [num_dec] at this
          have e : sgn true x.natAbs = x := by show -(x.natAbs : Int) = x; omega
          rw [e] at this
          have hsz := size_bl (S x)
          have hpos : 0 < (bl (S x)).length := by rw [hb]; simp
          have h0 := bt_bl hpos
          have e3 : (bl (S x))[0] = 45 := by simp only [hb]; rfl
          rw [e3] at h0
          refine Ev.step (fun k => ?_) this
          simp only [newswireref03_ToInt.l0]
          rw [if_pos (by omega), if_pos (by omega), if_pos (show bt (S x) 0 = 45 from h0), wrap_id (by omega) (by omega)]; rfl
        · have hb : bl (S x) = (if false then [45] else []) ++ decDigits x.natAbs := by rw [bl_S]; unfold str; rw [if_neg hn]; rfl
          have := toInt_loop (S x) hsS false _ hb (dec_isDig _) (by rw [num_dec]; simp; omega) _ 0 rfl (by omega)
          rw [num_dec] at this
          have e : sgn false x.natAbs = x := by show (x.natAbs : Int) = x; omega
          rw [e] at this
          exact this

/-! ### Root -/
theorem rtrimmed_ev (l : List Int) (hd : Dg l) (hl : l.length ≤ 1000000) : Ev (fun k => newswireref03_trimmed.f k l) (dgs (dv l)) := by
  refine Ev.congr (f := fun k => (newswireref03_trim.f k l).bind fun t => some t) (fun k => ?_) (Ev.bind (trim_ev l hd hl) (Ev.now _))
  unfold newswireref03_trimmed.f
  simp only [Option.bind_some, List.nil_append]
  rw [if_pos (by simp; omega)]
theorem root_in (m : Nat) (i : Nat) (hi : List Int) (hl : i + 1 + hi.length ≤ 101) (hg : Dg hi) (V : Nat → Nat) (hV : ∀ t, V t = 10 ^ i * (t + 10 * dv hi)) (X : ByteArray × Int) (lo : V 0 * V 0 ≤ m)
    (next : ∀ t : Nat, t ≤ 9 → V t * V t ≤ m → m < V (t + 1) * V (t + 1) → Ev (fun k => newswireref03_Root.l0 k (dgs m) (List.replicate i 0 ++ (t : Int) :: hi) ((i : Int) - 1)) X) (t : Nat) :
    t ≤ 9 → m < V (t + 1) * V (t + 1) → Ev (fun k => newswireref03_Root.l1 k (dgs m) (List.replicate i 0 ++ (t : Int) :: hi) (i : Int)) X := by
  have hlen : ∀ t : Int, (List.replicate i 0 ++ t :: hi).length = i + 1 + hi.length := by intro t; simp; omega
  induction t with
  | zero =>
    intro _ hlt
    refine Ev.step (fun k => ?_) (next 0 (by omega) lo hlt)
    simp only [newswireref03_Root.l1]
    rw [if_pos (by omega), if_pos (by rw [hlen]; omega), rd_zeros, if_neg (by omega), wrap_id (by omega) (by omega)]
  | succ t ih =>
    intro ht hlt
    have hdg : Dg (List.replicate i 0 ++ ((t + 1 : Nat) : Int) :: hi) := dg_append.2 ⟨dg_zeros i, dg_cons.2 ⟨by omega, hg⟩⟩
    have hdv : dv (List.replicate i 0 ++ ((t + 1 : Nat) : Int) :: hi) = V (t + 1) := by
      rw [dv_append, dv_zeros, List.length_replicate, dv, Int.toNat_natCast, hV, Nat.zero_add]
    have htr := rtrimmed_ev _ hdg (by rw [hlen]; omega)
    rw [hdv] at htr
    have hvl : V (t + 1) < 10 ^ (i + 1 + hi.length) := by
      have := dv_lt hdg
      rw [hdv, hlen] at this; exact this
    have hvd : (dgs (V (t + 1))).length ≤ 101 := by have := dgs_length_le hvl; omega
    have hvv : (dgs (V (t + 1) * V (t + 1))).length ≤ 900 := by have := dgs_mul_len hvl hvl; omega
    have hord := order_ev (n := m) hvv
    refine Ev.step (f := fun k => (newswireref03_trimmed.f k (List.replicate i 0 ++ ((t + 1 : Nat) : Int) :: hi)).bind fun t449 => (newswireref03_trimmed.f k (List.replicate i 0 ++ ((t + 1 : Nat) : Int) :: hi)).bind fun t452 =>
      (newswireref03_times.f k t449 t452).bind fun t455 => (newswireref03_order.f k t455 (dgs m)).bind fun t458 => if t458 > 0 then newswireref03_Root.l1 k (dgs m) (List.replicate i 0 ++ (t : Int) :: hi) (i : Int) else newswireref03_Root.l0 k (dgs m) (List.replicate i 0 ++ ((t + 1 : Nat) : Int) :: hi) ((i : Int) - 1)) (fun k => ?_) ?_
    · simp only [newswireref03_Root.l1]
      rw [if_pos (by omega), if_pos (by rw [hlen]; omega), rd_zeros, if_pos (by omega), Int.toNat_natCast, set_zeros, wrap_id (x := ((t + 1 : Nat) : Int) - 1) (by omega) (by omega), wrap_id (by omega) (by omega), show ((t + 1 : Nat) : Int) - 1 = (t : Int) by omega]
    · refine Ev.bind htr (Ev.bind htr (Ev.bind (times_ev (by omega) (by omega)) (Ev.bind hord ?_)))
      by_cases hgt : m < V (t + 1) * V (t + 1)
      · exact ev_pos (by unfold cmpZ; rw [if_neg (by omega), if_pos (by omega)]; omega) (ih (by omega) hgt)
      · exact ev_neg (by unfold cmpZ; split <;> (try split) <;> omega) (next (t + 1) ht (by omega) hlt)
theorem root_out (m : Nat) (hm : m < lim) (i : Nat) : ∀ hi : List Int, i + hi.length ≤ 101 → Dg hi → 10 ^ i * dv hi * (10 ^ i * dv hi) ≤ m → m < 10 ^ i * (dv hi + 1) * (10 ^ i * (dv hi + 1)) →
    Ev (fun k => newswireref03_Root.l0 k (dgs m) (List.replicate i 0 ++ hi) ((i : Int) - 1)) (lb (str (isq m)), 0) := by
  have hd := dgs_lim hm
  induction i with
  | zero =>
    intro hi hl hg h1 h2
    rw [Nat.pow_zero, Nat.one_mul] at h1 h2
    have e := isq_unique h1 h2
    have hle : dv hi < lim := by have := isq_le m; omega
    have hdl := dgs_lim hle
    refine Ev.step (f := fun k => (newswireref03_trim.f k hi).bind fun t => (newswireref03_checked.f k false t).bind fun u => some (u.1, u.2)) (fun k => ?_) (Ev.bind (trim_ev hi hg (by omega)) (Ev.bind (checked_ev false (by omega)) (ev_now ?_)))
    · simp only [newswireref03_Root.l0]
      rw [if_neg (by omega)]; rfl
    · rw [show sgn false (dv hi) = (dv hi : Int) from rfl, outS_ok (by omega), e]; rfl
  | succ i ih =>
    intro hi hl hg h1 h2
    obtain ⟨V, hV⟩ : ∃ V : Nat → Nat, ∀ t, V t = 10 ^ i * (t + 10 * dv hi) := ⟨fun t => 10 ^ i * (t + 10 * dv hi), fun _ => rfl⟩
    have e0 : 10 ^ (i + 1) * dv hi = V 0 := by rw [hV, Nat.pow_succ, Nat.mul_assoc, Nat.zero_add]
    have e1 : 10 ^ (i + 1) * (dv hi + 1) = V 10 := by rw [hV, Nat.pow_succ, Nat.mul_assoc]; congr 1; omega
    rw [e0] at h1
    rw [e1] at h2
    have := root_in m i hi (by omega) hg V hV _ h1 (fun t ht h3 h4 => ih ((t : Int) :: hi) (by simp; omega) (dg_cons.2 ⟨by omega, hg⟩) (by rw [dv, Int.toNat_natCast, ← hV]; exact h3)
      (by rw [dv, Int.toNat_natCast, show t + 10 * dv hi + 1 = (t + 1) + 10 * dv hi by omega, ← hV]; exact h4)) 9 (by omega) h2
    rw [snoc_zeros, show ((i + 1 : Nat) : Int) - 1 = (i : Int) by omega]
    refine Ev.step (fun k => ?_) this
    simp only [newswireref03_Root.l0]
    rw [if_pos (by omega), if_pos (by omega), if_pos (by simp; omega), Int.toNat_natCast, set_zeros]; rfl
theorem rroot_ev {a : ByteArray} (ha : fit a) : Ev (fun k => newswireref03_Root.f k a) (lb2 (rootS (bl a))) := by
  have bad : ∀ k, newswireref03_Root.j0 (k + 1) a true = some (lb [], 30) := fun k => by simp only [newswireref03_Root.j0]; rfl
  refine Ev.congr (fun k => by unfold newswireref03_Root.f; rfl) (Ev.bind (rvalid_ev ha) ?_)
  cases hva : valid (bl a) with
  | false =>
    refine ev_neg (by simp) (Ev.step bad ?_)
    unfold rootS; rw [if_neg (by simp [hva])]; exact Ev.now _
  | true =>
    obtain ⟨x, hx, rfl⟩ := S_of hva
    have hsz := size_bl (S x)
    have hpos : 0 < (bl (S x)).length := by rw [bl_S]; exact List.length_pos_iff.2 (str_ne_nil x)
    have h0 := bt_bl hpos
    refine ev_pos rfl (ev_pos (by omega) ?_)
    by_cases hn : x < 0
    · have e : str x = 45 :: decDigits x.natAbs := by unfold str; rw [if_pos hn]
      have e1 : (bl (S x))[0] = 45 := by simp only [bl_S, e]; rfl
      rw [e1] at h0
      have h45 : (bt (S x) 0 == 45) = true := by rw [show bt (S x) 0 = 45 from h0]; rfl
      rw [h45, bl_S, rootS_neg hn]
      exact Ev.step bad (Ev.now _)
    · have e : str x = decDigits x.natAbs := by unfold str; rw [if_neg hn]
      have h45 : (bt (S x) 0 == 45) = false := by
        apply beq_eq_false_iff_ne.2
        intro h2
        have h4 := h0.symm.trans h2
        have h5 : (bl (S x))[0] = 45 := UInt8.toNat_inj.1 (by have : (45 : UInt8).toNat = 45 := rfl; omega)
        exact dec_no_minus x.natAbs _ (by rw [← e, ← bl_S]; exact List.getElem_mem hpos) h5
      rw [h45, bl_S, rootS_str hx (by omega)]
      have hd := dgs_lim hx
      obtain ⟨L, hL⟩ : ∃ L, L = (dgs x.natAbs).length := ⟨_, rfl⟩
      have hlt := lt_dgs_length x.natAbs
      rw [← hL] at hd hlt
      have hpw : 10 ^ L ≤ 10 ^ ((L + 1) / 2) * 10 ^ ((L + 1) / 2) := by
        rw [← Nat.pow_add]; exact Nat.pow_le_pow_right (by omega) (by omega)
      have := root_out x.natAbs hx ((L + 1) / 2) [] (by simp; omega) dg_nil (by simp [dv]) (by simp only [dv, Nat.zero_add, Nat.mul_one]; exact Nat.lt_of_lt_of_le hlt hpw)
      rw [List.append_nil] at this
      have hw : wrap64 (Int.tdiv (wrap64 ((L : Int) + 1)) 2) = (((L + 1) / 2 : Nat) : Int) := by
        rw [wrap_id (x := (L : Int) + 1) (by omega) (by omega), Int.tdiv_eq_ediv_of_nonneg (by omega), wrap_id (by omega) (by omega)]; omega
      refine Ev.step (fun k => by simp only [newswireref03_Root.j0]; rfl) (Ev.bind (digits_ev hx) ?_)
      rw [← hL, hw]
      refine ev_pos (by omega) (ev_pos (by rw [Int.toNat_natCast]; omega) ?_)
      refine Ev.congr (fun k => ?_) this
      rw [Int.toNat_natCast]
      simp only [Option.bind_some]
      rw [List.length_replicate, wrap_id (by omega) (by omega)]
end Go.Proofs.YthbiafjdilbbnaaGreatDoor

/-
  Package integer and its reference at the same strings: contracts with one answer for both.
-/
namespace Go.Proofs.YthbiafjdilbbnaaGreatDoor
open Go.RowKit Go.Lib Go.Proofs.YthbiafjdilbbnaaGreatDoor.PI Go.Proofs.YthbiafjdilbbnaaGreatDoorW.PrintWords Go.Proofs.YthbiafjdilbbnaaGreatDoorW.PrintLast

/-- Both functions answer alike: a string and an error. -/
def Two (f g : FuncId) (args : Array Value) : Prop := ∃ (s : ByteArray) (e : Int),
  (∀ w, Laid w → Calls Tryz.prog f args w fun x w' => x = .returned (.tuple #[.string s, .int .i64 e]) ∧ Below w.heap.size w w') ∧
  (∀ w, Calls Tryz.prog g args w fun x w' => x = .returned (.tuple #[.string s, .int .i64 e]) ∧ Below w.heap.size w w')
theorem both_add {a b : ByteArray} (ha : fit a) (hb : fit b) : Two 14 25 #[.string a, .string b] := by
  obtain ⟨k, hk⟩ := (radd_ev ha hb).rounds
  exact ⟨_, _, fun w hT => integer_Add.calls a b _ _ w hT (by unfold integer_Add.f; rw [if_pos ⟨ha, hb⟩]), fun w => newswireref03_Add.calls k a b _ _ w hk⟩
theorem both_sub {a b : ByteArray} (ha : fit a) (hb : fit b) : Two 16 26 #[.string a, .string b] := by
  obtain ⟨k, hk⟩ := (rsub_ev ha hb).rounds
  exact ⟨_, _, fun w hT => integer_Sub.calls a b _ _ w hT (by unfold integer_Sub.f; rw [if_pos ⟨ha, hb⟩]), fun w => newswireref03_Sub.calls k a b _ _ w hk⟩
theorem both_mul {a b : ByteArray} (ha : fit a) (hb : fit b) : Two 15 27 #[.string a, .string b] := by
  obtain ⟨k, hk⟩ := (rmul_ev ha hb).rounds
  exact ⟨_, _, fun w hT => integer_Mul.calls a b _ _ w hT (by unfold integer_Mul.f; rw [if_pos ⟨ha, hb⟩]), fun w => newswireref03_Mul.calls k a b _ _ w hk⟩
theorem both_gcd {a b : ByteArray} (ha : fit a) (hb : fit b) : Two 20 29 #[.string a, .string b] := by
  obtain ⟨k, hk⟩ := (rgcd_ev ha hb).rounds
  exact ⟨_, _, fun w hT => integer_Gcd.calls a b _ _ w hT (by unfold integer_Gcd.f; rw [if_pos ⟨ha, hb⟩]), fun w => newswireref03_Gcd.calls k a b _ _ w hk⟩
theorem both_root {a : ByteArray} (ha : fit a) : Two 21 30 #[.string a] := by
  obtain ⟨k, hk⟩ := (rroot_ev ha).rounds
  exact ⟨_, _, fun w hT => integer_Root.calls a _ _ w hT (by unfold integer_Root.f; rw [if_pos ha]), fun w => newswireref03_Root.calls k a _ _ w hk⟩
/-- .. two strings and an error. -/
def Three (f g : FuncId) (args : Array Value) : Prop := ∃ (s t : ByteArray) (e : Int),
  (∀ w, Laid w → Calls Tryz.prog f args w fun x w' => x = .returned (.tuple #[.string s, .string t, .int .i64 e]) ∧ Below w.heap.size w w') ∧
  (∀ w, Calls Tryz.prog g args w fun x w' => x = .returned (.tuple #[.string s, .string t, .int .i64 e]) ∧ Below w.heap.size w w')
theorem both_div {a b : ByteArray} (ha : fit a) (hb : fit b) : Three 17 28 #[.string a, .string b] := by
  obtain ⟨k, hk⟩ := (rdiv_ev ha hb).rounds
  exact ⟨_, _, _, fun w hT => integer_Div.calls a b _ _ _ w hT (by unfold integer_Div.f; rw [if_pos ⟨ha, hb⟩]), fun w => newswireref03_Div.calls k a b _ _ _ w hk⟩
/-- .. a number and an error. -/
theorem both_toInt {a : ByteArray} (ha : fit a) : ∃ n e : Int,
    (∀ w, Laid w → Calls Tryz.prog 31 #[.string a] w fun x w' => x = .returned (.tuple #[.int .i64 n, .int .i64 e]) ∧ Below w.heap.size w w') ∧
    (∀ w, Calls Tryz.prog 32 #[.string a] w fun x w' => x = .returned (.tuple #[.int .i64 n, .int .i64 e]) ∧ Below w.heap.size w w') := by
  obtain ⟨k, hk⟩ := (rtoInt_ev ha).rounds
  exact ⟨(toIntS (bl a)).1, (toIntS (bl a)).2, fun w hT => integer_ToInt.calls a _ _ w hT (by unfold integer_ToInt.f; rw [if_pos ha]), fun w => newswireref03_ToInt.calls k a _ _ w hk⟩
theorem both_valid {a : ByteArray} (ha : fit a) : ∃ n : Bool,
    (∀ w, Laid w → Calls Tryz.prog 19 #[.string a] w fun x w' => x = .returned (.bool n) ∧ Below w.heap.size w w') ∧
    (∀ w, Calls Tryz.prog 33 #[.string a] w fun x w' => x = .returned (.bool n) ∧ Below w.heap.size w w') := by
  obtain ⟨k, hk⟩ := (rvalid_ev ha).rounds
  exact ⟨_, fun w hT => integer_Valid.calls a _ w hT (by unfold integer_Valid.f; rw [if_pos ha]), fun w => (newswireref03_Valid.calls k a _ w hk).mono fun _ _ h => ⟨h.1, h.2.below⟩⟩
theorem both_cmp {a b : ByteArray} (ha : fit a) (hb : fit b) : ∃ n : Int,
    (∀ w, Laid w → Calls Tryz.prog 18 #[.string a, .string b] w fun x w' => x = .returned (.int .i64 n) ∧ Below w.heap.size w w') ∧
    (∀ w, Calls Tryz.prog 34 #[.string a, .string b] w fun x w' => x = .returned (.int .i64 n) ∧ Below w.heap.size w w') := by
  obtain ⟨k, hk⟩ := (rcmp_ev ha hb).rounds
  exact ⟨_, fun w hT => integer_Compare.calls a b _ w hT (by unfold integer_Compare.f; rw [if_pos ⟨ha, hb⟩]), fun w => newswireref03_Compare.calls k a b _ w hk⟩
theorem ref_fromInt {n : Int} (h0 : -9223372036854775808 ≤ n) (h1 : n ≤ 9223372036854775807) (w : World) :
    Calls Tryz.prog 24 #[.int .i64 n] w fun x w' => x = .returned (.string (S n)) ∧ Below w.heap.size w w' := by
  obtain ⟨k, hk⟩ := (rfromInt_ev h0 h1).rounds
  exact newswireref03_FromInt.calls k n _ w hk
end Go.Proofs.YthbiafjdilbbnaaGreatDoor

/-
  IntegerRing, IntegerCommon: contracts of the operations at numbers' strings, for the walks of the two laws.
-/
namespace Go.Proofs.YthbiafjdilbbnaaGreatDoor
open Go.RowKit Go.Lib

end Go.Proofs.YthbiafjdilbbnaaGreatDoor
