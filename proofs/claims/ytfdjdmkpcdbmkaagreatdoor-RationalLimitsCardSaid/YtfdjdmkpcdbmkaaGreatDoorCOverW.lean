/-
  integer.go: 'over': quotient and remainder (the walk).
-/
import Derived.Test.YtfdjdmkpcdbmkaaGreatDoorCG3
set_option linter.unusedVariables false
set_option linter.unusedSimpArgs false
namespace Go.Proofs.YtfdjdmkpcdbmkaaGreatDoor
open Go.RowKit Go.Shelf

attribute [local go_sem] Oper.semAt_some

set_option maxRecDepth 100000 in
set_option maxHeartbeats 40000000 in
theorem over_in (v1 v2 : Value) (a m : Nat) (w : World) (h1 : Row w v1 (groups a)) (h2 : Row w v2 (groups m)) (ha : (groups a).length ≤ 200) (hm : 0 < m) (hml : (groups m).length ≤ 200) :
    CallsIn Fence.wide 9 Tryz.prog 81 #[v1, v2] w fun e w' => ∃ vq vr, e = .returned (.tuple #[vq, vr]) ∧ Row w' vq (groups (a / m)) ∧ Row w' vr (groups (a % m)) ∧ Below w.heap.size w w' := by
  have hro : Fence.wide.round = none := rfl
  have hmx : Tryz.prog.follows .mixedOrders = true := by kernel_rfl
  have hmf : ∀ (fn : Fn) (first cap : Array Value) (w : World), (Instr.makeFunc fn first cap).run Tryz.prog w = .ok (.func fn first cap) w := fun _ _ _ _ => rfl
  obtain ⟨i0, hi, hz0, hz1, hz2⟩ := info_parts Tryz.info3
  have hmk : ∀ wx : World, (Instr.makeSlice 98 (.int .i64 ((groups a).length : Int)) (.int .i64 ((groups a).length : Int))).run Tryz.prog wx = .ok (.slice (some ⟨wx.heap.size, 0, none⟩) (groups a).length (groups a).length) (wx.alloc (.cells (madeCells #[.int .i64 0] (groups a).length) 3)) := by
    intro wx
    have := run_make (P := Tryz.prog) wx 98 3 i0 (.int .i64 0) Tryz.underlying98 hi hz0 .i64 .i64 ((groups a).length : Int) ((groups a).length : Int) (by omega) (by omega) (by rw [hz2]; omega) (by omega)
    rw [hz1] at this
    simpa [Value.cells] using this
  have H1 := Lib.hid h1
  have H2 := Lib.hid h2
  obtain ⟨A1, c1, e1⟩ := h1.shape
  obtain ⟨A2, c2, e2⟩ := h2.shape
  clear h1 h2
  subst e1; subst e2
  refine callsIn_of_wp_marks Tryz.func81 rfl trivial ?_ hro
  simp only [Tryz.ntmps81, List.size_toArray, List.length_cons, List.length_nil, Nat.reduceAdd, Nat.reduceSub, Array.replicate_succ, Array.replicate_zero, List.push_toArray, List.append_toArray, List.nil_append, List.cons_append]
  have hB4 : Below w.heap.size w ((((w.alloc (.cells #[.slice A2 (groups m).length c2] 98)).alloc (.cells #[.slice (some ⟨w.heap.size + 1 + 1 + 1, 0, none⟩) (groups a).length (groups a).length] 98)).alloc (.cells #[.slice none 0 0] 98)).alloc (.cells (madeCells #[.int .i64 0] (groups a).length) 3)) :=
    ((((Below.refl _ w).alloc (Nat.le_refl _) _).alloc (by simp) _).alloc (by simp; omega) _).alloc (by simp; omega) _
  gi_wp2_with (refine ⟨trivial, ?_⟩; gi_at_call 106; refine (back_in Fence.wide _ trivial hro _ (groups a) _ (H1.out.below hB4)).mono ?_; rintro e w' ⟨rfl, rfl⟩)
  have hI5 : OverI w (((((w.alloc (.cells #[.slice A2 (groups m).length c2] 98)).alloc (.cells #[.slice (some ⟨w.heap.size + 1 + 1 + 1, 0, none⟩) (groups a).length (groups a).length] 98)).alloc (.cells #[.slice none 0 0] 98)).alloc (.cells (madeCells #[.int .i64 0] (groups a).length) 3)).alloc (.cells #[.slice A1 (groups a).length c1] 98)) (.slice A2 (groups m).length c2) (.slice (some ⟨w.heap.size + 1 + 1 + 1, 0, none⟩) (groups a).length (groups a).length) (groups a).length (List.replicate (groups a).length 0) (.slice none 0 0) 0 := by
    have b0 := ((((Boxed.new w 98 (.slice A2 (groups m).length c2)).alloc (.cells #[.slice (some ⟨w.heap.size + 1 + 1 + 1, 0, none⟩) (groups a).length (groups a).length] 98)).alloc (.cells #[.slice none 0 0] 98)).alloc (.cells (madeCells #[.int .i64 0] (groups a).length) 3)).alloc (.cells #[.slice A1 (groups a).length c1] 98)
    have b1 := (((Boxed.new (w.alloc (.cells #[.slice A2 (groups m).length c2] 98)) 98 (.slice (some ⟨w.heap.size + 1 + 1 + 1, 0, none⟩) (groups a).length (groups a).length)).alloc (.cells #[.slice none 0 0] 98)).alloc (.cells (madeCells #[.int .i64 0] (groups a).length) 3)).alloc (.cells #[.slice A1 (groups a).length c1] 98)
    have b2 := ((Boxed.new ((w.alloc (.cells #[.slice A2 (groups m).length c2] 98)).alloc (.cells #[.slice (some ⟨w.heap.size + 1 + 1 + 1, 0, none⟩) (groups a).length (groups a).length] 98)) 98 (.slice none 0 0)).alloc (.cells (madeCells #[.int .i64 0] (groups a).length) 3)).alloc (.cells #[.slice A1 (groups a).length c1] 98)
    rw [World.size_alloc] at b1
    rw [World.size_alloc, World.size_alloc] at b2
    have o3 := (World.ownsRow_lit (base := w.heap.size) (e := 3) (size := 1) (((w.alloc (.cells #[.slice A2 (groups m).length c2] 98)).alloc (.cells #[.slice (some ⟨w.heap.size + 1 + 1 + 1, 0, none⟩) (groups a).length (groups a).length] 98)).alloc (.cells #[.slice none 0 0] 98)) (madeCells #[.int .i64 0] (groups a).length) (groups a).length (by simp; omega) (by unfold maxLen; omega) (by simp [size_madeCells])).alloc (.cells #[.slice A1 (groups a).length c1] 98)
    rw [World.size_alloc, World.size_alloc, World.size_alloc, madeCells_list] at o3
    exact ⟨b0, b1, o3, b2, by rw [groups_zero]; exact Row.nil _, by simp, hB4.alloc (by simp; omega) _⟩
  have b4 := Boxed.new ((((w.alloc (.cells #[.slice A2 (groups m).length c2] 98)).alloc (.cells #[.slice (some ⟨w.heap.size + 1 + 1 + 1, 0, none⟩) (groups a).length (groups a).length] 98)).alloc (.cells #[.slice none 0 0] 98)).alloc (.cells (madeCells #[.int .i64 0] (groups a).length) 3)) 98 (.slice A1 (groups a).length c1)
  rw [World.size_alloc, World.size_alloc, World.size_alloc, World.size_alloc] at b4
  have hc4 := b4.cell
  clear b4
  generalize (((((w.alloc (.cells #[.slice A2 (groups m).length c2] 98)).alloc (.cells #[.slice (some ⟨w.heap.size + 1 + 1 + 1, 0, none⟩) (groups a).length (groups a).length] 98)).alloc (.cells #[.slice none 0 0] 98)).alloc (.cells (madeCells #[.int .i64 0] (groups a).length) 3)).alloc (.cells #[.slice A1 (groups a).length c1] 98)) = W5 at *
  have h1 : 1 ≤ 9 := by omega
  have hsz5 := hI5.sz
  refine wpIn_rangeFunc_ownG hro h1 (gf := 137) (lb := #[.pointer (some ⟨w.heap.size + 1 + 1 + 1 + 1, 0, none⟩)]) rfl trivial (enters_of Tryz.func137 (by kernel_rfl) rfl)
    (back_stops Fence.wide (9 - 1) trivial hro (by omega) (w.heap.size + 1 + 1 + 1 + 1) w.heap.size _ (groups a) W5 (by omega) (by omega) hc4 w H1.out (Nat.le_refl _) hI5.below) KB.trans (KB.put (by omega) (by omega)) (Below.refl _ _) (fun _ => rfl)
    (fun pre W => ∃ rv, OverI w W (.slice A2 (groups m).length c2) (.slice (some ⟨w.heap.size + 1 + 1 + 1, 0, none⟩) (groups a).length (groups a).length) (groups a).length (divT m (groups a) pre).1 rv (divT m (groups a) pre).2)
    (fun _ _ _ => False)
    ?hI ?hIx ?h0 ?act ?assign ?body ?done ?stop
  case assign =>
    intro l x W K hK
    gi_wp2
    exact hK
  case hI =>
    rintro s A B row ⟨rv, hs⟩ hg hr
    exact ⟨rv, hs.calm hg (fun k e => ⟨by have := (hr k e).1; omega, (hr k e).2⟩)⟩
  case hIx => exact fun _ _ _ _ _ hs _ _ => hs
  case h0 => exact ⟨_, hI5⟩
  case body =>
    rintro l pre x W ⟨rv, hI⟩ hlen
    have hd := dig_at (dig_groups a) ((groups a).length - 1 - x)
    have hrm := divT_lt m hm (groups a) pre
    have hql := divT_len m (groups a) pre
    have hS := divT_snoc m (groups a) pre x
    have hpl : (groups a).length - 1 - x < (groups a).length := by omega
    unfold dn divStep at hS
    generalize (groups a)[(groups a).length - 1 - x]?.getD 0 = d at *
    generalize (groups a).length - 1 - x = p at *
    generalize divT m (groups a) pre = T at *
    obtain ⟨Q, r⟩ := T
    dsimp only at hS hrm hql hI
    have HS := Lib.hid hS
    clear hS
    obtain ⟨A, c, hrv⟩ := hI.row.shape
    have hrl : (groups r).length ≤ 200 := Nat.le_trans (groups_length_mono (by omega : r ≤ m)) hml
    subst hrv
    have hM : Mid w W W (.slice A2 (groups m).length c2) (groups a).length Q (.slice A (groups r).length c) r := ⟨hI, KeepsOthers.refl _, KB.refl _ _ _⟩
    have HI := Lib.hid hI
    have HM := Lib.hid hM
    have hcm := hI.bm.cell
    have hcq := hI.bq.cell
    have hcr := hI.br.cell
    have hfr := hI.br.frozen
    have hszW := hI.sz
    have hlt0 : w.heap.size < W.heap.size := by omega
    have hlt1 : w.heap.size + 1 < W.heap.size := by omega
    have hlt2 : w.heap.size + 1 + 1 < W.heap.size := by omega
    clear hI hM
    gi_upto_region 5 with fail
    gi_cut [] from 17 (fun wc => Hid (∃ rv2, Mid w W wc (.slice A2 (groups m).length c2) (groups a).length Q rv2 (r * 10000 + d.toNat) ∧ Far w rv2))
    case rest =>
      obtain ⟨wb, hwb⟩ : ∃ wb : World, wb = wc := ⟨_, rfl⟩
      subst hwb
      clear hcm hcq hcr hfr hlt0 hlt1 hlt2 HM HI
      obtain ⟨rv2, hM, hF⟩ := hcut.out
      obtain ⟨A3, c3, hv2⟩ := hM.inv.row.shape
      subst hv2
      have HM := Lib.hid hM
      have HF := Lib.hid hF
      have hcm := hM.inv.bm.cell
      have hcq := hM.inv.bq.cell
      have hcr := hM.inv.br.cell
      have hfr := hM.inv.br.frozen
      have hszc := hM.inv.sz
      have hlt0 : w.heap.size < wb.heap.size := by omega
      have hlt1 : w.heap.size + 1 < wb.heap.size := by omega
      have hlt2 : w.heap.size + 1 + 1 < wb.heap.size := by omega
      have hlt3 : w.heap.size + 1 + 1 + 1 < wb.heap.size := by omega
      have hk := div_digit_lt (m := m) hrm (by omega : d.toNat < 10000)
      have hSe : ∀ W0, Below (wb.alloc (.cells #[.func (.func 108) #[.slice A2 (groups m).length c2] #[]] 122)).heap.size (wb.alloc (.cells #[.func (.func 108) #[.slice A2 (groups m).length c2] #[]] 122)) W0 →
          Calls Tryz.prog 110 #[.int .i64 9999, .func (.func 109) #[] #[.pointer (some ⟨wb.heap.size, 0, none⟩), .pointer (some ⟨w.heap.size + 1 + 1, 0, none⟩)]] W0 fun e w' => e = .returned (.int .i64 (((r * 10000 + d.toNat) / m : Nat) : Int)) ∧ Below W0.heap.size W0 w' := by
        intro W0 hW0
        have bn := Boxed.new wb 122 (.func (.func 108) #[.slice A2 (groups m).length c2] #[])
        have hMa := HM.out.new ((Below.refl wb.heap.size wb).alloc (Nat.le_refl _) (.cells #[.func (.func 108) #[.slice A2 (groups m).length c2] #[]] 122))
        have hM0 := hMa.new hW0
        refine search_any _ _ 9999 (tooMuch m (r * 10000 + d.toNat)) W0 (enters_of Tryz.func109 (by kernel_rfl) rfl) (by omega) (fun W' i hW' hi9 => ?_) _ (by omega) (fun t ht => ?_) (fun t ht _ => ?_)
        · have hM' := hM0.new hW'
          have bn' := boxed_below (boxed_below bn hW0 bn.lt) hW' (boxed_below bn hW0 bn.lt).lt
          exact over1_any wb.heap.size (w.heap.size + 1 + 1) m (r * 10000 + d.toNat) _ _ i W' (H2.out.below hM'.inv.below) hM'.inv.row (by omega) hi9 bn'.cell hM'.inv.br.cell bn'.lt hM'.inv.br.lt
        · unfold tooMuch
          have := Nat.div_mul_le_self (r * 10000 + d.toNat) m
          have h2 : m * (t + 1) ≤ m * ((r * 10000 + d.toNat) / m) := Nat.mul_le_mul_left m ht
          rw [Nat.mul_comm m ((r * 10000 + d.toNat) / m)] at h2
          simp only [decide_eq_false_iff_not]; omega
        · unfold tooMuch
          have h1 := Nat.lt_mul_div_succ (r * 10000 + d.toNat) hm
          have h2 : m * ((r * 10000 + d.toNat) / m + 1) ≤ m * (t + 1) := Nat.mul_le_mul_left m (by omega)
          simp only [decide_eq_true_eq]; omega
      have HSE := Lib.hid hSe
      clear hSe hM hF hcut
      gi_upto_region 8 with fail
      gi_cut [7, 9, 10, 11, 12, 13, 14, 15, 16] from 17 (fun _ _ _ _ _ _ _ _ _ wd => Hid (Mid w W wd (.slice A2 (groups m).length c2) (groups a).length (Q.set p (((r * 10000 + d.toNat) / m : Nat) : Int)) (.slice A3 (groups (r * 10000 + d.toNat)).length c3) (r * 10000 + d.toNat) ∧ Boxed wd wb.heap.size 122 (.func (.func 108) #[.slice A2 (groups m).length c2] #[])))
      case first =>
        have hMa := HM.out.new ((Below.refl wb.heap.size wb).alloc (Nat.le_refl _) (.cells #[.func (.func 108) #[.slice A2 (groups m).length c2] #[]] 122))
        have bn := Boxed.new wb 122 (.func (.func 108) #[.slice A2 (groups m).length c2] #[])
        have hltn := bn.lt
        generalize wb.alloc (.cells #[.func (.func 108) #[.slice A2 (groups m).length c2] #[]] 122) = Wa at *
        generalize hq : (r * 10000 + d.toNat) / m = q at *
        have HQ := Lib.hid hq
        clear hq
        have HMA := Lib.hid hMa
        have BN := Lib.hid bn
        have hca := hMa.inv.bq.cell
        have hlta : w.heap.size + 1 < Wa.heap.size := by have := hMa.inv.sz; omega
        have hltq : w.heap.size + 1 + 1 + 1 < Wa.heap.size := by have := hMa.inv.sz; omega
        have hqp : Wa.cell? ⟨w.heap.size + 1 + 1 + 1, p, none⟩ = some (.int .i64 (Q[p]?.getD 0)) := by
          rw [hMa.inv.own.cellAt p (by omega), List.getElem?_map, List.getElem?_eq_getElem (by omega)]
          rfl
        have hqf : Wa.frozen? ⟨w.heap.size + 1 + 1 + 1, p, none⟩ = false := hMa.inv.own.frozenAt p
        clear bn hMa hcm hcq hcr hfr hlt0 hlt1 hlt2 hlt3
        gi_region_with_o ((refine ⟨trivial, ?_⟩; gi_at_call 110; refine (CallsIn.inRound l (callsIn_wide.2 (HSE.out _ (by exact (Below.refl _ _).drew)))).mono ?_; rintro e w8 ⟨rfl, b8⟩; have hca8 : w8.cell? ⟨w.heap.size + 1, 0, none⟩ = some (.slice (some ⟨w.heap.size + 1 + 1 + 1, 0, none⟩) (groups a).length (groups a).length) := (b8.cell (p := ⟨w.heap.size + 1, 0, none⟩) (by exact hlta)).trans hca; have hqp8 : w8.cell? ⟨w.heap.size + 1 + 1 + 1, p, none⟩ = some (.int .i64 (Q[p]?.getD 0)) := (b8.cell (p := ⟨w.heap.size + 1 + 1 + 1, p, none⟩) (by exact hltq)).trans hqp; have hqf8 : w8.frozen? ⟨w.heap.size + 1 + 1 + 1, p, none⟩ = false := (b8.frozen (p := ⟨w.heap.size + 1 + 1 + 1, p, none⟩) (by exact hltq)).trans hqf; have B8 := Lib.hid b8; clear b8))
        all_goals gi_wp2
        all_goals gi_meet
        all_goals exact Lib.hid ⟨(HMA.out.new (below_of_drew B8.out)).setQ HF.out p _, (Below.heap_setCell w8 ⟨w.heap.size + 1 + 1 + 1, p, none⟩ _ wb.heap.size (by show wb.heap.size ≠ w.heap.size + 1 + 1 + 1; omega)).trans (boxed_below BN.out (below_of_drew B8.out) BN.out.lt)⟩
      case rest =>
        clear hcm hcq hcr hfr hlt0 hlt1 hlt2 hlt3 HM HSE
        obtain ⟨hM, bn⟩ := hcut.out
        have hq1 : (0 : Int) ≤ (((r * 10000 + d.toNat) / m : Nat) : Int) := Int.natCast_nonneg _
        have hq2 : (((r * 10000 + d.toNat) / m : Nat) : Int) ≤ 10000 := by omega
        have hmq : m * ((r * 10000 + d.toNat) / m) ≤ r * 10000 + d.toNat := by rw [Nat.mul_comm]; exact Nat.div_mul_le_self _ _
        have hmod : r * 10000 + d.toNat - m * ((r * 10000 + d.toNat) / m) = (r * 10000 + d.toNat) % m := by have := Nat.div_add_mod (r * 10000 + d.toNat) m; omega
        have hr1l : (groups (r * 10000 + d.toNat)).length ≤ 201 := by
          refine Nat.le_trans (groups_length_mono (b := m * 10000) (by omega)) ?_
          have := pow_len (a := m) (m := 10000) (by omega) (by omega)
          rw [show (10000 : Int).toNat = 10000 from rfl] at this
          omega
        have hqp : wc.cell? ⟨w.heap.size + 1 + 1 + 1, p, none⟩ = some (.int .i64 (((r * 10000 + d.toNat) / m : Nat) : Int)) := by
          rw [hM.inv.own.cellAt p (by omega), List.getElem?_map, List.getElem?_set_self (by omega)]
          rfl
        have hcq := hM.inv.bq.cell
        have hcr := hM.inv.br.cell
        have hfr := hM.inv.br.frozen
        have hcf := bn.cell
        have hszc9 := hM.inv.sz
        have hlt2 : w.heap.size + 1 + 1 < wc.heap.size := by omega
        have hlt1 : w.heap.size + 1 < wc.heap.size := by omega
        have hlt3 : w.heap.size + 1 + 1 + 1 < wc.heap.size := by omega
        have HM := Lib.hid hM
        have HRM : Hid (Row wc (.slice A2 (groups m).length c2) (groups m)) := Lib.hid (H2.out.below hM.inv.below)
        have HMQ := Lib.hid hmq
        have HMOD := Lib.hid hmod
        clear hM bn hmq hmod hcut
        generalize hq : (r * 10000 + d.toNat) / m = q at *
        generalize hr1 : r * 10000 + d.toNat = r1n at *
        have HQ := Lib.hid hq
        clear hq hr1 hszc9 hszc hszW hk hlen hrm hql hd hmk hmf H1 hI5 hB4 hc4 hsz5 ha hrl hi hz0 hz1 hz2
        gi_upto_region 9 with fail
        gi_region_with_o (first
          | (refine ⟨trivial, ?_⟩; gi_at_call 108; refine (CallsIn.inRound l (callsIn_wide.2 (by_any _ m _ _ (by exact HRM.out.drew) (by exact hq1) (by exact hq2) (by omega)))).mono ?_; rintro e w9 ⟨v9, rfl, r9, b9⟩; have hcr9 : w9.cell? ⟨w.heap.size + 1 + 1, 0, none⟩ = some (.slice A3 (groups r1n).length c3) := (b9.cell (p := ⟨w.heap.size + 1 + 1, 0, none⟩) (by exact hlt2)).trans hcr; have hfr9 : w9.frozen? ⟨w.heap.size + 1 + 1, 0, none⟩ = false := (b9.frozen (p := ⟨w.heap.size + 1 + 1, 0, none⟩) (by exact hlt2)).trans hfr; have R9 := Lib.hid r9; have B9 := Lib.hid b9; clear r9 b9)
          | (refine ⟨trivial, ?_⟩; gi_at_call 88; refine (CallsIn.inRound l (callsIn_wide.2 (minus_any _ _ r1n (m * (q : Int).toNat) _ (by exact HM.out.inv.row.drew.below B9.out) (by exact R9.out) (by omega) (by rw [Int.toNat_natCast]; exact HMQ.out)))).mono ?_; rintro e w10 ⟨v10, rfl, r10, b10⟩; have hcr10 : w10.cell? ⟨w.heap.size + 1 + 1, 0, none⟩ = some (.slice A3 (groups r1n).length c3) := (b10.cell (p := ⟨w.heap.size + 1 + 1, 0, none⟩) (Nat.lt_of_lt_of_le (by exact hlt2) B9.out.size)).trans hcr9; have hfr10 : w10.frozen? ⟨w.heap.size + 1 + 1, 0, none⟩ = false := (b10.frozen (p := ⟨w.heap.size + 1 + 1, 0, none⟩) (Nat.lt_of_lt_of_le (by exact hlt2) B9.out.size)).trans hfr9; rw [Int.toNat_natCast, HMOD.out] at r10; obtain ⟨A4, c4, hv10⟩ := r10.shape; subst hv10; have R10 := Lib.hid r10; have B10 := Lib.hid b10; clear r10 b10))
        all_goals gi_wp2
        all_goals
          have hend := ((HM.out.new (below_of_drew B9.out)).new B10.out).setR (fun i e => by cases e) R10.out
          first
            | exact over_round HS.out hend
    case first =>
     cases A with
     | none =>
      have hz : groups r = [] ∧ c = 0 := by
        rcases HI.out.row.2 with ⟨e, hx⟩ | ⟨b', off', cap', e, _⟩
        · injection e with _ _ e3; exact ⟨hx, e3⟩
        · injection e with e1; cases e1
      obtain ⟨hz3, hc0⟩ := hz
      subst hc0
      have hz4 : (groups r).length = 0 := by rw [hz3]; rfl
      have HZ3 := Lib.hid hz3
      generalize hlr : (groups r).length = lr at *
      subst hz4
      clear hlr hz3
      gi_wp2_with (gi_at_builtin; go_loud (refine wpListIn_append_own_none rfl (.tmp 18) (.tmp 19) 98 rfl W.heap.size 3 i0 1 Tryz.underlying98 hi _ 1 [.int .i64 d] rfl ?c0 rfl ?_))
      case c0 => exact World.ownsRow_lit W #[.int .i64 d] 1 (Nat.le_refl _) (by unfold maxLen; omega) rfl
      have hBW : Below W.heap.size W (W.alloc (.cells #[.int .i64 d] 3)) := (Below.refl _ W).alloc (Nat.le_refl _) _
      have hr' : Row (W.alloc (.cells #[.int .i64 d] 3)) (.slice (some ⟨W.heap.size, 0, none⟩) 1 1) (d :: groups r) := by
        rw [HZ3.out]
        exact Row.of_owns (base := W.heap.size) (e := 3) (n := 1) (World.ownsRow_lit W #[.int .i64 d] 1 (Nat.le_refl _) (by unfold maxLen; omega) rfl) (by simp)
      have hown2 : ∀ b off l' c', Value.slice (some ⟨W.heap.size, 0, none⟩) 1 1 = .slice (some ⟨b, off, none⟩) l' c' → b ≠ w.heap.size + 1 + 1 + 1 := fun b off l' c' e => by
        injection e with e1; injection e1 with e1; injection e1 with e1; omega
      generalize W.alloc (.cells #[.int .i64 d] 3) = Wn at *
      have HFAR := Lib.hid hown2
      have hdr : Dig (d :: groups r) := dig_cons.2 ⟨hd, dig_groups r⟩
      have HR' := Lib.hid hr'
      have HDR := Lib.hid hdr
      have HBW := Lib.hid hBW
      clear hr' hdr hBW hown2
      have hva : val (d :: groups r) = ((r * 10000 + d.toNat : Nat) : Int) := by rw [val, val_groups]; omega
      have HVA := Lib.hid hva
      clear hva
      gi_wp2_with (refine ⟨trivial, ?_⟩; gi_at_call 107; refine (CallsIn.inRound l (callsIn_wide.2 (trimmed_at _ _ _ HR'.out HDR.out))).mono ?_; rintro e w1 ⟨v1, rfl, r1, hw1, f1⟩; rw [HVA.out, Int.toNat_natCast] at r1; subst hw1; have hI1 := HM.out.new HBW.out; have hcr1 := hI1.inv.br.cell; have hfr1 := hI1.inv.br.frozen; obtain ⟨A3, c3, hv1⟩ := r1.shape; subst hv1; have HI1 := Lib.hid hI1; have R1 := Lib.hid r1; have F1 := Lib.hid f1; clear hI1 r1 f1)
      gi_meet
      case rel => exact Lib.hid ⟨_, HI1.out.setR (fun i e => by cases e) R1.out, fun b off l' c' e => by obtain ⟨l2, c2, e2⟩ := F1.out _ _ _ _ e; exact HFAR.out _ _ _ _ e2⟩
     | some ad =>
      have hnews : ∀ j (y : Value), ((groups r).map (Value.int .i64))[j]? = some y → (W.alloc (.cells #[.int .i64 d] 3)).cell? (ad.add j) = some y := by
        intro j y hj
        rcases HI.out.row.2 with ⟨e, _⟩ | ⟨b', off', cap', e, g1, g2, g3, g4⟩
        · cases e
        · injection e with e1; injection e1 with e1; subst e1
          have hjl : j < (groups r).length := by
            have := (List.getElem?_eq_some_iff.1 hj).1
            simpa using this
          rw [List.getElem?_map, List.getElem?_eq_getElem hjl] at hj
          simp at hj
          subst hj
          have := g4 j hjl
          rw [List.getElem?_eq_getElem hjl] at this
          have hx : (⟨b', off', none⟩ : Addr).add j = ⟨b', off' + j, none⟩ := by unfold Addr.add; simp
          rw [hx]
          exact (((Below.refl W.heap.size W).alloc (Nat.le_refl _) _).cell (p := ⟨b', off' + j, none⟩) g3).trans this
      have HNEWS := Lib.hid hnews
      clear hnews
      have HE : Hid (((groups r).map (Value.int .i64)).length = (groups r).length * 1) := Lib.hid (by simp)
      generalize hlr : (groups r).length = lr at *
      have HLR := Lib.hid hlr
      clear hlr
      gi_wp2_with (gi_at_builtin; go_loud (refine wpListIn_append_own _ rfl (.tmp 18) (.tmp 19) 98 rfl W.heap.size 3 i0 (.int .i64 0) 1 8 Tryz.underlying98 hi hz0 hz1 hz2 rfl (by decide) _ 1 [.int .i64 d] rfl ?c0 ad lr c ((groups r).map (Value.int .i64)) rfl HE.out HNEWS.out ?c2 ?c3 ?c4 ?c5 ?_))
      case c0 => exact World.ownsRow_lit W #[.int .i64 d] 1 (Nat.le_refl _) (by unfold maxLen; omega) rfl
      case c2 =>
        intro y hy
        simp only [List.mem_map] at hy
        obtain ⟨z, _, rfl⟩ := hy
        rfl
      case c3 => unfold maxLen; omega
      case c4 => omega
      case c5 => simp
      intro v' w' hown hgrow _
      have hBW : Below W.heap.size W w' := ((Below.refl _ W).alloc (Nat.le_refl _) _).grown hgrow (by simp) (fun k hk => by cases hk; exact Nat.le_refl _)
      have hr' : Row w' v' (d :: groups r) := Row.of_owns (base := W.heap.size) (e := 3) (n := 1 + lr) (by simpa using hown) (by simp [HLR.out]; omega)
      have hown2 : ∀ b off l' c', v' = .slice (some ⟨b, off, none⟩) l' c' → b ≠ w.heap.size + 1 + 1 + 1 := fun b off l' c' e => by
        have := (hown.lt b (by rw [e]; rfl)).1
        omega
      have HFAR := Lib.hid hown2
      have hdr : Dig (d :: groups r) := dig_cons.2 ⟨hd, dig_groups r⟩
      have HR' := Lib.hid hr'
      have HDR := Lib.hid hdr
      have HBW := Lib.hid hBW
      clear hown hgrow hr' hdr hBW HNEWS HE hown2
      have hva : val (d :: groups r) = ((r * 10000 + d.toNat : Nat) : Int) := by rw [val, val_groups]; omega
      have HVA := Lib.hid hva
      clear hva
      gi_wp2_with (refine ⟨trivial, ?_⟩; gi_at_call 107; refine (CallsIn.inRound l (callsIn_wide.2 (trimmed_at _ _ _ HR'.out HDR.out))).mono ?_; rintro e w1 ⟨v1, rfl, r1, hw1, f1⟩; rw [HVA.out, Int.toNat_natCast] at r1; subst hw1; have hI1 := HM.out.new HBW.out; have hcr1 := hI1.inv.br.cell; have hfr1 := hI1.inv.br.frozen; obtain ⟨A3, c3, hv1⟩ := r1.shape; subst hv1; have HI1 := Lib.hid hI1; have R1 := Lib.hid r1; have F1 := Lib.hid f1; clear hI1 r1 f1)
      gi_meet
      case rel => exact Lib.hid ⟨_, HI1.out.setR (fun i e => by cases e) R1.out, fun b off l' c' e => by obtain ⟨l2, c2, e2⟩ := F1.out _ _ _ _ e; exact HFAR.out _ _ _ _ e2⟩
  case done =>
    rintro D ys W hD rfl hIB hK
    obtain ⟨rv, hI⟩ := hIB
    obtain ⟨q, hq1, hq2, hq3⟩ := divT_all a m hm
    rw [hq1] at hI
    dsimp only at hI
    have hql : q.length = (groups a).length := by have := divT_len m (groups a) (List.range (groups a).length); rw [hq1] at this; exact this
    obtain ⟨A, c, hrv⟩ := hI.row.shape
    subst hrv
    have hcq := hI.bq.cell
    have hfq := hI.bq.frozen
    have hcr := hI.br.cell
    have hfr := hI.br.frozen
    have hsz := hI.sz
    have HI := Lib.hid hI
    have HRQ := Lib.hid (Row.of_owns hI.own (by rw [hql]; omega))
    have HDQ := Lib.hid hq2
    have HVQ : Hid ((val q).toNat = a / m) := Lib.hid (by rw [hq3]; rfl)
    have HKK := Lib.hid hK
    clear hI hq1 hq2 hq3 hK
    gi_upto_region 10 with fail
    gi_region_with_o ((refine ⟨trivial, ?_⟩; gi_at_call 107; refine (callsIn_wide.2 (trimmed_at _ _ _ (by exact HRQ.out.drew) HDQ.out)).mono ?_; rintro e w1 ⟨v1, rfl, r1, hw1, f1⟩; subst hw1; rw [HVQ.out] at r1; obtain ⟨A3, c3, hv1⟩ := r1.shape; subst hv1; have R1 := Lib.hid r1; clear r1 f1))
    all_goals gi_wp2
    all_goals first
      | (have hk := heap_two (v1 := .slice A3 (groups (a / m)).length c3) (v2 := .slice A (groups (a % m)).length c) (b1 := w.heap.size + 1) (b2 := w.heap.size + 1 + 1) HKK.out (by omega) (by omega)
         have hf := (OverF.of1 HI.out (by intro i e; cases e) (by intro i e; cases e) R1.out).drew
         have hc := hf.calm (grownBy_putObj' _ D (.deferred none)) (fun r e => by cases e; exact ⟨by omega, _, hk, rfl⟩)
         have c1 := hc.bq.cell
         have c2 := hc.br.cell
         refine ⟨by simp, .inl ⟨_, _, rfl, run_takeDeferred hk, ?_⟩⟩
         exact ⟨.tuple #[.slice A3 (groups (a / m)).length c3, .slice A (groups (a % m)).length c], by simp [results, Tryz.f81, go_sem, c1, c2], _, _, rfl, hc.rq, hc.rr, hc.below⟩)
      | (have hk := heap_two (v1 := .slice A (groups (a % m)).length c) (v2 := .slice A3 (groups (a / m)).length c3) (b1 := w.heap.size + 1 + 1) (b2 := w.heap.size + 1) HKK.out (by omega) (by omega)
         have hf := (OverF.of2 HI.out (by intro i e; cases e) (by intro i e; cases e) R1.out).drew
         have hc := hf.calm (grownBy_putObj' _ D (.deferred none)) (fun r e => by cases e; exact ⟨by omega, _, hk, rfl⟩)
         have c1 := hc.bq.cell
         have c2 := hc.br.cell
         refine ⟨by simp, .inl ⟨_, _, rfl, run_takeDeferred hk, ?_⟩⟩
         exact ⟨.tuple #[.slice A3 (groups (a / m)).length c3, .slice A (groups (a % m)).length c], by simp [results, Tryz.f81, go_sem, c1, c2], _, _, rfl, hc.rq, hc.rr, hc.below⟩)
  case stop =>
    rintro D c pre W _ _ h _
    exact h.elim
theorem over_any (v1 v2 : Value) (a m : Nat) (w : World) (h1 : Row w v1 (groups a)) (h2 : Row w v2 (groups m)) (ha : (groups a).length ≤ 200) (hm : 0 < m) (hml : (groups m).length ≤ 200) :
    Calls Tryz.prog 81 #[v1, v2] w fun e w' => ∃ vq vr, e = .returned (.tuple #[vq, vr]) ∧ Row w' vq (groups (a / m)) ∧ Row w' vr (groups (a % m)) ∧ Below w.heap.size w w' := callsIn_wide.1 (over_in v1 v2 a m w h1 h2 ha hm hml)
end Go.Proofs.YtfdjdmkpcdbmkaaGreatDoor
