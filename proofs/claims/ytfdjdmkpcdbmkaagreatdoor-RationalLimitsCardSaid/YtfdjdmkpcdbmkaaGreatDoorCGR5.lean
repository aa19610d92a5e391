/-
  rational.go: Print, Parse.
-/
import Derived.Test.YtfdjdmkpcdbmkaaGreatDoorCGR1
import Derived.Test.YtfdjdmkpcdbmkaaGreatDoorCGR4
import Derived.Test.YtfdjdmkpcdbmkaaGreatDoorCGSh
import Derived.Lib.CutLaws
import Derived.Lib.IndexBytes
import Derived.Lib.Join
import Derived.Shelf.RegionOpenPlain
import Derived.Test.YtfdjdmkpcdbmkaaGreatDoorCGR3
set_option linter.unusedVariables false
set_option linter.unusedSimpArgs false
namespace Go.Proofs.YtfdjdmkpcdbmkaaGreatDoor
open Go.RowKit Go.Lib

theorem indexByte_none {l : List UInt8} (h : cut47 l = none) : indexByte l 47 = -1 := by
  induction l with
  | nil => rfl
  | cons b l ih =>
    unfold cut47 at h
    split at h
    · cases h
    · rename_i hb
      have hc : cut47 l = none := by
        cases hc : cut47 l with
        | none => rfl
        | some q => rw [hc] at h; cases h
      unfold indexByte
      rw [if_neg (by simpa using hb), ih hc]; rfl
theorem indexByte_some {l : List UInt8} {p : List UInt8 × List UInt8} (h : cut47 l = some p) : indexByte l 47 = p.1.length := by
  induction l generalizing p with
  | nil => cases h
  | cons b l ih =>
    unfold cut47 at h
    unfold indexByte
    split at h
    · rename_i hb; cases h; rw [if_pos (by simpa using hb)]; rfl
    · rename_i hb
      cases hc : cut47 l with
      | none => rw [hc] at h; cases h
      | some q =>
        rw [hc] at h
        cases h
        rw [if_neg (by simpa using hb), ih hc, if_neg (by intro h; have := beq_iff_eq.1 h; omega)]
        show (q.1.length : Int) + 1 = ((b :: q.1).length : Int)
        simp
theorem cut_47 (l : List UInt8) : Lib.cut l [47] = match cut47 l with | some p => (p.1, p.2, true) | none => (l, [], false) := by
  unfold Lib.cut
  rw [index_one]
  cases hc : cut47 l with
  | none => rw [indexByte_none hc, if_neg (by omega)]
  | some p =>
    rw [indexByte_some hc, if_pos (by omega)]
    obtain ⟨h1, _⟩ := cut47_some hc
    subst h1
    simp
set_option maxRecDepth 100000 in
set_option maxHeartbeats 1000000 in
theorem slCut_any (s : ByteArray) (hs : fit s) (w : World) :
    Calls Tryz.prog 77 #[.string s, .string ⟨#[47]⟩] w fun e w' => e = .returned (.tuple #[.string (lb (Lib.cut (bl s) [47]).1), .string (lb (Lib.cut (bl s) [47]).2.1), .bool (Lib.cut (bl s) [47]).2.2]) ∧ ∃ n, w' = w.drewN n := by
  have hb : bl s = s.data.toList := rfl
  have hk : indexB s ⟨#[47]⟩ = indexByte s.data.toList 47 := index_one _ _
  rw [hb]
  unfold lb
  rcases indexB_cases s ⟨#[47]⟩ with hix | ⟨i, hix, hroom⟩
  · obtain ⟨e1, e2, e3⟩ := cutB_miss s ⟨#[47]⟩ hix
    rw [show ([47] : List UInt8) = (⟨#[47]⟩ : ByteArray).data.toList from rfl, e1, e2, e3]
    rw [hk] at hix
    have HX := Lib.hid hix
    clear hix hk e1 e2 e3 hb
    go_enter Tryz.func77, Tryz.ntmps77
    go_wp2_with (go_at_call 101; refine (Tryz.stringslite_Index_one s 47 _).mono ?_; rintro e w' ⟨rfl, rfl⟩; rw [HX.out])
    go_ret3
    exact ⟨rfl, 0, rfl⟩
  · obtain ⟨e1, e2, e3⟩ := cutB_hit s ⟨#[47]⟩ i hix
    rw [show ([47] : List UInt8) = (⟨#[47]⟩ : ByteArray).data.toList from rfl, e1, e2, e3]
    have hz : (⟨#[47]⟩ : ByteArray).size = 1 := rfl
    rw [hz] at hroom
    rw [hz]
    have hmx : Tryz.prog.follows .mixedOrders = true := by kernel_rfl
    have c1 : (0 : Int) ≤ (i : Int) := by omega
    have c2 : (i : Int) ≤ (s.size : Int) := by omega
    have hsz : s.size ≤ 281474976710656 := hs
    have cw : wrap64 ((i : Int) + 1) = (i : Int) + 1 := by unfold wrap64; omega
    have cw' : IntKind.i64.wrap ((i : Int) + 1) = (i : Int) + 1 := by rw [IntKind.wrap_i64]; omega
    have c3 : (0 : Int) ≤ (i : Int) + 1 := by omega
    have c4 : ((i : Int) + 1) ≤ (s.size : Int) := by omega
    rw [hk] at hix
    have HX := Lib.hid hix
    clear hix hk e1 e2 e3 hb
    go_enter Tryz.func77, Tryz.ntmps77
    go_wp2_with (go_at_call 101; refine (Tryz.stringslite_Index_one s 47 _).mono ?_; rintro e w' ⟨rfl, rfl⟩; rw [HX.out])
    go_region_o
    go_wp2
    go_ret3
    exact ⟨rfl, 1, rfl⟩
set_option maxRecDepth 100000 in
theorem cut_any (s : ByteArray) (hs : fit s) (w : World) :
    Calls Tryz.prog 48 #[.string s, .string ⟨#[47]⟩] w fun e w' => e = .returned (.tuple #[.string (lb (Lib.cut (bl s) [47]).1), .string (lb (Lib.cut (bl s) [47]).2.1), .bool (Lib.cut (bl s) [47]).2.2]) ∧ ∃ n, w' = w.drewN n := by
  go_enter Tryz.func48, Tryz.ntmps48
  go_wp2_with (go_at_call 77; refine (slCut_any s hs _).mono ?_; rintro e w' ⟨rfl, n, rfl⟩)
  go_ret3
  exact ⟨rfl, n, rfl⟩
-- Tryz.strings_Join
end Go.Proofs.YtfdjdmkpcdbmkaaGreatDoor

/-
  rational.go: Print.
-/
namespace Go.Proofs.YtfdjdmkpcdbmkaaGreatDoor
open Go.RowKit Go.Lib

/-- One box. -/
structure Fp (w W : World) (a0 a1 : ByteArray) : Prop where
  below : Below w.heap.size w W
  ra : Rt W w.heap.size a0 a1
theorem Fp.new (w : World) (a0 a1 : ByteArray) : Fp w (w.alloc (.cells #[.string a0, .string a1] 23)) a0 a1 :=
  ⟨(Below.refl w.heap.size w).alloc (Nat.le_refl _) _, Rt.new w a0 a1⟩
theorem Fp.later {w W W' : World} {a0 a1 : ByteArray} (h : Fp w W a0 a1) (hb : Below W.heap.size W W') : Fp w W' a0 a1 := ⟨bthen' h.below hb, h.ra.below hb⟩
set_option maxRecDepth 100000 in
set_option maxHeartbeats 1000000 in
theorem printR_any (a0 a1 : ByteArray) (h0 : fit a0) (h1 : fit a1) (w : World) (hT : Laid w) :
    Calls Tryz.prog 14 #[.agg #[.string a0, .string a1]] w fun e w' => e = .returned (.string (lb (printS (bl a0, bl a1)))) ∧ Below w.heap.size w w' := by
  have V := Lib.hid (fun w hT => validR_any a0 a1 h0 h1 w hT)
  rw [vR_eq] at V
  have HT := Lib.hid hT
  have hsz : ratValid (bl a0, bl a1) = true → a0.size ≤ 201 ∧ a1.size ≤ 201 := by
    intro h
    unfold ratValid at h
    simp only [Bool.and_eq_true] at h
    obtain ⟨x, hx, ex⟩ := of_valid h.1.1.1
    obtain ⟨y, hy, ey⟩ := of_valid h.1.1.2
    have s1 := slen hx
    have s2 := slen hy
    rw [← ex, bl_length] at s1
    rw [← ey, bl_length] at s2
    exact ⟨s1, s2⟩
  unfold printS
  cases hv : ratValid (bl a0, bl a1) with
  | false =>
    rw [hv] at V
    rw [if_neg (by simp)]
    clear hT h0 h1 hsz hv
    go_enter Tryz.func14, Tryz.ntmps14
    go_wp2_with fail
    have F := Lib.hid (Fp.new w a0 a1)
    generalize w.alloc (.cells #[.string a0, .string a1] 23) = W1 at *
    refine (V.out _ (HT.out.on F.out.below)).mono ?_
    rintro e w1 ⟨rfl, b⟩
    replace F := Lib.hid (F.out.later b)
    clear b
    go_wp2_with fail
    go_ret
    exact ⟨rfl, F.out.below⟩
  | true =>
    rw [hv] at V
    rw [if_pos rfl]
    have hs := hsz hv
    clear hT h0 h1 hsz hv
    dsimp only
    have e49 : a1.toList = bl a1 := by rw [ByteArray.toList_eq]; rfl
    by_cases hd : bl a1 = [49]
    · rw [if_pos hd, lb_bl]
      have t1 : (a1.toList == ([49] : List UInt8)) = true := by rw [e49, hd]; rfl
      clear e49 hd
      go_enter Tryz.func14, Tryz.ntmps14
      go_wp2_with fail
      have F := Lib.hid (Fp.new w a0 a1)
      generalize w.alloc (.cells #[.string a0, .string a1] 23) = W1 at *
      refine (V.out _ (HT.out.on F.out.below)).mono ?_
      rintro e w1 ⟨rfl, b⟩
      replace F := Lib.hid (F.out.later b)
      clear b
      have c0 := F.out.ra.cell0
      have c1 := F.out.ra.cell1
      go_wp2_with fail
      go_ret
      exact ⟨rfl, F.out.below⟩
    · rw [if_neg hd]
      have t1 : (a1.toList == ([49] : List UInt8)) = false := by rw [e49]; simpa using hd
      clear e49 hd
      go_enter Tryz.func14, Tryz.ntmps14
      go_wp2_with fail
      have F := Lib.hid (Fp.new w a0 a1)
      generalize w.alloc (.cells #[.string a0, .string a1] 23) = W1 at *
      refine (V.out _ (HT.out.on F.out.below)).mono ?_
      rintro e w1 ⟨rfl, b⟩
      replace F := Lib.hid (F.out.later b)
      clear b
      have c0 := F.out.ra.cell0
      have c1 := F.out.ra.cell1
      go_wp2_with fail
      have hh := World.alloc_heap_new w1 (.cells #[.string a0, .string a1] 9)
      have hb := (Below.refl w1.heap.size w1).alloc (Nat.le_refl _) (.cells #[.string a0, .string a1] 9)
      have hs9 : (w1.alloc (.cells #[.string a0, .string a1] 9)).heap.size = w1.heap.size + 1 := by simp
      generalize w1.alloc (.cells #[.string a0, .string a1] 9) = W2 at *
      refine (Tryz.strings_Join w1.heap.size 0 2 [a0, a1] ⟨#[47]⟩ W2 ?_ (by omega) (by simp) (by simp) ?_).mono ?_
      · intro j x hj
        have hc : j = 0 ∨ j = 1 := by
          rcases Nat.lt_or_ge j 2 with h | h
          · omega
          · rw [List.getElem?_eq_none (by simpa using h)] at hj; cases hj
        rcases hc with rfl | rfl
        all_goals
          unfold World.cell?
          simp only [hh]
          simpa using hj
      · rw [show ([a0, a1].map (·.data.toList)) = [a0.data.toList, a1.data.toList] from rfl, Lib.join_cons]
        unfold Lib.joinTail
        simp only [List.map_cons, List.map_nil, List.flatten_cons, List.flatten_nil, List.length_append, List.length_cons, List.length_nil, Array.length_toList]
        have e0 : a0.data.size = a0.size := rfl
        have e1 : a1.data.size = a1.size := rfl
        have e2 : (⟨#[47]⟩ : ByteArray).data.size = 1 := rfl
        omega
      · rintro e w2 ⟨rfl, b⟩
        have BE := bthen' (bthen' F.out.below hb) b
        clear b hb hh
        go_wp2_with fail
        go_ret
        refine ⟨?_, BE⟩
        show Ending.returned (.string ⟨(Lib.join [a0.data.toList, a1.data.toList] [47]).toArray⟩) = _
        rw [Lib.join_cons]
        unfold Lib.joinTail
        simp only [List.map_cons, List.map_nil, List.flatten_cons, List.flatten_nil, List.append_nil]
        rfl
end Go.Proofs.YtfdjdmkpcdbmkaaGreatDoor

/-
  rational.go: Parse.
-/
namespace Go.Proofs.YtfdjdmkpcdbmkaaGreatDoor
open Go.RowKit Go.Lib

/-- Two boxes: the result's, and the fraction's. -/
structure Fq (w W : World) (x y : ByteArray) : Prop where
  below : Below w.heap.size w W
  rr : Rt W w.heap.size ⟨#[]⟩ ⟨#[]⟩
  ra : Rt W (w.heap.size + 1) x y
theorem Fq.new (w : World) (x y : ByteArray) : Fq w ((w.alloc (.cells #[.string ⟨#[]⟩, .string ⟨#[]⟩] 23)).alloc (.cells #[.string x, .string y] 23)) x y := by
  have h := Fc.new w ⟨#[]⟩ ⟨#[]⟩ x y
  exact ⟨h.below, h.ra, h.rb⟩
theorem Fq.later {w W W' : World} {x y : ByteArray} (h : Fq w W x y) (hb : Below W.heap.size W W') : Fq w W' x y := ⟨bthen' h.below hb, h.rr.below hb, h.ra.below hb⟩
theorem Fq.put0 {w W : World} {x y : ByteArray} (h : Fq w W x y) (a : ByteArray) : Fq w (W.setCell ⟨w.heap.size + 1, 0, none⟩ (.string a)) a y :=
  ⟨h.below.setCell (p := ⟨w.heap.size + 1, 0, none⟩) (Nat.le_succ _) _, h.rr.but (But.set (w.heap.size + 1) W 0 _) (by omega), h.ra.set0 a⟩
theorem Fq.put1 {w W : World} {x y : ByteArray} (h : Fq w W x y) (a : ByteArray) : Fq w (W.setCell ⟨w.heap.size + 1, 1, none⟩ (.string a)) x a :=
  ⟨h.below.setCell (p := ⟨w.heap.size + 1, 1, none⟩) (Nat.le_succ _) _, h.rr.but (But.set (w.heap.size + 1) W 1 _) (by omega), h.ra.set1 a⟩
theorem toL_lb (l : List UInt8) : (lb l).toList = l := by rw [ByteArray.toList_eq]; exact bl_lb l
theorem toL_bl (a : ByteArray) : a.toList = bl a := by rw [ByteArray.toList_eq]; rfl
set_option maxRecDepth 100000 in
set_option maxHeartbeats 1000000 in
theorem parseR_any (s : ByteArray) (hs : fit s) (w : World) (hT : Laid w) :
    Calls Tryz.prog 15 #[.string s] w fun e w' =>
      e = .returned (.tuple #[.agg #[.string (lb (parseS (bl s)).1.1), .string (lb (parseS (bl s)).1.2)], .int .i64 (parseS (bl s)).2]) ∧ Below w.heap.size w w' := by
  have HC := Lib.hid (cut_any s hs)
  have HT := Lib.hid hT
  rw [cut_47] at HC
  clear hT
  cases hc : cut47 (bl s) with
  | none =>
    rw [hc] at HC
    dsimp only at HC
    rw [lb_bl] at HC
    have hr : readT (bl s) = (bl s, [49]) := by unfold readT; rw [hc]
    have HP := Lib.hid (fun w hT => printR_any s (⟨#[49]⟩ : ByteArray) hs (by decide) w hT)
    rw [show ((bl s, bl (⟨#[49]⟩ : ByteArray)) : Txt) = readT (bl s) from hr.symm] at HP
    clear hc
    go_enter Tryz.func15, Tryz.ntmps15
    go_wp2_with fail
    have F := Lib.hid (Fq.new w ⟨#[]⟩ ⟨#[49]⟩)
    generalize (w.alloc (.cells #[.string ⟨#[]⟩, .string ⟨#[]⟩] 23)).alloc (.cells #[.string ⟨#[]⟩, .string ⟨#[49]⟩] 23) = W2 at *
    refine (HC.out _).mono ?_
    rintro e w2 ⟨rfl, n, rfl⟩
    replace F := Lib.hid (F.out.later (below_drewN (Below.refl _ W2) n))
    generalize W2.drewN n = w3 at *
    have f0 := F.out.ra.frozen 0
    have f1 := F.out.ra.frozen 1
    have l0 := F.out.ra.lt
    have c0 := F.out.ra.cell0
    have c1 := F.out.ra.cell1
    go_wp2_with fail
    replace F := Lib.hid (F.out.put0 s)
    generalize w3.setCell ⟨w.heap.size + 1, 0, none⟩ (.string s) = W5 at *
    clear f0 f1 l0 c0 c1
    refine (HP.out _ (HT.out.on F.out.below)).mono ?_
    rintro e w4 ⟨rfl, b⟩
    replace F := Lib.hid (F.out.later b)
    clear b
    by_cases he : printS (readT (bl s)) = bl s
    · have t1 : ((lb (printS (readT (bl s)))).toList != s.toList) = false := by rw [toL_lb, toL_bl, he]; simp
      have t1e : (lb (printS (readT (bl s)))).toList = s.toList := by rw [toL_lb, toL_bl, he]
      by_cases hn : bl s = []
      · have t2 : (s.toList == ([] : List UInt8)) = true := by rw [toL_bl, hn]; rfl
        have HPAR := Lib.hid (show parseS (bl s) = (none2, errRational) by unfold parseS; rw [if_neg (fun h => h.2 hn)])
        generalize lb (printS (readT (bl s))) = P at *
        clear he hn HC HP hr
        have q0 := F.out.rr.cell0
        have q1 := F.out.rr.cell1
        have qf0 := F.out.rr.frozen 0
        have qf1 := F.out.rr.frozen 1
        have ql := F.out.rr.lt
        have c0 := F.out.ra.cell0
        have c1 := F.out.ra.cell1
        go_wp2_with fail
        have RE := (F.out.rr.set0 (⟨#[]⟩ : ByteArray)).set1 (⟨#[]⟩ : ByteArray)
        have BE := (F.out.below.setCell (p := ⟨w.heap.size, 0, none⟩) (Nat.le_refl _) (.string (⟨#[]⟩ : ByteArray))).setCell (p := ⟨w.heap.size, 1, none⟩) (Nat.le_refl _) (.string (⟨#[]⟩ : ByteArray))
        have z0 := RE.cell0
        have z1 := RE.cell1
        clear RE q0 q1
        generalize ((w4.setCell ⟨w.heap.size, 0, none⟩ (.string (⟨#[]⟩ : ByteArray))).setCell ⟨w.heap.size, 1, none⟩ (.string (⟨#[]⟩ : ByteArray))) = WE at *
        exact bodyPost_ret (v := .tuple #[.agg #[.string (⟨#[]⟩ : ByteArray), .string (⟨#[]⟩ : ByteArray)], .int .i64 40]) (by simp [results, Tryz.results15, go_sem, z0, z1]) rfl ⟨by rw [HPAR.out]; rfl, BE⟩
      · have t2 : (s.toList == ([] : List UInt8)) = false := by rw [toL_bl]; simpa using hn
        have HPAR := Lib.hid (show parseS (bl s) = _ by unfold parseS; rw [if_pos ⟨he, hn⟩, hr])
        generalize lb (printS (readT (bl s))) = P at *
        clear he hn HC HP hr
        have q0 := F.out.rr.cell0
        have q1 := F.out.rr.cell1
        have qf0 := F.out.rr.frozen 0
        have qf1 := F.out.rr.frozen 1
        have ql := F.out.rr.lt
        have c0 := F.out.ra.cell0
        have c1 := F.out.ra.cell1
        go_wp2_with fail
        have RE := (F.out.rr.set0 (s)).set1 (⟨#[49]⟩ : ByteArray)
        have BE := (F.out.below.setCell (p := ⟨w.heap.size, 0, none⟩) (Nat.le_refl _) (.string (s))).setCell (p := ⟨w.heap.size, 1, none⟩) (Nat.le_refl _) (.string (⟨#[49]⟩ : ByteArray))
        have z0 := RE.cell0
        have z1 := RE.cell1
        clear RE q0 q1
        generalize ((w4.setCell ⟨w.heap.size, 0, none⟩ (.string (s))).setCell ⟨w.heap.size, 1, none⟩ (.string (⟨#[49]⟩ : ByteArray))) = WE at *
        exact bodyPost_ret (v := .tuple #[.agg #[.string (s), .string (⟨#[49]⟩ : ByteArray)], .int .i64 0]) (by simp [results, Tryz.results15, go_sem, z0, z1]) rfl ⟨by rw [HPAR.out]; dsimp only; rw [lb_bl]; rfl, BE⟩
    · have t1 : ((lb (printS (readT (bl s)))).toList != s.toList) = true := by rw [toL_lb, toL_bl]; simpa using he
      have t1n : ¬ (lb (printS (readT (bl s)))).toList = s.toList := by rw [toL_lb, toL_bl]; exact he
      have HPAR := Lib.hid (show parseS (bl s) = (none2, errRational) by unfold parseS; rw [if_neg (fun h => he h.1)])
      generalize lb (printS (readT (bl s))) = P at *
      clear he HC HP hr
      have q0 := F.out.rr.cell0
      have q1 := F.out.rr.cell1
      have qf0 := F.out.rr.frozen 0
      have qf1 := F.out.rr.frozen 1
      have ql := F.out.rr.lt
      have c0 := F.out.ra.cell0
      have c1 := F.out.ra.cell1
      go_wp2_with fail
      have RE := (F.out.rr.set0 (⟨#[]⟩ : ByteArray)).set1 (⟨#[]⟩ : ByteArray)
      have BE := (F.out.below.setCell (p := ⟨w.heap.size, 0, none⟩) (Nat.le_refl _) (.string (⟨#[]⟩ : ByteArray))).setCell (p := ⟨w.heap.size, 1, none⟩) (Nat.le_refl _) (.string (⟨#[]⟩ : ByteArray))
      have z0 := RE.cell0
      have z1 := RE.cell1
      clear RE q0 q1
      generalize ((w4.setCell ⟨w.heap.size, 0, none⟩ (.string (⟨#[]⟩ : ByteArray))).setCell ⟨w.heap.size, 1, none⟩ (.string (⟨#[]⟩ : ByteArray))) = WE at *
      exact bodyPost_ret (v := .tuple #[.agg #[.string (⟨#[]⟩ : ByteArray), .string (⟨#[]⟩ : ByteArray)], .int .i64 40]) (by simp [results, Tryz.results15, go_sem, z0, z1]) rfl ⟨by rw [HPAR.out]; rfl, BE⟩
  | some p =>
    rw [hc] at HC
    dsimp only at HC
    have hr : readT (bl s) = (p.1, p.2) := by unfold readT; rw [hc]
    have hlen := congrArg List.length (cut47_some hc).1
    rw [List.length_append, List.length_cons] at hlen
    have hfs : (bl s).length ≤ 281474976710656 := fit_le hs
    have fx : fit (lb p.1) := by unfold fit; rw [lb_size]; omega
    have fy : fit (lb p.2) := by unfold fit; rw [lb_size]; omega
    have HP := Lib.hid (fun w hT => printR_any (lb p.1) (lb p.2) fx fy w hT)
    rw [bl_lb, bl_lb, show ((p.1, p.2) : Txt) = readT (bl s) from hr.symm] at HP
    clear hc hlen hfs fx fy
    generalize hx : lb p.1 = x at *
    generalize hy : lb p.2 = y at *
    go_enter Tryz.func15, Tryz.ntmps15
    go_wp2_with fail
    have F := Lib.hid (Fq.new w ⟨#[]⟩ ⟨#[49]⟩)
    generalize (w.alloc (.cells #[.string ⟨#[]⟩, .string ⟨#[]⟩] 23)).alloc (.cells #[.string ⟨#[]⟩, .string ⟨#[49]⟩] 23) = W2 at *
    refine (HC.out _).mono ?_
    rintro e w2 ⟨rfl, n, rfl⟩
    replace F := Lib.hid (F.out.later (below_drewN (Below.refl _ W2) n))
    generalize W2.drewN n = w3 at *
    have f0 := F.out.ra.frozen 0
    have f1 := F.out.ra.frozen 1
    have l0 := F.out.ra.lt
    have c0 := F.out.ra.cell0
    have c1 := F.out.ra.cell1
    go_wp2_with fail
    replace F := Lib.hid ((F.out.put0 x).put1 y)
    generalize (w3.setCell ⟨w.heap.size + 1, 0, none⟩ (.string x)).setCell ⟨w.heap.size + 1, 1, none⟩ (.string y) = W5 at *
    clear f0 f1 l0 c0 c1
    refine (HP.out _ (HT.out.on F.out.below)).mono ?_
    rintro e w4 ⟨rfl, b⟩
    replace F := Lib.hid (F.out.later b)
    clear b
    by_cases he : printS (readT (bl s)) = bl s
    · have t1 : ((lb (printS (readT (bl s)))).toList != s.toList) = false := by rw [toL_lb, toL_bl, he]; simp
      have t1e : (lb (printS (readT (bl s)))).toList = s.toList := by rw [toL_lb, toL_bl, he]
      by_cases hn : bl s = []
      · have t2 : (s.toList == ([] : List UInt8)) = true := by rw [toL_bl, hn]; rfl
        have HPAR := Lib.hid (show parseS (bl s) = (none2, errRational) by unfold parseS; rw [if_neg (fun h => h.2 hn)])
        generalize lb (printS (readT (bl s))) = P at *
        clear he hn HC HP hr
        have q0 := F.out.rr.cell0
        have q1 := F.out.rr.cell1
        have qf0 := F.out.rr.frozen 0
        have qf1 := F.out.rr.frozen 1
        have ql := F.out.rr.lt
        have c0 := F.out.ra.cell0
        have c1 := F.out.ra.cell1
        go_wp2_with fail
        have RE := (F.out.rr.set0 (⟨#[]⟩ : ByteArray)).set1 (⟨#[]⟩ : ByteArray)
        have BE := (F.out.below.setCell (p := ⟨w.heap.size, 0, none⟩) (Nat.le_refl _) (.string (⟨#[]⟩ : ByteArray))).setCell (p := ⟨w.heap.size, 1, none⟩) (Nat.le_refl _) (.string (⟨#[]⟩ : ByteArray))
        have z0 := RE.cell0
        have z1 := RE.cell1
        clear RE q0 q1
        generalize ((w4.setCell ⟨w.heap.size, 0, none⟩ (.string (⟨#[]⟩ : ByteArray))).setCell ⟨w.heap.size, 1, none⟩ (.string (⟨#[]⟩ : ByteArray))) = WE at *
        exact bodyPost_ret (v := .tuple #[.agg #[.string (⟨#[]⟩ : ByteArray), .string (⟨#[]⟩ : ByteArray)], .int .i64 40]) (by simp [results, Tryz.results15, go_sem, z0, z1]) rfl ⟨by rw [HPAR.out]; rfl, BE⟩
      · have t2 : (s.toList == ([] : List UInt8)) = false := by rw [toL_bl]; simpa using hn
        have HPAR := Lib.hid (show parseS (bl s) = _ by unfold parseS; rw [if_pos ⟨he, hn⟩, hr])
        generalize lb (printS (readT (bl s))) = P at *
        clear he hn HC HP hr
        have q0 := F.out.rr.cell0
        have q1 := F.out.rr.cell1
        have qf0 := F.out.rr.frozen 0
        have qf1 := F.out.rr.frozen 1
        have ql := F.out.rr.lt
        have c0 := F.out.ra.cell0
        have c1 := F.out.ra.cell1
        go_wp2_with fail
        have RE := (F.out.rr.set0 (x)).set1 (y)
        have BE := (F.out.below.setCell (p := ⟨w.heap.size, 0, none⟩) (Nat.le_refl _) (.string (x))).setCell (p := ⟨w.heap.size, 1, none⟩) (Nat.le_refl _) (.string (y))
        have z0 := RE.cell0
        have z1 := RE.cell1
        clear RE q0 q1
        generalize ((w4.setCell ⟨w.heap.size, 0, none⟩ (.string (x))).setCell ⟨w.heap.size, 1, none⟩ (.string (y))) = WE at *
        exact bodyPost_ret (v := .tuple #[.agg #[.string (x), .string (y)], .int .i64 0]) (by simp [results, Tryz.results15, go_sem, z0, z1]) rfl ⟨by rw [HPAR.out]; dsimp only; rw [hx, hy], BE⟩
    · have t1 : ((lb (printS (readT (bl s)))).toList != s.toList) = true := by rw [toL_lb, toL_bl]; simpa using he
      have t1n : ¬ (lb (printS (readT (bl s)))).toList = s.toList := by rw [toL_lb, toL_bl]; exact he
      have HPAR := Lib.hid (show parseS (bl s) = (none2, errRational) by unfold parseS; rw [if_neg (fun h => he h.1)])
      generalize lb (printS (readT (bl s))) = P at *
      clear he HC HP hr
      have q0 := F.out.rr.cell0
      have q1 := F.out.rr.cell1
      have qf0 := F.out.rr.frozen 0
      have qf1 := F.out.rr.frozen 1
      have ql := F.out.rr.lt
      have c0 := F.out.ra.cell0
      have c1 := F.out.ra.cell1
      go_wp2_with fail
      have RE := (F.out.rr.set0 (⟨#[]⟩ : ByteArray)).set1 (⟨#[]⟩ : ByteArray)
      have BE := (F.out.below.setCell (p := ⟨w.heap.size, 0, none⟩) (Nat.le_refl _) (.string (⟨#[]⟩ : ByteArray))).setCell (p := ⟨w.heap.size, 1, none⟩) (Nat.le_refl _) (.string (⟨#[]⟩ : ByteArray))
      have z0 := RE.cell0
      have z1 := RE.cell1
      clear RE q0 q1
      generalize ((w4.setCell ⟨w.heap.size, 0, none⟩ (.string (⟨#[]⟩ : ByteArray))).setCell ⟨w.heap.size, 1, none⟩ (.string (⟨#[]⟩ : ByteArray))) = WE at *
      exact bodyPost_ret (v := .tuple #[.agg #[.string (⟨#[]⟩ : ByteArray), .string (⟨#[]⟩ : ByteArray)], .int .i64 40]) (by simp [results, Tryz.results15, go_sem, z0, z1]) rfl ⟨by rw [HPAR.out]; rfl, BE⟩
end Go.Proofs.YtfdjdmkpcdbmkaaGreatDoor

/-
  Package rational's functions and the reference's, each by its contract, in one form for the laws' walks.
-/
namespace Go.Proofs.YtfdjdmkpcdbmkaaGreatDoor
open Go.RowKit Go.Lib

/-- Two texts that a call may be handed. -/
def fitT (t : Txt) : Prop := t.1.length ≤ 100000 ∧ t.2.length ≤ 100000
theorem fitT.l {t : Txt} (h : fitT t) : fit (lb t.1) := by unfold fit; rw [lb_size]; have := h.1; omega
theorem fitT.r {t : Txt} (h : fitT t) : fit (lb t.2) := by unfold fit; rw [lb_size]; have := h.2; omega
theorem fitT_rt {q : Rat} (h : okR q) : fitT (rt q) := by
  have h1 := slen h.1
  have h2 := slen (denLt h)
  exact ⟨by show (str q.num).length ≤ _; omega, by show (str (q.den : Int)).length ≤ _; omega⟩
theorem fitT_none : fitT none2 := ⟨by simp [none2], by simp [none2]⟩
theorem fitT_reduce (ok : Bool) {n d : Int} (hn : ok = true → fits n = true) (hd : ok = true → fits d = true) : fitT (reduceS ok n d).1 := by
  unfold reduceS
  split
  · rename_i h
    simp only [Bool.and_eq_true, decide_eq_true_eq] at h
    rw [red_txt h.2]
    exact fitT_rt (okR_divInt (fits_iff.1 (hn h.1)) (fits_iff.1 (hd h.1)) h.2)
  · exact fitT_none
theorem fitT_add (s t : Txt) : fitT (addQ s t).1 := fitT_reduce _ (fun h => by simp only [Bool.and_eq_true] at h; exact h.1.2) (fun h => by simp only [Bool.and_eq_true] at h; exact h.2)
theorem fitT_sub (s t : Txt) : fitT (subQ s t).1 := fitT_reduce _ (fun h => by simp only [Bool.and_eq_true] at h; exact h.1.2) (fun h => by simp only [Bool.and_eq_true] at h; exact h.2)
theorem fitT_mul (s t : Txt) : fitT (mulQ s t).1 := fitT_reduce _ (fun h => by simp only [Bool.and_eq_true] at h; exact h.1.2) (fun h => by simp only [Bool.and_eq_true] at h; exact h.2)
theorem fitT_div (s t : Txt) : fitT (divQ s t).1 := fitT_reduce _ (fun h => by simp only [Bool.and_eq_true] at h; exact h.1.2) (fun h => by simp only [Bool.and_eq_true] at h; exact h.2)
section
variable (s t : Txt) (hs : fitT s) (ht : fitT t) (w : World) (hT : Laid w)
include hs ht hT
theorem addV : Calls Tryz.prog 27 #[.agg #[.string (lb s.1), .string (lb s.2)], .agg #[.string (lb t.1), .string (lb t.2)]] w fun e w' =>
    e = .returned (.tuple #[.agg #[.string (lb (addQ s t).1.1), .string (lb (addQ s t).1.2)], .int .i64 (addQ s t).2]) ∧ Below w.heap.size w w' := by
  have := addR_any _ _ _ _ hs.l hs.r ht.l ht.r w hT
  rw [bl_lb, bl_lb, bl_lb, bl_lb, add_eq] at this; exact this
theorem subV : Calls Tryz.prog 44 #[.agg #[.string (lb s.1), .string (lb s.2)], .agg #[.string (lb t.1), .string (lb t.2)]] w fun e w' =>
    e = .returned (.tuple #[.agg #[.string (lb (subQ s t).1.1), .string (lb (subQ s t).1.2)], .int .i64 (subQ s t).2]) ∧ Below w.heap.size w w' := by
  have := subR_any _ _ _ _ hs.l hs.r ht.l ht.r w hT
  rw [bl_lb, bl_lb, bl_lb, bl_lb, sub_eq] at this; exact this
theorem mulV : Calls Tryz.prog 25 #[.agg #[.string (lb s.1), .string (lb s.2)], .agg #[.string (lb t.1), .string (lb t.2)]] w fun e w' =>
    e = .returned (.tuple #[.agg #[.string (lb (mulQ s t).1.1), .string (lb (mulQ s t).1.2)], .int .i64 (mulQ s t).2]) ∧ Below w.heap.size w w' := by
  have := mulR_any _ _ _ _ hs.l hs.r ht.l ht.r w hT
  rw [bl_lb, bl_lb, bl_lb, bl_lb, mul_eq] at this; exact this
theorem divV : Calls Tryz.prog 26 #[.agg #[.string (lb s.1), .string (lb s.2)], .agg #[.string (lb t.1), .string (lb t.2)]] w fun e w' =>
    e = .returned (.tuple #[.agg #[.string (lb (divQ s t).1.1), .string (lb (divQ s t).1.2)], .int .i64 (divQ s t).2]) ∧ Below w.heap.size w w' := by
  have := divR_any _ _ _ _ hs.l hs.r ht.l ht.r w hT
  rw [bl_lb, bl_lb, bl_lb, bl_lb, div_eq] at this; exact this
theorem cmpV : Calls Tryz.prog 23 #[.agg #[.string (lb s.1), .string (lb s.2)], .agg #[.string (lb t.1), .string (lb t.2)]] w fun e w' =>
    e = .returned (.int .i64 (cmpQ s t)) ∧ Below w.heap.size w w' := by
  have := compareR_any _ _ _ _ hs.l hs.r ht.l ht.r w hT
  rw [bl_lb, bl_lb, bl_lb, bl_lb] at this; exact this
end
section
variable (s : Txt) (hs : fitT s) (w : World) (hT : Laid w)
include hs hT
theorem downV (p : Int) : Calls Tryz.prog 35 #[.agg #[.string (lb s.1), .string (lb s.2)], .int .i64 p] w fun e w' =>
    e = .returned (.tuple #[.agg #[.string (lb (downQ s p).1.1), .string (lb (downQ s p).1.2)], .int .i64 (downQ s p).2]) ∧ Below w.heap.size w w' := by
  have := downR_any _ _ p hs.l hs.r w hT
  rw [bl_lb, bl_lb] at this; exact this
theorem upV (p : Int) : Calls Tryz.prog 37 #[.agg #[.string (lb s.1), .string (lb s.2)], .int .i64 p] w fun e w' =>
    e = .returned (.tuple #[.agg #[.string (lb (upQ s p).1.1), .string (lb (upQ s p).1.2)], .int .i64 (upQ s p).2]) ∧ Below w.heap.size w w' := by
  have := upR_any _ _ p hs.l hs.r w hT
  rw [bl_lb, bl_lb] at this; exact this
theorem printV : Calls Tryz.prog 14 #[.agg #[.string (lb s.1), .string (lb s.2)]] w fun e w' =>
    e = .returned (.string (lb (printS s))) ∧ Below w.heap.size w w' := by
  have := printR_any _ _ hs.l hs.r w hT
  rw [bl_lb, bl_lb] at this; exact this
theorem validV : Calls Tryz.prog 17 #[.agg #[.string (lb s.1), .string (lb s.2)]] w fun e w' =>
    e = .returned (.bool (ratValid s)) ∧ Below w.heap.size w w' := by
  have := validR_any _ _ hs.l hs.r w hT
  rw [bl_lb, bl_lb, vR_eq] at this; exact this
end
theorem makeV (n d : List UInt8) (hn : n.length ≤ 100000) (hd : d.length ≤ 100000) (w : World) (hT : Laid w) : Calls Tryz.prog 22 #[.string (lb n), .string (lb d)] w fun e w' =>
    e = .returned (.tuple #[.agg #[.string (lb (makeS n d).1.1), .string (lb (makeS n d).1.2)], .int .i64 (makeS n d).2]) ∧ Below w.heap.size w w' := by
  have := make_any (lb n) (lb d) (by unfold fit; rw [lb_size]; omega) (by unfold fit; rw [lb_size]; omega) w hT
  rw [bl_lb, bl_lb, mkT_eq] at this; exact this
theorem ofV (n d : Int) (hn : -9223372036854775808 ≤ n ∧ n ≤ 9223372036854775807) (hd : -9223372036854775808 ≤ d ∧ d ≤ 9223372036854775807) (w : World) (hT : Laid w) : Calls Tryz.prog 41 #[.int .i64 n, .int .i64 d] w fun e w' =>
    e = .returned (.tuple #[.agg #[.string (lb (makeS (str n) (str d)).1.1), .string (lb (makeS (str n) (str d)).1.2)], .int .i64 (makeS (str n) (str d)).2]) ∧ Below w.heap.size w w' := by
  have := of_any n d hn hd w hT
  rw [mkT_eq] at this; exact this
theorem parseV (s : List UInt8) (hs : s.length ≤ 100000) (w : World) (hT : Laid w) : Calls Tryz.prog 15 #[.string (lb s)] w fun e w' =>
    e = .returned (.tuple #[.agg #[.string (lb (parseS s).1.1), .string (lb (parseS s).1.2)], .int .i64 (parseS s).2]) ∧ Below w.heap.size w w' := by
  have := parseR_any (lb s) (by unfold fit; rw [lb_size]; omega) w hT
  rw [bl_lb] at this; exact this
end Go.Proofs.YtfdjdmkpcdbmkaaGreatDoor

/-
  Package rational's functions as plain functions on strings, each with its call's contract, in the form in which the printed texts use them.
-/
namespace Go.Proofs.YtfdjdmkpcdbmkaaGreatDoor
open Go.RowKit Go.Lib

/-- How long two strings may be for these contracts. -/
def fitB (a b : ByteArray) : Prop := a.size ≤ 100000 ∧ b.size ≤ 100000
instance (a b : ByteArray) : Decidable (fitB a b) := by unfold fitB; infer_instance
theorem fitB.t {a b : ByteArray} (h : fitB a b) : fitT (bl a, bl b) := ⟨by rw [bl_length]; exact h.1, by rw [bl_length]; exact h.2⟩
def rational_Add.f (a0_0 a0_1 : ByteArray) (a1_0 a1_1 : ByteArray) : Option (ByteArray × ByteArray × Int) := if fitB a0_0 a0_1 ∧ fitB a1_0 a1_1 then some (lb (addQ (bl a0_0, bl a0_1) (bl a1_0, bl a1_1)).1.1, lb (addQ (bl a0_0, bl a0_1) (bl a1_0, bl a1_1)).1.2, (addQ (bl a0_0, bl a0_1) (bl a1_0, bl a1_1)).2) else none
theorem rational_Add.calls (a0_0 a0_1 : ByteArray) (a1_0 a1_1 : ByteArray) (r1 r2 : ByteArray) (r3 : Int) (w : World) (hT : Laid w) (h : rational_Add.f a0_0 a0_1 a1_0 a1_1 = some (r1, r2, r3)) :
    Calls Tryz.prog 27 #[.agg #[.string a0_0, .string a0_1], .agg #[.string a1_0, .string a1_1]] w fun e w' => e = .returned (.tuple #[.agg #[.string r1, .string r2], .int .i64 r3]) ∧ Below w.heap.size w w' := by
  unfold rational_Add.f at h
  split at h
  · rename_i hf
    have := addV (bl a0_0, bl a0_1) (bl a1_0, bl a1_1) hf.1.t hf.2.t w hT
    try simp only [lb_bl] at this
    cases h
    exact this
  · cases h
def rational_Sub.f (a0_0 a0_1 : ByteArray) (a1_0 a1_1 : ByteArray) : Option (ByteArray × ByteArray × Int) := if fitB a0_0 a0_1 ∧ fitB a1_0 a1_1 then some (lb (subQ (bl a0_0, bl a0_1) (bl a1_0, bl a1_1)).1.1, lb (subQ (bl a0_0, bl a0_1) (bl a1_0, bl a1_1)).1.2, (subQ (bl a0_0, bl a0_1) (bl a1_0, bl a1_1)).2) else none
theorem rational_Sub.calls (a0_0 a0_1 : ByteArray) (a1_0 a1_1 : ByteArray) (r1 r2 : ByteArray) (r3 : Int) (w : World) (hT : Laid w) (h : rational_Sub.f a0_0 a0_1 a1_0 a1_1 = some (r1, r2, r3)) :
    Calls Tryz.prog 44 #[.agg #[.string a0_0, .string a0_1], .agg #[.string a1_0, .string a1_1]] w fun e w' => e = .returned (.tuple #[.agg #[.string r1, .string r2], .int .i64 r3]) ∧ Below w.heap.size w w' := by
  unfold rational_Sub.f at h
  split at h
  · rename_i hf
    have := subV (bl a0_0, bl a0_1) (bl a1_0, bl a1_1) hf.1.t hf.2.t w hT
    try simp only [lb_bl] at this
    cases h
    exact this
  · cases h
def rational_Mul.f (a0_0 a0_1 : ByteArray) (a1_0 a1_1 : ByteArray) : Option (ByteArray × ByteArray × Int) := if fitB a0_0 a0_1 ∧ fitB a1_0 a1_1 then some (lb (mulQ (bl a0_0, bl a0_1) (bl a1_0, bl a1_1)).1.1, lb (mulQ (bl a0_0, bl a0_1) (bl a1_0, bl a1_1)).1.2, (mulQ (bl a0_0, bl a0_1) (bl a1_0, bl a1_1)).2) else none
theorem rational_Mul.calls (a0_0 a0_1 : ByteArray) (a1_0 a1_1 : ByteArray) (r1 r2 : ByteArray) (r3 : Int) (w : World) (hT : Laid w) (h : rational_Mul.f a0_0 a0_1 a1_0 a1_1 = some (r1, r2, r3)) :
    Calls Tryz.prog 25 #[.agg #[.string a0_0, .string a0_1], .agg #[.string a1_0, .string a1_1]] w fun e w' => e = .returned (.tuple #[.agg #[.string r1, .string r2], .int .i64 r3]) ∧ Below w.heap.size w w' := by
  unfold rational_Mul.f at h
  split at h
  · rename_i hf
    have := mulV (bl a0_0, bl a0_1) (bl a1_0, bl a1_1) hf.1.t hf.2.t w hT
    try simp only [lb_bl] at this
    cases h
    exact this
  · cases h
def rational_Div.f (a0_0 a0_1 : ByteArray) (a1_0 a1_1 : ByteArray) : Option (ByteArray × ByteArray × Int) := if fitB a0_0 a0_1 ∧ fitB a1_0 a1_1 then some (lb (divQ (bl a0_0, bl a0_1) (bl a1_0, bl a1_1)).1.1, lb (divQ (bl a0_0, bl a0_1) (bl a1_0, bl a1_1)).1.2, (divQ (bl a0_0, bl a0_1) (bl a1_0, bl a1_1)).2) else none
theorem rational_Div.calls (a0_0 a0_1 : ByteArray) (a1_0 a1_1 : ByteArray) (r1 r2 : ByteArray) (r3 : Int) (w : World) (hT : Laid w) (h : rational_Div.f a0_0 a0_1 a1_0 a1_1 = some (r1, r2, r3)) :
    Calls Tryz.prog 26 #[.agg #[.string a0_0, .string a0_1], .agg #[.string a1_0, .string a1_1]] w fun e w' => e = .returned (.tuple #[.agg #[.string r1, .string r2], .int .i64 r3]) ∧ Below w.heap.size w w' := by
  unfold rational_Div.f at h
  split at h
  · rename_i hf
    have := divV (bl a0_0, bl a0_1) (bl a1_0, bl a1_1) hf.1.t hf.2.t w hT
    try simp only [lb_bl] at this
    cases h
    exact this
  · cases h
def rational_Compare.f (a0_0 a0_1 : ByteArray) (a1_0 a1_1 : ByteArray) : Option (Int) := if fitB a0_0 a0_1 ∧ fitB a1_0 a1_1 then some (cmpQ (bl a0_0, bl a0_1) (bl a1_0, bl a1_1)) else none
theorem rational_Compare.calls (a0_0 a0_1 : ByteArray) (a1_0 a1_1 : ByteArray) (r : Int) (w : World) (hT : Laid w) (h : rational_Compare.f a0_0 a0_1 a1_0 a1_1 = some r) :
    Calls Tryz.prog 23 #[.agg #[.string a0_0, .string a0_1], .agg #[.string a1_0, .string a1_1]] w fun e w' => e = .returned (.int .i64 r) ∧ Below w.heap.size w w' := by
  unfold rational_Compare.f at h
  split at h
  · rename_i hf
    have := cmpV (bl a0_0, bl a0_1) (bl a1_0, bl a1_1) hf.1.t hf.2.t w hT
    try simp only [lb_bl] at this
    cases h
    exact this
  · cases h
def rational_Down.f (a0_0 a0_1 : ByteArray) (a1 : Int) : Option (ByteArray × ByteArray × Int) := if fitB a0_0 a0_1 then some (lb (downQ (bl a0_0, bl a0_1) a1).1.1, lb (downQ (bl a0_0, bl a0_1) a1).1.2, (downQ (bl a0_0, bl a0_1) a1).2) else none
theorem rational_Down.calls (a0_0 a0_1 : ByteArray) (a1 : Int) (r1 r2 : ByteArray) (r3 : Int) (w : World) (hT : Laid w) (h : rational_Down.f a0_0 a0_1 a1 = some (r1, r2, r3)) :
    Calls Tryz.prog 35 #[.agg #[.string a0_0, .string a0_1], .int .i64 a1] w fun e w' => e = .returned (.tuple #[.agg #[.string r1, .string r2], .int .i64 r3]) ∧ Below w.heap.size w w' := by
  unfold rational_Down.f at h
  split at h
  · rename_i hf
    have := downV (bl a0_0, bl a0_1) hf.t w hT a1
    try simp only [lb_bl] at this
    cases h
    exact this
  · cases h
def rational_Up.f (a0_0 a0_1 : ByteArray) (a1 : Int) : Option (ByteArray × ByteArray × Int) := if fitB a0_0 a0_1 then some (lb (upQ (bl a0_0, bl a0_1) a1).1.1, lb (upQ (bl a0_0, bl a0_1) a1).1.2, (upQ (bl a0_0, bl a0_1) a1).2) else none
theorem rational_Up.calls (a0_0 a0_1 : ByteArray) (a1 : Int) (r1 r2 : ByteArray) (r3 : Int) (w : World) (hT : Laid w) (h : rational_Up.f a0_0 a0_1 a1 = some (r1, r2, r3)) :
    Calls Tryz.prog 37 #[.agg #[.string a0_0, .string a0_1], .int .i64 a1] w fun e w' => e = .returned (.tuple #[.agg #[.string r1, .string r2], .int .i64 r3]) ∧ Below w.heap.size w w' := by
  unfold rational_Up.f at h
  split at h
  · rename_i hf
    have := upV (bl a0_0, bl a0_1) hf.t w hT a1
    try simp only [lb_bl] at this
    cases h
    exact this
  · cases h
def rational_Print.f (a0_0 a0_1 : ByteArray) : Option (ByteArray) := if fitB a0_0 a0_1 then some (lb (printS (bl a0_0, bl a0_1))) else none
theorem rational_Print.calls (a0_0 a0_1 : ByteArray) (r : ByteArray) (w : World) (hT : Laid w) (h : rational_Print.f a0_0 a0_1 = some r) :
    Calls Tryz.prog 14 #[.agg #[.string a0_0, .string a0_1]] w fun e w' => e = .returned (.string r) ∧ Below w.heap.size w w' := by
  unfold rational_Print.f at h
  split at h
  · rename_i hf
    have := printV (bl a0_0, bl a0_1) hf.t w hT
    try simp only [lb_bl] at this
    cases h
    exact this
  · cases h
def rational_Valid.f (a0_0 a0_1 : ByteArray) : Option (Bool) := if fitB a0_0 a0_1 then some (ratValid (bl a0_0, bl a0_1)) else none
theorem rational_Valid.calls (a0_0 a0_1 : ByteArray) (r : Bool) (w : World) (hT : Laid w) (h : rational_Valid.f a0_0 a0_1 = some r) :
    Calls Tryz.prog 17 #[.agg #[.string a0_0, .string a0_1]] w fun e w' => e = .returned (.bool r) ∧ Below w.heap.size w w' := by
  unfold rational_Valid.f at h
  split at h
  · rename_i hf
    have := validV (bl a0_0, bl a0_1) hf.t w hT
    try simp only [lb_bl] at this
    cases h
    exact this
  · cases h
def rational_Make.f (a0 : ByteArray) (a1 : ByteArray) : Option (ByteArray × ByteArray × Int) := if fitB a0 a1 then some (lb (makeS (bl a0) (bl a1)).1.1, lb (makeS (bl a0) (bl a1)).1.2, (makeS (bl a0) (bl a1)).2) else none
theorem rational_Make.calls (a0 : ByteArray) (a1 : ByteArray) (r1 r2 : ByteArray) (r3 : Int) (w : World) (hT : Laid w) (h : rational_Make.f a0 a1 = some (r1, r2, r3)) :
    Calls Tryz.prog 22 #[.string a0, .string a1] w fun e w' => e = .returned (.tuple #[.agg #[.string r1, .string r2], .int .i64 r3]) ∧ Below w.heap.size w w' := by
  unfold rational_Make.f at h
  split at h
  · rename_i hf
    have := makeV (bl a0) (bl a1) hf.t.1 hf.t.2 w hT
    try simp only [lb_bl] at this
    cases h
    exact this
  · cases h
def rational_Of.f (a0 : Int) (a1 : Int) : Option (ByteArray × ByteArray × Int) := if (-9223372036854775808 ≤ a0 ∧ a0 ≤ 9223372036854775807) ∧ (-9223372036854775808 ≤ a1 ∧ a1 ≤ 9223372036854775807) then some (lb (makeS (str a0) (str a1)).1.1, lb (makeS (str a0) (str a1)).1.2, (makeS (str a0) (str a1)).2) else none
theorem rational_Of.calls (a0 : Int) (a1 : Int) (r1 r2 : ByteArray) (r3 : Int) (w : World) (hT : Laid w) (h : rational_Of.f a0 a1 = some (r1, r2, r3)) :
    Calls Tryz.prog 41 #[.int .i64 a0, .int .i64 a1] w fun e w' => e = .returned (.tuple #[.agg #[.string r1, .string r2], .int .i64 r3]) ∧ Below w.heap.size w w' := by
  unfold rational_Of.f at h
  split at h
  · rename_i hf
    have := ofV a0 a1 hf.1 hf.2 w hT
    try simp only [lb_bl] at this
    cases h
    exact this
  · cases h
def rational_Parse.f (a0 : ByteArray) : Option (ByteArray × ByteArray × Int) := if a0.size ≤ 100000 then some (lb (parseS (bl a0)).1.1, lb (parseS (bl a0)).1.2, (parseS (bl a0)).2) else none
theorem rational_Parse.calls (a0 : ByteArray) (r1 r2 : ByteArray) (r3 : Int) (w : World) (hT : Laid w) (h : rational_Parse.f a0 = some (r1, r2, r3)) :
    Calls Tryz.prog 15 #[.string a0] w fun e w' => e = .returned (.tuple #[.agg #[.string r1, .string r2], .int .i64 r3]) ∧ Below w.heap.size w w' := by
  unfold rational_Parse.f at h
  split at h
  · rename_i hf
    have := parseV (bl a0) (by rw [bl_length]; exact hf) w hT
    try simp only [lb_bl] at this
    cases h
    exact this
  · cases h
end Go.Proofs.YtfdjdmkpcdbmkaaGreatDoor
