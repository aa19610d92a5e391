/-
  sort.Search over a predicate that makes memory of its own.
-/
import Derived.Test.YtfdjdmkpcdbmkaaGreatDoorCTimesW
import Derived.Laws.EntriesVeiled
import Derived.Sort.CutIn
import Derived.Laws.AppendOwnNone
set_option linter.unusedVariables false
set_option linter.unusedSimpArgs false
namespace Go.Proofs.YtfdjdmkpcdbmkaaGreatDoor
open Go.RowKit Go.Shelf

set_option maxRecDepth 100000 in
set_option maxHeartbeats 2000000 in
theorem search_any (g : Nat) (lb : Array Value) (n : Nat) (p : Nat → Bool) (w : World) (eg : ∀ args w, (callFunc g args).run Tryz.prog w = .ok (.enter g args) w) (hn : n ≤ 100000)
    (hf : ∀ (W : World) (i : Nat), Below w.heap.size w W → i < n → Calls Tryz.prog g (#[.int .i64 (i : Int)] ++ lb) W fun e w' => e = .returned (.bool (p i)) ∧ Below W.heap.size W w')
    (k : Nat) (hk : k ≤ n) (hlo : ∀ t, t < k → p t = false) (hhi : ∀ t, k ≤ t → t < n → p t = true) :
    Calls Tryz.prog 110 #[.int .i64 n, .func (.func g) #[] lb] w fun e w' => e = .returned (.int .i64 k) ∧ Below w.heap.size w w' := by
  have HF := Lib.hid hf
  have HLO := Lib.hid hlo
  have HHI := Lib.hid hhi
  clear hf hlo hhi
  go_enter Tryz.func110, Tryz.ntmps110
  go_wp2
  go_loopw [5, 6] (fun s5 s6 wr => ∃ lo hi : Nat, s5 = .int .i64 (lo : Int) ∧ s6 = .int .i64 (hi : Int) ∧ lo ≤ k ∧ k ≤ hi ∧ hi ≤ n ∧ Below w.heap.size w wr) (fun s5 s6 _ => ((intOf s6) - (intOf s5)).toNat)
  case atStart => exact ⟨0, n, rfl, rfl, Nat.zero_le _, hk, Nat.le_refl _, Below.refl _ _⟩
  case round =>
    obtain ⟨lo, hi, rfl, rfl, h1, h2, h3, hB⟩ := hrel
    by_cases hlt : lo < hi
    · have hc := HF.out wr ((lo + hi) / 2) hB (by omega)
      have hsz := hB.size
      rw [show (((lo + hi) / 2 : Nat) : Int) = ((lo : Int) + (hi : Int)) / 2 by omega] at hc
      cases hp : p ((lo + hi) / 2) <;> rw [hp] at hc
      · have hm : (lo + hi) / 2 < k := by
          rcases Nat.lt_or_ge ((lo + hi) / 2) k with h | h
          · exact h
          · have := HHI.out _ h (by omega)
            rw [hp] at this; cases this
        have HC := Lib.hid hc
        clear hp hc
        go_wp2_with fail
        refine HC.out.mono ?_
        rintro e w' ⟨rfl, hb⟩
        have HB := Lib.hid hb
        clear hb
        go_wp2
        go_roundw
        case rel => exact ⟨(lo + hi) / 2 + 1, hi, by go_num, rfl, by omega, h2, h3, below_then hB (Nat.le_refl _) HB.out⟩
        case measure => simp [intOf]; omega
      · have hm : k ≤ (lo + hi) / 2 := by
          rcases Nat.lt_or_ge ((lo + hi) / 2) k with h | h
          · have := HLO.out _ h
            rw [hp] at this; cases this
          · exact h
        have HC := Lib.hid hc
        clear hp hc
        go_wp2_with fail
        refine HC.out.mono ?_
        rintro e w' ⟨rfl, hb⟩
        have HB := Lib.hid hb
        clear hb
        go_wp2
        go_roundw
        case rel => exact ⟨lo, (lo + hi) / 2, rfl, by go_num, h1, by omega, by omega, below_then hB (Nat.le_refl _) HB.out⟩
        case measure => simp [intOf]; omega
    · obtain rfl : lo = hi := by omega
      obtain rfl : lo = k := by omega
      go_wp2
      go_ret
      exact ⟨rfl, hB⟩

/-! ### over$1: 'by(d+1).compare(r) > 0' -/
theorem pow_len {a : Nat} {m : Int} (hm : 0 ≤ m) (hm2 : m ≤ 10000) : (groups (a * m.toNat)).length ≤ (groups a).length + 1 := by
  apply groups_length_le
  have h2 := lt_groups_length a
  rw [Nat.pow_succ]
  exact Nat.lt_of_le_of_lt (Nat.mul_le_mul_left a (by omega : m.toNat ≤ 10000)) (Nat.mul_lt_mul_of_pos_right h2 (by omega))

def tooMuch (m r i : Nat) : Bool := decide (r < m * (i + 1))
set_option maxRecDepth 100000 in
set_option maxHeartbeats 2000000 in
theorem over1_any (bf br m r : Nat) (v vr : Value) (i : Nat) (w : World) (hv : Row w v (groups m)) (hr : Row w vr (groups r)) (hm : (groups m).length ≤ 300) (hi : i < 9999)
    (c1 : w.cell? ⟨bf, 0, none⟩ = some (.func (.func 108) #[v] #[])) (c2 : w.cell? ⟨br, 0, none⟩ = some vr) (hbf : bf < w.heap.size) (hbr : br < w.heap.size) :
    Calls Tryz.prog 109 #[.int .i64 (i : Int), .pointer (some ⟨bf, 0, none⟩), .pointer (some ⟨br, 0, none⟩)] w fun e w' => e = .returned (.bool (tooMuch m r i)) ∧ Below w.heap.size w w' := by
  have hmx : Tryz.prog.follows .mixedOrders = true := by kernel_rfl
  have hw : IntKind.i64.wrap ((i : Int) + 1) = (i : Int) + 1 := IntWalk.i64_in _ (by omega)
  have HV := Lib.hid hv
  have HR := Lib.hid hr
  clear hv hr
  go_enter Tryz.func109, Tryz.ntmps109
  go_wp2
  go_region_with (first
    | (go_at_call 108; refine (by_any v m _ _ (by exact HV.out.drew) (by omega) (by omega) (by omega)).mono ?_; rintro e w1 ⟨v1, rfl, r1, b1⟩; have hc2 : w1.cell? ⟨br, 0, none⟩ = some vr := (b1.cell (p := ⟨br, 0, none⟩) (by exact hbr)).trans c2; have R1 := Lib.hid r1; have B1 := Lib.hid b1; clear r1 b1)
    | (go_at_call 80; refine (compare_any _ _ _ r _ R1.out (by exact HR.out.drew.below B1.out)).mono ?_; rintro e w2 ⟨rfl, b2⟩; have B2 := Lib.hid b2; clear b2))
  all_goals go_wp2
  all_goals
    have hfin : decide (0 < cmpZ ((m : Int) * ((i : Int) + 1)) (r : Int)) = tooMuch m r i := by
      unfold tooMuch
      rw [decide_eq_decide, cmpZ_iff_gt]
      have e : ((m * (i + 1) : Nat) : Int) = (m : Int) * ((i : Int) + 1) := by rw [Int.natCast_mul]; rfl
      omega
    go_ret
    exact ⟨by rw [← hfin]; rfl, below_then (below_of_drew B1.out) (Nat.le_refl _) B2.out⟩
end Go.Proofs.YtfdjdmkpcdbmkaaGreatDoor

/-
  integer.go: 'over': quotient and remainder.
-/
namespace Go.Proofs.YtfdjdmkpcdbmkaaGreatDoor
open Go.RowKit Go.Shelf


theorem own_row_any {β : Type} (base e size n : Nat) (v : Value) (f : β → List Value) : Own (fun (s : β) W => W.ownsRow base e size v n (f s)) := by
  intro s X Y row h hg hrow
  refine h.kept hg ?_
  rcases h.2 with ⟨rfl, _⟩ | ⟨g, cap, cur, rfl, _, hgb, _⟩
  · exact .inl rfl
  · refine .inr fun e' => ?_
    obtain ⟨o, ho, hc⟩ := hrow g (by simpa [Value.ownBlock] using e'.symm)
    rw [hgb] at ho; cases ho; cases hc
theorem madeCells_list (n : Nat) : (madeCells #[Value.int .i64 0] n).toList = (List.replicate n (0 : Int)).map (Value.int .i64) := by
  apply List.ext_getElem
  · simp [size_madeCells]
  · intro i h1 h2
    simp [madeCells, Nat.mod_one]

/-! ### Plain: the state of the division -/
def divT (m : Nat) (xs : List Int) (pre : List Nat) : List Int × Nat := (pre.map (dn xs)).foldl (divStep m) (List.replicate xs.length 0, 0)
theorem divT_snoc (m : Nat) (xs : List Int) (pre : List Nat) (x : Nat) : divT m xs (pre ++ [x]) = divStep m (divT m xs pre) (dn xs x) := by
  unfold divT; rw [List.map_append, List.foldl_append]; rfl
theorem divT_lt (m : Nat) (hm : 0 < m) (xs : List Int) (pre : List Nat) : (divT m xs pre).2 < m := by
  cases hp : pre with
  | nil => exact hm
  | cons a t =>
    obtain ⟨b, x, rfl⟩ : ∃ b x, pre = b ++ [x] := ⟨pre.dropLast, pre.getLast (by rw [hp]; simp), (List.dropLast_concat_getLast (by rw [hp]; simp)).symm⟩
    rw [← hp, divT_snoc]
    exact Nat.mod_lt _ hm
theorem divT_len (m : Nat) (xs : List Int) (pre : List Nat) : (divT m xs pre).1.length = xs.length := by
  unfold divT
  have h : ∀ (l : List (Nat × Int)) (s : List Int × Nat), (l.foldl (divStep m) s).1.length = s.1.length := by
    intro l
    induction l with
    | nil => intro s; rfl
    | cons a l ih => intro s; rw [List.foldl_cons, ih]; simp [divStep]
  rw [h]; simp
theorem divT_all (a m : Nat) (hm : 0 < m) : ∃ q, divT m (groups a) (List.range (groups a).length) = (q, a % m) ∧ Dig q ∧ val q = (a / m : Nat) := by
  obtain ⟨q, h1, h2, _, h4⟩ := div_groups a m hm
  refine ⟨q, ?_, h2, h4⟩
  unfold divT; rw [down_eq, h1]

/-! ### What is known in a round -/
theorem KB.setCell {n₀ Bs n k : Nat} (W : World) (v : Value) (h1 : n₀ ≤ n) (h2 : Bs ≠ n) : KB n₀ Bs W (W.setCell ⟨n, k, none⟩ v) :=
  ⟨(Below.refl _ _).setCell (p := ⟨n, k, none⟩) h1 _, World.cell?_of_block (Below.heap_setCell W ⟨n, k, none⟩ v Bs h2)⟩
theorem grownBy_setCell_at (W : World) (b k : Nat) (v : Value) : W.grownBy (W.setCell ⟨b, k, none⟩ v) (some b) :=
  ⟨rfl, rfl, rfl, (KeepsWalks.setCell W _ v).size, fun j _ hk => Below.heap_setCell _ _ _ j (fun e => hk (by rw [e]))⟩
/-- A row lives on where another block is stored into. -/
theorem Row.set_other {W : World} {v v' : Value} {xs : List Int} {n k : Nat} (h : Row W v xs) (hn : ∀ b off l c, v = .slice (some ⟨b, off, none⟩) l c → b ≠ n) : Row (W.setCell ⟨n, k, none⟩ v') v xs := by
  refine ⟨h.1, ?_⟩
  rcases h.2 with h | ⟨b, off, cap, e, h1, h2, h3, h4⟩
  · exact .inl h
  · exact .inr ⟨b, off, cap, e, h1, h2, Nat.lt_of_lt_of_le h3 (KeepsOthers.setCell W _ _).size, fun j hj => (World.cell?_of_block (Below.heap_setCell W ⟨n, k, none⟩ v' b (hn _ _ _ _ e))).trans (h4 j hj)⟩

structure OverI (w W : World) (vm qv : Value) (len : Nat) (Q : List Int) (rv : Value) (r : Nat) : Prop where
  bm : Boxed W w.heap.size 98 vm
  bq : Boxed W (w.heap.size + 1) 98 qv
  own : W.ownsRow w.heap.size 3 1 qv len (Q.map (Value.int .i64))
  br : Boxed W (w.heap.size + 1 + 1) 98 rv
  row : Row W rv (groups r)
  sz : w.heap.size + 5 ≤ W.heap.size
  below : Below w.heap.size w W
theorem OverI.new {w W W' : World} {vm qv : Value} {len : Nat} {Q : List Int} {rv : Value} {r : Nat} (h : OverI w W vm qv len Q rv r) (hb : Below W.heap.size W W') : OverI w W' vm qv len Q rv r :=
  ⟨boxed_below h.bm hb h.bm.lt, boxed_below h.bq hb h.bq.lt, owns_below h.own hb, boxed_below h.br hb h.br.lt, h.row.below hb, Nat.le_trans h.sz hb.size, h.below.trans (hb.mono h.below.size)⟩
theorem OverI.calm {w W W' : World} {row : Option Nat} {vm qv : Value} {len : Nat} {Q : List Int} {rv : Value} {r : Nat} (h : OverI w W vm qv len Q rv r) (hg : W.grownBy W' row) (hr : ∀ k, row = some k → w.heap.size ≤ k ∧ ∃ o : Obj, W.heap[k]? = some o ∧ o.isCells = false) : OverI w W' vm qv len Q rv r :=
  have hr' : ∀ k, row = some k → ∃ o : Obj, W.heap[k]? = some o ∧ o.isCells = false := fun k e => (hr k e).2
  ⟨boxed_calm h.bm hg hr', boxed_calm h.bq hg hr', own_row_any (β := Unit) _ _ _ _ _ (fun _ => Q.map (Value.int .i64)) () W W' row h.own hg hr', boxed_calm h.br hg hr', h.row.calm hg hr', Nat.le_trans h.sz hg.size, h.below.grown hg h.below.size (fun k e => (hr k e).1)⟩
theorem OverI.setR {w W : World} {vm : Value} {len : Nat} {Q : List Int} {rv rv' : Value} {r r' : Nat} (h : OverI w W vm (.slice (some ⟨w.heap.size + 1 + 1 + 1, 0, none⟩) len len) len Q rv r) (hi : ∀ i, rv ≠ .int .i64 i) (hr : Row W rv' (groups r')) :
    OverI w (W.setCell ⟨w.heap.size + 1 + 1, 0, none⟩ rv') vm (.slice (some ⟨w.heap.size + 1 + 1 + 1, 0, none⟩) len len) len Q rv' r' :=
  ⟨(Below.heap_setCell W ⟨w.heap.size + 1 + 1, 0, none⟩ rv' _ (by show w.heap.size ≠ w.heap.size + 1 + 1; omega)).trans h.bm, (Below.heap_setCell W ⟨w.heap.size + 1 + 1, 0, none⟩ rv' _ (by show w.heap.size + 1 ≠ w.heap.size + 1 + 1; omega)).trans h.bq,
    h.own.kept (grownBy_setCell' W (w.heap.size + 1 + 1) rv') (.inr (by simp [Value.ownBlock])),
    h.br.set rv', hr.set_box h.br hi, Nat.le_trans h.sz (KeepsOthers.setCell W _ _).size, h.below.setCell (p := ⟨w.heap.size + 1 + 1, 0, none⟩) (by show w.heap.size ≤ w.heap.size + 1 + 1; omega) _⟩
theorem OverI.setQ {w W : World} {vm : Value} {len : Nat} {Q : List Int} {rv : Value} {r : Nat} (h : OverI w W vm (.slice (some ⟨w.heap.size + 1 + 1 + 1, 0, none⟩) len len) len Q rv r) (hf : ∀ b off l c, rv = .slice (some ⟨b, off, none⟩) l c → b ≠ w.heap.size + 1 + 1 + 1) (p : Nat) (y : Int) :
    OverI w (W.setCell ⟨w.heap.size + 1 + 1 + 1, p, none⟩ (.int .i64 y)) vm (.slice (some ⟨w.heap.size + 1 + 1 + 1, 0, none⟩) len len) len (Q.set p y) rv r := by
  have hs := (h.own.stored p (.int .i64 y)).1
  rw [show (Q.map (Value.int .i64)).set p (.int .i64 y) = (Q.set p y).map (Value.int .i64) by rw [List.map_set]] at hs
  exact ⟨(Below.heap_setCell W ⟨w.heap.size + 1 + 1 + 1, p, none⟩ _ _ (by show w.heap.size ≠ w.heap.size + 1 + 1 + 1; omega)).trans h.bm, (Below.heap_setCell W ⟨w.heap.size + 1 + 1 + 1, p, none⟩ _ _ (by show w.heap.size + 1 ≠ w.heap.size + 1 + 1 + 1; omega)).trans h.bq, hs,
    (Below.heap_setCell W ⟨w.heap.size + 1 + 1 + 1, p, none⟩ _ _ (by show w.heap.size + 1 + 1 ≠ w.heap.size + 1 + 1 + 1; omega)).trans h.br, h.row.set_other hf, Nat.le_trans h.sz (KeepsOthers.setCell W _ _).size, h.below.setCell (p := ⟨w.heap.size + 1 + 1 + 1, p, none⟩) (by show w.heap.size ≤ w.heap.size + 1 + 1 + 1; omega) _⟩

/-- Between two statements of a round that began in W. -/
structure Mid (w W wc : World) (vm : Value) (len : Nat) (Q : List Int) (rv : Value) (r : Nat) : Prop where
  inv : OverI w wc vm (.slice (some ⟨w.heap.size + 1 + 1 + 1, 0, none⟩) len len) len Q rv r
  keeps : KeepsOthers W wc
  kb : KB w.heap.size (w.heap.size + 1 + 1 + 1 + 1) W wc
theorem Mid.new {w W wc w' : World} {vm : Value} {len : Nat} {Q : List Int} {rv : Value} {r : Nat} (h : Mid w W wc vm len Q rv r) (hb : Below wc.heap.size wc w') : Mid w W w' vm len Q rv r :=
  ⟨h.inv.new hb, h.keeps.trans (KeepsOthers.of_below hb), h.kb.trans (KB.of_below hb h.inv.below.size (by have := h.inv.sz; omega))⟩
theorem Mid.setR {w W wc : World} {vm : Value} {len : Nat} {Q : List Int} {rv rv' : Value} {r r' : Nat} (h : Mid w W wc vm len Q rv r) (hi : ∀ i, rv ≠ .int .i64 i) (hr : Row wc rv' (groups r')) : Mid w W (wc.setCell ⟨w.heap.size + 1 + 1, 0, none⟩ rv') vm len Q rv' r' :=
  ⟨h.inv.setR hi hr, h.keeps.trans (KeepsOthers.setCell _ _ _), h.kb.trans (KB.setCell _ _ (by omega) (by omega))⟩
theorem Mid.setQ {w W wc : World} {vm : Value} {len : Nat} {Q : List Int} {rv : Value} {r : Nat} (h : Mid w W wc vm len Q rv r) (hf : ∀ b off l c, rv = .slice (some ⟨b, off, none⟩) l c → b ≠ w.heap.size + 1 + 1 + 1) (p : Nat) (y : Int) :
    Mid w W (wc.setCell ⟨w.heap.size + 1 + 1 + 1, p, none⟩ (.int .i64 y)) vm len (Q.set p y) rv r :=
  ⟨h.inv.setQ hf p y, h.keeps.trans (KeepsOthers.setCell _ _ _), h.kb.trans (KB.setCell _ _ (by omega) (by omega))⟩
def Far (w : World) (rv : Value) : Prop := ∀ b off l c, rv = .slice (some ⟨b, off, none⟩) l c → b ≠ w.heap.size + 1 + 1 + 1


theorem wpListIn_append_own_none {F : Fence} {m : Nat} {P : Program} {w : World} {ops : Array Oper} {rest : List Oper} {o : Oper} {a : Act} {Q : Exit → Act → World → Prop} (hgd : o.guard = none) (s x : Operand) (t : TypeId)
    (ho : o.op = Op.call { callee := Callee.builtin Builtin.append, args := #[s, x], argTypes := #[t, t] })
    (base : Nat) (e : TypeId) (i : TypeInfo) (size : Nat) (ht : P.underlying t = some (.slice e)) (hi : P.info? e = some i)
    (v : Value) (n : Nat) (xs : List Value) (hs : a.eval s = v) (hown : w.ownsRow base e size v n xs) (hx : a.eval x = .slice none 0 0)
    (h : wpListIn F m P ops Q rest (a.put o.dst v) w) : wpListIn F m P ops Q (o :: rest) a w := by
  refine wpListIn_plain hgd fun K hK => ?_
  have hrun := run_append_owned_none (P := P) (w := w) base t o.type e i size ht hi v n xs hown
  unfold Oper.wpIn
  refine ⟨?_, ?_⟩
  · simp [Oper.about, ho, resolve, Target.leads, Sem.run_pure]
  · rw [Oper.semAt_plain F _ _ (by rw [ho]; intro c hc'; cases hc')]
    simp [execOp, ho, resolve, invoke, builtin, hs, hx, hrun, Result.andThen]
    exact hK _ _ h


/-- What a round leaves. -/
theorem over_round {n₀ m len : Nat} {xs : List Int} {w W W' : World} {vm rv : Value} {pre : List Nat} {x : Nat} {Q : List Int} {r : Nat} {act : Act} (hs : divT m xs (pre ++ [x]) = (Q, r)) (h : Mid w W W' vm len Q rv r) :
    ownPostG n₀ (KB w.heap.size (w.heap.size + 1 + 1 + 1 + 1)) (fun pre W => ∃ rv, OverI w W vm (.slice (some ⟨w.heap.size + 1 + 1 + 1, 0, none⟩) len len) len (divT m xs pre).1 rv (divT m xs pre).2) (fun _ _ _ => False) (pre ++ [x]) W Exit.normal act W' :=
  ⟨h.keeps.from _, h.kb, ⟨_, by rw [hs]; exact h.inv⟩⟩

/-! ### The end -/
structure OverF (w Wf : World) (vq vr : Value) (q r : Nat) : Prop where
  bq : Boxed Wf (w.heap.size + 1) 98 vq
  br : Boxed Wf (w.heap.size + 1 + 1) 98 vr
  rq : Row Wf vq (groups q)
  rr : Row Wf vr (groups r)
  below : Below w.heap.size w Wf
theorem OverF.of1 {w W : World} {vm qv rv vq : Value} {len : Nat} {Q : List Int} {q r : Nat} (h : OverI w W vm qv len Q rv r) (hq : ∀ i, qv ≠ .int .i64 i) (hr : ∀ i, rv ≠ .int .i64 i) (hv : Row W vq (groups q)) :
    OverF w ((W.setCell ⟨w.heap.size + 1, 0, none⟩ vq).setCell ⟨w.heap.size + 1 + 1, 0, none⟩ rv) vq rv q r := by
  have b1 : Boxed (W.setCell ⟨w.heap.size + 1, 0, none⟩ vq) (w.heap.size + 1 + 1) 98 rv := (Below.heap_setCell W ⟨w.heap.size + 1, 0, none⟩ vq _ (by show w.heap.size + 1 + 1 ≠ w.heap.size + 1; omega)).trans h.br
  refine ⟨(Below.heap_setCell _ ⟨w.heap.size + 1 + 1, 0, none⟩ rv _ (by show w.heap.size + 1 ≠ w.heap.size + 1 + 1; omega)).trans (h.bq.set vq), b1.set rv, (hv.set_box h.bq hq).set_box b1 hr, (h.row.set_box h.bq hq).set_box b1 hr, ?_⟩
  exact (h.below.setCell (p := ⟨w.heap.size + 1, 0, none⟩) (by show w.heap.size ≤ w.heap.size + 1; omega) _).setCell (p := ⟨w.heap.size + 1 + 1, 0, none⟩) (by show w.heap.size ≤ w.heap.size + 1 + 1; omega) _
theorem OverF.of2 {w W : World} {vm qv rv vq : Value} {len : Nat} {Q : List Int} {q r : Nat} (h : OverI w W vm qv len Q rv r) (hq : ∀ i, qv ≠ .int .i64 i) (hr : ∀ i, rv ≠ .int .i64 i) (hv : Row W vq (groups q)) :
    OverF w ((W.setCell ⟨w.heap.size + 1 + 1, 0, none⟩ rv).setCell ⟨w.heap.size + 1, 0, none⟩ vq) vq rv q r := by
  have b1 : Boxed (W.setCell ⟨w.heap.size + 1 + 1, 0, none⟩ rv) (w.heap.size + 1) 98 qv := (Below.heap_setCell W ⟨w.heap.size + 1 + 1, 0, none⟩ rv _ (by show w.heap.size + 1 ≠ w.heap.size + 1 + 1; omega)).trans h.bq
  refine ⟨b1.set vq, (Below.heap_setCell _ ⟨w.heap.size + 1, 0, none⟩ vq _ (by show w.heap.size + 1 + 1 ≠ w.heap.size + 1; omega)).trans (h.br.set rv), (hv.set_box h.br hr).set_box b1 hq, (h.row.set_box h.br hr).set_box b1 hq, ?_⟩
  exact (h.below.setCell (p := ⟨w.heap.size + 1 + 1, 0, none⟩) (by show w.heap.size ≤ w.heap.size + 1 + 1; omega) _).setCell (p := ⟨w.heap.size + 1, 0, none⟩) (by show w.heap.size ≤ w.heap.size + 1; omega) _
theorem OverF.drew {w W : World} {vq vr : Value} {q r : Nat} (h : OverF w W vq vr q r) : OverF w W.drew vq vr q r := ⟨h.bq, h.br, h.rq.drew, h.rr.drew, h.below.drew⟩
theorem OverF.calm {w W W' : World} {row : Option Nat} {vq vr : Value} {q r : Nat} (h : OverF w W vq vr q r) (hg : W.grownBy W' row) (hr : ∀ k, row = some k → w.heap.size ≤ k ∧ ∃ o : Obj, W.heap[k]? = some o ∧ o.isCells = false) : OverF w W' vq vr q r :=
  have hr' : ∀ k, row = some k → ∃ o : Obj, W.heap[k]? = some o ∧ o.isCells = false := fun k e => (hr k e).2
  ⟨boxed_calm h.bq hg hr', boxed_calm h.br hg hr', h.rq.calm hg hr', h.rr.calm hg hr', h.below.grown hg h.below.size (fun k e => (hr k e).1)⟩
theorem heap_two {W : World} {b1 b2 D : Nat} {o : Obj} {v1 v2 : Value} (h : W.heap[D]? = some o) (h1 : D ≠ b1) (h2 : D ≠ b2) : ((W.setCell ⟨b1, 0, none⟩ v1).setCell ⟨b2, 0, none⟩ v2).drew.heap[D]? = some o :=
  (Below.heap_setCell _ ⟨b2, 0, none⟩ v2 D h2).trans ((Below.heap_setCell W ⟨b1, 0, none⟩ v1 D h1).trans h)
end Go.Proofs.YtfdjdmkpcdbmkaaGreatDoor
