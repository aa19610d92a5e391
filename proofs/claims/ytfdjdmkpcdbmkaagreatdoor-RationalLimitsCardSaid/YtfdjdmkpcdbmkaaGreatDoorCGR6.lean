/-
  The fixed examples' values. No program in this text.
-/
import Derived.Test.YtfdjdmkpcdbmkaaGreatDoorCGR4
set_option linter.unusedVariables false
set_option linter.unusedSimpArgs false
namespace Go.Proofs.YtfdjdmkpcdbmkaaGreatDoor

theorem str_lit {l : List UInt8} {z : Int} (h : valid l = true) (hz : toZ l = z) : str z = l := by
  obtain ⟨y, _, rfl⟩ := of_valid h
  rw [toZ_str] at hz; rw [hz]
theorem rt_lit {q : Rat} {l r : List UInt8} (h1 : valid l = true) (z1 : toZ l = q.num) (h2 : valid r = true) (z2 : toZ r = (q.den : Int)) : rt q = (l, r) := by
  unfold rt
  rw [str_lit h1 z1, str_lit h2 z2]
theorem ok_lit {q : Rat} (h1 : q.num.natAbs < 10 ^ 100) (h2 : q.den < 10 ^ 100) : okR q := by
  have h : (10 : Nat) ^ 100 < lim := by decide +kernel
  exact ⟨Nat.lt_trans h1 h, Nat.lt_trans h2 h⟩
theorem outQ_yes {ok : Bool} {q : Rat} (h : ok = true) : outQ ok q = (rt q, 0) := by rw [h]; rfl
theorem lit1 : makeS (str 6) (str (-4)) = (([45, 51], [50]), 0) := by
  rw [makeS_rt (by decide +kernel) (by decide +kernel) (by decide), rt_lit (q := Rat.divInt 6 (-4)) (l := [45, 51]) (r := [50]) (by decide +kernel) (by decide +kernel) (by decide +kernel) (by decide +kernel)]
theorem lit2 : makeS (str 0) (str (-5)) = (([48], [49]), 0) := by
  rw [makeS_rt (by decide +kernel) (by decide +kernel) (by decide), rt_lit (q := Rat.divInt 0 (-5)) (l := [48]) (r := [49]) (by decide +kernel) (by decide +kernel) (by decide +kernel) (by decide +kernel)]
theorem lit3 : makeS (str 1) (str 0) = (none2, 40) := by
  unfold makeS; rw [toZ_str, toZ_str]; simp [errRational]
theorem half_lit : rt (1/2) = ([49], [50]) := rt_lit (by decide +kernel) (by decide +kernel) (by decide +kernel) (by decide +kernel)
theorem third_lit : rt (1/3) = ([49], [51]) := rt_lit (by decide +kernel) (by decide +kernel) (by decide +kernel) (by decide +kernel)
theorem mthird_lit : rt (-1/3) = ([45, 49], [51]) := rt_lit (by decide +kernel) (by decide +kernel) (by decide +kernel) (by decide +kernel)
theorem mquart_lit : rt (-1/4) = ([45, 49], [52]) := rt_lit (by decide +kernel) (by decide +kernel) (by decide +kernel) (by decide +kernel)
theorem m32_lit : rt (-3/2) = ([45, 51], [50]) := rt_lit (by decide +kernel) (by decide +kernel) (by decide +kernel) (by decide +kernel)
theorem ok_half : okR (1/2) := ok_lit (by decide +kernel) (by decide +kernel)
theorem ok_third : okR (1/3) := ok_lit (by decide +kernel) (by decide +kernel)
theorem ok_mthird : okR (-1/3) := ok_lit (by decide +kernel) (by decide +kernel)
theorem ok_mquart : okR (-1/4) := ok_lit (by decide +kernel) (by decide +kernel)
theorem ok_m32 : okR (-3/2) := ok_lit (by decide +kernel) (by decide +kernel)
theorem lit4 : addQ ([49], [50]) ([49], [51]) = (([53], [54]), 0) := by
  rw [← half_lit, ← third_lit, addQ_rt ok_half ok_third, outQ_yes (by decide +kernel), rt_lit (q := 1/2 + 1/3) (l := [53]) (r := [54]) (by decide +kernel) (by decide +kernel) (by decide +kernel) (by decide +kernel)]
theorem lit5 : divQ ([49], [50]) ([45, 49], [52]) = (([45, 50], [49]), 0) := by
  rw [← half_lit, ← mquart_lit, divQ_rt ok_half ok_mquart, outQ_yes (by decide +kernel), rt_lit (q := 1/2 / (-1/4)) (l := [45, 50]) (r := [49]) (by decide +kernel) (by decide +kernel) (by decide +kernel) (by decide +kernel)]
theorem lit6 : divQ ([49], [49]) ([48], [49]) = (none2, 40) := by
  rw [← rt_one, ← rt_zero, divQ_rt ok_one ok_zero]
  unfold outQ divFit; simp [errRational]
theorem lit7 : downQ ([45, 49], [51]) 2 = (([45, 49, 55], [53, 48]), 0) := by
  rw [← mthird_lit, downQ_rt ok_mthird, outQ_yes (by decide +kernel), rt_lit (q := downR (-1/3) 2) (l := [45, 49, 55]) (r := [53, 48]) (by decide +kernel) (by decide +kernel) (by decide +kernel) (by decide +kernel)]
theorem lit8 : upQ ([49], [51]) 2 = (([49, 55], [53, 48]), 0) := by
  rw [← third_lit, upQ_rt ok_third, outQ_yes (by decide +kernel), rt_lit (q := upR (1/3) 2) (l := [49, 55]) (r := [53, 48]) (by decide +kernel) (by decide +kernel) (by decide +kernel) (by decide +kernel)]
theorem print_m32 : printS ([45, 51], [50]) = [45, 51, 47, 50] := by
  rw [← m32_lit, printS_rt ok_m32, if_neg (by decide +kernel), str_lit (l := [45, 51]) (by decide +kernel) (by decide +kernel), str_lit (l := [50]) (by decide +kernel) (by decide +kernel)]; rfl
theorem lit9 : parseS [45, 51, 47, 50] = (([45, 51], [50]), 0) := by
  have := parse_print ok_m32
  rwa [m32_lit, print_m32] at this
theorem lit10 : parseS [54, 47, 52] = (none2, 40) := by
  have e : readT [54, 47, 52] = ([54], [52]) := by decide +kernel
  rw [parseS_valid, e, if_neg]; · rfl
  rintro ⟨h, _⟩
  obtain ⟨q, hq, ok⟩ := rat_of h
  have h1 := congrArg numZ hq
  have h2 := congrArg denZ hq
  rw [numZ_rt, show numZ ([54], [52]) = 6 by decide +kernel] at h1
  rw [denZ_rt, show denZ ([54], [52]) = 4 by decide +kernel] at h2
  have hr := q.reduced
  rw [← h1] at hr
  have : q.den = 4 := by omega
  rw [this] at hr
  exact absurd hr (by decide)
theorem lit12 : cmpQ ([49], [51]) ([51, 51, 51, 51, 51], [49, 48, 48, 48, 48, 48]) = 1 := by
  rw [← third_lit, ← rt_lit (q := 33333/100000) (l := [51, 51, 51, 51, 51]) (r := [49, 48, 48, 48, 48, 48]) (by decide +kernel) (by decide +kernel) (by decide +kernel) (by decide +kernel), cmpQ_rt ok_third (ok_lit (by decide +kernel) (by decide +kernel))]
  decide +kernel
theorem lit13 : ratValid ([45, 51], [50]) = true := by rw [← m32_lit]; exact ratValid_rt ok_m32
theorem lit14 : ratValid ([], []) = false := by decide +kernel
end Go.Proofs.YtfdjdmkpcdbmkaaGreatDoor
