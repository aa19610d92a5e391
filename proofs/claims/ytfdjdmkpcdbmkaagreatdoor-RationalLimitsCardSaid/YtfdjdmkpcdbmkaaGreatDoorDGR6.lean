/-
  Small words for proofs over printed functions: a step whose answer is known, a test whose answer is known.
-/
import Derived.Test.YtfdjdmkpcdbmkaaGreatDoorDWLast
import Derived.Test.YtfdjdmkpcdbmkaaGreatDoorDWNEv
import Derived.Test.YtfdjdmkpcdbmkaaGreatDoorDPZx3
import Derived.Test.YtfdjdmkpcdbmkaaGreatDoorCGR6
set_option linter.unusedVariables false
set_option linter.unusedSimpArgs false
namespace Go.Proofs.YtfdjdmkpcdbmkaaGreatDoor
open Go.RowKit Go.Lib Go.Proofs.YtfdjdmkpcdbmkaaGreatDoorW.PrintWords Go.Proofs.YtfdjdmkpcdbmkaaGreatDoorW.PrintLast

theorem ev_some {α β : Type} {g : Option α} {f : Nat → α → Option β} {a : α} {r : β} (h : g = some a) (k : Ev (fun n => f n a) r) : Ev (fun n => g.bind (f n)) r := by
  subst h; exact k
theorem ev_pos {α : Type} {c : Prop} [Decidable c] {f g : Nat → Option α} {r : α} (h : c) (k : Ev f r) : Ev (fun n => if c then f n else g n) r := by
  rw [show (fun n => if c then f n else g n) = f from funext fun n => if_pos h]; exact k
theorem ev_neg {α : Type} {c : Prop} [Decidable c] {f g : Nat → Option α} {r : α} (h : ¬ c) (k : Ev g r) : Ev (fun n => if c then f n else g n) r := by
  rw [show (fun n => if c then f n else g n) = g from funext fun n => if_neg h]; exact k
theorem ev_now {α : Type} {r s : α} (h : s = r) : Ev (fun _ => some s) r := by subst h; exact Ev.now _
end Go.Proofs.YtfdjdmkpcdbmkaaGreatDoor

/-
  The fixed examples of package newswirelaw04, as printed, come to 'true'.
-/
namespace Go.Proofs.YtfdjdmkpcdbmkaaGreatDoor
open Go.RowKit Go.Lib Go.Proofs.YtfdjdmkpcdbmkaaGreatDoor.PZ Go.Proofs.YtfdjdmkpcdbmkaaGreatDoorW.PrintWords Go.Proofs.YtfdjdmkpcdbmkaaGreatDoorW.PrintLast

theorem gOf1 : rational_Of.f 6 (-4) = some (⟨#[45, 51]⟩, ⟨#[50]⟩, 0) := by unfold rational_Of.f; rw [if_pos (by decide), lit1]; rfl
theorem gOf2 : rational_Of.f 0 (-5) = some (⟨#[48]⟩, ⟨#[49]⟩, 0) := by unfold rational_Of.f; rw [if_pos (by decide), lit2]; rfl
theorem gOf3 : rational_Of.f 1 0 = some (⟨#[]⟩, ⟨#[]⟩, 40) := by unfold rational_Of.f; rw [if_pos (by decide), lit3]; rfl
theorem gAdd4 : rational_Add.f ⟨#[49]⟩ ⟨#[50]⟩ ⟨#[49]⟩ ⟨#[51]⟩ = some (⟨#[53]⟩, ⟨#[54]⟩, 0) := by
  unfold rational_Add.f; rw [if_pos (by decide), show addQ (bl ⟨#[49]⟩, bl ⟨#[50]⟩) (bl ⟨#[49]⟩, bl ⟨#[51]⟩) = _ from lit4]; rfl
theorem gDiv5 : rational_Div.f ⟨#[49]⟩ ⟨#[50]⟩ ⟨#[45, 49]⟩ ⟨#[52]⟩ = some (⟨#[45, 50]⟩, ⟨#[49]⟩, 0) := by
  unfold rational_Div.f; rw [if_pos (by decide), show divQ (bl ⟨#[49]⟩, bl ⟨#[50]⟩) (bl ⟨#[45, 49]⟩, bl ⟨#[52]⟩) = _ from lit5]; rfl
theorem gDiv6 : rational_Div.f ⟨#[49]⟩ ⟨#[49]⟩ ⟨#[48]⟩ ⟨#[49]⟩ = some (⟨#[]⟩, ⟨#[]⟩, 40) := by
  unfold rational_Div.f; rw [if_pos (by decide), show divQ (bl ⟨#[49]⟩, bl ⟨#[49]⟩) (bl ⟨#[48]⟩, bl ⟨#[49]⟩) = _ from lit6]; rfl
theorem gDown7 : rational_Down.f ⟨#[45, 49]⟩ ⟨#[51]⟩ 2 = some (⟨#[45, 49, 55]⟩, ⟨#[53, 48]⟩, 0) := by
  unfold rational_Down.f; rw [if_pos (by decide), show downQ (bl ⟨#[45, 49]⟩, bl ⟨#[51]⟩) 2 = _ from lit7]; rfl
theorem gUp8 : rational_Up.f ⟨#[49]⟩ ⟨#[51]⟩ 2 = some (⟨#[49, 55]⟩, ⟨#[53, 48]⟩, 0) := by
  unfold rational_Up.f; rw [if_pos (by decide), show upQ (bl ⟨#[49]⟩, bl ⟨#[51]⟩) 2 = _ from lit8]; rfl
theorem gParse9 : rational_Parse.f ⟨#[45, 51, 47, 50]⟩ = some (⟨#[45, 51]⟩, ⟨#[50]⟩, 0) := by
  unfold rational_Parse.f; rw [if_pos (by decide), show parseS (bl ⟨#[45, 51, 47, 50]⟩) = _ from lit9]; rfl
theorem gParse10 : rational_Parse.f ⟨#[54, 47, 52]⟩ = some (⟨#[]⟩, ⟨#[]⟩, 40) := by
  unfold rational_Parse.f; rw [if_pos (by decide), show parseS (bl ⟨#[54, 47, 52]⟩) = _ from lit10]; rfl
theorem gPrint11 : rational_Print.f ⟨#[45, 51]⟩ ⟨#[50]⟩ = some ⟨#[45, 51, 47, 50]⟩ := by
  unfold rational_Print.f; rw [if_pos (by decide), show printS (bl ⟨#[45, 51]⟩, bl ⟨#[50]⟩) = _ from print_m32]; rfl
theorem gCompare12 : rational_Compare.f ⟨#[49]⟩ ⟨#[51]⟩ ⟨#[51, 51, 51, 51, 51]⟩ ⟨#[49, 48, 48, 48, 48, 48]⟩ = some 1 := by
  unfold rational_Compare.f; rw [if_pos (by decide), show cmpQ (bl ⟨#[49]⟩, bl ⟨#[51]⟩) (bl ⟨#[51, 51, 51, 51, 51]⟩, bl ⟨#[49, 48, 48, 48, 48, 48]⟩) = _ from lit12]
theorem gValid13 : rational_Valid.f ⟨#[45, 51]⟩ ⟨#[50]⟩ = some true := by
  unfold rational_Valid.f; rw [if_pos (by decide), show ratValid (bl ⟨#[45, 51]⟩, bl ⟨#[50]⟩) = _ from lit13]
theorem gValid14 : rational_Valid.f ⟨#[]⟩ ⟨#[]⟩ = some false := by
  unfold rational_Valid.f; rw [if_pos (by decide), show ratValid (bl ⟨#[]⟩, bl ⟨#[]⟩) = _ from lit14]
theorem isR (a b : ByteArray) : newswirelaw04_is.f a b = some (a, b) := rfl
set_option maxRecDepth 10000 in
theorem saneR_ev : Ev (fun k => newswirelaw04_sane.f k) true := by
  refine Ev.congr (fun k => by unfold newswirelaw04_sane.f; rfl) ?_
  refine ev_some gOf1 (ev_some gOf2 (ev_some gOf3 (ev_some (isR _ _) (ev_some (isR _ _) (ev_some gAdd4 (ev_some (isR _ _) (ev_some (isR _ _) (ev_some gDiv5 (ev_some (isR _ _) (ev_some gDiv6 (ev_some (isR _ _) (ev_some gDown7 (ev_some (isR _ _) (ev_some gUp8 (ev_some gParse9 (ev_some gParse10 ?_))))))))))))))))
  iterate 9 refine ev_pos (by decide) ?_
  refine Ev.step (fun k => by simp only [newswirelaw04_sane.j0]; rfl) ?_
  refine ev_pos (by decide) ?_
  iterate 6
    refine ev_some (isR _ _) ?_
    refine ev_pos (by simp [ByteArray.toList_eq]) ?_
  refine ev_pos (by simp [ByteArray.toList_eq]) ?_
  refine ev_some gPrint11 (ev_pos (by simp [ByteArray.toList_eq]) (ev_some (isR _ _) (ev_some (isR _ _) (ev_some gCompare12 (ev_pos (by decide) (ev_some gValid13 (ev_pos (by decide) (ev_some gValid14 ?_))))))))
  exact ev_now rfl
end Go.Proofs.YtfdjdmkpcdbmkaaGreatDoor
