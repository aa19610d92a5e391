/-
  From what a row lists to what the walks ask: the table of powers of ten, strconv's two errors.
-/
import Derived.Test.YtfdjdmkpcdbmkaaGreatDoorRows
import Derived.Test.YtfdjdmkpcdbmkaaGreatDoorCLaid
import Derived.LaidLaws
import Derived.Stop.LaidErr
import Derived.Lib.LaidTab
import Derived.ProofKit
set_option linter.unusedVariables false
set_option linter.unusedSimpArgs false
namespace Go.Proofs.YtfdjdmkpcdbmkaaGreatDoor
open Go.RowKit Go.ChangeShapes

theorem gPow : Tryz.prog.globalNamed "internal/strconv.uint64pow10" = some 1 := by kernel_rfl
theorem gPowType : (Tryz.prog.globals[1]?).map (·.type) = some 169 := by kernel_rfl
theorem powCells : Tryz.prog.cellsOf 169 = 20 := by kernel_rfl
theorem u64Cells : Tryz.prog.cellsOf 146 = 1 := by kernel_rfl
theorem gSyn : Tryz.prog.globalNamed "strconv.ErrSyntax" = some 4 := by kernel_rfl
theorem gSynType : (Tryz.prog.globals[4]?).map (·.type) = some 94 := by kernel_rfl
theorem gRng : Tryz.prog.globalNamed "strconv.ErrRange" = some 5 := by kernel_rfl
theorem gRngType : (Tryz.prog.globals[5]?).map (·.type) = some 94 := by kernel_rfl
theorem esStar : "*" ++ "errors.errorString" = "*errors.errorString" := by decide
theorem esRow (u : TypeId) (h : Tryz.prog.typeName? 3 u = some "*errors.errorString") : u = 184 :=
  typeName_ptr_named (nm := "errors.errorString") (by rw [esStar]; kernel_rfl) (by kernel_rfl) (by decide) u (by rw [esStar]; exact h)
theorem esCells : Tryz.prog.cellsOf 186 = 1 := by kernel_rfl
theorem strCells1 : Tryz.prog.cellsOf 9 = 1 := by kernel_rfl
theorem powTab : (Rows.laid_internal_strconv_uint64pow10 : DataW Unit) = Lib.tabData .u64 Lib.pow10Tab := rfl

/-- What every row of this seat lists. -/
def listed : List (String × DataW Unit) := [("math/bits.deBruijn32tab", Rows.laid_math_bits_deBruijn32tab), ("math/bits.deBruijn64tab", Rows.laid_math_bits_deBruijn64tab), ("internal/strconv.uint64pow10", Rows.laid_internal_strconv_uint64pow10), ("unicode/utf8.acceptRanges", Rows.laid_unicode_utf8_acceptRanges), ("strconv.ErrRange", Rows.laid_strconv_ErrRange), ("strconv.ErrSyntax", Rows.laid_strconv_ErrSyntax), ("unicode/utf8.first", Rows.laid_unicode_utf8_first)]
theorem laid_of {W : World} (h : laidMet Tryz.prog listed W) : Laid W := by
  have h2 := h.tail.tail
  have h4 := h2.tail.tail
  have h5 := h4.tail
  refine ⟨?_, ?_, ?_⟩
  · unfold Tab
    rw [powTab] at h2
    exact Lib.tabIs_of_head gPow gPowType Tryz.underlying169 Tryz.underlying146 u64Cells powCells h2
  · obtain ⟨a, s, hv, _⟩ := laid_sentinel h5 gSyn gSynType Tryz.underlying94 esRow Tryz.underlying184 Tryz.underlying186 rfl rfl Tryz.underlying9 esCells strCells1
    exact ⟨_, _, hv⟩
  · obtain ⟨a, s, hv, _⟩ := laid_sentinel h4 gRng gRngType Tryz.underlying94 esRow Tryz.underlying184 Tryz.underlying186 rfl rfl Tryz.underlying9 esCells strCells1
    exact ⟨_, _, hv⟩
end Go.Proofs.YtfdjdmkpcdbmkaaGreatDoor
