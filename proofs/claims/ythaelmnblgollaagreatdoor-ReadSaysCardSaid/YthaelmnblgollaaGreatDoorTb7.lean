/- The end of a door law's proof: the library's seven variables as the row lists them. -/
import Derived.Test.YthaelmnblgollaaGreatDoorTb
import Derived.Test.YthaelmnblgollaaGreatDoorTx2
import Derived.Stop.LaidErr
import Derived.Lay
set_option linter.unusedVariables false
set_option linter.unusedSimpArgs false
namespace Go.Proofs.YthaelmnblgollaaGreatDoor
open Go Go.RowKit Go.Ulp Go.ChangeShapes Go.WideShapes Go.ChangeAt
def laidV : List (String × DataW Unit) := [("math/bits.deBruijn32tab", Rows.laid_math_bits_deBruijn32tab), ("math/bits.deBruijn64tab", Rows.laid_math_bits_deBruijn64tab), ("internal/strconv.uint64pow10", Rows.laid_internal_strconv_uint64pow10), ("unicode/utf8.acceptRanges", Rows.laid_unicode_utf8_acceptRanges), ("strconv.ErrRange", Rows.laid_strconv_ErrRange), ("strconv.ErrSyntax", Rows.laid_strconv_ErrSyntax), ("unicode/utf8.first", Rows.laid_unicode_utf8_first)]
theorem gTenV : Tryz.prog.globalNamed "internal/strconv.uint64pow10" = some 6 := by kernel_rfl
theorem laid32V_eq : (("math/bits.deBruijn32tab", Rows.laid_math_bits_deBruijn32tab) : String × DataW Unit) = ("math/bits.deBruijn32tab", Lib.tabData .u8 tabZ) := by rfl
theorem laid10V_eq : (("internal/strconv.uint64pow10", Rows.laid_internal_strconv_uint64pow10) : String × DataW Unit) = ("internal/strconv.uint64pow10", Lib.tabData .u64 Lib.pow10Tab) := by rfl
theorem plainV {W : World} (h : laidMetH Tryz.prog laidV W) : laidMet Tryz.prog laidV W := by
  rwa [MakeChecks.laidMetH_plain _ _ _ (by kernel_rfl)] at h
theorem tabV {W : World} (h : laidMetH Tryz.prog laidV W) : Tab 0 W := by
  have h := plainV h
  unfold laidV at h
  rw [laid32V_eq] at h
  have h1 := Lib.tabIs_of_head gTab (by kernel_rfl) Tryz.underlying261 Tryz.underlying5 (by kernel_rfl) (by kernel_rfl) h
  intro j hj
  have h2 := h1.cell gTab j (by unfold tabZ; rw [List.length_map]; exact hj)
  rw [h2]
  unfold tabZ
  congr 2
  rw [List.getD_eq_getElem?_getD, List.getElem?_map, List.getElem?_eq_getElem hj, List.getD_eq_getElem?_getD, List.getElem?_eq_getElem hj]; rfl
theorem tenV {W : World} (h : laidMetH Tryz.prog laidV W) : Tab10 W := by
  have h := laidMet.tail (laidMet.tail (plainV h))
  rw [laid10V_eq] at h
  exact Lib.tabIs_of_head gTenV (by kernel_rfl) Tryz.underlying309 Tryz.underlying23 (by kernel_rfl) (by kernel_rfl) h
theorem doorV_met (os : Os) (args : Array Value) : laidMetH Tryz.prog laidV ((World.laidAll Tryz.prog os laidV).forCall (fun _ _ => 0) ⟨#[], args, []⟩).memory := by
  rw [MakeChecks.laidMetH_plain _ _ _ (by kernel_rfl)]; exact laidMet_laidAll _ (by kernel_rfl) (by kernel_rfl)
theorem shapedV (os : Os) : (World.laidAll Tryz.prog os laidV).Shaped Tryz.prog := World.shaped_of_ZipB (by kernel_rfl) (by kernel_rfl)
end Go.Proofs.YthaelmnblgollaaGreatDoor
