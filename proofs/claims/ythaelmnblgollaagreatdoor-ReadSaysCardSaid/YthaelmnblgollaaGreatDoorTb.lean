/- The end of a door law's proof: the library's table as the row lists it. -/
import Derived.Test.YthaelmnblgollaaGreatDoorRows
import Derived.Test.YthaelmnblgollaaGreatDoorDn2
import Derived.Test.YthaelmnblgollaaGreatDoorFrame2
import Derived.LaidMore
import Derived.Lib.LaidTab
import Derived.LaidLaws
import Derived.SevenTiedAt
import Derived.Stop.Joined
set_option linter.unusedVariables false
set_option linter.unusedSimpArgs false
namespace Go.Proofs.YthaelmnblgollaaGreatDoor
open Go Go.RowKit Go.Ulp Go.ChangeShapes Go.WideShapes Go.ChangeAt
def laidT : List (String × DataW Unit) := [("math/bits.deBruijn32tab", Rows.laid_math_bits_deBruijn32tab)]
theorem gTab : Tryz.prog.globalNamed "math/bits.deBruijn32tab" = some 0 := by kernel_rfl
def tabZ : List Int := Lib.deBruijn32tab.map fun n : Nat => (n : Int)
theorem laidT_eq : laidT = [("math/bits.deBruijn32tab", Lib.tabData .u8 tabZ)] := by rfl
theorem tab_of_laid {W : World} (h : laidMetH Tryz.prog laidT W) : Tab 0 W := by
  rw [MakeChecks.laidMetH_plain _ _ _ (by kernel_rfl), laidT_eq] at h
  have h1 := Lib.tabIs_of_head gTab (by kernel_rfl) Tryz.underlying261 Tryz.underlying5 (by kernel_rfl) (by kernel_rfl) h
  intro j hj
  have h2 := h1.cell gTab j (by unfold tabZ; rw [List.length_map]; exact hj)
  rw [h2]
  unfold tabZ
  congr 2
  rw [List.getD_eq_getElem?_getD, List.getElem?_map, List.getElem?_eq_getElem hj, List.getD_eq_getElem?_getD, List.getElem?_eq_getElem hj]; rfl
theorem door_met (os : Os) (args : Array Value) : laidMetH Tryz.prog laidT ((World.doorLaid Tryz.prog 400 os).forCall (fun _ _ => 0) ⟨#[], args, []⟩).memory :=
  laidMetH_of_parts3 (fuel := 8) (laidMet_of_run' 8 (by kernel_rfl) (by kernel_rfl)) (by kernel_rfl) (by kernel_rfl)
end Go.Proofs.YthaelmnblgollaaGreatDoor
