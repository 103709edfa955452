/-
  DERIVED. GIVEN WITH THE SEED: THE CARDS: each row of YtehhegbkahnhgaaDoorRows.lean that lists a variable, with what it lists TIED to the program's text (the seventh form; the later family's looks); each row that meets fmt, with fmt's text TOLD by the authors' own Lean function (tested against real Go, not proved from fmt's source: count such statements apart). THE CARD IS WHAT COUNTS. Prove the row's statement (the work); the ties are given (YtehhegbkahnhgaaDoorTie.lean); close each card by the builder's one call (the guide's Derived/Test/ToyasCard.lean, 'card_holds'). Laid BY PROGRAM, IN A SANDBOX (cutbox-door.mjs). By AI agents, Wed Nov 11 2026. No macro, syntax, notation, axiom, sorry.
-/
import Derived.Test.YtehhegbkahnhgaaDoorRows
import GoSem.ClaimSeven
namespace Go.Proofs.YtehhegbkahnhgaaDoor
namespace Rows

/-- THE TIED CARD OF 'ulplaw.SeriesExp'. -/
def seriesExpCard : Claim7 := { stood := { row := seriesExpRow, standIns := [], harness := (true, "57e36f5384e9e7172a32afce8cee81d5f5aa570c1b8e99d0aaf73800b2079a88"), looks := false }, kinds := [], alts := [], laidByText := true, laidKinds := [.data], laidTests := true, laidLooks := .later }
def SeriesExpCardSaid : Prop := Claim7.holds Tryd.pinned (.plain (OpenSpec.ofChange seriesExpSpec)) seriesExpCard

/-- THE TIED CARD OF 'ulplaw.SeriesLog'. -/
def seriesLogCard : Claim7 := { stood := { row := seriesLogRow, standIns := [], harness := (true, "57e36f5384e9e7172a32afce8cee81d5f5aa570c1b8e99d0aaf73800b2079a88"), looks := false }, kinds := [], alts := [], laidByText := true, laidKinds := [.data], laidTests := true, laidLooks := .later }
def SeriesLogCardSaid : Prop := Claim7.holds Tryd.pinned (.plain (OpenSpec.ofChange seriesLogSpec)) seriesLogCard

/-- THE SECOND FORM's CARD OF 'ulplaw.SeriesExp'. -/
def seriesExpUptoCard : Claim7 := { stood := { row := seriesExpUptoRow, standIns := [], harness := (true, "57e36f5384e9e7172a32afce8cee81d5f5aa570c1b8e99d0aaf73800b2079a88"), looks := false }, kinds := [], alts := [], laidByText := true, laidKinds := [.data], laidTests := true, laidLooks := .later }
def SeriesExpUptoCardSaid : Prop := Claim7.holds Tryd.pinned (.plain (OpenSpec.upto seriesExpSpec)) seriesExpUptoCard

/-- THE SECOND FORM's CARD OF 'ulplaw.SeriesLog'. -/
def seriesLogUptoCard : Claim7 := { stood := { row := seriesLogUptoRow, standIns := [], harness := (true, "57e36f5384e9e7172a32afce8cee81d5f5aa570c1b8e99d0aaf73800b2079a88"), looks := false }, kinds := [], alts := [], laidByText := true, laidKinds := [.data], laidTests := true, laidLooks := .later }
def SeriesLogUptoCardSaid : Prop := Claim7.holds Tryd.pinned (.plain (OpenSpec.upto seriesLogSpec)) seriesLogUptoCard
end Rows
end Go.Proofs.YtehhegbkahnhgaaDoor
