/-
  DERIVED. GIVEN WITH THE SEED: THE CARDS: each row of YtehhegbkahnhgaaGreatDoorRows.lean that lists a variable, with what it lists TIED to the program's text (the seventh form; the later family's looks); each row that meets fmt, with fmt's text TOLD by the authors' own Lean function (tested against real Go, not proved from fmt's source: count such statements apart). THE CARD IS WHAT COUNTS. Prove the row's statement (the work); the ties are given (YtehhegbkahnhgaaGreatDoorTie.lean); close each card by the builder's one call (the guide's Derived/Test/ToyasCard.lean, 'card_holds'). Laid BY PROGRAM, IN A SANDBOX (cutbox-door.mjs). By AI agents, Wed Nov 11 2026. No macro, syntax, notation, axiom, sorry.
-/
import Derived.Test.YtehhegbkahnhgaaGreatDoorRows
import GoSem.ClaimSeven
namespace Go.Proofs.YtehhegbkahnhgaaGreatDoor
namespace Rows

/-- THE TIED CARD OF 'ulplaw.ExpoLogs'. -/
def expoLogsCard : Claim7 := { stood := { row := expoLogsRow, standIns := [], harness := (true, "5e20ed2021f3fefb9171e24a6751aadb759dcbdd7aca010a1be48972e27e852d"), looks := false }, kinds := [], alts := [], laidByText := true, laidKinds := [.data], laidTests := true, laidLooks := .later }
def ExpoLogsCardSaid : Prop := Claim7.holds Tryz.pinned (.plain (OpenSpec.ofChange expoLogsSpec)) expoLogsCard

/-- THE TIED CARD OF 'ulplaw.ExpoExps'. -/
def expoExpsCard : Claim7 := { stood := { row := expoExpsRow, standIns := [], harness := (true, "5e20ed2021f3fefb9171e24a6751aadb759dcbdd7aca010a1be48972e27e852d"), looks := false }, kinds := [], alts := [], laidByText := true, laidKinds := [.data], laidTests := true, laidLooks := .later }
def ExpoExpsCardSaid : Prop := Claim7.holds Tryz.pinned (.plain (OpenSpec.ofChange expoExpsSpec)) expoExpsCard

/-- THE SECOND FORM's CARD OF 'ulplaw.ExpoLogs'. -/
def expoLogsUptoCard : Claim7 := { stood := { row := expoLogsUptoRow, standIns := [], harness := (true, "5e20ed2021f3fefb9171e24a6751aadb759dcbdd7aca010a1be48972e27e852d"), looks := false }, kinds := [], alts := [], laidByText := true, laidKinds := [.data], laidTests := true, laidLooks := .later }
def ExpoLogsUptoCardSaid : Prop := Claim7.holds Tryz.pinned (.plain (OpenSpec.upto expoLogsSpec)) expoLogsUptoCard

/-- THE SECOND FORM's CARD OF 'ulplaw.ExpoExps'. -/
def expoExpsUptoCard : Claim7 := { stood := { row := expoExpsUptoRow, standIns := [], harness := (true, "5e20ed2021f3fefb9171e24a6751aadb759dcbdd7aca010a1be48972e27e852d"), looks := false }, kinds := [], alts := [], laidByText := true, laidKinds := [.data], laidTests := true, laidLooks := .later }
def ExpoExpsUptoCardSaid : Prop := Claim7.holds Tryz.pinned (.plain (OpenSpec.upto expoExpsSpec)) expoExpsUptoCard
end Rows
end Go.Proofs.YtehhegbkahnhgaaGreatDoor
