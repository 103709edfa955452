/-
  DERIVED. GIVEN WITH THE SEED: THE CARDS: each row of YtincggkdlegjjaaDoorRows.lean that lists a variable, with what it lists TIED to the program's text (the seventh form; the later family's looks); each row that meets fmt, with fmt's text TOLD by the authors' own Lean function (tested against real Go, not proved from fmt's source: count such statements apart). THE CARD IS WHAT COUNTS. Prove the row's statement (the work); the ties are given (YtincggkdlegjjaaDoorTie.lean); close each card by the builder's one call (the guide's Derived/Test/ToyasCard.lean, 'card_holds'). Laid BY PROGRAM, IN A SANDBOX (cutbox-door.mjs). By AI agents, Wed Nov 11 2026. No macro, syntax, notation, axiom, sorry.
-/
import Derived.Test.YtincggkdlegjjaaDoorRows
import GoSem.ClaimSeven
namespace Go.Proofs.YtincggkdlegjjaaDoor
namespace Rows

/-- THE TIED CARD OF 'ulplaw.QuotSays'. -/
def quotSaysCard : Claim7 := { stood := { row := quotSaysRow, standIns := [], harness := (true, "ca08373d8cc826b52057f0e767603143903145e3686fcb19dd49974b705962a6"), looks := false }, kinds := [], alts := [], laidByText := true, laidKinds := [.data], laidTests := true, laidLooks := .later }
def QuotSaysCardSaid : Prop := Claim7.holds Tryd.pinned (.plain (OpenSpec.ofChange quotSaysSpec)) quotSaysCard

/-- THE TIED CARD OF 'ulplaw.SeriesExp'. -/
def seriesExpCard : Claim7 := { stood := { row := seriesExpRow, standIns := [], harness := (true, "ca08373d8cc826b52057f0e767603143903145e3686fcb19dd49974b705962a6"), looks := false }, kinds := [], alts := [], laidByText := true, laidKinds := [.data], laidTests := true, laidLooks := .later }
def SeriesExpCardSaid : Prop := Claim7.holds Tryd.pinned (.plain (OpenSpec.ofChange seriesExpSpec)) seriesExpCard

/-- THE TIED CARD OF 'ulplaw.SeriesLog'. -/
def seriesLogCard : Claim7 := { stood := { row := seriesLogRow, standIns := [], harness := (true, "ca08373d8cc826b52057f0e767603143903145e3686fcb19dd49974b705962a6"), looks := false }, kinds := [], alts := [], laidByText := true, laidKinds := [.data], laidTests := true, laidLooks := .later }
def SeriesLogCardSaid : Prop := Claim7.holds Tryd.pinned (.plain (OpenSpec.ofChange seriesLogSpec)) seriesLogCard

/-- THE TIED CARD OF 'ulplaw.HexTells'. -/
def hexTellsCard : Claim7 := { stood := { row := hexTellsRow, standIns := [], harness := (true, "ca08373d8cc826b52057f0e767603143903145e3686fcb19dd49974b705962a6"), looks := false }, kinds := [], alts := [], laidByText := true, laidKinds := [.data, .data, .data], laidTests := true, laidLooks := .later }
def HexTellsCardSaid : Prop := Claim7.holds Tryd.pinned (.plain (OpenSpec.ofChange hexTellsSpec)) hexTellsCard

/-- THE TIED CARD OF 'ulplaw.NatTells'. -/
def natTellsCard : Claim7 := { stood := { row := natTellsRow, standIns := [], harness := (true, "ca08373d8cc826b52057f0e767603143903145e3686fcb19dd49974b705962a6"), looks := false }, kinds := [], alts := [], laidByText := true, laidKinds := [.data, .data, .data], laidTests := true, laidLooks := .later }
def NatTellsCardSaid : Prop := Claim7.holds Tryd.pinned (.plain (OpenSpec.ofChange natTellsSpec)) natTellsCard

/-- THE TIED CARD OF 'ulplaw.DecimalExact'. -/
def decimalExactCard : Claim7 := { stood := { row := decimalExactRow, standIns := [], harness := (true, "ca08373d8cc826b52057f0e767603143903145e3686fcb19dd49974b705962a6"), looks := false }, kinds := [], alts := [], laidByText := true, laidKinds := [.data, .data, .data], laidTests := true, laidLooks := .later }
def DecimalExactCardSaid : Prop := Claim7.holds Tryd.pinned (.plain (OpenSpec.ofChange decimalExactSpec)) decimalExactCard

/-- THE TIED CARD OF 'ulplaw.DecimalRounds'. -/
def decimalRoundsCard : Claim7 := { stood := { row := decimalRoundsRow, standIns := [], harness := (true, "ca08373d8cc826b52057f0e767603143903145e3686fcb19dd49974b705962a6"), looks := false }, kinds := [], alts := [], laidByText := true, laidKinds := [.data, .data, .data], laidTests := true, laidLooks := .later }
def DecimalRoundsCardSaid : Prop := Claim7.holds Tryd.pinned (.plain (OpenSpec.ofChange decimalRoundsSpec)) decimalRoundsCard

/-- THE SECOND FORM's CARD OF 'ulplaw.QuotSays'. -/
def quotSaysUptoCard : Claim7 := { stood := { row := quotSaysUptoRow, standIns := [], harness := (true, "ca08373d8cc826b52057f0e767603143903145e3686fcb19dd49974b705962a6"), looks := false }, kinds := [], alts := [], laidByText := true, laidKinds := [.data], laidTests := true, laidLooks := .later }
def QuotSaysUptoCardSaid : Prop := Claim7.holds Tryd.pinned (.plain (OpenSpec.upto quotSaysSpec)) quotSaysUptoCard

/-- THE SECOND FORM's CARD OF 'ulplaw.SeriesExp'. -/
def seriesExpUptoCard : Claim7 := { stood := { row := seriesExpUptoRow, standIns := [], harness := (true, "ca08373d8cc826b52057f0e767603143903145e3686fcb19dd49974b705962a6"), looks := false }, kinds := [], alts := [], laidByText := true, laidKinds := [.data], laidTests := true, laidLooks := .later }
def SeriesExpUptoCardSaid : Prop := Claim7.holds Tryd.pinned (.plain (OpenSpec.upto seriesExpSpec)) seriesExpUptoCard

/-- THE SECOND FORM's CARD OF 'ulplaw.SeriesLog'. -/
def seriesLogUptoCard : Claim7 := { stood := { row := seriesLogUptoRow, standIns := [], harness := (true, "ca08373d8cc826b52057f0e767603143903145e3686fcb19dd49974b705962a6"), looks := false }, kinds := [], alts := [], laidByText := true, laidKinds := [.data], laidTests := true, laidLooks := .later }
def SeriesLogUptoCardSaid : Prop := Claim7.holds Tryd.pinned (.plain (OpenSpec.upto seriesLogSpec)) seriesLogUptoCard

/-- THE SECOND FORM's CARD OF 'ulplaw.HexTells'. -/
def hexTellsUptoCard : Claim7 := { stood := { row := hexTellsUptoRow, standIns := [], harness := (true, "ca08373d8cc826b52057f0e767603143903145e3686fcb19dd49974b705962a6"), looks := false }, kinds := [], alts := [], laidByText := true, laidKinds := [.data, .data, .data], laidTests := true, laidLooks := .later }
def HexTellsUptoCardSaid : Prop := Claim7.holds Tryd.pinned (.plain (OpenSpec.upto hexTellsSpec)) hexTellsUptoCard

/-- THE SECOND FORM's CARD OF 'ulplaw.NatTells'. -/
def natTellsUptoCard : Claim7 := { stood := { row := natTellsUptoRow, standIns := [], harness := (true, "ca08373d8cc826b52057f0e767603143903145e3686fcb19dd49974b705962a6"), looks := false }, kinds := [], alts := [], laidByText := true, laidKinds := [.data, .data, .data], laidTests := true, laidLooks := .later }
def NatTellsUptoCardSaid : Prop := Claim7.holds Tryd.pinned (.plain (OpenSpec.upto natTellsSpec)) natTellsUptoCard

/-- THE SECOND FORM's CARD OF 'ulplaw.DecimalExact'. -/
def decimalExactUptoCard : Claim7 := { stood := { row := decimalExactUptoRow, standIns := [], harness := (true, "ca08373d8cc826b52057f0e767603143903145e3686fcb19dd49974b705962a6"), looks := false }, kinds := [], alts := [], laidByText := true, laidKinds := [.data, .data, .data], laidTests := true, laidLooks := .later }
def DecimalExactUptoCardSaid : Prop := Claim7.holds Tryd.pinned (.plain (OpenSpec.upto decimalExactSpec)) decimalExactUptoCard

/-- THE SECOND FORM's CARD OF 'ulplaw.DecimalRounds'. -/
def decimalRoundsUptoCard : Claim7 := { stood := { row := decimalRoundsUptoRow, standIns := [], harness := (true, "ca08373d8cc826b52057f0e767603143903145e3686fcb19dd49974b705962a6"), looks := false }, kinds := [], alts := [], laidByText := true, laidKinds := [.data, .data, .data], laidTests := true, laidLooks := .later }
def DecimalRoundsUptoCardSaid : Prop := Claim7.holds Tryd.pinned (.plain (OpenSpec.upto decimalRoundsSpec)) decimalRoundsUptoCard
end Rows
end Go.Proofs.YtincggkdlegjjaaDoor
