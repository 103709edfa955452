/-
  DERIVED. GIVEN WITH THE SEED: THE CARDS: each row of YthaelmnblgollaaGreatDoorRows.lean that lists a variable, with what it lists TIED to the program's text (the seventh form; the later family's looks); each row that meets fmt, with fmt's text TOLD by the authors' own Lean function (tested against real Go, not proved from fmt's source: count such statements apart). THE CARD IS WHAT COUNTS. Prove the row's statement (the work); the ties are given (YthaelmnblgollaaGreatDoorTie.lean); close each card by the builder's one call (the guide's Derived/Test/ToyasCard.lean, 'card_holds'). Laid BY PROGRAM, IN A SANDBOX (cutbox-door.mjs). By AI agents, Wed Nov 11 2026. No macro, syntax, notation, axiom, sorry.
-/
import Derived.Test.YthaelmnblgollaaGreatDoorRows
import GoSem.ClaimSeven
namespace Go.Proofs.YthaelmnblgollaaGreatDoor
namespace Rows

/-- THE TIED CARD OF 'ulplaw.GrowSays'. -/
def growSaysCard : Claim7 := { stood := { row := growSaysRow, standIns := [], harness := (true, "03c86d12d9c9c6f4dd06bddffa022d35064ef014f5a3b0c686c2876bb34c21fc"), looks := true }, kinds := [], alts := [], laidByText := true, laidKinds := [.data], laidTests := true, laidLooks := .later }
def GrowSaysCardSaid : Prop := Claim7.holds Tryz.pinned (.plain (OpenSpec.ofChange growSaysSpec)) growSaysCard

/-- THE TIED CARD OF 'ulplaw.SpanSums'. -/
def spanSumsCard : Claim7 := { stood := { row := spanSumsRow, standIns := [], harness := (true, "03c86d12d9c9c6f4dd06bddffa022d35064ef014f5a3b0c686c2876bb34c21fc"), looks := true }, kinds := [], alts := [], laidByText := true, laidKinds := [.data], laidTests := true, laidLooks := .later }
def SpanSumsCardSaid : Prop := Claim7.holds Tryz.pinned (.plain (OpenSpec.ofChange spanSumsSpec)) spanSumsCard

/-- THE TIED CARD OF 'ulplaw.ReadSays'. -/
def readSaysCard : Claim7 := { stood := { row := readSaysRow, standIns := [], harness := (true, "03c86d12d9c9c6f4dd06bddffa022d35064ef014f5a3b0c686c2876bb34c21fc"), looks := true }, kinds := [], alts := [], laidByText := true, laidKinds := [.data, .data, .data, .data, .sentinel, .sentinel, .pinned], laidTests := true, laidLooks := .later }
def ReadSaysCardSaid : Prop := Claim7.holds Tryz.pinned (.plain (OpenSpec.ofChange readSaysSpec)) readSaysCard

/-- THE TIED CARD OF 'ulplaw.HexReads'. -/
def hexReadsCard : Claim7 := { stood := { row := hexReadsRow, standIns := [], harness := (true, "03c86d12d9c9c6f4dd06bddffa022d35064ef014f5a3b0c686c2876bb34c21fc"), looks := true }, kinds := [], alts := [], laidByText := true, laidKinds := [.data, .data, .data, .data, .sentinel, .sentinel, .pinned], laidTests := true, laidLooks := .later }
def HexReadsCardSaid : Prop := Claim7.holds Tryz.pinned (.plain (OpenSpec.ofChange hexReadsSpec)) hexReadsCard

/-- THE TIED CARD OF 'ulplaw.ShortSays'. -/
def shortSaysCard : Claim7 := { stood := { row := shortSaysRow, standIns := [], harness := (true, "03c86d12d9c9c6f4dd06bddffa022d35064ef014f5a3b0c686c2876bb34c21fc"), looks := true }, kinds := [], alts := [], laidByText := true, laidKinds := [.data, .data, .data, .data, .sentinel, .sentinel, .pinned], laidTests := true, laidLooks := .later }
def ShortSaysCardSaid : Prop := Claim7.holds Tryz.pinned (.plain (OpenSpec.ofChange shortSaysSpec)) shortSaysCard

/-- THE TIED CARD OF 'ulplaw.WantedSays'. -/
def wantedSaysCard : Claim7 := { stood := { row := wantedSaysRow, standIns := [], harness := (true, "03c86d12d9c9c6f4dd06bddffa022d35064ef014f5a3b0c686c2876bb34c21fc"), looks := true }, kinds := [], alts := [], laidByText := true, laidKinds := [.data, .data, .data, .data, .pinned], laidTests := true, laidLooks := .later }
def WantedSaysCardSaid : Prop := Claim7.holds Tryz.pinned (.plain (OpenSpec.ofChange wantedSaysSpec)) wantedSaysCard

/-- THE SECOND FORM's CARD OF 'ulplaw.GrowSays'. -/
def growSaysUptoCard : Claim7 := { stood := { row := growSaysUptoRow, standIns := [], harness := (true, "03c86d12d9c9c6f4dd06bddffa022d35064ef014f5a3b0c686c2876bb34c21fc"), looks := true }, kinds := [], alts := [], laidByText := true, laidKinds := [.data], laidTests := true, laidLooks := .later }
def GrowSaysUptoCardSaid : Prop := Claim7.holds Tryz.pinned (.plain (OpenSpec.upto growSaysSpec)) growSaysUptoCard

/-- THE SECOND FORM's CARD OF 'ulplaw.SpanSums'. -/
def spanSumsUptoCard : Claim7 := { stood := { row := spanSumsUptoRow, standIns := [], harness := (true, "03c86d12d9c9c6f4dd06bddffa022d35064ef014f5a3b0c686c2876bb34c21fc"), looks := true }, kinds := [], alts := [], laidByText := true, laidKinds := [.data], laidTests := true, laidLooks := .later }
def SpanSumsUptoCardSaid : Prop := Claim7.holds Tryz.pinned (.plain (OpenSpec.upto spanSumsSpec)) spanSumsUptoCard

/-- THE SECOND FORM's CARD OF 'ulplaw.ReadSays'. -/
def readSaysUptoCard : Claim7 := { stood := { row := readSaysUptoRow, standIns := [], harness := (true, "03c86d12d9c9c6f4dd06bddffa022d35064ef014f5a3b0c686c2876bb34c21fc"), looks := true }, kinds := [], alts := [], laidByText := true, laidKinds := [.data, .data, .data, .data, .sentinel, .sentinel, .pinned], laidTests := true, laidLooks := .later }
def ReadSaysUptoCardSaid : Prop := Claim7.holds Tryz.pinned (.plain (OpenSpec.upto readSaysSpec)) readSaysUptoCard

/-- THE SECOND FORM's CARD OF 'ulplaw.HexReads'. -/
def hexReadsUptoCard : Claim7 := { stood := { row := hexReadsUptoRow, standIns := [], harness := (true, "03c86d12d9c9c6f4dd06bddffa022d35064ef014f5a3b0c686c2876bb34c21fc"), looks := true }, kinds := [], alts := [], laidByText := true, laidKinds := [.data, .data, .data, .data, .sentinel, .sentinel, .pinned], laidTests := true, laidLooks := .later }
def HexReadsUptoCardSaid : Prop := Claim7.holds Tryz.pinned (.plain (OpenSpec.upto hexReadsSpec)) hexReadsUptoCard

/-- THE SECOND FORM's CARD OF 'ulplaw.ShortSays'. -/
def shortSaysUptoCard : Claim7 := { stood := { row := shortSaysUptoRow, standIns := [], harness := (true, "03c86d12d9c9c6f4dd06bddffa022d35064ef014f5a3b0c686c2876bb34c21fc"), looks := true }, kinds := [], alts := [], laidByText := true, laidKinds := [.data, .data, .data, .data, .sentinel, .sentinel, .pinned], laidTests := true, laidLooks := .later }
def ShortSaysUptoCardSaid : Prop := Claim7.holds Tryz.pinned (.plain (OpenSpec.upto shortSaysSpec)) shortSaysUptoCard

/-- THE SECOND FORM's CARD OF 'ulplaw.WantedSays'. -/
def wantedSaysUptoCard : Claim7 := { stood := { row := wantedSaysUptoRow, standIns := [], harness := (true, "03c86d12d9c9c6f4dd06bddffa022d35064ef014f5a3b0c686c2876bb34c21fc"), looks := true }, kinds := [], alts := [], laidByText := true, laidKinds := [.data, .data, .data, .data, .pinned], laidTests := true, laidLooks := .later }
def WantedSaysUptoCardSaid : Prop := Claim7.holds Tryz.pinned (.plain (OpenSpec.upto wantedSaysSpec)) wantedSaysUptoCard
end Rows
end Go.Proofs.YthaelmnblgollaaGreatDoor
