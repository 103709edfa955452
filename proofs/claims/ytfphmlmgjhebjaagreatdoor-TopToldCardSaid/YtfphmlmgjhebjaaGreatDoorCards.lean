/-
  DERIVED. GIVEN WITH THE SEED: THE CARDS: each row of YtfphmlmgjhebjaaGreatDoorRows.lean that lists a variable, with what it lists TIED to the program's text (the seventh form; the later family's looks); each row that meets fmt, with fmt's text TOLD by the authors' own Lean function (tested against real Go, not proved from fmt's source: count such statements apart). THE CARD IS WHAT COUNTS. Prove the row's statement (the work); the ties are given (YtfphmlmgjhebjaaGreatDoorTie.lean); close each card by the builder's one call (the guide's Derived/Test/ToyasCard.lean, 'card_holds'). Laid BY PROGRAM, IN A SANDBOX (cutbox-door.mjs). By AI agents, Wed Nov 11 2026. No macro, syntax, notation, axiom, sorry.
-/
import Derived.Test.YtfphmlmgjhebjaaGreatDoorRows
import GoSem.ClaimSeven
namespace Go.Proofs.YtfphmlmgjhebjaaGreatDoor
namespace Rows

/-- THE TIED CARD OF 'ulplaw.SpanSums'. -/
def spanSumsCard : Claim7 := { stood := { row := spanSumsRow, standIns := [], harness := (true, "68e3fc50d07dfdd287db43a068c49d1705379f8a20c3e11fc44e34cf4ae21178"), looks := true }, kinds := [], alts := [], laidByText := true, laidKinds := [.data], laidTests := true, laidLooks := .later }
def SpanSumsCardSaid : Prop := Claim7.holds Tryz.pinned (.plain (OpenSpec.ofChange spanSumsSpec)) spanSumsCard

/-- THE TIED CARD OF 'ulplaw.WantedSays'. -/
def wantedSaysCard : Claim7 := { stood := { row := wantedSaysRow, standIns := [], harness := (true, "68e3fc50d07dfdd287db43a068c49d1705379f8a20c3e11fc44e34cf4ae21178"), looks := true }, kinds := [], alts := [], laidByText := true, laidKinds := [.data, .data, .data, .data, .pinned], laidTests := true, laidLooks := .later }
def WantedSaysCardSaid : Prop := Claim7.holds Tryz.pinned (.plain (OpenSpec.ofChange wantedSaysSpec)) wantedSaysCard

/-- THE TIED CARD OF 'ulptop.TopSum'. -/
def topSumCard : Claim7 := { stood := { row := topSumRow, standIns := [], harness := (true, "68e3fc50d07dfdd287db43a068c49d1705379f8a20c3e11fc44e34cf4ae21178"), looks := true }, kinds := [], alts := [], laidByText := true, laidKinds := [.data, .data, .data, .data, .sentinel, .sentinel, .pinned], laidTests := true, laidLooks := .later }
def TopSumCardSaid : Prop := Claim7.holds Tryz.pinned (.plain (OpenSpec.ofChange topSumSpec)) topSumCard

/-- THE TIED CARD OF 'ulptop.TopTold'. -/
def topToldCard : Claim7 := { stood := { row := topToldRow, standIns := [], harness := (true, "68e3fc50d07dfdd287db43a068c49d1705379f8a20c3e11fc44e34cf4ae21178"), looks := true }, kinds := [], alts := [], laidByText := true, laidKinds := [.data, .data, .data, .data, .sentinel, .sentinel, .pinned], laidTests := true, laidLooks := .later }
def TopToldCardSaid : Prop := Claim7.holds Tryz.pinned (.plain (OpenSpec.ofChange topToldSpec)) topToldCard

/-- THE SECOND FORM's CARD OF 'ulplaw.SpanSums'. -/
def spanSumsUptoCard : Claim7 := { stood := { row := spanSumsUptoRow, standIns := [], harness := (true, "68e3fc50d07dfdd287db43a068c49d1705379f8a20c3e11fc44e34cf4ae21178"), looks := true }, kinds := [], alts := [], laidByText := true, laidKinds := [.data], laidTests := true, laidLooks := .later }
def SpanSumsUptoCardSaid : Prop := Claim7.holds Tryz.pinned (.plain (OpenSpec.upto spanSumsSpec)) spanSumsUptoCard

/-- THE SECOND FORM's CARD OF 'ulplaw.WantedSays'. -/
def wantedSaysUptoCard : Claim7 := { stood := { row := wantedSaysUptoRow, standIns := [], harness := (true, "68e3fc50d07dfdd287db43a068c49d1705379f8a20c3e11fc44e34cf4ae21178"), looks := true }, kinds := [], alts := [], laidByText := true, laidKinds := [.data, .data, .data, .data, .pinned], laidTests := true, laidLooks := .later }
def WantedSaysUptoCardSaid : Prop := Claim7.holds Tryz.pinned (.plain (OpenSpec.upto wantedSaysSpec)) wantedSaysUptoCard

/-- THE SECOND FORM's CARD OF 'ulptop.TopSum'. -/
def topSumUptoCard : Claim7 := { stood := { row := topSumUptoRow, standIns := [], harness := (true, "68e3fc50d07dfdd287db43a068c49d1705379f8a20c3e11fc44e34cf4ae21178"), looks := true }, kinds := [], alts := [], laidByText := true, laidKinds := [.data, .data, .data, .data, .sentinel, .sentinel, .pinned], laidTests := true, laidLooks := .later }
def TopSumUptoCardSaid : Prop := Claim7.holds Tryz.pinned (.plain (OpenSpec.upto topSumSpec)) topSumUptoCard

/-- THE SECOND FORM's CARD OF 'ulptop.TopTold'. -/
def topToldUptoCard : Claim7 := { stood := { row := topToldUptoRow, standIns := [], harness := (true, "68e3fc50d07dfdd287db43a068c49d1705379f8a20c3e11fc44e34cf4ae21178"), looks := true }, kinds := [], alts := [], laidByText := true, laidKinds := [.data, .data, .data, .data, .sentinel, .sentinel, .pinned], laidTests := true, laidLooks := .later }
def TopToldUptoCardSaid : Prop := Claim7.holds Tryz.pinned (.plain (OpenSpec.upto topToldSpec)) topToldUptoCard
end Rows
end Go.Proofs.YtfphmlmgjhebjaaGreatDoor
