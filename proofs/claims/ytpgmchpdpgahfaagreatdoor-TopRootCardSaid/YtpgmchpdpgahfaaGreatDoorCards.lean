/-
  DERIVED. GIVEN WITH THE SEED: THE CARDS: each row of YtpgmchpdpgahfaaGreatDoorRows.lean that lists a variable, with what it lists TIED to the program's text (the seventh form; the later family's looks); each row that meets fmt, with fmt's text TOLD by the authors' own Lean function (tested against real Go, not proved from fmt's source: count such statements apart). THE CARD IS WHAT COUNTS. Prove the row's statement (the work); the ties are given (YtpgmchpdpgahfaaGreatDoorTie.lean); close each card by the builder's one call (the guide's Derived/Test/ToyasCard.lean, 'card_holds'). Laid BY PROGRAM, IN A SANDBOX (cutbox-door.mjs). By AI agents, Wed Nov 11 2026. No macro, syntax, notation, axiom, sorry.
-/
import Derived.Test.YtpgmchpdpgahfaaGreatDoorRows
import GoSem.ClaimSeven
namespace Go.Proofs.YtpgmchpdpgahfaaGreatDoor
namespace Rows

/-- THE TIED CARD OF 'ulptop.TopRoot'. -/
def topRootCard : Claim7 := { stood := { row := topRootRow, standIns := [], harness := (true, "8f301204b50c25a2a615574d1ed6ce9d5cf3856757247af289b3c1e78209f15c"), looks := true }, kinds := [], alts := [], laidByText := true, laidKinds := [.data, .data, .data, .data, .sentinel, .sentinel, .pinned], laidTests := true, laidLooks := .later }
def TopRootCardSaid : Prop := Claim7.holds Tryz.pinned (.plain (OpenSpec.ofChange topRootSpec)) topRootCard

/-- THE SECOND FORM's CARD OF 'ulptop.TopRoot'. -/
def topRootUptoCard : Claim7 := { stood := { row := topRootUptoRow, standIns := [], harness := (true, "8f301204b50c25a2a615574d1ed6ce9d5cf3856757247af289b3c1e78209f15c"), looks := true }, kinds := [], alts := [], laidByText := true, laidKinds := [.data, .data, .data, .data, .sentinel, .sentinel, .pinned], laidTests := true, laidLooks := .later }
def TopRootUptoCardSaid : Prop := Claim7.holds Tryz.pinned (.plain (OpenSpec.upto topRootSpec)) topRootUptoCard
end Rows
end Go.Proofs.YtpgmchpdpgahfaaGreatDoor
