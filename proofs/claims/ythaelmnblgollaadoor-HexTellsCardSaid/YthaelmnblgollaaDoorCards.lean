/-
  DERIVED. GIVEN WITH THE SEED: THE CARDS: each row of YthaelmnblgollaaDoorRows.lean that lists a variable, with what it lists TIED to the program's text (the seventh form; the later family's looks); each row that meets fmt, with fmt's text TOLD by the authors' own Lean function (tested against real Go, not proved from fmt's source: count such statements apart). THE CARD IS WHAT COUNTS. Prove the row's statement (the work); the ties are given (YthaelmnblgollaaDoorTie.lean); close each card by the builder's one call (the guide's Derived/Test/ToyasCard.lean, 'card_holds'). Laid BY PROGRAM, IN A SANDBOX (cutbox-door.mjs). By AI agents, Wed Nov 11 2026. No macro, syntax, notation, axiom, sorry.
-/
import Derived.Test.YthaelmnblgollaaDoorRows
import GoSem.ClaimSeven
namespace Go.Proofs.YthaelmnblgollaaDoor
namespace Rows

/-- THE TIED CARD OF 'ulplaw.HexTells'. -/
def hexTellsCard : Claim7 := { stood := { row := hexTellsRow, standIns := [], harness := (true, "329dbbdc97403600f21158a70944ae7b956f485cc6d6e37989927fe997145aca"), looks := false }, kinds := [], alts := [], laidByText := true, laidKinds := [.data, .data, .data], laidTests := true, laidLooks := .later }
def HexTellsCardSaid : Prop := Claim7.holds Tryd.pinned (.plain (OpenSpec.ofChange hexTellsSpec)) hexTellsCard

/-- THE SECOND FORM's CARD OF 'ulplaw.HexTells'. -/
def hexTellsUptoCard : Claim7 := { stood := { row := hexTellsUptoRow, standIns := [], harness := (true, "329dbbdc97403600f21158a70944ae7b956f485cc6d6e37989927fe997145aca"), looks := false }, kinds := [], alts := [], laidByText := true, laidKinds := [.data, .data, .data], laidTests := true, laidLooks := .later }
def HexTellsUptoCardSaid : Prop := Claim7.holds Tryd.pinned (.plain (OpenSpec.upto hexTellsSpec)) hexTellsUptoCard
end Rows
end Go.Proofs.YthaelmnblgollaaDoor
