/-
  DERIVED. GIVEN WITH THE SEED: THE CARDS: each row of YteaakbeemhmciaaDoorRows.lean that lists a variable, with what it lists TIED to the program's text (the seventh form; the later family's looks); each row that meets fmt, with fmt's text TOLD by the authors' own Lean function (tested against real Go, not proved from fmt's source: count such statements apart). THE CARD IS WHAT COUNTS. Prove the row's statement (the work); the ties are given (YteaakbeemhmciaaDoorTie.lean); close each card by the builder's one call (the guide's Derived/Test/ToyasCard.lean, 'card_holds'). Laid BY PROGRAM, IN A SANDBOX (cutbox-door.mjs). By AI agents, Wed Nov 11 2026. No macro, syntax, notation, axiom, sorry.
-/
import Derived.Test.YteaakbeemhmciaaDoorRows
import GoSem.ClaimSeven
namespace Go.Proofs.YteaakbeemhmciaaDoor
namespace Rows

/-- THE TIED CARD OF 'ulplaw.DyadMakes'. -/
def dyadMakesCard : Claim7 := { stood := { row := dyadMakesRow, standIns := [], harness := (true, "7e304653b16ca04589e19cda7ff4897f7eaaa7a8d8549b541571892e0ce2319b"), looks := false }, kinds := [], alts := [], laidByText := true, laidKinds := [.data], laidTests := true, laidLooks := .later }
def DyadMakesCardSaid : Prop := Claim7.holds Tryd.pinned (.plain (OpenSpec.ofChange dyadMakesSpec)) dyadMakesCard

/-- THE TIED CARD OF 'ulplaw.RoundCuts'. -/
def roundCutsCard : Claim7 := { stood := { row := roundCutsRow, standIns := [], harness := (true, "7e304653b16ca04589e19cda7ff4897f7eaaa7a8d8549b541571892e0ce2319b"), looks := false }, kinds := [], alts := [], laidByText := true, laidKinds := [.data], laidTests := true, laidLooks := .later }
def RoundCutsCardSaid : Prop := Claim7.holds Tryd.pinned (.plain (OpenSpec.ofChange roundCutsSpec)) roundCutsCard

/-- THE TIED CARD OF 'ulplaw.GrowTurns'. -/
def growTurnsCard : Claim7 := { stood := { row := growTurnsRow, standIns := [], harness := (true, "7e304653b16ca04589e19cda7ff4897f7eaaa7a8d8549b541571892e0ce2319b"), looks := false }, kinds := [], alts := [], laidByText := true, laidKinds := [.data], laidTests := true, laidLooks := .later }
def GrowTurnsCardSaid : Prop := Claim7.holds Tryd.pinned (.plain (OpenSpec.ofChange growTurnsSpec)) growTurnsCard

/-- THE TIED CARD OF 'ulplaw.DyadSums'. -/
def dyadSumsCard : Claim7 := { stood := { row := dyadSumsRow, standIns := [], harness := (true, "7e304653b16ca04589e19cda7ff4897f7eaaa7a8d8549b541571892e0ce2319b"), looks := false }, kinds := [], alts := [], laidByText := true, laidKinds := [.data], laidTests := true, laidLooks := .later }
def DyadSumsCardSaid : Prop := Claim7.holds Tryd.pinned (.plain (OpenSpec.ofChange dyadSumsSpec)) dyadSumsCard

/-- THE TIED CARD OF 'ulplaw.ProdDot'. -/
def prodDotCard : Claim7 := { stood := { row := prodDotRow, standIns := [], harness := (true, "7e304653b16ca04589e19cda7ff4897f7eaaa7a8d8549b541571892e0ce2319b"), looks := false }, kinds := [], alts := [], laidByText := true, laidKinds := [.data], laidTests := true, laidLooks := .later }
def ProdDotCardSaid : Prop := Claim7.holds Tryd.pinned (.plain (OpenSpec.ofChange prodDotSpec)) prodDotCard

/-- THE TIED CARD OF 'ulplaw.WholeSays'. -/
def wholeSaysCard : Claim7 := { stood := { row := wholeSaysRow, standIns := [], harness := (true, "7e304653b16ca04589e19cda7ff4897f7eaaa7a8d8549b541571892e0ce2319b"), looks := false }, kinds := [], alts := [], laidByText := true, laidKinds := [.data], laidTests := true, laidLooks := .later }
def WholeSaysCardSaid : Prop := Claim7.holds Tryd.pinned (.plain (OpenSpec.ofChange wholeSaysSpec)) wholeSaysCard

/-- THE TIED CARD OF 'ulplaw.SumSays'. -/
def sumSaysCard : Claim7 := { stood := { row := sumSaysRow, standIns := [], harness := (true, "7e304653b16ca04589e19cda7ff4897f7eaaa7a8d8549b541571892e0ce2319b"), looks := false }, kinds := [], alts := [], laidByText := true, laidKinds := [.data], laidTests := true, laidLooks := .later }
def SumSaysCardSaid : Prop := Claim7.holds Tryd.pinned (.plain (OpenSpec.ofChange sumSaysSpec)) sumSaysCard

/-- THE TIED CARD OF 'ulplaw.SumAll'. -/
def sumAllCard : Claim7 := { stood := { row := sumAllRow, standIns := [], harness := (true, "7e304653b16ca04589e19cda7ff4897f7eaaa7a8d8549b541571892e0ce2319b"), looks := false }, kinds := [], alts := [], laidByText := true, laidKinds := [.data], laidTests := true, laidLooks := .later }
def SumAllCardSaid : Prop := Claim7.holds Tryd.pinned (.plain (OpenSpec.ofChange sumAllSpec)) sumAllCard

/-- THE TIED CARD OF 'ulplaw.ExactSplits'. -/
def exactSplitsCard : Claim7 := { stood := { row := exactSplitsRow, standIns := [], harness := (true, "7e304653b16ca04589e19cda7ff4897f7eaaa7a8d8549b541571892e0ce2319b"), looks := false }, kinds := [], alts := [], laidByText := true, laidKinds := [.data], laidTests := true, laidLooks := .later }
def ExactSplitsCardSaid : Prop := Claim7.holds Tryd.pinned (.plain (OpenSpec.ofChange exactSplitsSpec)) exactSplitsCard

/-- THE TIED CARD OF 'ulplaw.QuotRem'. -/
def quotRemCard : Claim7 := { stood := { row := quotRemRow, standIns := [], harness := (true, "7e304653b16ca04589e19cda7ff4897f7eaaa7a8d8549b541571892e0ce2319b"), looks := false }, kinds := [], alts := [], laidByText := true, laidKinds := [.data], laidTests := true, laidLooks := .later }
def QuotRemCardSaid : Prop := Claim7.holds Tryd.pinned (.plain (OpenSpec.ofChange quotRemSpec)) quotRemCard

/-- THE TIED CARD OF 'ulplaw.ProdSays'. -/
def prodSaysCard : Claim7 := { stood := { row := prodSaysRow, standIns := [], harness := (true, "7e304653b16ca04589e19cda7ff4897f7eaaa7a8d8549b541571892e0ce2319b"), looks := false }, kinds := [], alts := [], laidByText := true, laidKinds := [.data], laidTests := true, laidLooks := .later }
def ProdSaysCardSaid : Prop := Claim7.holds Tryd.pinned (.plain (OpenSpec.ofChange prodSaysSpec)) prodSaysCard

/-- THE TIED CARD OF 'ulplaw.QuotSays'. -/
def quotSaysCard : Claim7 := { stood := { row := quotSaysRow, standIns := [], harness := (true, "7e304653b16ca04589e19cda7ff4897f7eaaa7a8d8549b541571892e0ce2319b"), looks := false }, kinds := [], alts := [], laidByText := true, laidKinds := [.data], laidTests := true, laidLooks := .later }
def QuotSaysCardSaid : Prop := Claim7.holds Tryd.pinned (.plain (OpenSpec.ofChange quotSaysSpec)) quotSaysCard

/-- THE TIED CARD OF 'ulplaw.ExactSays'. -/
def exactSaysCard : Claim7 := { stood := { row := exactSaysRow, standIns := [], harness := (true, "7e304653b16ca04589e19cda7ff4897f7eaaa7a8d8549b541571892e0ce2319b"), looks := false }, kinds := [], alts := [], laidByText := true, laidKinds := [.data], laidTests := true, laidLooks := .later }
def ExactSaysCardSaid : Prop := Claim7.holds Tryd.pinned (.plain (OpenSpec.ofChange exactSaysSpec)) exactSaysCard

/-- THE SECOND FORM's CARD OF 'ulplaw.DyadMakes'. -/
def dyadMakesUptoCard : Claim7 := { stood := { row := dyadMakesUptoRow, standIns := [], harness := (true, "7e304653b16ca04589e19cda7ff4897f7eaaa7a8d8549b541571892e0ce2319b"), looks := false }, kinds := [], alts := [], laidByText := true, laidKinds := [.data], laidTests := true, laidLooks := .later }
def DyadMakesUptoCardSaid : Prop := Claim7.holds Tryd.pinned (.plain (OpenSpec.upto dyadMakesSpec)) dyadMakesUptoCard

/-- THE SECOND FORM's CARD OF 'ulplaw.RoundCuts'. -/
def roundCutsUptoCard : Claim7 := { stood := { row := roundCutsUptoRow, standIns := [], harness := (true, "7e304653b16ca04589e19cda7ff4897f7eaaa7a8d8549b541571892e0ce2319b"), looks := false }, kinds := [], alts := [], laidByText := true, laidKinds := [.data], laidTests := true, laidLooks := .later }
def RoundCutsUptoCardSaid : Prop := Claim7.holds Tryd.pinned (.plain (OpenSpec.upto roundCutsSpec)) roundCutsUptoCard

/-- THE SECOND FORM's CARD OF 'ulplaw.GrowTurns'. -/
def growTurnsUptoCard : Claim7 := { stood := { row := growTurnsUptoRow, standIns := [], harness := (true, "7e304653b16ca04589e19cda7ff4897f7eaaa7a8d8549b541571892e0ce2319b"), looks := false }, kinds := [], alts := [], laidByText := true, laidKinds := [.data], laidTests := true, laidLooks := .later }
def GrowTurnsUptoCardSaid : Prop := Claim7.holds Tryd.pinned (.plain (OpenSpec.upto growTurnsSpec)) growTurnsUptoCard

/-- THE SECOND FORM's CARD OF 'ulplaw.DyadSums'. -/
def dyadSumsUptoCard : Claim7 := { stood := { row := dyadSumsUptoRow, standIns := [], harness := (true, "7e304653b16ca04589e19cda7ff4897f7eaaa7a8d8549b541571892e0ce2319b"), looks := false }, kinds := [], alts := [], laidByText := true, laidKinds := [.data], laidTests := true, laidLooks := .later }
def DyadSumsUptoCardSaid : Prop := Claim7.holds Tryd.pinned (.plain (OpenSpec.upto dyadSumsSpec)) dyadSumsUptoCard

/-- THE SECOND FORM's CARD OF 'ulplaw.ProdDot'. -/
def prodDotUptoCard : Claim7 := { stood := { row := prodDotUptoRow, standIns := [], harness := (true, "7e304653b16ca04589e19cda7ff4897f7eaaa7a8d8549b541571892e0ce2319b"), looks := false }, kinds := [], alts := [], laidByText := true, laidKinds := [.data], laidTests := true, laidLooks := .later }
def ProdDotUptoCardSaid : Prop := Claim7.holds Tryd.pinned (.plain (OpenSpec.upto prodDotSpec)) prodDotUptoCard

/-- THE SECOND FORM's CARD OF 'ulplaw.WholeSays'. -/
def wholeSaysUptoCard : Claim7 := { stood := { row := wholeSaysUptoRow, standIns := [], harness := (true, "7e304653b16ca04589e19cda7ff4897f7eaaa7a8d8549b541571892e0ce2319b"), looks := false }, kinds := [], alts := [], laidByText := true, laidKinds := [.data], laidTests := true, laidLooks := .later }
def WholeSaysUptoCardSaid : Prop := Claim7.holds Tryd.pinned (.plain (OpenSpec.upto wholeSaysSpec)) wholeSaysUptoCard

/-- THE SECOND FORM's CARD OF 'ulplaw.SumSays'. -/
def sumSaysUptoCard : Claim7 := { stood := { row := sumSaysUptoRow, standIns := [], harness := (true, "7e304653b16ca04589e19cda7ff4897f7eaaa7a8d8549b541571892e0ce2319b"), looks := false }, kinds := [], alts := [], laidByText := true, laidKinds := [.data], laidTests := true, laidLooks := .later }
def SumSaysUptoCardSaid : Prop := Claim7.holds Tryd.pinned (.plain (OpenSpec.upto sumSaysSpec)) sumSaysUptoCard

/-- THE SECOND FORM's CARD OF 'ulplaw.SumAll'. -/
def sumAllUptoCard : Claim7 := { stood := { row := sumAllUptoRow, standIns := [], harness := (true, "7e304653b16ca04589e19cda7ff4897f7eaaa7a8d8549b541571892e0ce2319b"), looks := false }, kinds := [], alts := [], laidByText := true, laidKinds := [.data], laidTests := true, laidLooks := .later }
def SumAllUptoCardSaid : Prop := Claim7.holds Tryd.pinned (.plain (OpenSpec.upto sumAllSpec)) sumAllUptoCard

/-- THE SECOND FORM's CARD OF 'ulplaw.ExactSplits'. -/
def exactSplitsUptoCard : Claim7 := { stood := { row := exactSplitsUptoRow, standIns := [], harness := (true, "7e304653b16ca04589e19cda7ff4897f7eaaa7a8d8549b541571892e0ce2319b"), looks := false }, kinds := [], alts := [], laidByText := true, laidKinds := [.data], laidTests := true, laidLooks := .later }
def ExactSplitsUptoCardSaid : Prop := Claim7.holds Tryd.pinned (.plain (OpenSpec.upto exactSplitsSpec)) exactSplitsUptoCard

/-- THE SECOND FORM's CARD OF 'ulplaw.QuotRem'. -/
def quotRemUptoCard : Claim7 := { stood := { row := quotRemUptoRow, standIns := [], harness := (true, "7e304653b16ca04589e19cda7ff4897f7eaaa7a8d8549b541571892e0ce2319b"), looks := false }, kinds := [], alts := [], laidByText := true, laidKinds := [.data], laidTests := true, laidLooks := .later }
def QuotRemUptoCardSaid : Prop := Claim7.holds Tryd.pinned (.plain (OpenSpec.upto quotRemSpec)) quotRemUptoCard

/-- THE SECOND FORM's CARD OF 'ulplaw.ProdSays'. -/
def prodSaysUptoCard : Claim7 := { stood := { row := prodSaysUptoRow, standIns := [], harness := (true, "7e304653b16ca04589e19cda7ff4897f7eaaa7a8d8549b541571892e0ce2319b"), looks := false }, kinds := [], alts := [], laidByText := true, laidKinds := [.data], laidTests := true, laidLooks := .later }
def ProdSaysUptoCardSaid : Prop := Claim7.holds Tryd.pinned (.plain (OpenSpec.upto prodSaysSpec)) prodSaysUptoCard

/-- THE SECOND FORM's CARD OF 'ulplaw.QuotSays'. -/
def quotSaysUptoCard : Claim7 := { stood := { row := quotSaysUptoRow, standIns := [], harness := (true, "7e304653b16ca04589e19cda7ff4897f7eaaa7a8d8549b541571892e0ce2319b"), looks := false }, kinds := [], alts := [], laidByText := true, laidKinds := [.data], laidTests := true, laidLooks := .later }
def QuotSaysUptoCardSaid : Prop := Claim7.holds Tryd.pinned (.plain (OpenSpec.upto quotSaysSpec)) quotSaysUptoCard

/-- THE SECOND FORM's CARD OF 'ulplaw.ExactSays'. -/
def exactSaysUptoCard : Claim7 := { stood := { row := exactSaysUptoRow, standIns := [], harness := (true, "7e304653b16ca04589e19cda7ff4897f7eaaa7a8d8549b541571892e0ce2319b"), looks := false }, kinds := [], alts := [], laidByText := true, laidKinds := [.data], laidTests := true, laidLooks := .later }
def ExactSaysUptoCardSaid : Prop := Claim7.holds Tryd.pinned (.plain (OpenSpec.upto exactSaysSpec)) exactSaysUptoCard
end Rows
end Go.Proofs.YteaakbeemhmciaaDoor
