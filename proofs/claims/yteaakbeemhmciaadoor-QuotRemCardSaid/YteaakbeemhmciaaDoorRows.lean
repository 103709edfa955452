/-
  NARROWER THAN 'FOR EVERY INPUT', by the rows' own cells (each row's printed sentence says how): DyadMakes: laid · RoundCuts: laid · GrowTurns: laid · DyadSums: laid · ProdDot: laid · WholeSays: laid · SumSays: laid · SumAll: laid · ExactSplits: laid · QuotRem: laid · ProdSays: laid · QuotSays: laid · ExactSays: laid.
  DERIVED. THE GIVEN ROWS OF THIS SEAT. 13 by the template 'for every input the law returns true; each argument reads behind the call as it read before'; 0 by the template 'total and deterministic' (their statements: YteaakbeemhmciaaDoorTotals.lean).
  GIVEN WITH THE SEED: the statements are not yours to turn. If you find one false, say at which input.
  Laid BY PROGRAM, IN A SANDBOX (cutbox-rows.mjs): the forced cells as the released guide's own fill.sh prints them over the translation fbe94859188ac3ce… (all of the seat's roots in one cut). By AI agents, Wed Nov 11 2026. No macro, syntax, notation, axiom, sorry.
-/
import Derived.Test.YteaakbeemhmciaaDoorChecked
import GoSem.Claim
import GoSem.ClaimJoined
import GoSem.ClaimMapViews
import Derived.JoinedTies
import Derived.KernelRfl
namespace Go.Proofs.YteaakbeemhmciaaDoor
/- THE CELL 'sum', in the pinned program and in every row, IS THE sha256 OF THE DUMP (.gsa) THAT YteaakbeemhmciaaDoorProg.lean LOADS. Nothing in Lean hashes anything: it is a label: what it is worth is what the hold of that sum in a sandbox is worth. -/
noncomputable def Tryd.pinned : Pinned := { name := "yteaakbeemhmciaadoor", sum := "fbe94859188ac3ce1d5438ed5950b318b6ae558bd597c5323418a675629c58d4", checked := Tryd.checked }
namespace Rows
def none {H : Type} : Left H := { results := [], args := [] }

/- WHAT THE LISTED PACKAGE-LEVEL VARIABLES READ AS WHEN THE CALL BEGINS. Each datum BY PROGRAM (the guide's laid-datum.mjs) off the statement by which the dump's own 'gosem.cut.vars' lays the variable. In a bare row this is a premise. The card (YteaakbeemhmciaaDoorCards.lean) ties it to the program's text. -/
def laid_math_bits_deBruijn32tab {H : Type} : DataW H := .agg [.lit (.int .u8 0), .lit (.int .u8 1), .lit (.int .u8 28), .lit (.int .u8 2), .lit (.int .u8 29), .lit (.int .u8 14), .lit (.int .u8 24), .lit (.int .u8 3), .lit (.int .u8 30), .lit (.int .u8 22), .lit (.int .u8 20), .lit (.int .u8 15), .lit (.int .u8 25), .lit (.int .u8 17), .lit (.int .u8 4), .lit (.int .u8 8), .lit (.int .u8 31), .lit (.int .u8 27), .lit (.int .u8 13), .lit (.int .u8 23), .lit (.int .u8 21), .lit (.int .u8 19), .lit (.int .u8 16), .lit (.int .u8 7), .lit (.int .u8 26), .lit (.int .u8 12), .lit (.int .u8 18), .lit (.int .u8 6), .lit (.int .u8 11), .lit (.int .u8 5), .lit (.int .u8 10), .lit (.int .u8 9)]

/-- 'ulplaw.DyadMakes': WHATEVER THE INPUT: true; the input reads as it did. -/
def dyadMakesSpec : ChangeSpec := { name := "dyadMakes", fn := fun _ => fun
  | [d1, d2, d3, d4, d5, d6] => { results := [.lit (.bool true)], args := [d1, d2, d3, d4, d5, d6] }
  | _ => none }
def dyadMakesRow : OpenClaim := { program := "yteaakbeemhmciaadoor", sum := "fbe94859188ac3ce1d5438ed5950b318b6ae558bd597c5323418a675629c58d4", func := "ulpwright/ulplaw.DyadMakes", spec := "dyadMakes", recurses := true, named := ["math/bits.deBruijn32tab"], apart := false, laid := [("math/bits.deBruijn32tab", laid_math_bits_deBruijn32tab)] }
def DyadMakesSaid : Prop := dyadMakesRow.holds Tryd.pinned (OpenSpec.ofChange dyadMakesSpec)

/-- ITS FALSE NEIGHBOUR: 'it returns false'. Refute it at one input. -/
def dyadMakesWrong : ChangeSpec := { name := "dyadMakes", fn := fun _ => fun
  | [d1, d2, d3, d4, d5, d6] => { results := [.lit (.bool false)], args := [d1, d2, d3, d4, d5, d6] }
  | _ => none }
def DyadMakesWrongFalsely : Prop := dyadMakesRow.holds Tryd.pinned (OpenSpec.ofChange dyadMakesWrong)

/-- 'ulplaw.RoundCuts': WHATEVER THE INPUT: true; the input reads as it did. -/
def roundCutsSpec : ChangeSpec := { name := "roundCuts", fn := fun _ => fun
  | [d1, d2, d3] => { results := [.lit (.bool true)], args := [d1, d2, d3] }
  | _ => none }
def roundCutsRow : OpenClaim := { program := "yteaakbeemhmciaadoor", sum := "fbe94859188ac3ce1d5438ed5950b318b6ae558bd597c5323418a675629c58d4", func := "ulpwright/ulplaw.RoundCuts", spec := "roundCuts", recurses := true, named := ["math/bits.deBruijn32tab"], apart := false, laid := [("math/bits.deBruijn32tab", laid_math_bits_deBruijn32tab)] }
def RoundCutsSaid : Prop := roundCutsRow.holds Tryd.pinned (OpenSpec.ofChange roundCutsSpec)

/-- ITS FALSE NEIGHBOUR: 'it returns false'. Refute it at one input. -/
def roundCutsWrong : ChangeSpec := { name := "roundCuts", fn := fun _ => fun
  | [d1, d2, d3] => { results := [.lit (.bool false)], args := [d1, d2, d3] }
  | _ => none }
def RoundCutsWrongFalsely : Prop := roundCutsRow.holds Tryd.pinned (OpenSpec.ofChange roundCutsWrong)

/-- 'ulplaw.GrowTurns': WHATEVER THE INPUT: true; the input reads as it did. -/
def growTurnsSpec : ChangeSpec := { name := "growTurns", fn := fun _ => fun
  | [d1, d2, d3, d4, d5, d6] => { results := [.lit (.bool true)], args := [d1, d2, d3, d4, d5, d6] }
  | _ => none }
def growTurnsRow : OpenClaim := { program := "yteaakbeemhmciaadoor", sum := "fbe94859188ac3ce1d5438ed5950b318b6ae558bd597c5323418a675629c58d4", func := "ulpwright/ulplaw.GrowTurns", spec := "growTurns", unfollowed := true, recurses := true, named := ["math/bits.deBruijn32tab"], apart := false, laid := [("math/bits.deBruijn32tab", laid_math_bits_deBruijn32tab)] }
def GrowTurnsSaid : Prop := growTurnsRow.holds Tryd.pinned (OpenSpec.ofChange growTurnsSpec)

/-- ITS FALSE NEIGHBOUR: 'it returns false'. Refute it at one input. -/
def growTurnsWrong : ChangeSpec := { name := "growTurns", fn := fun _ => fun
  | [d1, d2, d3, d4, d5, d6] => { results := [.lit (.bool false)], args := [d1, d2, d3, d4, d5, d6] }
  | _ => none }
def GrowTurnsWrongFalsely : Prop := growTurnsRow.holds Tryd.pinned (OpenSpec.ofChange growTurnsWrong)

/-- 'ulplaw.DyadSums': WHATEVER THE INPUT: true; the input reads as it did. -/
def dyadSumsSpec : ChangeSpec := { name := "dyadSums", fn := fun _ => fun
  | [d1, d2, d3] => { results := [.lit (.bool true)], args := [d1, d2, d3] }
  | _ => none }
def dyadSumsRow : OpenClaim := { program := "yteaakbeemhmciaadoor", sum := "fbe94859188ac3ce1d5438ed5950b318b6ae558bd597c5323418a675629c58d4", func := "ulpwright/ulplaw.DyadSums", spec := "dyadSums", recurses := true, named := ["math/bits.deBruijn32tab"], apart := false, laid := [("math/bits.deBruijn32tab", laid_math_bits_deBruijn32tab)] }
def DyadSumsSaid : Prop := dyadSumsRow.holds Tryd.pinned (OpenSpec.ofChange dyadSumsSpec)

/-- ITS FALSE NEIGHBOUR: 'it returns false'. Refute it at one input. -/
def dyadSumsWrong : ChangeSpec := { name := "dyadSums", fn := fun _ => fun
  | [d1, d2, d3] => { results := [.lit (.bool false)], args := [d1, d2, d3] }
  | _ => none }
def DyadSumsWrongFalsely : Prop := dyadSumsRow.holds Tryd.pinned (OpenSpec.ofChange dyadSumsWrong)

/-- 'ulplaw.ProdDot': WHATEVER THE INPUT: true; the input reads as it did. -/
def prodDotSpec : ChangeSpec := { name := "prodDot", fn := fun _ => fun
  | [d1, d2] => { results := [.lit (.bool true)], args := [d1, d2] }
  | _ => none }
def prodDotRow : OpenClaim := { program := "yteaakbeemhmciaadoor", sum := "fbe94859188ac3ce1d5438ed5950b318b6ae558bd597c5323418a675629c58d4", func := "ulpwright/ulplaw.ProdDot", spec := "prodDot", unfollowed := true, recurses := true, named := ["math/bits.deBruijn32tab"], apart := false, laid := [("math/bits.deBruijn32tab", laid_math_bits_deBruijn32tab)] }
def ProdDotSaid : Prop := prodDotRow.holds Tryd.pinned (OpenSpec.ofChange prodDotSpec)

/-- ITS FALSE NEIGHBOUR: 'it returns false'. Refute it at one input. -/
def prodDotWrong : ChangeSpec := { name := "prodDot", fn := fun _ => fun
  | [d1, d2] => { results := [.lit (.bool false)], args := [d1, d2] }
  | _ => none }
def ProdDotWrongFalsely : Prop := prodDotRow.holds Tryd.pinned (OpenSpec.ofChange prodDotWrong)

/-- 'ulplaw.WholeSays': WHATEVER THE INPUT: true; the input reads as it did. -/
def wholeSaysSpec : ChangeSpec := { name := "wholeSays", fn := fun _ => fun
  | [d1, d2, d3] => { results := [.lit (.bool true)], args := [d1, d2, d3] }
  | _ => none }
def wholeSaysRow : OpenClaim := { program := "yteaakbeemhmciaadoor", sum := "fbe94859188ac3ce1d5438ed5950b318b6ae558bd597c5323418a675629c58d4", func := "ulpwright/ulplaw.WholeSays", spec := "wholeSays", unfollowed := true, recurses := true, named := ["math/bits.deBruijn32tab"], apart := false, laid := [("math/bits.deBruijn32tab", laid_math_bits_deBruijn32tab)] }
def WholeSaysSaid : Prop := wholeSaysRow.holds Tryd.pinned (OpenSpec.ofChange wholeSaysSpec)

/-- ITS FALSE NEIGHBOUR: 'it returns false'. Refute it at one input. -/
def wholeSaysWrong : ChangeSpec := { name := "wholeSays", fn := fun _ => fun
  | [d1, d2, d3] => { results := [.lit (.bool false)], args := [d1, d2, d3] }
  | _ => none }
def WholeSaysWrongFalsely : Prop := wholeSaysRow.holds Tryd.pinned (OpenSpec.ofChange wholeSaysWrong)

/-- 'ulplaw.SumSays': WHATEVER THE INPUT: true; the input reads as it did. -/
def sumSaysSpec : ChangeSpec := { name := "sumSays", fn := fun _ => fun
  | [d1, d2, d3] => { results := [.lit (.bool true)], args := [d1, d2, d3] }
  | _ => none }
def sumSaysRow : OpenClaim := { program := "yteaakbeemhmciaadoor", sum := "fbe94859188ac3ce1d5438ed5950b318b6ae558bd597c5323418a675629c58d4", func := "ulpwright/ulplaw.SumSays", spec := "sumSays", unfollowed := true, recurses := true, named := ["math/bits.deBruijn32tab"], apart := false, laid := [("math/bits.deBruijn32tab", laid_math_bits_deBruijn32tab)] }
def SumSaysSaid : Prop := sumSaysRow.holds Tryd.pinned (OpenSpec.ofChange sumSaysSpec)

/-- ITS FALSE NEIGHBOUR: 'it returns false'. Refute it at one input. -/
def sumSaysWrong : ChangeSpec := { name := "sumSays", fn := fun _ => fun
  | [d1, d2, d3] => { results := [.lit (.bool false)], args := [d1, d2, d3] }
  | _ => none }
def SumSaysWrongFalsely : Prop := sumSaysRow.holds Tryd.pinned (OpenSpec.ofChange sumSaysWrong)

/-- 'ulplaw.SumAll': WHATEVER THE INPUT: true; the input reads as it did. -/
def sumAllSpec : ChangeSpec := { name := "sumAll", fn := fun _ => fun
  | [d1, d2] => { results := [.lit (.bool true)], args := [d1, d2] }
  | _ => none }
def sumAllRow : OpenClaim := { program := "yteaakbeemhmciaadoor", sum := "fbe94859188ac3ce1d5438ed5950b318b6ae558bd597c5323418a675629c58d4", func := "ulpwright/ulplaw.SumAll", spec := "sumAll", unfollowed := true, recurses := true, named := ["math/bits.deBruijn32tab"], apart := false, laid := [("math/bits.deBruijn32tab", laid_math_bits_deBruijn32tab)] }
def SumAllSaid : Prop := sumAllRow.holds Tryd.pinned (OpenSpec.ofChange sumAllSpec)

/-- ITS FALSE NEIGHBOUR: 'it returns false'. Refute it at one input. -/
def sumAllWrong : ChangeSpec := { name := "sumAll", fn := fun _ => fun
  | [d1, d2] => { results := [.lit (.bool false)], args := [d1, d2] }
  | _ => none }
def SumAllWrongFalsely : Prop := sumAllRow.holds Tryd.pinned (OpenSpec.ofChange sumAllWrong)

/-- 'ulplaw.ExactSplits': WHATEVER THE INPUT: true; the input reads as it did. -/
def exactSplitsSpec : ChangeSpec := { name := "exactSplits", fn := fun _ => fun
  | [d1, d2] => { results := [.lit (.bool true)], args := [d1, d2] }
  | _ => none }
def exactSplitsRow : OpenClaim := { program := "yteaakbeemhmciaadoor", sum := "fbe94859188ac3ce1d5438ed5950b318b6ae558bd597c5323418a675629c58d4", func := "ulpwright/ulplaw.ExactSplits", spec := "exactSplits", unfollowed := true, recurses := true, named := ["math/bits.deBruijn32tab"], apart := false, laid := [("math/bits.deBruijn32tab", laid_math_bits_deBruijn32tab)] }
def ExactSplitsSaid : Prop := exactSplitsRow.holds Tryd.pinned (OpenSpec.ofChange exactSplitsSpec)

/-- ITS FALSE NEIGHBOUR: 'it returns false'. Refute it at one input. -/
def exactSplitsWrong : ChangeSpec := { name := "exactSplits", fn := fun _ => fun
  | [d1, d2] => { results := [.lit (.bool false)], args := [d1, d2] }
  | _ => none }
def ExactSplitsWrongFalsely : Prop := exactSplitsRow.holds Tryd.pinned (OpenSpec.ofChange exactSplitsWrong)

/-- 'ulplaw.QuotRem': WHATEVER THE INPUT: true; the input reads as it did. -/
def quotRemSpec : ChangeSpec := { name := "quotRem", fn := fun _ => fun
  | [d1, d2] => { results := [.lit (.bool true)], args := [d1, d2] }
  | _ => none }
def quotRemRow : OpenClaim := { program := "yteaakbeemhmciaadoor", sum := "fbe94859188ac3ce1d5438ed5950b318b6ae558bd597c5323418a675629c58d4", func := "ulpwright/ulplaw.QuotRem", spec := "quotRem", unfollowed := true, recurses := true, named := ["math/bits.deBruijn32tab"], apart := false, laid := [("math/bits.deBruijn32tab", laid_math_bits_deBruijn32tab)] }
def QuotRemSaid : Prop := quotRemRow.holds Tryd.pinned (OpenSpec.ofChange quotRemSpec)

/-- ITS FALSE NEIGHBOUR: 'it returns false'. Refute it at one input. -/
def quotRemWrong : ChangeSpec := { name := "quotRem", fn := fun _ => fun
  | [d1, d2] => { results := [.lit (.bool false)], args := [d1, d2] }
  | _ => none }
def QuotRemWrongFalsely : Prop := quotRemRow.holds Tryd.pinned (OpenSpec.ofChange quotRemWrong)

/-- 'ulplaw.ProdSays': WHATEVER THE INPUT: true; the input reads as it did. -/
def prodSaysSpec : ChangeSpec := { name := "prodSays", fn := fun _ => fun
  | [d1, d2, d3, d4] => { results := [.lit (.bool true)], args := [d1, d2, d3, d4] }
  | _ => none }
def prodSaysRow : OpenClaim := { program := "yteaakbeemhmciaadoor", sum := "fbe94859188ac3ce1d5438ed5950b318b6ae558bd597c5323418a675629c58d4", func := "ulpwright/ulplaw.ProdSays", spec := "prodSays", unfollowed := true, recurses := true, named := ["math/bits.deBruijn32tab"], apart := false, laid := [("math/bits.deBruijn32tab", laid_math_bits_deBruijn32tab)] }
def ProdSaysSaid : Prop := prodSaysRow.holds Tryd.pinned (OpenSpec.ofChange prodSaysSpec)

/-- ITS FALSE NEIGHBOUR: 'it returns false'. Refute it at one input. -/
def prodSaysWrong : ChangeSpec := { name := "prodSays", fn := fun _ => fun
  | [d1, d2, d3, d4] => { results := [.lit (.bool false)], args := [d1, d2, d3, d4] }
  | _ => none }
def ProdSaysWrongFalsely : Prop := prodSaysRow.holds Tryd.pinned (OpenSpec.ofChange prodSaysWrong)

/-- 'ulplaw.QuotSays': WHATEVER THE INPUT: true; the input reads as it did. -/
def quotSaysSpec : ChangeSpec := { name := "quotSays", fn := fun _ => fun
  | [d1, d2, d3] => { results := [.lit (.bool true)], args := [d1, d2, d3] }
  | _ => none }
def quotSaysRow : OpenClaim := { program := "yteaakbeemhmciaadoor", sum := "fbe94859188ac3ce1d5438ed5950b318b6ae558bd597c5323418a675629c58d4", func := "ulpwright/ulplaw.QuotSays", spec := "quotSays", unfollowed := true, recurses := true, named := ["math/bits.deBruijn32tab"], apart := false, laid := [("math/bits.deBruijn32tab", laid_math_bits_deBruijn32tab)] }
def QuotSaysSaid : Prop := quotSaysRow.holds Tryd.pinned (OpenSpec.ofChange quotSaysSpec)

/-- ITS FALSE NEIGHBOUR: 'it returns false'. Refute it at one input. -/
def quotSaysWrong : ChangeSpec := { name := "quotSays", fn := fun _ => fun
  | [d1, d2, d3] => { results := [.lit (.bool false)], args := [d1, d2, d3] }
  | _ => none }
def QuotSaysWrongFalsely : Prop := quotSaysRow.holds Tryd.pinned (OpenSpec.ofChange quotSaysWrong)

/-- 'ulplaw.ExactSays': WHATEVER THE INPUT: true; the input reads as it did. -/
def exactSaysSpec : ChangeSpec := { name := "exactSays", fn := fun _ => fun
  | [d1, d2] => { results := [.lit (.bool true)], args := [d1, d2] }
  | _ => none }
def exactSaysRow : OpenClaim := { program := "yteaakbeemhmciaadoor", sum := "fbe94859188ac3ce1d5438ed5950b318b6ae558bd597c5323418a675629c58d4", func := "ulpwright/ulplaw.ExactSays", spec := "exactSays", unfollowed := true, recurses := true, named := ["math/bits.deBruijn32tab"], apart := false, laid := [("math/bits.deBruijn32tab", laid_math_bits_deBruijn32tab)] }
def ExactSaysSaid : Prop := exactSaysRow.holds Tryd.pinned (OpenSpec.ofChange exactSaysSpec)

/-- ITS FALSE NEIGHBOUR: 'it returns false'. Refute it at one input. -/
def exactSaysWrong : ChangeSpec := { name := "exactSays", fn := fun _ => fun
  | [d1, d2] => { results := [.lit (.bool false)], args := [d1, d2] }
  | _ => none }
def ExactSaysWrongFalsely : Prop := exactSaysRow.holds Tryd.pinned (OpenSpec.ofChange exactSaysWrong)

/- THE SECOND FORM. 'bulk': how many values and letters a reading holds, each counted each time it is reached (what is shared counts as often as it is met; a slice's spare places count too). A statement '..UptoSaid' is the law's where the arguments, and the package variables that the reading takes, are together of bulk at most 1048576: NARROWER than '..Said'. Prove '..Said' where nothing that the law and all that it calls make is longer than what came in: it says more and counts as full. Else prove '..UptoSaid'. A law counts once. -/
mutual
def uptoBulk {H : Type} : DataW H → Nat
  | .lit (.string bytes) => bytes.length + 1
  | .lit _ => 1
  | .nil => 1
  | .ptr d => uptoBulk d + 1
  | .slice elems spare => uptoBulkAll elems + uptoBulkAll spare + 1
  | .agg parts => uptoBulkAll parts + 1
  | .iface _ d => uptoBulk d + 1
  | .map entries => uptoBulkEntries entries + 1
  | .held _ => 1
def uptoBulkAll {H : Type} : List (DataW H) → Nat
  | [] => 0
  | d :: r => uptoBulk d + uptoBulkAll r
def uptoBulkEntries {H : Type} : List (Lit × DataW H) → Nat
  | [] => 0
  | x :: r => uptoBulkEntry x + uptoBulkEntries r
def uptoBulkEntry {H : Type} : Lit × DataW H → Nat
  | (.string bytes, d) => bytes.length + uptoBulk d + 1
  | (_, d) => uptoBulk d + 1
 end
def uptoSmall : (H : Type) → List (DataW H) → Bool := fun _ ds => decide (uptoBulkAll ds ≤ 1048576)
def OpenSpec.upto (s : _root_.Go.ChangeSpec) : _root_.Go.OpenSpec := { _root_.Go.OpenSpec.ofChange s with cond := some uptoSmall }

/-- 'ulplaw.DyadMakes', WHERE WHAT IT READS IS OF BULK AT MOST 1048576: true; the input reads as it did. -/
def dyadMakesUptoRow : OpenClaim := { program := "yteaakbeemhmciaadoor", sum := "fbe94859188ac3ce1d5438ed5950b318b6ae558bd597c5323418a675629c58d4", func := "ulpwright/ulplaw.DyadMakes", spec := "dyadMakes", recurses := true, named := ["math/bits.deBruijn32tab"], apart := false, laid := [("math/bits.deBruijn32tab", laid_math_bits_deBruijn32tab)], narrowed := true }
def DyadMakesUptoSaid : Prop := dyadMakesUptoRow.holds Tryd.pinned (OpenSpec.upto dyadMakesSpec)

/-- 'ulplaw.RoundCuts', WHERE WHAT IT READS IS OF BULK AT MOST 1048576: true; the input reads as it did. -/
def roundCutsUptoRow : OpenClaim := { program := "yteaakbeemhmciaadoor", sum := "fbe94859188ac3ce1d5438ed5950b318b6ae558bd597c5323418a675629c58d4", func := "ulpwright/ulplaw.RoundCuts", spec := "roundCuts", recurses := true, named := ["math/bits.deBruijn32tab"], apart := false, laid := [("math/bits.deBruijn32tab", laid_math_bits_deBruijn32tab)], narrowed := true }
def RoundCutsUptoSaid : Prop := roundCutsUptoRow.holds Tryd.pinned (OpenSpec.upto roundCutsSpec)

/-- 'ulplaw.GrowTurns', WHERE WHAT IT READS IS OF BULK AT MOST 1048576: true; the input reads as it did. -/
def growTurnsUptoRow : OpenClaim := { program := "yteaakbeemhmciaadoor", sum := "fbe94859188ac3ce1d5438ed5950b318b6ae558bd597c5323418a675629c58d4", func := "ulpwright/ulplaw.GrowTurns", spec := "growTurns", unfollowed := true, recurses := true, named := ["math/bits.deBruijn32tab"], apart := false, laid := [("math/bits.deBruijn32tab", laid_math_bits_deBruijn32tab)], narrowed := true }
def GrowTurnsUptoSaid : Prop := growTurnsUptoRow.holds Tryd.pinned (OpenSpec.upto growTurnsSpec)

/-- 'ulplaw.DyadSums', WHERE WHAT IT READS IS OF BULK AT MOST 1048576: true; the input reads as it did. -/
def dyadSumsUptoRow : OpenClaim := { program := "yteaakbeemhmciaadoor", sum := "fbe94859188ac3ce1d5438ed5950b318b6ae558bd597c5323418a675629c58d4", func := "ulpwright/ulplaw.DyadSums", spec := "dyadSums", recurses := true, named := ["math/bits.deBruijn32tab"], apart := false, laid := [("math/bits.deBruijn32tab", laid_math_bits_deBruijn32tab)], narrowed := true }
def DyadSumsUptoSaid : Prop := dyadSumsUptoRow.holds Tryd.pinned (OpenSpec.upto dyadSumsSpec)

/-- 'ulplaw.ProdDot', WHERE WHAT IT READS IS OF BULK AT MOST 1048576: true; the input reads as it did. -/
def prodDotUptoRow : OpenClaim := { program := "yteaakbeemhmciaadoor", sum := "fbe94859188ac3ce1d5438ed5950b318b6ae558bd597c5323418a675629c58d4", func := "ulpwright/ulplaw.ProdDot", spec := "prodDot", unfollowed := true, recurses := true, named := ["math/bits.deBruijn32tab"], apart := false, laid := [("math/bits.deBruijn32tab", laid_math_bits_deBruijn32tab)], narrowed := true }
def ProdDotUptoSaid : Prop := prodDotUptoRow.holds Tryd.pinned (OpenSpec.upto prodDotSpec)

/-- 'ulplaw.WholeSays', WHERE WHAT IT READS IS OF BULK AT MOST 1048576: true; the input reads as it did. -/
def wholeSaysUptoRow : OpenClaim := { program := "yteaakbeemhmciaadoor", sum := "fbe94859188ac3ce1d5438ed5950b318b6ae558bd597c5323418a675629c58d4", func := "ulpwright/ulplaw.WholeSays", spec := "wholeSays", unfollowed := true, recurses := true, named := ["math/bits.deBruijn32tab"], apart := false, laid := [("math/bits.deBruijn32tab", laid_math_bits_deBruijn32tab)], narrowed := true }
def WholeSaysUptoSaid : Prop := wholeSaysUptoRow.holds Tryd.pinned (OpenSpec.upto wholeSaysSpec)

/-- 'ulplaw.SumSays', WHERE WHAT IT READS IS OF BULK AT MOST 1048576: true; the input reads as it did. -/
def sumSaysUptoRow : OpenClaim := { program := "yteaakbeemhmciaadoor", sum := "fbe94859188ac3ce1d5438ed5950b318b6ae558bd597c5323418a675629c58d4", func := "ulpwright/ulplaw.SumSays", spec := "sumSays", unfollowed := true, recurses := true, named := ["math/bits.deBruijn32tab"], apart := false, laid := [("math/bits.deBruijn32tab", laid_math_bits_deBruijn32tab)], narrowed := true }
def SumSaysUptoSaid : Prop := sumSaysUptoRow.holds Tryd.pinned (OpenSpec.upto sumSaysSpec)

/-- 'ulplaw.SumAll', WHERE WHAT IT READS IS OF BULK AT MOST 1048576: true; the input reads as it did. -/
def sumAllUptoRow : OpenClaim := { program := "yteaakbeemhmciaadoor", sum := "fbe94859188ac3ce1d5438ed5950b318b6ae558bd597c5323418a675629c58d4", func := "ulpwright/ulplaw.SumAll", spec := "sumAll", unfollowed := true, recurses := true, named := ["math/bits.deBruijn32tab"], apart := false, laid := [("math/bits.deBruijn32tab", laid_math_bits_deBruijn32tab)], narrowed := true }
def SumAllUptoSaid : Prop := sumAllUptoRow.holds Tryd.pinned (OpenSpec.upto sumAllSpec)

/-- 'ulplaw.ExactSplits', WHERE WHAT IT READS IS OF BULK AT MOST 1048576: true; the input reads as it did. -/
def exactSplitsUptoRow : OpenClaim := { program := "yteaakbeemhmciaadoor", sum := "fbe94859188ac3ce1d5438ed5950b318b6ae558bd597c5323418a675629c58d4", func := "ulpwright/ulplaw.ExactSplits", spec := "exactSplits", unfollowed := true, recurses := true, named := ["math/bits.deBruijn32tab"], apart := false, laid := [("math/bits.deBruijn32tab", laid_math_bits_deBruijn32tab)], narrowed := true }
def ExactSplitsUptoSaid : Prop := exactSplitsUptoRow.holds Tryd.pinned (OpenSpec.upto exactSplitsSpec)

/-- 'ulplaw.QuotRem', WHERE WHAT IT READS IS OF BULK AT MOST 1048576: true; the input reads as it did. -/
def quotRemUptoRow : OpenClaim := { program := "yteaakbeemhmciaadoor", sum := "fbe94859188ac3ce1d5438ed5950b318b6ae558bd597c5323418a675629c58d4", func := "ulpwright/ulplaw.QuotRem", spec := "quotRem", unfollowed := true, recurses := true, named := ["math/bits.deBruijn32tab"], apart := false, laid := [("math/bits.deBruijn32tab", laid_math_bits_deBruijn32tab)], narrowed := true }
def QuotRemUptoSaid : Prop := quotRemUptoRow.holds Tryd.pinned (OpenSpec.upto quotRemSpec)

/-- 'ulplaw.ProdSays', WHERE WHAT IT READS IS OF BULK AT MOST 1048576: true; the input reads as it did. -/
def prodSaysUptoRow : OpenClaim := { program := "yteaakbeemhmciaadoor", sum := "fbe94859188ac3ce1d5438ed5950b318b6ae558bd597c5323418a675629c58d4", func := "ulpwright/ulplaw.ProdSays", spec := "prodSays", unfollowed := true, recurses := true, named := ["math/bits.deBruijn32tab"], apart := false, laid := [("math/bits.deBruijn32tab", laid_math_bits_deBruijn32tab)], narrowed := true }
def ProdSaysUptoSaid : Prop := prodSaysUptoRow.holds Tryd.pinned (OpenSpec.upto prodSaysSpec)

/-- 'ulplaw.QuotSays', WHERE WHAT IT READS IS OF BULK AT MOST 1048576: true; the input reads as it did. -/
def quotSaysUptoRow : OpenClaim := { program := "yteaakbeemhmciaadoor", sum := "fbe94859188ac3ce1d5438ed5950b318b6ae558bd597c5323418a675629c58d4", func := "ulpwright/ulplaw.QuotSays", spec := "quotSays", unfollowed := true, recurses := true, named := ["math/bits.deBruijn32tab"], apart := false, laid := [("math/bits.deBruijn32tab", laid_math_bits_deBruijn32tab)], narrowed := true }
def QuotSaysUptoSaid : Prop := quotSaysUptoRow.holds Tryd.pinned (OpenSpec.upto quotSaysSpec)

/-- 'ulplaw.ExactSays', WHERE WHAT IT READS IS OF BULK AT MOST 1048576: true; the input reads as it did. -/
def exactSaysUptoRow : OpenClaim := { program := "yteaakbeemhmciaadoor", sum := "fbe94859188ac3ce1d5438ed5950b318b6ae558bd597c5323418a675629c58d4", func := "ulpwright/ulplaw.ExactSays", spec := "exactSays", unfollowed := true, recurses := true, named := ["math/bits.deBruijn32tab"], apart := false, laid := [("math/bits.deBruijn32tab", laid_math_bits_deBruijn32tab)], narrowed := true }
def ExactSaysUptoSaid : Prop := exactSaysUptoRow.holds Tryd.pinned (OpenSpec.upto exactSaysSpec)

end Rows
end Go.Proofs.YteaakbeemhmciaaDoor
