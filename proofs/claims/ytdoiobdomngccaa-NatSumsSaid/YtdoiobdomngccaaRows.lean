/-
  No cell of these rows narrows 'for every input' (looked for: loops, veiled, ifaces, maps, wideKeys, modest, calm, conditions, laid).
  DERIVED. THE GIVEN ROWS OF THIS SEAT. 8 by the template 'for every input the law returns true; each argument reads behind the call as it read before'; 0 by the template 'total and deterministic' (their statements: YtdoiobdomngccaaTotals.lean).
  GIVEN WITH THE SEED: the statements are not yours to turn. If you find one false, say at which input.
  Laid BY PROGRAM, IN A SANDBOX (cutbox-rows.mjs): the forced cells as the released guide's own fill.sh prints them over the translation 2fb997c904f1d646… (all of the seat's roots in one cut). By AI agents, Wed Nov 11 2026. No macro, syntax, notation, axiom, sorry.
-/
import Derived.Test.YtdoiobdomngccaaChecked
import GoSem.Claim
import GoSem.ClaimJoined
import GoSem.ClaimMapViews
import Derived.JoinedTies
import Derived.KernelRfl
namespace Go.Proofs.Ytdoiobdomngccaa
/- THE CELL 'sum', in the pinned program and in every row, IS THE sha256 OF THE DUMP (.gsa) THAT YtdoiobdomngccaaProg.lean LOADS. Nothing in Lean hashes anything: it is a label: what it is worth is what the hold of that sum in a sandbox is worth. -/
noncomputable def Try.pinned : Pinned := { name := "ytdoiobdomngccaa", sum := "2fb997c904f1d646776b917c5aa3ddba9f3a39dcf944a0a1c2f72706c7a46efc", checked := Try.checked }
namespace Rows
def none {H : Type} : Left H := { results := [], args := [] }

/-- 'ulplaw.Names': WHATEVER THE INPUT: true; the input reads as it did. -/
def namesSpec : ChangeSpec := { name := "names", fn := fun _ => fun
  | [] => { results := [.lit (.bool true)], args := [] }
  | _ => none }
def namesRow : OpenClaim := { program := "ytdoiobdomngccaa", sum := "2fb997c904f1d646776b917c5aa3ddba9f3a39dcf944a0a1c2f72706c7a46efc", func := "ulpwright/ulplaw.Names", spec := "names", apart := false }
def NamesSaid : Prop := namesRow.holds Try.pinned (OpenSpec.ofChange namesSpec)

/-- ITS FALSE NEIGHBOUR: 'it returns false'. Refute it at one input. -/
def namesWrong : ChangeSpec := { name := "names", fn := fun _ => fun
  | [] => { results := [.lit (.bool false)], args := [] }
  | _ => none }
def NamesWrongFalsely : Prop := namesRow.holds Try.pinned (OpenSpec.ofChange namesWrong)

/-- 'ulplaw.FloatParts': WHATEVER THE INPUT: true; the input reads as it did. -/
def floatPartsSpec : ChangeSpec := { name := "floatParts", fn := fun _ => fun
  | [d1, d2, d3, d4] => { results := [.lit (.bool true)], args := [d1, d2, d3, d4] }
  | _ => none }
def floatPartsRow : OpenClaim := { program := "ytdoiobdomngccaa", sum := "2fb997c904f1d646776b917c5aa3ddba9f3a39dcf944a0a1c2f72706c7a46efc", func := "ulpwright/ulplaw.FloatParts", spec := "floatParts", apart := false }
def FloatPartsSaid : Prop := floatPartsRow.holds Try.pinned (OpenSpec.ofChange floatPartsSpec)

/-- ITS FALSE NEIGHBOUR: 'it returns false'. Refute it at one input. -/
def floatPartsWrong : ChangeSpec := { name := "floatParts", fn := fun _ => fun
  | [d1, d2, d3, d4] => { results := [.lit (.bool false)], args := [d1, d2, d3, d4] }
  | _ => none }
def FloatPartsWrongFalsely : Prop := floatPartsRow.holds Try.pinned (OpenSpec.ofChange floatPartsWrong)

/-- 'ulplaw.FloatRanks': WHATEVER THE INPUT: true; the input reads as it did. -/
def floatRanksSpec : ChangeSpec := { name := "floatRanks", fn := fun _ => fun
  | [d1, d2] => { results := [.lit (.bool true)], args := [d1, d2] }
  | _ => none }
def floatRanksRow : OpenClaim := { program := "ytdoiobdomngccaa", sum := "2fb997c904f1d646776b917c5aa3ddba9f3a39dcf944a0a1c2f72706c7a46efc", func := "ulpwright/ulplaw.FloatRanks", spec := "floatRanks", apart := false }
def FloatRanksSaid : Prop := floatRanksRow.holds Try.pinned (OpenSpec.ofChange floatRanksSpec)

/-- ITS FALSE NEIGHBOUR: 'it returns false'. Refute it at one input. -/
def floatRanksWrong : ChangeSpec := { name := "floatRanks", fn := fun _ => fun
  | [d1, d2] => { results := [.lit (.bool false)], args := [d1, d2] }
  | _ => none }
def FloatRanksWrongFalsely : Prop := floatRanksRow.holds Try.pinned (OpenSpec.ofChange floatRanksWrong)

/-- 'ulplaw.CoinSays': WHATEVER THE INPUT: true; the input reads as it did. -/
def coinSaysSpec : ChangeSpec := { name := "coinSays", fn := fun _ => fun
  | [d1, d2, d3, d4, d5] => { results := [.lit (.bool true)], args := [d1, d2, d3, d4, d5] }
  | _ => none }
def coinSaysRow : OpenClaim := { program := "ytdoiobdomngccaa", sum := "2fb997c904f1d646776b917c5aa3ddba9f3a39dcf944a0a1c2f72706c7a46efc", func := "ulpwright/ulplaw.CoinSays", spec := "coinSays", unfollowed := true, recurses := true, apart := false }
def CoinSaysSaid : Prop := coinSaysRow.holds Try.pinned (OpenSpec.ofChange coinSaysSpec)

/-- ITS FALSE NEIGHBOUR: 'it returns false'. Refute it at one input. -/
def coinSaysWrong : ChangeSpec := { name := "coinSays", fn := fun _ => fun
  | [d1, d2, d3, d4, d5] => { results := [.lit (.bool false)], args := [d1, d2, d3, d4, d5] }
  | _ => none }
def CoinSaysWrongFalsely : Prop := coinSaysRow.holds Try.pinned (OpenSpec.ofChange coinSaysWrong)

/-- 'ulplaw.CoinLaplace': WHATEVER THE INPUT: true; the input reads as it did. -/
def coinLaplaceSpec : ChangeSpec := { name := "coinLaplace", fn := fun _ => fun
  | [d1, d2, d3, d4] => { results := [.lit (.bool true)], args := [d1, d2, d3, d4] }
  | _ => none }
def coinLaplaceRow : OpenClaim := { program := "ytdoiobdomngccaa", sum := "2fb997c904f1d646776b917c5aa3ddba9f3a39dcf944a0a1c2f72706c7a46efc", func := "ulpwright/ulplaw.CoinLaplace", spec := "coinLaplace", unfollowed := true, recurses := true, apart := false }
def CoinLaplaceSaid : Prop := coinLaplaceRow.holds Try.pinned (OpenSpec.ofChange coinLaplaceSpec)

/-- ITS FALSE NEIGHBOUR: 'it returns false'. Refute it at one input. -/
def coinLaplaceWrong : ChangeSpec := { name := "coinLaplace", fn := fun _ => fun
  | [d1, d2, d3, d4] => { results := [.lit (.bool false)], args := [d1, d2, d3, d4] }
  | _ => none }
def CoinLaplaceWrongFalsely : Prop := coinLaplaceRow.holds Try.pinned (OpenSpec.ofChange coinLaplaceWrong)

/-- 'ulplaw.SpanSets': WHATEVER THE INPUT: true; the input reads as it did. -/
def spanSetsSpec : ChangeSpec := { name := "spanSets", fn := fun _ => fun
  | [d1, d2, d3] => { results := [.lit (.bool true)], args := [d1, d2, d3] }
  | _ => none }
def spanSetsRow : OpenClaim := { program := "ytdoiobdomngccaa", sum := "2fb997c904f1d646776b917c5aa3ddba9f3a39dcf944a0a1c2f72706c7a46efc", func := "ulpwright/ulplaw.SpanSets", spec := "spanSets", recurses := true, apart := false }
def SpanSetsSaid : Prop := spanSetsRow.holds Try.pinned (OpenSpec.ofChange spanSetsSpec)

/-- ITS FALSE NEIGHBOUR: 'it returns false'. Refute it at one input. -/
def spanSetsWrong : ChangeSpec := { name := "spanSets", fn := fun _ => fun
  | [d1, d2, d3] => { results := [.lit (.bool false)], args := [d1, d2, d3] }
  | _ => none }
def SpanSetsWrongFalsely : Prop := spanSetsRow.holds Try.pinned (OpenSpec.ofChange spanSetsWrong)

/-- 'ulplaw.RoundSays': WHATEVER THE INPUT: true; the input reads as it did. -/
def roundSaysSpec : ChangeSpec := { name := "roundSays", fn := fun _ => fun
  | [d1, d2, d3] => { results := [.lit (.bool true)], args := [d1, d2, d3] }
  | _ => none }
def roundSaysRow : OpenClaim := { program := "ytdoiobdomngccaa", sum := "2fb997c904f1d646776b917c5aa3ddba9f3a39dcf944a0a1c2f72706c7a46efc", func := "ulpwright/ulplaw.RoundSays", spec := "roundSays", unfollowed := true, recurses := true, apart := false }
def RoundSaysSaid : Prop := roundSaysRow.holds Try.pinned (OpenSpec.ofChange roundSaysSpec)

/-- ITS FALSE NEIGHBOUR: 'it returns false'. Refute it at one input. -/
def roundSaysWrong : ChangeSpec := { name := "roundSays", fn := fun _ => fun
  | [d1, d2, d3] => { results := [.lit (.bool false)], args := [d1, d2, d3] }
  | _ => none }
def RoundSaysWrongFalsely : Prop := roundSaysRow.holds Try.pinned (OpenSpec.ofChange roundSaysWrong)

/-- 'ulplaw.NatSums': WHATEVER THE INPUT: true; the input reads as it did. -/
def natSumsSpec : ChangeSpec := { name := "natSums", fn := fun _ => fun
  | [d1, d2, d3] => { results := [.lit (.bool true)], args := [d1, d2, d3] }
  | _ => none }
def natSumsRow : OpenClaim := { program := "ytdoiobdomngccaa", sum := "2fb997c904f1d646776b917c5aa3ddba9f3a39dcf944a0a1c2f72706c7a46efc", func := "ulpwright/ulplaw.NatSums", spec := "natSums", recurses := true, apart := false }
def NatSumsSaid : Prop := natSumsRow.holds Try.pinned (OpenSpec.ofChange natSumsSpec)

/-- ITS FALSE NEIGHBOUR: 'it returns false'. Refute it at one input. -/
def natSumsWrong : ChangeSpec := { name := "natSums", fn := fun _ => fun
  | [d1, d2, d3] => { results := [.lit (.bool false)], args := [d1, d2, d3] }
  | _ => none }
def NatSumsWrongFalsely : Prop := natSumsRow.holds Try.pinned (OpenSpec.ofChange natSumsWrong)

/- THE SECOND FORM. 'bulk': how many values and letters a reading holds, each counted each time it is reached (what is shared counts as often as it is met; a slice's spare places count too). A statement '..UptoSaid' is the law's where the arguments, and the package variables that the reading takes, are together of bulk at most 1048576: NARROWER than '..Said'. Prove '..Said' where nothing that the law and all that it calls make is longer than what came in: it says more and counts as full. Else prove '..UptoSaid'. A law counts once. -/
mutual
def uptoBulk {H : Type} : DataW H → Nat
  | .lit (.string bytes) => bytes.length + 1
  | .lit _ => 1
  | .nil => 1
  | .ptr d => uptoBulk d + 1
  | .slice elems spare => uptoBulkAll elems + uptoBulkAll spare + 1
  | .agg parts => uptoBulkAll parts + 1
  | .iface _ d => uptoBulk d + 1
  | .map entries => uptoBulkEntries entries + 1
  | .held _ => 1
def uptoBulkAll {H : Type} : List (DataW H) → Nat
  | [] => 0
  | d :: r => uptoBulk d + uptoBulkAll r
def uptoBulkEntries {H : Type} : List (Lit × DataW H) → Nat
  | [] => 0
  | x :: r => uptoBulkEntry x + uptoBulkEntries r
def uptoBulkEntry {H : Type} : Lit × DataW H → Nat
  | (.string bytes, d) => bytes.length + uptoBulk d + 1
  | (_, d) => uptoBulk d + 1
 end
def uptoSmall : (H : Type) → List (DataW H) → Bool := fun _ ds => decide (uptoBulkAll ds ≤ 1048576)
def OpenSpec.upto (s : _root_.Go.ChangeSpec) : _root_.Go.OpenSpec := { _root_.Go.OpenSpec.ofChange s with cond := some uptoSmall }

/-- 'ulplaw.Names', WHERE WHAT IT READS IS OF BULK AT MOST 1048576: true; the input reads as it did. -/
def namesUptoRow : OpenClaim := { program := "ytdoiobdomngccaa", sum := "2fb997c904f1d646776b917c5aa3ddba9f3a39dcf944a0a1c2f72706c7a46efc", func := "ulpwright/ulplaw.Names", spec := "names", apart := false, narrowed := true }
def NamesUptoSaid : Prop := namesUptoRow.holds Try.pinned (OpenSpec.upto namesSpec)

/-- 'ulplaw.FloatParts', WHERE WHAT IT READS IS OF BULK AT MOST 1048576: true; the input reads as it did. -/
def floatPartsUptoRow : OpenClaim := { program := "ytdoiobdomngccaa", sum := "2fb997c904f1d646776b917c5aa3ddba9f3a39dcf944a0a1c2f72706c7a46efc", func := "ulpwright/ulplaw.FloatParts", spec := "floatParts", apart := false, narrowed := true }
def FloatPartsUptoSaid : Prop := floatPartsUptoRow.holds Try.pinned (OpenSpec.upto floatPartsSpec)

/-- 'ulplaw.FloatRanks', WHERE WHAT IT READS IS OF BULK AT MOST 1048576: true; the input reads as it did. -/
def floatRanksUptoRow : OpenClaim := { program := "ytdoiobdomngccaa", sum := "2fb997c904f1d646776b917c5aa3ddba9f3a39dcf944a0a1c2f72706c7a46efc", func := "ulpwright/ulplaw.FloatRanks", spec := "floatRanks", apart := false, narrowed := true }
def FloatRanksUptoSaid : Prop := floatRanksUptoRow.holds Try.pinned (OpenSpec.upto floatRanksSpec)

/-- 'ulplaw.CoinSays', WHERE WHAT IT READS IS OF BULK AT MOST 1048576: true; the input reads as it did. -/
def coinSaysUptoRow : OpenClaim := { program := "ytdoiobdomngccaa", sum := "2fb997c904f1d646776b917c5aa3ddba9f3a39dcf944a0a1c2f72706c7a46efc", func := "ulpwright/ulplaw.CoinSays", spec := "coinSays", unfollowed := true, recurses := true, apart := false, narrowed := true }
def CoinSaysUptoSaid : Prop := coinSaysUptoRow.holds Try.pinned (OpenSpec.upto coinSaysSpec)

/-- 'ulplaw.CoinLaplace', WHERE WHAT IT READS IS OF BULK AT MOST 1048576: true; the input reads as it did. -/
def coinLaplaceUptoRow : OpenClaim := { program := "ytdoiobdomngccaa", sum := "2fb997c904f1d646776b917c5aa3ddba9f3a39dcf944a0a1c2f72706c7a46efc", func := "ulpwright/ulplaw.CoinLaplace", spec := "coinLaplace", unfollowed := true, recurses := true, apart := false, narrowed := true }
def CoinLaplaceUptoSaid : Prop := coinLaplaceUptoRow.holds Try.pinned (OpenSpec.upto coinLaplaceSpec)

/-- 'ulplaw.SpanSets', WHERE WHAT IT READS IS OF BULK AT MOST 1048576: true; the input reads as it did. -/
def spanSetsUptoRow : OpenClaim := { program := "ytdoiobdomngccaa", sum := "2fb997c904f1d646776b917c5aa3ddba9f3a39dcf944a0a1c2f72706c7a46efc", func := "ulpwright/ulplaw.SpanSets", spec := "spanSets", recurses := true, apart := false, narrowed := true }
def SpanSetsUptoSaid : Prop := spanSetsUptoRow.holds Try.pinned (OpenSpec.upto spanSetsSpec)

/-- 'ulplaw.RoundSays', WHERE WHAT IT READS IS OF BULK AT MOST 1048576: true; the input reads as it did. -/
def roundSaysUptoRow : OpenClaim := { program := "ytdoiobdomngccaa", sum := "2fb997c904f1d646776b917c5aa3ddba9f3a39dcf944a0a1c2f72706c7a46efc", func := "ulpwright/ulplaw.RoundSays", spec := "roundSays", unfollowed := true, recurses := true, apart := false, narrowed := true }
def RoundSaysUptoSaid : Prop := roundSaysUptoRow.holds Try.pinned (OpenSpec.upto roundSaysSpec)

/-- 'ulplaw.NatSums', WHERE WHAT IT READS IS OF BULK AT MOST 1048576: true; the input reads as it did. -/
def natSumsUptoRow : OpenClaim := { program := "ytdoiobdomngccaa", sum := "2fb997c904f1d646776b917c5aa3ddba9f3a39dcf944a0a1c2f72706c7a46efc", func := "ulpwright/ulplaw.NatSums", spec := "natSums", recurses := true, apart := false, narrowed := true }
def NatSumsUptoSaid : Prop := natSumsUptoRow.holds Try.pinned (OpenSpec.upto natSumsSpec)

end Rows
end Go.Proofs.Ytdoiobdomngccaa
