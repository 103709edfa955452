/- grow.Turn: the lists of numbers that it searches. -/
import Derived.Test.YthaelmnblgollaaGreatDoorSh
import Derived.Test.YthaelmnblgollaaGreatDoorFloat
set_option linter.unusedVariables false
set_option linter.unusedSimpArgs false
namespace Go.Ulp
open Go.RowKit
/-- what a search leaves -/
def RetIx (w : World) (L : List Nat) (pr : Int → Bool) (e : Ending) (w' : World) : Prop :=
  ∃ i : Int, e = .returned (.int .i64 i) ∧ (0 ≤ i ↔ ∃ j, j < L.length ∧ pr (lb L j) = true) ∧ Below w.heap.size w w'
def tooB (x : Int) : Bool := decide (absOf x ≠ 0) && (decide (absOf x < 2805742567851819008) || decide (6408622269748215808 < absOf x))
/-- the two bounds, captured -/
def LH (w : World) (gl gh : Nat) : Prop := w.cell? ⟨gl, 0, none⟩ = some (.int .u64 2805742567851819008) ∧ w.cell? ⟨gh, 0, none⟩ = some (.int .u64 6408622269748215808)
theorem LH.below {w w' : World} {gl gh : Nat} (h : LH w gl gh) (hb : Below w.heap.size w w') : LH w' gl gh :=
  ⟨(hb.cell (World.block_lt_of_cell? _ _ h.1)).trans h.1, (hb.cell (World.block_lt_of_cell? _ _ h.2)).trans h.2⟩
end Go.Ulp
namespace Go.Proofs.YthaelmnblgollaaGreatDoor
open Go.RowKit Go.Ulp
set_option linter.unusedVariables false
set_option linter.unusedSimpArgs false
set_option maxHeartbeats 1000000
set_option maxRecDepth 100000
end Go.Proofs.YthaelmnblgollaaGreatDoor
