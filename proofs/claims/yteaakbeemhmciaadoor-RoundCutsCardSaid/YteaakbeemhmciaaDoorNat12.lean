/- nat: Cmp Add Sub Mul Div of lists as they are handed in (printed by nat12.py). -/
import Derived.Test.YteaakbeemhmciaaDoorNat11
import Derived.Test.YteaakbeemhmciaaDoorNat4
set_option linter.unusedVariables false
set_option linter.unusedSimpArgs false
namespace Go.Ulp
open Go.RowKit
/-- an answer: t0 tells what is wrong; else the number n -/
def SaysN (t0 : Int) (n : Nat) (w : World) (e : Ending) (w' : World) : Prop :=
  ∃ ro rn rc t, e = .returned (.tuple #[.slice ro rn rc, .int .i64 t]) ∧ Below w.heap.size w w' ∧ (t0 ≠ 0 → rn = 0 ∧ t = t0) ∧ (t0 = 0 → t = 0 ∧ rn = (limbs n).length ∧ Ns .u32 w' ro rc (limbs n))
def SaysN2 (t0 : Int) (q r : Nat) (w : World) (e : Ending) (w' : World) : Prop :=
  ∃ ro rn rc so sn sc t, e = .returned (.tuple #[.slice ro rn rc, .slice so sn sc, .int .i64 t]) ∧ Below w.heap.size w w' ∧ (t0 ≠ 0 → rn = 0 ∧ sn = 0 ∧ t = t0) ∧ (t0 = 0 → t = 0 ∧ rn = (limbs q).length ∧ Ns .u32 w' ro rc (limbs q) ∧ sn = (limbs r).length ∧ Ns .u32 w' so sc (limbs r))
def SaysI (t0 : Int) (n : Int) (w : World) (e : Ending) (w' : World) : Prop :=
  ∃ v t, e = .returned (.tuple #[.int .i64 v, .int .i64 t]) ∧ Below w.heap.size w w' ∧ (t0 ≠ 0 → v = 0 ∧ t = t0) ∧ (t0 = 0 → t = 0 ∧ v = n)
theorem bs2 (w : World) (x y : Value) (t : TypeId) : (w.alloc (.cells #[x, y] t)).cell? ⟨w.heap.size, 0, none⟩ = some x ∧ (w.alloc (.cells #[x, y] t)).cell? ⟨w.heap.size, 1, none⟩ = some y := by
  refine ⟨?_, ?_⟩ <;> (rw [World.cell?_alloc_at (hn := rfl)]; rfl)
end Go.Ulp
namespace Go.Proofs.YteaakbeemhmciaaDoor
open Go.RowKit Go.Ulp
set_option linter.unusedVariables false
set_option linter.unusedSimpArgs false
set_option maxHeartbeats 1000000
set_option maxRecDepth 100000
end Go.Proofs.YteaakbeemhmciaaDoor
