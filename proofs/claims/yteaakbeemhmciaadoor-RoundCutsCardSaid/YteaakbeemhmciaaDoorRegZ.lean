/- What is known of whole numbers among the values of a region. -/
import Derived.Test.YteaakbeemhmciaaDoorReg
import Derived.Test.YteaakbeemhmciaaDoorZ7
set_option linter.unusedVariables false
set_option linter.unusedSimpArgs false
namespace Go.Ulp
open Go.RowKit
/-- a value that is the whole number x -/
def ZD (t : TypeId) (w : World) (x : Int) (v : Value) : Prop := ∃ ao cap, v = .agg #[.bool (zneg x), .slice ao (zl x).length cap] ∧ Nz t w ao cap (zl x)
theorem ZD.below {t : TypeId} {w w' : World} {x : Int} {v : Value} (h : ZD t w x v) (hb : Below w.heap.size w w') : ZD t w' x v := by
  obtain ⟨ao, cap, h1, h2⟩ := h; exact ⟨ao, cap, h1, h2.below hb⟩
def Fact.z (t : TypeId) (x : Int) : Fact := ⟨fun v w => ZD t w x v, fun _ _ _ h hb => h.below hb⟩
end Go.Ulp
