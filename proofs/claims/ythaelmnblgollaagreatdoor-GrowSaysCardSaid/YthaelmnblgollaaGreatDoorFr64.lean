/- Lists of numbers of 64 bits, as they come in. -/
import Derived.Test.YthaelmnblgollaaGreatDoorFrame2
set_option linter.unusedVariables false
set_option linter.unusedSimpArgs false
namespace Go.Ulp
open Go.RowKit Go.WideShapes Go.ChangeShapes Go.Joins Go.Deep
section
variable {H : Type} {enc : TypeId × Value → H} {P : Program} {w : World} {base : Nat} {spare : Nat → Bool} {held : Bool}
theorem read_nums64 {r : Reach} {b0 : Nat} {t e : TypeId} {v : Value} {d : DataW H} {p : List MemPlace} (ht : P.underlying t = some (.slice e)) (he : P.underlying e = some (.int .u64)) (hc : P.cellsOf e = 1)
    (hv : Value.okWide P w r b0 t v) (h : DataW.Trod enc P w base spare held t v d p) : ∃ (L : List Nat) (ao : Option Addr) (cap : Nat), v = .slice ao L.length cap ∧ Ns .u64 w ao cap L ∧ AllLt 18446744073709551616 L := by
  obtain ⟨a, len, cap, rfl⟩ := okWide_slice ht hv
  obtain ⟨n, h⟩ := h
  exact read_nums0 (B := 18446744073709551616) ht he hc (fun z hz => by have := bounds_u64 hz; omega) h
end
end Go.Ulp
