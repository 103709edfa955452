/- Lists of numbers of 64 bits, as they come in, with their reach. -/
import Derived.Test.YtincggkdlegjjaaFr64
import Derived.SizedLaws
set_option linter.unusedVariables false
set_option linter.unusedSimpArgs false
namespace Go.Ulp
open Go.RowKit Go.WideShapes Go.ChangeShapes Go.Joins Go.Deep
section
variable {H : Type} {enc : TypeId × Value → H} {P : Program} {w : World} {base : Nat} {spare : Nat → Bool} {held : Bool}
theorem read_nums64s {r : Reach} {b0 : Nat} {t e : TypeId} {v : Value} {d : DataW H} {p : List MemPlace} (ht : P.underlying t = some (.slice e)) (he : P.underlying e = some (.int .u64)) (hc : P.cellsOf e = 1)
    (hv : Value.okWide P w r b0 t v) (h : DataW.Trod enc P w base spare held t v d p) : ∃ (L : List Nat) (ao : Option Addr) (cap : Nat), v = .slice ao L.length cap ∧ Ns .u64 w ao cap L ∧ AllLt 18446744073709551616 L ∧ (L = [] ∨ ∃ E S, d = .slice E S ∧ L.length ≤ E.length + S.length) := by
  obtain ⟨L, ao, cap, e1, hN, hL⟩ := read_nums64 ht he hc hv h
  subst e1
  refine ⟨L, ao, cap, rfl, hN, hL, ?_⟩
  obtain ⟨n, h⟩ := h
  rcases open_ints ht he hc h with ⟨hcs, _⟩ | ⟨a, len, cap', zs, hcs, _, hle, hmax, hlen, hx, _, _⟩
  · injection hcs with hcs
    injection hcs with _ h2 _
    exact .inl (List.length_eq_zero_iff.1 h2)
  · injection hcs with hcs
    injection hcs with _ h2 _
    have hzl : len ≤ zs.length := by rw [hlen]; split <;> omega
    refine .inr ⟨_, _, (Prod.mk.inj hx).1, ?_⟩
    simp only [lits, List.length_map, List.length_take, List.length_drop]
    omega
end
end Go.Ulp
