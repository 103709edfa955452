/- Is there any in a list? -/
import Derived.Test.YteaakbeemhmciaaDoorSu0
set_option linter.unusedVariables false
set_option linter.unusedSimpArgs false
namespace Go.Ulp
open Go.RowKit
theorem anyTo_iff (p : Int → Bool) (L : List Nat) : ∀ n, anyTo p L n = true ↔ ∃ j, j < n ∧ p (lb L j) = true
  | 0 => ⟨(fun h => by cases h), (fun ⟨j, h, _⟩ => by omega)⟩
  | n + 1 => by
    have h := anyTo_iff p L n
    unfold anyTo
    rw [Bool.or_eq_true, h]
    constructor
    · rintro (⟨j, h1, h2⟩ | h2)
      · exact ⟨j, by omega, h2⟩
      · exact ⟨n, by omega, h2⟩
    · rintro ⟨j, h1, h2⟩
      by_cases e : j = n
      · right; rw [← e]; exact h2
      · left; exact ⟨j, by omega, h2⟩
theorem anyTo_false (p : Int → Bool) (L : List Nat) (n : Nat) : anyTo p L n = false ↔ ∀ j, j < n → p (lb L j) = false := by
  rw [← Bool.not_eq_true, anyTo_iff]
  constructor
  · intro h j hj
    cases e : p (lb L j)
    · rfl
    · exact absurd ⟨j, hj, e⟩ h
  · rintro h ⟨j, hj, e⟩
    rw [h j hj] at e; cases e
def noVal (x : Int) : Bool := !hasVal x
def sayNo (L : List Nat) (i : Nat) : Int := if anyTo noVal L i = true then 4 else 0
theorem sayNo_yes {L : List Nat} {i : Nat} (h : hasVal (lb L i) = false) : sayNo L (i + 1) = 4 := by
  unfold sayNo anyTo noVal; rw [h]; simp
theorem sayNo_no {L : List Nat} {i : Nat} (h : hasVal (lb L i) = true) : sayNo L (i + 1) = sayNo L i := by
  unfold sayNo; rw [show anyTo noVal L (i + 1) = (anyTo noVal L i || noVal (lb L i)) from rfl]; unfold noVal; rw [h]; simp
theorem sayNo_or (L : List Nat) (i : Nat) : sayNo L i = 4 ∨ sayNo L i = 0 := by unfold sayNo; split; exact .inl rfl; exact .inr rfl
end Go.Ulp
