/- SumAll and SumSays: the laws' walks. -/
import Derived.Test.YthaelmnblgollaaGreatDoorSu3
set_option linter.unusedVariables false
set_option linter.unusedSimpArgs false
namespace Go.Ulp
open Go.RowKit
/-- a fresh cell -/
def Fact.cv (B : Nat) (v : Value) : Fact := ⟨fun p w => ∃ g, p = .pointer (some ⟨g, 0, none⟩) ∧ B ≤ g ∧ CV w g v, fun _ _ _ h hb => by
  obtain ⟨g, h1, h2, h3⟩ := h; exact ⟨g, h1, h2, h3.below hb⟩⟩
theorem CV.put {w : World} {g : Nat} {v u : Value} (h : CV w g v) : CV (w.setCell ⟨g, 0, none⟩ u) g u :=
  ⟨World.cell?_setCell_same _ _ _ h.1, by rw [frozen_setCell]; exact h.2⟩
theorem CV.far {w : World} {g b : Nat} {v u : Value} (h : CV w g v) (hne : g ≠ b) : CV (w.setCell ⟨b, 0, none⟩ u) g v :=
  ⟨by rw [World.cell?_setCell_other (h := fun e => hne (congrArg Addr.block e).symm)]; exact h.1, by rw [frozen_setCell]; exact h.2⟩
theorem neg_nat (b : Nat) (hb : b < 18446744073709551616) : ∃ nb : Nat, (nb : Int) = negOf (b : Int) ∧ nb < 18446744073709551616 ∧ (b : Int) % 9223372036854775808 + sgb (!negB (b : Int)) = (nb : Int) := by
  have h := negOf_bd (b : Int) (by omega) (by omega)
  obtain ⟨nb, e⟩ := Int.eq_ofNat_of_zero_le h.1
  refine ⟨nb, e.symm, by omega, ?_⟩
  rw [← e]
  unfold negOf sgb negB
  by_cases c : (b : Int) < 9223372036854775808
  · rw [if_pos c, decide_eq_false (by omega)]
    rw [if_pos (by rfl)]; omega
  · rw [if_neg c, decide_eq_true (by omega)]
    rw [if_neg (by decide)]; omega
end Go.Ulp
namespace Go.Proofs.YthaelmnblgollaaGreatDoor
open Go.RowKit Go.Ulp
set_option linter.unusedVariables false
set_option linter.unusedSimpArgs false
set_option maxHeartbeats 2000000
set_option maxRecDepth 100000
end Go.Proofs.YthaelmnblgollaaGreatDoor
