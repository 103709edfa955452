/- prod.Mul and what is to be told of a product. -/
import Derived.Test.YtincggkdlegjjaaDoorPr0
set_option linter.unusedVariables false
set_option linter.unusedSimpArgs false
namespace Go.Ulp
open Go.RowKit
/-- the bounds of a sum, of what lies on one level -/
theorem addD_gen (A B : Nat) (lo : Int) (hlo : lo ≤ 0) (hB : -lo ≤ B) (D E : Dy) (hD : D.1.natAbs < 2 ^ A ∧ lo ≤ D.2 ∧ D.2 ≤ lo + B) (hE : E.1.natAbs < 2 ^ A ∧ lo ≤ E.2 ∧ E.2 ≤ lo + B) :
    (addD D E).1.natAbs < 2 ^ (A + B + 1) ∧ lo ≤ (addD D E).2 ∧ (addD D E).2 ≤ lo + B + (A + B + 1) := by
  have hm : lo ≤ min D.2 E.2 ∧ min D.2 E.2 ≤ lo + B := by omega
  have h1 : (sc D.1 D.2 (min D.2 E.2)).natAbs < 2 ^ (A + B) := by
    unfold sc
    exact abs_weak (abs_mul_pw_lt hD.1) (by omega)
  have h2 : (sc E.1 E.2 (min D.2 E.2)).natAbs < 2 ^ (A + B) := by
    unfold sc
    exact abs_weak (abs_mul_pw_lt hE.1) (by omega)
  obtain ⟨k1, k2⟩ := nrm_bd (sc D.1 D.2 (min D.2 E.2) + sc E.1 E.2 (min D.2 E.2)) (min D.2 E.2) (A + B + 1) (abs_add_lt h1 h2)
  refine ⟨k1, ?_, ?_⟩
  · show lo ≤ (nrm _ _).2; rcases k2 with k | k <;> omega
  · show (nrm _ _).2 ≤ lo + B + (A + B + 1); rcases k2 with k | k <;> omega
theorem mulD_fv (x y : Int) (hx : 0 ≤ x ∧ x < 18446744073709551616) (hy : 0 ≤ y ∧ y < 18446744073709551616) : (mulD (fv x) (fv y)).1.natAbs < 2 ^ 106 ∧ -2148 ≤ (mulD (fv x) (fv y)).2 ∧ (mulD (fv x) (fv y)).2 ≤ 2154 := by
  obtain ⟨-, a1, a2, a3⟩ := fv_bd x hx.1 hx.2
  obtain ⟨-, b1, b2, b3⟩ := fv_bd y hy.1 hy.2
  have h1 : ((fv x).1 * (fv y).1).natAbs < 2 ^ (53 + 53) := abs_mul_lt a1 b1
  obtain ⟨k1, k2⟩ := nrm_bd ((fv x).1 * (fv y).1) ((fv x).2 + (fv y).2) (53 + 53) h1
  refine ⟨k1, ?_, ?_⟩
  · show -2148 ≤ (nrm _ _).2; rcases k2 with k | k <;> omega
  · show (nrm _ _).2 ≤ 2154; rcases k2 with k | k <;> omega
theorem VD.mk {w : World} {D : Dy} {am : Option Addr} {cm : Nat} (h : Ns .u32 w am cm (limbs D.1.natAbs)) : VD w D (.agg #[.bool (decide (D.1 < 0)), .slice am (limbs D.1.natAbs).length cm, .int .i64 D.2]) := ⟨am, cm, rfl, h⟩
theorem inf_not_zer {x : Int} (h : isInf x = true) : isZer x = false := by
  unfold isInf at h
  unfold isZer
  rw [beq_iff_eq] at h
  rw [h]; rfl
theorem limbs_short (A n : Nat) (hn : A ≤ 32 * n) (M : Nat) (h : M < 2 ^ A) : (limbs M).length ≤ n :=
  (limbs_le_bits M n).2 (Nat.lt_of_lt_of_le h (Nat.pow_le_pow_right (by omega) hn))
end Go.Ulp
namespace Go.Proofs.YtincggkdlegjjaaDoor
open Go.RowKit Go.Ulp
set_option linter.unusedVariables false
set_option linter.unusedSimpArgs false
set_option maxHeartbeats 2000000
set_option maxRecDepth 100000
end Go.Proofs.YtincggkdlegjjaaDoor
