/- HighBits. -/
import Derived.Test.YtincggkdlegjjaaDoorEs0
set_option linter.unusedVariables false
set_option linter.unusedSimpArgs false
namespace Go.Ulp
open Go.RowKit
theorem fv_sign (x : Int) (h : 0 < (fv x).1.natAbs) : decide ((fv x).1 < 0) = negB x := by
  have hs := sgn_nrm (sg (negB x) (mantOf x)) (dexp x)
  have hm := (mantOf_bd x).1
  have e : (nrm (sg (negB x) (mantOf x)) (dexp x)).1 = (fv x).1 := rfl
  rw [e] at hs
  by_cases hm0 : mantOf x = 0
  · have : (fv x).1 = 0 := by
      show (nrm _ _).1 = 0
      rw [nrm_zero_iff, hm0]; cases negB x <;> rfl
    omega
  · cases hb : negB x
    · rw [hb] at hs
      rw [show sg false (mantOf x) = mantOf x from rfl, show sgn (mantOf x) = 1 from cmpI_g (by omega)] at hs
      refine decide_eq_false (fun h9 => ?_)
      rw [show sgn (fv x).1 = -1 from cmpI_l h9] at hs
      omega
    · rw [hb] at hs
      rw [show sg true (mantOf x) = -mantOf x from rfl, show sgn (-mantOf x) = -1 from cmpI_l (by omega)] at hs
      refine decide_eq_true ?_
      rcases Int.lt_trichotomy (fv x).1 0 with h9 | h9 | h9
      · exact h9
      · omega
      · rw [show sgn (fv x).1 = 1 from cmpI_g h9] at hs; omega
theorem qN_lt (B : Nat) (hB : 2224 ≤ B) (x : Int) (h0 : 0 ≤ x) (h1 : x < 18446744073709551616) : qN x < 2 ^ B := by
  obtain ⟨A, hA⟩ : ∃ A : Nat, A = 2098 := ⟨_, rfl⟩
  have h := uV_bd A (by omega) x h0 h1
  unfold qN
  have h2 : (uV x).natAbs * 2 ^ 126 < 2 ^ A * 2 ^ 126 := Nat.mul_lt_mul_of_pos_right h (Nat.two_pow_pos 126)
  rw [← Nat.pow_add] at h2
  exact Nat.lt_of_lt_of_le h2 (Nat.pow_le_pow_right (by omega) (by omega))
theorem qN_ge (x : Int) (h : uV x ≠ 0) : 2 ^ 126 ≤ qN x := by
  unfold qN
  exact Nat.le_mul_of_pos_left _ (by omega)
theorem bl_top2 (N K : Nat) (h1 : 2 ^ K ≤ N) (h2 : N < 2 ^ (K + 1)) : bl N = K + 1 := bl_eq N K h1 h2
end Go.Ulp
namespace Go.Proofs.YtincggkdlegjjaaDoor
open Go.RowKit Go.Ulp
set_option linter.unusedVariables false
set_option linter.unusedSimpArgs false
set_option maxHeartbeats 4000000
set_option maxRecDepth 100000
end Go.Proofs.YtincggkdlegjjaaDoor
