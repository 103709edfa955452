/- The values of floating numbers by their ranks: as the reference has them. -/
import Derived.Test.YtdoiobdomngccaaQ4
set_option linter.unusedVariables false
set_option linter.unusedSimpArgs false
namespace Go.Ulp
theorem sg_mul (neg : Bool) (x y : Int) : sg neg x * y = sg neg (x * y) := by unfold sg; cases neg <;> simp [Int.neg_mul]
theorem rvs_nat (a : Nat) : rvs (a : Int) = (rvi a : Int) := by unfold rvs; rw [if_neg (by omega), Int.natAbs_natCast]
theorem rvs_sg (b : Bool) (a : Nat) : rvs (sg b (a : Int)) = sg b (rvi a : Int) := by
  cases b
  · exact rvs_nat a
  · show rvs (-(a : Int)) = -(rvi a : Int); rw [rvs_neg, rvs_nat]
theorem rank_sg (x : Int) (a : Nat) (ha : (a : Int) = x % 9223372036854775808) : rankOf x = sg (negB x) (a : Int) := by
  unfold rankOf sg negB
  by_cases hn : 9223372036854775808 ≤ x
  · simp [hn, ha]
  · simp [hn, ha]
theorem fv_rank (x : Int) (h0 : 0 ≤ x) (h1 : x < 18446744073709551616) : fv x = nrm (rvs (rankOf x)) (-1074) := by
  obtain ⟨a, ha⟩ : ∃ a : Nat, (a : Int) = x % 9223372036854775808 := ⟨(x % 9223372036854775808).toNat, by omega⟩
  have ee : expOf x = ((a / 4503599627370496 : Nat) : Int) := by unfold expOf; omega
  have ef : fracOf x = ((a % 4503599627370496 : Nat) : Int) := by unfold fracOf; omega
  obtain ⟨k, hk⟩ : ∃ k : Nat, (k : Int) = max (expOf x) 1 - 1 := ⟨(max (expOf x) 1 - 1).toNat, by have := expOf_bd x; omega⟩
  have hd : dexp x = -1074 + (k : Int) := by unfold dexp; omega
  have hv : mantOf x * pw k = (rvi a : Int) := by
    unfold mantOf rvi
    rw [ee, ef] at *
    by_cases h : a < 4503599627370496
    · rw [if_neg (by omega), if_pos h, show k = 0 by omega, pw_zero]; omega
    · rw [if_pos (by omega), if_neg h, show k = a / 4503599627370496 - 1 by omega, pw_nat, Int.natCast_mul]; congr 1
  unfold fv
  rw [hd, ← nrm_scale, sg_mul, hv, rank_sg x a ha, rvs_sg]
theorem cmp_fv (x y : Int) (h0 : 0 ≤ x) (h1 : x < 18446744073709551616) (k0 : 0 ≤ y) (k1 : y < 18446744073709551616) : cmpD (fv x) (fv y) = cmpI (rankOf x) (rankOf y) := by
  rw [fv_rank x h0 h1, fv_rank y k0 k1, ← cmp_nrm _ _ _ _ (-1074) (.inl (by omega)) (.inl (by omega)), sc_self, sc_self, rvs_cmp]
end Go.Ulp
