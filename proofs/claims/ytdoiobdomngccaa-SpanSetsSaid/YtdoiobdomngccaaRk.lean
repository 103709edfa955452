/- The values of floating numbers by their ranks: plain facts. -/
import Derived.Test.YtdoiobdomngccaaQ4
set_option linter.unusedVariables false
set_option linter.unusedSimpArgs false
namespace Go.Ulp
/-- the value of a rank from 0 on, as a multiple of 2^-1074 -/
def rvi (n : Nat) : Nat := if n < 4503599627370496 then n else (n % 4503599627370496 + 4503599627370496) * 2 ^ (n / 4503599627370496 - 1)
theorem rvi_succ (n : Nat) : rvi (n + 1) = rvi n + 2 ^ (n / 4503599627370496 - 1) := by
  unfold rvi
  by_cases h : n + 1 < 4503599627370496
  · rw [if_pos h, if_pos (by omega), show n / 4503599627370496 - 1 = 0 by omega]
  · rw [if_neg h]
    by_cases h2 : n < 4503599627370496
    · have : n = 4503599627370495 := by omega
      subst this; decide
    · rw [if_neg h2]
      obtain ⟨e, he⟩ : ∃ e, e = n / 4503599627370496 - 1 := ⟨_, rfl⟩
      rw [← he]
      by_cases h3 : n % 4503599627370496 = 4503599627370495
      · rw [show (n + 1) / 4503599627370496 - 1 = e + 1 by omega, show (n + 1) % 4503599627370496 = 0 by omega, h3, Nat.pow_succ]; omega
      · rw [show (n + 1) / 4503599627370496 - 1 = e by omega, show (n + 1) % 4503599627370496 = n % 4503599627370496 + 1 by omega]
        simp only [Nat.add_mul]; omega
theorem rvi_lt_succ (n : Nat) : rvi n < rvi (n + 1) := by rw [rvi_succ]; have := Nat.two_pow_pos (n / 4503599627370496 - 1); omega
theorem rvi_mono {m n : Nat} (h : m < n) : rvi m < rvi n := by
  induction n with
  | zero => omega
  | succ n ih =>
    have h1 := rvi_lt_succ n
    by_cases e : m = n
    · rw [e]; exact h1
    · have := ih (by omega); omega
theorem rvi_zero : rvi 0 = 0 := rfl
/-- of any rank -/
def rvs (r : Int) : Int := if r < 0 then -(rvi r.natAbs : Int) else (rvi r.natAbs : Int)
theorem rvs_mono {r s : Int} (h : r < s) : rvs r < rvs s := by
  unfold rvs
  by_cases hr : r < 0 <;> by_cases hs : s < 0
  · rw [if_pos hr, if_pos hs]; have := @rvi_mono s.natAbs r.natAbs (by omega); omega
  · rw [if_pos hr, if_neg hs]; have := @rvi_mono 0 r.natAbs (by omega); rw [rvi_zero] at this; omega
  · omega
  · rw [if_neg hr, if_neg hs]; have := @rvi_mono r.natAbs s.natAbs (by omega); omega
theorem rvs_cmp (r s : Int) : cmpI (rvs r) (rvs s) = cmpI r s := by
  unfold cmpI
  rcases Int.lt_trichotomy r s with h | h | h
  · have := rvs_mono h; rw [if_pos this, if_pos h]
  · subst h; simp
  · have := rvs_mono h; rw [if_neg (by omega), if_pos this, if_neg (by omega), if_pos h]
theorem rvs_zero : rvs 0 = 0 := rfl
theorem rvs_neg (r : Int) : rvs (-r) = -rvs r := by
  unfold rvs
  rw [Int.natAbs_neg]
  rcases Int.lt_trichotomy r 0 with h | h | h
  · rw [if_neg (by omega), if_pos h, Int.neg_neg]
  · subst h; rfl
  · rw [if_pos (by omega), if_neg (by omega)]
theorem sg_mul (neg : Bool) (x y : Int) : sg neg x * y = sg neg (x * y) := by unfold sg; cases neg <;> simp [Int.neg_mul]
theorem rvs_nat (a : Nat) : rvs (a : Int) = (rvi a : Int) := by unfold rvs; rw [if_neg (by omega), Int.natAbs_natCast]
theorem rvs_sg (b : Bool) (a : Nat) : rvs (sg b (a : Int)) = sg b (rvi a : Int) := by
  cases b
  · exact rvs_nat a
  · show rvs (-(a : Int)) = -(rvi a : Int); rw [rvs_neg, rvs_nat]
theorem rank_sg (x : Int) (a : Nat) (ha : (a : Int) = x % 9223372036854775808) : rankOf x = sg (negB x) (a : Int) := by
  unfold rankOf sg negB
  by_cases hn : 9223372036854775808 ≤ x
  · simp [hn, ha]
  · simp [hn, ha]
theorem fv_rank (x : Int) (h0 : 0 ≤ x) (h1 : x < 18446744073709551616) : fv x = nrm (rvs (rankOf x)) (-1074) := by
  obtain ⟨a, ha⟩ : ∃ a : Nat, (a : Int) = x % 9223372036854775808 := ⟨(x % 9223372036854775808).toNat, by omega⟩
  have ee : expOf x = ((a / 4503599627370496 : Nat) : Int) := by unfold expOf; omega
  have ef : fracOf x = ((a % 4503599627370496 : Nat) : Int) := by unfold fracOf; omega
  obtain ⟨k, hk⟩ : ∃ k : Nat, (k : Int) = max (expOf x) 1 - 1 := ⟨(max (expOf x) 1 - 1).toNat, by have := expOf_bd x; omega⟩
  have hd : dexp x = -1074 + (k : Int) := by unfold dexp; omega
  have hv : mantOf x * pw k = (rvi a : Int) := by
    unfold mantOf rvi
    rw [ee, ef] at *
    by_cases h : a < 4503599627370496
    · rw [if_neg (by omega), if_pos h, show k = 0 by omega, pw_zero]; omega
    · rw [if_pos (by omega), if_neg h, show k = a / 4503599627370496 - 1 by omega, pw_nat, Int.natCast_mul]; congr 1
  unfold fv
  rw [hd, ← nrm_scale, sg_mul, hv, rank_sg x a ha, rvs_sg]
theorem cmp_fv (x y : Int) (h0 : 0 ≤ x) (h1 : x < 18446744073709551616) (k0 : 0 ≤ y) (k1 : y < 18446744073709551616) : cmpD (fv x) (fv y) = cmpI (rankOf x) (rankOf y) := by
  rw [fv_rank x h0 h1, fv_rank y k0 k1, ← cmp_nrm _ _ _ _ (-1074) (.inl (by omega)) (.inl (by omega)), sc_self, sc_self, rvs_cmp]
end Go.Ulp
