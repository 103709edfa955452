/- The values of floating numbers by their ranks, as multiples of 2^-1074: plain facts, no program in sight. -/
import Derived.Test.YteaakbeemhmciaaDoorDy
set_option linter.unusedVariables false
set_option linter.unusedSimpArgs false
namespace Go.Ulp
/-- with a sign -/
def sg (neg : Bool) (x : Int) : Int := if neg then -x else x
theorem sg_abs (neg : Bool) (x : Int) : (sg neg x).natAbs = x.natAbs := by unfold sg; cases neg <;> simp
/-- the value of a rank from 0 on, as a multiple of 2^-1074 -/
def rvi (n : Nat) : Nat := if n < 4503599627370496 then n else (n % 4503599627370496 + 4503599627370496) * 2 ^ (n / 4503599627370496 - 1)
theorem rvi_succ (n : Nat) : rvi (n + 1) = rvi n + 2 ^ (n / 4503599627370496 - 1) := by
  unfold rvi
  by_cases h : n + 1 < 4503599627370496
  · rw [if_pos h, if_pos (by omega), show n / 4503599627370496 - 1 = 0 by omega]
  · rw [if_neg h]
    by_cases h2 : n < 4503599627370496
    · have : n = 4503599627370495 := by omega
      subst this; decide
    · rw [if_neg h2]
      obtain ⟨e, he⟩ : ∃ e, e = n / 4503599627370496 - 1 := ⟨_, rfl⟩
      rw [← he]
      by_cases h3 : n % 4503599627370496 = 4503599627370495
      · rw [show (n + 1) / 4503599627370496 - 1 = e + 1 by omega, show (n + 1) % 4503599627370496 = 0 by omega, h3, Nat.pow_succ]; omega
      · rw [show (n + 1) / 4503599627370496 - 1 = e by omega, show (n + 1) % 4503599627370496 = n % 4503599627370496 + 1 by omega]
        simp only [Nat.add_mul]; omega
theorem rvi_lt_succ (n : Nat) : rvi n < rvi (n + 1) := by rw [rvi_succ]; have := Nat.two_pow_pos (n / 4503599627370496 - 1); omega
theorem rvi_mono {m n : Nat} (h : m < n) : rvi m < rvi n := by
  induction n with
  | zero => omega
  | succ n ih =>
    have h1 := rvi_lt_succ n
    by_cases e : m = n
    · rw [e]; exact h1
    · have := ih (by omega); omega
theorem rvi_zero : rvi 0 = 0 := rfl
/-- of any rank -/
def rvs (r : Int) : Int := if r < 0 then -(rvi r.natAbs : Int) else (rvi r.natAbs : Int)
theorem rvs_mono {r s : Int} (h : r < s) : rvs r < rvs s := by
  unfold rvs
  by_cases hr : r < 0 <;> by_cases hs : s < 0
  · rw [if_pos hr, if_pos hs]; have := @rvi_mono s.natAbs r.natAbs (by omega); omega
  · rw [if_pos hr, if_neg hs]; have := @rvi_mono 0 r.natAbs (by omega); rw [rvi_zero] at this; omega
  · omega
  · rw [if_neg hr, if_neg hs]; have := @rvi_mono r.natAbs s.natAbs (by omega); omega
theorem rvs_cmp (r s : Int) : cmpI (rvs r) (rvs s) = cmpI r s := by
  unfold cmpI
  rcases Int.lt_trichotomy r s with h | h | h
  · have := rvs_mono h; rw [if_pos this, if_pos h]
  · subst h; simp
  · have := rvs_mono h; rw [if_neg (by omega), if_pos this, if_neg (by omega), if_pos h]
theorem rvs_zero : rvs 0 = 0 := rfl
theorem rvs_neg (r : Int) : rvs (-r) = -rvs r := by
  unfold rvs
  rw [Int.natAbs_neg]
  rcases Int.lt_trichotomy r 0 with h | h | h
  · rw [if_neg (by omega), if_pos h, Int.neg_neg]
  · subst h; rfl
  · rw [if_pos (by omega), if_neg (by omega)]
end Go.Ulp
