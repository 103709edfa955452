/- Plain facts on numbers and on the results of calls: no program in sight. -/
import Derived.WalkKit
import Derived.ProofKit
import Derived.OpenShut
import Derived.WalkLawsBesides
import Derived.Handy
namespace Go.Ulp
open Go.RowKit

theorem hid {p : Prop} (h : p) : Hid p := h
theorem ret_int {k : IntKind} {a b : Int} (h : a = b) : Ending.returned (.int k a) = .returned (.int k b) := by rw [h]
theorem ret_bool {a b : Bool} (h : a = b) : Ending.returned (.bool a) = .returned (.bool b) := by rw [h]

theorem and_mask_u64 (a : Int) (k : Nat) (hk : k ≤ 63) (h0 : 0 ≤ a) (h1 : a < 18446744073709551616) (m : Int) (hm : m = ((2 ^ k - 1 : Nat) : Int)) : bits .and .u64 a m = a % ((2 ^ k : Nat) : Int) := by
  obtain ⟨n, rfl⟩ := Int.eq_ofNat_of_zero_le h0
  have hp : 2 ^ k ≤ 2 ^ 63 := Nat.pow_le_pow_right (by omega) hk
  subst hm
  rw [u64_and_nat n (2 ^ k - 1) (by omega) (by have : (2:Nat)^63 = 9223372036854775808 := by decide
                                               omega), Nat.and_two_pow_sub_one_eq_mod]
  exact Int.natCast_emod _ _
theorem and_2047 (a : Int) (h0 : 0 ≤ a) (h1 : a < 18446744073709551616) : bits .and .u64 a 2047 = a % 2048 := and_mask_u64 a 11 (by omega) h0 h1 2047 (by decide)
theorem and_frac (a : Int) (h0 : 0 ≤ a) (h1 : a < 18446744073709551616) : bits .and .u64 a 4503599627370495 = a % 4503599627370496 := and_mask_u64 a 52 (by omega) h0 h1 4503599627370495 (by decide)
theorem and_low32 (a : Int) (h0 : 0 ≤ a) (h1 : a < 18446744073709551616) : bits .and .u64 a 4294967295 = a % 4294967296 := and_mask_u64 a 32 (by omega) h0 h1 4294967295 (by decide)
theorem and_one (a : Int) (h0 : 0 ≤ a) (h1 : a < 18446744073709551616) : bits .and .u64 a 1 = a % 2 := and_mask_u64 a 1 (by omega) h0 h1 1 (by decide)

/-- or of numbers whose bits do not meet: the low one is below 2^k, the high one a multiple of it. -/
theorem or_join_u64 (a b : Int) (k : Nat) (h0 : 0 ≤ a) (h1 : a < 18446744073709551616) (hb0 : 0 ≤ b) (hb1 : b < 18446744073709551616)
    (ha : a % ((2 ^ k : Nat) : Int) = 0) (hb : b < ((2 ^ k : Nat) : Int)) : bits .or .u64 a b = a + b := by
  obtain ⟨n, rfl⟩ := Int.eq_ofNat_of_zero_le h0
  obtain ⟨m, rfl⟩ := Int.eq_ofNat_of_zero_le hb0
  rw [u64_or_nat n m (by omega) (by omega), nat_join k n m (by rw [← Int.natCast_emod] at ha; omega) (by omega)]
  omega
theorem bits_comm_or (a b : Int) (h0 : 0 ≤ a) (h1 : a < 18446744073709551616) (hb0 : 0 ≤ b) (hb1 : b < 18446744073709551616) : bits .or .u64 a b = bits .or .u64 b a := by
  rw [u64_or a b h0 h1 hb0 hb1, u64_or b a hb0 hb1 h0 h1, Nat.or_comm]

theorem or_join52 (a b : Int) (h0 : 0 ≤ a) (h1 : a < 18446744073709551616) (hb0 : 0 ≤ b) (hb1 : b < 18446744073709551616)
    (ha : a % 4503599627370496 = 0) (hb : b < 4503599627370496) : bits .or .u64 a b = a + b := by
  have p : ((2 ^ 52 : Nat) : Int) = 4503599627370496 := by decide
  exact or_join_u64 a b 52 h0 h1 hb0 hb1 (by rw [p]; exact ha) (by rw [p]; exact hb)

theorem or_join_low (a b : Int) (k : Nat) (h0 : 0 ≤ a) (h1 : a < 18446744073709551616) (hb0 : 0 ≤ b) (hb1 : b < 18446744073709551616)
    (ha : a % ((2 ^ k : Nat) : Int) = 0) (hb : b < ((2 ^ k : Nat) : Int)) : bits .or .u64 b a = b + a := by
  rw [bits_comm_or b a hb0 hb1 h0 h1, or_join_u64 a b k h0 h1 hb0 hb1 ha hb]; omega
theorem or_join32 (a b : Int) (h0 : 0 ≤ a) (h1 : a < 4294967296) (hb0 : 0 ≤ b) (hb : b < 4294967296) : bits .or .u64 (a * 4294967296) b = a * 4294967296 + b := by
  have p : ((2 ^ 32 : Nat) : Int) = 4294967296 := by decide
  exact or_join_u64 _ b 32 (by omega) (by omega) hb0 (by omega) (by rw [p]; omega) (by rw [p]; exact hb)
theorem or_join32' (a b : Int) (h0 : 0 ≤ a) (h1 : a < 4294967296) (hb0 : 0 ≤ b) (hb : b < 4294967296) : bits .or .u64 b (a * 4294967296) = b + a * 4294967296 := by
  have p : ((2 ^ 32 : Nat) : Int) = 4294967296 := by decide
  exact or_join_low _ b 32 (by omega) (by omega) hb0 (by omega) (by rw [p]; omega) (by rw [p]; exact hb)

/-- the sign bit set, turned, taken away -/
theorem or_sign (a : Int) (h0 : 0 ≤ a) (h1 : a < 9223372036854775808) : bits .or .u64 a 9223372036854775808 = a + 9223372036854775808 := by
  rw [bits_comm_or a _ h0 (by omega) (by omega) (by omega), or_join_u64 9223372036854775808 a 63 (by omega) (by omega) h0 (by omega) (by decide) (by exact h1)]
  omega
theorem xor_sign (a : Int) (h0 : 0 ≤ a) (h1 : a < 18446744073709551616) : bits .xor .u64 a 9223372036854775808 = if a < 9223372036854775808 then a + 9223372036854775808 else a - 9223372036854775808 := by
  obtain ⟨n, rfl⟩ := Int.eq_ofNat_of_zero_le h0
  have e := u64_xor_nat n 9223372036854775808 (by omega) (by omega)
  rw [show ((9223372036854775808 : Nat) : Int) = 9223372036854775808 from rfl] at e
  rw [e]
  have key : ∀ m : Nat, m < 9223372036854775808 → m ^^^ 9223372036854775808 = m + 9223372036854775808 := by
    intro m hm
    have : m ^^^ 9223372036854775808 = 9223372036854775808 ||| m := by
      apply Nat.eq_of_testBit_eq
      intro i
      have h2 : (9223372036854775808 : Nat) = 2 ^ 63 := by decide
      rw [Nat.testBit_xor, Nat.testBit_or, h2, Nat.testBit_two_pow]
      by_cases hi : 63 = i
      · subst hi
        rw [Nat.testBit_lt_two_pow (by omega)]; simp
      · simp [hi]
    rw [this]
    have h2 : (9223372036854775808 : Nat) = 2 ^ 63 * 1 := by decide
    rw [h2, ← Nat.two_pow_add_eq_or_of_lt (by omega)]; omega
  split
  · rw [key n (by omega)]; omega
  · have hx : n = (n - 9223372036854775808) ^^^ 9223372036854775808 := by rw [key _ (by omega)]; omega
    have : n ^^^ 9223372036854775808 = n - 9223372036854775808 := by
      rw [hx, Nat.xor_assoc, Nat.xor_self, Nat.xor_zero, key _ (by omega)]; omega
    rw [this]; omega
theorem andNot_sign (a : Int) (h0 : 0 ≤ a) (h1 : a < 18446744073709551616) : bits .andNot .u64 a 9223372036854775808 = a % 9223372036854775808 := by
  obtain ⟨n, rfl⟩ := Int.eq_ofNat_of_zero_le h0
  have e := u64_andNot_nat n 9223372036854775808 (by omega) (by omega)
  rw [show ((9223372036854775808 : Nat) : Int) = 9223372036854775808 from rfl] at e
  rw [e, show 18446744073709551615 - 9223372036854775808 = 2 ^ 63 - 1 by decide, Nat.and_two_pow_sub_one_eq_mod]
  exact Int.natCast_emod _ _
end Go.Ulp
