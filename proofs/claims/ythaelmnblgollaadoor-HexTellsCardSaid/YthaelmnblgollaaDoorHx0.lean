/- Numbers in sixteens, plain. -/
import Derived.Test.YthaelmnblgollaaDoorMem
import Derived.Laws.Runes
set_option linter.unusedVariables false
set_option linter.unusedSimpArgs false
namespace Go.Ulp
open Go.RowKit
/-- a digit's sign -/
def hxc (d : Nat) : UInt8 := if d < 10 then UInt8.ofNat (48 + d) else UInt8.ofNat (87 + d)
/-- the lowest n digits -/
def hxD : Nat → Nat → List UInt8
  | 0, _ => []
  | n + 1, m => hxc (m / 16 ^ n % 16) :: hxD n m
theorem hxD_len : ∀ n m, (hxD n m).length = n
  | 0, _ => rfl
  | n + 1, m => by show (hxD n m).length + 1 = n + 1; rw [hxD_len n m]
theorem hxD_take : ∀ (n m i : Nat), i < n → (hxD n m).take (n - i) = (hxD n m).take (n - (i + 1)) ++ [hxc (m / 16 ^ i % 16)]
  | 0, _, _, h => by omega
  | n + 1, m, i, h => by
    by_cases e : i = n
    · subst e
      rw [show i + 1 - i = 1 by omega, show i + 1 - (i + 1) = 0 by omega]
      rfl
    · have ih := hxD_take n m i (by omega)
      rw [show n + 1 - i = (n - i) + 1 by omega, show n + 1 - (i + 1) = (n - (i + 1)) + 1 by omega]
      show hxc _ :: (hxD n m).take (n - i) = (hxc _ :: (hxD n m).take (n - (i + 1))) ++ _
      rw [ih]; rfl
theorem hxD_add (n z : Nat) : ∀ k, k ≤ n → hxD k (z + 16 ^ n) = hxD k z
  | 0, _ => rfl
  | k + 1, h => by
    show hxc _ :: _ = hxc _ :: _
    rw [hxD_add n z k (by omega)]
    congr 2
    obtain ⟨j, rfl⟩ : ∃ j, n = k + (j + 1) := ⟨n - k - 1, by omega⟩
    rw [Nat.pow_add, Nat.add_mul_div_left _ _ (Nat.pow_pos (by omega)), Nat.pow_succ, Nat.add_mul_mod_self_right]
theorem hxD_zero : ∀ n, hxD n 0 = List.replicate n 48
  | 0 => rfl
  | n + 1 => by
    show hxc _ :: hxD n 0 = _
    rw [hxD_zero n, Nat.zero_div]; rfl
theorem getD_val (B : Nat) (hB : 0 < B) (L : List Nat) (hL : AllLt B L) (j : Nat) : L.getD j 0 = val B L / B ^ j % B := by
  have hp : 0 < B ^ j := Nat.pow_pos hB
  by_cases h : j < L.length
  · have h1 := val_take_drop B L j (by omega)
    have h2 := val_lt B (L.take j) (fun d h => hL d (List.mem_of_mem_take h))
    rw [List.length_take, Nat.min_eq_left (by omega)] at h2
    have h3 := val_drop B L j h
    have h4 := hL.getD hB j
    rw [h1, Nat.add_mul_div_left _ _ hp, Nat.div_eq_of_lt h2, Nat.zero_add, h3, Nat.add_mul_mod_self_left, Nat.mod_eq_of_lt h4]
  · rw [getD_out _ _ (by omega)]
    have h1 := val_lt B L hL
    have h2 : B ^ L.length ≤ B ^ j := Nat.pow_le_pow_right hB (by omega)
    rw [Nat.div_eq_of_lt (by omega), Nat.zero_mod]
theorem limb_digit (m i : Nat) : (limbs m).getD (i / 8) 0 / 2 ^ (4 * (i % 8)) % 16 = m / 16 ^ i % 16 := by
  rw [getD_val 4294967296 (by omega) (limbs m) (limbs_lim m), show val 4294967296 (limbs m) = m from lval_limbs m]
  obtain ⟨a, ha⟩ : ∃ a, a = i / 8 := ⟨_, rfl⟩
  obtain ⟨b, hb⟩ : ∃ b, b = i % 8 := ⟨_, rfl⟩
  have hi : i = 8 * a + b := by omega
  have hb8 : b < 8 := by omega
  rw [← ha, ← hb]
  have e1 : (4294967296 : Nat) ^ a = 16 ^ (8 * a) := by rw [show (4294967296 : Nat) = 16 ^ 8 by decide, ← Nat.pow_mul]
  have e2 : (2 : Nat) ^ (4 * b) = 16 ^ b := by rw [show (16 : Nat) = 2 ^ 4 by decide, ← Nat.pow_mul]
  rw [e1, e2, hi, Nat.pow_add, ← Nat.div_div_eq_div_mul]
  generalize m / 16 ^ (8 * a) = y
  have e3 : (4294967296 : Nat) = 16 ^ b * 16 ^ (8 - b) := by rw [← Nat.pow_add, show b + (8 - b) = 8 by omega]
  obtain ⟨c, hc⟩ : ∃ c, 8 - b = c + 1 := ⟨8 - b - 1, by omega⟩
  rw [e3, Nat.mod_mul_right_div_self, hc, Nat.pow_succ, Nat.mul_comm, Nat.mod_mul_right_mod]
theorem hx_str : ∀ d : Nat, d < 16 → (ByteArray.mk #[48, 49, 50, 51, 52, 53, 54, 55, 56, 57, 97, 98, 99, 100, 101, 102]).extract d (d + 1) = ⟨#[hxc d]⟩ := by decide
theorem hx_enc : ∀ d : Nat, d < 16 → Utf8.encode ((hxc d).toNat : Int) = ⟨#[hxc d]⟩ := by decide
theorem hx_get : ∀ (d : Nat) (h : d < 16), ((ByteArray.mk #[48, 49, 50, 51, 52, 53, 54, 55, 56, 57, 97, 98, 99, 100, 101, 102])[d]'h) = hxc d := by decide
theorem hx_at : ∀ d : Nat, d < 16 → (ByteArray.mk #[48, 49, 50, 51, 52, 53, 54, 55, 56, 57, 97, 98, 99, 100, 101, 102])[d]! = hxc d := by decide
end Go.Ulp
