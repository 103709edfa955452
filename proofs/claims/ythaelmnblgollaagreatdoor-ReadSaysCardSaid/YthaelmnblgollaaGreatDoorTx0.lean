/- Numbers in decimal, plain. -/
import Derived.Test.YthaelmnblgollaaGreatDoorMem
import Derived.Lib.ItoaNum
set_option linter.unusedVariables false
set_option linter.unusedSimpArgs false
namespace Go.Ulp
open Go.RowKit
abbrev decD := Lib.decDigits
theorem decD_small {n : Nat} (h : n < 10) : decD n = [UInt8.ofNat (48 + n)] := by unfold decD; rw [Lib.decDigits, dif_pos h]
theorem decD_big {n : Nat} (h : ¬ n < 10) : decD n = decD (n / 10) ++ [UInt8.ofNat (48 + n % 10)] := by unfold decD; conv => lhs; rw [Lib.decDigits, dif_neg h]
theorem decD_step (q d : Nat) (hq : 0 < q) (hd : d < 10) : decD (q * 10 + d) = decD q ++ [UInt8.ofNat (48 + d)] := by
  rw [decD_big (by omega), show (q * 10 + d) / 10 = q by omega, show (q * 10 + d) % 10 = d by omega]
/-- noughts ahead, up to so many places -/
def padz (k : Nat) (L : List UInt8) : List UInt8 := List.replicate (k - L.length) 48 ++ L
theorem padz_len (k : Nat) (L : List UInt8) : (padz k L).length = max k L.length := by unfold padz; rw [List.length_append, List.length_replicate]; omega
theorem padz_long (k : Nat) (L : List UInt8) (h : k ≤ L.length) : padz k L = L := by unfold padz; rw [show k - L.length = 0 by omega]; rfl
theorem padz_cons (k : Nat) (L : List UInt8) (h : L.length < k) : padz k (48 :: L) = padz k L := by
  unfold padz
  obtain ⟨j, hj⟩ : ∃ j, k - L.length = j + 1 := ⟨k - L.length - 1, by omega⟩
  rw [List.length_cons, show k - (L.length + 1) = j by omega, hj, List.replicate_succ']
  simp
theorem padz_snoc (k : Nat) (L : List UInt8) (c : UInt8) : padz (k + 1) (L ++ [c]) = padz k L ++ [c] := by
  unfold padz
  rw [List.length_append, List.length_singleton, show k + 1 - (L.length + 1) = k - L.length by omega, List.append_assoc]
theorem decD_pos (n : Nat) : 0 < (decD n).length := by
  by_cases h : n < 10
  · rw [decD_small h]; simp
  · rw [decD_big h]; simp
theorem decD_ne (n : Nat) : decD n ≠ [] := fun h => by have := decD_pos n; rw [h] at this; simp at this
theorem decD_len : ∀ (k n : Nat), n < 10 ^ (k + 1) → (decD n).length ≤ k + 1
  | 0, n, h => by rw [decD_small (by simpa using h)]; simp
  | k + 1, n, h => by
    by_cases hn : n < 10
    · rw [decD_small hn]; simp
    · rw [decD_big hn, List.length_append, List.length_singleton]
      have := decD_len k (n / 10) (by rw [Nat.pow_succ] at h; omega)
      omega
theorem padz_dec_zero (k : Nat) : padz (k + 1) (decD 0) = List.replicate (k + 1) 48 := by
  rw [decD_small (by omega)]
  unfold padz
  show List.replicate k 48 ++ [(48 : UInt8)] = _
  rw [List.replicate_succ']
/-- a number by its digits in groups -/
theorem dec_split : ∀ (k q r : Nat), 0 < q → r < 10 ^ (k + 1) → decD (q * 10 ^ (k + 1) + r) = decD q ++ padz (k + 1) (decD r)
  | 0, q, r, hq, hr => by
    have hr' : r < 10 := by simpa using hr
    rw [Nat.pow_succ, Nat.pow_zero, Nat.one_mul, decD_step q r hq hr', decD_small hr']
    rfl
  | k + 1, q, r, hq, hr => by
    have hr2 : r / 10 < 10 ^ (k + 1) := by rw [Nat.pow_succ] at hr; omega
    have ih := dec_split k q (r / 10) hq hr2
    have e : q * 10 ^ (k + 1 + 1) + r = (q * 10 ^ (k + 1) + r / 10) * 10 + r % 10 := by
      rw [Nat.pow_succ, ← Nat.mul_assoc]; omega
    have hp : 0 < q * 10 ^ (k + 1) := Nat.mul_pos hq (Nat.pow_pos (by omega))
    rw [e, decD_step _ _ (by omega) (Nat.mod_lt _ (by omega)), ih, List.append_assoc]
    congr 1
    rw [← padz_snoc]
    by_cases hs : r < 10
    · rw [show r / 10 = 0 by omega, show r % 10 = r by omega, decD_small hs, decD_small (by omega : 0 < 10)]
      exact padz_cons (k + 1 + 1) [UInt8.ofNat (48 + r)] (by simp)
    · rw [← decD_big hs]
/-- groups of nine, the highest first -/
theorem dec_nine (a : Nat) (h : 0 < a / 1000000000) : decD a = decD (a / 1000000000) ++ padz 9 (decD (a % 1000000000)) := by
  have h1 := dec_split 8 (a / 1000000000) (a % 1000000000) h (Nat.mod_lt _ (by omega))
  rw [show (10 : Nat) ^ (8 + 1) = 1000000000 by decide, show a / 1000000000 * 1000000000 + a % 1000000000 = a by omega] at h1
  exact h1
theorem dec_four (a b k : Nat) (h : 0 < a) (hb : b < 10000 ^ k) (hk : 0 < k) : decD (a * 10000 ^ k + b) = decD a ++ padz (4 * k) (decD b) := by
  have e : 10000 ^ k = 10 ^ (4 * k) := by rw [show (10000 : Nat) = 10 ^ 4 by decide, ← Nat.pow_mul]
  obtain ⟨j, hj⟩ : ∃ j, 4 * k = j + 1 := ⟨4 * k - 1, by omega⟩
  rw [e, hj] at hb ⊢
  exact dec_split j a b h hb
/-- what is padded in groups -/
theorem pad_four (a b k : Nat) (ha : a < 10000) (hb : b < 10000 ^ k) : padz (4 * (k + 1)) (decD (a * 10000 ^ k + b)) = padz 4 (decD a) ++ (if k = 0 then [] else padz (4 * k) (decD b)) := by
  by_cases hk : k = 0
  · subst hk
    rw [if_pos rfl, Nat.pow_zero] at *
    rw [show b = 0 by omega]; simp
  · rw [if_neg hk]
    have hl : (decD b).length ≤ 4 * k := by
      have e : 10000 ^ k = 10 ^ (4 * k) := by rw [show (10000 : Nat) = 10 ^ 4 by decide, ← Nat.pow_mul]
      obtain ⟨j, hj⟩ : ∃ j, 4 * k = j + 1 := ⟨4 * k - 1, by omega⟩
      rw [e, hj] at hb
      rw [hj]; exact decD_len j b hb
    have hl4 : (decD a).length ≤ 4 := decD_len 3 a (by simpa using ha)
    have hp := decD_pos b
    by_cases h0 : a = 0
    · subst h0
      rw [Nat.zero_mul, Nat.zero_add, padz_dec_zero 3]
      unfold padz
      rw [← List.append_assoc, List.replicate_append_replicate]
      congr 2
      omega
    · rw [dec_four a b k (by omega) hb (by omega)]
      have h1 := padz_len (4 * k) (decD b)
      unfold padz at h1 ⊢
      rw [List.length_append, h1, ← List.append_assoc]
      congr 3
      omega
end Go.Ulp
