/- nat: shifts to the right. -/
import Derived.Test.YtincggkdlegjjaaNat3
namespace Go.Ulp
theorem val_set' (L : List Nat) (i d : Nat) (h : i < L.length) : lval (L.set i d) + 4294967296 ^ i * L.getD i 0 = lval L + 4294967296 ^ i * d := val_set _ L i d h
theorem pow_u32 (a b : Nat) : 4294967296 ^ (a + b) = 4294967296 ^ a * 4294967296 ^ b := Nat.pow_add _ _ _
/-- one more limb of the inner row -/
theorem times_step {v v' v0 c x s k l t y : Nat} (h : v + 4294967296 ^ (k + l) * c = v0 + 4294967296 ^ k * (x * s))
    (hs : v' + 4294967296 ^ (k + l) * t = v + 4294967296 ^ (k + l) * ((c + (x * y + t)) % 4294967296)) :
    v' + 4294967296 ^ (k + (l + 1)) * ((c + (x * y + t)) / 4294967296) = v0 + 4294967296 ^ k * (x * (s + 4294967296 ^ l * y)) := by
  have e1 := Nat.mod_add_div (c + (x * y + t)) 4294967296
  have e2 := congrArg (fun z => 4294967296 ^ (k + l) * z) e1
  simp only [Nat.mul_add] at e2
  have e3 : 4294967296 ^ (k + (l + 1)) * ((c + (x * y + t)) / 4294967296) = 4294967296 ^ (k + l) * (4294967296 * ((c + (x * y + t)) / 4294967296)) := by
    rw [show k + (l + 1) = (k + l) + 1 by omega, Nat.pow_succ, Nat.mul_assoc]
  have e4 : 4294967296 ^ k * (x * (s + 4294967296 ^ l * y)) = 4294967296 ^ k * (x * s) + 4294967296 ^ (k + l) * (x * y) := by
    rw [Nat.mul_add, Nat.mul_add, pow_u32, Nat.mul_assoc, ← Nat.mul_assoc x, Nat.mul_comm x (4294967296 ^ l), Nat.mul_assoc (4294967296 ^ l)]
  rw [e3, e4]; omega
theorem times_row {v v' v0 c x n k l : Nat} (h : v + 4294967296 ^ (k + l) * c = v0 + 4294967296 ^ k * (x * n)) (hs : v' + 4294967296 ^ (k + l) * 0 = v + 4294967296 ^ (k + l) * c)
    (m : Nat) (hv : v0 = m * n) : v' = (m + 4294967296 ^ k * x) * n := by
  rw [Nat.add_mul, Nat.mul_assoc]; omega
end Go.Ulp
namespace Go.Proofs.Ytincggkdlegjjaa
open Go.RowKit Go.Ulp
set_option linter.unusedVariables false
set_option linter.unusedSimpArgs false
set_option maxHeartbeats 800000
set_option maxRecDepth 100000

end Go.Proofs.Ytincggkdlegjjaa
namespace Go.Ulp
theorem small_step {T L b r x q r' : Nat} (h : T * b + r = L) (hx : r * 4294967296 + x = q * b + r') : (q + 4294967296 * T) * b + r' = x + 4294967296 * L := by
  rw [← h, Nat.add_mul, Nat.mul_add]
  have : 4294967296 * T * b = 4294967296 * (T * b) := by rw [Nat.mul_assoc]
  omega
end Go.Ulp
namespace Go.Proofs.Ytincggkdlegjjaa
open Go.RowKit Go.Ulp
set_option linter.unusedVariables false
set_option linter.unusedSimpArgs false
set_option maxHeartbeats 800000
set_option maxRecDepth 100000

end Go.Proofs.Ytincggkdlegjjaa
namespace Go.Ulp
open Go.RowKit
theorem left_step {v c V x q k P y : Nat} (h : v + 4294967296 ^ (q + k) * c = V * P * 4294967296 ^ q) (hy : y = c + x * P) :
    v + 4294967296 ^ (q + k) * (y % 4294967296) + 4294967296 ^ (q + (k + 1)) * (y / 4294967296) = (V + 4294967296 ^ k * x) * P * 4294967296 ^ q := by
  have e1 := Nat.mod_add_div y 4294967296
  have e2 := congrArg (fun z => 4294967296 ^ (q + k) * z) e1
  simp only [Nat.mul_add] at e2
  have e3 : 4294967296 ^ (q + (k + 1)) * (y / 4294967296) = 4294967296 ^ (q + k) * (4294967296 * (y / 4294967296)) := by
    rw [show q + (k + 1) = (q + k) + 1 by omega, Nat.pow_succ, Nat.mul_assoc]
  have e4 : (V + 4294967296 ^ k * x) * P * 4294967296 ^ q = V * P * 4294967296 ^ q + 4294967296 ^ (q + k) * (x * P) := by
    rw [Nat.add_mul, Nat.add_mul, Nat.pow_add, Nat.mul_assoc (4294967296 ^ k), Nat.mul_comm (4294967296 ^ k), Nat.mul_assoc (x * P), Nat.mul_comm (x * P), Nat.mul_comm (4294967296 ^ q)]
  rw [e3, e4]; rw [hy, Nat.mul_add] at e2; rw [hy]; omega
theorem or_shl (c x s : Nat) (hs : s < 32) (hc : c < 2 ^ s) (hx : x < 4294967296) : bits .or .u64 (c : Int) (IntKind.u64.wrap ((x : Int) * 2 ^ s)) = ((c + x * 2 ^ s : Nat) : Int) ∧ c + x * 2 ^ s < 4294967296 * 2 ^ s ∧ c + x * 2 ^ s < 9223372036854775808 := by
  have hp : 2 ^ s ≤ 2 ^ 31 := Nat.pow_le_pow_right (by omega) (by omega)
  have h31 : (2 : Nat) ^ 31 = 2147483648 := by decide
  have hm : x * 2 ^ s ≤ 4294967295 * 2 ^ s := Nat.mul_le_mul_right _ (by omega)
  have ec : (x : Int) * 2 ^ s = ((x * 2 ^ s : Nat) : Int) := by simp
  have hb : c + x * 2 ^ s < 4294967296 * 2 ^ s := by omega
  refine ⟨?_, hb, by omega⟩
  rw [ec, IntWalk.u64_in _ ⟨by omega, by omega⟩, or_join_low _ _ s (by omega) (by omega) (by omega) (by omega) ?_ (by omega)]
  · omega
  · rw [← Int.natCast_emod, Nat.mul_mod_left]; rfl
/-- as RetN: and the limbs lie in memory that was made since -/
def RetNF (w : World) (n : Nat) (e : Ending) (w' : World) : Prop :=
  ∃ ao, e = .returned (.slice ao (limbs n).length (limbs n).length) ∧ Ns .u32 w' ao (limbs n).length (limbs n) ∧ Below w.heap.size w w' ∧ ∀ p, ao = some p → w.heap.size ≤ p.block
end Go.Ulp
namespace Go.Proofs.Ytincggkdlegjjaa
open Go.RowKit Go.Ulp
set_option linter.unusedVariables false
set_option linter.unusedSimpArgs false
set_option maxHeartbeats 800000
set_option maxRecDepth 100000

end Go.Proofs.Ytincggkdlegjjaa
namespace Go.Ulp
/-- is something lost, divided by 2^n? -/
def lostB (V n : Nat) : Bool := decide (V % 2 ^ n ≠ 0)
theorem b_pow (q : Nat) : 4294967296 ^ q = 2 ^ (32 * q) := by rw [Nat.pow_mul]
theorem lost_lo (V x k q s : Nat) (hk : k < q) (hV : V < 4294967296 ^ k) (hx : x < 4294967296) : lostB (V + 4294967296 ^ k * x) (32 * q + s) = (lostB V (32 * q + s) || x != 0) := by
  have h1 : V + 4294967296 ^ k * x < 2 ^ (32 * q + s) := by
    have a1 : V + 4294967296 ^ k * x < 4294967296 ^ (k + 1) := by
      rw [Nat.pow_succ]
      have := Nat.mul_le_mul_left (4294967296 ^ k) (show x + 1 ≤ 4294967296 by omega)
      rw [Nat.mul_add] at this; omega
    refine Nat.lt_of_lt_of_le a1 ?_
    rw [b_pow]; exact Nat.pow_le_pow_right (by omega) (by omega)
  have h2 : V < 2 ^ (32 * q + s) := by omega
  unfold lostB
  rw [Nat.mod_eq_of_lt h1, Nat.mod_eq_of_lt h2, Bool.eq_iff_iff]
  have hp : 0 < 4294967296 ^ k := Nat.pow_pos (by omega)
  simp only [decide_eq_true_eq, Bool.or_eq_true, bne_iff_ne]
  constructor
  · intro h; by_cases hx0 : x = 0
    · left; subst hx0; simpa using h
    · right; exact hx0
  · rintro (h | h)
    · omega
    · have := Nat.mul_pos hp (show 0 < x by omega); omega
theorem lost_at (V x q s : Nat) (hV : V < 4294967296 ^ q) : lostB (V + 4294967296 ^ q * x) (32 * q + s) = (lostB V (32 * q + s) || (x % 2 ^ s != 0)) := by
  have hp : 0 < 4294967296 ^ q := Nat.pow_pos (by omega)
  have e : 2 ^ (32 * q + s) = 4294967296 ^ q * 2 ^ s := by rw [Nat.pow_add, ← b_pow]
  have h1 : (V + 4294967296 ^ q * x) % 2 ^ (32 * q + s) = V + 4294967296 ^ q * (x % 2 ^ s) := by
    rw [e, Nat.mod_mul, Nat.add_mul_mod_self_left, Nat.mod_eq_of_lt hV, Nat.add_mul_div_left _ _ hp, Nat.div_eq_of_lt hV, Nat.zero_add]
  have h2 : V % 2 ^ (32 * q + s) = V := Nat.mod_eq_of_lt (by rw [e]; exact Nat.lt_of_lt_of_le hV (Nat.le_mul_of_pos_right _ (Nat.two_pow_pos s)))
  unfold lostB
  rw [h1, h2, Bool.eq_iff_iff]
  simp only [decide_eq_true_eq, Bool.or_eq_true, bne_iff_ne]
  constructor
  · intro h; by_cases hx0 : x % 2 ^ s = 0
    · left; rw [hx0] at h; simpa using h
    · right; exact hx0
  · rintro (h | h)
    · omega
    · have := Nat.mul_pos hp (show 0 < x % 2 ^ s by omega); omega
theorem lost_hi (V x k q s : Nat) (hk : q < k) (hs : s < 32) : lostB (V + 4294967296 ^ k * x) (32 * q + s) = lostB V (32 * q + s) := by
  have e : 4294967296 ^ k = 2 ^ (32 * q + s) * 2 ^ (32 * k - (32 * q + s)) := by rw [b_pow, ← Nat.pow_add]; congr 1; omega
  unfold lostB
  rw [e, Nat.mul_assoc, Nat.add_mul_mod_self_left]
theorem right_step (x D y s : Nat) (hs : s < 32) (hy : y = D % 4294967296) (hx : x < 4294967296) : (x + 4294967296 * D) / 2 ^ s = (x + 4294967296 * y) / 2 ^ s % 4294967296 + 4294967296 * (D / 2 ^ s) := by
  have hp : 0 < 2 ^ s := Nat.two_pow_pos s
  have e32 : 4294967296 = 2 ^ s * 2 ^ (32 - s) := by rw [← Nat.pow_add, show s + (32 - s) = 32 by omega]
  have h1 : (x + 4294967296 * D) / 2 ^ s / 4294967296 = D / 2 ^ s := by
    rw [Nat.div_div_eq_div_mul, Nat.mul_comm (2 ^ s), ← Nat.div_div_eq_div_mul, Nat.add_mul_div_left _ _ (by omega), Nat.div_eq_of_lt hx, Nat.zero_add]
  have h2 : (x + 4294967296 * D) / 2 ^ s % 4294967296 = (x + 4294967296 * y) / 2 ^ s % 4294967296 := by
    have e : x + 4294967296 * D = (x + 4294967296 * y) + 2 ^ s * (4294967296 * (2 ^ (32 - s) * (D / 4294967296))) := by
      have a1 := Nat.mod_add_div D 4294967296
      have a2 : 2 ^ s * (4294967296 * (2 ^ (32 - s) * (D / 4294967296))) = 4294967296 * (4294967296 * (D / 4294967296)) := by
        rw [← Nat.mul_assoc, Nat.mul_comm (2 ^ s), Nat.mul_assoc, ← Nat.mul_assoc (2 ^ s), ← e32]
      rw [a2, hy]; omega
    rw [e, Nat.add_mul_div_left _ _ hp, Nat.add_mul_mod_self_left]
  have := Nat.mod_add_div ((x + 4294967296 * D) / 2 ^ s) 4294967296
  rw [h1, h2] at this; exact this.symm
theorem and_mask_u32 (x s : Nat) (hs : s < 32) (hx : x < 4294967296) : bits .and .u32 (x : Int) (((2 ^ s - 1 : Nat)) : Int) = ((x % 2 ^ s : Nat) : Int) := by
  have hp : 2 ^ s ≤ 2 ^ 31 := Nat.pow_le_pow_right (by omega) (by omega)
  have h31 : (2 : Nat) ^ 31 = 2147483648 := by decide
  rw [u32_and_nat x (2 ^ s - 1) (by omega) (by omega), Nat.and_two_pow_sub_one_eq_mod]
theorem bne_cast (x : Nat) : ((x : Int) != 0) = (x != 0) := by rw [Bool.eq_iff_iff]; simp
theorem mask_bne (x s : Nat) (hs : s < 32) (hx : x < 4294967296) : (bits .and .u32 (x : Int) (((2 : Int) ^ s - 1) % 4294967296) != 0) = (x % 2 ^ s != 0) := by
  have hp : 2 ^ s ≤ 2 ^ 31 := Nat.pow_le_pow_right (by omega) (by omega)
  have hp0 : 0 < 2 ^ s := Nat.two_pow_pos s
  have h31 : (2 : Nat) ^ 31 = 2147483648 := by decide
  have e : ((2 : Int) ^ s - 1) % 4294967296 = ((2 ^ s - 1 : Nat) : Int) := by
    have : (2 : Int) ^ s = ((2 ^ s : Nat) : Int) := by simp
    rw [this]; omega
  rw [e, and_mask_u32 x s hs hx, bne_cast]
theorem right_zero (m n q s : Nat) (hn : n = 32 * q + s) (h : (limbs m).length ≤ q) : m / 2 ^ n = 0 := by
  have h1 : m < 4294967296 ^ q := (digs_len_le _ (by omega) _ _).1 h
  rw [b_pow] at h1
  exact Nat.div_eq_of_lt (Nat.lt_of_lt_of_le h1 (Nat.pow_le_pow_right (by omega) (by omega)))
theorem right_all (m n q s : Nat) (hn : n = 32 * q + s) (h : q ≤ (limbs m).length) : lval ((limbs m).drop q) / 2 ^ s = m / 2 ^ n := by
  have e : m = lval ((limbs m).take q) + 4294967296 ^ q * lval ((limbs m).drop q) := by
    have := val_take_drop 4294967296 (limbs m) q h; rw [show val 4294967296 (limbs m) = m from lval_limbs m] at this; exact this
  have hV : lval ((limbs m).take q) < 4294967296 ^ q := by have := lval_lt _ ((limbs_lim m).take q); rwa [List.length_take, Nat.min_eq_left (by omega)] at this
  rw [hn, Nat.pow_add, ← b_pow, ← Nat.div_div_eq_div_mul]
  conv => rhs; rw [e]
  rw [Nat.add_mul_div_left _ _ (Nat.pow_pos (by omega)), Nat.div_eq_of_lt hV, Nat.zero_add]
end Go.Ulp
namespace Go.Proofs.Ytincggkdlegjjaa
open Go.RowKit Go.Ulp
set_option linter.unusedVariables false
set_option linter.unusedSimpArgs false
set_option maxHeartbeats 800000
set_option maxRecDepth 100000
end Go.Proofs.Ytincggkdlegjjaa
