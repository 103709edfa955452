/- Decimals, plain: a ratio rounded by a mode; a text with its point; the decade. -/
import Derived.Test.YthaelmnblgollaaGreatDoorTx0
import Derived.Test.YthaelmnblgollaaGreatDoorRn1
set_option linter.unusedVariables false
set_option linter.unusedSimpArgs false
namespace Go.Ulp
open Go.RowKit
/-- a by b, rounded by a mode -/
def rtN (neg : Bool) (a b : Nat) (mode : Int) : Nat := if a % b ≠ 0 ∧ upN neg (decide (a / b % 2 = 1)) (cmpI ((2 * (a % b) : Nat) : Int) (b : Int)) mode = true then a / b + 1 else a / b
def rtC (a b : Nat) : Bool := decide (a % b ≠ 0)
theorem ratio_eq {a b c d : Nat} (hb : 0 < b) (hd : 0 < d) (h : a * d = c * b) : a / b = c / d ∧ (a % b) * d = (c % d) * b := by
  have e1 : a / b = (a * d) / (b * d) := (Nat.mul_div_mul_right _ _ hd).symm
  have e2 : c / d = (c * b) / (d * b) := (Nat.mul_div_mul_right _ _ hb).symm
  refine ⟨by rw [e1, e2, h, Nat.mul_comm b d], ?_⟩
  rw [← Nat.mul_mod_mul_right, ← Nat.mul_mod_mul_right, h, Nat.mul_comm b d]
theorem cmpI_nat_mul (x y k : Nat) (hk : 0 < k) : cmpI ((x * k : Nat) : Int) ((y * k : Nat) : Int) = cmpI (x : Int) (y : Int) := by
  unfold cmpI
  have h1 : ∀ x y : Nat, (((x * k : Nat) : Int) < ((y * k : Nat) : Int)) = ((x : Int) < (y : Int)) := fun x y => propext ⟨fun h => by
    have := (Nat.mul_lt_mul_right hk).1 (Int.ofNat_lt.1 h); omega, fun h => Int.ofNat_lt.2 ((Nat.mul_lt_mul_right hk).2 (by omega))⟩
  simp only [h1]
/-- the rounding of a ratio goes by its value alone -/
theorem rtN_eq (neg : Bool) {a b c d : Nat} (mode : Int) (hb : 0 < b) (hd : 0 < d) (h : a * d = c * b) : rtN neg a b mode = rtN neg c d mode ∧ rtC a b = rtC c d := by
  obtain ⟨h1, h2⟩ := ratio_eq hb hd h
  have h3 : (a % b ≠ 0) = (c % d ≠ 0) := propext ⟨fun h5 h6 => h5 (by
    rw [h6, Nat.zero_mul] at h2
    rcases Nat.mul_eq_zero.1 h2 with h7 | h7 <;> omega), fun h5 h6 => h5 (by
    rw [h6, Nat.zero_mul] at h2
    rcases Nat.mul_eq_zero.1 h2.symm with h7 | h7 <;> omega)⟩
  have h4 : cmpI ((2 * (a % b) : Nat) : Int) (b : Int) = cmpI ((2 * (c % d) : Nat) : Int) (d : Int) := by
    rw [← cmpI_nat_mul _ b d hd, ← cmpI_nat_mul _ d b hb, Nat.mul_assoc, h2, ← Nat.mul_assoc, Nat.mul_comm b d]
  unfold rtN rtC
  rw [h1, h4]
  simp only [h3]
  exact ⟨trivial, trivial⟩
theorem rtN_exact (neg : Bool) (a b : Nat) (mode : Int) (h : a % b = 0) : rtN neg a b mode = a / b := by unfold rtN; rw [if_neg (fun h1 => h1.1 h)]
theorem rtN_ge (neg : Bool) (a b : Nat) (mode : Int) : a / b ≤ rtN neg a b mode ∧ rtN neg a b mode ≤ a / b + 1 := by
  unfold rtN; split <;> omega
theorem rtN_le (neg : Bool) (a b : Nat) (mode : Int) (hb : 0 < b) (k : Nat) (h : a < k * b) : rtN neg a b mode ≤ k := by
  have := Nat.div_lt_of_lt_mul (show a < b * k by rw [Nat.mul_comm]; exact h)
  have := (rtN_ge neg a b mode).2
  omega
/-- with a point ahead of so many places -/
def ptd (D : List UInt8) (p : Nat) : List UInt8 := if p = 0 then D else (padz (p + 1) D).take ((padz (p + 1) D).length - p) ++ 46 :: (padz (p + 1) D).drop ((padz (p + 1) D).length - p)
theorem ptd_zero (D : List UInt8) : ptd D 0 = D := if_pos rfl
theorem ptd_pos (D : List UInt8) (p : Nat) (h : 0 < p) : ptd D p = (padz (p + 1) D).take ((padz (p + 1) D).length - p) ++ 46 :: (padz (p + 1) D).drop ((padz (p + 1) D).length - p) := if_neg (by omega)
theorem ptd_len (D : List UInt8) (p : Nat) : (ptd D p).length ≤ max (p + 1) D.length + 1 := by
  unfold ptd
  split
  · omega
  · rw [List.length_append, List.length_cons, List.length_take, List.length_drop, padz_len]; omega
def dsh (neg : Bool) (L : List UInt8) : List UInt8 := if neg = true then 45 :: L else L
/-- 10^p is no more than the ratio, which is less than 10^(p+1) -/
def tnN (k : Int) : Nat := 10 ^ k.toNat
/-- is a by b less than 10^p? -/
def lessT (a b : Nat) (p : Int) : Bool := decide (a * tnN (-p) < b * tnN p)
theorem tnN_pos (k : Int) : 0 < tnN k := Nat.pow_pos (by omega)
theorem tn_step (p : Int) : tnN (p + 1) * tnN (-p) = 10 * (tnN p * tnN (-(p + 1))) := by
  unfold tnN
  rcases Int.le_total 0 p with h | h
  · rw [show (p + 1).toNat = p.toNat + 1 by omega, show (-p).toNat = 0 by omega, show (-(p + 1)).toNat = 0 by omega, Nat.pow_succ]; omega
  · by_cases h2 : p = 0
    · subst h2; decide
    · rw [show (p + 1).toNat = 0 by omega, show p.toNat = 0 by omega, show (-p).toNat = (-(p + 1)).toNat + 1 by omega, Nat.pow_succ]; omega
theorem lessT_mono (a b : Nat) (p : Int) (h : lessT a b p = true) : lessT a b (p + 1) = true := by
  have h := of_decide_eq_true h
  refine decide_eq_true ?_
  have h1 := tn_step p
  have hp := tnN_pos (-p)
  have hq := tnN_pos (-(p + 1))
  have h2 : a * tnN (-p) * tnN (-(p + 1)) < b * tnN p * tnN (-(p + 1)) := (Nat.mul_lt_mul_right hq).2 h
  have h3 : b * tnN (p + 1) * tnN (-p) = 10 * (b * tnN p * tnN (-(p + 1))) := by
    rw [Nat.mul_assoc, h1]; simp only [Nat.mul_assoc, Nat.mul_left_comm]
  have h4 : a * tnN (-(p + 1)) * tnN (-p) < b * tnN (p + 1) * tnN (-p) := by
    rw [h3, Nat.mul_right_comm]; omega
  exact (Nat.mul_lt_mul_right hp).1 h4
theorem lessT_le (a b : Nat) (p : Int) : ∀ k : Nat, lessT a b p = true → lessT a b (p + k) = true
  | 0, h => by rw [show p + ((0 : Nat) : Int) = p by omega]; exact h
  | k + 1, h => by
    have h1 := lessT_mono a b _ (lessT_le a b p k h)
    rwa [show p + ((k + 1 : Nat) : Int) = p + (k : Int) + 1 by omega]
/-- the decade -/
def IsDec (a b : Nat) (p : Int) : Prop := lessT a b p = false ∧ lessT a b (p + 1) = true
theorem dec_uniq {a b : Nat} {p q : Int} (h : IsDec a b p) (k : IsDec a b q) : p = q := by
  rcases Int.lt_trichotomy p q with h1 | h1 | h1
  · have := lessT_le a b (p + 1) (q - (p + 1)).toNat h.2
    rw [show p + 1 + ((q - (p + 1)).toNat : Int) = q by omega, k.1] at this
    exact absurd this (by simp)
  · exact h1
  · have := lessT_le a b (q + 1) (p - (q + 1)).toNat k.2
    rw [show q + 1 + ((p - (q + 1)).toNat : Int) = p by omega, h.1] at this
    exact absurd this (by simp)
theorem lessT_eq {a b c d : Nat} (hb : 0 < b) (hd : 0 < d) (h : a * d = c * b) (p : Int) : lessT a b p = lessT c d p := by
  unfold lessT
  rw [decide_eq_decide]
  refine (Nat.mul_lt_mul_right hd).symm.trans (Iff.trans ?_ (Nat.mul_lt_mul_right hb))
  rw [Nat.mul_right_comm a, h, Nat.mul_right_comm c, Nat.mul_right_comm d, Nat.mul_comm d b, Nat.mul_right_comm b]
/-- a number's places -/
theorem decD_lt (n : Nat) : n < 10 ^ (decD n).length := by
  induction n using Nat.strongRecOn with
  | _ n ih =>
    by_cases h : n < 10
    · rw [decD_small h]; simpa using h
    · have := ih (n / 10) (by omega)
      rw [decD_big h, List.length_append, List.length_singleton, Nat.pow_succ]; omega
theorem decD_ge (n : Nat) (h : 0 < n) : 10 ^ ((decD n).length - 1) ≤ n := by
  induction n using Nat.strongRecOn with
  | _ n ih =>
    by_cases h1 : n < 10
    · rw [decD_small h1]; exact h
    · have h2 := ih (n / 10) (by omega) (by omega)
      have h3 := decD_pos (n / 10)
      obtain ⟨l, hl⟩ : ∃ l, (decD (n / 10)).length = l + 1 := ⟨(decD (n / 10)).length - 1, by omega⟩
      rw [decD_big h1, List.length_append, List.length_singleton, hl, show l + 1 + 1 - 1 = l + 1 by omega, Nat.pow_succ]
      rw [hl, show l + 1 - 1 = l by omega] at h2
      omega
theorem decD_len_lt (n k : Nat) (h : n < 10 ^ k) (hk : 0 < k) : (decD n).length ≤ k := by
  obtain ⟨j, rfl⟩ : ∃ j, k = j + 1 := ⟨k - 1, by omega⟩
  exact decD_len j n h
theorem decD_len_gt (n k : Nat) (h : 10 ^ k ≤ n) : k < (decD n).length := by
  have := decD_lt n
  exact (Nat.pow_lt_pow_iff_right (by omega : 1 < 10)).1 (Nat.lt_of_le_of_lt h this)
theorem tn_mul (k : Nat) (p : Int) : 10 ^ k * tnN (-((k : Int) - p)) * tnN (-p) = tnN p * tnN ((k : Int) - p) := by
  unfold tnN
  rcases Int.le_total p 0 with h | h
  · rw [show (-((k : Int) - p)).toNat = 0 by omega, show p.toNat = 0 by omega, show ((k : Int) - p).toNat = k + (-p).toNat by omega, Nat.pow_add, Nat.pow_zero, Nat.mul_one, Nat.one_mul]
  · rcases Int.le_total p k with h2 | h2
    · rw [show (-((k : Int) - p)).toNat = 0 by omega, show (-p).toNat = 0 by omega, ← Nat.pow_add, ← Nat.pow_add, ← Nat.pow_add, show p.toNat + ((k : Int) - p).toNat = k + 0 + 0 by omega]
    · rw [show ((k : Int) - p).toNat = 0 by omega, show (-p).toNat = 0 by omega, ← Nat.pow_add, ← Nat.pow_add, ← Nat.pow_add, show p.toNat + 0 = k + (-((k : Int) - p)).toNat + 0 by omega]
theorem lessT_tens (a b : Nat) (p : Int) (k : Nat) : lessT a b p = decide (a * tnN ((k : Int) - p) < 10 ^ k * (b * tnN (-((k : Int) - p)))) := by
  unfold lessT
  rw [decide_eq_decide]
  have h := tn_mul k p
  have h1 := tnN_pos (-p)
  have h2 := tnN_pos ((k : Int) - p)
  refine (Nat.mul_lt_mul_right h2).symm.trans (Iff.trans ?_ (Nat.mul_lt_mul_right h1))
  have e : 10 ^ k * (b * tnN (-((k : Int) - p))) * tnN (-p) = b * tnN p * tnN ((k : Int) - p) := by
    rw [Nat.mul_assoc b, ← h]; simp only [Nat.mul_assoc, Nat.mul_left_comm]
  rw [e, Nat.mul_right_comm a]
/-- so many digits of a ratio: what is told, and the decade of the first -/
def sciQ (neg : Bool) (a b : Nat) (k : Nat) (p mode : Int) : Nat := rtN neg (a * tnN ((k : Int) - p)) (b * tnN (-((k : Int) - p))) mode
def sciC (a b : Nat) (k : Nat) (p : Int) : Bool := rtC (a * tnN ((k : Int) - p)) (b * tnN (-((k : Int) - p)))
theorem sciQ_bd (neg : Bool) (a b : Nat) (k : Nat) (p mode : Int) (hb : 0 < b) (h : IsDec a b p) : 10 ^ k ≤ sciQ neg a b k p mode ∧ sciQ neg a b k p mode ≤ 10 ^ (k + 1) := by
  have h1 := h.1
  have h2 := h.2
  rw [lessT_tens a b p k] at h1
  rw [lessT_tens a b (p + 1) (k + 1), show (((k + 1 : Nat) : Int) - (p + 1)) = (k : Int) - p by omega] at h2
  have h1 := of_decide_eq_false h1
  have h2 := of_decide_eq_true h2
  have hp := Nat.mul_pos hb (tnN_pos (-((k : Int) - p)))
  unfold sciQ
  exact ⟨Nat.le_trans ((Nat.le_div_iff_mul_le hp).2 (by omega)) (rtN_ge _ _ _ _).1, rtN_le _ _ _ _ hp _ h2⟩
theorem sciQ_eq (neg : Bool) {a b c d : Nat} (k : Nat) (p mode : Int) (hb : 0 < b) (hd : 0 < d) (h : a * d = c * b) : sciQ neg a b k p mode = sciQ neg c d k p mode ∧ sciC a b k p = sciC c d k p := by
  unfold sciQ sciC
  have h1 := tnN_pos (-((k : Int) - p))
  refine rtN_eq neg mode (Nat.mul_pos hb h1) (Nat.mul_pos hd h1) ?_
  rw [show a * tnN ((k : Int) - p) * (d * tnN (-((k : Int) - p))) = a * d * (tnN ((k : Int) - p) * tnN (-((k : Int) - p))) by simp only [Nat.mul_assoc, Nat.mul_left_comm, Nat.mul_comm], h]
  simp only [Nat.mul_assoc, Nat.mul_left_comm, Nat.mul_comm]
def sciD (q k : Nat) : List UInt8 := if 10 ^ (k + 1) ≤ q then decD (q / 10) else decD q
def sciP (q k : Nat) (p : Int) : Int := if 10 ^ (k + 1) ≤ q then p + 1 else p
theorem sciD_len (q k : Nat) (h0 : 10 ^ k ≤ q) (h1 : q ≤ 10 ^ (k + 1)) : (sciD q k).length = k + 1 := by
  unfold sciD
  have hp : 0 < 10 ^ k := Nat.pow_pos (by omega)
  split
  · rename_i h
    rw [Nat.pow_succ] at h h1
    have e : q / 10 = 10 ^ k := by omega
    rw [e]
    have h2 := decD_len_gt (10 ^ k) k (Nat.le_refl _)
    have h3 := decD_len k (10 ^ k) (Nat.pow_lt_pow_right (by omega) (by omega))
    omega
  · rename_i h
    have h2 := decD_len_gt q k h0
    have h3 := decD_len k q (by omega)
    omega
theorem sciD_over (q k : Nat) (h0 : 10 ^ k ≤ q) (h1 : q ≤ 10 ^ (k + 1)) : (k + 1 < (decD q).length) = (10 ^ (k + 1) ≤ q) := by
  refine propext ⟨fun h => Nat.le_of_not_lt fun h2 => ?_, fun h => decD_len_gt q (k + 1) h⟩
  have := decD_len k q h2
  omega
theorem sciD_take (q k : Nat) (h0 : 10 ^ k ≤ q) (h1 : q ≤ 10 ^ (k + 1)) (h : 10 ^ (k + 1) ≤ q) : (decD q).take (k + 1) = decD (q / 10) ∧ (decD q).length = k + 2 := by
  have h2 := sciD_len q k h0 h1
  unfold sciD at h2
  rw [if_pos h] at h2
  have hp : 0 < 10 ^ k := Nat.pow_pos (by omega)
  have h3 : ¬ q < 10 := by rw [Nat.pow_succ] at h; omega
  rw [decD_big h3, List.take_append_of_le_length (by omega), List.length_append, h2]
  exact ⟨by rw [← h2]; exact List.take_length .., rfl⟩
/-- an exponent in two digits or more -/
def pwrT (p : Int) : List UInt8 := (if p < 0 then 45 else 43) :: ((if p.natAbs < 10 then [48] else []) ++ decD p.natAbs)
theorem ptd_first (D : List UInt8) (k : Nat) (h : D.length = k + 1) (hk : 0 < k) : ptd D k = D.take 1 ++ 46 :: D.drop 1 := by
  rw [ptd_pos D k hk, padz_long _ _ (by omega), h, show k + 1 - k = 1 by omega]
end Go.Ulp
