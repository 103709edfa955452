/- The remainder, to the nearest whole number of times. -/
import Derived.Test.YtincggkdlegjjaaDoorEs1
set_option linter.unusedVariables false
set_option linter.unusedSimpArgs false
namespace Go.Ulp
open Go.RowKit
/-- of whole numbers -/
def remI (a b : Int) : Int := if (b.natAbs : Int) < a % b + a % b ∨ (a % b + a % b = b.natAbs ∧ a / b % 2 = 1) then a % b - b.natAbs else a % b
/-- of naturals, as the program has it -/
def remB (m n : Nat) : Bool := decide (n < m % n * 2 ∨ (m % n * 2 = n ∧ m / n % 2 = 1))
def remN (m n : Nat) : Nat := if remB m n = true then n - m % n else m % n
def remS (s : Bool) (m n : Nat) : Bool := if remB m n = true then !s else s
theorem remI_scale (a b : Int) (t : Nat) : remI (a * pw t) (b * pw t) = remI a b * pw t := by
  have hp := pw_pos t
  have e1 : a * pw t % (b * pw t) = a % b * pw t := by rw [Int.mul_comm a, Int.mul_comm b, Int.mul_emod_mul_of_pos _ _ hp, Int.mul_comm]
  have e2 : a * pw t / (b * pw t) = a / b := by rw [Int.mul_comm a, Int.mul_comm b, Int.mul_ediv_mul_of_pos _ _ hp]
  have e3 : ((b * pw t).natAbs : Int) = (b.natAbs : Int) * pw t := by rw [natAbs_mul_pw, Int.natCast_mul]; rfl
  unfold remI
  rw [e1, e2, e3, ← Int.add_mul]
  have c1 : (b.natAbs : Int) * pw t < (a % b + a % b) * pw t ↔ (b.natAbs : Int) < a % b + a % b := pw_lt t
  have c2 : (a % b + a % b) * pw t = (b.natAbs : Int) * pw t ↔ a % b + a % b = (b.natAbs : Int) := ⟨fun h => pw_inj t h, fun h => by rw [h]⟩
  have cc : ((b.natAbs : Int) * pw t < (a % b + a % b) * pw t ∨ ((a % b + a % b) * pw t = (b.natAbs : Int) * pw t ∧ a / b % 2 = 1)) ↔ ((b.natAbs : Int) < a % b + a % b ∨ (a % b + a % b = (b.natAbs : Int) ∧ a / b % 2 = 1)) := by rw [c1, c2]
  by_cases h : (b.natAbs : Int) < a % b + a % b ∨ (a % b + a % b = (b.natAbs : Int) ∧ a / b % 2 = 1)
  · rw [if_pos (cc.2 h), if_pos h, ← Int.sub_mul]
  · rw [if_neg (fun h9 => h (cc.1 h9)), if_neg h]
theorem remI_neg (a b : Int) : remI a (-b) = remI a b := by
  unfold remI
  rw [Int.emod_neg, Int.natAbs_neg, Int.ediv_neg]
  by_cases h : (b.natAbs : Int) < a % b + a % b ∨ (a % b + a % b = (b.natAbs : Int) ∧ a / b % 2 = 1)
  · rw [if_pos h, if_pos (by omega)]
  · rw [if_neg h, if_neg (by omega)]
theorem remI_nat (s : Bool) (m n : Nat) (hn : 0 < n) : remI (sg s (m : Int)) (n : Int) = sg (remS s m n) (remN m n : Int) := by
  have hm := Nat.div_add_mod m n
  have hr := Nat.mod_lt m hn
  obtain ⟨q, hq⟩ : ∃ q, q = m / n := ⟨_, rfl⟩
  obtain ⟨r, hr2⟩ : ∃ r, r = m % n := ⟨_, rfl⟩
  have hB : remB m n = decide (n < r * 2 ∨ (r * 2 = n ∧ q % 2 = 1)) := by unfold remB; rw [← hq, ← hr2]
  have hN : remN m n = if remB m n = true then n - r else r := by unfold remN; rw [← hr2]
  rw [← hq, ← hr2] at hm
  rw [← hr2] at hr
  have key : ∀ (Q R : Int), R + (n : Int) * Q = sg s (m : Int) → 0 ≤ R → R < n → sg s (m : Int) / (n : Int) = Q ∧ sg s (m : Int) % (n : Int) = R := fun Q R h1 h2 h3 => (Int.ediv_emod_unique (by omega)).2 ⟨h1, h2, h3⟩
  have hmi : (n : Int) * (q : Int) + (r : Int) = (m : Int) := by rw [← Int.natCast_mul]; omega
  unfold remI remS
  rw [Int.natAbs_natCast, hN, hB]
  cases s
  · obtain ⟨k1, k2⟩ := key (q : Int) (r : Int) (by rw [show sg false (m : Int) = (m : Int) from rfl]; omega) (by omega) (by omega)
    rw [k1, k2]
    by_cases h : n < r * 2 ∨ (r * 2 = n ∧ q % 2 = 1)
    · rw [if_pos (by omega), decide_eq_true h, if_pos rfl, if_pos rfl]
      show (r : Int) - n = -((n - r : Nat) : Int)
      omega
    · rw [if_neg (by omega), decide_eq_false h, if_neg (by simp), if_neg (by simp)]
      rfl
  · by_cases h0 : r = 0
    · obtain ⟨k1, k2⟩ := key (-(q : Int)) 0 (by rw [show sg true (m : Int) = -(m : Int) from rfl, Int.mul_neg]; omega) (by omega) (by omega)
      rw [k1, k2]
      have hf : ¬ (n < r * 2 ∨ (r * 2 = n ∧ q % 2 = 1)) := by omega
      rw [if_neg (by omega), decide_eq_false hf, if_neg (by simp), if_neg (by simp)]
      show (0 : Int) = -(r : Int)
      omega
    · obtain ⟨k1, k2⟩ := key (-(q : Int) - 1) ((n : Int) - r) (by rw [show sg true (m : Int) = -(m : Int) from rfl, Int.mul_sub, Int.mul_neg, Int.mul_one]; omega) (by omega) (by omega)
      rw [k1, k2]
      by_cases h : n < r * 2 ∨ (r * 2 = n ∧ q % 2 = 1)
      · rw [if_neg (by omega), decide_eq_true h, if_pos rfl, if_pos rfl]
        show (n : Int) - r = ((n - r : Nat) : Int)
        omega
      · rw [if_pos (by omega), decide_eq_false h, if_neg (by simp), if_neg (by simp)]
        show (n : Int) - r - n = -(r : Int)
        omega
theorem remI_sg (s s' : Bool) (m n : Nat) (hn : 0 < n) : remI (sg s (m : Int)) (sg s' (n : Int)) = sg (remS s m n) (remN m n : Int) := by
  cases s'
  · exact remI_nat s m n hn
  · show remI _ (-(n : Int)) = _
    rw [remI_neg]; exact remI_nat s m n hn
/-- the naturals on one level, and the level -/
def rmE (x y : Int) : Int := min (fv x).2 (fv y).2
def rmM (x y : Int) : Nat := (fv x).1.natAbs * 2 ^ ((fv x).2 - rmE x y).toNat
def rmN (x y : Int) : Nat := (fv y).1.natAbs * 2 ^ ((fv y).2 - rmE x y).toNat
def rmR (x y : Int) : Int := sg (remS (negB x) (rmM x y) (rmN x y)) (remN (rmM x y) (rmN x y) : Int)
/-- what Rem answers -/
def remX (x y : Int) : Int :=
  if (isNan x || isNan y || isInf x || isZer y) = true then 9221120237041090560 else if (isInf y || isZer x) = true then x
  else if rmR x y = 0 then sgb (negB x) else rX (nrm (rmR x y) (rmE x y)) 0
theorem rm_level (x y a b : Int) (K : Nat) (hx : (fv x).1 ≠ 0) (hy : (fv y).1 ≠ 0) (ha : nrm a (-(K : Int)) = fv x) (hb : nrm b (-(K : Int)) = fv y) :
    0 < rmN x y ∧ remI a b = rmR x y * pw (rmE x y + K).toNat ∧ nrm (remI a b) (-(K : Int)) = nrm (rmR x y) (rmE x y) := by
  obtain ⟨k, a1, a2⟩ := nrm_rep a (-(K : Int))
  obtain ⟨l, b1, b2⟩ := nrm_rep b (-(K : Int))
  rw [ha] at a1 a2
  rw [hb] at b1 b2
  have pk := pw_pos k
  have pl := pw_pos l
  have a0 : a ≠ 0 := by rw [a1]; intro h; rcases Int.mul_eq_zero.1 h with h | h; exact hx h; omega
  have b0 : b ≠ 0 := by rw [b1]; intro h; rcases Int.mul_eq_zero.1 h with h | h; exact hy h; omega
  have a3 := a2 a0
  have b3 := b2 b0
  have hm : rmE x y ≤ (fv x).2 ∧ rmE x y ≤ (fv y).2 ∧ (rmE x y = (fv x).2 ∨ rmE x y = (fv y).2) := by unfold rmE; omega
  have hxp : 0 < (fv x).1.natAbs := by omega
  have hyp : 0 < (fv y).1.natAbs := by omega
  have sx := fv_sign x hxp
  have sy := fv_sign y hyp
  obtain ⟨t, ht⟩ : ∃ t, t = (rmE x y + K).toNat := ⟨_, rfl⟩
  have ha4 : a = sg (negB x) (rmM x y : Int) * pw t := by
    unfold rmM
    rw [Int.natCast_mul, ← sg_mul, show (((2 ^ ((fv x).2 - rmE x y).toNat : Nat) : Int)) = pw ((fv x).2 - rmE x y).toNat from rfl, Int.mul_assoc, ← pw_add, ← sx, sg_self]
    rw [a1]; congr 2; omega
  have hb4 : b = sg (negB y) (rmN x y : Int) * pw t := by
    unfold rmN
    rw [Int.natCast_mul, ← sg_mul, show (((2 ^ ((fv y).2 - rmE x y).toNat : Nat) : Int)) = pw ((fv y).2 - rmE x y).toNat from rfl, Int.mul_assoc, ← pw_add, ← sy, sg_self]
    rw [b1]; congr 2; omega
  have hn : 0 < rmN x y := Nat.mul_pos hyp (Nat.two_pow_pos _)
  have hr : remI a b = rmR x y * pw t := by
    rw [ha4, hb4, remI_scale, remI_sg _ _ _ _ hn]; rfl
  rw [← ht]
  refine ⟨hn, hr, ?_⟩
  rw [hr, nrm_scale]; congr 1; omega
theorem fv_abs (x : Int) (h0 : 0 ≤ x) (h1 : x < 18446744073709551616) (h : classOf x < 4) : fv (absOf x) = absD (fv x) := by
  have e1 : mantOf (absOf x) = mantOf x := by unfold mantOf absOf expOf fracOf; split <;> split <;> omega
  have e2 : dexp (absOf x) = dexp x := by unfold dexp absOf expOf; omega
  have e3 : negB (absOf x) = false := by unfold negB absOf; exact decide_eq_false (by omega)
  have hm := (mantOf_bd x).1
  unfold fv
  rw [e1, e2, e3, ← nrm_natAbs]
  congr 1
  cases negB x
  · show mantOf x = ((mantOf x).natAbs : Int); omega
  · show mantOf x = ((-mantOf x).natAbs : Int); omega
end Go.Ulp
