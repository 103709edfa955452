/- Whole numbers: which they are. -/
import Derived.Test.YtincggkdlegjjaaDoorRm
import Derived.Test.YtincggkdlegjjaaDoorSu3
set_option linter.unusedVariables false
set_option linter.unusedSimpArgs false
namespace Go.Ulp
open Go.RowKit
/-- a number, rounded to a whole one -/
def whD (x mode : Int) : Dy := mplD (fv x) 0 mode
def whC (x : Int) : Bool := mplC (fv x) 0
/-- what a Dyad without places behind the point is worth -/
def whole (D : Dy) : Int := D.1 * pw D.2.toNat
theorem fv_isN (x : Int) : IsN (fv x) := nrm_isN _ _
theorem cutN_le2 (neg : Bool) (M : Nat) (j mode : Int) (h : 0 < j) : cutN neg M j mode ≤ M + 1 := by
  unfold cutN
  rw [if_neg (by omega)]
  have := Nat.div_le_self M (2 ^ j.toNat)
  split <;> omega
theorem whD_form (x mode : Int) (h0 : 0 ≤ x) (h1 : x < 18446744073709551616) : (whD x mode).1.natAbs < 2 ^ 54 ∧ 0 ≤ (whD x mode).2 ∧ (whD x mode).2 ≤ 1100 ∧ IsN (whD x mode) := by
  obtain ⟨-, b1, b2, b3⟩ := fv_bd x h0 h1
  unfold whD mplD
  split
  · rename_i h
    rw [nrm_of_isN _ (fv_isN x)]
    refine ⟨Nat.lt_of_lt_of_le b1 (by decide), ?_, by omega, fv_isN x⟩
    unfold mulK at h
    rcases of_decide_eq_true h with h | h
    · exact h
    · rcases fv_isN x with k | k
      · rw [k.2]; omega
      · rw [h] at k; omega
  · rename_i h
    have hj : 0 < 0 - (fv x).2 := by
      unfold mulK at h
      have := of_decide_eq_false (Bool.not_eq_true _ ▸ h)
      omega
    have hc := cutN_le2 (decide ((fv x).1 < 0)) (fv x).1.natAbs (0 - (fv x).2) mode hj
    have hA : (sg (decide ((fv x).1 < 0)) (cutN (decide ((fv x).1 < 0)) (fv x).1.natAbs (0 - (fv x).2) mode : Int)).natAbs < 2 ^ 54 := by
      rw [sg_abs, Int.natAbs_natCast]
      have : (2 : Nat) ^ 53 + 1 ≤ 2 ^ 54 := by decide
      omega
    obtain ⟨k1, k2⟩ := nrm_bd (sg (decide ((fv x).1 < 0)) (cutN (decide ((fv x).1 < 0)) (fv x).1.natAbs (0 - (fv x).2) mode : Int)) 0 54 hA
    exact ⟨k1, by rcases k2 with k | k <;> omega, by rcases k2 with k | k <;> omega, nrm_isN _ _⟩
theorem whC_iff (x : Int) (h0 : 0 ≤ x) (h1 : x < 18446744073709551616) : whC x = !decide (0 ≤ (fv x).2) := by
  unfold whC mplC
  by_cases h : mulK (fv x) 0 = true
  · rw [if_pos h]
    have h2 : 0 ≤ (fv x).2 := by
      unfold mulK at h
      rcases of_decide_eq_true h with h | h
      · exact h
      · rcases fv_isN x with k | k
        · rw [k.2]; omega
        · rw [h] at k; omega
    rw [decide_eq_true h2]; rfl
  · rw [if_neg h]
    unfold mulK at h
    have h3 := of_decide_eq_false (Bool.not_eq_true _ ▸ h)
    have h2 : ¬ 0 ≤ (fv x).2 := by omega
    rw [decide_eq_false h2]
    have hodd : (fv x).1.natAbs % 2 = 1 := by
      rcases fv_isN x with k | k
      · omega
      · exact k
    obtain ⟨j, hj⟩ : ∃ j : Nat, 0 - (fv x).2 = ((j + 1 : Nat) : Int) := ⟨(0 - (fv x).2).toNat - 1, by omega⟩
    rw [hj, cutC_pos]
    unfold lostB
    show decide _ = true
    rw [decide_eq_true_eq, Nat.pow_succ]
    intro e
    have e2 : (fv x).1.natAbs % 2 = 0 := by
      have := Nat.mod_mod_of_dvd (fv x).1.natAbs (show 2 ∣ 2 ^ j * 2 from ⟨2 ^ j, by rw [Nat.mul_comm]⟩)
      rw [e] at this
      omega
    omega
theorem whole_nrm (D : Dy) (h : 0 ≤ D.2) (hI : IsN D) : nrm (whole D) 0 = D := by
  unfold whole
  rw [nrm_scale]
  have : (0 : Int) + (D.2.toNat : Int) = D.2 := by omega
  rw [this]; exact nrm_of_isN D hI
theorem whole_abs (D : Dy) (h : 0 ≤ D.2) (hI : IsN D) : nrm ((whole D).natAbs : Int) 0 = absD D := by
  rw [nrm_natAbs, whole_nrm D h hI]
theorem whole_div (D : Dy) (h : 0 ≤ D.2) (X : Int) (S : Nat) (hX : nrm X (-(S : Int)) = D) : X / pw S = whole D := by
  obtain ⟨k, h1, h2⟩ := nrm_rep X (-(S : Int))
  rw [hX] at h1 h2
  by_cases h0 : X = 0
  · have hD : D = (0, 0) := by rw [← hX, h0]; exact nrm_zero _
    rw [h0, hD]; unfold whole; simp
  · have hk := h2 h0
    have hk2 : k = D.2.toNat + S := by omega
    unfold whole
    rw [h1, hk2, pw_add, ← Int.mul_assoc]
    exact Int.mul_ediv_cancel _ (by have := pw_pos S; omega)
theorem whole_bd (A : Nat) (hA : 1154 ≤ A) (D : Dy) (h1 : D.1.natAbs < 2 ^ 54) (h2 : D.2 ≤ 1100) : (whole D).natAbs < 2 ^ A := by
  unfold whole
  exact abs_weak (abs_mul_pw_lt h1) (by omega)
/-- by the nearest, both signs alike -/
theorem upN_zero (neg odd : Bool) (half : Int) : upN neg odd half 0 = upN false odd half 0 := by simp [upN]
theorem numX_zero (neg : Bool) (m : Nat) (e : Int) : numX neg m e 0 = numX false m e 0 + sgb neg ∧ 0 ≤ numX false m e 0 ∧ numX false m e 0 < 9223372036854775808 := by
  have hc : cutN neg m (numK m e - e) 0 = cutN false m (numK m e - e) 0 := by
    unfold cutN; rw [upN_zero]
  have hR : numR neg m e 0 = numR false m e 0 := by unfold numR; rw [hc]
  have hn : 0 ≤ numR false m e 0 := by
    unfold numR
    split
    · omega
    · have : -1074 ≤ numK m e := by unfold numK; omega
      have h2 : 0 ≤ (numK m e + 1074) * 4503599627370496 := Int.mul_nonneg (by omega) (by omega)
      omega
  unfold numX
  rw [hR]
  unfold capX overA sgb
  refine ⟨?_, ?_, ?_⟩
  · cases neg <;> simp <;> split <;> omega
  · simp; split <;> omega
  · simp; split <;> omega
theorem rX_abs (D : Dy) : absOf (rX D 0) = rX (absD D) 0 := by
  have h := numX_zero (decide (D.1 < 0)) D.1.natAbs D.2
  have e : rX (absD D) 0 = numX false D.1.natAbs D.2 0 := by
    unfold rX absD
    rw [show decide (((D.1.natAbs : Int), D.2).1 < 0) = false from decide_eq_false (by show ¬ ((D.1.natAbs : Int) < 0); omega)]
    rfl
  rw [e]
  unfold rX absOf
  rw [h.1]
  unfold sgb
  split <;> omega
theorem absD_isN {D : Dy} (h : IsN D) : IsN (absD D) := by
  rcases h with h | h
  · left; unfold absD; rw [h.1]; exact ⟨rfl, h.2⟩
  · right; unfold absD; rw [show (((D.1.natAbs : Int), D.2) : Dy).1.natAbs = D.1.natAbs from Int.natAbs_natCast _]; exact h
theorem rX_lt (D : Dy) : 0 ≤ rX (absD D) 0 ∧ rX (absD D) 0 < 9223372036854775808 := by
  have h := numX_zero (decide (D.1 < 0)) D.1.natAbs D.2
  have e : rX (absD D) 0 = numX false D.1.natAbs D.2 0 := by
    unfold rX absD
    rw [show decide (((D.1.natAbs : Int), D.2).1 < 0) = false from decide_eq_false (by show ¬ ((D.1.natAbs : Int) < 0); omega)]
    rfl
  rw [e]; exact h.2
/-- what Round answers -/
def wrX (x mode : Int) : Int := if isNan x then 9221120237041090560 else if isInf x then x else rX (absD (whD x mode)) 0 + sgb (negB x)
def wrC (x : Int) : Bool := if isNan x then false else if isInf x then false else whC x
/-- what Int answers -/
def wiE (x mode : Int) : Int := if knownB mode = true then (if hasVal x = true then (if -9223372036854775808 ≤ whole (whD x mode) ∧ whole (whD x mode) ≤ 9223372036854775807 then 0 else 4) else 4) else 1
def wiX (x mode : Int) : Int := if wiE x mode = 0 then whole (whD x mode) else 0
def wiC (x mode : Int) : Bool := if wiE x mode = 0 then whC x else false
theorem wi_bad {x mode e : Int} (h : wiE x mode = e) (he : e ≠ 0) : wiX x mode = 0 ∧ wiC x mode = false ∧ wiE x mode = e := by
  unfold wiX wiC; rw [if_neg (by rw [h]; exact he), if_neg (by rw [h]; exact he)]; exact ⟨rfl, rfl, h⟩
theorem wi_good {x mode : Int} (h : wiE x mode = 0) : wiX x mode = whole (whD x mode) ∧ wiC x mode = whC x ∧ wiE x mode = 0 := by
  unfold wiX wiC; rw [if_pos h, if_pos h]; exact ⟨rfl, rfl, h⟩
end Go.Ulp
namespace Go.Ulp
open Go.RowKit
theorem and_sign (x : Int) (h0 : 0 ≤ x) (h1 : x < 18446744073709551616) : bits .and .u64 x 9223372036854775808 = sgb (negB x) := by
  obtain ⟨n, rfl⟩ := Int.eq_ofNat_of_zero_le h0
  have e := u64_and_nat n 9223372036854775808 (by omega) (by omega)
  rw [show ((9223372036854775808 : Nat) : Int) = 9223372036854775808 from rfl] at e
  rw [e]
  have tb : n.testBit 63 = decide (9223372036854775808 ≤ n) := by
    rw [Nat.testBit_eq_decide_div_mod_eq, decide_eq_decide]
    omega
  have key : n &&& 9223372036854775808 = if n.testBit 63 then 9223372036854775808 else 0 := by
    apply Nat.eq_of_testBit_eq
    intro i
    have h2 : (9223372036854775808 : Nat) = 2 ^ 63 := by decide
    rw [Nat.testBit_and]
    by_cases hi : 63 = i
    · subst hi
      cases h : n.testBit 63
      · simp
      · simp [h2]
    · have : (9223372036854775808 : Nat).testBit i = false := by rw [h2, Nat.testBit_two_pow]; simp [hi]
      rw [this, Bool.and_false]
      split
      · exact this.symm
      · simp
  rw [key, tb]
  unfold sgb negB
  have a : decide (9223372036854775808 ≤ n) = decide ((9223372036854775808 : Int) ≤ (n : Int)) := by rw [decide_eq_decide]; omega
  rw [a]
  cases decide ((9223372036854775808 : Int) ≤ (n : Int)) <;> rfl
theorem cutN_short (neg : Bool) (M : Nat) (e mode : Int) (A : Nat) (hA : A = 1200) (hM : M < 2 ^ 53) (he : e ≤ 1024) : cutN neg M (0 - e) mode < 2 ^ A := by
  by_cases h : 0 < 0 - e
  · have := cutN_le2 neg M (0 - e) mode h
    have h2 : (2 : Nat) ^ 53 + 1 ≤ 2 ^ 54 := by decide
    have h3 : (2 : Nat) ^ 54 ≤ 2 ^ A := Nat.pow_le_pow_right (by omega) (by omega)
    omega
  · unfold cutN
    rw [if_pos (by omega)]
    obtain ⟨k, hk⟩ : ∃ k, k = (-(0 - e)).toNat := ⟨_, rfl⟩
    rw [← hk]
    have h1 : M * 2 ^ k < 2 ^ 53 * 2 ^ k := Nat.mul_lt_mul_of_pos_right hM (Nat.two_pow_pos k)
    rw [← Nat.pow_add] at h1
    exact Nat.lt_of_lt_of_le h1 (Nat.pow_le_pow_right (by omega) (by omega))
theorem limbs_short' (A n : Nat) (hn : A ≤ 32 * n) (M : Nat) (h : M < 2 ^ A) : (limbs M).length ≤ n :=
  (limbs_le_bits M n).2 (Nat.lt_of_lt_of_le h (Nat.pow_le_pow_right (by omega) hn))
theorem VD.mk' {w : World} {D : Dy} {am : Option Addr} {cm : Nat} (h : Ns .u32 w am cm (limbs D.1.natAbs)) : VD w D (.agg #[.bool (decide (D.1 < 0)), .slice am (limbs D.1.natAbs).length cm, .int .i64 D.2]) := ⟨am, cm, rfl, h⟩
end Go.Ulp
