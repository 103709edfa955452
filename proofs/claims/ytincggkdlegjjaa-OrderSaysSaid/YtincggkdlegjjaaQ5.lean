/- The values of floating numbers and of Dyads, as the reference has them. -/
import Derived.Test.YtincggkdlegjjaaQ3
import Derived.Test.YtincggkdlegjjaaFloat
import Derived.Test.YtincggkdlegjjaaMem
import Derived.Test.YtincggkdlegjjaaNat7
namespace Go.Ulp
open Go.RowKit
/-- the mantissa of a floating number, its exponent, its value -/
def mantOf (x : Int) : Int := if 0 < expOf x then fracOf x + 4503599627370496 else fracOf x
def dexp (x : Int) : Int := max (expOf x) 1 - 1075
def fv (x : Int) : Dy := nrm (sg (negB x) (mantOf x)) (dexp x)
theorem mantOf_bd (x : Int) : 0 ≤ mantOf x ∧ mantOf x < 9007199254740992 := by have := fracOf_bd x; unfold mantOf; split <;> omega
theorem dexp_bd (x : Int) : -1074 ≤ dexp x ∧ dexp x ≤ 972 := by have := expOf_bd x; unfold dexp; omega
theorem nrm_qneg (x : Int) (n : Int) (k : Nat) (h : n = -(k : Int)) : nrm x (-(k : Int)) = nrm x n := by rw [h]
end Go.Ulp
namespace Go.Proofs.Ytincggkdlegjjaa
open Go.RowKit Go.Ulp
set_option linter.unusedVariables false
set_option linter.unusedSimpArgs false
set_option maxHeartbeats 1000000
set_option maxRecDepth 100000
end Go.Proofs.Ytincggkdlegjjaa
set_option linter.unusedVariables false
set_option linter.unusedSimpArgs false
namespace Go.Ulp
theorem sg_mul (neg : Bool) (x y : Int) : sg neg x * y = sg neg (x * y) := by unfold sg; cases neg <;> simp [Int.neg_mul]
theorem rvs_nat (a : Nat) : rvs (a : Int) = (rvi a : Int) := by unfold rvs; rw [if_neg (by omega), Int.natAbs_natCast]
theorem rvs_sg (b : Bool) (a : Nat) : rvs (sg b (a : Int)) = sg b (rvi a : Int) := by
  cases b
  · exact rvs_nat a
  · show rvs (-(a : Int)) = -(rvi a : Int); rw [rvs_neg, rvs_nat]
theorem rank_sg (x : Int) (a : Nat) (ha : (a : Int) = x % 9223372036854775808) : rankOf x = sg (negB x) (a : Int) := by
  unfold rankOf sg negB
  by_cases hn : 9223372036854775808 ≤ x
  · simp [hn, ha]
  · simp [hn, ha]
theorem fv_rank (x : Int) (h0 : 0 ≤ x) (h1 : x < 18446744073709551616) : fv x = nrm (rvs (rankOf x)) (-1074) := by
  obtain ⟨a, ha⟩ : ∃ a : Nat, (a : Int) = x % 9223372036854775808 := ⟨(x % 9223372036854775808).toNat, by omega⟩
  have ee : expOf x = ((a / 4503599627370496 : Nat) : Int) := by unfold expOf; omega
  have ef : fracOf x = ((a % 4503599627370496 : Nat) : Int) := by unfold fracOf; omega
  obtain ⟨k, hk⟩ : ∃ k : Nat, (k : Int) = max (expOf x) 1 - 1 := ⟨(max (expOf x) 1 - 1).toNat, by have := expOf_bd x; omega⟩
  have hd : dexp x = -1074 + (k : Int) := by unfold dexp; omega
  have hv : mantOf x * pw k = (rvi a : Int) := by
    unfold mantOf rvi
    rw [ee, ef] at *
    by_cases h : a < 4503599627370496
    · rw [if_neg (by omega), if_pos h, show k = 0 by omega, pw_zero]; omega
    · rw [if_pos (by omega), if_neg h, show k = a / 4503599627370496 - 1 by omega, pw_nat, Int.natCast_mul]; congr 1
  unfold fv
  rw [hd, ← nrm_scale, sg_mul, hv, rank_sg x a ha, rvs_sg]
theorem cmp_fv (x y : Int) (h0 : 0 ≤ x) (h1 : x < 18446744073709551616) (k0 : 0 ≤ y) (k1 : y < 18446744073709551616) : cmpD (fv x) (fv y) = cmpI (rankOf x) (rankOf y) := by
  rw [fv_rank x h0 h1, fv_rank y k0 k1, ← cmp_nrm _ _ _ _ (-1074) (.inl (by omega)) (.inl (by omega)), sc_self, sc_self, rvs_cmp]
end Go.Ulp
namespace Go.Ulp
open Go.RowKit
theorem QL.far {t : TypeId} {w : World} {g : Nat} {n : Bool} {v : Value} {k : Int} (h : QL t w g n v k) (a : Addr) (u : Value) (hne : g ≠ a.block) : QL t (w.setCell a u) g n v k := by
  refine ⟨h.1.far a u hne, ?_, ?_⟩
  · rw [World.cell?_setCell_other (h := fun e => hne (by rw [e]))]; exact h.2.1
  · rw [frozen_setCell]; exact h.2.2
theorem QL.set2far {t : TypeId} {w : World} {g : Nat} {n : Bool} {v : Value} {k : Int} (h : QL t w g n v k) {b : Nat} {u u' : Value} (hne : g ≠ b) : QL t ((w.setCell ⟨b, 0, none⟩ u).setCell ⟨b, 1, none⟩ u') g n v k :=
  (h.far _ _ hne).far _ _ hne
end Go.Ulp
namespace Go.Proofs.Ytincggkdlegjjaa
open Go.RowKit Go.Ulp
set_option linter.unusedVariables false
set_option linter.unusedSimpArgs false
set_option maxHeartbeats 1000000
set_option maxRecDepth 100000
end Go.Proofs.Ytincggkdlegjjaa
