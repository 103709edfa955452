/- quot.Rem. -/
import Derived.Test.YtincggkdlegjjaaDoorQr0
import Derived.Test.YtincggkdlegjjaaDoorWh0
set_option linter.unusedVariables false
set_option linter.unusedSimpArgs false
namespace Go.Ulp
open Go.RowKit
theorem alN_abs (D : Dy) (m : Int) : alN (absD D) m = D.1.natAbs * 2 ^ (D.2 - m).toNat := by
  unfold alN absD
  rw [show (((D.1.natAbs : Int), D.2) : Dy).1.natAbs = D.1.natAbs from Int.natAbs_natCast _]
theorem rm_short (A : Nat) (hA : A = 2300) (x y : Int) (hx : 0 ≤ x ∧ x < 18446744073709551616) (hy : 0 ≤ y ∧ y < 18446744073709551616) : rmM x y < 2 ^ A ∧ rmN x y < 2 ^ A ∧ -1074 ≤ rmE x y ∧ rmE x y ≤ 1024 := by
  obtain ⟨-, b1, b2, b3⟩ := fv_bd x hx.1 hx.2
  obtain ⟨-, c1, c2, c3⟩ := fv_bd y hy.1 hy.2
  have he : -1074 ≤ rmE x y ∧ rmE x y ≤ 1024 := by unfold rmE; omega
  refine ⟨?_, ?_, he.1, he.2⟩
  · unfold rmM
    have h := Nat.mul_lt_mul_of_pos_right b1 (Nat.two_pow_pos ((fv x).2 - rmE x y).toNat)
    rw [← Nat.pow_add] at h
    exact Nat.lt_of_lt_of_le h (Nat.pow_le_pow_right (by omega) (by omega))
  · unfold rmN
    have h := Nat.mul_lt_mul_of_pos_right c1 (Nat.two_pow_pos ((fv y).2 - rmE x y).toNat)
    rw [← Nat.pow_add] at h
    exact Nat.lt_of_lt_of_le h (Nat.pow_le_pow_right (by omega) (by omega))
theorem class_some {x : Int} (n : (classOf x == 5) = false) (i : (classOf x == 4) = false) (z : (classOf x == 1) = false) : classOf x < 4 ∧ classOf x ≠ 1 := by
  have h := class_bd x
  rw [beq_eq_false_iff_ne] at n i z
  omega
theorem fv_nz (x : Int) (h0 : 0 ≤ x) (h1 : x < 18446744073709551616) (h : classOf x < 4) (hz : classOf x ≠ 1) : (fv x).1 ≠ 0 := by
  have := (qN_fv x h0 h1 h hz).1
  omega
end Go.Ulp
namespace Go.Proofs.YtincggkdlegjjaaDoor
open Go.RowKit Go.Ulp
set_option linter.unusedVariables false
set_option linter.unusedSimpArgs false
set_option maxHeartbeats 2000000
set_option maxRecDepth 100000
end Go.Proofs.YtincggkdlegjjaaDoor
