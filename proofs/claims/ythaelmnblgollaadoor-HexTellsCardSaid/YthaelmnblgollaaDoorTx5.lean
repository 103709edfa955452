/- The reference's decimals: ZTen, TenTimes, RatioMode, Pointed, Dashed. -/
import Derived.Test.YthaelmnblgollaaDoorTx3
import Derived.Test.YthaelmnblgollaaDoorZv
import Derived.Test.YthaelmnblgollaaDoorRegM
set_option linter.unusedVariables false
set_option linter.unusedSimpArgs false
namespace Go.Ulp
open Go.RowKit
def tenZ (n : Nat) : Int := ((10 ^ n : Nat) : Int)
theorem tenZ_pos (n : Nat) : 0 < tenZ n := by unfold tenZ; have := Nat.pow_pos (n := n) (show 0 < 10 by omega); omega
theorem zl_len_ten (n : Nat) : (zl (tenZ n)).length ≤ n + 1 := by
  unfold zl
  refine (digs_len_le 10000 (by omega) _ _).2 ?_
  unfold tenZ
  rw [Int.natAbs_natCast]
  exact Nat.lt_of_lt_of_le (Nat.pow_lt_pow_right (by omega) (Nat.lt_succ_self n)) (Nat.pow_le_pow_left (by omega) _)
theorem tenZ_add (a b : Nat) : tenZ a * tenZ b = tenZ (a + b) := by unfold tenZ; rw [← Int.natCast_mul, Nat.pow_add]
/-- a value's size, as a ratio -/
def dA (D : Dy) : Nat := D.1.natAbs * 2 ^ D.2.toNat
def dB (D : Dy) : Nat := 2 ^ (-D.2).toNat
theorem dB_pos (D : Dy) : 0 < dB D := Nat.two_pow_pos _
theorem dA_pos (D : Dy) (h : D.1 ≠ 0) : 0 < dA D := Nat.mul_pos (by omega) (Nat.two_pow_pos _)
theorem nrm_ratio {X : Int} {n : Nat} {D : Dy} (h : nrm X (-(n : Int)) = D) : X.natAbs * dB D = dA D * 2 ^ n := by
  obtain ⟨k, h1, h2⟩ := nrm_rep X (-(n : Int))
  rw [h] at h1 h2
  by_cases hX : X = 0
  · have : D = (0, 0) := by rw [← h, hX]; rfl
    subst this
    rw [hX]; simp [dA]
  · have h2 := h2 hX
    have h3 : X.natAbs = D.1.natAbs * 2 ^ k := by rw [h1]; exact natAbs_mul_pw _ _
    unfold dA dB
    rw [h3, Nat.mul_assoc, Nat.mul_assoc, ← Nat.pow_add, ← Nat.pow_add]
    congr 2
    omega
/-- what TenTimes hands back -/
def RetTT (t : TypeId) (w : World) (D : Dy) (p : Int) (e : Ending) (w' : World) : Prop :=
  ∃ (a b : Nat) (v : Value), e = .returned v ∧ ZD2 t w' (a : Int) (b : Int) v ∧ 0 < b ∧ a * (dB D * tnN (-p)) = dA D * tnN p * b ∧ (zl (a : Int)).length ≤ 300000 ∧ (zl (b : Int)).length ≤ 300000 ∧ Below w.heap.size w w'
end Go.Ulp
namespace Go.Proofs.YthaelmnblgollaaDoor
open Go.RowKit Go.Ulp
set_option linter.unusedVariables false
set_option linter.unusedSimpArgs false
set_option maxHeartbeats 1000000
set_option maxRecDepth 100000
theorem tt_start (tq tz ti : TypeId) (X : Int) (n : Nat) (ao : Option Addr) (cap : Nat) (w : World) (h0 : Nz ti w ao cap (zl X)) :
    Below w.heap.size w (((w.alloc (.cells #[.bool (zneg X), .slice ao (zl X).length cap, .int .i64 (n : Int)] tq)).alloc (.cells #[.bool false, .slice none 0 0] tz)).alloc (.cells #[.bool false, .slice none 0 0] tz)) ∧ ZV tq ti (((w.alloc (.cells #[.bool (zneg X), .slice ao (zl X).length cap, .int .i64 (n : Int)] tq)).alloc (.cells #[.bool false, .slice none 0 0] tz)).alloc (.cells #[.bool false, .slice none 0 0] tz)) w.heap.size X ∧ (((w.alloc (.cells #[.bool (zneg X), .slice ao (zl X).length cap, .int .i64 (n : Int)] tq)).alloc (.cells #[.bool false, .slice none 0 0] tz)).alloc (.cells #[.bool false, .slice none 0 0] tz)).cell? ⟨w.heap.size, 2, none⟩ = some (.int .i64 (n : Int)) ∧ ZL tz (((w.alloc (.cells #[.bool (zneg X), .slice ao (zl X).length cap, .int .i64 (n : Int)] tq)).alloc (.cells #[.bool false, .slice none 0 0] tz)).alloc (.cells #[.bool false, .slice none 0 0] tz)) (w.heap.size + 1) false (.slice none 0 0) ∧ ZL tz (((w.alloc (.cells #[.bool (zneg X), .slice ao (zl X).length cap, .int .i64 (n : Int)] tq)).alloc (.cells #[.bool false, .slice none 0 0] tz)).alloc (.cells #[.bool false, .slice none 0 0] tz)) (w.heap.size + 1 + 1) false (.slice none 0 0) := by
  have q0 : QL tq (w.alloc (.cells #[.bool (zneg X), .slice ao (zl X).length cap, .int .i64 (n : Int)] tq)) w.heap.size (zneg X) (.slice ao (zl X).length cap) (n : Int) := QL.made rfl
  have q2 := (q0.alloc (.cells #[.bool false, .slice none 0 0] tz)).alloc (.cells #[.bool false, .slice none 0 0] tz)
  exact ⟨by (repeat' (first | (with_reducible assumption) | (with_reducible exact Below.refl _ _) | (with_reducible refine below_al ?_ _) | (with_reducible refine below_drewN ?_ _) | (with_reducible refine Below.drew ?_) | (with_reducible refine Below.alloc ?_ ?_ _) | (with_reducible refine Below.setCell ?_ ?_ _) | (refine below_trans ?_ (by assumption)) | go_size)), ⟨ao, cap, q2.1, h0.below (by (repeat' (first | (with_reducible assumption) | (with_reducible exact Below.refl _ _) | (with_reducible refine below_al ?_ _) | (with_reducible refine below_drewN ?_ _) | (with_reducible refine Below.drew ?_) | (with_reducible refine Below.alloc ?_ ?_ _) | (with_reducible refine Below.setCell ?_ ?_ _) | (refine below_trans ?_ (by assumption)) | go_size)))⟩, q2.2.1, (ZL.made (by simp)).alloc _, ZL.made (by simp)⟩
end Go.Proofs.YthaelmnblgollaaDoor
