/- How long numbers are. -/
import Derived.Test.YthaelmnblgollaaGreatDoorNat11
import Derived.Test.YthaelmnblgollaaGreatDoorNat7
import Derived.Test.YthaelmnblgollaaGreatDoorRegL
import Derived.Test.YthaelmnblgollaaGreatDoorQ1
set_option linter.unusedVariables false
set_option linter.unusedSimpArgs false
namespace Go.Ulp
open Go.RowKit
/-- an answer: t0 tells what is wrong; else the number n -/
def SaysN (t0 : Int) (n : Nat) (w : World) (e : Ending) (w' : World) : Prop :=
  ∃ ro rn rc t, e = .returned (.tuple #[.slice ro rn rc, .int .i64 t]) ∧ Below w.heap.size w w' ∧ (t0 ≠ 0 → rn = 0 ∧ t = t0) ∧ (t0 = 0 → t = 0 ∧ rn = (limbs n).length ∧ Ns .u32 w' ro rc (limbs n))
def SaysN2 (t0 : Int) (q r : Nat) (w : World) (e : Ending) (w' : World) : Prop :=
  ∃ ro rn rc so sn sc t, e = .returned (.tuple #[.slice ro rn rc, .slice so sn sc, .int .i64 t]) ∧ Below w.heap.size w w' ∧ (t0 ≠ 0 → rn = 0 ∧ sn = 0 ∧ t = t0) ∧ (t0 = 0 → t = 0 ∧ rn = (limbs q).length ∧ Ns .u32 w' ro rc (limbs q) ∧ sn = (limbs r).length ∧ Ns .u32 w' so sc (limbs r))
def SaysI (t0 : Int) (n : Int) (w : World) (e : Ending) (w' : World) : Prop :=
  ∃ v t, e = .returned (.tuple #[.int .i64 v, .int .i64 t]) ∧ Below w.heap.size w w' ∧ (t0 ≠ 0 → v = 0 ∧ t = t0) ∧ (t0 = 0 → t = 0 ∧ v = n)
theorem bs2 (w : World) (x y : Value) (t : TypeId) : (w.alloc (.cells #[x, y] t)).cell? ⟨w.heap.size, 0, none⟩ = some x ∧ (w.alloc (.cells #[x, y] t)).cell? ⟨w.heap.size, 1, none⟩ = some y := by
  refine ⟨?_, ?_⟩ <;> (rw [World.cell?_alloc_at (hn := rfl)]; rfl)
end Go.Ulp
namespace Go.Proofs.YthaelmnblgollaaGreatDoor
open Go.RowKit Go.Ulp
set_option linter.unusedVariables false
set_option linter.unusedSimpArgs false
set_option maxHeartbeats 1000000
set_option maxRecDepth 100000
end Go.Proofs.YthaelmnblgollaaGreatDoor
set_option linter.unusedVariables false
set_option linter.unusedSimpArgs false
namespace Go.Proofs.YthaelmnblgollaaGreatDoor
open Go.RowKit Go.Ulp
set_option linter.unusedVariables false
set_option linter.unusedSimpArgs false
set_option maxHeartbeats 1000000
set_option maxRecDepth 100000
end Go.Proofs.YthaelmnblgollaaGreatDoor
set_option linter.unusedVariables false
set_option linter.unusedSimpArgs false
namespace Go.Ulp
open Go.RowKit
theorem limbs_len_iff (n k : Nat) : (limbs n).length ≤ k ↔ n < 4294967296 ^ k := digs_len_le 4294967296 (by omega) n k
theorem zlen_of_limbs (n k : Nat) (h : (limbs n).length ≤ k) : (zl (n : Int)).length ≤ 3 * k := by
  have h1 := (limbs_len_iff n k).1 h
  unfold zl decs
  refine (digs_len_le 10000 (by omega) _ (3 * k)).2 ?_
  rw [Int.natAbs_natCast, Nat.pow_mul]
  exact Nat.lt_of_lt_of_le h1 (Nat.pow_le_pow_left (by decide) k)
theorem limbs_len_add (m n a b : Nat) (h1 : (limbs m).length ≤ a) (h2 : (limbs n).length ≤ b) : (limbs (m + n)).length ≤ a + b + 1 := by
  have e1 := (limbs_len_iff m a).1 h1
  have e2 := (limbs_len_iff n b).1 h2
  refine (limbs_len_iff _ _).2 ?_
  have p1 : 4294967296 ^ a ≤ 4294967296 ^ (a + b) := Nat.pow_le_pow_right (by omega) (by omega)
  have p2 : 4294967296 ^ b ≤ 4294967296 ^ (a + b) := Nat.pow_le_pow_right (by omega) (by omega)
  rw [Nat.pow_succ]; omega
theorem limbs_len_mul (m n a b : Nat) (h1 : (limbs m).length ≤ a) (h2 : (limbs n).length ≤ b) : (limbs (m * n)).length ≤ a + b := by
  have e1 := (limbs_len_iff m a).1 h1
  have e2 := (limbs_len_iff n b).1 h2
  refine (limbs_len_iff _ _).2 ?_
  rw [Nat.pow_add]
  exact Nat.mul_lt_mul'' e1 e2
theorem limbs_len_mono {m n : Nat} (h : m ≤ n) : (limbs m).length ≤ (limbs n).length := digs_len_mono 4294967296 (by omega) h
theorem limbs_len_shl (m k j : Nat) (h : k < 32 * (j + 1)) : (limbs (m * 2 ^ k)).length ≤ (limbs m).length + (j + 1) := by
  refine limbs_len_mul m (2 ^ k) _ _ (Nat.le_refl _) ((digs_len_le 4294967296 (by omega) _ _).2 ?_)
  rw [show (4294967296 : Nat) = 2 ^ 32 by decide, ← Nat.pow_mul]
  exact Nat.pow_lt_pow_right (by omega) h
end Go.Ulp
