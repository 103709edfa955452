/- nat.Sqrt. -/
import Derived.Test.YthaelmnblgollaaGreatDoorRn1
import Derived.Test.YthaelmnblgollaaGreatDoorSh
set_option linter.unusedVariables false
set_option linter.unusedSimpArgs false
namespace Go.Ulp
open Go.RowKit
/-- one step of Newton's loop stays at or above the root -/
theorem newton_up (a x : Nat) (hx : 0 < x) (h : a < (x + 1) * (x + 1)) : a < ((x + a / x) / 2 + 1) * ((x + a / x) / 2 + 1) := by
  have h1 : a < x * (a / x + 1) := by
    have := Nat.div_add_mod a x
    have := Nat.mod_lt a hx
    rw [Nat.mul_add]; omega
  obtain ⟨d, hd⟩ : ∃ d, d = a / x := ⟨_, rfl⟩
  obtain ⟨y, hy⟩ : ∃ y, y = (x + d) / 2 := ⟨_, rfl⟩
  rw [← hd] at h1 ⊢
  rw [← hy]
  have h2 : x + (d + 1) ≤ 2 * (y + 1) := by omega
  have h3 : (x + (d + 1)) * (x + (d + 1)) ≤ 2 * (y + 1) * (2 * (y + 1)) := Nat.mul_le_mul h2 h2
  have h4 : 4 * (x * (d + 1)) ≤ (x + (d + 1)) * (x + (d + 1)) := by
    obtain ⟨e, he⟩ : ∃ e, e = d + 1 := ⟨_, rfl⟩
    rw [← he]
    rcases Nat.le_total x e with h | h
    · obtain ⟨k, rfl⟩ := Nat.exists_eq_add_of_le h
      have : (x + (x + k)) * (x + (x + k)) = 4 * (x * (x + k)) + k * k := by
        simp only [Nat.mul_add, Nat.add_mul, Nat.mul_comm k x]; omega
      omega
    · obtain ⟨k, rfl⟩ := Nat.exists_eq_add_of_le h
      have : ((e + k) + e) * ((e + k) + e) = 4 * ((e + k) * e) + k * k := by
        simp only [Nat.mul_add, Nat.add_mul, Nat.mul_comm k e]; omega
      omega
  have h5 : 2 * (y + 1) * (2 * (y + 1)) = 4 * ((y + 1) * (y + 1)) := by
    rw [Nat.mul_assoc 2, Nat.mul_left_comm (y + 1) 2, ← Nat.mul_assoc]
  omega
/-- and where it stops it is the root -/
theorem newton_end (a x : Nat) (hx : 0 < x) (h : x ≤ (x + a / x) / 2) : x * x ≤ a := by
  have h1 : x ≤ a / x := by omega
  have h2 := Nat.mul_le_mul_left x h1
  have h3 := Nat.mul_div_le a x
  omega
theorem root_uniq (a r s : Nat) (h1 : r * r ≤ a) (h2 : a < (r + 1) * (r + 1)) (h3 : s * s ≤ a) (h4 : a < (s + 1) * (s + 1)) : r = s := by
  rcases Nat.lt_trichotomy r s with h | h | h
  · have := Nat.mul_le_mul (show r + 1 ≤ s from h) (show r + 1 ≤ s from h); omega
  · exact h
  · have := Nat.mul_le_mul (show s + 1 ≤ r from h) (show s + 1 ≤ r from h); omega
theorem newton_pos (a y : Nat) (h0 : 0 < a) (h : a < (y + 1) * (y + 1)) : 0 < y := by
  rcases Nat.eq_zero_or_pos y with h1 | h1
  · subst h1; omega
  · exact h1
/-- where it begins -/
theorem newton_start (a k : Nat) (h : bl a ≤ 2 * k) : a < (2 ^ k + 1) * (2 ^ k + 1) := by
  have h1 := (bl_le a (2 * k)).1 h
  have h2 : 2 ^ (2 * k) = 2 ^ k * 2 ^ k := by rw [← Nat.pow_add]; congr 1; omega
  have h3 : 2 ^ k * 2 ^ k ≤ (2 ^ k + 1) * (2 ^ k + 1) := Nat.mul_le_mul (by omega) (by omega)
  omega
end Go.Ulp
set_option linter.unusedVariables false
set_option linter.unusedSimpArgs false
namespace Go.Ulp
open Go.RowKit
theorem limbs_short1 (A n : Nat) (hn : A ≤ 32 * n) (M : Nat) (h : M < 2 ^ A) : (limbs M).length ≤ n :=
  (limbs_le_bits M n).2 (Nat.lt_of_lt_of_le h (Nat.pow_le_pow_right (by omega) hn))
/-- the root rounded down -/
def isq : Nat → Nat
  | 0 => 0
  | n + 1 => if (isq n + 1) * (isq n + 1) ≤ n + 1 then isq n + 1 else isq n
theorem isq_spec : ∀ n, isq n * isq n ≤ n ∧ n < (isq n + 1) * (isq n + 1)
  | 0 => ⟨Nat.le_refl _, by show 0 < (0 + 1) * (0 + 1); omega⟩
  | n + 1 => by
    obtain ⟨h1, h2⟩ := isq_spec n
    unfold isq
    split
    · rename_i h
      refine ⟨h, ?_⟩
      have : (isq n + 1 + 1) * (isq n + 1 + 1) = (isq n + 1) * (isq n + 1) + 2 * (isq n + 1) + 1 := by simp only [Nat.add_mul, Nat.mul_add]; omega
      omega
    · rename_i h
      exact ⟨by omega, by omega⟩
theorem isq_le (n : Nat) : isq n ≤ n := by
  obtain ⟨h1, h2⟩ := isq_spec n
  rcases Nat.eq_zero_or_pos (isq n) with h | h
  · omega
  · exact Nat.le_trans (Nat.le_mul_of_pos_left _ h) h1
/-- the number that a slice of a world holds: a loop's measure -/
def rdL (w : World) (v : Value) : Nat :=
  match v with
  | .slice (some a) l _ => lval ((List.range l).map fun i => (intOf ((w.cell? ⟨a.block, a.off + i, none⟩).getD undef)).toNat)
  | _ => 0
theorem rdL_eq {w : World} {ao : Option Addr} {cap : Nat} {L : List Nat} (h : Ns .u32 w ao cap L) : rdL w (.slice ao L.length cap) = lval L := by
  obtain ⟨h1, h2, h3⟩ := h
  rcases Nat.eq_zero_or_pos L.length with hl | hl
  · have : L = [] := List.length_eq_zero_iff.1 hl
    subst this
    cases ao <;> rfl
  · obtain ⟨b, off, rfl, hc⟩ := h3 hl
    show lval ((List.range L.length).map _) = lval L
    congr 1
    refine List.ext_getElem (by simp) (fun i k1 k2 => ?_)
    rw [List.getElem_map, List.getElem_range, hc i k2]
    show (lb L i).toNat = L[i]
    unfold lb
    rw [Int.toNat_natCast, List.getD_eq_getElem?_getD, List.getElem?_eq_getElem k2]; rfl
end Go.Ulp
namespace Go.Proofs.YthaelmnblgollaaGreatDoor
open Go.RowKit Go.Ulp
set_option linter.unusedVariables false
set_option linter.unusedSimpArgs false
set_option maxHeartbeats 4000000
set_option maxRecDepth 100000
end Go.Proofs.YthaelmnblgollaaGreatDoor
