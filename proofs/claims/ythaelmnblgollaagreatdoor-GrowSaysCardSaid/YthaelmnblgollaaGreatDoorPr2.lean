/- prod.Fma and what is to be told of it. -/
import Derived.Test.YthaelmnblgollaaGreatDoorPr1
set_option linter.unusedVariables false
set_option linter.unusedSimpArgs false
namespace Go.Ulp
open Go.RowKit
def infN (s : Bool) : Nat := if s then 18442240474082181120 else 9218868437227405312
def sgN (s : Bool) : Nat := if s then 9223372036854775808 else 0
theorem infN_lt (s : Bool) : infN s < 18446744073709551616 := by cases s <;> decide
theorem sgN_lt (s : Bool) : sgN s < 18446744073709551616 := by cases s <;> decide
theorem infN_eq (s : Bool) : ((infN s : Nat) : Int) = infX s := by cases s <;> rfl
theorem infN_eq2 (s : Bool) : ((infN s : Nat) : Int) = 9218868437227405312 + sgb s := by cases s <;> rfl
theorem sgN_eq (s : Bool) : ((sgN s : Nat) : Int) = sgb s := by cases s <;> rfl
theorem infN_ne (s : Bool) : (((infN s : Nat) : Int) == 9221120237041090560) = false := by cases s <;> decide
/-- what is told of a product and a sum -/
def fX (k : Nat) (s nz iz : Bool) (D : Dy) (z : Nat) (mode : Int) : Int :=
  if nz then 9221120237041090560 else if k = 0 then 9221120237041090560 else if k = 1 then sumX [infN s, z] mode else if iz then (z : Int)
  else if (addD D (fv (z : Int))).1 ≠ 0 then rX (addD D (fv (z : Int))) mode else if D.1 = 0 then sumX [sgN s, z] mode else sgb (mode == 2)
def fC (k : Nat) (s nz iz : Bool) (D : Dy) (z : Nat) (mode : Int) : Bool :=
  if nz then false else if k = 0 then false else if k = 1 then sumC [infN s, z] mode else if iz then false
  else if (addD D (fv (z : Int))).1 ≠ 0 then rC (addD D (fv (z : Int))) mode else if D.1 = 0 then sumC [sgN s, z] mode else false
section
variable {k : Nat} {s nz iz : Bool} {D : Dy} {z : Nat} {mode : Int}
theorem f_nan (h : nz = true ∨ k = 0) : fX k s nz iz D z mode = 9221120237041090560 ∧ fC k s nz iz D z mode = false := by
  unfold fX fC
  cases nz
  · rcases h with h | h
    · cases h
    · rw [if_pos h, if_pos h]; exact ⟨rfl, rfl⟩
  · exact ⟨rfl, rfl⟩
theorem f_inf (h1 : k = 1) : fX k s false iz D z mode = sumX [infN s, z] mode ∧ fC k s false iz D z mode = sumC [infN s, z] mode := by
  subst h1; exact ⟨rfl, rfl⟩
theorem f_z (h1 : 2 ≤ k) : fX k s false true D z mode = (z : Int) ∧ fC k s false true D z mode = false := by
  unfold fX fC
  rw [if_neg (by simp), if_neg (by omega), if_neg (by omega), if_pos rfl, if_neg (by simp), if_neg (by omega), if_neg (by omega), if_pos rfl]
  exact ⟨rfl, rfl⟩
theorem f_num (h1 : 2 ≤ k) (h : (addD D (fv (z : Int))).1 ≠ 0) : fX k s false false D z mode = rX (addD D (fv (z : Int))) mode ∧ fC k s false false D z mode = rC (addD D (fv (z : Int))) mode := by
  unfold fX fC
  rw [if_neg (by simp), if_neg (by omega), if_neg (by omega), if_neg (by simp), if_pos h, if_neg (by simp), if_neg (by omega), if_neg (by omega), if_neg (by simp), if_pos h]
  exact ⟨rfl, rfl⟩
theorem f_both (h1 : 2 ≤ k) (h : (addD D (fv (z : Int))).1 = 0) (h2 : D.1 = 0) : fX k s false false D z mode = sumX [sgN s, z] mode ∧ fC k s false false D z mode = sumC [sgN s, z] mode := by
  unfold fX fC
  rw [if_neg (by simp), if_neg (by omega), if_neg (by omega), if_neg (by simp), if_neg (not_not_intro h), if_pos h2, if_neg (by simp), if_neg (by omega), if_neg (by omega), if_neg (by simp), if_neg (not_not_intro h), if_pos h2]
  exact ⟨rfl, rfl⟩
theorem f_gone (h1 : 2 ≤ k) (h : (addD D (fv (z : Int))).1 = 0) (h2 : D.1 ≠ 0) : fX k s false false D z mode = sgb (mode == 2) ∧ fC k s false false D z mode = false := by
  unfold fX fC
  rw [if_neg (by simp), if_neg (by omega), if_neg (by omega), if_neg (by simp), if_neg (not_not_intro h), if_neg h2, if_neg (by simp), if_neg (by omega), if_neg (by omega), if_neg (by simp), if_neg (not_not_intro h), if_neg h2]
  exact ⟨rfl, rfl⟩
end
theorem addD_isN (D E : Dy) : IsN (addD D E) := nrm_isN _ _
end Go.Ulp
namespace Go.Proofs.YthaelmnblgollaaGreatDoor
open Go.RowKit Go.Ulp
set_option linter.unusedVariables false
set_option linter.unusedSimpArgs false
set_option maxHeartbeats 2000000
set_option maxRecDepth 100000
end Go.Proofs.YthaelmnblgollaaGreatDoor
