/- ulpref.SumOf: what is to be told of a list's sum. -/
import Derived.Test.YtincggkdlegjjaaDoorSu0
import Derived.Test.YtincggkdlegjjaaDoorSh
set_option linter.unusedVariables false
set_option linter.unusedSimpArgs false
namespace Go.Ulp
open Go.RowKit
/-- a variable of type Q -/
def QV (t e : TypeId) (w : World) (g : Nat) (D : Dy) (A T : Nat) : Prop :=
  ∃ (x : Int) (n : Nat) (ao : Option Addr) (cap : Nat), QL t w g (zneg x) (.slice ao (zl x).length cap) (n : Int) ∧ Nz e w ao cap (zl x) ∧ nrm x (-(n : Int)) = D ∧ x.natAbs < 2 ^ A ∧ n ≤ T
theorem QV.below {t e : TypeId} {w w' : World} {g : Nat} {D : Dy} {A T : Nat} (h : QV t e w g D A T) (hb : Below w.heap.size w w') : QV t e w' g D A T := by
  obtain ⟨x, n, ao, cap, h1, h2, h3⟩ := h
  exact ⟨x, n, ao, cap, h1.below hb, h2.below hb, h3⟩
theorem QV.weak {t e : TypeId} {w : World} {g : Nat} {D : Dy} {A T A' T' : Nat} (h : QV t e w g D A T) (hA : A ≤ A') (hT : T ≤ T') : QV t e w g D A' T' := by
  obtain ⟨x, n, ao, cap, h1, h2, h3, h4, h5⟩ := h
  exact ⟨x, n, ao, cap, h1, h2, h3, abs_weak h4 hA, by omega⟩
theorem QV.zero {t e : TypeId} {w : World} (A T : Nat) : QV t e (w.alloc (.cells #[.bool false, .slice none 0 0, .int .i64 0] t)) w.heap.size (0, 0) A T :=
  ⟨0, 0, none, 0, QL.made rfl, Nz.nil' none 0 (by unfold maxLen; omega), nrm_zero _, Nat.two_pow_pos A, Nat.zero_le _⟩
/-- what the loop holds -/
def BS (L : List Nat) (i : Nat) (pl mi nn : Bool) (zs sg : Nat) (S : Int) : Prop :=
  pl = anyTo pInf L i ∧ mi = anyTo mInf L i ∧ nn = anyTo isNan L i ∧ zs = cntTo isZer L i ∧ sg = cntTo mZer L i ∧ S = sumTo L i
theorem BS.start (L : List Nat) : BS L 0 false false false 0 0 0 := ⟨rfl, rfl, rfl, rfl, rfl, rfl⟩
theorem BS.step {L : List Nat} {i : Nat} {pl mi nn : Bool} {zs sg : Nat} {S : Int} (h : BS L i pl mi nn zs sg S) :
    BS L (i + 1) (pl || pInf (lb L i)) (mi || mInf (lb L i)) (nn || isNan (lb L i)) (zs + (if isZer (lb L i) then 1 else 0)) (sg + (if mZer (lb L i) then 1 else 0)) (S + uV (lb L i)) := by
  obtain ⟨a, b, c, d, e, f⟩ := h
  subst a b c d e f
  exact ⟨rfl, rfl, rfl, rfl, rfl, rfl⟩
section
variable {L : List Nat} {pl mi nn : Bool} {zs sg : Nat} {S : Int} {mode : Int}
theorem BS.ansNan (h : BS L L.length pl mi nn zs sg S) (hb : (nn || (pl && mi)) = true) : sumX L mode = 9221120237041090560 ∧ sumC L mode = false := by
  obtain ⟨a, b, c, d, e, f⟩ := h
  have k : sNan L = true := by unfold sNan; rw [← a, ← b, ← c]; exact hb
  unfold sumX sumC; rw [k]; exact ⟨rfl, rfl⟩
theorem BS.ansInf (h : BS L L.length pl mi nn zs sg S) (hb : (nn || (pl && mi)) = false) (hi : (pl || mi) = true) : sumX L mode = 9218868437227405312 + sgb mi ∧ sumC L mode = false := by
  obtain ⟨a, b, c, d, e, f⟩ := h
  have k : sNan L = false := by unfold sNan; rw [← a, ← b, ← c]; exact hb
  have k2 : sInf L = true := by unfold sInf; rw [← a, ← b]; exact hi
  unfold sumX sumC; rw [k, k2, ← b]
  refine ⟨?_, rfl⟩
  cases mi <;> rfl
theorem BS.none (h : BS L L.length pl mi nn zs sg S) (hb : (nn || (pl && mi)) = false) (hi : (pl || mi) = false) : sNan L = false ∧ sInf L = false := by
  obtain ⟨a, b, c, d, e, f⟩ := h
  exact ⟨by unfold sNan; rw [← a, ← b, ← c]; exact hb, by unfold sInf; rw [← a, ← b]; exact hi⟩
theorem BS.ansNum (h : BS L L.length pl mi nn zs sg S) (hb : (nn || (pl && mi)) = false) (hi : (pl || mi) = false) (hS : S ≠ 0) : sumX L mode = rX (nrm S (-1074)) mode ∧ sumC L mode = rC (nrm S (-1074)) mode := by
  obtain ⟨k, k2⟩ := h.none hb hi
  have e := h.2.2.2.2.2
  unfold sumX sumC sDy; rw [k, k2, ← e, if_pos hS, if_pos hS]; exact ⟨rfl, rfl⟩
theorem BS.ansSign (h : BS L L.length pl mi nn zs sg S) (hb : (nn || (pl && mi)) = false) (hi : (pl || mi) = false) (hS : S = 0) (h1 : zs = L.length) (h2 : sg = zs) (h3 : 0 < zs) : sumX L mode = 9223372036854775808 ∧ sumC L mode = false := by
  obtain ⟨k, k2⟩ := h.none hb hi
  obtain ⟨-, -, -, d, e, f⟩ := h
  have s := cnt_split L L.length
  have hp : ¬ cntTo pZer L L.length = L.length := by omega
  have hn : cntTo mZer L L.length = L.length := by omega
  unfold sumX sumC; rw [k, k2, ← f, if_neg (not_not_intro hS), if_neg (not_not_intro hS), if_neg hp, if_pos hn]; exact ⟨rfl, rfl⟩
theorem BS.ansZero (h : BS L L.length pl mi nn zs sg S) (hb : (nn || (pl && mi)) = false) (hi : (pl || mi) = false) (hS : S = 0) (h1 : zs = L.length) (h2 : sg = 0) : sumX L mode = 0 ∧ sumC L mode = false := by
  obtain ⟨k, k2⟩ := h.none hb hi
  obtain ⟨-, -, -, d, e, f⟩ := h
  have s := cnt_split L L.length
  have hp : cntTo pZer L L.length = L.length := by omega
  unfold sumX sumC; rw [k, k2, ← f, if_neg (not_not_intro hS), if_neg (not_not_intro hS), if_pos hp]; exact ⟨rfl, rfl⟩
theorem BS.ansElse (h : BS L L.length pl mi nn zs sg S) (hb : (nn || (pl && mi)) = false) (hi : (pl || mi) = false) (hS : S = 0) (h1 : zs ≠ L.length ∨ (sg ≠ zs ∧ sg ≠ 0)) : sumX L mode = sgb (mode == 2) ∧ sumC L mode = false := by
  obtain ⟨k, k2⟩ := h.none hb hi
  obtain ⟨-, -, -, d, e, f⟩ := h
  have s := cnt_split L L.length
  have c := cnt_le isZer L L.length
  have hp : ¬ cntTo pZer L L.length = L.length := by omega
  have hn : ¬ cntTo mZer L L.length = L.length := by omega
  unfold sumX sumC; rw [k, k2, ← f, if_neg (not_not_intro hS), if_neg (not_not_intro hS), if_neg hp, if_neg hn]
  refine ⟨?_, rfl⟩
  by_cases m : mode = 2
  · rw [if_neg (by simp), if_neg (by simp), if_pos m, beq_iff_eq.2 m]; rfl
  · rw [if_neg (by simp), if_neg (by simp), if_neg m, beq_eq_false_iff_ne.2 m]; rfl
end
theorem sgn_zero_iff (x : Int) : sgn x = 0 ↔ x = 0 := cmpI_eq_zero x 0
end Go.Ulp
namespace Go.Proofs.YtincggkdlegjjaaDoor
open Go.RowKit Go.Ulp
set_option linter.unusedVariables false
set_option linter.unusedSimpArgs false
set_option maxHeartbeats 2000000
set_option maxRecDepth 100000
end Go.Proofs.YtincggkdlegjjaaDoor
