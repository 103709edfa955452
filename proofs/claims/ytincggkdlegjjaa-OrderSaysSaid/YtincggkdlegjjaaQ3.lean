/- The reference's numbers over a power of two: comparison, sums, signs, shifts, by their value. -/
import Derived.Test.YtincggkdlegjjaaQ1
import Derived.Test.YtincggkdlegjjaaStep
namespace Go.Ulp
open Go.RowKit
/-- what 'level' leaves -/
def RetL (t : TypeId) (w : World) (x y n : Int) (e : Ending) (w' : World) : Prop :=
  ∃ ao cap bo cbp, e = .returned (.tuple #[.agg #[.bool (zneg x), .slice ao (zl x).length cap], .agg #[.bool (zneg y), .slice bo (zl y).length cbp], .int .i64 n]) ∧ Nz t w' ao cap (zl x) ∧ Nz t w' bo cbp (zl y) ∧ Below w.heap.size w w'
theorem Nz.drew {e : TypeId} {w : World} {ao : Option Addr} {cap : Nat} {L : List Nat} (h : Nz e w ao cap L) : Nz e w.drew ao cap L := h.below (Below.drew (Below.refl _ _))
theorem ElemIs.set2 {w : World} {b : Nat} {t : TypeId} (h : ElemIs w b t) (g : Nat) (u v : Value) : ElemIs ((w.setCell ⟨g, 0, none⟩ u).setCell ⟨g, 1, none⟩ v) b t := (h.setCell _ _).setCell _ _
theorem Nz.set2 {e t : TypeId} {w : World} {ao : Option Addr} {cap : Nat} {L : List Nat} (h : Nz e w ao cap L) {g : Nat} (hs : ElemIs w g t) (hne : t ≠ e) (u v : Value) : Nz e ((w.setCell ⟨g, 0, none⟩ u).setCell ⟨g, 1, none⟩ v) ao cap L :=
  (h.setCell hs hne 0 u).setCell (hs.setCell _ _) hne 1 v
/-- the world forgotten but for what is said of it -/
theorem wp_world {P : Program} {c : Code} {Q : Exit → Act → World → Prop} {a : Act} {w0 : World} (F : World → Prop) (hF : F w0) (h : ∀ w, F w → Code.wp P c Q a w) : Code.wp P c Q a w0 := h w0 hF
end Go.Ulp
namespace Go.Proofs.Ytincggkdlegjjaa
open Go.RowKit Go.Ulp
set_option linter.unusedVariables false
set_option linter.unusedSimpArgs false
set_option maxHeartbeats 1000000
set_option maxRecDepth 100000
end Go.Proofs.Ytincggkdlegjjaa
namespace Go.Ulp
open Go.RowKit
/-- a value that is a number over a power of two, with the worth D -/
def QD (t : TypeId) (w : World) (D : Dy) (A T : Nat) (v : Value) : Prop :=
  ∃ (x : Int) (n : Nat) (ao : Option Addr) (cap : Nat), v = .agg #[.bool (zneg x), .slice ao (zl x).length cap, .int .i64 (n : Int)] ∧ Nz t w ao cap (zl x) ∧ nrm x (-(n : Int)) = D ∧ x.natAbs < 2 ^ A ∧ n ≤ T
def RetQD (t : TypeId) (w : World) (D : Dy) (A T : Nat) (e : Ending) (w' : World) : Prop :=
  ∃ v, e = .returned v ∧ QD t w' D A T v ∧ Below w.heap.size w w'
theorem QD.below {t : TypeId} {w w' : World} {D : Dy} {A T : Nat} {v : Value} (h : QD t w D A T v) (hb : Below w.heap.size w w') : QD t w' D A T v := by
  obtain ⟨x, n, ao, cap, h1, h2, h3⟩ := h
  exact ⟨x, n, ao, cap, h1, h2.below hb, h3⟩
theorem QD.weak {t : TypeId} {w : World} {D : Dy} {A T A' T' : Nat} {v : Value} (h : QD t w D A T v) (hA : A ≤ A') (hT : T ≤ T') : QD t w D A' T' v := by
  obtain ⟨x, n, ao, cap, h1, h2, h3, h4, h5⟩ := h
  exact ⟨x, n, ao, cap, h1, h2, h3, Nat.lt_of_lt_of_le h4 (Nat.pow_le_pow_right (by omega) hA), by omega⟩
theorem RetQD.weak {t : TypeId} {w : World} {D : Dy} {A T A' T' : Nat} {e : Ending} {w' : World} (h : RetQD t w D A T e w') (hA : A ≤ A') (hT : T ≤ T') : RetQD t w D A' T' e w' := by
  obtain ⟨v, h1, h2, h3⟩ := h
  exact ⟨v, h1, h2.weak hA hT, h3⟩
theorem RetQ.qd {t : TypeId} {w : World} {x : Int} {n : Nat} {e : Ending} {w' : World} {D : Dy} {A T : Nat} (h : RetQ t w x n e w') (hD : nrm x (-(n : Int)) = D) (hA : x.natAbs < 2 ^ A) (hT : n ≤ T) : RetQD t w D A T e w' := by
  obtain ⟨ao, cap, h1, h2, h3⟩ := h
  exact ⟨_, h1, ⟨x, n, ao, cap, rfl, h2, hD, hA, hT⟩, h3⟩
theorem sc_pw (x : Int) (n m : Nat) (h : n ≤ m) : sc x (-(n : Int)) (-(m : Int)) = x * pw (m - n) := by unfold sc; congr 2; omega
theorem abs_mul_pw_lt {x : Int} {A k : Nat} (h : x.natAbs < 2 ^ A) : (x * pw k).natAbs < 2 ^ (A + k) := by
  rw [natAbs_mul_pw, Nat.pow_add]; exact Nat.mul_lt_mul_of_pos_right h (Nat.two_pow_pos k)
theorem abs_add_lt {x y : Int} {A : Nat} (h : x.natAbs < 2 ^ A) (h' : y.natAbs < 2 ^ A) : (x + y).natAbs < 2 ^ (A + 1) := by
  rw [Nat.pow_succ]; omega
theorem abs_weak {x : Int} {A B : Nat} (h : x.natAbs < 2 ^ A) (hAB : A ≤ B) : x.natAbs < 2 ^ B := Nat.lt_of_lt_of_le h (Nat.pow_le_pow_right (by omega) hAB)
end Go.Ulp
namespace Go.Proofs.Ytincggkdlegjjaa
open Go.RowKit Go.Ulp
set_option linter.unusedVariables false
set_option linter.unusedSimpArgs false
set_option maxHeartbeats 1000000
set_option maxRecDepth 100000
end Go.Proofs.Ytincggkdlegjjaa
