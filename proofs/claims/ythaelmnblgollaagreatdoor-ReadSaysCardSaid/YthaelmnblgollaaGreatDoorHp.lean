/- The power of two at the top of a number, plain. -/
import Derived.Test.YthaelmnblgollaaGreatDoorRn1
import Derived.Test.YthaelmnblgollaaGreatDoorSh
set_option linter.unusedVariables false
set_option linter.unusedSimpArgs false
namespace Go.Ulp
open Go.RowKit
/-- the power of two at the top of a number -/
def hfK (D : Dy) : Int := (bl D.1.natAbs : Int) + D.2 - 1
theorem hfK_nrm (y e : Int) (h : y ≠ 0) : hfK (nrm y e) = (bl y.natAbs : Int) + e - 1 := by
  obtain ⟨k, h1, h2⟩ := nrm_rep y e
  have h2 := h2 h
  have h3 : y.natAbs = (nrm y e).1.natAbs * 2 ^ k := by conv => lhs; rw [h1]
                                                        exact natAbs_mul_pw _ _
  have h4 : 0 < (nrm y e).1.natAbs := by
    rcases Nat.eq_zero_or_pos (nrm y e).1.natAbs with h | h
    · rw [h] at h3; omega
    · exact h
  unfold hfK
  rw [h3, bl_mul _ _ h4, h2]
  omega
theorem top_le (M a b : Nat) (h : 0 < M) : 2 ^ b ≤ M * 2 ^ a ↔ b < bl M + a := by
  have h1 := bl_le (M * 2 ^ a) b
  rw [bl_mul M a h] at h1
  omega
theorem one_isN (t : Int) : nrm 1 t = (1, t) := nrm_of_isN (1, t) (.inr rfl)
theorem sc_nat (M : Nat) (e m : Int) : sc (M : Int) e m = ((M * 2 ^ (e - m).toNat : Nat) : Int) := by
  unfold sc; rw [pw_nat, ← Int.natCast_mul]
theorem cmp_top (E : Dy) (t : Int) (h : E.1 ≠ 0) : 0 ≤ cmpD (absD E) (nrm 1 t) ↔ t ≤ hfK E := by
  rw [one_isN]
  unfold cmpD absD
  show 0 ≤ cmpI (sc ((E.1.natAbs : Nat) : Int) E.2 (min E.2 t)) (sc ((1 : Nat) : Int) t (min E.2 t)) ↔ _
  rw [sc_nat, sc_nat, Nat.one_mul]
  have h1 := top_le E.1.natAbs (E.2 - min E.2 t).toNat (t - min E.2 t).toNat (by omega)
  unfold hfK
  have h2 : 0 ≤ cmpI ((E.1.natAbs * 2 ^ (E.2 - min E.2 t).toNat : Nat) : Int) ((2 ^ (t - min E.2 t).toNat : Nat) : Int) ↔ 2 ^ (t - min E.2 t).toNat ≤ E.1.natAbs * 2 ^ (E.2 - min E.2 t).toNat := by
    generalize E.1.natAbs * 2 ^ (E.2 - min E.2 t).toNat = a
    generalize 2 ^ (t - min E.2 t).toNat = b
    unfold cmpI; split
    · omega
    · split <;> omega
  rw [h2, h1]
  omega
theorem cmpI_flip (a b : Int) : 0 < cmpI a b ↔ ¬ 0 ≤ cmpI b a := by
  unfold cmpI; split <;> split <;> (try split) <;> (try split) <;> omega
theorem cmpD_swap (D E : Dy) : 0 < cmpD D E ↔ ¬ 0 ≤ cmpD E D := by
  unfold cmpD
  rw [Int.min_comm E.2 D.2]
  exact cmpI_flip _ _
theorem cmp_top2 (E : Dy) (t : Int) (h : E.1 ≠ 0) : 0 < cmpD (nrm 1 t) (absD E) ↔ hfK E < t := by
  rw [cmpD_swap, cmp_top E t h]; omega
theorem nrm_inj {x y e : Int} (h : nrm x e = nrm y e) : x = y := by
  obtain ⟨k, a1, a2⟩ := nrm_rep x e
  obtain ⟨l, b1, b2⟩ := nrm_rep y e
  by_cases hx : x = 0
  · have h3 : (nrm y e).1 = 0 := by rw [← h, hx]; rfl
    rw [hx, (nrm_zero_iff _ _).1 h3]
  · have hy : y ≠ 0 := fun hy => hx ((nrm_zero_iff x e).1 (by rw [h, hy]; rfl))
    have a2 := a2 hx
    have b2 := b2 hy
    rw [h] at a1 a2
    have : k = l := by omega
    rw [this] at a1
    exact a1.trans b1.symm
/-- a variable of type Q: its parts by name, and what it is worth -/
def QW (tq ti : TypeId) (w : World) (g : Nat) (D : Dy) (A T : Nat) (X : Int) (n : Nat) (ao : Option Addr) (cap : Nat) : Prop :=
  QL tq w g (zneg X) (.slice ao (zl X).length cap) (n : Int) ∧ QD ti w D A T (.agg #[.bool (zneg X), .slice ao (zl X).length cap, .int .i64 (n : Int)])
theorem QW.below {tq ti : TypeId} {w w' : World} {g : Nat} {D : Dy} {A T : Nat} {X : Int} {n : Nat} {ao : Option Addr} {cap : Nat} (h : QW tq ti w g D A T X n ao cap) (hb : Below w.heap.size w w') : QW tq ti w' g D A T X n ao cap := ⟨h.1.below hb, h.2.below hb⟩
theorem QW.made {tq ti : TypeId} {w : World} {D : Dy} {A T : Nat} {X : Int} {n : Nat} {ao : Option Addr} {cap : Nat} (h : QD ti w D A T (.agg #[.bool (zneg X), .slice ao (zl X).length cap, .int .i64 (n : Int)])) :
    QW tq ti (w.alloc (.cells #[.bool (zneg X), .slice ao (zl X).length cap, .int .i64 (n : Int)] tq)) w.heap.size D A T X n ao cap := ⟨QL.made rfl, h.below (below_alloc _ _)⟩
theorem QW.cells {tq ti : TypeId} {w : World} {g : Nat} {D : Dy} {A T : Nat} {X : Int} {n : Nat} {ao : Option Addr} {cap : Nat} (h : QW tq ti w g D A T X n ao cap) :
    w.cell? ⟨g, 0, none⟩ = some (.bool (zneg X)) ∧ w.cell? ⟨g, 1, none⟩ = some (.slice ao (zl X).length cap) ∧ w.cell? ⟨g, 2, none⟩ = some (.int .i64 (n : Int)) := ⟨h.1.1.1, h.1.1.2.1, h.1.2.1⟩
theorem QW.qd {tq ti : TypeId} {w : World} {g : Nat} {D : Dy} {A T : Nat} {X : Int} {n : Nat} {ao : Option Addr} {cap : Nat} (h : QW tq ti w g D A T X n ao cap) : QD ti w D A T (.agg #[.bool (zneg X), .slice ao (zl X).length cap, .int .i64 (n : Int)]) := h.2
/-- bounds of a value's parts out of its worth -/
theorem QD.tight {t : TypeId} {w : World} {D : Dy} {A T : Nat} {v : Value} (h : QD t w D A T v) (a b : Nat) (ha : D.1.natAbs < 2 ^ a) (hb : D.2 ≤ b) : QD t w D (a + (T + b)) T v := by
  obtain ⟨x, n, ao, cap, h1, h2, h3, h4, h5⟩ := h
  refine ⟨x, n, ao, cap, h1, h2, h3, ?_, h5⟩
  obtain ⟨k, k1, k2⟩ := nrm_rep x (-(n : Int))
  rw [h3] at k1 k2
  by_cases hx : x = 0
  · rw [hx]; exact Nat.two_pow_pos _
  · have := k2 hx
    rw [k1, natAbs_mul_pw, Nat.pow_add]
    exact Nat.lt_of_lt_of_le (Nat.mul_lt_mul_of_pos_right ha (Nat.two_pow_pos _)) (Nat.mul_le_mul_left _ (Nat.pow_le_pow_right (by omega) (by omega)))
/-- a value is stored into a new variable -/
theorem QW.stored {tq ti : TypeId} {w0 wn : World} {g : Nat} {D : Dy} {A T : Nat} {X : Int} {n : Nat} {ao : Option Addr} {cap : Nat} {b : Bool} {v : Value} {k : Int} (hne : tq ≠ ti) (hb : Below w0.heap.size w0 wn) (hg : w0.heap.size ≤ g) (z : QL tq wn g b v k) (h : QD ti wn D A T (.agg #[.bool (zneg X), .slice ao (zl X).length cap, .int .i64 (n : Int)])) :
    Below w0.heap.size w0 (((wn.setCell ⟨g, 0, none⟩ (.bool (zneg X))).setCell ⟨g, 1, none⟩ (.slice ao (zl X).length cap)).setCell ⟨g, 2, none⟩ (.int .i64 (n : Int))) ∧ QW tq ti (((wn.setCell ⟨g, 0, none⟩ (.bool (zneg X))).setCell ⟨g, 1, none⟩ (.slice ao (zl X).length cap)).setCell ⟨g, 2, none⟩ (.int .i64 (n : Int))) g D A T X n ao cap := by
  obtain ⟨x, m, a, c, h1, h2, h3, h4, h5⟩ := h
  refine ⟨Go.Ulp.Below.put3 hb hg _ _ _, z.put _ _ _, ⟨x, m, a, c, h1, ?_, h3, h4, h5⟩⟩
  exact h2.set3Q z hne _ _ _
theorem wp_wld {P : Program} {c : Code} {Q : Exit → Act → World → Prop} {a : Act} {w0 : World} (F : World → Prop) (hF : F w0) (h : ∀ w, F w → Code.wp P c Q a w) : Code.wp P c Q a w0 := h w0 hF
theorem fv_isNp (x : Int) : IsN (fv x) := nrm_isN _ _
theorem fv_small_p (x : Int) (h0 : 0 ≤ x) (h1 : x < 18446744073709551616) : (limbs (fv x).1.natAbs).length ≤ 2 ∧ -1074 ≤ (fv x).2 ∧ (fv x).2 ≤ 1024 ∧ (fv x).1.natAbs < 2 ^ 53 := by
  obtain ⟨-, h2, h3, h4⟩ := fv_bd x h0 h1
  exact ⟨(limbs_le_bits _ 2).2 (Nat.lt_of_lt_of_le h2 (Nat.pow_le_pow_right (by omega) (by omega))), h3, h4, h2⟩
end Go.Ulp
