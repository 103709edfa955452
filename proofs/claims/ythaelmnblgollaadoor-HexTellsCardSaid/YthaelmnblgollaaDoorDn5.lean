/- dyad: comparison, bounds. -/
import Derived.Test.YthaelmnblgollaaDoorDn2
import Derived.Test.YthaelmnblgollaaDoorRegL
import Derived.Test.YthaelmnblgollaaDoorNat13b
import Derived.Deep.DeepCutAuto
import Derived.Deep.CutBlock
namespace Go.Ulp
open Go.RowKit
theorem negD_abs (D : Dy) : (negD D).1.natAbs = D.1.natAbs := by unfold negD; exact Int.natAbs_neg _
theorem dy_len (D : Dy) : (limbs D.1.natAbs).length = 0 ↔ D.1 = 0 := by
  rw [List.length_eq_zero_iff, limbs_nil]; omega
/-- a Dyad of value D among the values of a region; a number's limbs -/
def Fact.vd (D : Dy) : Fact := ⟨fun v w => VD w D v, fun _ _ _ h hb => h.below hb⟩
def Fact.li (m : Nat) : Fact := ⟨fun v w => ∃ ao cap, v = .slice ao (limbs m).length cap ∧ Ns .u32 w ao cap (limbs m), fun _ _ _ h hb => by
  obtain ⟨ao, cap, h1, h2⟩ := h
  exact ⟨ao, cap, h1, h2.below hb⟩⟩
theorem sg_mul_abs (x y : Int) : sg (decide (x < 0) != decide (y < 0)) ((x.natAbs * y.natAbs : Nat) : Int) = x * y := by
  have h : ((x.natAbs * y.natAbs : Nat) : Int) = (x.natAbs : Int) * (y.natAbs : Int) := Int.natCast_mul _ _
  rw [h]
  rcases Int.lt_or_le x 0 with hx | hx <;> rcases Int.lt_or_le y 0 with hy | hy
  · have e1 : (x.natAbs : Int) = -x := by omega
    have e2 : (y.natAbs : Int) = -y := by omega
    rw [decide_eq_true hx, decide_eq_true hy, e1, e2, Int.neg_mul_neg]; rfl
  · have e1 : (x.natAbs : Int) = -x := by omega
    have e2 : (y.natAbs : Int) = y := by omega
    rw [decide_eq_true hx, decide_eq_false (by omega), e1, e2]
    show -(-x * y) = x * y
    rw [Int.neg_mul, Int.neg_neg]
  · have e1 : (x.natAbs : Int) = x := by omega
    have e2 : (y.natAbs : Int) = -y := by omega
    rw [decide_eq_false (by omega), decide_eq_true hy, e1, e2]
    show -(x * -y) = x * y
    rw [Int.mul_neg, Int.neg_neg]
  · have e1 : (x.natAbs : Int) = x := by omega
    have e2 : (y.natAbs : Int) = y := by omega
    rw [decide_eq_false (by omega), decide_eq_false (by omega), e1, e2]; rfl
theorem Ns.setBool {w : World} {ao : Option Addr} {cap : Nat} {L : List Nat} {g : Nat} {n : Bool} (h : Ns .u32 w ao cap L) (hc : w.cell? ⟨g, 0, none⟩ = some (.bool n)) (u : Value) : Ns .u32 (w.setCell ⟨g, 0, none⟩ u) ao cap L :=
  Ns.setCell_kind h ⟨g, 0, none⟩ u (.bool n) hc (by intro x e; cases e)
theorem QL.farD {t : TypeId} {w : World} {g : Nat} {n : Bool} {v : Value} {k : Int} (h : QL t w g n v k) (a : Addr) (u : Value) (hne : g ≠ a.block) : QL t (w.setCell a u) g n v k := by
  refine ⟨h.1.far a u hne, ?_, ?_⟩
  · rw [World.cell?_setCell_other (h := fun e => hne (by rw [e]))]; exact h.2.1
  · rw [frozen_setCell]; exact h.2.2
theorem QL.set0D {t : TypeId} {w : World} {g : Nat} {n : Bool} {v : Value} {k : Int} (h : QL t w g n v k) (u : Bool) : QL t (w.setCell ⟨g, 0, none⟩ (.bool u)) g u v k :=
  ⟨h.1.set0 u, (cell_set_ne (by omega)).trans h.2.1, (frozen_setCell _ _ _ _).trans h.2.2⟩
theorem QL.set1D {t : TypeId} {w : World} {g : Nat} {n : Bool} {v : Value} {k : Int} (h : QL t w g n v k) (u : Value) : QL t (w.setCell ⟨g, 1, none⟩ u) g n u k :=
  ⟨h.1.set1 u, (cell_set_ne (by omega)).trans h.2.1, (frozen_setCell _ _ _ _).trans h.2.2⟩
theorem Ns.setSlice {w : World} {ao : Option Addr} {cap : Nat} {L : List Nat} {p : Addr} {a : Option Addr} {l c : Nat} (h : Ns .u32 w ao cap L) (hc : w.cell? p = some (.slice a l c)) (u : Value) : Ns .u32 (w.setCell p u) ao cap L :=
  Ns.setCell_kind h p u (.slice a l c) hc (by intro x e; cases e)
end Go.Ulp
namespace Go.Proofs.YthaelmnblgollaaDoor
open Go.RowKit Go.Ulp
set_option linter.unusedVariables false
set_option linter.unusedSimpArgs false
set_option maxHeartbeats 1000000
set_option maxRecDepth 100000
end Go.Proofs.YthaelmnblgollaaDoor
namespace Go.Ulp
open Go.RowKit
/-- what Align hands back -/
def RetAl (w : World) (A B : Nat) (m : Int) (e : Ending) (w' : World) : Prop :=
  ∃ ao cap bo cbp, e = .returned (.tuple #[.slice ao (limbs A).length cap, .slice bo (limbs B).length cbp, .int .i64 m]) ∧ Ns .u32 w' ao cap (limbs A) ∧ Ns .u32 w' bo cbp (limbs B) ∧ Below w.heap.size w w'
/-- the size of a number as a multiple of 2^m -/
def alN (D : Dy) (m : Int) : Nat := D.1.natAbs * 2 ^ (D.2 - m).toNat
theorem sg_alN (D : Dy) (m : Int) : sg (decide (D.1 < 0)) (alN D m : Int) = sc D.1 D.2 m := by
  unfold alN sc
  rw [Int.natCast_mul, ← pw_nat]
  rcases Int.lt_or_le D.1 0 with h | h
  · have e : (D.1.natAbs : Int) = -D.1 := by omega
    rw [decide_eq_true h, e]
    show -(-D.1 * _) = _
    rw [Int.neg_mul, Int.neg_neg]
  · have e : (D.1.natAbs : Int) = D.1 := by omega
    rw [decide_eq_false (by omega), e]; rfl
theorem add_same (D E : Dy) (m : Int) (n : Bool) (h0 : decide (D.1 < 0) = n) (h1 : decide (E.1 < 0) = n) : sg n ((alN D m + alN E m : Nat) : Int) = sc D.1 D.2 m + sc E.1 E.2 m := by
  rw [← sg_alN, ← sg_alN, h0, h1]
  unfold sg; cases n <;> simp <;> omega
theorem add_ge (D E : Dy) (m : Int) (h : decide (D.1 < 0) ≠ decide (E.1 < 0)) (hg : alN E m ≤ alN D m) : sg (decide (D.1 < 0)) ((alN D m - alN E m : Nat) : Int) = sc D.1 D.2 m + sc E.1 E.2 m := by
  rw [← sg_alN, ← sg_alN]
  generalize decide (D.1 < 0) = n0 at *
  generalize decide (E.1 < 0) = n1 at *
  unfold sg
  cases n0 <;> cases n1
  · exact absurd rfl h
  · simp; omega
  · simp; omega
  · exact absurd rfl h
theorem add_lt (D E : Dy) (m : Int) (h : decide (D.1 < 0) ≠ decide (E.1 < 0)) (hg : alN D m ≤ alN E m) : sg (decide (E.1 < 0)) ((alN E m - alN D m : Nat) : Int) = sc D.1 D.2 m + sc E.1 E.2 m := by
  rw [add_ge E D m h.symm hg]; omega
theorem addD_left (D E : Dy) (h : D.1 = 0) : addD D E = nrm E.1 E.2 := by
  unfold addD
  rw [h, sc_zero, Int.zero_add]
  unfold sc
  rw [nrm_scale]; congr 1; omega
theorem addD_right (D E : Dy) (h : E.1 = 0) : addD D E = nrm D.1 D.2 := by
  unfold addD
  rw [h, sc_zero, Int.add_zero]
  unfold sc
  rw [nrm_scale]; congr 1; omega
theorem sg_self (x : Int) : sg (decide (x < 0)) (x.natAbs : Int) = x := by
  rcases Int.lt_or_le x 0 with h | h
  · rw [decide_eq_true h]; show -(x.natAbs : Int) = x; omega
  · rw [decide_eq_false (by omega)]; show (x.natAbs : Int) = x; omega
theorem alN_len (D : Dy) (m : Int) (k j : Nat) (hl : (limbs D.1.natAbs).length ≤ k) (hd : D.2 - m < 32 * ((j : Int) + 1)) : (limbs (alN D m)).length ≤ k + (j + 1) := by
  unfold alN
  have := limbs_len_shl D.1.natAbs (D.2 - m).toNat j (by omega)
  omega
end Go.Ulp
namespace Go.Proofs.YthaelmnblgollaaDoor
open Go.RowKit Go.Ulp
set_option linter.unusedVariables false
set_option linter.unusedSimpArgs false
set_option maxHeartbeats 1000000
set_option maxRecDepth 100000
end Go.Proofs.YthaelmnblgollaaDoor
namespace Go.Ulp
open Go.RowKit
theorem dSign_sgn (x : Int) : dSign (decide (x < 0)) (limbs x.natAbs).length = sgn x := by
  unfold dSign sgn cmpI
  by_cases h0 : x = 0
  · subst h0; rfl
  · have : (limbs x.natAbs).length ≠ 0 := fun h => h0 ((dy_len (x, 0)).1 h)
    rw [if_neg this]
    by_cases h : x < 0
    · rw [if_pos (decide_eq_true h), if_pos h]
    · rw [if_neg (by simp [h]), if_neg h, if_pos (by omega)]
/-- within the bounds? -/
def bndB (D : Dy) : Bool := dyB (limbs D.1.natAbs).length D.2
/-- what bounded hands back: the number, or none with the error -/
def RetBd (w : World) (D : Dy) (e : Ending) (w' : World) : Prop :=
  ∃ v, e = .returned (.tuple #[v, .int .i64 (if bndB D = true then 0 else 2)]) ∧ VD w' (if bndB D = true then D else (0, 0)) v ∧ Below w.heap.size w w'
end Go.Ulp
namespace Go.Proofs.YthaelmnblgollaaDoor
open Go.RowKit Go.Ulp
set_option linter.unusedVariables false
set_option linter.unusedSimpArgs false
set_option maxHeartbeats 1000000
set_option maxRecDepth 100000
end Go.Proofs.YthaelmnblgollaaDoor
