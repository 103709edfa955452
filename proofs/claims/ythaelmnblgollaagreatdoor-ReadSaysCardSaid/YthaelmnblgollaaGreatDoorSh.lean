/- Bounds; variables of types Dyad and Q. -/
import Derived.Test.YthaelmnblgollaaGreatDoorDn5
import Derived.Test.YthaelmnblgollaaGreatDoorRegL
set_option linter.unusedVariables false
set_option linter.unusedSimpArgs false
namespace Go.Ulp
open Go.RowKit
theorem limbs_le_bits (M n : Nat) : (limbs M).length ≤ n ↔ M < 2 ^ (32 * n) := by
  have h := digs_len_le 4294967296 (by omega) M n
  rw [Nat.pow_mul]; exact h
theorem lim_limbs (M : Nat) : Lim (limbs M) := limbs_lim M
end Go.Ulp
namespace Go.Ulp
open Go.RowKit
/-- a variable of type Dyad that holds D -/
def DV (t : TypeId) (w : World) (g : Nat) (D : Dy) : Prop := ∃ am cm, QL t w g (decide (D.1 < 0)) (.slice am (limbs D.1.natAbs).length cm) D.2 ∧ Ns .u32 w am cm (limbs D.1.natAbs)
theorem DV.below {t : TypeId} {w w' : World} {g : Nat} {D : Dy} (h : DV t w g D) (hb : Below w.heap.size w w') : DV t w' g D := by
  obtain ⟨am, cm, h1, h2⟩ := h; exact ⟨am, cm, h1.below hb, h2.below hb⟩
theorem QL.put {t : TypeId} {w : World} {g : Nat} {n : Bool} {v : Value} {k : Int} (h : QL t w g n v k) (n' : Bool) (v' : Value) (k' : Int) :
    QL t (((w.setCell ⟨g, 0, none⟩ (.bool n')).setCell ⟨g, 1, none⟩ v').setCell ⟨g, 2, none⟩ (.int .i64 k')) g n' v' k' := by
  have h1 := (h.set0D n').set1D v'
  refine ⟨⟨(cell_set_ne (by omega)).trans h1.1.1, (cell_set_ne (by omega)).trans h1.1.2.1, ?_, ?_, ?_⟩, ?_, ?_⟩
  · rw [frozen_setCell]; exact h1.1.2.2.1
  · rw [frozen_setCell]; exact h1.1.2.2.2.1
  · exact h1.1.2.2.2.2.setCell _ _
  · exact World.cell?_setCell_same _ _ _ ((cell_set_ne (by omega)).trans ((cell_set_ne (by omega)).trans h.2.1))
  · rw [frozen_setCell]; exact h1.2.2
theorem DV.put {t : TypeId} {w : World} {g : Nat} {n : Bool} {v : Value} {k : Int} {D : Dy} {am : Option Addr} {cm : Nat} (h : QL t w g n v k) (hN : Ns .u32 w am cm (limbs D.1.natAbs)) (hv : ∀ x, v ≠ .int .u32 x) :
    DV t (((w.setCell ⟨g, 0, none⟩ (.bool (decide (D.1 < 0)))).setCell ⟨g, 1, none⟩ (.slice am (limbs D.1.natAbs).length cm)).setCell ⟨g, 2, none⟩ (.int .i64 D.2)) g D :=
  ⟨am, cm, h.put _ _ _, hN.set3 h hv _ _ _⟩
theorem DV.none_form {t : TypeId} {w : World} {g : Nat} (h : DV t w g (0, 0)) : ∃ am cm, QL t w g false (.slice am 0 cm) 0 := by
  obtain ⟨am, cm, h1, -⟩ := h
  refine ⟨am, cm, ?_⟩
  have e : (limbs ((0 : Int), (0 : Int)).1.natAbs).length = 0 := by rw [show limbs ((0 : Int), (0 : Int)).1.natAbs = [] from limbs_zero]; rfl
  rw [e] at h1
  exact h1
/-- a fresh variable for a number over a power of two -/
def Fact.q0 (B : Nat) (t : TypeId) : Fact := ⟨fun v w => ∃ g, v = .pointer (some ⟨g, 0, none⟩) ∧ B ≤ g ∧ QL t w g false (.slice none 0 0) 0, fun _ _ _ h hb => by
  obtain ⟨g, h1, h2, h3⟩ := h; exact ⟨g, h1, h2, h3.below hb⟩⟩
theorem QL.far3 {t : TypeId} {w : World} {g : Nat} {n : Bool} {v : Value} {k : Int} (h : QL t w g n v k) {b : Nat} (hne : g ≠ b) (u0 u1 u2 : Value) :
    QL t (((w.setCell ⟨b, 0, none⟩ u0).setCell ⟨b, 1, none⟩ u1).setCell ⟨b, 2, none⟩ u2) g n v k := ((h.farD _ _ hne).farD _ _ hne).farD _ _ hne
theorem Nz.set3Q {t e : TypeId} {w : World} {ao : Option Addr} {cap : Nat} {L : List Nat} (h : Nz e w ao cap L) {g : Nat} {n : Bool} {v : Value} {k : Int} (z : QL t w g n v k) (hne : t ≠ e) (u0 u1 u2 : Value) :
    Nz e (((w.setCell ⟨g, 0, none⟩ u0).setCell ⟨g, 1, none⟩ u1).setCell ⟨g, 2, none⟩ u2) ao cap L :=
  ((h.setCell z.1.2.2.2.2 hne _ _).setCell (z.1.2.2.2.2.setCell _ _) hne _ _).setCell ((z.1.2.2.2.2.setCell _ _).setCell _ _) hne _ _
theorem Below.put3 {B : Nat} {w w' : World} (h : Below B w w') {g : Nat} (hg : B ≤ g) (u0 u1 u2 : Value) : Below B w (((w'.setCell ⟨g, 0, none⟩ u0).setCell ⟨g, 1, none⟩ u1).setCell ⟨g, 2, none⟩ u2) :=
  ((h.setCell hg _).setCell hg _).setCell hg _
theorem DC.mk2 {w : World} {n n' : Bool} {v v' : Value} {e e' : Int} {t : TypeId} : DC (w.alloc (.cells #[.bool n, v, .int .i64 e, .bool n', v', .int .i64 e'] t)) w.heap.size 0 n v e ∧ DC (w.alloc (.cells #[.bool n, v, .int .i64 e, .bool n', v', .int .i64 e'] t)) w.heap.size 3 n' v' e' := by
  refine ⟨⟨?_, ?_, ?_⟩, ⟨?_, ?_, ?_⟩⟩ <;> rw [World.cell?_alloc_at (hn := rfl)] <;> rfl
end Go.Ulp
namespace Go.Ulp
open Go.RowKit
theorem hasVal_class (x : Int) (h0 : 0 ≤ x) (h1 : x < 18446744073709551616) : hasVal x = !decide (4 ≤ classOf x) := by
  have h := class_val x h0 h1
  unfold hasVal
  unfold absOf at h
  rw [Bool.eq_iff_iff, Bool.not_eq_true', decide_eq_true_eq, decide_eq_false_iff_not]
  omega
theorem tw_lt {n A : Nat} (h0 : 0 < n) (h : n < 2 ^ A) : tw n < A := by
  have h1 := (od_tw n h0).1
  have h2 := od_pos n h0
  have h3 : 2 ^ tw n ≤ n := by
    conv => rhs; rw [← h1]
    exact Nat.le_mul_of_pos_left _ h2
  exact (Nat.pow_lt_pow_iff_right (a := 2) (by omega)).1 (Nat.lt_of_le_of_lt h3 h)
/-- the bounds of a number in its one form -/
theorem nrm_bd (y e : Int) (A : Nat) (h : y.natAbs < 2 ^ A) : (nrm y e).1.natAbs < 2 ^ A ∧ ((nrm y e).1 = 0 ∧ (nrm y e).2 = 0 ∨ e ≤ (nrm y e).2 ∧ (nrm y e).2 < e + A) := by
  by_cases h0 : y = 0
  · subst h0; exact ⟨h, .inl ⟨rfl, rfl⟩⟩
  · refine ⟨by rw [nrm_abs y e h0]; exact Nat.lt_of_le_of_lt (od_le _) h, .inr ?_⟩
    have h1 := tw_lt (n := y.natAbs) (by omega) h
    have h2 : (nrm y e).2 = e + tw y.natAbs := by unfold nrm; rw [if_neg h0]
    rw [h2]; omega
theorem fv_bd (x : Int) (h0 : 0 ≤ x) (h1 : x < 18446744073709551616) : bndB (fv x) = true ∧ ((fv x).1.natAbs < 2 ^ 53 ∧ -1074 ≤ (fv x).2 ∧ (fv x).2 ≤ 1024) := by
  have hm := mantOf_bd x
  have he := dexp_bd x
  have hA : (sg (negB x) (mantOf x)).natAbs < 2 ^ 53 := by rw [sg_abs]; omega
  obtain ⟨k1, k2⟩ := nrm_bd (sg (negB x) (mantOf x)) (dexp x) 53 hA
  have k3 : (fv x).1.natAbs < 2 ^ 53 ∧ -1074 ≤ (fv x).2 ∧ (fv x).2 ≤ 1024 := ⟨k1, by unfold fv; omega, by unfold fv; omega⟩
  refine ⟨?_, k3⟩
  have hl : (limbs (fv x).1.natAbs).length ≤ 2 := (limbs_le_bits _ 2).2 (Nat.lt_of_lt_of_le k3.1 (Nat.pow_le_pow_right (by omega) (by omega)))
  unfold bndB dyB
  exact decide_eq_true ⟨by omega, by omega, by omega⟩
/-- a slice of one list of limbs -/
theorem ls_made {w : World} {v : Value} {t : TypeId} : (w.alloc (.cells #[v] t)).cell? ⟨w.heap.size, 0, none⟩ = some v := by
  rw [World.cell?_alloc_at (hn := rfl)]; rfl
end Go.Ulp
