/- Dyads as they are handed in: their sign, the reference's DyadRight. -/
import Derived.Test.YthaelmnblgollaaDoorNat11
import Derived.Test.YthaelmnblgollaaDoorQ1
import Derived.Test.YthaelmnblgollaaDoorFloat
set_option linter.unusedVariables false
set_option linter.unusedSimpArgs false
namespace Go.Ulp
open Go.RowKit
/-- within the bounds? -/
def dyB (n : Nat) (e : Int) : Bool := decide (n ≤ 400 ∧ -10000 ≤ e ∧ e ≤ 10000)
def bndE (n : Nat) (e : Int) : Int := if dyB n e = true then 0 else 2
/-- what is wrong with a Dyad -/
def dyadE (neg : Bool) (L : List Nat) (e : Int) : Int :=
  if dyB L.length e = false then 2 else if L.length = 0 then (if neg = true ∨ e ≠ 0 then 3 else 0) else if L.getD (L.length - 1) 0 = 0 ∨ L.getD 0 0 % 2 = 0 then 3 else 0
theorem dyB_true {n : Nat} {e : Int} (h : dyB n e = true) : n ≤ 400 ∧ -10000 ≤ e ∧ e ≤ 10000 := by simpa [dyB] using h
/-- the ways a Dyad may be -/
theorem dyad_cases (neg : Bool) (ao : Option Addr) (cap : Nat) (L : List Nat) (e : Int) (w : World) (hN : Ns .u32 w ao cap L) (hl : Lim L) :
    (dyB L.length e = false ∧ Hid (dyadE neg L e = 2)) ∨
    (dyB L.length e = true ∧ L.length = 0 ∧ neg = true ∧ Hid (dyadE neg L e = 3)) ∨
    (dyB L.length e = true ∧ L.length = 0 ∧ neg = false ∧ (e == 0) = false ∧ (e != 0) = true ∧ Hid (dyadE neg L e = 3)) ∨
    (dyB L.length e = true ∧ L.length = 0 ∧ neg = false ∧ e = 0 ∧ Hid (dyadE neg L e = 0)) ∨
    (dyB L.length e = true ∧ ∃ n b off x y, L.length = n ∧ ao = some ⟨b, off, none⟩ ∧ 0 < n ∧ n ≤ 400 ∧ w.cell? ⟨b, off, none⟩ = some (.int .u32 x) ∧ w.cell? ⟨b, off + (n - 1), none⟩ = some (.int .u32 y) ∧ 0 ≤ x ∧ x < 4294967296 ∧
      ((((x % 2 == 0) = true ∨ ((x % 2 == 0) = false ∧ (y == 0) = true)) ∧ Hid (dyadE neg L e = 3)) ∨ ((x % 2 == 0) = false ∧ (y == 0) = false ∧ Hid (dyadE neg L e = 0)))) := by
  by_cases hB : dyB L.length e = false
  · exact .inl ⟨hB, by unfold dyadE; rw [if_pos hB]; exact hid rfl⟩
  have hB2 : dyB L.length e = true := by simpa using hB
  by_cases h0 : L.length = 0
  · cases neg
    · by_cases he : e = 0
      · exact .inr (.inr (.inr (.inl ⟨hB2, h0, rfl, he, by unfold dyadE; rw [if_neg hB, if_pos h0, if_neg (by simp [he])]; exact hid rfl⟩)))
      · exact .inr (.inr (.inl ⟨hB2, h0, rfl, beq_eq_false_iff_ne.2 he, by simp [he], by unfold dyadE; rw [if_neg hB, if_pos h0, if_pos (.inr he)]; exact hid rfl⟩))
    · exact .inr (.inl ⟨hB2, h0, rfl, by unfold dyadE; rw [if_neg hB, if_pos h0, if_pos (.inl rfl)]; exact hid rfl⟩)
  · obtain ⟨b, off, rfl, hc⟩ := hN.2.2 (by omega)
    have h1 := hc 0 (by omega)
    have h2 := hc (L.length - 1) (by omega)
    unfold lb at h1 h2
    have hx := hl.getD (by omega) 0
    have hn4 := (dyB_true hB2).1
    refine .inr (.inr (.inr (.inr ⟨hB2, _, b, off, _, _, rfl, rfl, by omega, hn4, h1, h2, by omega, by omega, ?_⟩)))
    have hE : dyadE neg L e = if L.getD (L.length - 1) 0 = 0 ∨ L.getD 0 0 % 2 = 0 then 3 else 0 := by unfold dyadE; rw [if_neg hB, if_neg h0]
    rw [hE]
    by_cases hx2 : L.getD 0 0 % 2 = 0
    · exact .inl ⟨.inl (beq_iff_eq.2 (by omega)), by rw [if_pos (.inr hx2)]; exact hid rfl⟩
    · by_cases hy : L.getD (L.length - 1) 0 = 0
      · exact .inl ⟨.inr ⟨beq_eq_false_iff_ne.2 (by omega), beq_iff_eq.2 (by omega)⟩, by rw [if_pos (.inl hy)]; exact hid rfl⟩
      · exact .inr ⟨beq_eq_false_iff_ne.2 (by omega), beq_eq_false_iff_ne.2 (by omega), by rw [if_neg (fun h => h.elim hy hx2)]; exact hid rfl⟩
/-- a Dyad that is right -/
theorem dyadE_zero {neg : Bool} {L : List Nat} {e : Int} (hl : Lim L) (h : dyadE neg L e = 0) : L.length ≤ 400 ∧ -10000 ≤ e ∧ e ≤ 10000 ∧ L = limbs (lval L) ∧ (lval L = 0 → neg = false ∧ e = 0) ∧ (lval L ≠ 0 → lval L % 2 = 1) := by
  unfold dyadE at h
  by_cases hB : dyB L.length e = false
  · rw [if_pos hB] at h; omega
  rw [if_neg hB] at h
  obtain ⟨b1, b2, b3⟩ := dyB_true (by simpa using hB)
  by_cases h0 : L.length = 0
  · have := List.length_eq_zero_iff.1 h0
    subst this
    rw [if_pos h0] at h
    by_cases hq : neg = true ∨ e ≠ 0
    · rw [if_pos hq] at h; omega
    · refine ⟨b1, b2, b3, rfl, fun _ => ?_, fun h => absurd rfl h⟩
      constructor
      · cases neg
        · rfl
        · exact absurd (.inl rfl) hq
      · exact Classical.byContradiction fun he => hq (.inr he)
  · rw [if_neg h0] at h
    by_cases hq : L.getD (L.length - 1) 0 = 0 ∨ L.getD 0 0 % 2 = 0
    · rw [if_pos hq] at h; omega
    · have ht : Trim L := (trim_iff L).2 (.inr (fun h => hq (.inl h)))
      have hs := limbs_self hl ht
      have h1 := val_drop 4294967296 L 0 (by omega)
      rw [List.drop_zero] at h1
      have hod : lval L % 2 = 1 := by
        have : ¬ L.getD 0 0 % 2 = 0 := fun h => hq (.inr h)
        unfold lval; omega
      exact ⟨b1, b2, b3, hs.symm, fun h => by omega, fun _ => hod⟩
end Go.Ulp
namespace Go.Proofs.YthaelmnblgollaaDoor
open Go.RowKit Go.Ulp
set_option linter.unusedVariables false
set_option linter.unusedSimpArgs false
set_option maxHeartbeats 1000000
set_option maxRecDepth 100000
theorem bndE_true {n : Nat} {e : Int} (h : dyB n e = true) : bndE n e = 0 := by unfold bndE; rw [if_pos h]
theorem bndE_false {n : Nat} {e : Int} (h : dyB n e = false) : bndE n e = 2 := by unfold bndE; rw [h]; rfl
end Go.Proofs.YthaelmnblgollaaDoor
set_option linter.unusedVariables false
set_option linter.unusedSimpArgs false
namespace Go.Ulp
open Go.RowKit
/-- a Dyad in three cells -/
def DC (w : World) (g o : Nat) (neg : Bool) (v : Value) (e : Int) : Prop := w.cell? ⟨g, o, none⟩ = some (.bool neg) ∧ w.cell? ⟨g, o + 1, none⟩ = some v ∧ w.cell? ⟨g, o + 2, none⟩ = some (.int .i64 e)
theorem DC.below {w w' : World} {g o : Nat} {neg : Bool} {v : Value} {e : Int} (h : DC w g o neg v e) (hb : Below w.heap.size w w') : DC w' g o neg v e := by
  obtain ⟨h1, h2, h3⟩ := h
  exact ⟨(hb.cell (World.block_lt_of_cell? _ _ h1)).trans h1, (hb.cell (World.block_lt_of_cell? _ _ h2)).trans h2, (hb.cell (World.block_lt_of_cell? _ _ h3)).trans h3⟩
theorem cell_set_ne {w : World} {g o o' : Nat} {u : Value} (h : o ≠ o') : (w.setCell ⟨g, o, none⟩ u).cell? ⟨g, o', none⟩ = w.cell? ⟨g, o', none⟩ := by
  rw [World.cell?_setCell_other]
  intro e
  injection e with _ e2 _
  exact h e2
theorem Ns.set3 {t : TypeId} {w : World} {ao : Option Addr} {cap : Nat} {L : List Nat} {g : Nat} {n : Bool} {v : Value} {k : Int} (h : Ns .u32 w ao cap L) (z : QL t w g n v k) (hv : ∀ x, v ≠ .int .u32 x) (u0 u1 u2 : Value) :
    Ns .u32 (((w.setCell ⟨g, 0, none⟩ u0).setCell ⟨g, 1, none⟩ u1).setCell ⟨g, 2, none⟩ u2) ao cap L := by
  have h1 := Ns.setCell_kind h ⟨g, 0, none⟩ u0 (.bool n) z.1.1 (by intro x e; cases e)
  have h2 := Ns.setCell_kind h1 ⟨g, 1, none⟩ u1 v ((cell_set_ne (by omega)).trans z.1.2.1) hv
  exact Ns.setCell_kind h2 ⟨g, 2, none⟩ u2 (.int .i64 k) ((cell_set_ne (by omega)).trans ((cell_set_ne (by omega)).trans z.2.1)) (by intro x e; cases e)
def dyadE2 (x y : Int) : Int := if x = 0 then y else x
def dSign (neg : Bool) (n : Nat) : Int := if n = 0 then 0 else if neg = true then -1 else 1
end Go.Ulp
namespace Go.Proofs.YthaelmnblgollaaDoor
open Go.RowKit Go.Ulp
set_option linter.unusedVariables false
set_option linter.unusedSimpArgs false
set_option maxHeartbeats 1000000
set_option maxRecDepth 100000
end Go.Proofs.YthaelmnblgollaaDoor
