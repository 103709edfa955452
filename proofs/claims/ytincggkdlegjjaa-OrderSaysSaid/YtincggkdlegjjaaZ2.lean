/- The reference's whole numbers: comparison, signs. -/
import Derived.Test.YtincggkdlegjjaaNat3
namespace Go.Ulp
open Go.RowKit
def zneg (x : Int) : Bool := decide (x < 0)
def zl (x : Int) : List Nat := decs x.natAbs
/-- the whole number of a sign and a worth -/
def zof (neg : Bool) (n : Nat) : Int := if neg then -(n : Int) else n
/-- what a call leaves that hands back a whole number -/
def RetZ (t : TypeId) (w : World) (x : Int) (e : Ending) (w' : World) : Prop :=
  ∃ ao cap, e = .returned (.agg #[.bool (zneg x), .slice ao (zl x).length cap]) ∧ Nz t w' ao cap (zl x) ∧ Below w.heap.size w w'
/-- as RetZ: at the address ao -/
def RetZA (t : TypeId) (ao : Option Addr) (w : World) (x : Int) (e : Ending) (w' : World) : Prop :=
  ∃ cap, e = .returned (.agg #[.bool (zneg x), .slice ao (zl x).length cap]) ∧ Nz t w' ao cap (zl x) ∧ Below w.heap.size w w'
/-- as RetZ: in memory that was made since -/
def RetZF (t : TypeId) (w : World) (x : Int) (e : Ending) (w' : World) : Prop :=
  ∃ ao cap, e = .returned (.agg #[.bool (zneg x), .slice ao (zl x).length cap]) ∧ Nz t w' ao cap (zl x) ∧ Below w.heap.size w w' ∧ ∀ p, ao = some p → w.heap.size ≤ p.block
theorem RetZA.any {t : TypeId} {ao : Option Addr} {w : World} {x : Int} {e : Ending} {w' : World} (h : RetZA t ao w x e w') : RetZ t w x e w' := by
  obtain ⟨cap, h1, h2, h3⟩ := h; exact ⟨ao, cap, h1, h2, h3⟩
theorem RetZF.any {t : TypeId} {w : World} {x : Int} {e : Ending} {w' : World} (h : RetZF t w x e w') : RetZ t w x e w' := by
  obtain ⟨ao, cap, h1, h2, h3, _⟩ := h; exact ⟨ao, cap, h1, h2, h3⟩
/-- block g is a variable of type Z (number t): a sign and a list -/
def ZL (t : TypeId) (w : World) (g : Nat) (n : Bool) (v : Value) : Prop :=
  w.cell? ⟨g, 0, none⟩ = some (.bool n) ∧ w.cell? ⟨g, 1, none⟩ = some v ∧ w.frozen? ⟨g, 0, none⟩ = false ∧ w.frozen? ⟨g, 1, none⟩ = false ∧ ElemIs w g t
theorem ZL.lt {t : TypeId} {w : World} {g : Nat} {n : Bool} {v : Value} (h : ZL t w g n v) : g < w.heap.size := h.2.2.2.2.lt
theorem ZL.belowB {t : TypeId} {B : Nat} {w w' : World} {g : Nat} {n : Bool} {v : Value} (h : ZL t w g n v) (hb : Below B w w') (hB : g < B) : ZL t w' g n v :=
  ⟨(hb.cell (p := ⟨g, 0, none⟩) hB).trans h.1, (hb.cell (p := ⟨g, 1, none⟩) hB).trans h.2.1, (hb.frozen (p := ⟨g, 0, none⟩) hB).trans h.2.2.1, (hb.frozen (p := ⟨g, 1, none⟩) hB).trans h.2.2.2.1, h.2.2.2.2.belowB hb hB⟩
theorem ZL.below {t : TypeId} {w w' : World} {g : Nat} {n : Bool} {v : Value} (h : ZL t w g n v) (hb : Below w.heap.size w w') : ZL t w' g n v := h.belowB hb h.lt
theorem ZL.alloc {t : TypeId} {w : World} {g : Nat} {n : Bool} {v : Value} (h : ZL t w g n v) (o : Obj) : ZL t (w.alloc o) g n v := h.below (below_alloc _ _)
theorem ZL.made {t : TypeId} {w : World} {g : Nat} {n : Bool} {v : Value} (hg : g = w.heap.size) : ZL t (w.alloc (.cells #[.bool n, v] t)) g n v := by
  subst hg
  refine ⟨?_, ?_, ?_, ?_, ElemIs.made _ _ _⟩
  · rw [World.cell?_alloc_at (hn := rfl)]; rfl
  · rw [World.cell?_alloc_at (hn := rfl)]; rfl
  · unfold World.frozen?; rw [heap_alloc_new]; simp
  · unfold World.frozen?; rw [heap_alloc_new]; simp
theorem frozen_setCell (w : World) (a p : Addr) (u : Value) : (w.setCell a u).frozen? p = w.frozen? p := by
  by_cases h : a.block = p.block
  · simp only [World.frozen?, World.setCell, Array.getElem?_modify]
    rw [if_pos h, ← h]
    cases hx : w.heap[a.block]? with
    | none => rfl
    | some o => cases o <;> rfl
  · exact World.frozen?_of_block (Below.heap_setCell _ _ _ _ (fun e => h e.symm))
theorem ZL.far {t : TypeId} {w : World} {g : Nat} {n : Bool} {v : Value} (h : ZL t w g n v) (a : Addr) (u : Value) (hne : g ≠ a.block) : ZL t (w.setCell a u) g n v := by
  refine ⟨?_, ?_, ?_, ?_, h.2.2.2.2.setCell _ _⟩
  · rw [World.cell?_setCell_other (h := fun e => hne (by rw [e]))]; exact h.1
  · rw [World.cell?_setCell_other (h := fun e => hne (by rw [e]))]; exact h.2.1
  · rw [frozen_setCell]; exact h.2.2.1
  · rw [frozen_setCell]; exact h.2.2.2.1
theorem ZL.set1 {t : TypeId} {w : World} {g : Nat} {n : Bool} {v : Value} (h : ZL t w g n v) (u : Value) : ZL t (w.setCell ⟨g, 1, none⟩ u) g n u := by
  refine ⟨?_, ?_, ?_, ?_, h.2.2.2.2.setCell _ _⟩
  · rw [World.cell?_setCell_other (h := by simp)]; exact h.1
  · exact World.cell?_setCell_same _ _ _ h.2.1
  · rw [frozen_setCell]; exact h.2.2.1
  · rw [frozen_setCell]; exact h.2.2.2.1
theorem ZL.set0 {t : TypeId} {w : World} {g : Nat} {n : Bool} {v : Value} (h : ZL t w g n v) (u : Bool) : ZL t (w.setCell ⟨g, 0, none⟩ (.bool u)) g u v := by
  refine ⟨?_, ?_, ?_, ?_, h.2.2.2.2.setCell _ _⟩
  · exact World.cell?_setCell_same _ _ _ h.1
  · rw [World.cell?_setCell_other (h := by simp)]; exact h.2.1
  · rw [frozen_setCell]; exact h.2.2.1
  · rw [frozen_setCell]; exact h.2.2.2.1
theorem zl_zof (neg : Bool) (n : Nat) : zl (zof neg n) = decs n := by unfold zl zof; cases neg <;> simp
theorem zneg_zof (neg : Bool) (n : Nat) : zneg (zof neg n) = (neg && decide (0 < n)) := by
  unfold zneg zof; cases neg <;> simp
theorem zof_self (x : Int) : zof (zneg x) x.natAbs = x := by unfold zof zneg; by_cases h : x < 0 <;> simp [h] <;> omega
theorem dval_zl (x : Int) : dval (zl x) = x.natAbs := dval_decs _
theorem zl_dec (x : Int) : Dec (zl x) := decs_lim _
theorem dval_cut0 (L : List Nat) (hz : ∀ d ∈ L.drop 0, d = 0) : dval L = 0 := by rw [List.drop_zero] at hz; exact val_zeros _ _ hz
theorem dval_pos (L : List Nat) (k : Nat) (hk : k < L.length) (h : L.getD k 0 ≠ 0) : 0 < dval L := by
  have e := val_take_drop 10000 L k (by omega)
  rw [val_drop 10000 L k hk, Nat.mul_add] at e
  have : 0 < 10000 ^ k * L.getD k 0 := Nat.mul_pos (Nat.pow_pos (by omega)) (by omega)
  unfold dval; omega
end Go.Ulp
namespace Go.Proofs.Ytincggkdlegjjaa
open Go.RowKit Go.Ulp
set_option linter.unusedVariables false
set_option linter.unusedSimpArgs false
set_option maxHeartbeats 400000
end Go.Proofs.Ytincggkdlegjjaa
namespace Go.Ulp
open Go.RowKit
theorem decs_cmp_len (m n : Nat) (h : (decs m).length < (decs n).length) : m < n := by
  have := val_lt_of_len 10000 (by omega) _ _ (decs_lim m) (decs_trim n) h
  rwa [show val 10000 (decs m) = m from dval_decs m, show val 10000 (decs n) = n from dval_decs n] at this
theorem decs_cmp_top (m n k : Nat) (hlen : (decs m).length = (decs n).length) (hk : k < (decs m).length) (heq : (decs m).drop (k + 1) = (decs n).drop (k + 1)) (h : lb (decs m) k < lb (decs n) k) : m < n := by
  have := val_lt_of_top 10000 _ _ k (decs_lim m) hlen hk heq (by unfold lb at h; omega)
  rwa [show val 10000 (decs m) = m from dval_decs m, show val 10000 (decs n) = n from dval_decs n] at this
theorem decs_cmp_eq (m n : Nat) (heq : (decs m).drop 0 = (decs n).drop 0) : m = n := by
  simp only [List.drop_zero] at heq
  rw [← dval_decs m, heq, dval_decs]
theorem cmpI_neg (x y : Int) (hx : x < 0) (hy : y < 0) : cmpI x y = -(cmpI (x.natAbs : Int) (y.natAbs : Int)) := by unfold cmpI; split <;> split <;> (try split) <;> omega
theorem cmpI_pos (x y : Int) (hx : 0 ≤ x) (hy : 0 ≤ y) : cmpI x y = cmpI (x.natAbs : Int) (y.natAbs : Int) := by unfold cmpI; split <;> split <;> (try split) <;> omega
theorem cmpI_bd (x y : Int) : -1 ≤ cmpI x y ∧ cmpI x y ≤ 1 := by unfold cmpI; split <;> (try split) <;> omega
end Go.Ulp
namespace Go.Proofs.Ytincggkdlegjjaa
open Go.RowKit Go.Ulp
set_option linter.unusedVariables false
set_option linter.unusedSimpArgs false
set_option maxHeartbeats 400000
theorem _root_.Go.Ulp.RetZ.pre {t : TypeId} {w w1 : World} {x : Int} {e : Ending} {w' : World} (h : RetZ t w1 x e w') (hb : Below w.heap.size w w1) : RetZ t w x e w' := by
  obtain ⟨ao, cap, h1, h2, h3⟩ := h
  exact ⟨ao, cap, h1, h2, below_trans hb h3⟩
end Go.Proofs.Ytincggkdlegjjaa
