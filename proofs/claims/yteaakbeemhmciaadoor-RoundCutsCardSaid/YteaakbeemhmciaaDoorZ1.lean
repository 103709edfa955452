/- The reference's whole numbers: sign and digits by 10000. -/
import Derived.Test.YteaakbeemhmciaaDoorNat1
namespace Go.Ulp
open Go.RowKit
def zneg (x : Int) : Bool := decide (x < 0)
def zl (x : Int) : List Nat := decs x.natAbs
/-- the whole number of a sign and a worth -/
def zof (neg : Bool) (n : Nat) : Int := if neg then -(n : Int) else n
/-- what a call leaves that hands back a whole number -/
def RetZ (t : TypeId) (w : World) (x : Int) (e : Ending) (w' : World) : Prop :=
  ∃ ao cap, e = .returned (.agg #[.bool (zneg x), .slice ao (zl x).length cap]) ∧ Nz t w' ao cap (zl x) ∧ Below w.heap.size w w'
/-- as RetZ: at the address ao -/
def RetZA (t : TypeId) (ao : Option Addr) (w : World) (x : Int) (e : Ending) (w' : World) : Prop :=
  ∃ cap, e = .returned (.agg #[.bool (zneg x), .slice ao (zl x).length cap]) ∧ Nz t w' ao cap (zl x) ∧ Below w.heap.size w w'
/-- as RetZ: in memory that was made since -/
def RetZF (t : TypeId) (w : World) (x : Int) (e : Ending) (w' : World) : Prop :=
  ∃ ao cap, e = .returned (.agg #[.bool (zneg x), .slice ao (zl x).length cap]) ∧ Nz t w' ao cap (zl x) ∧ Below w.heap.size w w' ∧ ∀ p, ao = some p → w.heap.size ≤ p.block
theorem RetZA.any {t : TypeId} {ao : Option Addr} {w : World} {x : Int} {e : Ending} {w' : World} (h : RetZA t ao w x e w') : RetZ t w x e w' := by
  obtain ⟨cap, h1, h2, h3⟩ := h; exact ⟨ao, cap, h1, h2, h3⟩
theorem RetZF.any {t : TypeId} {w : World} {x : Int} {e : Ending} {w' : World} (h : RetZF t w x e w') : RetZ t w x e w' := by
  obtain ⟨ao, cap, h1, h2, h3, _⟩ := h; exact ⟨ao, cap, h1, h2, h3⟩
/-- block g is a variable of type Z (number t): a sign and a list -/
def ZL (t : TypeId) (w : World) (g : Nat) (n : Bool) (v : Value) : Prop :=
  w.cell? ⟨g, 0, none⟩ = some (.bool n) ∧ w.cell? ⟨g, 1, none⟩ = some v ∧ w.frozen? ⟨g, 0, none⟩ = false ∧ w.frozen? ⟨g, 1, none⟩ = false ∧ ElemIs w g t
theorem ZL.lt {t : TypeId} {w : World} {g : Nat} {n : Bool} {v : Value} (h : ZL t w g n v) : g < w.heap.size := h.2.2.2.2.lt
theorem ZL.belowB {t : TypeId} {B : Nat} {w w' : World} {g : Nat} {n : Bool} {v : Value} (h : ZL t w g n v) (hb : Below B w w') (hB : g < B) : ZL t w' g n v :=
  ⟨(hb.cell (p := ⟨g, 0, none⟩) hB).trans h.1, (hb.cell (p := ⟨g, 1, none⟩) hB).trans h.2.1, (hb.frozen (p := ⟨g, 0, none⟩) hB).trans h.2.2.1, (hb.frozen (p := ⟨g, 1, none⟩) hB).trans h.2.2.2.1, h.2.2.2.2.belowB hb hB⟩
theorem ZL.below {t : TypeId} {w w' : World} {g : Nat} {n : Bool} {v : Value} (h : ZL t w g n v) (hb : Below w.heap.size w w') : ZL t w' g n v := h.belowB hb h.lt
theorem ZL.alloc {t : TypeId} {w : World} {g : Nat} {n : Bool} {v : Value} (h : ZL t w g n v) (o : Obj) : ZL t (w.alloc o) g n v := h.below (below_alloc _ _)
theorem ZL.made {t : TypeId} {w : World} {g : Nat} {n : Bool} {v : Value} (hg : g = w.heap.size) : ZL t (w.alloc (.cells #[.bool n, v] t)) g n v := by
  subst hg
  refine ⟨?_, ?_, ?_, ?_, ElemIs.made _ _ _⟩
  · rw [World.cell?_alloc_at (hn := rfl)]; rfl
  · rw [World.cell?_alloc_at (hn := rfl)]; rfl
  · unfold World.frozen?; rw [heap_alloc_new]; simp
  · unfold World.frozen?; rw [heap_alloc_new]; simp
theorem frozen_setCell (w : World) (a p : Addr) (u : Value) : (w.setCell a u).frozen? p = w.frozen? p := by
  by_cases h : a.block = p.block
  · simp only [World.frozen?, World.setCell, Array.getElem?_modify]
    rw [if_pos h, ← h]
    cases hx : w.heap[a.block]? with
    | none => rfl
    | some o => cases o <;> rfl
  · exact World.frozen?_of_block (Below.heap_setCell _ _ _ _ (fun e => h e.symm))
theorem ZL.far {t : TypeId} {w : World} {g : Nat} {n : Bool} {v : Value} (h : ZL t w g n v) (a : Addr) (u : Value) (hne : g ≠ a.block) : ZL t (w.setCell a u) g n v := by
  refine ⟨?_, ?_, ?_, ?_, h.2.2.2.2.setCell _ _⟩
  · rw [World.cell?_setCell_other (h := fun e => hne (by rw [e]))]; exact h.1
  · rw [World.cell?_setCell_other (h := fun e => hne (by rw [e]))]; exact h.2.1
  · rw [frozen_setCell]; exact h.2.2.1
  · rw [frozen_setCell]; exact h.2.2.2.1
theorem ZL.set1 {t : TypeId} {w : World} {g : Nat} {n : Bool} {v : Value} (h : ZL t w g n v) (u : Value) : ZL t (w.setCell ⟨g, 1, none⟩ u) g n u := by
  refine ⟨?_, ?_, ?_, ?_, h.2.2.2.2.setCell _ _⟩
  · rw [World.cell?_setCell_other (h := by simp)]; exact h.1
  · exact World.cell?_setCell_same _ _ _ h.2.1
  · rw [frozen_setCell]; exact h.2.2.1
  · rw [frozen_setCell]; exact h.2.2.2.1
theorem ZL.set0 {t : TypeId} {w : World} {g : Nat} {n : Bool} {v : Value} (h : ZL t w g n v) (u : Bool) : ZL t (w.setCell ⟨g, 0, none⟩ (.bool u)) g u v := by
  refine ⟨?_, ?_, ?_, ?_, h.2.2.2.2.setCell _ _⟩
  · exact World.cell?_setCell_same _ _ _ h.1
  · rw [World.cell?_setCell_other (h := by simp)]; exact h.2.1
  · rw [frozen_setCell]; exact h.2.2.1
  · rw [frozen_setCell]; exact h.2.2.2.1
theorem zl_zof (neg : Bool) (n : Nat) : zl (zof neg n) = decs n := by unfold zl zof; cases neg <;> simp
theorem zneg_zof (neg : Bool) (n : Nat) : zneg (zof neg n) = (neg && decide (0 < n)) := by
  unfold zneg zof; cases neg <;> simp
theorem zof_self (x : Int) : zof (zneg x) x.natAbs = x := by unfold zof zneg; by_cases h : x < 0 <;> simp [h] <;> omega
theorem dval_zl (x : Int) : dval (zl x) = x.natAbs := dval_decs _
theorem zl_dec (x : Int) : Dec (zl x) := decs_lim _
theorem dval_cut0 (L : List Nat) (hz : ∀ d ∈ L.drop 0, d = 0) : dval L = 0 := by rw [List.drop_zero] at hz; exact val_zeros _ _ hz
theorem dval_pos (L : List Nat) (k : Nat) (hk : k < L.length) (h : L.getD k 0 ≠ 0) : 0 < dval L := by
  have e := val_take_drop 10000 L k (by omega)
  rw [val_drop 10000 L k hk, Nat.mul_add] at e
  have : 0 < 10000 ^ k * L.getD k 0 := Nat.mul_pos (Nat.pow_pos (by omega)) (by omega)
  unfold dval; omega
end Go.Ulp
namespace Go.Proofs.YteaakbeemhmciaaDoor
open Go.RowKit Go.Ulp
set_option linter.unusedVariables false
set_option linter.unusedSimpArgs false
set_option maxHeartbeats 400000
theorem trim_at (neg : Bool) (ao : Option Addr) (cap : Nat) (L : List Nat) (w : World) (h : Nz 3 w ao cap L) (hl : Dec L) :
    Calls Tryd.prog 107 #[.agg #[.bool neg, .slice ao L.length cap]] w fun e w' => RetZA 3 ao w (zof neg (dval L)) e w' := by
  have hz := h
  obtain ⟨⟨h1, h2, h3⟩, h4⟩ := h
  have HZN := hid hz
  clear h4 hz
  unfold maxLen at h2
  go_enter Tryd.func107, Tryd.ntmps107
  go_wp2_with fail
  go_loop [3] (fun v => ∃ k : Nat, k ≤ L.length ∧ v = .int .i64 k ∧ ∀ d ∈ L.drop k, d = 0) (fun v => (intOf v).toNat)
  case atStart => exact ⟨L.length, Nat.le_refl _, rfl, by simp⟩
  case round =>
    obtain ⟨k, hk, rfl, hz⟩ := hrel
    have HZ := hid hz
    clear hz
    cases k with
    | zero =>
      have e := hid (dval_cut0 L HZ.out)
      cases neg
      all_goals
        go_wp2_with fail
        go_region
        go_wp2_with fail
        go_returns
        refine ⟨cap, ?_, ?_, ?_⟩
        · rw [e.out]; rfl
        · rw [e.out]; exact Nz.nil' _ _ (by unfold maxLen; omega)
        · exact ((below_alloc _ _).trans ((below_alloc _ _).mono (by simp))).drew
    | succ m =>
      obtain ⟨b, off, rfl, hc⟩ := h3 (by omega)
      have hcell := hc m (by omega)
      have hb : b < w.heap.size := World.block_lt_of_cell? w _ hcell
      by_cases hd : lb L m = 0
      · clear hc h3
        go_wp2
        go_round
        case rel => exact ⟨m, by omega, by go_num, drop_zero_succ L m (by omega) (by unfold lb at hd; omega) HZ.out⟩
        case measure => simp [intOf]
      · have hd' : (lb L m == 0) = false := by simpa using hd
        have hdn : L.getD m 0 ≠ 0 := by unfold lb at hd; omega
        have e := hid (decs_cut L hl (m + 1) HZ.out (trim_take L m (by omega) hdn))
        have hpos := hid (dval_pos L m (by omega) hdn)
        have hN : Nz 3 w (some ⟨b, off, none⟩) cap (L.take (m + 1)) := HZN.out.take (m + 1) cap hk (by omega) (Nat.le_refl _)
        have hT := hid (show (L.take (m + 1)).length = m + 1 by rw [List.length_take, Nat.min_eq_left hk])
        clear hdn hc h3
        cases neg
        all_goals
          go_wp2_with fail
          go_region
          go_wp2_with fail
          go_returns
          refine ⟨cap, ?_, ?_, ?_⟩
          rotate_left
          · rw [zl_zof, e.out]; exact hN.below (((below_alloc _ _).trans ((below_alloc _ _).mono (by simp))).drew)
          · exact ((below_alloc _ _).trans ((below_alloc _ _).mono (by simp))).drew
          · rw [zl_zof, e.out, zneg_zof, hT.out, decide_eq_true hpos.out]; rfl
theorem trim_any (neg : Bool) (ao : Option Addr) (cap : Nat) (L : List Nat) (w : World) (h : Nz 3 w ao cap L) (hl : Dec L) :
    Calls Tryd.prog 107 #[.agg #[.bool neg, .slice ao L.length cap]] w fun e w' => RetZ 3 w (zof neg (dval L)) e w' :=
  (trim_at neg ao cap L w h hl).mono fun _ _ h => h.any
end Go.Proofs.YteaakbeemhmciaaDoor
