/- SpanSums: what the proof leans on, part 24 (Ss8 Ss9 Ss13 Ss14 Ss15 Ss16 Qr2). -/
import Derived.Test.YtfphmlmgjhebjaaGreatDoorKSpanSums22
import Derived.Test.YtfphmlmgjhebjaaGreatDoorKSpanSums23
set_option linter.unusedVariables false
set_option linter.unusedSimpArgs false
namespace Go.Ulp
open Go.RowKit
/-- a variable that holds an end -/
def XE (ti te : TypeId) (w : World) (g : Nat) (way : Int) (D : Dy) (A : Nat) : Prop :=
  ∃ n ao l c t, w.cell? ⟨g, 0, none⟩ = some (.bool n) ∧ w.cell? ⟨g, 1, none⟩ = some (.slice ao l c) ∧ w.cell? ⟨g, 2, none⟩ = some (.int .i64 t) ∧ w.cell? ⟨g, 3, none⟩ = some (.int .i64 way) ∧
    w.frozen? ⟨g, 0, none⟩ = false ∧ w.frozen? ⟨g, 1, none⟩ = false ∧ w.frozen? ⟨g, 2, none⟩ = false ∧ w.frozen? ⟨g, 3, none⟩ = false ∧ ElemIs w g te ∧ QD ti w D A (A - 100) (.agg #[.bool n, .slice ao l c, .int .i64 t])
theorem XE.lt {ti te : TypeId} {w : World} {g : Nat} {way : Int} {D : Dy} {A : Nat} (h : XE ti te w g way D A) : g < w.heap.size := by
  obtain ⟨n, ao, l, c, t, h1, _⟩ := h; exact World.block_lt_of_cell? w _ h1
theorem XE.below {ti te : TypeId} {w w' : World} {g : Nat} {way : Int} {D : Dy} {A : Nat} (h : XE ti te w g way D A) (hb : Below w.heap.size w w') : XE ti te w' g way D A := by
  have hl := h.lt
  obtain ⟨n, ao, l, c, t, h0, h1, h2, h3, f0, f1, f2, f3, s, q⟩ := h
  exact ⟨n, ao, l, c, t, (hb.cell (p := ⟨g, 0, none⟩) hl).trans h0, (hb.cell (p := ⟨g, 1, none⟩) hl).trans h1, (hb.cell (p := ⟨g, 2, none⟩) hl).trans h2, (hb.cell (p := ⟨g, 3, none⟩) hl).trans h3,
    (hb.frozen (p := ⟨g, 0, none⟩) hl).trans f0, (hb.frozen (p := ⟨g, 1, none⟩) hl).trans f1, (hb.frozen (p := ⟨g, 2, none⟩) hl).trans f2, (hb.frozen (p := ⟨g, 3, none⟩) hl).trans f3, s.below hb, q.below hb⟩
theorem XE.e0 {ti te : TypeId} {w : World} {g : Nat} {way : Int} {D : Dy} {A : Nat} (h : XE ti te w g way D A) : E0 te w g := by
  obtain ⟨n, ao, l, c, t, h0, h1, h2, h3, f0, f1, f2, f3, s, q⟩ := h
  refine ⟨#[.bool n, .slice ao l c, .int .i64 t, .int .i64 way], rfl, fun i hi => ?_, s⟩
  match i, hi with
  | 0, _ => exact ⟨h0, f0⟩
  | 1, _ => exact ⟨h1, f1⟩
  | 2, _ => exact ⟨h2, f2⟩
  | 3, _ => exact ⟨h3, f3⟩
  | k + 4, hk => exact absurd hk (by simp)
theorem XE.made {ti te : TypeId} {w : World} {g : Nat} {n : Bool} {ao : Option Addr} {l c : Nat} {t way : Int} {D : Dy} {A : Nat} (hg : g = w.heap.size) (q : QD ti w D A (A - 100) (.agg #[.bool n, .slice ao l c, .int .i64 t])) :
    XE ti te (w.alloc (.cells #[.bool n, .slice ao l c, .int .i64 t, .int .i64 way] te)) g way D A := by
  subst hg
  refine ⟨n, ao, l, c, t, ?_, ?_, ?_, ?_, ?_, ?_, ?_, ?_, ElemIs.made _ _ _, q.below (below_alloc _ _)⟩
  · rw [World.cell?_alloc_at (hn := rfl)]; rfl
  · rw [World.cell?_alloc_at (hn := rfl)]; rfl
  · rw [World.cell?_alloc_at (hn := rfl)]; rfl
  · rw [World.cell?_alloc_at (hn := rfl)]; rfl
  · unfold World.frozen?; rw [heap_alloc_new]; simp
  · unfold World.frozen?; rw [heap_alloc_new]; simp
  · unfold World.frozen?; rw [heap_alloc_new]; simp
  · unfold World.frozen?; rw [heap_alloc_new]; simp
/-- four stores into a variable -/
def put4 (w : World) (g : Nat) (u0 u1 u2 u3 : Value) : World := (((w.setCell ⟨g, 0, none⟩ u0).setCell ⟨g, 1, none⟩ u1).setCell ⟨g, 2, none⟩ u2).setCell ⟨g, 3, none⟩ u3
theorem cell_put4_far {w : World} {g k o : Nat} {u0 u1 u2 u3 : Value} (h : k ≠ g) : (put4 w g u0 u1 u2 u3).cell? ⟨k, o, none⟩ = w.cell? ⟨k, o, none⟩ := by
  unfold put4
  rw [World.cell?_setCell_other (h := fun e => h (by injection e with e; exact e.symm)), World.cell?_setCell_other (h := fun e => h (by injection e with e; exact e.symm)), World.cell?_setCell_other (h := fun e => h (by injection e with e; exact e.symm)), World.cell?_setCell_other (h := fun e => h (by injection e with e; exact e.symm))]
theorem frozen_put4 {w : World} {g : Nat} {a : Addr} {u0 u1 u2 u3 : Value} : (put4 w g u0 u1 u2 u3).frozen? a = w.frozen? a := by
  unfold put4
  rw [frozen_setCell, frozen_setCell, frozen_setCell, frozen_setCell]
theorem XE.far {ti te : TypeId} {w : World} {g k : Nat} {way : Int} {D : Dy} {A : Nat} (h : XE ti te w k way D A) (hs : ElemIs w g te) (hne : te ≠ ti) (hk : k ≠ g) (u0 u1 u2 u3 : Value) : XE ti te (put4 w g u0 u1 u2 u3) k way D A := by
  obtain ⟨n, ao, l, c, t, h0, h1, h2, h3, f0, f1, f2, f3, s, q⟩ := h
  refine ⟨n, ao, l, c, t, ?_, ?_, ?_, ?_, ?_, ?_, ?_, ?_, s.set4 _ _ _ _, ?_⟩
  · rw [cell_put4_far hk]; exact h0
  · rw [cell_put4_far hk]; exact h1
  · rw [cell_put4_far hk]; exact h2
  · rw [cell_put4_far hk]; exact h3
  · rw [frozen_put4]; exact f0
  · rw [frozen_put4]; exact f1
  · rw [frozen_put4]; exact f2
  · rw [frozen_put4]; exact f3
  · exact (((q.setCell hs hne _ _).setCell (hs.setCell _ _) hne _ _).setCell ((hs.setCell _ _).setCell _ _) hne _ _).setCell (((hs.setCell _ _).setCell _ _).setCell _ _) hne _ _
theorem E0.far4 {te : TypeId} {w : World} {g k : Nat} (h : E0 te w k) (hk : k ≠ g) (u0 u1 u2 u3 : Value) : E0 te (put4 w g u0 u1 u2 u3) k := by
  obtain ⟨c, hc, h1, h2⟩ := h
  refine ⟨c, hc, fun i hi => ⟨?_, ?_⟩, h2.set4 _ _ _ _⟩
  · rw [cell_put4_far hk]; exact (h1 i hi).1
  · rw [frozen_put4]; exact (h1 i hi).2
theorem XE.put {ti te : TypeId} {w : World} {g : Nat} {n : Bool} {ao : Option Addr} {l c : Nat} {t way : Int} {D : Dy} {A : Nat} (h : E0 te w g) (hne : te ≠ ti) (q : QD ti w D A (A - 100) (.agg #[.bool n, .slice ao l c, .int .i64 t])) :
    XE ti te (put4 w g (.bool n) (.slice ao l c) (.int .i64 t) (.int .i64 way)) g way D A := by
  obtain ⟨c0, c1, c2, c3, h0, h1, h2, h3, f0, f1, f2, f3, s⟩ := h.cells
  have ne : ∀ i j : Nat, i ≠ j → (⟨g, i, none⟩ : Addr) ≠ ⟨g, j, none⟩ := fun i j hij e => hij (by injection e)
  refine ⟨n, ao, l, c, t, ?_, ?_, ?_, ?_, ?_, ?_, ?_, ?_, s.set4 _ _ _ _, ?_⟩
  · unfold put4
    rw [World.cell?_setCell_other (h := ne _ _ (by decide)), World.cell?_setCell_other (h := ne _ _ (by decide)), World.cell?_setCell_other (h := ne _ _ (by decide))]
    exact World.cell?_setCell_same (w := w) _ _ h0
  · unfold put4
    rw [World.cell?_setCell_other (h := ne _ _ (by decide)), World.cell?_setCell_other (h := ne _ _ (by decide))]
    refine World.cell?_setCell_same _ _ _ (u := c1) ?_
    rw [World.cell?_setCell_other (h := ne _ _ (by decide))]; exact h1
  · unfold put4
    rw [World.cell?_setCell_other (h := ne _ _ (by decide))]
    refine World.cell?_setCell_same _ _ _ (u := c2) ?_
    rw [World.cell?_setCell_other (h := ne _ _ (by decide)), World.cell?_setCell_other (h := ne _ _ (by decide))]; exact h2
  · unfold put4
    refine World.cell?_setCell_same _ _ _ (u := c3) ?_
    rw [World.cell?_setCell_other (h := ne _ _ (by decide)), World.cell?_setCell_other (h := ne _ _ (by decide)), World.cell?_setCell_other (h := ne _ _ (by decide))]; exact h3
  · rw [frozen_put4]; exact f0
  · rw [frozen_put4]; exact f1
  · rw [frozen_put4]; exact f2
  · rw [frozen_put4]; exact f3
  · exact (((q.setCell s hne _ _).setCell (s.setCell _ _) hne _ _).setCell ((s.setCell _ _).setCell _ _) hne _ _).setCell (((s.setCell _ _).setCell _ _).setCell _ _) hne _ _
/-- ends in a row -/
def XL (ti : TypeId) (w : World) (g : Nat) (L : List (Int × Dy)) : Prop :=
  ∀ j, j < L.length → ∃ n ao l c t, w.cell? ⟨g, j * 4, none⟩ = some (.bool n) ∧ w.cell? ⟨g, j * 4 + 1, none⟩ = some (.slice ao l c) ∧ w.cell? ⟨g, j * 4 + 2, none⟩ = some (.int .i64 t) ∧ w.cell? ⟨g, j * 4 + 3, none⟩ = some (.int .i64 (L.getD j (0, (0, 0))).1) ∧
    QD ti w (L.getD j (0, (0, 0))).2 6000 5900 (.agg #[.bool n, .slice ao l c, .int .i64 t])
theorem XL.below {ti : TypeId} {w w' : World} {g : Nat} {L : List (Int × Dy)} (h : XL ti w g L) (hb : Below w.heap.size w w') : XL ti w' g L := fun j hj => by
  obtain ⟨n, ao, l, c, t, h0, h1, h2, h3, q⟩ := h j hj
  have hl := World.block_lt_of_cell? w _ h0
  exact ⟨n, ao, l, c, t, (hb.cell (p := ⟨g, j * 4, none⟩) hl).trans h0, (hb.cell (p := ⟨g, j * 4 + 1, none⟩) hl).trans h1, (hb.cell (p := ⟨g, j * 4 + 2, none⟩) hl).trans h2, (hb.cell (p := ⟨g, j * 4 + 3, none⟩) hl).trans h3, q.below hb⟩
theorem XL.far {ti te : TypeId} {w : World} {g k : Nat} {L : List (Int × Dy)} (h : XL ti w k L) (hs : ElemIs w g te) (hne : te ≠ ti) (hk : k ≠ g) (u0 u1 u2 u3 : Value) : XL ti (put4 w g u0 u1 u2 u3) k L := fun j hj => by
  obtain ⟨n, ao, l, c, t, h0, h1, h2, h3, q⟩ := h j hj
  refine ⟨n, ao, l, c, t, ?_, ?_, ?_, ?_, (((q.setCell hs hne _ _).setCell (hs.setCell _ _) hne _ _).setCell ((hs.setCell _ _).setCell _ _) hne _ _).setCell (((hs.setCell _ _).setCell _ _).setCell _ _) hne _ _⟩
  · rw [cell_put4_far hk]; exact h0
  · rw [cell_put4_far hk]; exact h1
  · rw [cell_put4_far hk]; exact h2
  · rw [cell_put4_far hk]; exact h3
def lowF (L : List (Int × Dy)) : Nat → Int × Dy
  | 0 => L.getD 0 (0, (0, 0))
  | k + 1 => if extC (L.getD k (0, (0, 0))).1 (L.getD k (0, (0, 0))).2 (lowF L k).1 (lowF L k).2 < 0 then L.getD k (0, (0, 0)) else lowF L k
def highF (L : List (Int × Dy)) : Nat → Int × Dy
  | 0 => L.getD 0 (0, (0, 0))
  | k + 1 => if 0 < extC (L.getD k (0, (0, 0))).1 (L.getD k (0, (0, 0))).2 (highF L k).1 (highF L k).2 then L.getD k (0, (0, 0)) else highF L k
end Go.Ulp

set_option linter.unusedVariables false
set_option linter.unusedSimpArgs false
namespace Go.Ulp
open Go.RowKit
theorem QD.put4 {t e : TypeId} {w : World} {D : Dy} {A T : Nat} {v : Value} (h : QD t w D A T v) {g : Nat} (hs : ElemIs w g e) (hne : e ≠ t) (u0 u1 u2 u3 : Value) : QD t (put4 w g u0 u1 u2 u3) D A T v :=
  (((h.setCell hs hne _ _).setCell (hs.setCell _ _) hne _ _).setCell ((hs.setCell _ _).setCell _ _) hne _ _).setCell (((hs.setCell _ _).setCell _ _).setCell _ _) hne _ _
theorem put4_cells {te : TypeId} {w : World} {g : Nat} (h : E0 te w g) (u0 u1 u2 u3 : Value) : (put4 w g u0 u1 u2 u3).cell? ⟨g, 0, none⟩ = some u0 ∧ (put4 w g u0 u1 u2 u3).cell? ⟨g, 1, none⟩ = some u1 ∧ (put4 w g u0 u1 u2 u3).cell? ⟨g, 2, none⟩ = some u2 ∧ (put4 w g u0 u1 u2 u3).cell? ⟨g, 3, none⟩ = some u3 := by
  obtain ⟨c0, c1, c2, c3, h0, h1, h2, h3, f0, f1, f2, f3, s⟩ := h.cells
  have ne : ∀ i j : Nat, i ≠ j → (⟨g, i, none⟩ : Addr) ≠ ⟨g, j, none⟩ := fun i j hij e => hij (by injection e)
  refine ⟨?_, ?_, ?_, ?_⟩
  · unfold put4
    rw [World.cell?_setCell_other (h := ne _ _ (by decide)), World.cell?_setCell_other (h := ne _ _ (by decide)), World.cell?_setCell_other (h := ne _ _ (by decide))]
    exact World.cell?_setCell_same (w := w) _ _ h0
  · unfold put4
    rw [World.cell?_setCell_other (h := ne _ _ (by decide)), World.cell?_setCell_other (h := ne _ _ (by decide))]
    refine World.cell?_setCell_same _ _ _ (u := c1) ?_
    rw [World.cell?_setCell_other (h := ne _ _ (by decide))]; exact h1
  · unfold put4
    rw [World.cell?_setCell_other (h := ne _ _ (by decide))]
    refine World.cell?_setCell_same _ _ _ (u := c2) ?_
    rw [World.cell?_setCell_other (h := ne _ _ (by decide)), World.cell?_setCell_other (h := ne _ _ (by decide))]; exact h2
  · unfold put4
    refine World.cell?_setCell_same _ _ _ (u := c3) ?_
    rw [World.cell?_setCell_other (h := ne _ _ (by decide)), World.cell?_setCell_other (h := ne _ _ (by decide)), World.cell?_setCell_other (h := ne _ _ (by decide))]; exact h3
/-- the state of Furthest -/
def FS (ti te : TypeId) (w W : World) (g g2 g3 g4 g5 : Nat) (L : List (Int × Dy)) (a b : Int × Dy) : Prop :=
  Below w.heap.size w W ∧ XL ti W g L ∧ E0 te W g2 ∧ E0 te W g3 ∧ XE ti te W g4 a.1 a.2 6000 ∧ XE ti te W g5 b.1 b.2 6000
theorem FS.below {ti te : TypeId} {w W W' : World} {g g2 g3 g4 g5 : Nat} {L : List (Int × Dy)} {a b : Int × Dy} (h : FS ti te w W g g2 g3 g4 g5 L a b) (hb : Below W.heap.size W W') : FS ti te w W' g g2 g3 g4 g5 L a b :=
  ⟨below_trans h.1 hb, h.2.1.below hb, h.2.2.1.below hb, h.2.2.2.1.below hb, h.2.2.2.2.1.below hb, h.2.2.2.2.2.below hb⟩
theorem FS.low {ti te : TypeId} {w W : World} {g g2 g3 g4 g5 : Nat} {L : List (Int × Dy)} {a b c : Int × Dy} (h : FS ti te w W g g2 g3 g4 g5 L a b) (hne : te ≠ ti) (hw : w.heap.size ≤ g4) (n1 : g ≠ g4) (n2 : g2 ≠ g4) (n3 : g3 ≠ g4) (n5 : g5 ≠ g4)
    {n : Bool} {ao : Option Addr} {l k : Nat} {t : Int} (q : QD ti W c.2 6000 5900 (.agg #[.bool n, .slice ao l k, .int .i64 t])) :
    FS ti te w (put4 W g4 (.bool n) (.slice ao l k) (.int .i64 t) (.int .i64 c.1)) g g2 g3 g4 g5 L c b := by
  obtain ⟨h1, h2, h3, h4, h5, h6⟩ := h
  have z := h5.e0
  obtain ⟨_, _, _, _, _, _, _, _, _, _, _, _, s⟩ := z.cells
  exact ⟨h1.set4 hw _ _ _ _, h2.far s hne n1 _ _ _ _, h3.far4 n2 _ _ _ _, h4.far4 n3 _ _ _ _, XE.put z hne q, h6.far s hne n5 _ _ _ _⟩
theorem FS.high {ti te : TypeId} {w W : World} {g g2 g3 g4 g5 : Nat} {L : List (Int × Dy)} {a b c : Int × Dy} (h : FS ti te w W g g2 g3 g4 g5 L a b) (hne : te ≠ ti) (hw : w.heap.size ≤ g5) (n1 : g ≠ g5) (n2 : g2 ≠ g5) (n3 : g3 ≠ g5) (n4 : g4 ≠ g5)
    {n : Bool} {ao : Option Addr} {l k : Nat} {t : Int} (q : QD ti W c.2 6000 5900 (.agg #[.bool n, .slice ao l k, .int .i64 t])) :
    FS ti te w (put4 W g5 (.bool n) (.slice ao l k) (.int .i64 t) (.int .i64 c.1)) g g2 g3 g4 g5 L a c := by
  obtain ⟨h1, h2, h3, h4, h5, h6⟩ := h
  have z := h6.e0
  obtain ⟨_, _, _, _, _, _, _, _, _, _, _, _, s⟩ := z.cells
  exact ⟨h1.set4 hw _ _ _ _, h2.far s hne n1 _ _ _ _, h3.far4 n2 _ _ _ _, h4.far4 n3 _ _ _ _, h5.far s hne n4 _ _ _ _, XE.put z hne q⟩
end Go.Ulp
namespace Go.Proofs.YtfphmlmgjhebjaaGreatDoor
open Go.RowKit Go.Ulp
set_option linter.unusedVariables false
set_option linter.unusedSimpArgs false
set_option maxHeartbeats 4000000
set_option maxRecDepth 100000
theorem furthest_any (L : List (Int × Dy)) (g cap : Nat) (w : World) (hL : XL 3 w g L) (hn1 : 1 ≤ L.length) (hn2 : L.length ≤ 1000) :
    Calls Tryz.prog 18 #[.slice (some ⟨g, 0, none⟩) L.length cap] w fun e w' => ∃ r s, e = .returned (.tuple #[r, s]) ∧ EX 3 w' (lowF L L.length).1 (lowF L L.length).2 6000 r ∧ EX 3 w' (highF L L.length).1 (highF L L.length).2 6000 s ∧ Below w.heap.size w w' := by
  have hne : (35 : TypeId) ≠ 3 := by decide
  obtain ⟨n, hn⟩ : ∃ n, n = L.length := ⟨_, rfl⟩
  have hgw : g < w.heap.size := by
    obtain ⟨_, _, _, _, _, h0, _⟩ := hL 0 (by omega)
    exact World.block_lt_of_cell? w _ h0
  have HL := hid hL
  have HNL := hid hn
  rw [← hn] at hn1 hn2 ⊢
  clear hL hn
  go_enter Tryz.func18, Tryz.ntmps18
  go_upto_region 1 with fail
  refine wp_worldS (fun WW => Below w.heap.size w WW ∧ E0 35 WW w.heap.size ∧ E0 35 WW (w.heap.size + 1)) ⟨by (repeat' (first | (with_reducible assumption) | (with_reducible exact Below.refl _ _) | (with_reducible refine below_al ?_ _) | (with_reducible refine below_drewN ?_ _) | (with_reducible refine Below.drew ?_) | (with_reducible refine Below.alloc ?_ ?_ _) | (with_reducible refine Below.setCell ?_ ?_ _) | (refine below_trans ?_ (by assumption)) | go_size)), (E0.made9 rfl rfl).below (below_alloc _ _), E0.made9 rfl (by first | omega | (simp; done) | (simp; omega))⟩ ?_
  intro W1 ⟨y1, zR, zS⟩
  obtain ⟨g2, hg2⟩ : ∃ g, g = w.heap.size := ⟨_, rfl⟩
  obtain ⟨g3, hg3⟩ : ∃ g, g = w.heap.size + 1 := ⟨_, rfl⟩
  have b2 : w.heap.size ≤ g2 := by omega
  have b3 : w.heap.size ≤ g3 := by omega
  have n23 : g2 ≠ g3 := by omega
  have ng2 : g ≠ g2 := by omega
  have ng3 : g ≠ g3 := by omega
  rw [← hg3] at zS ⊢
  rw [← hg2] at zR ⊢
  clear hg2 hg3
  have HX := hid (HL.out.below y1)
  obtain ⟨n0, a0, l0, c0, t0, p0, p1, p2, p3, q0⟩ := HX.out 0 (by rw [← HNL.out]; exact hn1)
  rw [show 0 * 4 = 0 from rfl] at p0 p1 p2 p3
  obtain ⟨A0, hA0⟩ : ∃ A, A = L.getD 0 (0, (0, 0)) := ⟨_, rfl⟩
  rw [← hA0] at p3 q0
  have zX : XV W1 g (.bool n0) (.slice a0 l0 c0) (.int .i64 t0) (.int .i64 A0.1) := ⟨p0, p1, p2, p3⟩
  have hnn : (0 : Int) < (n : Int) := by omega
  have HQ0 := hid q0
  clear p0 p1 p2 p3 q0
  obtain ⟨j0, j1, j2, j3⟩ := id zX
  have hn0 : 0 < n := by omega
  go_cut [4, 5] (fun s4 s5 wx => ∃ g4 g5, s4 = .pointer (some ⟨g4, 0, none⟩) ∧ s5 = .pointer (some ⟨g5, 0, none⟩) ∧ g4 ≠ g5 ∧ W1.heap.size ≤ g4 ∧ W1.heap.size ≤ g5 ∧ Below W1.heap.size W1 wx ∧ XE 3 35 wx g4 A0.1 A0.2 6000 ∧ XE 3 35 wx g5 A0.1 A0.2 6000)
  case first => as_aux_lemma =>
    have gW : g < W1.heap.size := World.block_lt_of_cell? _ _ j0
    have m1 : ¬ g = W1.heap.size := by omega
    have m2 : ¬ W1.heap.size = g := by omega
    have m3 : ¬ g = W1.heap.size + 1 := by omega
    have m4 : ¬ W1.heap.size + 1 = g := by omega
    have q0 := HQ0.out
    have t1 : XE 3 35 ((W1.alloc (.cells #[.bool n0, .slice a0 l0 c0, .int .i64 t0, .int .i64 A0.1] 35)).alloc (.cells #[.bool n0, .slice a0 l0 c0, .int .i64 t0, .int .i64 A0.1] 35)) W1.heap.size A0.1 A0.2 6000 := (XE.made rfl q0).below (below_alloc _ _)
    have t2 : XE 3 35 ((W1.alloc (.cells #[.bool n0, .slice a0 l0 c0, .int .i64 t0, .int .i64 A0.1] 35)).alloc (.cells #[.bool n0, .slice a0 l0 c0, .int .i64 t0, .int .i64 A0.1] 35)) (W1.heap.size + 1) A0.1 A0.2 6000 := XE.made (by first | omega | (simp; done) | (simp; omega)) (q0.below (below_alloc _ _))
    have T := hid (And.intro (t1.below (Below.refl _ _).drew) (t2.below (Below.refl _ _).drew))
    clear HL HNL HX zX zR zS hA0 q0 t1 t2
    go_region
    · rename_i J K hJ hK
      refine hK _ _ (Met.intro ?_)
      refine hJ _ _ ?_
      (repeat apply Exists.intro)
      refine ⟨?_, rfl⟩
      exact ⟨_, _, rfl, rfl, by omega, by omega, by omega, by (repeat' (first | (with_reducible assumption) | (with_reducible exact Below.refl _ _) | (with_reducible refine below_al ?_ _) | (with_reducible refine below_drewN ?_ _) | (with_reducible refine Below.drew ?_) | (with_reducible refine Below.alloc ?_ ?_ _) | (with_reducible refine Below.setCell ?_ ?_ _) | (refine below_trans ?_ (by assumption)) | go_size)), T.out.1, T.out.2⟩
    · rename_i J K hJ hK
      refine hK _ _ (Met.intro ?_)
      refine hJ _ _ ?_
      (repeat apply Exists.intro)
      refine ⟨?_, rfl⟩
      exact ⟨_, _, rfl, rfl, by omega, by omega, by omega, by (repeat' (first | (with_reducible assumption) | (with_reducible exact Below.refl _ _) | (with_reducible refine below_al ?_ _) | (with_reducible refine below_drewN ?_ _) | (with_reducible refine Below.drew ?_) | (with_reducible refine Below.alloc ?_ ?_ _) | (with_reducible refine Below.setCell ?_ ?_ _) | (refine below_trans ?_ (by assumption)) | go_size)), T.out.2, T.out.1⟩
  case rest =>
  obtain ⟨g4, g5, rfl, rfl, n45, b4', b5', yb, z4, z5⟩ := hcut
  obtain ⟨W2, hW2⟩ : ∃ W, W = wc := ⟨_, rfl⟩
  subst hW2
  have gW : g < W1.heap.size := World.block_lt_of_cell? _ _ j0
  have l2 := zR.lt
  have l3 := zS.lt
  have FS0 : FS 3 35 w W2 g g2 g3 g4 g5 L (lowF L 0) (highF L 0) := by
    refine ⟨below_trans y1 yb, HX.out.below yb, zR.below yb, zS.below yb, ?_, ?_⟩
    · show XE _ _ W2 g4 (L.getD 0 (0, (0, 0))).1 (L.getD 0 (0, (0, 0))).2 6000
      rw [← hA0]; exact z4
    · show XE _ _ W2 g5 (L.getD 0 (0, (0, 0))).1 (L.getD 0 (0, (0, 0))).2 6000
      rw [← hA0]; exact z5
  have b4 : w.heap.size ≤ g4 := by have := y1.size; omega
  have b5 : w.heap.size ≤ g5 := by have := y1.size; omega
  have e1 : g ≠ g4 := by omega
  have e2 : g ≠ g5 := by omega
  have e3 : g2 ≠ g4 := by omega
  have e4 : g2 ≠ g5 := by omega
  have e5 : g3 ≠ g4 := by omega
  have e6 : g3 ≠ g5 := by omega
  have HFS0 := hid FS0
  clear FS0 z4 z5 yb b4' b5' zR zS HX HQ0 hA0 zX j0 j1 j2 j3 gW l2 l3 y1 HL
  go_wp2_with fail
  go_loopw [16] (fun s16 wr => ∃ k : Nat, s16 = .int .i64 (k : Int) ∧ k ≤ n ∧ FS 3 35 w wr g g2 g3 g4 g5 L (lowF L k) (highF L k)) (fun s16 _ => n - (intOf s16).toNat)
  case atStart => exact ⟨0, rfl, by omega, HFS0.out⟩
  case round =>
    obtain ⟨k, rfl, hk, fs⟩ := hrel
    clear HFS0
    by_cases hkn : k < n
    · obtain ⟨n1, a1, l1, c1, t1, p0, p1, p2, p3, q1⟩ := fs.2.1 k (by rw [← HNL.out]; exact hkn)
      obtain ⟨A, hA⟩ : ∃ A, A = L.getD k (0, (0, 0)) := ⟨_, rfl⟩
      rw [← hA] at p3 q1
      have gk : (k : Int) < (n : Int) := by omega
      have wI : IntKind.i64.wrap ((k : Int) + 1) = (k : Int) + 1 := IntWalk.i64_in _ (by omega)
      obtain ⟨a, ha⟩ : ∃ a, a = lowF L k := ⟨_, rfl⟩
      obtain ⟨b, hb⟩ : ∃ b, b = highF L k := ⟨_, rfl⟩
      rw [← ha, ← hb] at fs
      obtain ⟨r1, hr1⟩ : ∃ r, r = extC A.1 A.2 a.1 a.2 := ⟨_, rfl⟩
      obtain ⟨r2, hr2⟩ : ∃ r, r = extC A.1 A.2 b.1 b.2 := ⟨_, rfl⟩
      obtain ⟨a', ha'⟩ : ∃ a', a' = lowF L (k + 1) := ⟨_, rfl⟩
      obtain ⟨b', hb'⟩ : ∃ b', b' = highF L (k + 1) := ⟨_, rfl⟩
      have sa : a' = if r1 < 0 then A else a := by rw [ha', hr1, ha, hA]; rfl
      have sb : b' = if 0 < r2 then A else b := by rw [hb', hr2, hb, hA]; rfl
      have EC1 := hid (fun v u W hv hu => extCmpX_any v u A.1 a.1 A.2 a.2 W hv hu)
      have EC2 := hid (fun v u W hv hu => extCmpX_any v u A.1 b.1 A.2 b.2 W hv hu)
      rw [← hr1] at EC1
      rw [← hr2] at EC2
      have SA := hid sa
      have SB := hid sb
      have HA' := hid ha'
      have HB' := hid hb'
      have HFS := hid fs
      have HQ1 := hid q1
      have l4 := fs.2.2.2.2.1.lt
      have l5 := fs.2.2.2.2.2.lt
      clear ha hb hr1 hr2 ha' hb' hA sa sb fs q1
      go_upto_region 5 with fail
      refine wp_worldS (fun WW => FS 3 35 w WW g g2 g3 g4 g5 L a b ∧ XE 3 35 WW wr.heap.size A.1 A.2 6000) ⟨HFS.out.below (below_alloc _ _), XE.made rfl HQ1.out⟩ ?_
      intro W3 ⟨fs3, z7⟩
      obtain ⟨g7, hg7⟩ : ∃ g, g = wr.heap.size := ⟨_, rfl⟩
      have n74 : g7 ≠ g4 := by omega
      have n75 : g7 ≠ g5 := by omega
      rw [← hg7] at z7 ⊢
      clear hg7 l4 l5 HFS HQ1 p0 p1 p2 p3
      obtain ⟨n7, ao7, l7, c7, t7, i0, i1, i2, i3, -, -, -, -, -, q7⟩ := id z7
      obtain ⟨n4, ao4, m4, c4, t4, k0, k1, k2, k3, -, -, -, -, -, q4⟩ := id fs3.2.2.2.2.1
      have HZ7 := hid z7
      have HF3 := hid fs3
      have H7 := hid (show EX 3 W3 A.1 A.2 6000 (.agg #[.bool n7, .slice ao7 l7 c7, .int .i64 t7, .int .i64 A.1]) from ⟨_, _, _, _, _, rfl, q7⟩)
      have H4 := hid (show EX 3 W3 a.1 a.2 6000 (.agg #[.bool n4, .slice ao4 m4 c4, .int .i64 t4, .int .i64 a.1]) from ⟨_, _, _, _, _, rfl, q4⟩)
      clear z7 fs3 q7 q4
      go_upto_if 23 with (go_at_call 52; (with_reducible refine (EC1.out _ _ _ H7.out H4.out).mono ?_); rintro en w4 ⟨rfl, hb4⟩)
      have HZ72 := hid (HZ7.out.below hb4)
      have HF4 := hid (HF3.out.below hb4)
      obtain ⟨W4, hW4⟩ : ∃ W, W = w4 := ⟨_, rfl⟩
      subst hW4
      clear hb4 HZ7 HF3 H7 H4 EC1 i0 i1 i2 i3 k0 k1 k2 k3
      go_cut [] (fun wx => FS 3 35 w wx g g2 g3 g4 g5 L a' b ∧ XE 3 35 wx g7 A.1 A.2 6000)
      case first => as_aux_lemma =>
        have sa := SA.out
        by_cases h0 : r1 < 0
        · rw [if_pos h0] at sa
          have S9 := hid sa
          clear sa
          have z4 := HF4.out.2.2.2.2.1.e0
          obtain ⟨n7, ao7, l7, c7, t7, i0, i1, i2, i3, -, -, -, -, -, q7⟩ := id HZ72.out
          obtain ⟨x0, x1, x2, x3, k0, k1, k2, k3, f0, f1, f2, f3, s5⟩ := z4.cells
          have T := hid (And.intro (HF4.out.low hne b4 e1 e3 e5 n45.symm q7) (HZ72.out.far s5 hne n74 (.bool n7) (.slice ao7 l7 c7) (.int .i64 t7) (.int .i64 A.1)))
          clear SA SB HA' HB' EC2 HF4 HZ72 z4 q7 s5 HNL
          go_wp2_with fail
          go_meet
          rw [S9.out]; exact T.out
        · rw [if_neg h0] at sa
          have S9 := hid sa
          clear sa
          have T := hid (And.intro HF4.out HZ72.out)
          clear SA SB HA' HB' EC2 HF4 HZ72 HNL
          go_wp2_with fail
          go_meet
          rw [S9.out]; exact T.out
      case rest =>
      obtain ⟨fs5, z75⟩ := hcut
      obtain ⟨W5, hW5⟩ : ∃ W, W = wc := ⟨_, rfl⟩
      subst hW5
      clear HF4 HZ72 SA
      obtain ⟨n7, ao7, l7, c7, t7, i0, i1, i2, i3, -, -, -, -, -, q7⟩ := id z75
      obtain ⟨n4, ao4, m4, c4, t4, k0, k1, k2, k3, -, -, -, -, -, q4⟩ := id fs5.2.2.2.2.2
      have HZ7 := hid z75
      have HF3 := hid fs5
      have H7 := hid (show EX 3 W5 A.1 A.2 6000 (.agg #[.bool n7, .slice ao7 l7 c7, .int .i64 t7, .int .i64 A.1]) from ⟨_, _, _, _, _, rfl, q7⟩)
      have H4 := hid (show EX 3 W5 b.1 b.2 6000 (.agg #[.bool n4, .slice ao4 m4 c4, .int .i64 t4, .int .i64 b.1]) from ⟨_, _, _, _, _, rfl, q4⟩)
      clear z75 fs5 q7 q4
      go_upto_if 28 with (go_at_call 52; (with_reducible refine (EC2.out _ _ _ H7.out H4.out).mono ?_); rintro en w4 ⟨rfl, hb4⟩)
      have HZ72 := hid (HZ7.out.below hb4)
      have HF4 := hid (HF3.out.below hb4)
      obtain ⟨W4, hW4⟩ : ∃ W, W = w4 := ⟨_, rfl⟩
      subst hW4
      clear hb4 HZ7 HF3 H7 H4 EC2 i0 i1 i2 i3 k0 k1 k2 k3
      have sb := SB.out
      by_cases h0 : 0 < r2
      · rw [if_pos h0] at sb
        have S9 := hid sb
        have z4 := HF4.out.2.2.2.2.2.e0
        obtain ⟨n7, ao7, l7, c7, t7, i0, i1, i2, i3, -, -, -, -, -, q7⟩ := id HZ72.out
        obtain ⟨x0, x1, x2, x3, k0, k1, k2, k3, f0, f1, f2, f3, s5⟩ := z4.cells
        have T := hid (HF4.out.high hne b5 e2 e4 e6 n45 q7)
        clear SB HF4 HZ72 z4 q7 s5 sb
        go_wp2_with fail
        go_roundw
        case rel => exact ⟨k + 1, by go_num, by omega, by rw [← HA'.out, ← HB'.out, S9.out]; exact T.out⟩
        case measure => simp [intOf]; omega
      · rw [if_neg h0] at sb
        have S9 := hid sb
        have T := hid HF4.out
        clear SB HF4 HZ72 sb
        go_wp2_with fail
        go_roundw
        case rel => exact ⟨k + 1, by go_num, by omega, by rw [← HA'.out, ← HB'.out, S9.out]; exact T.out⟩
        case measure => simp [intOf]; omega
    · have hkn2 : k = n := by omega
      subst hkn2
      have gk : ¬ (k : Int) < (k : Int) := by omega
      obtain ⟨a, ha⟩ : ∃ a, a = lowF L k := ⟨_, rfl⟩
      obtain ⟨b, hb⟩ : ∃ b, b = highF L k := ⟨_, rfl⟩
      rw [← ha, ← hb] at fs
      have HAE := hid ha
      have HBE := hid hb
      clear ha hb HNL
      obtain ⟨y9, -, z2, z3, z4, z5⟩ := fs
      obtain ⟨n4, ao4, m4, c4, t4, i0, i1, i2, i3, -, -, -, -, -, q4⟩ := z4
      obtain ⟨n5, ao5, m5, c5, t5, p0, p1, p2, p3, -, -, -, -, -, q5⟩ := z5
      obtain ⟨x0, x1, x2, x3, k0, k1, k2, k3, f0, f1, f2, f3, s2⟩ := z2.cells
      obtain ⟨u0, u1, u2, u3, h0, h1, h2, h3, v0, v1, v2, v3, s3⟩ := z3.cells
      have T := hid (show EX 3 (put4 (put4 wr g2 (.bool n4) (.slice ao4 m4 c4) (.int .i64 t4) (.int .i64 a.1)) g3 (.bool n5) (.slice ao5 m5 c5) (.int .i64 t5) (.int .i64 b.1)).drew a.1 a.2 6000 (.agg #[.bool n4, .slice ao4 m4 c4, .int .i64 t4, .int .i64 a.1]) ∧ EX 3 (put4 (put4 wr g2 (.bool n4) (.slice ao4 m4 c4) (.int .i64 t4) (.int .i64 a.1)) g3 (.bool n5) (.slice ao5 m5 c5) (.int .i64 t5) (.int .i64 b.1)).drew b.1 b.2 6000 (.agg #[.bool n5, .slice ao5 m5 c5, .int .i64 t5, .int .i64 b.1]) from
        ⟨⟨_, _, _, _, _, rfl, ((q4.put4 s2 hne _ _ _ _).put4 (s3.set4 _ _ _ _) hne _ _ _ _).below (Below.refl _ _).drew⟩, ⟨_, _, _, _, _, rfl, ((q5.put4 s2 hne _ _ _ _).put4 (s3.set4 _ _ _ _) hne _ _ _ _).below (Below.refl _ _).drew⟩⟩)
      have Y := hid ((y9.set4 b2 (.bool n4) (.slice ao4 m4 c4) (.int .i64 t4) (.int .i64 a.1)).set4 b3 (.bool n5) (.slice ao5 m5 c5) (.int .i64 t5) (.int .i64 b.1)).drew
      have r1 : ¬ g4 = g2 := fun h => e3 h.symm
      have r2 : ¬ g4 = g3 := fun h => e5 h.symm
      have r3 : ¬ g5 = g2 := fun h => e4 h.symm
      have r4 : ¬ g5 = g3 := fun h => e6 h.symm
      have r5 : ¬ g3 = g2 := fun h => n23 h.symm
      obtain ⟨c20, c21, c22, c23⟩ := put4_cells z2 (.bool n4) (.slice ao4 m4 c4) (.int .i64 t4) (.int .i64 a.1)
      obtain ⟨c30, c31, c32, c33⟩ := put4_cells (z3.far4 n23.symm (.bool n4) (.slice ao4 m4 c4) (.int .i64 t4) (.int .i64 a.1)) (.bool n5) (.slice ao5 m5 c5) (.int .i64 t5) (.int .i64 b.1)
      replace c20 := (cell_put4_far (u0 := .bool n5) (u1 := .slice ao5 m5 c5) (u2 := .int .i64 t5) (u3 := .int .i64 b.1) n23).trans c20
      replace c21 := (cell_put4_far (u0 := .bool n5) (u1 := .slice ao5 m5 c5) (u2 := .int .i64 t5) (u3 := .int .i64 b.1) n23).trans c21
      replace c22 := (cell_put4_far (u0 := .bool n5) (u1 := .slice ao5 m5 c5) (u2 := .int .i64 t5) (u3 := .int .i64 b.1) n23).trans c22
      replace c23 := (cell_put4_far (u0 := .bool n5) (u1 := .slice ao5 m5 c5) (u2 := .int .i64 t5) (u3 := .int .i64 b.1) n23).trans c23
      unfold put4 at c20 c21 c22 c23 c30 c31 c32 c33
      have CC := hid (And.intro c20 (And.intro c21 (And.intro c22 (And.intro c23 (And.intro c30 (And.intro c31 (And.intro c32 c33)))))))
      clear q4 q5 s2 s3 z2 z3 y9 c20 c21 c22 c23 c30 c31 c32 c33
      go_upto_region 10 with fail
      go_region
      rename_i K hK
      refine hK _ _ ?_
      refine wp_ret ?_
      obtain ⟨c20, c21, c22, c23, c30, c31, c32, c33⟩ := CC.out
      refine bodyPost_ret (by simp [results, Tryz.results18, go_sem, c20, c21, c22, c23, c30, c31, c32, c33]; try rfl) rfl ?_
      rw [← HAE.out, ← HBE.out]
      exact ⟨_, _, rfl, T.out.1, T.out.2, Y.out⟩
end Go.Proofs.YtfphmlmgjhebjaaGreatDoor

set_option linter.unusedVariables false
set_option linter.unusedSimpArgs false
namespace Go.Ulp
open Go.RowKit
theorem plain_rank (x : Int) : rankOf (plainOf x) = rankOf x := by
  unfold plainOf
  split
  · rename_i h; rw [h]; rfl
  · rfl
theorem plain_of_rank {x y : Int} (hx : U64 x) (hy : U64 y) (h : rankOf x = rankOf y) : plainOf x = plainOf y := by
  obtain ⟨x0, x1⟩ := hx
  obtain ⟨y0, y1⟩ := hy
  unfold rankOf at h
  unfold plainOf
  split at h <;> split at h <;> split <;> split <;> omega
theorem rX_rank_bd (D : Dy) (mode : Int) (hm : mode = 1 ∨ mode = 2) : -9218868437227405312 ≤ rankOf (rX D mode) ∧ rankOf (rX D mode) ≤ 9218868437227405312 := by
  obtain ⟨s, hs⟩ : ∃ s : Nat, 0 ≤ D.2 + 1074 + s := ⟨(-D.2).toNat, by omega⟩
  have r := rX_rnd D s hs mode (by omega) (by omega)
  rcases hm with e | e <;> subst e
  · obtain ⟨l, ⟨l1, l2, -, -⟩, h⟩ := rnd_up r
    rw [h]; split <;> omega
  · obtain ⟨l, ⟨l1, l2, -, -⟩, h⟩ := rnd_dn r
    rw [h]; omega
theorem outX_inf (way : Int) (D : Dy) (mode : Int) (hw : way = 1 ∨ way = -1) : rankOf (outX way D mode) = way * 9218868437227405312 := by
  rcases hw with e | e <;> subst e <;> rfl
theorem outX_fin (D : Dy) (mode : Int) : rankOf (outX 0 D mode) = rankOf (rX D mode) := by
  show rankOf (plainOf (rX D mode)) = _
  exact plain_rank _
theorem outX_mono (w1 w2 : Int) (D E : Dy) (mode : Int) (hm : mode = 1 ∨ mode = 2) (hw1 : w1 = 0 ∨ w1 = 1 ∨ w1 = -1) (hw2 : w2 = 0 ∨ w2 = 1 ∨ w2 = -1) (hD : IsN D) (hE : IsN E) (h : extC w1 D w2 E ≤ 0) :
    rankOf (outX w1 D mode) ≤ rankOf (outX w2 E mode) := by
  have bD := rX_rank_bd D mode hm
  have bE := rX_rank_bd E mode hm
  unfold extC at h
  rcases hw1 with e | e | e <;> rcases hw2 with e' | e' | e' <;> subst e <;> subst e'
  · rw [outX_fin, outX_fin]
    exact rX_mono D E hD hE h mode hm
  · rw [outX_fin, outX_inf _ _ _ (.inl rfl)]; omega
  · exfalso; rw [if_pos (by decide), if_neg (by decide)] at h; omega
  · exfalso; rw [if_pos (by decide), if_neg (by decide)] at h; omega
  · rw [outX_inf _ _ _ (.inl rfl), outX_inf _ _ _ (.inl rfl)]; omega
  · exfalso; rw [if_pos (by decide), if_neg (by decide)] at h; omega
  · rw [outX_fin, outX_inf _ _ _ (.inr rfl)]; omega
  · rw [outX_inf _ _ _ (.inr rfl), outX_inf _ _ _ (.inl rfl)]; omega
  · rw [outX_inf _ _ _ (.inr rfl), outX_inf _ _ _ (.inr rfl)]; omega
theorem cmpD_swap (D E : Dy) : cmpD E D = -cmpD D E := by
  unfold cmpD
  rw [Int.min_comm E.2 D.2]
  unfold cmpI
  split <;> split <;> (try split) <;> (try split) <;> omega
theorem extC_swap (w1 w2 : Int) (D E : Dy) : extC w2 E w1 D = -extC w1 D w2 E := by
  unfold extC
  by_cases h : w1 = w2
  · subst h
    simp only [ne_eq, not_true_eq_false, if_false]
    by_cases h0 : w1 = 0
    · rw [if_neg (fun k => k h0), if_neg (fun k => k h0)]; exact cmpD_swap D E
    · rw [if_pos h0, if_pos h0]; rfl
  · rw [if_pos (fun e => h e.symm), if_pos h]
    split <;> split <;> omega
/-- what may stand in a row -/
def XOk (a : Int × Dy) : Prop := (a.1 = 0 ∨ a.1 = 1 ∨ a.1 = -1) ∧ IsN a.2
theorem lowF_ok (L : List (Int × Dy)) (hn : 1 ≤ L.length) (h : ∀ j, j < L.length → XOk (L.getD j (0, (0, 0)))) : ∀ k, k ≤ L.length → XOk (lowF L k)
  | 0, _ => h 0 (by omega)
  | k + 1, hk => by
    show XOk (if _ then _ else _)
    split
    · exact h k (by omega)
    · exact lowF_ok L hn h k (by omega)
theorem highF_ok (L : List (Int × Dy)) (hn : 1 ≤ L.length) (h : ∀ j, j < L.length → XOk (L.getD j (0, (0, 0)))) : ∀ k, k ≤ L.length → XOk (highF L k)
  | 0, _ => h 0 (by omega)
  | k + 1, hk => by
    show XOk (if _ then _ else _)
    split
    · exact h k (by omega)
    · exact highF_ok L hn h k (by omega)
def rkO (mode : Int) (a : Int × Dy) : Int := rankOf (outX a.1 a.2 mode)
theorem lowF_step (L : List (Int × Dy)) (hn : 1 ≤ L.length) (h : ∀ j, j < L.length → XOk (L.getD j (0, (0, 0)))) (mode : Int) (hm : mode = 1 ∨ mode = 2) (k : Nat) (hk : k < L.length) :
    rkO mode (lowF L (k + 1)) = min (rkO mode (L.getD k (0, (0, 0)))) (rkO mode (lowF L k)) := by
  obtain ⟨a1, a2⟩ := h k hk
  obtain ⟨b1, b2⟩ := lowF_ok L hn h k (by omega)
  show rkO mode (if extC (L.getD k (0, (0, 0))).1 (L.getD k (0, (0, 0))).2 (lowF L k).1 (lowF L k).2 < 0 then _ else _) = _
  have s := extC_swap (L.getD k (0, (0, 0))).1 (lowF L k).1 (L.getD k (0, (0, 0))).2 (lowF L k).2
  split
  · rename_i hc
    have m1 : rkO mode (L.getD k (0, (0, 0))) ≤ rkO mode (lowF L k) := outX_mono _ _ _ _ mode hm a1 b1 a2 b2 (by omega)
    omega
  · rename_i hc
    have m1 : rkO mode (lowF L k) ≤ rkO mode (L.getD k (0, (0, 0))) := outX_mono _ _ _ _ mode hm b1 a1 b2 a2 (by omega)
    omega
theorem highF_step (L : List (Int × Dy)) (hn : 1 ≤ L.length) (h : ∀ j, j < L.length → XOk (L.getD j (0, (0, 0)))) (mode : Int) (hm : mode = 1 ∨ mode = 2) (k : Nat) (hk : k < L.length) :
    rkO mode (highF L (k + 1)) = max (rkO mode (L.getD k (0, (0, 0)))) (rkO mode (highF L k)) := by
  obtain ⟨a1, a2⟩ := h k hk
  obtain ⟨b1, b2⟩ := highF_ok L hn h k (by omega)
  show rkO mode (if 0 < extC (L.getD k (0, (0, 0))).1 (L.getD k (0, (0, 0))).2 (highF L k).1 (highF L k).2 then _ else _) = _
  have s := extC_swap (L.getD k (0, (0, 0))).1 (highF L k).1 (L.getD k (0, (0, 0))).2 (highF L k).2
  split
  · rename_i hc
    have m1 : rkO mode (highF L k) ≤ rkO mode (L.getD k (0, (0, 0))) := outX_mono _ _ _ _ mode hm b1 a1 b2 a2 (by omega)
    omega
  · rename_i hc
    have m1 : rkO mode (L.getD k (0, (0, 0))) ≤ rkO mode (highF L k) := outX_mono _ _ _ _ mode hm a1 b1 a2 b2 (by omega)
    omega
end Go.Ulp

set_option linter.unusedVariables false
set_option linter.unusedSimpArgs false
namespace Go.Ulp
open Go.RowKit
theorem ext_sign (x : Int) (h0 : 0 ≤ x) (h1 : x < 18446744073709551616) (c5 : classOf x ≠ 5) (c1 : classOf x ≠ 1) : extS (exW x) (exD x) = if negB x = true then -1 else 1 := by
  cases hv : valB x
  · have eW : exW x = if negB x = true then -1 else 1 := by unfold exW; rw [hv]; rfl
    unfold extS
    rw [if_pos (by rw [eW]; split <;> omega), eW]
  · have eW : exW x = 0 := by unfold exW; rw [hv]; rfl
    have eD : exD x = fv x := by unfold exD; rw [hv]; rfl
    rw [eW, eD]
    unfold extS
    rw [if_neg (fun h => h rfl)]
    have h := cmp_fv x 0 h0 h1 (by omega) (by omega)
    rw [show fv 0 = (0, 0) from rfl, show rankOf 0 = 0 from rfl] at h
    rw [h]
    have hz := zero_iff x h0 h1
    have hb := class_val x h0 h1
    have hn : absOf x ≠ 0 := fun k => c1 (hz.2 k)
    have hr : (negB x = true → rankOf x < 0) ∧ (negB x = false → 0 < rankOf x) := by
      unfold negB rankOf; unfold absOf at hn
      refine ⟨fun k => ?_, fun k => ?_⟩
      · have k := of_decide_eq_true k; rw [if_pos k]; omega
      · have k := of_decide_eq_false k; rw [if_neg k]; omega
    unfold cmpI
    cases hg : negB x
    · have := hr.2 hg; rw [if_neg (by omega), if_pos (by omega)]; rfl
    · have := hr.1 hg; rw [if_pos (by omega)]; rfl
theorem ext_zero (x : Int) (h : x = 0) : extS (exW x) (exD x) = 0 := by subst h; rfl
end Go.Ulp
namespace Go.Proofs.YtfphmlmgjhebjaaGreatDoor
open Go.RowKit Go.Ulp
set_option linter.unusedVariables false
set_option linter.unusedSimpArgs false
theorem mul_out (x y : Nat) (hx : x < 18446744073709551616) (hy : y < 18446744073709551616) (cx : classOf (x : Int) ≠ 5) (cy : classOf (y : Int) ≠ 5) (zx : (x : Int) ≠ 9223372036854775808) (zy : (y : Int) ≠ 9223372036854775808) (mode : Int) :
    rankOf (mulR x y mode) = rankOf (outX (mulW (exW (x : Int)) (exD (x : Int)) (exW (y : Int)) (exD (y : Int))) (mulE (exW (x : Int)) (exD (x : Int)) (exW (y : Int)) (exD (y : Int))) mode) := by
  by_cases h0 : x = 0 ∨ y = 0
  · have hs : mulS (exW (x : Int)) (exD (x : Int)) (exW (y : Int)) (exD (y : Int)) = 0 := by
      unfold mulS
      rcases h0 with h | h
      · rw [ext_zero (x : Int) (by omega), Int.zero_mul]
      · rw [ext_zero (y : Int) (by omega), Int.mul_zero]
    unfold mulR mulW mulE
    rw [if_pos h0, if_pos hs, if_pos hs]
    show rankOf 0 = rankOf (plainOf (rX (0, 0) mode))
    rw [rX_none]; rfl
  · have nx : classOf (x : Int) ≠ 1 := fun h => by
      have := (zero_iff (x : Int) (by omega) (by omega)).1 h
      unfold absOf at this; omega
    have ny : classOf (y : Int) ≠ 1 := fun h => by
      have := (zero_iff (y : Int) (by omega) (by omega)).1 h
      unfold absOf at this; omega
    have sx := ext_sign (x : Int) (by omega) (by omega) cx nx
    have sy := ext_sign (y : Int) (by omega) (by omega) cy ny
    have hs : mulS (exW (x : Int)) (exD (x : Int)) (exW (y : Int)) (exD (y : Int)) = if sgx (x : Int) (y : Int) = true then -1 else 1 := by
      unfold mulS sgx
      rw [sx, sy]
      cases negB (x : Int) <;> cases negB (y : Int) <;> rfl
    have hs0 : ¬ mulS (exW (x : Int)) (exD (x : Int)) (exW (y : Int)) (exD (y : Int)) = 0 := by rw [hs]; split <;> omega
    unfold mulR mulW mulE
    rw [if_neg h0, if_neg hs0, if_neg hs0]
    obtain ⟨kx1, kx2⟩ := val_kinds (x : Int)
    obtain ⟨ky1, ky2⟩ := val_kinds (y : Int)
    have ix : isZer (x : Int) = false := by unfold isZer; exact beq_eq_false_iff_ne.2 nx
    have iy : isZer (y : Int) = false := by unfold isZer; exact beq_eq_false_iff_ne.2 ny
    have xn : isNan (x : Int) = false := by cases vx : valB (x : Int); exact (kx2 vx cx).1; exact (kx1 vx).1
    have yn : isNan (y : Int) = false := by cases vy : valB (y : Int); exact (ky2 vy cy).1; exact (ky1 vy).1
    have wx : valB (x : Int) = true → exW (x : Int) = 0 := fun h => by unfold exW; rw [h]; rfl
    have wy : valB (y : Int) = true → exW (y : Int) = 0 := fun h => by unfold exW; rw [h]; rfl
    have wx2 : valB (x : Int) = false → exW (x : Int) ≠ 0 := fun h => by unfold exW; rw [h, if_neg (by decide)]; split <;> omega
    have wy2 : valB (y : Int) = false → exW (y : Int) ≠ 0 := fun h => by unfold exW; rw [h, if_neg (by decide)]; split <;> omega
    by_cases hf : valB (x : Int) = true ∧ valB (y : Int) = true
    · obtain ⟨vx, vy⟩ := hf
      have hk : kindP (x : Int) (y : Int) = 3 := by
        unfold kindP kP
        rw [xn, yn, ix, iy, (kx1 vx).2, (ky1 vy).2]; rfl
      rw [hk, if_neg (fun h => h.elim (fun k => k (wx vx)) (fun k => k (wy vy))), if_neg (fun h => h.elim (fun k => k (wx vx)) (fun k => k (wy vy)))]
      rw [show exD (x : Int) = fv (x : Int) by unfold exD; rw [vx]; rfl, show exD (y : Int) = fv (y : Int) by unfold exD; rw [vy]; rfl, outX_fin]
      rfl
    · have hw : exW (x : Int) ≠ 0 ∨ exW (y : Int) ≠ 0 := by
        cases vx : valB (x : Int)
        · exact .inl (wx2 vx)
        · cases vy : valB (y : Int)
          · exact .inr (wy2 vy)
          · exact absurd ⟨vx, vy⟩ hf
      have hi : (isInf (x : Int) || isInf (y : Int)) = true := by
        cases vx : valB (x : Int)
        · rw [(kx2 vx cx).2]; rfl
        · cases vy : valB (y : Int)
          · rw [(ky2 vy cy).2, Bool.or_true]
          · exact absurd ⟨vx, vy⟩ hf
      have hk : kindP (x : Int) (y : Int) = 1 := by
        unfold kindP kP
        rw [xn, yn, ix, iy, hi, Bool.and_false, Bool.false_and]; rfl
      rw [hk, if_pos hw, if_pos hw, hs]
      show rankOf (infX (sgx (x : Int) (y : Int))) = _
      cases sgx (x : Int) (y : Int)
      · rw [if_neg (by decide), outX_inf _ _ _ (.inl rfl)]; rfl
      · rw [if_pos rfl, outX_inf _ _ _ (.inr rfl)]; rfl
end Go.Proofs.YtfphmlmgjhebjaaGreatDoor

set_option linter.unusedVariables false
set_option linter.unusedSimpArgs false
namespace Go.Ulp
open Go.RowKit
theorem class_of_rank (x : Int) (hx : U64 x) (h : -9218868437227405312 ≤ rankOf x ∧ rankOf x ≤ 9218868437227405312) : classOf x ≠ 5 := fun h5 => by
  have k := (class_nan x hx.1 hx.2).1 h5
  obtain ⟨h0, h1⟩ := hx
  unfold absOf at k
  unfold rankOf at h
  split at h <;> omega
theorem outX_rank_bd (way : Int) (D : Dy) (mode : Int) (hm : mode = 1 ∨ mode = 2) (hw : way = 0 ∨ way = 1 ∨ way = -1) : -9218868437227405312 ≤ rankOf (outX way D mode) ∧ rankOf (outX way D mode) ≤ 9218868437227405312 := by
  rcases hw with e | e | e
  · subst e; rw [outX_fin]; exact rX_rank_bd D mode hm
  · rw [outX_inf _ _ _ (.inl e)]; omega
  · rw [outX_inf _ _ _ (.inr e)]; omega
theorem outX_u64 (way : Int) (D : Dy) (mode : Int) : U64 (outX way D mode) := by
  unfold outX
  split
  · unfold sgb; split <;> exact ⟨by omega, by omega⟩
  · have := rX_bd D mode
    unfold plainOf; split
    · exact ⟨by omega, by omega⟩
    · exact this
theorem outX_plain (way : Int) (D : Dy) (mode : Int) : plainOf (outX way D mode) = outX way D mode := by
  unfold outX
  split
  · unfold sgb plainOf; split <;> (rw [if_neg]; omega)
  · unfold plainOf; split
    · rfl
    · rfl
end Go.Ulp
namespace Go.Proofs.YtfphmlmgjhebjaaGreatDoor
open Go.RowKit Go.Ulp
set_option linter.unusedVariables false
set_option linter.unusedSimpArgs false
theorem pick_low {a b : Int} (ca : classOf a ≠ 5) (cb : classOf b ≠ 5) : rankOf (if (false || leB a b) = true then a else b) = min (rankOf a) (rankOf b) ∧ classOf (if (false || leB a b) = true then a else b) ≠ 5 := by
  rw [Bool.false_or]
  unfold leB
  by_cases h : rankOf a ≤ rankOf b
  · rw [if_pos (decide_eq_true ⟨ca, cb, h⟩)]; exact ⟨by omega, ca⟩
  · rw [if_neg (fun k => h (of_decide_eq_true k).2.2)]; exact ⟨by omega, cb⟩
theorem pick_high {a b : Int} (ca : classOf a ≠ 5) (cb : classOf b ≠ 5) : rankOf (if (false || leB b a) = true then a else b) = max (rankOf a) (rankOf b) ∧ classOf (if (false || leB b a) = true then a else b) ≠ 5 := by
  rw [Bool.false_or]
  unfold leB
  by_cases h : rankOf b ≤ rankOf a
  · rw [if_pos (decide_eq_true ⟨cb, ca, h⟩)]; exact ⟨by omega, ca⟩
  · rw [if_neg (fun k => h (of_decide_eq_true k).2.2)]; exact ⟨by omega, cb⟩
/-- four corners: the least and the greatest by rank -/
theorem cst_four (r : Nat → Nat → Int → Int) (l h m i : Nat) (hc : ∀ x y mode, (x = l ∨ x = h) → (y = m ∨ y = i) → (mode = 1 ∨ mode = 2) → classOf (r x y mode) ≠ 5) :
    rankOf (cstN (fun _ _ => true) r l h m i 4).2.1 = min (rankOf (r h i 2)) (min (rankOf (r h m 2)) (min (rankOf (r l i 2)) (rankOf (r l m 2)))) ∧
    rankOf (cstN (fun _ _ => true) r l h m i 4).2.2 = max (rankOf (r h i 1)) (max (rankOf (r h m 1)) (max (rankOf (r l i 1)) (rankOf (r l m 1)))) := by
  have c1 : cstN (fun _ _ => true) r l h m i 1 = (false, r l m 2, r l m 1) := rfl
  obtain ⟨a1, a2⟩ := pick_low (a := r l i 2) (b := r l m 2) (hc _ _ _ (.inl rfl) (.inr rfl) (.inr rfl)) (hc _ _ _ (.inl rfl) (.inl rfl) (.inr rfl))
  obtain ⟨b1, b2⟩ := pick_high (a := r l i 1) (b := r l m 1) (hc _ _ _ (.inl rfl) (.inr rfl) (.inl rfl)) (hc _ _ _ (.inl rfl) (.inl rfl) (.inl rfl))
  obtain ⟨a3, a4⟩ := pick_low (a := r h m 2) (hc _ _ _ (.inr rfl) (.inl rfl) (.inr rfl)) a2
  obtain ⟨b3, b4⟩ := pick_high (a := r h m 1) (hc _ _ _ (.inr rfl) (.inl rfl) (.inl rfl)) b2
  obtain ⟨a5, a6⟩ := pick_low (a := r h i 2) (hc _ _ _ (.inr rfl) (.inr rfl) (.inr rfl)) a4
  obtain ⟨b5, b6⟩ := pick_high (a := r h i 1) (hc _ _ _ (.inr rfl) (.inr rfl) (.inl rfl)) b4
  constructor
  · show rankOf (if (false || leB (r h i 2) _) = true then r h i 2 else _) = _
    rw [← a1, ← a3]
    exact a5
  · show rankOf (if (false || leB _ (r h i 1)) = true then r h i 1 else _) = _
    rw [← b1, ← b3]
    exact b5
end Go.Proofs.YtfphmlmgjhebjaaGreatDoor

set_option linter.unusedVariables false
set_option linter.unusedSimpArgs false
namespace Go.Ulp
open Go.RowKit
theorem ite_u64 {c : Bool} {a b : Int} (ha : U64 a) (hb : U64 b) : U64 (if c = true then a else b) := by split; exact ha; exact hb
theorem mulW_ok (w1 : Int) (D : Dy) (w2 : Int) (E : Dy) (h1 : w1 = 0 ∨ w1 = 1 ∨ w1 = -1) (h2 : w2 = 0 ∨ w2 = 1 ∨ w2 = -1) : mulW w1 D w2 E = 0 ∨ mulW w1 D w2 E = 1 ∨ mulW w1 D w2 E = -1 := by
  unfold mulW mulS
  have q1 : extS w1 D = -1 ∨ extS w1 D = 0 ∨ extS w1 D = 1 := by
    unfold extS
    split
    · omega
    · unfold cmpD cmpI; split; exact .inl rfl; split; exact .inr (.inr rfl); exact .inr (.inl rfl)
  have q2 : extS w2 E = -1 ∨ extS w2 E = 0 ∨ extS w2 E = 1 := by
    unfold extS
    split
    · omega
    · unfold cmpD cmpI; split; exact .inl rfl; split; exact .inr (.inr rfl); exact .inr (.inl rfl)
  split
  · exact .inl rfl
  · split
    · rcases q1 with e | e | e <;> rcases q2 with e' | e' | e' <;> rw [e, e'] <;> decide
    · exact .inl rfl
theorem exW_ok (x : Int) : exW x = 0 ∨ exW x = 1 ∨ exW x = -1 := by
  unfold exW; split; exact .inl rfl; split; exact .inr (.inr rfl); exact .inr (.inl rfl)
end Go.Ulp
namespace Go.Proofs.YtfphmlmgjhebjaaGreatDoor
open Go.RowKit Go.Ulp
set_option linter.unusedVariables false
set_option linter.unusedSimpArgs false
theorem cst_u64 (r : Nat → Nat → Int → Int) (hr : ∀ x y mode, U64 (r x y mode)) (l h m i : Nat) : U64 (cstN (fun _ _ => true) r l h m i 4).2.1 ∧ U64 (cstN (fun _ _ => true) r l h m i 4).2.2 :=
  ⟨ite_u64 (hr _ _ _) (ite_u64 (hr _ _ _) (ite_u64 (hr _ _ _) (hr _ _ _))), ite_u64 (hr _ _ _) (ite_u64 (hr _ _ _) (ite_u64 (hr _ _ _) (hr _ _ _)))⟩
/-- the end of a span -/
def EndN (x : Nat) : Prop := x < 18446744073709551616 ∧ classOf (x : Int) ≠ 5 ∧ (x : Int) ≠ 9223372036854775808
def mulP (x y : Nat) : Int × Dy := (mulW (exW (x : Int)) (exD (x : Int)) (exW (y : Int)) (exD (y : Int)), mulE (exW (x : Int)) (exD (x : Int)) (exW (y : Int)) (exD (y : Int)))
theorem mulP_isN (x y : Nat) : IsN (mulP x y).2 := by
  show IsN (mulE _ _ _ _)
  unfold mulE
  split
  · exact nrm_isN 0 0
  · split
    · exact nrm_isN 0 0
    · exact nrm_isN _ _
theorem mulP_rank (x y : Nat) (hx : EndN x) (hy : EndN y) (mode : Int) : rankOf (mulR x y mode) = rkO mode (mulP x y) := mul_out x y hx.1 hy.1 hx.2.1 hy.2.1 hx.2.2 hy.2.2 mode
theorem mul_corners (l h m i : Nat) (hl : EndN l) (hh : EndN h) (hm : EndN m) (hi : EndN i) :
    plainOf (mulT l h m i).2.1 = outX (lowF [mulP l m, mulP l i, mulP h m, mulP h i] 4).1 (lowF [mulP l m, mulP l i, mulP h m, mulP h i] 4).2 2 ∧
    plainOf (mulT l h m i).2.2 = outX (highF [mulP l m, mulP l i, mulP h m, mulP h i] 4).1 (highF [mulP l m, mulP l i, mulP h m, mulP h i] 4).2 1 := by
  obtain ⟨L, hL⟩ : ∃ L, L = [mulP l m, mulP l i, mulP h m, mulP h i] := ⟨_, rfl⟩
  rw [← hL]
  have hn : L.length = 4 := by rw [hL]; rfl
  have pok : ∀ x y, XOk (mulP x y) := fun x y => ⟨mulW_ok _ _ _ _ (exW_ok _) (exW_ok _), mulP_isN x y⟩
  have ok : ∀ j, j < L.length → XOk (L.getD j (0, (0, 0))) := fun j hj => by
    rw [hL]
    match j, (by omega : j < 4) with
    | 0, _ => exact pok _ _
    | 1, _ => exact pok _ _
    | 2, _ => exact pok _ _
    | 3, _ => exact pok _ _
  have e0 : L.getD 0 (0, (0, 0)) = mulP l m := by rw [hL]; rfl
  have e1 : L.getD 1 (0, (0, 0)) = mulP l i := by rw [hL]; rfl
  have e2 : L.getD 2 (0, (0, 0)) = mulP h m := by rw [hL]; rfl
  have e3 : L.getD 3 (0, (0, 0)) = mulP h i := by rw [hL]; rfl
  have u := cst_u64 mulR mulR_u64 l h m i
  have bd : ∀ x y mode, EndN x → EndN y → (mode = 1 ∨ mode = 2) → classOf (mulR x y mode) ≠ 5 := fun x y mode hx hy hmd =>
    class_of_rank _ (mulR_u64 x y mode) (by rw [mulP_rank x y hx hy]; exact outX_rank_bd _ _ mode hmd (pok x y).1)
  have c := cst_four mulR l h m i (fun x y mode hx hy hmd => bd x y mode (by rcases hx with e | e <;> subst e <;> assumption) (by rcases hy with e | e <;> subst e <;> assumption) hmd)
  rw [mulP_rank h i hh hi, mulP_rank h m hh hm, mulP_rank l i hl hi, mulP_rank l m hl hm, mulP_rank h i hh hi, mulP_rank h m hh hm, mulP_rank l i hl hi, mulP_rank l m hl hm] at c
  have lw : rkO 2 (lowF L 4) = min (rkO 2 (mulP h i)) (min (rkO 2 (mulP h m)) (min (rkO 2 (mulP l i)) (rkO 2 (mulP l m)))) := by
    rw [lowF_step L (by omega) ok 2 (.inr rfl) 3 (by omega), lowF_step L (by omega) ok 2 (.inr rfl) 2 (by omega), lowF_step L (by omega) ok 2 (.inr rfl) 1 (by omega), lowF_step L (by omega) ok 2 (.inr rfl) 0 (by omega), show lowF L 0 = L.getD 0 (0, (0, 0)) from rfl, e0, e1, e2, e3]
    omega
  have hg : rkO 1 (highF L 4) = max (rkO 1 (mulP h i)) (max (rkO 1 (mulP h m)) (max (rkO 1 (mulP l i)) (rkO 1 (mulP l m)))) := by
    rw [highF_step L (by omega) ok 1 (.inl rfl) 3 (by omega), highF_step L (by omega) ok 1 (.inl rfl) 2 (by omega), highF_step L (by omega) ok 1 (.inl rfl) 1 (by omega), highF_step L (by omega) ok 1 (.inl rfl) 0 (by omega), show highF L 0 = L.getD 0 (0, (0, 0)) from rfl, e0, e1, e2, e3]
    omega
  constructor
  · rw [← outX_plain (lowF L 4).1 (lowF L 4).2 2]
    exact plain_of_rank u.1 (outX_u64 _ _ _) (c.1.trans lw.symm)
  · rw [← outX_plain (highF L 4).1 (highF L 4).2 1]
    exact plain_of_rank u.2 (outX_u64 _ _ _) (c.2.trans hg.symm)
end Go.Proofs.YtfphmlmgjhebjaaGreatDoor

set_option linter.unusedVariables false
set_option linter.unusedSimpArgs false
namespace Go.Ulp
open Go.RowKit
theorem lev_nrm (X : Int) (ta K : Nat) (h : ta ≤ K) : nrm (X * pw (K - ta)) (-(K : Int)) = nrm X (-(ta : Int)) := by
  rw [nrm_scale]; congr 1; omega
end Go.Ulp
namespace Go.Proofs.YtfphmlmgjhebjaaGreatDoor
open Go.RowKit Go.Ulp
set_option linter.unusedVariables false
set_option linter.unusedSimpArgs false
set_option maxHeartbeats 4000000
set_option maxRecDepth 100000
end Go.Proofs.YtfphmlmgjhebjaaGreatDoor
