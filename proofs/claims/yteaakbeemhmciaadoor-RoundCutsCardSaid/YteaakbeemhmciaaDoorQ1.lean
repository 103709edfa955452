/- The reference's numbers over a power of two. -/
import Derived.Test.YteaakbeemhmciaaDoorZ8
namespace Go.Ulp
open Go.RowKit
/-- what a call leaves that hands back a number over a power of two -/
def RetQ (t : TypeId) (w : World) (x : Int) (n : Int) (e : Ending) (w' : World) : Prop :=
  ∃ ao cap, e = .returned (.agg #[.bool (zneg x), .slice ao (zl x).length cap, .int .i64 n]) ∧ Nz t w' ao cap (zl x) ∧ Below w.heap.size w w'
/-- block g is a variable of type Q (number t) -/
def QL (t : TypeId) (w : World) (g : Nat) (n : Bool) (v : Value) (k : Int) : Prop :=
  ZL t w g n v ∧ w.cell? ⟨g, 2, none⟩ = some (.int .i64 k) ∧ w.frozen? ⟨g, 2, none⟩ = false
theorem QL.lt {t : TypeId} {w : World} {g : Nat} {n : Bool} {v : Value} {k : Int} (h : QL t w g n v k) : g < w.heap.size := h.1.lt
theorem QL.belowB {t : TypeId} {B : Nat} {w w' : World} {g : Nat} {n : Bool} {v : Value} {k : Int} (h : QL t w g n v k) (hb : Below B w w') (hB : g < B) : QL t w' g n v k :=
  ⟨h.1.belowB hb hB, (hb.cell (p := ⟨g, 2, none⟩) hB).trans h.2.1, (hb.frozen (p := ⟨g, 2, none⟩) hB).trans h.2.2⟩
theorem QL.below {t : TypeId} {w w' : World} {g : Nat} {n : Bool} {v : Value} {k : Int} (h : QL t w g n v k) (hb : Below w.heap.size w w') : QL t w' g n v k := h.belowB hb h.lt
theorem QL.alloc {t : TypeId} {w : World} {g : Nat} {n : Bool} {v : Value} {k : Int} (h : QL t w g n v k) (o : Obj) : QL t (w.alloc o) g n v k := h.below (below_alloc _ _)
theorem QL.drew {t : TypeId} {w : World} {g : Nat} {n : Bool} {v : Value} {k : Int} (h : QL t w g n v k) : QL t w.drew g n v k := h
theorem QL.drewN {t : TypeId} {w : World} {g : Nat} {n : Bool} {v : Value} {k : Int} (h : QL t w g n v k) (j : Nat) : QL t (w.drewN j) g n v k := h
theorem QL.made {t : TypeId} {w : World} {g : Nat} {n : Bool} {v : Value} {k : Int} (hg : g = w.heap.size) : QL t (w.alloc (.cells #[.bool n, v, .int .i64 k] t)) g n v k := by
  subst hg
  refine ⟨⟨?_, ?_, ?_, ?_, ElemIs.made _ _ _⟩, ?_, ?_⟩
  · rw [World.cell?_alloc_at (hn := rfl)]; rfl
  · rw [World.cell?_alloc_at (hn := rfl)]; rfl
  · unfold World.frozen?; rw [heap_alloc_new]; simp
  · unfold World.frozen?; rw [heap_alloc_new]; simp
  · rw [World.cell?_alloc_at (hn := rfl)]; rfl
  · unfold World.frozen?; rw [heap_alloc_new]; simp
end Go.Ulp
namespace Go.Proofs.YteaakbeemhmciaaDoor
open Go.RowKit Go.Ulp
set_option linter.unusedVariables false
set_option linter.unusedSimpArgs false
set_option maxHeartbeats 1000000
set_option maxRecDepth 100000
theorem qmake_neg (a0 : Option Addr) (c0 : Nat) (x : Int) (n : Int) (w : World) (h0 : Nz 3 w a0 c0 (zl x)) (hn : n < 0) (hn2 : -10000000 ≤ n) :
    Calls Tryd.prog 30 #[.agg #[.bool (zneg x), .slice a0 (zl x).length c0], .int .i64 n] w fun e w' => RetQ 3 w x (-n) e w' := by
  go_enter Tryd.func30, Tryd.ntmps30
  go_wp2_with fail
  refine bodyPost_ret (by simp [results, Tryd.results30, go_sem]; try rfl) rfl ?_
  exact ⟨a0, c0, rfl, h0.below (by (repeat' (first | (with_reducible exact Below.refl _ _) | (with_reducible assumption) | (with_reducible refine below_drewN ?_ _) | (with_reducible refine Below.drew ?_) | (with_reducible refine Below.alloc ?_ ?_ _) | (with_reducible refine Below.setCell ?_ ?_ _) | go_size))), by (repeat' (first | (with_reducible exact Below.refl _ _) | (with_reducible assumption) | (with_reducible refine below_drewN ?_ _) | (with_reducible refine Below.drew ?_) | (with_reducible refine Below.alloc ?_ ?_ _) | (with_reducible refine Below.setCell ?_ ?_ _) | go_size))⟩
theorem qmake_pos (a0 : Option Addr) (c0 : Nat) (x : Int) (n : Nat) (w : World) (h0 : Nz 3 w a0 c0 (zl x)) (hl0 : (zl x).length ≤ 1073741824) (hn2 : n ≤ 100000000) :
    Calls Tryd.prog 30 #[.agg #[.bool (zneg x), .slice a0 (zl x).length c0], .int .i64 (n : Int)] w fun e w' => RetQ 3 w (x * pw n) 0 e w' := by
  have hz := hid h0
  go_enter Tryd.func30, Tryd.ntmps30
  go_wp2_with fail
  have zR0 : QL 42 ((w.alloc (.cells #[.bool (zneg x), .slice a0 (zl x).length c0] 40)).alloc (.cells #[.bool false, .slice none 0 0, .int .i64 0] 42)) (w.heap.size + 1) false (.slice none 0 0) 0 := QL.made (by first | omega | (simp; done) | (simp; omega))
  have zA0 : ZL 40 ((w.alloc (.cells #[.bool (zneg x), .slice a0 (zl x).length c0] 40)).alloc (.cells #[.bool false, .slice none 0 0, .int .i64 0] 42)) w.heap.size (zneg x) (.slice a0 (zl x).length c0) := (ZL.made rfl).alloc _
  have zA := zA0.drew
  have yb0 : Below w.heap.size w ((w.alloc (.cells #[.bool (zneg x), .slice a0 (zl x).length c0] 40)).alloc (.cells #[.bool false, .slice none 0 0, .int .i64 0] 42)) := by (repeat' (first | (with_reducible exact Below.refl _ _) | (with_reducible assumption) | (with_reducible refine below_drewN ?_ _) | (with_reducible refine Below.drew ?_) | (with_reducible refine Below.alloc ?_ ?_ _) | (with_reducible refine Below.setCell ?_ ?_ _) | go_size))
  have zR := zR0.drew
  have yb := yb0.drew
  clear zR0 yb0 zA0
  go_region_with (first | (go_at_call 104; refine (zpow_any n _ (by omega)).mono ?_; rintro e wn ⟨aon, capn, rfl, hNn, hbn⟩; have h0n := Nz.below (w' := wn) h0 (by (repeat' (first | (with_reducible assumption) | (with_reducible exact Below.refl _ _) | (with_reducible refine below_al ?_ _) | (with_reducible refine below_drewN ?_ _) | (with_reducible refine Below.drew ?_) | (with_reducible refine Below.alloc ?_ ?_ _) | (with_reducible refine Below.setCell ?_ ?_ _) | (refine below_trans ?_ (by assumption)) | go_size))); have zAn := ZL.below (w' := wn) zA (by (repeat' (first | (with_reducible assumption) | (with_reducible exact Below.refl _ _) | (with_reducible refine below_al ?_ _) | (with_reducible refine below_drewN ?_ _) | (with_reducible refine Below.drew ?_) | (with_reducible refine Below.alloc ?_ ?_ _) | (with_reducible refine Below.setCell ?_ ?_ _) | (refine below_trans ?_ (by assumption)) | go_size))); have kA0 := zAn.1; have kA1 := zAn.2.1) | (go_at_call 106; refine (zmul_any _ _ _ _ _ _ _ (by assumption) (by assumption) hl0 (Nat.le_trans (zl_len_pw _) (by omega))).mono ?_; rintro e wn ⟨aon, capn, rfl, hNn, hbn⟩; have zRn := QL.below (w' := wn) zR (by (repeat' (first | (with_reducible assumption) | (with_reducible exact Below.refl _ _) | (with_reducible refine below_al ?_ _) | (with_reducible refine below_drewN ?_ _) | (with_reducible refine Below.drew ?_) | (with_reducible refine Below.alloc ?_ ?_ _) | (with_reducible refine Below.setCell ?_ ?_ _) | (refine below_trans ?_ (by assumption)) | go_size))); have ybn : Below w.heap.size w wn := (by (repeat' (first | (with_reducible assumption) | (with_reducible exact Below.refl _ _) | (with_reducible refine below_al ?_ _) | (with_reducible refine below_drewN ?_ _) | (with_reducible refine Below.drew ?_) | (with_reducible refine Below.alloc ?_ ?_ _) | (with_reducible refine Below.setCell ?_ ?_ _) | (refine below_trans ?_ (by assumption)) | go_size))); have k0 := zRn.1.1; have k1 := zRn.1.2.1; have f0 := zRn.1.2.2.1; have f1 := zRn.1.2.2.2.1; have k2 := zRn.2.1; have f2 := zRn.2.2))
  all_goals
    have hs2 := zRn.1.2.2.2.2
    go_wp2_with fail
    refine bodyPost_ret (by simp [results, Tryd.results30, go_sem, k0, k1, k2]; try rfl) rfl ?_
    exact ⟨_, _, rfl, ((hNn.setCell hs2 (by decide) _ _).setCell (hs2.setCell _ _) (by decide) _ _).setCell ((hs2.setCell _ _).setCell _ _) (by decide) _ _, ((ybn.setCell (by first | omega | (simp; done) | (simp; omega)) _).setCell (by first | omega | (simp; done) | (simp; omega)) _).setCell (by first | omega | (simp; done) | (simp; omega)) _⟩
end Go.Proofs.YteaakbeemhmciaaDoor
