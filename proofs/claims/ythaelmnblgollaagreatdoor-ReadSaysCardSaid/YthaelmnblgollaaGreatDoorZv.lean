/- The reference's numbers by value: contracts of its operations, and variables. -/
import Derived.Test.YthaelmnblgollaaGreatDoorTx1
import Derived.Test.YthaelmnblgollaaGreatDoorRm
set_option linter.unusedVariables false
set_option linter.unusedSimpArgs false
namespace Go.Ulp
open Go.RowKit
def RetZD (t : TypeId) (w : World) (x : Int) (e : Ending) (w' : World) : Prop := ∃ v, e = .returned v ∧ ZD t w' x v ∧ Below w.heap.size w w'
def RetZD2 (t : TypeId) (w : World) (x y : Int) (e : Ending) (w' : World) : Prop := ∃ v, e = .returned v ∧ ZD2 t w' x y v ∧ Below w.heap.size w w'
theorem RetZ.zd {t : TypeId} {w : World} {x : Int} {e : Ending} {w' : World} (h : RetZ t w x e w') : RetZD t w x e w' := by
  obtain ⟨ao, cap, h1, h2, h3⟩ := h; exact ⟨_, h1, ⟨ao, cap, rfl, h2⟩, h3⟩
theorem RetZ2.zd {t : TypeId} {w : World} {x y : Int} {e : Ending} {w' : World} (h : RetZ2 t w x y e w') : RetZD2 t w x y e w' := by
  obtain ⟨ao, cap, bo, cbp, h1, h2, h3, h4⟩ := h; exact ⟨_, h1, ⟨ao, cap, bo, cbp, rfl, h2, h3⟩, h4⟩
theorem ZD2.parts {t : TypeId} {w : World} {x y : Int} {v : Value} (h : ZD2 t w x y v) : ∃ a b, v = .tuple #[a, b] ∧ ZD t w x a ∧ ZD t w y b := by
  obtain ⟨ao, cap, bo, cbp, h1, h2, h3⟩ := h; exact ⟨_, _, h1, ⟨ao, cap, rfl, h2⟩, ⟨bo, cbp, rfl, h3⟩⟩
theorem ZD.cast {t : TypeId} {w : World} {x y : Int} {v : Value} (h : ZD t w x v) (e : x = y) : ZD t w y v := by rw [← e]; exact h
theorem ZV.cast {tz ti : TypeId} {w : World} {x y : Int} {g : Nat} (h : ZV tz ti w g x) (e : x = y) : ZV tz ti w g y := by rw [← e]; exact h
theorem ZV.lt {tz ti : TypeId} {w : World} {x : Int} {g : Nat} (h : ZV tz ti w g x) : g < w.heap.size := by obtain ⟨ao, cap, h1, h2⟩ := h; exact h1.lt
/-- a number is stored into its variable -/
theorem zv_made {tz ti : TypeId} {w : World} {x : Int} {a : Option Addr} {c : Nat} (h : Nz ti w a c (zl x)) (g : Nat) (hg : g = w.heap.size) : ZV tz ti (w.alloc (.cells #[.bool (zneg x), .slice a (zl x).length c] tz)) g x := ⟨a, c, ZL.made hg, h.below (below_alloc _ _)⟩
theorem zv_store1 {tz ti : TypeId} {w0 wn : World} {g : Nat} {n : Bool} {u : Value} {x : Int} {a : Option Addr} {c : Nat} (hne : tz ≠ ti) (hb : Below w0.heap.size w0 wn) (hg : w0.heap.size ≤ g) (z : ZL tz wn g n u) (h : Nz ti wn a c (zl x)) :
    Below w0.heap.size w0 ((wn.setCell ⟨g, 0, none⟩ (.bool (zneg x))).setCell ⟨g, 1, none⟩ (.slice a (zl x).length c)) ∧ ZV tz ti ((wn.setCell ⟨g, 0, none⟩ (.bool (zneg x))).setCell ⟨g, 1, none⟩ (.slice a (zl x).length c)) g x := by
  exact ⟨(hb.setCell (p := ⟨g, 0, none⟩) hg _).setCell (p := ⟨g, 1, none⟩) hg _, ZV.store z h hne⟩
theorem zv_store2 {tz ti : TypeId} {w0 wn : World} {g k : Nat} {n n' : Bool} {u u' : Value} {x y : Int} {a b : Option Addr} {c d : Nat} (hne : tz ≠ ti) (hb : Below w0.heap.size w0 wn) (hg : w0.heap.size ≤ g) (hk : w0.heap.size ≤ k) (hgk : g ≠ k) (z : ZL tz wn g n u) (z' : ZL tz wn k n' u') (h : Nz ti wn a c (zl x)) (h' : Nz ti wn b d (zl y)) :
    Below w0.heap.size w0 ((((wn.setCell ⟨g, 0, none⟩ (.bool (zneg x))).setCell ⟨g, 1, none⟩ (.slice a (zl x).length c)).setCell ⟨k, 0, none⟩ (.bool (zneg y))).setCell ⟨k, 1, none⟩ (.slice b (zl y).length d)) ∧ ZV tz ti ((((wn.setCell ⟨g, 0, none⟩ (.bool (zneg x))).setCell ⟨g, 1, none⟩ (.slice a (zl x).length c)).setCell ⟨k, 0, none⟩ (.bool (zneg y))).setCell ⟨k, 1, none⟩ (.slice b (zl y).length d)) g x ∧ ZV tz ti ((((wn.setCell ⟨g, 0, none⟩ (.bool (zneg x))).setCell ⟨g, 1, none⟩ (.slice a (zl x).length c)).setCell ⟨k, 0, none⟩ (.bool (zneg y))).setCell ⟨k, 1, none⟩ (.slice b (zl y).length d)) k y := by
  obtain ⟨h1, h2⟩ := zv_store1 hne hb hg z h
  have z2 := ((z'.far ⟨g, 0, none⟩ (.bool (zneg x)) hgk.symm).far ⟨g, 1, none⟩ (.slice a (zl x).length c) hgk.symm)
  have n2 := h'.st2 z.2.2.2.2 hne (.bool (zneg x)) (.slice a (zl x).length c)
  obtain ⟨h3, h4⟩ := zv_store1 hne h1 hk z2 n2
  exact ⟨h3, h2.set2 z2.2.2.2.2 hne hgk _ _, h4⟩
theorem zv_made2 {tz ti : TypeId} {w : World} {x y : Int} {a b : Option Addr} {c d : Nat} (h : Nz ti w a c (zl x)) (h' : Nz ti w b d (zl y)) :
    Below w.heap.size w ((w.alloc (.cells #[.bool (zneg x), .slice a (zl x).length c] tz)).alloc (.cells #[.bool (zneg y), .slice b (zl y).length d] tz)) ∧ ZV tz ti ((w.alloc (.cells #[.bool (zneg x), .slice a (zl x).length c] tz)).alloc (.cells #[.bool (zneg y), .slice b (zl y).length d] tz)) w.heap.size x ∧ ZV tz ti ((w.alloc (.cells #[.bool (zneg x), .slice a (zl x).length c] tz)).alloc (.cells #[.bool (zneg y), .slice b (zl y).length d] tz)) (w.heap.size + 1) y :=
  ⟨below_trans (below_alloc _ _) (below_alloc _ _), (zv_made h _ rfl).below (below_alloc _ _), zv_made (h'.below (below_alloc _ _)) _ (by simp)⟩
theorem wp_worldZ {P : Program} {c : Code} {Q : Exit → Act → World → Prop} {a : Act} {w0 : World} (F : World → Prop) (hF : F w0) (h : ∀ w, F w → Code.wp P c Q a w) : Code.wp P c Q a w0 := h w0 hF
end Go.Ulp
namespace Go.Proofs.YthaelmnblgollaaGreatDoor
open Go.RowKit Go.Ulp
set_option linter.unusedVariables false
set_option linter.unusedSimpArgs false
set_option maxHeartbeats 1000000
set_option maxRecDepth 100000
theorem zaddD (v u : Value) (x y : Int) (w : World) (hv : ZD 3 w x v) (hu : ZD 3 w y u) (hx : (zl x).length ≤ 100000000) (hy : (zl y).length ≤ 100000000) : Calls Tryz.prog 125 #[v, u] w (RetZD 3 w (x + y)) := by
  obtain ⟨a, c, rfl, h⟩ := hv; obtain ⟨b, d, rfl, k⟩ := hu
  exact (zadd_any a b c d x y w h k (by omega) (by omega)).mono fun _ _ h => h.zd
theorem zsubD (v u : Value) (x y : Int) (w : World) (hv : ZD 3 w x v) (hu : ZD 3 w y u) (hx : (zl x).length ≤ 100000000) (hy : (zl y).length ≤ 100000000) : Calls Tryz.prog 214 #[v, u] w (RetZD 3 w (x - y)) := by
  obtain ⟨a, c, rfl, h⟩ := hv; obtain ⟨b, d, rfl, k⟩ := hu
  exact (zsub_any a b c d x y w h k (by omega) (by omega)).mono fun _ _ h => h.zd
theorem zmulD (v u : Value) (x y : Int) (w : World) (hv : ZD 3 w x v) (hu : ZD 3 w y u) (hx : (zl x).length ≤ 100000000) (hy : (zl y).length ≤ 100000000) : Calls Tryz.prog 112 #[v, u] w (RetZD 3 w (x * y)) := by
  obtain ⟨a, c, rfl, h⟩ := hv; obtain ⟨b, d, rfl, k⟩ := hu
  exact (zmul_any a b c d x y w h k (by omega) (by omega)).mono fun _ _ h => h.zd
theorem zdivD (v u : Value) (x y : Int) (w : World) (hv : ZD 3 w x v) (hu : ZD 3 w y u) (hx : (zl x).length ≤ 1000000) (hy : (zl y).length ≤ 1000000) (hy0 : y ≠ 0) : Calls Tryz.prog 147 #[v, u] w (RetZD2 3 w (x / y) (x % y)) := by
  obtain ⟨a, c, rfl, h⟩ := hv; obtain ⟨b, d, rfl, k⟩ := hu
  exact (zdiv_any a b c d x y w h k hx hy hy0).mono fun _ _ h => h.zd
theorem zcmpD (v u : Value) (x y : Int) (w : World) (hv : ZD 3 w x v) (hu : ZD 3 w y u) : Calls Tryz.prog 77 #[v, u] w fun e w' => e = .returned (.int .i64 (cmpI x y)) ∧ Below w.heap.size w w' := by
  obtain ⟨a, c, rfl, h⟩ := hv; obtain ⟨b, d, rfl, k⟩ := hu
  exact zcmp_any a b c d x y w h k
theorem zsignD (v : Value) (x : Int) (w : World) (hv : ZD 3 w x v) : Calls Tryz.prog 47 #[v] w fun e w' => e = .returned (.int .i64 (cmpI x 0)) ∧ Below w.heap.size w w' := by
  obtain ⟨a, c, rfl, h⟩ := hv
  exact zsign_any a c x w h
theorem zabsD (v : Value) (x : Int) (w : World) (hv : ZD 3 w x v) : Calls Tryz.prog 78 #[v] w (RetZD 3 w (x.natAbs : Int)) := by
  obtain ⟨a, c, rfl, h⟩ := hv
  exact (zabs_any a c x w h).mono fun _ _ h => h.zd
theorem znegD (v : Value) (x : Int) (w : World) (hv : ZD 3 w x v) : Calls Tryz.prog 48 #[v] w (RetZD 3 w (-x)) := by
  obtain ⟨a, c, rfl, h⟩ := hv
  exact (zneg_any a c x w h).mono fun _ _ h => h.zd
theorem zpowD (n : Nat) (w : World) (hn : n ≤ 1000000000) : Calls Tryz.prog 79 #[.int .i64 (n : Int)] w (RetZD 3 w (pw n)) := (zpow_any n w hn).mono fun _ _ h => h.zd
theorem zND (n : Int) (h0 : 0 ≤ n) (h1 : n < 9223372036854775808) (w : World) : Calls Tryz.prog 70 #[.int .i64 n] w (RetZD 3 w n) := by
  obtain ⟨k, rfl⟩ := Int.eq_ofNat_of_zero_le h0
  exact (zN_any k (by omega) w).mono fun _ _ h => h.zd
theorem zTextD (v : Value) (x : Int) (w : World) (hv : ZD 3 w x v) (hl : (zl x).length ≤ 1000000) : Calls Tryz.prog 149 #[v] w fun e w' => e = .returned (.string (bsOf (zTx x))) ∧ Below w.heap.size w w' := by
  obtain ⟨a, c, rfl, h⟩ := hv
  exact zText_any x a c w h hl
end Go.Proofs.YthaelmnblgollaaGreatDoor
