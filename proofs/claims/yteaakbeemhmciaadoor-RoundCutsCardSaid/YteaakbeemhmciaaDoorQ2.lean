/- The reference's numbers over a power of two: both over one power. -/
import Derived.Test.YteaakbeemhmciaaDoorQ1
namespace Go.Ulp
open Go.RowKit
/-- what 'level' leaves -/
def RetL (t : TypeId) (w : World) (x y n : Int) (e : Ending) (w' : World) : Prop :=
  ∃ ao cap bo cbp, e = .returned (.tuple #[.agg #[.bool (zneg x), .slice ao (zl x).length cap], .agg #[.bool (zneg y), .slice bo (zl y).length cbp], .int .i64 n]) ∧ Nz t w' ao cap (zl x) ∧ Nz t w' bo cbp (zl y) ∧ Below w.heap.size w w'
theorem Nz.drew {e : TypeId} {w : World} {ao : Option Addr} {cap : Nat} {L : List Nat} (h : Nz e w ao cap L) : Nz e w.drew ao cap L := h.below (Below.drew (Below.refl _ _))
theorem ElemIs.set2 {w : World} {b : Nat} {t : TypeId} (h : ElemIs w b t) (g : Nat) (u v : Value) : ElemIs ((w.setCell ⟨g, 0, none⟩ u).setCell ⟨g, 1, none⟩ v) b t := (h.setCell _ _).setCell _ _
theorem Nz.set2 {e t : TypeId} {w : World} {ao : Option Addr} {cap : Nat} {L : List Nat} (h : Nz e w ao cap L) {g : Nat} (hs : ElemIs w g t) (hne : t ≠ e) (u v : Value) : Nz e ((w.setCell ⟨g, 0, none⟩ u).setCell ⟨g, 1, none⟩ v) ao cap L :=
  (h.setCell hs hne 0 u).setCell (hs.setCell _ _) hne 1 v
/-- the world forgotten but for what is said of it -/
theorem wp_world {P : Program} {c : Code} {Q : Exit → Act → World → Prop} {a : Act} {w0 : World} (F : World → Prop) (hF : F w0) (h : ∀ w, F w → Code.wp P c Q a w) : Code.wp P c Q a w0 := h w0 hF
end Go.Ulp
namespace Go.Proofs.YteaakbeemhmciaaDoor
open Go.RowKit Go.Ulp
set_option linter.unusedVariables false
set_option linter.unusedSimpArgs false
set_option maxHeartbeats 1000000
set_option maxRecDepth 100000
theorem level_eq (a0 a1 : Option Addr) (c0 c1 : Nat) (x y : Int) (t : Nat) (w : World) (h0 : Nz 3 w a0 c0 (zl x)) (h1 : Nz 3 w a1 c1 (zl y)) :
    Calls Tryd.prog 122 #[.agg #[.bool (zneg x), .slice a0 (zl x).length c0, .int .i64 (t : Int)], .agg #[.bool (zneg y), .slice a1 (zl y).length c1, .int .i64 (t : Int)]] w fun e w' => RetL 3 w x y t e w' := by
  have hm : max (t : Int) (t : Int) = t := by omega
  go_enter Tryd.func122, Tryd.ntmps122
  go_wp2_with fail
  go_region
  all_goals go_wp2_with fail
  all_goals go_region
  all_goals go_wp2_with fail
  all_goals
    refine bodyPost_ret (by simp [results, Tryd.results122, go_sem]; try rfl) rfl ?_
    exact ⟨_, _, _, _, rfl, h0.below (by (repeat' (first | (with_reducible exact Below.refl _ _) | (with_reducible assumption) | (with_reducible refine below_drewN ?_ _) | (with_reducible refine Below.drew ?_) | (with_reducible refine Below.alloc ?_ ?_ _) | (with_reducible refine Below.setCell ?_ ?_ _) | go_size))), h1.below (by (repeat' (first | (with_reducible exact Below.refl _ _) | (with_reducible assumption) | (with_reducible refine below_drewN ?_ _) | (with_reducible refine Below.drew ?_) | (with_reducible refine Below.alloc ?_ ?_ _) | (with_reducible refine Below.setCell ?_ ?_ _) | go_size))), by (repeat' (first | (with_reducible exact Below.refl _ _) | (with_reducible assumption) | (with_reducible refine below_drewN ?_ _) | (with_reducible refine Below.drew ?_) | (with_reducible refine Below.alloc ?_ ?_ _) | (with_reducible refine Below.setCell ?_ ?_ _) | go_size))⟩
theorem level_lt (a0 a1 : Option Addr) (c0 c1 : Nat) (x y : Int) (ta tb d : Nat) (w : World) (h0 : Nz 3 w a0 c0 (zl x)) (h1 : Nz 3 w a1 c1 (zl y)) (hd : tb = ta + d) (hp : 0 < d) (hl : (zl x).length ≤ 1073741824) (hs : d ≤ 100000000) (hs2 : ta ≤ 1000000000000) :
    Calls Tryd.prog 122 #[.agg #[.bool (zneg x), .slice a0 (zl x).length c0, .int .i64 (ta : Int)], .agg #[.bool (zneg y), .slice a1 (zl y).length c1, .int .i64 (tb : Int)]] w fun e w' => RetL 3 w (x * pw d) y tb e w' := by
  have hm : max (ta : Int) (tb : Int) = tb := by omega
  have hd2 : (tb : Int) - (ta : Int) = (d : Int) := by omega
  have hlt : (ta : Int) < (tb : Int) := by omega
  have hw : IntKind.i64.wrap (d : Int) = (d : Int) := IntWalk.i64_in _ (by omega)
  have hne : (40 : TypeId) ≠ 3 := by decide
  clear hd
  go_enter Tryd.func122, Tryd.ntmps122
  go_wp2_with fail
  go_region
  all_goals go_wp2_with fail
  · refine wp_world (fun W => QL 42 W w.heap.size (zneg x) (.slice a0 (zl x).length c0) ta ∧ QL 42 W (w.heap.size + 1) (zneg y) (.slice a1 (zl y).length c1) tb ∧ ZL 40 W (w.heap.size + 1 + 1) false (.slice none 0 0) ∧ ZL 40 W (w.heap.size + 1 + 1 + 1) false (.slice none 0 0) ∧ ZL 40 W (w.heap.size + 1 + 1 + 1 + 1) (zneg x) (.slice a0 (zl x).length c0) ∧ ZL 40 W (w.heap.size + 1 + 1 + 1 + 1 + 1) (zneg y) (.slice a1 (zl y).length c1) ∧ Below w.heap.size w W) ⟨QL.drew ((((((QL.made rfl).alloc _).alloc _).alloc _).alloc _).alloc _), QL.drew (((((QL.made (by first | omega | (simp; done) | (simp; omega))).alloc _).alloc _).alloc _).alloc _), ZL.drew ((((ZL.made (by first | omega | (simp; done) | (simp; omega))).alloc _).alloc _).alloc _), ZL.drew (((ZL.made (by first | omega | (simp; done) | (simp; omega))).alloc _).alloc _), ZL.drew ((ZL.made (by first | omega | (simp; done) | (simp; omega))).alloc _), ZL.drew (ZL.made (by first | omega | (simp; done) | (simp; omega))), by (repeat' (first | (with_reducible exact Below.refl _ _) | (with_reducible assumption) | (with_reducible refine below_drewN ?_ _) | (with_reducible refine Below.drew ?_) | (with_reducible refine Below.alloc ?_ ?_ _) | (with_reducible refine Below.setCell ?_ ?_ _) | go_size))⟩ ?_
    rintro W ⟨zA, zB, z1, z2, zX, zY, yb⟩
    have zAd := zA.drew
    have zBd := zB.drew
    have z1d := z1.drew
    have z2d := z2.drew
    have zXd := zX.drew
    have zYd := zY.drew
    have ybd := yb.drew
    obtain ⟨⟨kA0, kA1, -, -, -⟩, kA2, -⟩ := zA
    obtain ⟨kX0, kX1, fX0, fX1, -⟩ := zX
    obtain ⟨kY0, kY1, -, -, -⟩ := zY
    go_region_with (first | (go_at_call 104; (with_reducible refine (zpow_any d _ (by omega)).mono ?_); rintro e wn ⟨aon, capn, rfl, hNn, hbn⟩; have h0n := Nz.below (w' := wn) h0 (by (repeat' (first | (with_reducible assumption) | (with_reducible exact Below.refl _ _) | (with_reducible refine below_al ?_ _) | (with_reducible refine below_drewN ?_ _) | (with_reducible refine Below.drew ?_) | (with_reducible refine Below.alloc ?_ ?_ _) | (with_reducible refine Below.setCell ?_ ?_ _) | (refine below_trans ?_ (by assumption)) | go_size))); have zXn := ZL.below (w' := wn) zXd (by (repeat' (first | (with_reducible assumption) | (with_reducible exact Below.refl _ _) | (with_reducible refine below_al ?_ _) | (with_reducible refine below_drewN ?_ _) | (with_reducible refine Below.drew ?_) | (with_reducible refine Below.alloc ?_ ?_ _) | (with_reducible refine Below.setCell ?_ ?_ _) | (refine below_trans ?_ (by assumption)) | go_size))); have kn0 := zXn.1; have kn1 := zXn.2.1) | (go_at_call 106; (with_reducible refine (zmul_any _ _ _ _ _ _ _ (by assumption) (by assumption) hl (Nat.le_trans (zl_len_pw _) (by omega))).mono ?_); rintro e wn ⟨aon, capn, rfl, hNn, hbn⟩; have zXn := ZL.below (w' := wn) zXd (by (repeat' (first | (with_reducible assumption) | (with_reducible exact Below.refl _ _) | (with_reducible refine below_al ?_ _) | (with_reducible refine below_drewN ?_ _) | (with_reducible refine Below.drew ?_) | (with_reducible refine Below.alloc ?_ ?_ _) | (with_reducible refine Below.setCell ?_ ?_ _) | (refine below_trans ?_ (by assumption)) | go_size))); have zYn := ZL.below (w' := wn) zYd (by (repeat' (first | (with_reducible assumption) | (with_reducible exact Below.refl _ _) | (with_reducible refine below_al ?_ _) | (with_reducible refine below_drewN ?_ _) | (with_reducible refine Below.drew ?_) | (with_reducible refine Below.alloc ?_ ?_ _) | (with_reducible refine Below.setCell ?_ ?_ _) | (refine below_trans ?_ (by assumption)) | go_size))); have zBn := QL.below (w' := wn) zBd (by (repeat' (first | (with_reducible assumption) | (with_reducible exact Below.refl _ _) | (with_reducible refine below_al ?_ _) | (with_reducible refine below_drewN ?_ _) | (with_reducible refine Below.drew ?_) | (with_reducible refine Below.alloc ?_ ?_ _) | (with_reducible refine Below.setCell ?_ ?_ _) | (refine below_trans ?_ (by assumption)) | go_size))); have z1n := ZL.below (w' := wn) z1d (by (repeat' (first | (with_reducible assumption) | (with_reducible exact Below.refl _ _) | (with_reducible refine below_al ?_ _) | (with_reducible refine below_drewN ?_ _) | (with_reducible refine Below.drew ?_) | (with_reducible refine Below.alloc ?_ ?_ _) | (with_reducible refine Below.setCell ?_ ?_ _) | (refine below_trans ?_ (by assumption)) | go_size))); have z2n := ZL.below (w' := wn) z2d (by (repeat' (first | (with_reducible assumption) | (with_reducible exact Below.refl _ _) | (with_reducible refine below_al ?_ _) | (with_reducible refine below_drewN ?_ _) | (with_reducible refine Below.drew ?_) | (with_reducible refine Below.alloc ?_ ?_ _) | (with_reducible refine Below.setCell ?_ ?_ _) | (refine below_trans ?_ (by assumption)) | go_size))); have h1n := Nz.below (w' := wn) h1 (by (repeat' (first | (with_reducible assumption) | (with_reducible exact Below.refl _ _) | (with_reducible refine below_al ?_ _) | (with_reducible refine below_drewN ?_ _) | (with_reducible refine Below.drew ?_) | (with_reducible refine Below.alloc ?_ ?_ _) | (with_reducible refine Below.setCell ?_ ?_ _) | (refine below_trans ?_ (by assumption)) | go_size))); have ybn : Below w.heap.size w wn := (by (repeat' (first | (with_reducible assumption) | (with_reducible exact Below.refl _ _) | (with_reducible refine below_al ?_ _) | (with_reducible refine below_drewN ?_ _) | (with_reducible refine Below.drew ?_) | (with_reducible refine Below.alloc ?_ ?_ _) | (with_reducible refine Below.setCell ?_ ?_ _) | (refine below_trans ?_ (by assumption)) | go_size))); have k0 := zXn.1; have k1 := zXn.2.1; have f0 := zXn.2.2.1; have f1 := zXn.2.2.2.1))
    all_goals
      have hsX := zXn.2.2.2.2
      have zY2 := (zYn.far ⟨(w.heap.size + 1 + 1 + 1 + 1), 0, none⟩ (.bool (zneg (x * pw d))) (by first | omega | (simp; done) | (simp; omega))).far ⟨(w.heap.size + 1 + 1 + 1 + 1), 1, none⟩ (.slice aon (zl (x * pw d)).length capn) (by first | omega | (simp; done) | (simp; omega))
      have hN2 := (hNn.setCell hsX (by decide) 0 (.bool (zneg (x * pw d)))).setCell (hsX.setCell _ _) (by decide) 1 (.slice aon (zl (x * pw d)).length capn)
      have kB2 := zBn.2.1
      obtain ⟨kY0n, kY1n, -, -, -⟩ := zYn
      obtain ⟨k10, k11, f10, f11, hsR1⟩ := z1n
      obtain ⟨k20, k21, f20, f21, hsR2⟩ := z2n
      go_wp2_with fail
      go_region
      all_goals
        go_wp2_with fail
        refine bodyPost_ret (by simp [results, Tryd.results122, go_sem, k10, k11, k20, k21]; try rfl) rfl ?_
        exact ⟨_, _, _, _, rfl, ((hN2.set2 (hsR1.set2 _ _ _) hne _ _).set2 ((hsR2.set2 _ _ _).set2 _ _ _) hne _ _).drew, (((h1n.set2 hsX hne _ _).set2 (hsR1.set2 _ _ _) hne _ _).set2 ((hsR2.set2 _ _ _).set2 _ _ _) hne _ _).drew, by (repeat' (first | (with_reducible assumption) | (with_reducible exact Below.refl _ _) | (with_reducible refine below_al ?_ _) | (with_reducible refine below_drewN ?_ _) | (with_reducible refine Below.drew ?_) | (with_reducible refine Below.alloc ?_ ?_ _) | (with_reducible refine Below.setCell ?_ ?_ _) | (refine below_trans ?_ (by assumption)) | go_size))⟩
  · refine wp_world (fun W => QL 42 W w.heap.size (zneg x) (.slice a0 (zl x).length c0) ta ∧ QL 42 W (w.heap.size + 1) (zneg y) (.slice a1 (zl y).length c1) tb ∧ ZL 40 W (w.heap.size + 1 + 1) false (.slice none 0 0) ∧ ZL 40 W (w.heap.size + 1 + 1 + 1) false (.slice none 0 0) ∧ ZL 40 W (w.heap.size + 1 + 1 + 1 + 1 + 1) (zneg x) (.slice a0 (zl x).length c0) ∧ ZL 40 W (w.heap.size + 1 + 1 + 1 + 1) (zneg y) (.slice a1 (zl y).length c1) ∧ Below w.heap.size w W) ⟨QL.drew ((((((QL.made rfl).alloc _).alloc _).alloc _).alloc _).alloc _), QL.drew (((((QL.made (by first | omega | (simp; done) | (simp; omega))).alloc _).alloc _).alloc _).alloc _), ZL.drew ((((ZL.made (by first | omega | (simp; done) | (simp; omega))).alloc _).alloc _).alloc _), ZL.drew (((ZL.made (by first | omega | (simp; done) | (simp; omega))).alloc _).alloc _), ZL.drew (ZL.made (by first | omega | (simp; done) | (simp; omega))), ZL.drew ((ZL.made (by first | omega | (simp; done) | (simp; omega))).alloc _), by (repeat' (first | (with_reducible exact Below.refl _ _) | (with_reducible assumption) | (with_reducible refine below_drewN ?_ _) | (with_reducible refine Below.drew ?_) | (with_reducible refine Below.alloc ?_ ?_ _) | (with_reducible refine Below.setCell ?_ ?_ _) | go_size))⟩ ?_
    rintro W ⟨zA, zB, z1, z2, zX, zY, yb⟩
    have zAd := zA.drew
    have zBd := zB.drew
    have z1d := z1.drew
    have z2d := z2.drew
    have zXd := zX.drew
    have zYd := zY.drew
    have ybd := yb.drew
    obtain ⟨⟨kA0, kA1, -, -, -⟩, kA2, -⟩ := zA
    obtain ⟨kX0, kX1, fX0, fX1, -⟩ := zX
    obtain ⟨kY0, kY1, -, -, -⟩ := zY
    go_region_with (first | (go_at_call 104; (with_reducible refine (zpow_any d _ (by omega)).mono ?_); rintro e wn ⟨aon, capn, rfl, hNn, hbn⟩; have h0n := Nz.below (w' := wn) h0 (by (repeat' (first | (with_reducible assumption) | (with_reducible exact Below.refl _ _) | (with_reducible refine below_al ?_ _) | (with_reducible refine below_drewN ?_ _) | (with_reducible refine Below.drew ?_) | (with_reducible refine Below.alloc ?_ ?_ _) | (with_reducible refine Below.setCell ?_ ?_ _) | (refine below_trans ?_ (by assumption)) | go_size))); have zXn := ZL.below (w' := wn) zXd (by (repeat' (first | (with_reducible assumption) | (with_reducible exact Below.refl _ _) | (with_reducible refine below_al ?_ _) | (with_reducible refine below_drewN ?_ _) | (with_reducible refine Below.drew ?_) | (with_reducible refine Below.alloc ?_ ?_ _) | (with_reducible refine Below.setCell ?_ ?_ _) | (refine below_trans ?_ (by assumption)) | go_size))); have kn0 := zXn.1; have kn1 := zXn.2.1) | (go_at_call 106; (with_reducible refine (zmul_any _ _ _ _ _ _ _ (by assumption) (by assumption) hl (Nat.le_trans (zl_len_pw _) (by omega))).mono ?_); rintro e wn ⟨aon, capn, rfl, hNn, hbn⟩; have zXn := ZL.below (w' := wn) zXd (by (repeat' (first | (with_reducible assumption) | (with_reducible exact Below.refl _ _) | (with_reducible refine below_al ?_ _) | (with_reducible refine below_drewN ?_ _) | (with_reducible refine Below.drew ?_) | (with_reducible refine Below.alloc ?_ ?_ _) | (with_reducible refine Below.setCell ?_ ?_ _) | (refine below_trans ?_ (by assumption)) | go_size))); have zYn := ZL.below (w' := wn) zYd (by (repeat' (first | (with_reducible assumption) | (with_reducible exact Below.refl _ _) | (with_reducible refine below_al ?_ _) | (with_reducible refine below_drewN ?_ _) | (with_reducible refine Below.drew ?_) | (with_reducible refine Below.alloc ?_ ?_ _) | (with_reducible refine Below.setCell ?_ ?_ _) | (refine below_trans ?_ (by assumption)) | go_size))); have zBn := QL.below (w' := wn) zBd (by (repeat' (first | (with_reducible assumption) | (with_reducible exact Below.refl _ _) | (with_reducible refine below_al ?_ _) | (with_reducible refine below_drewN ?_ _) | (with_reducible refine Below.drew ?_) | (with_reducible refine Below.alloc ?_ ?_ _) | (with_reducible refine Below.setCell ?_ ?_ _) | (refine below_trans ?_ (by assumption)) | go_size))); have z1n := ZL.below (w' := wn) z1d (by (repeat' (first | (with_reducible assumption) | (with_reducible exact Below.refl _ _) | (with_reducible refine below_al ?_ _) | (with_reducible refine below_drewN ?_ _) | (with_reducible refine Below.drew ?_) | (with_reducible refine Below.alloc ?_ ?_ _) | (with_reducible refine Below.setCell ?_ ?_ _) | (refine below_trans ?_ (by assumption)) | go_size))); have z2n := ZL.below (w' := wn) z2d (by (repeat' (first | (with_reducible assumption) | (with_reducible exact Below.refl _ _) | (with_reducible refine below_al ?_ _) | (with_reducible refine below_drewN ?_ _) | (with_reducible refine Below.drew ?_) | (with_reducible refine Below.alloc ?_ ?_ _) | (with_reducible refine Below.setCell ?_ ?_ _) | (refine below_trans ?_ (by assumption)) | go_size))); have h1n := Nz.below (w' := wn) h1 (by (repeat' (first | (with_reducible assumption) | (with_reducible exact Below.refl _ _) | (with_reducible refine below_al ?_ _) | (with_reducible refine below_drewN ?_ _) | (with_reducible refine Below.drew ?_) | (with_reducible refine Below.alloc ?_ ?_ _) | (with_reducible refine Below.setCell ?_ ?_ _) | (refine below_trans ?_ (by assumption)) | go_size))); have ybn : Below w.heap.size w wn := (by (repeat' (first | (with_reducible assumption) | (with_reducible exact Below.refl _ _) | (with_reducible refine below_al ?_ _) | (with_reducible refine below_drewN ?_ _) | (with_reducible refine Below.drew ?_) | (with_reducible refine Below.alloc ?_ ?_ _) | (with_reducible refine Below.setCell ?_ ?_ _) | (refine below_trans ?_ (by assumption)) | go_size))); have k0 := zXn.1; have k1 := zXn.2.1; have f0 := zXn.2.2.1; have f1 := zXn.2.2.2.1))
    all_goals
      have hsX := zXn.2.2.2.2
      have zY2 := (zYn.far ⟨(w.heap.size + 1 + 1 + 1 + 1 + 1), 0, none⟩ (.bool (zneg (x * pw d))) (by first | omega | (simp; done) | (simp; omega))).far ⟨(w.heap.size + 1 + 1 + 1 + 1 + 1), 1, none⟩ (.slice aon (zl (x * pw d)).length capn) (by first | omega | (simp; done) | (simp; omega))
      have hN2 := (hNn.setCell hsX (by decide) 0 (.bool (zneg (x * pw d)))).setCell (hsX.setCell _ _) (by decide) 1 (.slice aon (zl (x * pw d)).length capn)
      have kB2 := zBn.2.1
      obtain ⟨kY0n, kY1n, -, -, -⟩ := zYn
      obtain ⟨k10, k11, f10, f11, hsR1⟩ := z1n
      obtain ⟨k20, k21, f20, f21, hsR2⟩ := z2n
      go_wp2_with fail
      go_region
      all_goals
        go_wp2_with fail
        refine bodyPost_ret (by simp [results, Tryd.results122, go_sem, k10, k11, k20, k21]; try rfl) rfl ?_
        exact ⟨_, _, _, _, rfl, ((hN2.set2 (hsR1.set2 _ _ _) hne _ _).set2 ((hsR2.set2 _ _ _).set2 _ _ _) hne _ _).drew, (((h1n.set2 hsX hne _ _).set2 (hsR1.set2 _ _ _) hne _ _).set2 ((hsR2.set2 _ _ _).set2 _ _ _) hne _ _).drew, by (repeat' (first | (with_reducible assumption) | (with_reducible exact Below.refl _ _) | (with_reducible refine below_al ?_ _) | (with_reducible refine below_drewN ?_ _) | (with_reducible refine Below.drew ?_) | (with_reducible refine Below.alloc ?_ ?_ _) | (with_reducible refine Below.setCell ?_ ?_ _) | (refine below_trans ?_ (by assumption)) | go_size))⟩
theorem level_gt (a0 a1 : Option Addr) (c0 c1 : Nat) (x y : Int) (ta tb d : Nat) (w : World) (h0 : Nz 3 w a0 c0 (zl x)) (h1 : Nz 3 w a1 c1 (zl y)) (hd : ta = tb + d) (hp : 0 < d) (hl : (zl y).length ≤ 1073741824) (hs : d ≤ 100000000) (hs2 : ta ≤ 1000000000000) :
    Calls Tryd.prog 122 #[.agg #[.bool (zneg x), .slice a0 (zl x).length c0, .int .i64 (ta : Int)], .agg #[.bool (zneg y), .slice a1 (zl y).length c1, .int .i64 (tb : Int)]] w fun e w' => RetL 3 w x (y * pw d) ta e w' := by
  have hm : max (ta : Int) (tb : Int) = ta := by omega
  have hd2 : (ta : Int) - (tb : Int) = (d : Int) := by omega
  have hlt : (tb : Int) < (ta : Int) := by omega
  have hw : IntKind.i64.wrap (d : Int) = (d : Int) := IntWalk.i64_in _ (by omega)
  have hne : (40 : TypeId) ≠ 3 := by decide
  clear hd
  go_enter Tryd.func122, Tryd.ntmps122
  go_wp2_with fail
  go_region
  all_goals go_wp2_with fail
  · refine wp_world (fun W => QL 42 W w.heap.size (zneg x) (.slice a0 (zl x).length c0) ta ∧ QL 42 W (w.heap.size + 1) (zneg y) (.slice a1 (zl y).length c1) tb ∧ ZL 40 W (w.heap.size + 1 + 1) false (.slice none 0 0) ∧ ZL 40 W (w.heap.size + 1 + 1 + 1) false (.slice none 0 0) ∧ ZL 40 W (w.heap.size + 1 + 1 + 1 + 1) (zneg x) (.slice a0 (zl x).length c0) ∧ ZL 40 W (w.heap.size + 1 + 1 + 1 + 1 + 1) (zneg y) (.slice a1 (zl y).length c1) ∧ Below w.heap.size w W) ⟨QL.drew ((((((QL.made rfl).alloc _).alloc _).alloc _).alloc _).alloc _), QL.drew (((((QL.made (by first | omega | (simp; done) | (simp; omega))).alloc _).alloc _).alloc _).alloc _), ZL.drew ((((ZL.made (by first | omega | (simp; done) | (simp; omega))).alloc _).alloc _).alloc _), ZL.drew (((ZL.made (by first | omega | (simp; done) | (simp; omega))).alloc _).alloc _), ZL.drew ((ZL.made (by first | omega | (simp; done) | (simp; omega))).alloc _), ZL.drew (ZL.made (by first | omega | (simp; done) | (simp; omega))), by (repeat' (first | (with_reducible exact Below.refl _ _) | (with_reducible assumption) | (with_reducible refine below_drewN ?_ _) | (with_reducible refine Below.drew ?_) | (with_reducible refine Below.alloc ?_ ?_ _) | (with_reducible refine Below.setCell ?_ ?_ _) | go_size))⟩ ?_
    rintro W ⟨zA, zB, z1, z2, zX, zY, yb⟩
    have zAd := zA.drew
    have zBd := zB.drew
    have z1d := z1.drew
    have z2d := z2.drew
    have zXd := zX.drew
    have zYd := zY.drew
    have ybd := yb.drew
    obtain ⟨⟨kA0, kA1, -, -, -⟩, kA2, -⟩ := zA
    obtain ⟨⟨kB0, kB1, -, -, -⟩, kB2, -⟩ := zB
    obtain ⟨kX0, kX1, -, -, -⟩ := zX
    obtain ⟨kY0, kY1, fY0, fY1, -⟩ := zY
    go_wp2_with fail
    go_region_with (first | (go_at_call 104; (with_reducible refine (zpow_any d _ (by omega)).mono ?_); rintro e wn ⟨aon, capn, rfl, hNn, hbn⟩; have h1n := Nz.below (w' := wn) h1 (by (repeat' (first | (with_reducible assumption) | (with_reducible exact Below.refl _ _) | (with_reducible refine below_al ?_ _) | (with_reducible refine below_drewN ?_ _) | (with_reducible refine Below.drew ?_) | (with_reducible refine Below.alloc ?_ ?_ _) | (with_reducible refine Below.setCell ?_ ?_ _) | (refine below_trans ?_ (by assumption)) | go_size))); have zYn := ZL.below (w' := wn) zYd (by (repeat' (first | (with_reducible assumption) | (with_reducible exact Below.refl _ _) | (with_reducible refine below_al ?_ _) | (with_reducible refine below_drewN ?_ _) | (with_reducible refine Below.drew ?_) | (with_reducible refine Below.alloc ?_ ?_ _) | (with_reducible refine Below.setCell ?_ ?_ _) | (refine below_trans ?_ (by assumption)) | go_size))); have kn0 := zYn.1; have kn1 := zYn.2.1) | (go_at_call 106; (with_reducible refine (zmul_any _ _ _ _ _ _ _ (by assumption) (by assumption) hl (Nat.le_trans (zl_len_pw _) (by omega))).mono ?_); rintro e wn ⟨aon, capn, rfl, hNn, hbn⟩; have zXn := ZL.below (w' := wn) zXd (by (repeat' (first | (with_reducible assumption) | (with_reducible exact Below.refl _ _) | (with_reducible refine below_al ?_ _) | (with_reducible refine below_drewN ?_ _) | (with_reducible refine Below.drew ?_) | (with_reducible refine Below.alloc ?_ ?_ _) | (with_reducible refine Below.setCell ?_ ?_ _) | (refine below_trans ?_ (by assumption)) | go_size))); have zYn := ZL.below (w' := wn) zYd (by (repeat' (first | (with_reducible assumption) | (with_reducible exact Below.refl _ _) | (with_reducible refine below_al ?_ _) | (with_reducible refine below_drewN ?_ _) | (with_reducible refine Below.drew ?_) | (with_reducible refine Below.alloc ?_ ?_ _) | (with_reducible refine Below.setCell ?_ ?_ _) | (refine below_trans ?_ (by assumption)) | go_size))); have z1n := ZL.below (w' := wn) z1d (by (repeat' (first | (with_reducible assumption) | (with_reducible exact Below.refl _ _) | (with_reducible refine below_al ?_ _) | (with_reducible refine below_drewN ?_ _) | (with_reducible refine Below.drew ?_) | (with_reducible refine Below.alloc ?_ ?_ _) | (with_reducible refine Below.setCell ?_ ?_ _) | (refine below_trans ?_ (by assumption)) | go_size))); have z2n := ZL.below (w' := wn) z2d (by (repeat' (first | (with_reducible assumption) | (with_reducible exact Below.refl _ _) | (with_reducible refine below_al ?_ _) | (with_reducible refine below_drewN ?_ _) | (with_reducible refine Below.drew ?_) | (with_reducible refine Below.alloc ?_ ?_ _) | (with_reducible refine Below.setCell ?_ ?_ _) | (refine below_trans ?_ (by assumption)) | go_size))); have h0n := Nz.below (w' := wn) h0 (by (repeat' (first | (with_reducible assumption) | (with_reducible exact Below.refl _ _) | (with_reducible refine below_al ?_ _) | (with_reducible refine below_drewN ?_ _) | (with_reducible refine Below.drew ?_) | (with_reducible refine Below.alloc ?_ ?_ _) | (with_reducible refine Below.setCell ?_ ?_ _) | (refine below_trans ?_ (by assumption)) | go_size))); have ybn : Below w.heap.size w wn := (by (repeat' (first | (with_reducible assumption) | (with_reducible exact Below.refl _ _) | (with_reducible refine below_al ?_ _) | (with_reducible refine below_drewN ?_ _) | (with_reducible refine Below.drew ?_) | (with_reducible refine Below.alloc ?_ ?_ _) | (with_reducible refine Below.setCell ?_ ?_ _) | (refine below_trans ?_ (by assumption)) | go_size))); have k0 := zYn.1; have k1 := zYn.2.1; have f0 := zYn.2.2.1; have f1 := zYn.2.2.2.1))
    all_goals
      have hsY := zYn.2.2.2.2
      have hN2 := (hNn.setCell hsY hne 0 (.bool (zneg (y * pw d)))).setCell (hsY.setCell _ _) hne 1 (.slice aon (zl (y * pw d)).length capn)
      obtain ⟨kX0n, kX1n, -, -, -⟩ := zXn
      obtain ⟨k10, k11, f10, f11, hsR1⟩ := z1n
      obtain ⟨k20, k21, f20, f21, hsR2⟩ := z2n
      go_wp2_with fail
      go_region
      all_goals
        go_wp2_with fail
        refine bodyPost_ret (by simp [results, Tryd.results122, go_sem, k10, k11, k20, k21]; try rfl) rfl ?_
        exact ⟨_, _, _, _, rfl, (((h0n.set2 hsY hne _ _).set2 (hsR1.set2 _ _ _) hne _ _).set2 ((hsR2.set2 _ _ _).set2 _ _ _) hne _ _).drew, ((hN2.set2 (hsR1.set2 _ _ _) hne _ _).set2 ((hsR2.set2 _ _ _).set2 _ _ _) hne _ _).drew, by (repeat' (first | (with_reducible assumption) | (with_reducible exact Below.refl _ _) | (with_reducible refine below_al ?_ _) | (with_reducible refine below_drewN ?_ _) | (with_reducible refine Below.drew ?_) | (with_reducible refine Below.alloc ?_ ?_ _) | (with_reducible refine Below.setCell ?_ ?_ _) | (refine below_trans ?_ (by assumption)) | go_size))⟩
  · refine wp_world (fun W => QL 42 W w.heap.size (zneg x) (.slice a0 (zl x).length c0) ta ∧ QL 42 W (w.heap.size + 1) (zneg y) (.slice a1 (zl y).length c1) tb ∧ ZL 40 W (w.heap.size + 1 + 1) false (.slice none 0 0) ∧ ZL 40 W (w.heap.size + 1 + 1 + 1) false (.slice none 0 0) ∧ ZL 40 W (w.heap.size + 1 + 1 + 1 + 1 + 1) (zneg x) (.slice a0 (zl x).length c0) ∧ ZL 40 W (w.heap.size + 1 + 1 + 1 + 1) (zneg y) (.slice a1 (zl y).length c1) ∧ Below w.heap.size w W) ⟨QL.drew ((((((QL.made rfl).alloc _).alloc _).alloc _).alloc _).alloc _), QL.drew (((((QL.made (by first | omega | (simp; done) | (simp; omega))).alloc _).alloc _).alloc _).alloc _), ZL.drew ((((ZL.made (by first | omega | (simp; done) | (simp; omega))).alloc _).alloc _).alloc _), ZL.drew (((ZL.made (by first | omega | (simp; done) | (simp; omega))).alloc _).alloc _), ZL.drew (ZL.made (by first | omega | (simp; done) | (simp; omega))), ZL.drew ((ZL.made (by first | omega | (simp; done) | (simp; omega))).alloc _), by (repeat' (first | (with_reducible exact Below.refl _ _) | (with_reducible assumption) | (with_reducible refine below_drewN ?_ _) | (with_reducible refine Below.drew ?_) | (with_reducible refine Below.alloc ?_ ?_ _) | (with_reducible refine Below.setCell ?_ ?_ _) | go_size))⟩ ?_
    rintro W ⟨zA, zB, z1, z2, zX, zY, yb⟩
    have zAd := zA.drew
    have zBd := zB.drew
    have z1d := z1.drew
    have z2d := z2.drew
    have zXd := zX.drew
    have zYd := zY.drew
    have ybd := yb.drew
    obtain ⟨⟨kA0, kA1, -, -, -⟩, kA2, -⟩ := zA
    obtain ⟨⟨kB0, kB1, -, -, -⟩, kB2, -⟩ := zB
    obtain ⟨kX0, kX1, -, -, -⟩ := zX
    obtain ⟨kY0, kY1, fY0, fY1, -⟩ := zY
    go_wp2_with fail
    go_region_with (first | (go_at_call 104; (with_reducible refine (zpow_any d _ (by omega)).mono ?_); rintro e wn ⟨aon, capn, rfl, hNn, hbn⟩; have h1n := Nz.below (w' := wn) h1 (by (repeat' (first | (with_reducible assumption) | (with_reducible exact Below.refl _ _) | (with_reducible refine below_al ?_ _) | (with_reducible refine below_drewN ?_ _) | (with_reducible refine Below.drew ?_) | (with_reducible refine Below.alloc ?_ ?_ _) | (with_reducible refine Below.setCell ?_ ?_ _) | (refine below_trans ?_ (by assumption)) | go_size))); have zYn := ZL.below (w' := wn) zYd (by (repeat' (first | (with_reducible assumption) | (with_reducible exact Below.refl _ _) | (with_reducible refine below_al ?_ _) | (with_reducible refine below_drewN ?_ _) | (with_reducible refine Below.drew ?_) | (with_reducible refine Below.alloc ?_ ?_ _) | (with_reducible refine Below.setCell ?_ ?_ _) | (refine below_trans ?_ (by assumption)) | go_size))); have kn0 := zYn.1; have kn1 := zYn.2.1) | (go_at_call 106; (with_reducible refine (zmul_any _ _ _ _ _ _ _ (by assumption) (by assumption) hl (Nat.le_trans (zl_len_pw _) (by omega))).mono ?_); rintro e wn ⟨aon, capn, rfl, hNn, hbn⟩; have zXn := ZL.below (w' := wn) zXd (by (repeat' (first | (with_reducible assumption) | (with_reducible exact Below.refl _ _) | (with_reducible refine below_al ?_ _) | (with_reducible refine below_drewN ?_ _) | (with_reducible refine Below.drew ?_) | (with_reducible refine Below.alloc ?_ ?_ _) | (with_reducible refine Below.setCell ?_ ?_ _) | (refine below_trans ?_ (by assumption)) | go_size))); have zYn := ZL.below (w' := wn) zYd (by (repeat' (first | (with_reducible assumption) | (with_reducible exact Below.refl _ _) | (with_reducible refine below_al ?_ _) | (with_reducible refine below_drewN ?_ _) | (with_reducible refine Below.drew ?_) | (with_reducible refine Below.alloc ?_ ?_ _) | (with_reducible refine Below.setCell ?_ ?_ _) | (refine below_trans ?_ (by assumption)) | go_size))); have z1n := ZL.below (w' := wn) z1d (by (repeat' (first | (with_reducible assumption) | (with_reducible exact Below.refl _ _) | (with_reducible refine below_al ?_ _) | (with_reducible refine below_drewN ?_ _) | (with_reducible refine Below.drew ?_) | (with_reducible refine Below.alloc ?_ ?_ _) | (with_reducible refine Below.setCell ?_ ?_ _) | (refine below_trans ?_ (by assumption)) | go_size))); have z2n := ZL.below (w' := wn) z2d (by (repeat' (first | (with_reducible assumption) | (with_reducible exact Below.refl _ _) | (with_reducible refine below_al ?_ _) | (with_reducible refine below_drewN ?_ _) | (with_reducible refine Below.drew ?_) | (with_reducible refine Below.alloc ?_ ?_ _) | (with_reducible refine Below.setCell ?_ ?_ _) | (refine below_trans ?_ (by assumption)) | go_size))); have h0n := Nz.below (w' := wn) h0 (by (repeat' (first | (with_reducible assumption) | (with_reducible exact Below.refl _ _) | (with_reducible refine below_al ?_ _) | (with_reducible refine below_drewN ?_ _) | (with_reducible refine Below.drew ?_) | (with_reducible refine Below.alloc ?_ ?_ _) | (with_reducible refine Below.setCell ?_ ?_ _) | (refine below_trans ?_ (by assumption)) | go_size))); have ybn : Below w.heap.size w wn := (by (repeat' (first | (with_reducible assumption) | (with_reducible exact Below.refl _ _) | (with_reducible refine below_al ?_ _) | (with_reducible refine below_drewN ?_ _) | (with_reducible refine Below.drew ?_) | (with_reducible refine Below.alloc ?_ ?_ _) | (with_reducible refine Below.setCell ?_ ?_ _) | (refine below_trans ?_ (by assumption)) | go_size))); have k0 := zYn.1; have k1 := zYn.2.1; have f0 := zYn.2.2.1; have f1 := zYn.2.2.2.1))
    all_goals
      have hsY := zYn.2.2.2.2
      have hN2 := (hNn.setCell hsY hne 0 (.bool (zneg (y * pw d)))).setCell (hsY.setCell _ _) hne 1 (.slice aon (zl (y * pw d)).length capn)
      obtain ⟨kX0n, kX1n, -, -, -⟩ := zXn
      obtain ⟨k10, k11, f10, f11, hsR1⟩ := z1n
      obtain ⟨k20, k21, f20, f21, hsR2⟩ := z2n
      go_wp2_with fail
      go_region
      all_goals
        go_wp2_with fail
        refine bodyPost_ret (by simp [results, Tryd.results122, go_sem, k10, k11, k20, k21]; try rfl) rfl ?_
        exact ⟨_, _, _, _, rfl, (((h0n.set2 hsY hne _ _).set2 (hsR1.set2 _ _ _) hne _ _).set2 ((hsR2.set2 _ _ _).set2 _ _ _) hne _ _).drew, ((hN2.set2 (hsR1.set2 _ _ _) hne _ _).set2 ((hsR2.set2 _ _ _).set2 _ _ _) hne _ _).drew, by (repeat' (first | (with_reducible assumption) | (with_reducible exact Below.refl _ _) | (with_reducible refine below_al ?_ _) | (with_reducible refine below_drewN ?_ _) | (with_reducible refine Below.drew ?_) | (with_reducible refine Below.alloc ?_ ?_ _) | (with_reducible refine Below.setCell ?_ ?_ _) | (refine below_trans ?_ (by assumption)) | go_size))⟩
end Go.Proofs.YteaakbeemhmciaaDoor
