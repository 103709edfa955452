/- The reference's numbers over a power of two: made, turned, shifted; the values of floating numbers and of Dyads. -/
import Derived.Test.YteaakbeemhmciaaDoorQ3
import Derived.Test.YteaakbeemhmciaaDoorFloat
import Derived.Test.YteaakbeemhmciaaDoorRv
namespace Go.Ulp
open Go.RowKit
/-- the mantissa of a floating number, its exponent, its value -/
def mantOf (x : Int) : Int := if 0 < expOf x then fracOf x + 4503599627370496 else fracOf x
def dexp (x : Int) : Int := max (expOf x) 1 - 1075
def fv (x : Int) : Dy := nrm (sg (negB x) (mantOf x)) (dexp x)
theorem mantOf_bd (x : Int) : 0 ≤ mantOf x ∧ mantOf x < 9007199254740992 := by have := fracOf_bd x; unfold mantOf; split <;> omega
theorem dexp_bd (x : Int) : -1074 ≤ dexp x ∧ dexp x ≤ 972 := by have := expOf_bd x; unfold dexp; omega
theorem nrm_qneg (x : Int) (n : Int) (k : Nat) (h : n = -(k : Int)) : nrm x (-(k : Int)) = nrm x n := by rw [h]
end Go.Ulp
namespace Go.Proofs.YteaakbeemhmciaaDoor
open Go.RowKit Go.Ulp
set_option linter.unusedVariables false
set_option linter.unusedSimpArgs false
set_option maxHeartbeats 1000000
set_option maxRecDepth 100000
theorem qmake_any (a0 : Option Addr) (c0 : Nat) (x : Int) (n : Int) (A E : Nat) (w : World) (h0 : Nz 3 w a0 c0 (zl x)) (hx : x.natAbs < 2 ^ A) (hA : A ≤ 1000000000) (hn : -(E : Int) ≤ n ∧ n ≤ E) (hE : E ≤ 1000000) :
    Calls Tryd.prog 30 #[.agg #[.bool (zneg x), .slice a0 (zl x).length c0], .int .i64 n] w fun e w' => RetQD 3 w (nrm x n) (A + E) E e w' := by
  have lx := zl_len_bits x A hx
  by_cases h : n < 0
  · have e1 : -n = (((-n).toNat : Nat) : Int) := by omega
    refine (qmake_neg a0 c0 x n w h0 h (by omega)).mono ?_
    intro e w' hr
    rw [e1] at hr
    exact hr.qd (by congr 1; omega) (abs_weak hx (by omega)) (by omega)
  · obtain ⟨k, rfl⟩ := Int.eq_ofNat_of_zero_le (show 0 ≤ n by omega)
    refine (qmake_pos a0 c0 x k w h0 (by omega) (by omega)).mono ?_
    intro e w' hr
    exact RetQ.qd (n := 0) hr (by rw [nrm_scale]; congr 1; omega) (abs_weak (abs_mul_pw_lt hx) (by omega)) (by omega)
theorem qneg_any (v : Value) (D : Dy) (A T : Nat) (w : World) (hv : QD 3 w D A T v) (hA : A ≤ 100000000) (hT : T ≤ 100000000) :
    Calls Tryd.prog 39 #[v] w fun e w' => RetQD 3 w (negD D) A T e w' := by
  obtain ⟨x, n, a0, c0, rfl, h0, hD, hxA, hn⟩ := hv
  have hD' := hid (show nrm (-x) (-(n : Int)) = negD D by rw [← hD, nrm_neg])
  have hA' := hid (show (-x).natAbs < 2 ^ A by rw [Int.natAbs_neg]; exact hxA)
  clear hD hxA
  go_enter Tryd.func39, Tryd.ntmps39
  go_wp2_with fail
  have zR0 : QL 42 ((w.alloc (.cells #[.bool (zneg x), .slice a0 (zl x).length c0, .int .i64 (n : Int)] 42)).alloc (.cells #[.bool false, .slice none 0 0, .int .i64 0] 42)) (w.heap.size + 1) false (.slice none 0 0) 0 := QL.made (by first | omega | (simp; done) | (simp; omega))
  have zA0 : QL 42 ((w.alloc (.cells #[.bool (zneg x), .slice a0 (zl x).length c0, .int .i64 (n : Int)] 42)).alloc (.cells #[.bool false, .slice none 0 0, .int .i64 0] 42)) w.heap.size (zneg x) (.slice a0 (zl x).length c0) n := (QL.made rfl).alloc _
  have zR := zR0.drew
  have zA := zA0.drew
  have yb : Below w.heap.size w ((w.alloc (.cells #[.bool (zneg x), .slice a0 (zl x).length c0, .int .i64 (n : Int)] 42)).alloc (.cells #[.bool false, .slice none 0 0, .int .i64 0] 42)).drew := by (repeat' (first | (with_reducible assumption) | (with_reducible exact Below.refl _ _) | (with_reducible refine below_al ?_ _) | (with_reducible refine below_drewN ?_ _) | (with_reducible refine Below.drew ?_) | (with_reducible refine Below.alloc ?_ ?_ _) | (with_reducible refine Below.setCell ?_ ?_ _) | (refine below_trans ?_ (by assumption)) | go_size))
  clear zR0 zA0
  go_region_with (go_at_call 29; refine (zneg_any _ _ _ _ (h0.below (by (repeat' (first | (with_reducible assumption) | (with_reducible exact Below.refl _ _) | (with_reducible refine below_al ?_ _) | (with_reducible refine below_drewN ?_ _) | (with_reducible refine Below.drew ?_) | (with_reducible refine Below.alloc ?_ ?_ _) | (with_reducible refine Below.setCell ?_ ?_ _) | (refine below_trans ?_ (by assumption)) | go_size))))).mono ?_; rintro e wn ⟨aon, capn, rfl, hNn, hbn⟩; have zRn := QL.below (w' := wn) zR (by (repeat' (first | (with_reducible assumption) | (with_reducible exact Below.refl _ _) | (with_reducible refine below_al ?_ _) | (with_reducible refine below_drewN ?_ _) | (with_reducible refine Below.drew ?_) | (with_reducible refine Below.alloc ?_ ?_ _) | (with_reducible refine Below.setCell ?_ ?_ _) | (refine below_trans ?_ (by assumption)) | go_size))); have zAn := QL.below (w' := wn) zA (by (repeat' (first | (with_reducible assumption) | (with_reducible exact Below.refl _ _) | (with_reducible refine below_al ?_ _) | (with_reducible refine below_drewN ?_ _) | (with_reducible refine Below.drew ?_) | (with_reducible refine Below.alloc ?_ ?_ _) | (with_reducible refine Below.setCell ?_ ?_ _) | (refine below_trans ?_ (by assumption)) | go_size))); have ybn : Below w.heap.size w wn := (by (repeat' (first | (with_reducible assumption) | (with_reducible exact Below.refl _ _) | (with_reducible refine below_al ?_ _) | (with_reducible refine below_drewN ?_ _) | (with_reducible refine Below.drew ?_) | (with_reducible refine Below.alloc ?_ ?_ _) | (with_reducible refine Below.setCell ?_ ?_ _) | (refine below_trans ?_ (by assumption)) | go_size))); have k0 := zRn.1.1; have k1 := zRn.1.2.1; have f0 := zRn.1.2.2.1; have f1 := zRn.1.2.2.2.1; have k2 := zRn.2.1; have f2 := zRn.2.2; have j0 := zAn.1.1; have j1 := zAn.1.2.1; have j2 := zAn.2.1)
  all_goals
    have hs2 := zRn.1.2.2.2.2
    go_wp2_with fail
    refine bodyPost_ret (by simp [results, Tryd.results39, go_sem, k0, k1, k2]; try rfl) rfl ?_
    exact ⟨_, rfl, ⟨_, _, _, _, rfl, ((hNn.setCell hs2 (by decide) _ _).setCell (hs2.setCell _ _) (by decide) _ _).setCell ((hs2.setCell _ _).setCell _ _) (by decide) _ _, hD'.out, hA'.out, hn⟩, ((ybn.setCell (by first | omega | (simp; done) | (simp; omega)) _).setCell (by first | omega | (simp; done) | (simp; omega)) _).setCell (by first | omega | (simp; done) | (simp; omega)) _⟩
theorem qshift_any (v : Value) (D : Dy) (A T : Nat) (n : Int) (w : World) (hv : QD 3 w D A T v) (hA : A ≤ 100000000) (hT : T ≤ 200000) (hn1 : -200000 ≤ n) (hn2 : n ≤ 200000) :
    Calls Tryd.prog 47 #[v, .int .i64 n] w fun e w' => RetQD 3 w (shD D n) (A + 400000) 400000 e w' := by
  obtain ⟨x, t, a0, c0, rfl, h0, hD, hxA, hn⟩ := hv
  have hD' := hid (show nrm x (n - (t : Int)) = shD D n by rw [← hD, ← nrm_shift]; congr 1; omega)
  have hxA' := hid hxA
  clear hD hxA
  go_enter Tryd.func47, Tryd.ntmps47
  go_wp2_with fail
  have zR0 : QL 42 ((w.alloc (.cells #[.bool (zneg x), .slice a0 (zl x).length c0, .int .i64 (t : Int)] 42)).alloc (.cells #[.bool false, .slice none 0 0, .int .i64 0] 42)) (w.heap.size + 1) false (.slice none 0 0) 0 := QL.made (by first | omega | (simp; done) | (simp; omega))
  refine (qmake_any _ _ _ _ A 400000 _ (h0.below (by (repeat' (first | (with_reducible assumption) | (with_reducible exact Below.refl _ _) | (with_reducible refine below_al ?_ _) | (with_reducible refine below_drewN ?_ _) | (with_reducible refine Below.drew ?_) | (with_reducible refine Below.alloc ?_ ?_ _) | (with_reducible refine Below.setCell ?_ ?_ _) | (refine below_trans ?_ (by assumption)) | go_size)))) hxA'.out (by omega) ⟨by omega, by omega⟩ (by omega)).mono ?_
  rintro e w1 ⟨v1, rfl, ⟨y, s, b0, d0, rfl, hY, hE, hyA, hs⟩, hb⟩
  have zR := zR0.below hb
  have yb : Below w.heap.size w w1 := below_trans (by (repeat' (first | (with_reducible assumption) | (with_reducible exact Below.refl _ _) | (with_reducible refine below_al ?_ _) | (with_reducible refine below_drewN ?_ _) | (with_reducible refine Below.drew ?_) | (with_reducible refine Below.alloc ?_ ?_ _) | (with_reducible refine Below.setCell ?_ ?_ _) | (refine below_trans ?_ (by assumption)) | go_size))) hb
  rw [hD'.out] at hE
  have HE := hid hE
  have HYA := hid hyA
  clear zR0 hb hE hyA
  obtain ⟨⟨k0, k1, f0, f1, hs2⟩, k2, f2⟩ := zR
  go_wp2_with fail
  refine bodyPost_ret (by simp [results, Tryd.results47, go_sem, k0, k1, k2]; try rfl) rfl ?_
  exact ⟨_, rfl, ⟨_, _, _, _, rfl, ((hY.setCell hs2 (by decide) _ _).setCell (hs2.setCell _ _) (by decide) _ _).setCell ((hs2.setCell _ _).setCell _ _) (by decide) _ _, HE.out, HYA.out, hs⟩, ((yb.setCell (by first | omega | (simp; done) | (simp; omega)) _).setCell (by first | omega | (simp; done) | (simp; omega)) _).setCell (by first | omega | (simp; done) | (simp; omega)) _⟩
end Go.Proofs.YteaakbeemhmciaaDoor
