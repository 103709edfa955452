/- The values of floating numbers and of Dyads, as the reference has them. -/
import Derived.Test.YthaelmnblgollaaGreatDoorQ3
import Derived.Test.YthaelmnblgollaaGreatDoorFloat
import Derived.Test.YthaelmnblgollaaGreatDoorMem
import Derived.Test.YthaelmnblgollaaGreatDoorNat7
namespace Go.Ulp
open Go.RowKit
/-- the mantissa of a floating number, its exponent, its value -/
def mantOf (x : Int) : Int := if 0 < expOf x then fracOf x + 4503599627370496 else fracOf x
def dexp (x : Int) : Int := max (expOf x) 1 - 1075
def fv (x : Int) : Dy := nrm (sg (negB x) (mantOf x)) (dexp x)
theorem mantOf_bd (x : Int) : 0 ≤ mantOf x ∧ mantOf x < 9007199254740992 := by have := fracOf_bd x; unfold mantOf; split <;> omega
theorem dexp_bd (x : Int) : -1074 ≤ dexp x ∧ dexp x ≤ 972 := by have := expOf_bd x; unfold dexp; omega
theorem nrm_qneg (x : Int) (n : Int) (k : Nat) (h : n = -(k : Int)) : nrm x (-(k : Int)) = nrm x n := by rw [h]
end Go.Ulp
namespace Go.Proofs.YthaelmnblgollaaGreatDoor
open Go.RowKit Go.Ulp
set_option linter.unusedVariables false
set_option linter.unusedSimpArgs false
set_option maxHeartbeats 1000000
set_option maxRecDepth 100000
theorem qmake_any (a0 : Option Addr) (c0 : Nat) (x : Int) (n : Int) (A E : Nat) (w : World) (h0 : Nz 3 w a0 c0 (zl x)) (hx : x.natAbs < 2 ^ A) (hA : A ≤ 1000000000) (hn : -(E : Int) ≤ n ∧ n ≤ E) (hE : E ≤ 1000000) :
    Calls Tryz.prog 50 #[.agg #[.bool (zneg x), .slice a0 (zl x).length c0], .int .i64 n] w fun e w' => RetQD 3 w (nrm x n) (A + E) E e w' := by
  have lx := zl_len_bits x A hx
  by_cases h : n < 0
  · have e1 : -n = (((-n).toNat : Nat) : Int) := by omega
    refine (qmake_neg a0 c0 x n w h0 h (by omega)).mono ?_
    intro e w' hr
    rw [e1] at hr
    exact hr.qd (by congr 1; omega) (abs_weak hx (by omega)) (by omega)
  · obtain ⟨k, rfl⟩ := Int.eq_ofNat_of_zero_le (show 0 ≤ n by omega)
    refine (qmake_pos a0 c0 x k w h0 (by omega) (by omega)).mono ?_
    intro e w' hr
    exact RetQ.qd (n := 0) hr (by rw [nrm_scale]; congr 1; omega) (abs_weak (abs_mul_pw_lt hx) (by omega)) (by omega)
theorem qneg_any (v : Value) (D : Dy) (A T : Nat) (w : World) (hv : QD 3 w D A T v) (hA : A ≤ 100000000) (hT : T ≤ 100000000) :
    Calls Tryz.prog 29 #[v] w fun e w' => RetQD 3 w (negD D) A T e w' := by
  obtain ⟨x, n, a0, c0, rfl, h0, hD, hxA, hn⟩ := hv
  have hD' := hid (show nrm (-x) (-(n : Int)) = negD D by rw [← hD, nrm_neg])
  have hA' := hid (show (-x).natAbs < 2 ^ A by rw [Int.natAbs_neg]; exact hxA)
  clear hD hxA
  go_enter Tryz.func29, Tryz.ntmps29
  go_wp2_with fail
  have zR0 : QL 41 ((w.alloc (.cells #[.bool (zneg x), .slice a0 (zl x).length c0, .int .i64 (n : Int)] 41)).alloc (.cells #[.bool false, .slice none 0 0, .int .i64 0] 41)) (w.heap.size + 1) false (.slice none 0 0) 0 := QL.made (by first | omega | (simp; done) | (simp; omega))
  have zA0 : QL 41 ((w.alloc (.cells #[.bool (zneg x), .slice a0 (zl x).length c0, .int .i64 (n : Int)] 41)).alloc (.cells #[.bool false, .slice none 0 0, .int .i64 0] 41)) w.heap.size (zneg x) (.slice a0 (zl x).length c0) n := (QL.made rfl).alloc _
  have zR := zR0.drew
  have zA := zA0.drew
  have yb : Below w.heap.size w ((w.alloc (.cells #[.bool (zneg x), .slice a0 (zl x).length c0, .int .i64 (n : Int)] 41)).alloc (.cells #[.bool false, .slice none 0 0, .int .i64 0] 41)).drew := by (repeat' (first | (with_reducible assumption) | (with_reducible exact Below.refl _ _) | (with_reducible refine below_al ?_ _) | (with_reducible refine below_drewN ?_ _) | (with_reducible refine Below.drew ?_) | (with_reducible refine Below.alloc ?_ ?_ _) | (with_reducible refine Below.setCell ?_ ?_ _) | (refine below_trans ?_ (by assumption)) | go_size))
  clear zR0 zA0
  go_region_with (go_at_call 48; refine (zneg_any _ _ _ _ (h0.below (by (repeat' (first | (with_reducible assumption) | (with_reducible exact Below.refl _ _) | (with_reducible refine below_al ?_ _) | (with_reducible refine below_drewN ?_ _) | (with_reducible refine Below.drew ?_) | (with_reducible refine Below.alloc ?_ ?_ _) | (with_reducible refine Below.setCell ?_ ?_ _) | (refine below_trans ?_ (by assumption)) | go_size))))).mono ?_; rintro e wn ⟨aon, capn, rfl, hNn, hbn⟩; have zRn := QL.below (w' := wn) zR (by (repeat' (first | (with_reducible assumption) | (with_reducible exact Below.refl _ _) | (with_reducible refine below_al ?_ _) | (with_reducible refine below_drewN ?_ _) | (with_reducible refine Below.drew ?_) | (with_reducible refine Below.alloc ?_ ?_ _) | (with_reducible refine Below.setCell ?_ ?_ _) | (refine below_trans ?_ (by assumption)) | go_size))); have zAn := QL.below (w' := wn) zA (by (repeat' (first | (with_reducible assumption) | (with_reducible exact Below.refl _ _) | (with_reducible refine below_al ?_ _) | (with_reducible refine below_drewN ?_ _) | (with_reducible refine Below.drew ?_) | (with_reducible refine Below.alloc ?_ ?_ _) | (with_reducible refine Below.setCell ?_ ?_ _) | (refine below_trans ?_ (by assumption)) | go_size))); have ybn : Below w.heap.size w wn := (by (repeat' (first | (with_reducible assumption) | (with_reducible exact Below.refl _ _) | (with_reducible refine below_al ?_ _) | (with_reducible refine below_drewN ?_ _) | (with_reducible refine Below.drew ?_) | (with_reducible refine Below.alloc ?_ ?_ _) | (with_reducible refine Below.setCell ?_ ?_ _) | (refine below_trans ?_ (by assumption)) | go_size))); have k0 := zRn.1.1; have k1 := zRn.1.2.1; have f0 := zRn.1.2.2.1; have f1 := zRn.1.2.2.2.1; have k2 := zRn.2.1; have f2 := zRn.2.2; have j0 := zAn.1.1; have j1 := zAn.1.2.1; have j2 := zAn.2.1)
  all_goals
    have hs2 := zRn.1.2.2.2.2
    go_wp2_with fail
    refine bodyPost_ret (by simp [results, Tryz.results29, go_sem, k0, k1, k2]; try rfl) rfl ?_
    exact ⟨_, rfl, ⟨_, _, _, _, rfl, ((hNn.setCell hs2 (by decide) _ _).setCell (hs2.setCell _ _) (by decide) _ _).setCell ((hs2.setCell _ _).setCell _ _) (by decide) _ _, hD'.out, hA'.out, hn⟩, ((ybn.setCell (by first | omega | (simp; done) | (simp; omega)) _).setCell (by first | omega | (simp; done) | (simp; omega)) _).setCell (by first | omega | (simp; done) | (simp; omega)) _⟩
theorem qshift_any (v : Value) (D : Dy) (A T : Nat) (n : Int) (w : World) (hv : QD 3 w D A T v) (hA : A ≤ 100000000) (hT : T ≤ 200000) (hn1 : -200000 ≤ n) (hn2 : n ≤ 200000) :
    Calls Tryz.prog 117 #[v, .int .i64 n] w fun e w' => RetQD 3 w (shD D n) (A + 400000) 400000 e w' := by
  obtain ⟨x, t, a0, c0, rfl, h0, hD, hxA, hn⟩ := hv
  have hD' := hid (show nrm x (n - (t : Int)) = shD D n by rw [← hD, ← nrm_shift]; congr 1; omega)
  have hxA' := hid hxA
  clear hD hxA
  go_enter Tryz.func117, Tryz.ntmps117
  go_wp2_with fail
  have zR0 : QL 41 ((w.alloc (.cells #[.bool (zneg x), .slice a0 (zl x).length c0, .int .i64 (t : Int)] 41)).alloc (.cells #[.bool false, .slice none 0 0, .int .i64 0] 41)) (w.heap.size + 1) false (.slice none 0 0) 0 := QL.made (by first | omega | (simp; done) | (simp; omega))
  refine (qmake_any _ _ _ _ A 400000 _ (h0.below (by (repeat' (first | (with_reducible assumption) | (with_reducible exact Below.refl _ _) | (with_reducible refine below_al ?_ _) | (with_reducible refine below_drewN ?_ _) | (with_reducible refine Below.drew ?_) | (with_reducible refine Below.alloc ?_ ?_ _) | (with_reducible refine Below.setCell ?_ ?_ _) | (refine below_trans ?_ (by assumption)) | go_size)))) hxA'.out (by omega) ⟨by omega, by omega⟩ (by omega)).mono ?_
  rintro e w1 ⟨v1, rfl, ⟨y, s, b0, d0, rfl, hY, hE, hyA, hs⟩, hb⟩
  have zR := zR0.below hb
  have yb : Below w.heap.size w w1 := below_trans (by (repeat' (first | (with_reducible assumption) | (with_reducible exact Below.refl _ _) | (with_reducible refine below_al ?_ _) | (with_reducible refine below_drewN ?_ _) | (with_reducible refine Below.drew ?_) | (with_reducible refine Below.alloc ?_ ?_ _) | (with_reducible refine Below.setCell ?_ ?_ _) | (refine below_trans ?_ (by assumption)) | go_size))) hb
  rw [hD'.out] at hE
  have HE := hid hE
  have HYA := hid hyA
  clear zR0 hb hE hyA
  obtain ⟨⟨k0, k1, f0, f1, hs2⟩, k2, f2⟩ := zR
  go_wp2_with fail
  refine bodyPost_ret (by simp [results, Tryz.results117, go_sem, k0, k1, k2]; try rfl) rfl ?_
  exact ⟨_, rfl, ⟨_, _, _, _, rfl, ((hY.setCell hs2 (by decide) _ _).setCell (hs2.setCell _ _) (by decide) _ _).setCell ((hs2.setCell _ _).setCell _ _) (by decide) _ _, HE.out, HYA.out, hs⟩, ((yb.setCell (by first | omega | (simp; done) | (simp; omega)) _).setCell (by first | omega | (simp; done) | (simp; omega)) _).setCell (by first | omega | (simp; done) | (simp; omega)) _⟩
end Go.Proofs.YthaelmnblgollaaGreatDoor
set_option linter.unusedVariables false
set_option linter.unusedSimpArgs false
namespace Go.Ulp
theorem sg_mul (neg : Bool) (x y : Int) : sg neg x * y = sg neg (x * y) := by unfold sg; cases neg <;> simp [Int.neg_mul]
theorem rvs_nat (a : Nat) : rvs (a : Int) = (rvi a : Int) := by unfold rvs; rw [if_neg (by omega), Int.natAbs_natCast]
theorem rvs_sg (b : Bool) (a : Nat) : rvs (sg b (a : Int)) = sg b (rvi a : Int) := by
  cases b
  · exact rvs_nat a
  · show rvs (-(a : Int)) = -(rvi a : Int); rw [rvs_neg, rvs_nat]
theorem rank_sg (x : Int) (a : Nat) (ha : (a : Int) = x % 9223372036854775808) : rankOf x = sg (negB x) (a : Int) := by
  unfold rankOf sg negB
  by_cases hn : 9223372036854775808 ≤ x
  · simp [hn, ha]
  · simp [hn, ha]
theorem fv_rank (x : Int) (h0 : 0 ≤ x) (h1 : x < 18446744073709551616) : fv x = nrm (rvs (rankOf x)) (-1074) := by
  obtain ⟨a, ha⟩ : ∃ a : Nat, (a : Int) = x % 9223372036854775808 := ⟨(x % 9223372036854775808).toNat, by omega⟩
  have ee : expOf x = ((a / 4503599627370496 : Nat) : Int) := by unfold expOf; omega
  have ef : fracOf x = ((a % 4503599627370496 : Nat) : Int) := by unfold fracOf; omega
  obtain ⟨k, hk⟩ : ∃ k : Nat, (k : Int) = max (expOf x) 1 - 1 := ⟨(max (expOf x) 1 - 1).toNat, by have := expOf_bd x; omega⟩
  have hd : dexp x = -1074 + (k : Int) := by unfold dexp; omega
  have hv : mantOf x * pw k = (rvi a : Int) := by
    unfold mantOf rvi
    rw [ee, ef] at *
    by_cases h : a < 4503599627370496
    · rw [if_neg (by omega), if_pos h, show k = 0 by omega, pw_zero]; omega
    · rw [if_pos (by omega), if_neg h, show k = a / 4503599627370496 - 1 by omega, pw_nat, Int.natCast_mul]; congr 1
  unfold fv
  rw [hd, ← nrm_scale, sg_mul, hv, rank_sg x a ha, rvs_sg]
theorem cmp_fv (x y : Int) (h0 : 0 ≤ x) (h1 : x < 18446744073709551616) (k0 : 0 ≤ y) (k1 : y < 18446744073709551616) : cmpD (fv x) (fv y) = cmpI (rankOf x) (rankOf y) := by
  rw [fv_rank x h0 h1, fv_rank y k0 k1, ← cmp_nrm _ _ _ _ (-1074) (.inl (by omega)) (.inl (by omega)), sc_self, sc_self, rvs_cmp]
end Go.Ulp
namespace Go.Ulp
open Go.RowKit
theorem QL.far {t : TypeId} {w : World} {g : Nat} {n : Bool} {v : Value} {k : Int} (h : QL t w g n v k) (a : Addr) (u : Value) (hne : g ≠ a.block) : QL t (w.setCell a u) g n v k := by
  refine ⟨h.1.far a u hne, ?_, ?_⟩
  · rw [World.cell?_setCell_other (h := fun e => hne (by rw [e]))]; exact h.2.1
  · rw [frozen_setCell]; exact h.2.2
theorem QL.set2far {t : TypeId} {w : World} {g : Nat} {n : Bool} {v : Value} {k : Int} (h : QL t w g n v k) {b : Nat} {u u' : Value} (hne : g ≠ b) : QL t ((w.setCell ⟨b, 0, none⟩ u).setCell ⟨b, 1, none⟩ u') g n v k :=
  (h.far _ _ hne).far _ _ hne
end Go.Ulp
namespace Go.Proofs.YthaelmnblgollaaGreatDoor
open Go.RowKit Go.Ulp
set_option linter.unusedVariables false
set_option linter.unusedSimpArgs false
set_option maxHeartbeats 1000000
set_option maxRecDepth 100000
theorem zN9_any (w : World) : Calls Tryz.prog 70 #[.int .i64 1000000000] w fun e w' => RetZ 3 w 1000000000 e w' := zN_any 1000000000 (by omega) w
theorem qval_gen (A : Nat) (hA : 1127 ≤ A) (x : Int) (hx0 : 0 ≤ x) (hx1 : x < 18446744073709551616) (w : World) :
    Calls Tryz.prog 68 #[.int .u64 x] w fun e w' => RetQD 3 w (fv x) A 1100 e w' := by
  have hmb := mantOf_bd x
  have hdb := dexp_bd x
  have hfb := fracOf_bd x
  have heb := expOf_bd x
  obtain ⟨m, hm⟩ := Int.eq_ofNat_of_zero_le hmb.1
  have hmax : max (expOf x) 1 - 1075 = dexp x := rfl
  have hfv := hid (show nrm (sg (negB x) (m : Int)) (dexp x) = fv x by unfold fv; rw [hm])
  have hcase : (0 < expOf x ∧ fracOf x + 4503599627370496 = (m : Int) ∧ Hid (dexp x = expOf x - 1075)) ∨ (¬ 0 < expOf x ∧ fracOf x = (m : Int) ∧ Hid (dexp x = -1074)) := by
    unfold mantOf at hm
    by_cases h : 0 < expOf x
    · rw [if_pos h] at hm; exact .inl ⟨h, hm, hid (by unfold dexp; omega)⟩
    · rw [if_neg h] at hm; exact .inr ⟨h, hm, hid (by unfold dexp; omega)⟩
  have hm1 : m < 9007199254740992 := by omega
  obtain ⟨hi, hhi⟩ : ∃ z, z = m / 1000000000 := ⟨_, rfl⟩
  obtain ⟨lo, hlo⟩ : ∃ z, z = m % 1000000000 := ⟨_, rfl⟩
  have ehi : (m : Int) / 1000000000 = (hi : Int) := by omega
  have elo : (m : Int) % 1000000000 = (lo : Int) := by omega
  have hsum := hid (show (hi : Int) * 1000000000 + (lo : Int) = (m : Int) by omega)
  have hbh : hi < 9223372036854775808 := by omega
  have hbl : lo < 9223372036854775808 := by omega
  have lhi : (zl (hi : Int)).length ≤ 64 := zl_len_bits _ _ (by rw [Int.natAbs_natCast]; omega)
  have llo : (zl (lo : Int)).length ≤ 64 := zl_len_bits _ _ (by rw [Int.natAbs_natCast]; omega)
  have l9 : (zl (1000000000 : Int)).length ≤ 64 := zl_len_bits _ _ (by decide)
  have lpr : (zl ((hi : Int) * 1000000000)).length ≤ 64 := zl_len_bits _ _ (by omega)
  have hma := hid (show (m : Int).natAbs < 2 ^ 53 by rw [Int.natAbs_natCast]; omega)
  have hma2 := hid (show (-(m : Int)).natAbs < 2 ^ 53 by rw [Int.natAbs_neg, Int.natAbs_natCast]; omega)
  clear hm hhi hlo hmb
  have HM := hid hmax
  cases hneg : negB x
  all_goals
    rw [hneg] at hfv
    rcases hcase with ⟨he, hfr, hde⟩ | ⟨he, hfr, hde⟩
    all_goals
      go_enter Tryz.func68, Tryz.ntmps68
      go_wp2_with (go_at_call 165; refine (fields_any x hx0 hx1 _).mono ?_; rintro e w' ⟨rfl, rfl⟩)
      have zR0 : QL 41 (w.alloc (.cells #[.bool false, .slice none 0 0, .int .i64 0] 41)) w.heap.size false (.slice none 0 0) 0 := QL.made (by first | omega | (simp; done) | (simp; omega))
      have yb0 : Below w.heap.size w (w.alloc (.cells #[.bool false, .slice none 0 0, .int .i64 0] 41)) := by (repeat' (first | (with_reducible assumption) | (with_reducible exact Below.refl _ _) | (with_reducible refine below_al ?_ _) | (with_reducible refine below_drewN ?_ _) | (with_reducible refine Below.drew ?_) | (with_reducible refine Below.alloc ?_ ?_ _) | (with_reducible refine Below.setCell ?_ ?_ _) | (refine below_trans ?_ (by assumption)) | go_size))
      refine (zN_any hi hbh _).mono ?_
      rintro e w1 ⟨a1, c1, rfl, hN1, hb1⟩
      have zR1 := zR0.below hb1
      have yb1 := below_trans yb0 hb1
      clear zR0 yb0
      go_wp2_with fail
      refine (zN9_any _).mono ?_
      rintro e w2 ⟨a2, c2, rfl, hN2, hb2⟩
      have zR2 := zR1.below hb2
      have yb2 := below_trans yb1 hb2
      clear zR1 yb1
      go_wp2_with fail
      refine (zmul_any _ _ _ _ _ _ _ (hN1.below hb2) hN2 (by omega) (by omega)).mono ?_
      rintro e w3 ⟨a3, c3, rfl, hN3, hb3⟩
      have zR3 := zR2.below hb3
      have yb3 := below_trans yb2 hb3
      clear zR2 yb2 hb1 hb2 hN1 hN2
      go_wp2_with fail
      refine (zN_any lo hbl _).mono ?_
      rintro e w4 ⟨a4, c4, rfl, hN4, hb4⟩
      have zR4 := zR3.below hb4
      have yb4 := below_trans yb3 hb4
      clear zR3 yb3 hb3
      go_wp2_with fail
      refine (zadd_any _ _ _ _ _ _ _ (hN3.below hb4) hN4 (by omega) (by omega)).mono ?_
      rw [hsum.out]
      rintro e w5 ⟨a5, c5, rfl, hN5, hb5⟩
      have zR5 := zR4.below hb5
      have yb5 := below_trans yb4 hb5
      clear zR4 yb4 hb4 hN3 hN4 hb5
      go_wp2_with fail
      first
        | (refine (zneg_any _ _ _ _ (hN5.below (by (repeat' (first | (with_reducible assumption) | (with_reducible exact Below.refl _ _) | (with_reducible refine below_al ?_ _) | (with_reducible refine below_drewN ?_ _) | (with_reducible refine Below.drew ?_) | (with_reducible refine Below.alloc ?_ ?_ _) | (with_reducible refine Below.setCell ?_ ?_ _) | (refine below_trans ?_ (by assumption)) | go_size))))).mono ?_
           rintro e w6 ⟨a6, c6, rfl, hN6, hb6⟩
           have hlt5 := zR5.lt
           have zR6 := (zR5.alloc _).below hb6
           have yb6 : Below w.heap.size w w6 := below_trans (by (repeat' (first | (with_reducible assumption) | (with_reducible exact Below.refl _ _) | (with_reducible refine below_al ?_ _) | (with_reducible refine below_drewN ?_ _) | (with_reducible refine Below.drew ?_) | (with_reducible refine Below.alloc ?_ ?_ _) | (with_reducible refine Below.setCell ?_ ?_ _) | (refine below_trans ?_ (by assumption)) | go_size))) hb6
           have hz := (ZL.made (w := w5) (t := 39) (n := zneg (m : Int)) (v := .slice a5 (zl (m : Int)).length c5) rfl).below hb6
           have k0 := hz.1
           have k1 := hz.2.1
           have f0 := hz.2.2.1
           have f1 := hz.2.2.2.1
           go_wp2_with fail
           refine Calls.mono (qmake_any _ _ _ _ 53 1074 _ (hN6.set2 hz.2.2.2.2 (by decide) _ _) hma2.out (by omega) ⟨by omega, by omega⟩ (by omega)) ?_
           rintro e w7 ⟨v7, rfl, ⟨y, s, b0, d0, rfl, hY, hE, hyA, hs⟩, hb7⟩
           have zR := (QL.set2far zR6 (by first | omega | (simp; done) | (simp; omega))).below hb7
           have yb : Below w.heap.size w w7 := below_trans ((yb6.setCell (by first | omega | (simp; done) | (simp; omega)) _).setCell (by first | omega | (simp; done) | (simp; omega)) _) hb7
           have HE := hid (hE.trans (show nrm _ _ = fv x by rw [← hfv.out, hde.out]; rfl))
           have HYA := hid hyA
           clear hb7 hE hyA
           obtain ⟨⟨k0, k1, f0, f1, hs2⟩, k2, f2⟩ := zR
           go_wp2_with fail
           refine bodyPost_ret (by simp [results, Tryz.results68, go_sem, k0, k1, k2]; try rfl) rfl ?_
           exact ⟨_, rfl, ⟨_, _, _, _, rfl, ((hY.setCell hs2 (by decide) _ _).setCell (hs2.setCell _ _) (by decide) _ _).setCell ((hs2.setCell _ _).setCell _ _) (by decide) _ _, HE.out, abs_weak HYA.out (by omega), by omega⟩, ((yb.setCell (by first | omega | (simp; done) | (simp; omega)) _).setCell (by first | omega | (simp; done) | (simp; omega)) _).setCell (by first | omega | (simp; done) | (simp; omega)) _⟩)
        | (refine Calls.mono (qmake_any _ _ _ _ 53 1074 _ (hN5.below (by (repeat' (first | (with_reducible assumption) | (with_reducible exact Below.refl _ _) | (with_reducible refine below_al ?_ _) | (with_reducible refine below_drewN ?_ _) | (with_reducible refine Below.drew ?_) | (with_reducible refine Below.alloc ?_ ?_ _) | (with_reducible refine Below.setCell ?_ ?_ _) | (refine below_trans ?_ (by assumption)) | go_size)))) hma.out (by omega) ⟨by omega, by omega⟩ (by omega)) ?_
           rintro e w7 ⟨v7, rfl, ⟨y, s, b0, d0, rfl, hY, hE, hyA, hs⟩, hb7⟩
           have zR := (zR5.alloc _).below hb7
           have yb : Below w.heap.size w w7 := below_trans (by (repeat' (first | (with_reducible assumption) | (with_reducible exact Below.refl _ _) | (with_reducible refine below_al ?_ _) | (with_reducible refine below_drewN ?_ _) | (with_reducible refine Below.drew ?_) | (with_reducible refine Below.alloc ?_ ?_ _) | (with_reducible refine Below.setCell ?_ ?_ _) | (refine below_trans ?_ (by assumption)) | go_size))) hb7
           have HE := hid (hE.trans (show nrm _ _ = fv x by rw [← hfv.out, hde.out]; rfl))
           have HYA := hid hyA
           clear hb7 hE hyA
           obtain ⟨⟨k0, k1, f0, f1, hs2⟩, k2, f2⟩ := zR
           go_wp2_with fail
           refine bodyPost_ret (by simp [results, Tryz.results68, go_sem, k0, k1, k2]; try rfl) rfl ?_
           exact ⟨_, rfl, ⟨_, _, _, _, rfl, ((hY.setCell hs2 (by decide) _ _).setCell (hs2.setCell _ _) (by decide) _ _).setCell ((hs2.setCell _ _).setCell _ _) (by decide) _ _, HE.out, abs_weak HYA.out (by omega), by omega⟩, ((yb.setCell (by first | omega | (simp; done) | (simp; omega)) _).setCell (by first | omega | (simp; done) | (simp; omega)) _).setCell (by first | omega | (simp; done) | (simp; omega)) _⟩)
theorem qval_any (x : Int) (hx0 : 0 ≤ x) (hx1 : x < 18446744073709551616) (w : World) :
    Calls Tryz.prog 68 #[.int .u64 x] w fun e w' => RetQD 3 w (fv x) 1200 1100 e w' := qval_gen 1200 (by omega) x hx0 hx1 w
theorem qof_gen (B A : Nat) (hB : 160000 ≤ B) (hB2 : B ≤ 1000000) (hA : B + 200000 ≤ A) (neg : Bool) (m : Nat) (am : Option Addr) (cm : Nat) (n : Int) (w : World) (h0 : Ns .u32 w am cm (limbs m)) (hl : (limbs m).length ≤ 5000) (hn : -200000 ≤ n ∧ n ≤ 200000) :
    Calls Tryz.prog 81 #[.agg #[.bool neg, .slice am (limbs m).length cm, .int .i64 n]] w fun e w' => RetQD 3 w (nrm (sg neg m) n) A 200000 e w' := by
  have hm : m < 2 ^ B := by
    have h1 : m < 4294967296 ^ (limbs m).length := (digs_len_le _ (by omega) _ _).1 (Nat.le_refl _)
    rw [b_pow] at h1
    exact Nat.lt_of_lt_of_le h1 (Nat.pow_le_pow_right (by omega) (by omega))
  have hma := hid (show (m : Int).natAbs < 2 ^ B by rw [Int.natAbs_natCast]; exact hm)
  have hma2 := hid (show (-(m : Int)).natAbs < 2 ^ B by rw [Int.natAbs_neg, Int.natAbs_natCast]; exact hm)
  have hlv := hid (lval_limbs m)
  clear hm
  cases neg
  · go_enter Tryz.func81, Tryz.ntmps81
    go_wp2_with fail
    have zR0 : QL 41 ((w.alloc (.cells #[.bool false, .slice am (limbs m).length cm, .int .i64 n] 26)).alloc (.cells #[.bool false, .slice none 0 0, .int .i64 0] 41)) (w.heap.size + 1) false (.slice none 0 0) 0 := QL.made (by first | omega | (simp; done) | (simp; omega))
    have zA0 : QL 26 ((w.alloc (.cells #[.bool false, .slice am (limbs m).length cm, .int .i64 n] 26)).alloc (.cells #[.bool false, .slice none 0 0, .int .i64 0] 41)) w.heap.size false (.slice am (limbs m).length cm) n := (QL.made rfl).alloc _
    refine (zlimbs_any (limbs m) am cm _ (limbs_lim m) (h0.below (by (repeat' (first | (with_reducible assumption) | (with_reducible exact Below.refl _ _) | (with_reducible refine below_al ?_ _) | (with_reducible refine below_drewN ?_ _) | (with_reducible refine Below.drew ?_) | (with_reducible refine Below.alloc ?_ ?_ _) | (with_reducible refine Below.setCell ?_ ?_ _) | (refine below_trans ?_ (by assumption)) | go_size)))) (by omega)).mono ?_
    rw [hlv.out]
    rintro e w1 ⟨a1, c1, rfl, hN1, hb1⟩
    have zR1 := zR0.below hb1
    have yb1 : Below w.heap.size w w1 := below_trans (by (repeat' (first | (with_reducible assumption) | (with_reducible exact Below.refl _ _) | (with_reducible refine below_al ?_ _) | (with_reducible refine below_drewN ?_ _) | (with_reducible refine Below.drew ?_) | (with_reducible refine Below.alloc ?_ ?_ _) | (with_reducible refine Below.setCell ?_ ?_ _) | (refine below_trans ?_ (by assumption)) | go_size))) hb1
    have zA1 := zA0.below hb1
    clear zR0 zA0 hb1
    obtain ⟨⟨j0, j1, -, -, -⟩, j2, -⟩ := id zA1
    have hlt5 := zR1.lt
    have hlt6 := zA1.lt
    go_wp2_with fail
    refine Calls.mono (qmake_any _ _ _ _ B 200000 _ (hN1.below (by (repeat' (first | (with_reducible assumption) | (with_reducible exact Below.refl _ _) | (with_reducible refine below_al ?_ _) | (with_reducible refine below_drewN ?_ _) | (with_reducible refine Below.drew ?_) | (with_reducible refine Below.alloc ?_ ?_ _) | (with_reducible refine Below.setCell ?_ ?_ _) | (refine below_trans ?_ (by assumption)) | go_size)))) hma.out (by omega) ⟨by omega, by omega⟩ (by omega)) ?_
    rintro e w7 ⟨v7, rfl, ⟨y, s, b0, d0, rfl, hY, hE, hyA, hs⟩, hb7⟩
    have zR := (zR1.alloc _).below hb7
    have yb : Below w.heap.size w w7 := below_trans (by (repeat' (first | (with_reducible assumption) | (with_reducible exact Below.refl _ _) | (with_reducible refine below_al ?_ _) | (with_reducible refine below_drewN ?_ _) | (with_reducible refine Below.drew ?_) | (with_reducible refine Below.alloc ?_ ?_ _) | (with_reducible refine Below.setCell ?_ ?_ _) | (refine below_trans ?_ (by assumption)) | go_size))) hb7
    have HE := hid hE
    have HYA := hid hyA
    clear hb7 hE hyA
    obtain ⟨⟨k0, k1, f0, f1, hs2⟩, k2, f2⟩ := zR
    go_wp2_with fail
    refine bodyPost_ret (by simp [results, Tryz.results81, go_sem, k0, k1, k2]; try rfl) rfl ?_
    exact ⟨_, rfl, ⟨_, _, _, _, rfl, ((hY.setCell hs2 (by decide) _ _).setCell (hs2.setCell _ _) (by decide) _ _).setCell ((hs2.setCell _ _).setCell _ _) (by decide) _ _, HE.out, abs_weak HYA.out (by omega), by omega⟩, ((yb.setCell (by first | omega | (simp; done) | (simp; omega)) _).setCell (by first | omega | (simp; done) | (simp; omega)) _).setCell (by first | omega | (simp; done) | (simp; omega)) _⟩
  · go_enter Tryz.func81, Tryz.ntmps81
    go_wp2_with fail
    have zR0 : QL 41 ((w.alloc (.cells #[.bool true, .slice am (limbs m).length cm, .int .i64 n] 26)).alloc (.cells #[.bool false, .slice none 0 0, .int .i64 0] 41)) (w.heap.size + 1) false (.slice none 0 0) 0 := QL.made (by first | omega | (simp; done) | (simp; omega))
    have zA0 : QL 26 ((w.alloc (.cells #[.bool true, .slice am (limbs m).length cm, .int .i64 n] 26)).alloc (.cells #[.bool false, .slice none 0 0, .int .i64 0] 41)) w.heap.size true (.slice am (limbs m).length cm) n := (QL.made rfl).alloc _
    refine (zlimbs_any (limbs m) am cm _ (limbs_lim m) (h0.below (by (repeat' (first | (with_reducible assumption) | (with_reducible exact Below.refl _ _) | (with_reducible refine below_al ?_ _) | (with_reducible refine below_drewN ?_ _) | (with_reducible refine Below.drew ?_) | (with_reducible refine Below.alloc ?_ ?_ _) | (with_reducible refine Below.setCell ?_ ?_ _) | (refine below_trans ?_ (by assumption)) | go_size)))) (by omega)).mono ?_
    rw [hlv.out]
    rintro e w1 ⟨a1, c1, rfl, hN1, hb1⟩
    have zR1 := zR0.below hb1
    have yb1 : Below w.heap.size w w1 := below_trans (by (repeat' (first | (with_reducible assumption) | (with_reducible exact Below.refl _ _) | (with_reducible refine below_al ?_ _) | (with_reducible refine below_drewN ?_ _) | (with_reducible refine Below.drew ?_) | (with_reducible refine Below.alloc ?_ ?_ _) | (with_reducible refine Below.setCell ?_ ?_ _) | (refine below_trans ?_ (by assumption)) | go_size))) hb1
    have zA1 := zA0.below hb1
    clear zR0 zA0 hb1
    obtain ⟨⟨j0, j1, -, -, -⟩, j2, -⟩ := id zA1
    have hlt5 := zR1.lt
    have hlt6 := zA1.lt
    go_wp2_with fail
    have zA2 := zA1.alloc (.cells #[.bool (zneg (m : Int)), .slice a1 (zl (m : Int)).length c1] 39)
    have zR2 := zR1.alloc (.cells #[.bool (zneg (m : Int)), .slice a1 (zl (m : Int)).length c1] 39)
    refine (zneg_any _ _ _ _ (hN1.below (by (repeat' (first | (with_reducible assumption) | (with_reducible exact Below.refl _ _) | (with_reducible refine below_al ?_ _) | (with_reducible refine below_drewN ?_ _) | (with_reducible refine Below.drew ?_) | (with_reducible refine Below.alloc ?_ ?_ _) | (with_reducible refine Below.setCell ?_ ?_ _) | (refine below_trans ?_ (by assumption)) | go_size))))).mono ?_
    rintro e w6 ⟨a6, c6, rfl, hN6, hb6⟩
    have zR6 := zR2.below hb6
    have zA6 := zA2.below hb6
    have yb6 : Below w.heap.size w w6 := below_trans (by (repeat' (first | (with_reducible assumption) | (with_reducible exact Below.refl _ _) | (with_reducible refine below_al ?_ _) | (with_reducible refine below_drewN ?_ _) | (with_reducible refine Below.drew ?_) | (with_reducible refine Below.alloc ?_ ?_ _) | (with_reducible refine Below.setCell ?_ ?_ _) | (refine below_trans ?_ (by assumption)) | go_size))) hb6
    have hz := (ZL.made (w := w1) (t := 39) (n := zneg (m : Int)) (v := .slice a1 (zl (m : Int)).length c1) rfl).below hb6
    have k0 := hz.1
    have k1 := hz.2.1
    have f0 := hz.2.2.1
    have f1 := hz.2.2.2.1
    have i0 := zA6.1.1
    have i1 := zA6.1.2.1
    have i2 := zA6.2.1
    go_wp2_with fail
    refine Calls.mono (qmake_any _ _ _ _ B 200000 _ (hN6.set2 hz.2.2.2.2 (by decide) _ _) hma2.out (by omega) ⟨by omega, by omega⟩ (by omega)) ?_
    rintro e w7 ⟨v7, rfl, ⟨y, s, b0, d0, rfl, hY, hE, hyA, hs⟩, hb7⟩
    have zR := (QL.set2far zR6 (by first | omega | (simp; done) | (simp; omega))).below hb7
    have yb : Below w.heap.size w w7 := below_trans ((yb6.setCell (by first | omega | (simp; done) | (simp; omega)) _).setCell (by first | omega | (simp; done) | (simp; omega)) _) hb7
    have HE := hid hE
    have HYA := hid hyA
    clear hb7 hE hyA k0 k1 f0 f1
    obtain ⟨⟨k0, k1, f0, f1, hs2⟩, k2, f2⟩ := zR
    go_wp2_with fail
    refine bodyPost_ret (by simp [results, Tryz.results81, go_sem, k0, k1, k2]; try rfl) rfl ?_
    exact ⟨_, rfl, ⟨_, _, _, _, rfl, ((hY.setCell hs2 (by decide) _ _).setCell (hs2.setCell _ _) (by decide) _ _).setCell ((hs2.setCell _ _).setCell _ _) (by decide) _ _, HE.out, abs_weak HYA.out (by omega), by omega⟩, ((yb.setCell (by first | omega | (simp; done) | (simp; omega)) _).setCell (by first | omega | (simp; done) | (simp; omega)) _).setCell (by first | omega | (simp; done) | (simp; omega)) _⟩
theorem qof_any (neg : Bool) (m : Nat) (am : Option Addr) (cm : Nat) (n : Int) (w : World) (h0 : Ns .u32 w am cm (limbs m)) (hl : (limbs m).length ≤ 5000) (hn : -200000 ≤ n ∧ n ≤ 200000) :
    Calls Tryz.prog 81 #[.agg #[.bool neg, .slice am (limbs m).length cm, .int .i64 n]] w fun e w' => RetQD 3 w (nrm (sg neg m) n) 400000 200000 e w' :=
  qof_gen 160000 400000 (by omega) (by omega) (by omega) neg m am cm n w h0 hl hn
end Go.Proofs.YthaelmnblgollaaGreatDoor
