/- The values of floating numbers and of Dyads, as the reference has them. -/
import Derived.Test.YteaakbeemhmciaaDoorQ4
import Derived.Test.YteaakbeemhmciaaDoorNat7
namespace Go.Ulp
open Go.RowKit
theorem QL.far {t : TypeId} {w : World} {g : Nat} {n : Bool} {v : Value} {k : Int} (h : QL t w g n v k) (a : Addr) (u : Value) (hne : g ≠ a.block) : QL t (w.setCell a u) g n v k := by
  refine ⟨h.1.far a u hne, ?_, ?_⟩
  · rw [World.cell?_setCell_other (h := fun e => hne (by rw [e]))]; exact h.2.1
  · rw [frozen_setCell]; exact h.2.2
theorem QL.set2far {t : TypeId} {w : World} {g : Nat} {n : Bool} {v : Value} {k : Int} (h : QL t w g n v k) {b : Nat} {u u' : Value} (hne : g ≠ b) : QL t ((w.setCell ⟨b, 0, none⟩ u).setCell ⟨b, 1, none⟩ u') g n v k :=
  (h.far _ _ hne).far _ _ hne
end Go.Ulp
namespace Go.Proofs.YteaakbeemhmciaaDoor
open Go.RowKit Go.Ulp
set_option linter.unusedVariables false
set_option linter.unusedSimpArgs false
set_option maxHeartbeats 1000000
set_option maxRecDepth 100000
theorem zN9_any (w : World) : Calls Tryd.prog 66 #[.int .i64 1000000000] w fun e w' => RetZ 3 w 1000000000 e w' := zN_any 1000000000 (by omega) w
theorem qval_gen (A : Nat) (hA : 1127 ≤ A) (x : Int) (hx0 : 0 ≤ x) (hx1 : x < 18446744073709551616) (w : World) :
    Calls Tryd.prog 25 #[.int .u64 x] w fun e w' => RetQD 3 w (fv x) A 1100 e w' := by
  have hmb := mantOf_bd x
  have hdb := dexp_bd x
  have hfb := fracOf_bd x
  have heb := expOf_bd x
  obtain ⟨m, hm⟩ := Int.eq_ofNat_of_zero_le hmb.1
  have hmax : max (expOf x) 1 - 1075 = dexp x := rfl
  have hfv := hid (show nrm (sg (negB x) (m : Int)) (dexp x) = fv x by unfold fv; rw [hm])
  have hcase : (0 < expOf x ∧ fracOf x + 4503599627370496 = (m : Int) ∧ Hid (dexp x = expOf x - 1075)) ∨ (¬ 0 < expOf x ∧ fracOf x = (m : Int) ∧ Hid (dexp x = -1074)) := by
    unfold mantOf at hm
    by_cases h : 0 < expOf x
    · rw [if_pos h] at hm; exact .inl ⟨h, hm, hid (by unfold dexp; omega)⟩
    · rw [if_neg h] at hm; exact .inr ⟨h, hm, hid (by unfold dexp; omega)⟩
  have hm1 : m < 9007199254740992 := by omega
  obtain ⟨hi, hhi⟩ : ∃ z, z = m / 1000000000 := ⟨_, rfl⟩
  obtain ⟨lo, hlo⟩ : ∃ z, z = m % 1000000000 := ⟨_, rfl⟩
  have ehi : (m : Int) / 1000000000 = (hi : Int) := by omega
  have elo : (m : Int) % 1000000000 = (lo : Int) := by omega
  have hsum := hid (show (hi : Int) * 1000000000 + (lo : Int) = (m : Int) by omega)
  have hbh : hi < 9223372036854775808 := by omega
  have hbl : lo < 9223372036854775808 := by omega
  have lhi : (zl (hi : Int)).length ≤ 64 := zl_len_bits _ _ (by rw [Int.natAbs_natCast]; omega)
  have llo : (zl (lo : Int)).length ≤ 64 := zl_len_bits _ _ (by rw [Int.natAbs_natCast]; omega)
  have l9 : (zl (1000000000 : Int)).length ≤ 64 := zl_len_bits _ _ (by decide)
  have lpr : (zl ((hi : Int) * 1000000000)).length ≤ 64 := zl_len_bits _ _ (by omega)
  have hma := hid (show (m : Int).natAbs < 2 ^ 53 by rw [Int.natAbs_natCast]; omega)
  have hma2 := hid (show (-(m : Int)).natAbs < 2 ^ 53 by rw [Int.natAbs_neg, Int.natAbs_natCast]; omega)
  clear hm hhi hlo hmb
  have HM := hid hmax
  cases hneg : negB x
  all_goals
    rw [hneg] at hfv
    rcases hcase with ⟨he, hfr, hde⟩ | ⟨he, hfr, hde⟩
    all_goals
      go_enter Tryd.func25, Tryd.ntmps25
      go_wp2_with (go_at_call 102; refine (fields_any x hx0 hx1 _).mono ?_; rintro e w' ⟨rfl, rfl⟩)
      have zR0 : QL 42 (w.alloc (.cells #[.bool false, .slice none 0 0, .int .i64 0] 42)) w.heap.size false (.slice none 0 0) 0 := QL.made (by first | omega | (simp; done) | (simp; omega))
      have yb0 : Below w.heap.size w (w.alloc (.cells #[.bool false, .slice none 0 0, .int .i64 0] 42)) := by (repeat' (first | (with_reducible assumption) | (with_reducible exact Below.refl _ _) | (with_reducible refine below_al ?_ _) | (with_reducible refine below_drewN ?_ _) | (with_reducible refine Below.drew ?_) | (with_reducible refine Below.alloc ?_ ?_ _) | (with_reducible refine Below.setCell ?_ ?_ _) | (refine below_trans ?_ (by assumption)) | go_size))
      refine (zN_any hi hbh _).mono ?_
      rintro e w1 ⟨a1, c1, rfl, hN1, hb1⟩
      have zR1 := zR0.below hb1
      have yb1 := below_trans yb0 hb1
      clear zR0 yb0
      go_wp2_with fail
      refine (zN9_any _).mono ?_
      rintro e w2 ⟨a2, c2, rfl, hN2, hb2⟩
      have zR2 := zR1.below hb2
      have yb2 := below_trans yb1 hb2
      clear zR1 yb1
      go_wp2_with fail
      refine (zmul_any _ _ _ _ _ _ _ (hN1.below hb2) hN2 (by omega) (by omega)).mono ?_
      rintro e w3 ⟨a3, c3, rfl, hN3, hb3⟩
      have zR3 := zR2.below hb3
      have yb3 := below_trans yb2 hb3
      clear zR2 yb2 hb1 hb2 hN1 hN2
      go_wp2_with fail
      refine (zN_any lo hbl _).mono ?_
      rintro e w4 ⟨a4, c4, rfl, hN4, hb4⟩
      have zR4 := zR3.below hb4
      have yb4 := below_trans yb3 hb4
      clear zR3 yb3 hb3
      go_wp2_with fail
      refine (zadd_any _ _ _ _ _ _ _ (hN3.below hb4) hN4 (by omega) (by omega)).mono ?_
      rw [hsum.out]
      rintro e w5 ⟨a5, c5, rfl, hN5, hb5⟩
      have zR5 := zR4.below hb5
      have yb5 := below_trans yb4 hb5
      clear zR4 yb4 hb4 hN3 hN4 hb5
      go_wp2_with fail
      first
        | (refine (zneg_any _ _ _ _ (hN5.below (by (repeat' (first | (with_reducible assumption) | (with_reducible exact Below.refl _ _) | (with_reducible refine below_al ?_ _) | (with_reducible refine below_drewN ?_ _) | (with_reducible refine Below.drew ?_) | (with_reducible refine Below.alloc ?_ ?_ _) | (with_reducible refine Below.setCell ?_ ?_ _) | (refine below_trans ?_ (by assumption)) | go_size))))).mono ?_
           rintro e w6 ⟨a6, c6, rfl, hN6, hb6⟩
           have hlt5 := zR5.lt
           have zR6 := (zR5.alloc _).below hb6
           have yb6 : Below w.heap.size w w6 := below_trans (by (repeat' (first | (with_reducible assumption) | (with_reducible exact Below.refl _ _) | (with_reducible refine below_al ?_ _) | (with_reducible refine below_drewN ?_ _) | (with_reducible refine Below.drew ?_) | (with_reducible refine Below.alloc ?_ ?_ _) | (with_reducible refine Below.setCell ?_ ?_ _) | (refine below_trans ?_ (by assumption)) | go_size))) hb6
           have hz := (ZL.made (w := w5) (t := 40) (n := zneg (m : Int)) (v := .slice a5 (zl (m : Int)).length c5) rfl).below hb6
           have k0 := hz.1
           have k1 := hz.2.1
           have f0 := hz.2.2.1
           have f1 := hz.2.2.2.1
           go_wp2_with fail
           refine Calls.mono (qmake_any _ _ _ _ 53 1074 _ (hN6.set2 hz.2.2.2.2 (by decide) _ _) hma2.out (by omega) ⟨by omega, by omega⟩ (by omega)) ?_
           rintro e w7 ⟨v7, rfl, ⟨y, s, b0, d0, rfl, hY, hE, hyA, hs⟩, hb7⟩
           have zR := (QL.set2far zR6 (by first | omega | (simp; done) | (simp; omega))).below hb7
           have yb : Below w.heap.size w w7 := below_trans ((yb6.setCell (by first | omega | (simp; done) | (simp; omega)) _).setCell (by first | omega | (simp; done) | (simp; omega)) _) hb7
           have HE := hid (hE.trans (show nrm _ _ = fv x by rw [← hfv.out, hde.out]; rfl))
           have HYA := hid hyA
           clear hb7 hE hyA
           obtain ⟨⟨k0, k1, f0, f1, hs2⟩, k2, f2⟩ := zR
           go_wp2_with fail
           refine bodyPost_ret (by simp [results, Tryd.results25, go_sem, k0, k1, k2]; try rfl) rfl ?_
           exact ⟨_, rfl, ⟨_, _, _, _, rfl, ((hY.setCell hs2 (by decide) _ _).setCell (hs2.setCell _ _) (by decide) _ _).setCell ((hs2.setCell _ _).setCell _ _) (by decide) _ _, HE.out, abs_weak HYA.out (by omega), by omega⟩, ((yb.setCell (by first | omega | (simp; done) | (simp; omega)) _).setCell (by first | omega | (simp; done) | (simp; omega)) _).setCell (by first | omega | (simp; done) | (simp; omega)) _⟩)
        | (refine Calls.mono (qmake_any _ _ _ _ 53 1074 _ (hN5.below (by (repeat' (first | (with_reducible assumption) | (with_reducible exact Below.refl _ _) | (with_reducible refine below_al ?_ _) | (with_reducible refine below_drewN ?_ _) | (with_reducible refine Below.drew ?_) | (with_reducible refine Below.alloc ?_ ?_ _) | (with_reducible refine Below.setCell ?_ ?_ _) | (refine below_trans ?_ (by assumption)) | go_size)))) hma.out (by omega) ⟨by omega, by omega⟩ (by omega)) ?_
           rintro e w7 ⟨v7, rfl, ⟨y, s, b0, d0, rfl, hY, hE, hyA, hs⟩, hb7⟩
           have zR := (zR5.alloc _).below hb7
           have yb : Below w.heap.size w w7 := below_trans (by (repeat' (first | (with_reducible assumption) | (with_reducible exact Below.refl _ _) | (with_reducible refine below_al ?_ _) | (with_reducible refine below_drewN ?_ _) | (with_reducible refine Below.drew ?_) | (with_reducible refine Below.alloc ?_ ?_ _) | (with_reducible refine Below.setCell ?_ ?_ _) | (refine below_trans ?_ (by assumption)) | go_size))) hb7
           have HE := hid (hE.trans (show nrm _ _ = fv x by rw [← hfv.out, hde.out]; rfl))
           have HYA := hid hyA
           clear hb7 hE hyA
           obtain ⟨⟨k0, k1, f0, f1, hs2⟩, k2, f2⟩ := zR
           go_wp2_with fail
           refine bodyPost_ret (by simp [results, Tryd.results25, go_sem, k0, k1, k2]; try rfl) rfl ?_
           exact ⟨_, rfl, ⟨_, _, _, _, rfl, ((hY.setCell hs2 (by decide) _ _).setCell (hs2.setCell _ _) (by decide) _ _).setCell ((hs2.setCell _ _).setCell _ _) (by decide) _ _, HE.out, abs_weak HYA.out (by omega), by omega⟩, ((yb.setCell (by first | omega | (simp; done) | (simp; omega)) _).setCell (by first | omega | (simp; done) | (simp; omega)) _).setCell (by first | omega | (simp; done) | (simp; omega)) _⟩)
theorem qval_any (x : Int) (hx0 : 0 ≤ x) (hx1 : x < 18446744073709551616) (w : World) :
    Calls Tryd.prog 25 #[.int .u64 x] w fun e w' => RetQD 3 w (fv x) 1200 1100 e w' := qval_gen 1200 (by omega) x hx0 hx1 w
theorem qof_gen (B A : Nat) (hB : 160000 ≤ B) (hB2 : B ≤ 1000000) (hA : B + 200000 ≤ A) (neg : Bool) (m : Nat) (am : Option Addr) (cm : Nat) (n : Int) (w : World) (h0 : Ns .u32 w am cm (limbs m)) (hl : (limbs m).length ≤ 5000) (hn : -200000 ≤ n ∧ n ≤ 200000) :
    Calls Tryd.prog 33 #[.agg #[.bool neg, .slice am (limbs m).length cm, .int .i64 n]] w fun e w' => RetQD 3 w (nrm (sg neg m) n) A 200000 e w' := by
  have hm : m < 2 ^ B := by
    have h1 : m < 4294967296 ^ (limbs m).length := (digs_len_le _ (by omega) _ _).1 (Nat.le_refl _)
    rw [b_pow] at h1
    exact Nat.lt_of_lt_of_le h1 (Nat.pow_le_pow_right (by omega) (by omega))
  have hma := hid (show (m : Int).natAbs < 2 ^ B by rw [Int.natAbs_natCast]; exact hm)
  have hma2 := hid (show (-(m : Int)).natAbs < 2 ^ B by rw [Int.natAbs_neg, Int.natAbs_natCast]; exact hm)
  have hlv := hid (lval_limbs m)
  clear hm
  cases neg
  · go_enter Tryd.func33, Tryd.ntmps33
    go_wp2_with fail
    have zR0 : QL 42 ((w.alloc (.cells #[.bool false, .slice am (limbs m).length cm, .int .i64 n] 25)).alloc (.cells #[.bool false, .slice none 0 0, .int .i64 0] 42)) (w.heap.size + 1) false (.slice none 0 0) 0 := QL.made (by first | omega | (simp; done) | (simp; omega))
    have zA0 : QL 25 ((w.alloc (.cells #[.bool false, .slice am (limbs m).length cm, .int .i64 n] 25)).alloc (.cells #[.bool false, .slice none 0 0, .int .i64 0] 42)) w.heap.size false (.slice am (limbs m).length cm) n := (QL.made rfl).alloc _
    refine (zlimbs_any (limbs m) am cm _ (limbs_lim m) (h0.below (by (repeat' (first | (with_reducible assumption) | (with_reducible exact Below.refl _ _) | (with_reducible refine below_al ?_ _) | (with_reducible refine below_drewN ?_ _) | (with_reducible refine Below.drew ?_) | (with_reducible refine Below.alloc ?_ ?_ _) | (with_reducible refine Below.setCell ?_ ?_ _) | (refine below_trans ?_ (by assumption)) | go_size)))) (by omega)).mono ?_
    rw [hlv.out]
    rintro e w1 ⟨a1, c1, rfl, hN1, hb1⟩
    have zR1 := zR0.below hb1
    have yb1 : Below w.heap.size w w1 := below_trans (by (repeat' (first | (with_reducible assumption) | (with_reducible exact Below.refl _ _) | (with_reducible refine below_al ?_ _) | (with_reducible refine below_drewN ?_ _) | (with_reducible refine Below.drew ?_) | (with_reducible refine Below.alloc ?_ ?_ _) | (with_reducible refine Below.setCell ?_ ?_ _) | (refine below_trans ?_ (by assumption)) | go_size))) hb1
    have zA1 := zA0.below hb1
    clear zR0 zA0 hb1
    obtain ⟨⟨j0, j1, -, -, -⟩, j2, -⟩ := id zA1
    have hlt5 := zR1.lt
    have hlt6 := zA1.lt
    go_wp2_with fail
    refine Calls.mono (qmake_any _ _ _ _ B 200000 _ (hN1.below (by (repeat' (first | (with_reducible assumption) | (with_reducible exact Below.refl _ _) | (with_reducible refine below_al ?_ _) | (with_reducible refine below_drewN ?_ _) | (with_reducible refine Below.drew ?_) | (with_reducible refine Below.alloc ?_ ?_ _) | (with_reducible refine Below.setCell ?_ ?_ _) | (refine below_trans ?_ (by assumption)) | go_size)))) hma.out (by omega) ⟨by omega, by omega⟩ (by omega)) ?_
    rintro e w7 ⟨v7, rfl, ⟨y, s, b0, d0, rfl, hY, hE, hyA, hs⟩, hb7⟩
    have zR := (zR1.alloc _).below hb7
    have yb : Below w.heap.size w w7 := below_trans (by (repeat' (first | (with_reducible assumption) | (with_reducible exact Below.refl _ _) | (with_reducible refine below_al ?_ _) | (with_reducible refine below_drewN ?_ _) | (with_reducible refine Below.drew ?_) | (with_reducible refine Below.alloc ?_ ?_ _) | (with_reducible refine Below.setCell ?_ ?_ _) | (refine below_trans ?_ (by assumption)) | go_size))) hb7
    have HE := hid hE
    have HYA := hid hyA
    clear hb7 hE hyA
    obtain ⟨⟨k0, k1, f0, f1, hs2⟩, k2, f2⟩ := zR
    go_wp2_with fail
    refine bodyPost_ret (by simp [results, Tryd.results33, go_sem, k0, k1, k2]; try rfl) rfl ?_
    exact ⟨_, rfl, ⟨_, _, _, _, rfl, ((hY.setCell hs2 (by decide) _ _).setCell (hs2.setCell _ _) (by decide) _ _).setCell ((hs2.setCell _ _).setCell _ _) (by decide) _ _, HE.out, abs_weak HYA.out (by omega), by omega⟩, ((yb.setCell (by first | omega | (simp; done) | (simp; omega)) _).setCell (by first | omega | (simp; done) | (simp; omega)) _).setCell (by first | omega | (simp; done) | (simp; omega)) _⟩
  · go_enter Tryd.func33, Tryd.ntmps33
    go_wp2_with fail
    have zR0 : QL 42 ((w.alloc (.cells #[.bool true, .slice am (limbs m).length cm, .int .i64 n] 25)).alloc (.cells #[.bool false, .slice none 0 0, .int .i64 0] 42)) (w.heap.size + 1) false (.slice none 0 0) 0 := QL.made (by first | omega | (simp; done) | (simp; omega))
    have zA0 : QL 25 ((w.alloc (.cells #[.bool true, .slice am (limbs m).length cm, .int .i64 n] 25)).alloc (.cells #[.bool false, .slice none 0 0, .int .i64 0] 42)) w.heap.size true (.slice am (limbs m).length cm) n := (QL.made rfl).alloc _
    refine (zlimbs_any (limbs m) am cm _ (limbs_lim m) (h0.below (by (repeat' (first | (with_reducible assumption) | (with_reducible exact Below.refl _ _) | (with_reducible refine below_al ?_ _) | (with_reducible refine below_drewN ?_ _) | (with_reducible refine Below.drew ?_) | (with_reducible refine Below.alloc ?_ ?_ _) | (with_reducible refine Below.setCell ?_ ?_ _) | (refine below_trans ?_ (by assumption)) | go_size)))) (by omega)).mono ?_
    rw [hlv.out]
    rintro e w1 ⟨a1, c1, rfl, hN1, hb1⟩
    have zR1 := zR0.below hb1
    have yb1 : Below w.heap.size w w1 := below_trans (by (repeat' (first | (with_reducible assumption) | (with_reducible exact Below.refl _ _) | (with_reducible refine below_al ?_ _) | (with_reducible refine below_drewN ?_ _) | (with_reducible refine Below.drew ?_) | (with_reducible refine Below.alloc ?_ ?_ _) | (with_reducible refine Below.setCell ?_ ?_ _) | (refine below_trans ?_ (by assumption)) | go_size))) hb1
    have zA1 := zA0.below hb1
    clear zR0 zA0 hb1
    obtain ⟨⟨j0, j1, -, -, -⟩, j2, -⟩ := id zA1
    have hlt5 := zR1.lt
    have hlt6 := zA1.lt
    go_wp2_with fail
    have zA2 := zA1.alloc (.cells #[.bool (zneg (m : Int)), .slice a1 (zl (m : Int)).length c1] 40)
    have zR2 := zR1.alloc (.cells #[.bool (zneg (m : Int)), .slice a1 (zl (m : Int)).length c1] 40)
    refine (zneg_any _ _ _ _ (hN1.below (by (repeat' (first | (with_reducible assumption) | (with_reducible exact Below.refl _ _) | (with_reducible refine below_al ?_ _) | (with_reducible refine below_drewN ?_ _) | (with_reducible refine Below.drew ?_) | (with_reducible refine Below.alloc ?_ ?_ _) | (with_reducible refine Below.setCell ?_ ?_ _) | (refine below_trans ?_ (by assumption)) | go_size))))).mono ?_
    rintro e w6 ⟨a6, c6, rfl, hN6, hb6⟩
    have zR6 := zR2.below hb6
    have zA6 := zA2.below hb6
    have yb6 : Below w.heap.size w w6 := below_trans (by (repeat' (first | (with_reducible assumption) | (with_reducible exact Below.refl _ _) | (with_reducible refine below_al ?_ _) | (with_reducible refine below_drewN ?_ _) | (with_reducible refine Below.drew ?_) | (with_reducible refine Below.alloc ?_ ?_ _) | (with_reducible refine Below.setCell ?_ ?_ _) | (refine below_trans ?_ (by assumption)) | go_size))) hb6
    have hz := (ZL.made (w := w1) (t := 40) (n := zneg (m : Int)) (v := .slice a1 (zl (m : Int)).length c1) rfl).below hb6
    have k0 := hz.1
    have k1 := hz.2.1
    have f0 := hz.2.2.1
    have f1 := hz.2.2.2.1
    have i0 := zA6.1.1
    have i1 := zA6.1.2.1
    have i2 := zA6.2.1
    go_wp2_with fail
    refine Calls.mono (qmake_any _ _ _ _ B 200000 _ (hN6.set2 hz.2.2.2.2 (by decide) _ _) hma2.out (by omega) ⟨by omega, by omega⟩ (by omega)) ?_
    rintro e w7 ⟨v7, rfl, ⟨y, s, b0, d0, rfl, hY, hE, hyA, hs⟩, hb7⟩
    have zR := (QL.set2far zR6 (by first | omega | (simp; done) | (simp; omega))).below hb7
    have yb : Below w.heap.size w w7 := below_trans ((yb6.setCell (by first | omega | (simp; done) | (simp; omega)) _).setCell (by first | omega | (simp; done) | (simp; omega)) _) hb7
    have HE := hid hE
    have HYA := hid hyA
    clear hb7 hE hyA k0 k1 f0 f1
    obtain ⟨⟨k0, k1, f0, f1, hs2⟩, k2, f2⟩ := zR
    go_wp2_with fail
    refine bodyPost_ret (by simp [results, Tryd.results33, go_sem, k0, k1, k2]; try rfl) rfl ?_
    exact ⟨_, rfl, ⟨_, _, _, _, rfl, ((hY.setCell hs2 (by decide) _ _).setCell (hs2.setCell _ _) (by decide) _ _).setCell ((hs2.setCell _ _).setCell _ _) (by decide) _ _, HE.out, abs_weak HYA.out (by omega), by omega⟩, ((yb.setCell (by first | omega | (simp; done) | (simp; omega)) _).setCell (by first | omega | (simp; done) | (simp; omega)) _).setCell (by first | omega | (simp; done) | (simp; omega)) _⟩
theorem qof_any (neg : Bool) (m : Nat) (am : Option Addr) (cm : Nat) (n : Int) (w : World) (h0 : Ns .u32 w am cm (limbs m)) (hl : (limbs m).length ≤ 5000) (hn : -200000 ≤ n ∧ n ≤ 200000) :
    Calls Tryd.prog 33 #[.agg #[.bool neg, .slice am (limbs m).length cm, .int .i64 n]] w fun e w' => RetQD 3 w (nrm (sg neg m) n) 400000 200000 e w' :=
  qof_gen 160000 400000 (by omega) (by omega) (by omega) neg m am cm n w h0 hl hn
end Go.Proofs.YteaakbeemhmciaaDoor
