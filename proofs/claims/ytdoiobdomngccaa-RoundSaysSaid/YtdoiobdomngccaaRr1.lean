/- Rounding, the reference's side: the value of a rank. -/
import Derived.Test.YtdoiobdomngccaaQ5
import Derived.Test.YtdoiobdomngccaaRk
import Derived.Test.YtdoiobdomngccaaRegZ
import Derived.Deep.DeepCutAuto
import Derived.Deep.CutBlock
set_option linter.unusedVariables false
set_option linter.unusedSimpArgs false
namespace Go.Ulp
open Go.RowKit
/-- the value of a rank -/
def rkD (n : Int) : Dy := nrm (rvs n) (-1074)
theorem rkD_neg (n : Int) : rkD (-n) = negD (rkD n) := by unfold rkD; rw [rvs_neg, nrm_neg]
theorem rkD_fv (x : Int) (h0 : 0 ≤ x) (h1 : x < 9223372036854775808) : fv x = rkD x := by
  rw [fv_rank x h0 (by omega)]
  unfold rkD rankOf
  rw [if_neg (by omega)]; congr 2; omega
theorem rvi_parts2 (h q : Nat) (hq : q < 9007199254740992) (hh : h = 0 ∨ 4503599627370496 ≤ q) : rvi (h * 4503599627370496 + q) = q * 2 ^ h := by
  unfold rvi
  by_cases h1 : h * 4503599627370496 + q < 4503599627370496
  · rw [if_pos h1, show h = 0 by omega]; omega
  · rw [if_neg h1]
    have : 4503599627370496 ≤ q := by omega
    rw [show (h * 4503599627370496 + q) / 4503599627370496 - 1 = h by omega, show (h * 4503599627370496 + q) % 4503599627370496 + 4503599627370496 = q by omega]
theorem rvi_pow (h : Nat) : rvi (h * 4503599627370496 + 4503599627370496) = 2 ^ (52 + h) := by
  rw [rvi_parts2 h 4503599627370496 (by omega) (.inr (by omega)), Nat.pow_add]
theorem rkD_pow (h s : Nat) (z : Int) (hz : z = -(s : Int) + (52 + h : Nat)) : nrm 1 z = nrm (rvs ((h * 4503599627370496 + 4503599627370496 : Nat) : Int)) (-(s : Int)) := by
  rw [rvs_nat, rvi_pow, ← pw_nat]
  have := nrm_scale 1 (-(s : Int)) (52 + h)
  rw [Int.one_mul] at this
  rw [this, hz]
theorem rkD_top : nrm (pw 1024) 0 = rkD 9218868437227405312 := by
  have h1 := nrm_scale 1 0 1024
  rw [Int.one_mul] at h1
  rw [h1]
  exact rkD_pow 2046 1074 _ (by omega)
end Go.Ulp
namespace Go.Proofs.Ytdoiobdomngccaa
open Go.RowKit Go.Ulp
set_option linter.unusedVariables false
set_option linter.unusedSimpArgs false
set_option maxHeartbeats 1000000
set_option maxRecDepth 100000
theorem rankVal_pos (a : Int) (h0 : 0 ≤ a) (h1 : a < 9218868437227405312) (w : World) :
    Calls Try.prog 110 #[.int .i64 a] w fun e w' => RetQD 3 w (rkD a) 1200 1100 e w' := by
  have QV := hid (show ∀ w, Calls Try.prog 100 #[.int .u64 a] w fun e w' => RetQD 3 w (rkD a) 1200 1100 e w' from fun w => by rw [← rkD_fv a h0 (by omega)]; exact qval_any a h0 (by omega) w)
  have ZP : Hid (∀ w, Calls Try.prog 125 #[.int .i64 1024] w fun e w' => RetZ 3 w (pw 1024) e w') := hid (fun w => zpow_any 1024 w (by omega))
  have yb0 := below_alloc w (.cells #[.bool false, .slice none 0 0, .int .i64 0] 73)
  have zR0 : QL 73 (w.alloc (.cells #[.bool false, .slice none 0 0, .int .i64 0] 73)) w.heap.size false (.slice none 0 0) 0 := QL.made rfl
  obtain ⟨p, hp⟩ : ∃ p, p = pw 1024 := ⟨_, rfl⟩
  rw [← hp] at ZP
  clear hp
  have h0n : ¬ a < 0 := by omega
  go_enter Try.func110, Try.ntmps110
  go_upto_region 5 with (go_at_call 125; (with_reducible refine (ZP.out _).mono ?_); rintro en w1 ⟨a1, c1, rfl, hN1, hb1⟩)
  have z40 : QL 73 (w1.alloc (.cells #[.bool (zneg p), .slice a1 (zl p).length c1, .int .i64 0] 73)) w1.heap.size (zneg p) (.slice a1 (zl p).length c1) 0 := QL.made rfl
  have zR1 := (zR0.below hb1).alloc (.cells #[.bool (zneg p), .slice a1 (zl p).length c1, .int .i64 0] 73)
  have yb1 : Below w.heap.size w (w1.alloc (.cells #[.bool (zneg p), .slice a1 (zl p).length c1, .int .i64 0] 73)) := below_trans (below_trans yb0 hb1) (below_alloc _ _)
  have hlt := (zR0.below hb1).lt
  have hne : w1.heap.size ≠ w.heap.size := by omega
  go_upto_region 6 with fail
  go_wp2_with (go_at_call 100; (with_reducible refine (QV.out _).mono ?_); rintro en w2 ⟨v2, rfl, hQ, hb2⟩; have z4 := z40.below hb2; have zR := zR1.below hb2; have yb2 := below_trans yb1 hb2; obtain ⟨x, nn, ax, cx, rfl, hX, hD, hA, hT⟩ := hQ; have HD := hid hD; have HA := hid hA; obtain ⟨⟨k0, k1, f0, f1, s4⟩, k2, f2⟩ := id z4; obtain ⟨⟨m0, m1, g0, g1, sR⟩, m2, g2⟩ := id zR; clear z40 zR1 hD hA hb2 hN1 yb0 zR0 hb1 yb1; have zRs : QL 73 (((w2.setCell ⟨w1.heap.size, 0, none⟩ (.bool (zneg x))).setCell ⟨w1.heap.size, 1, none⟩ (.slice ax (zl x).length cx)).setCell ⟨w1.heap.size, 2, none⟩ (.int .i64 (nn : Int))) w.heap.size false (.slice none 0 0) 0 := ((zR.far _ _ (by simp; omega)).far _ _ (by simp; omega)).far _ _ (by simp; omega); have hXs : Nz 3 (((w2.setCell ⟨w1.heap.size, 0, none⟩ (.bool (zneg x))).setCell ⟨w1.heap.size, 1, none⟩ (.slice ax (zl x).length cx)).setCell ⟨w1.heap.size, 2, none⟩ (.int .i64 (nn : Int))) ax cx (zl x) := ((hX.setCell s4 (by decide) _ _).setCell (s4.setCell _ _) (by decide) _ _).setCell ((s4.setCell _ _).setCell _ _) (by decide) _ _; have yb3 : Below w.heap.size w (((w2.setCell ⟨w1.heap.size, 0, none⟩ (.bool (zneg x))).setCell ⟨w1.heap.size, 1, none⟩ (.slice ax (zl x).length cx)).setCell ⟨w1.heap.size, 2, none⟩ (.int .i64 (nn : Int))) := ((yb2.setCell (by first | omega | (simp; done) | (simp; omega)) _).setCell (by first | omega | (simp; done) | (simp; omega)) _).setCell (by first | omega | (simp; done) | (simp; omega)) _)
  have s7 := zRs.1.2.2.2.2
  refine bodyPost_ret (by simp [results, Try.results110, go_sem, m0, m1, m2]; try rfl) rfl ?_
  exact ⟨_, rfl, ⟨_, _, _, _, rfl, ((hXs.setCell s7 (by decide) _ _).setCell (s7.setCell _ _) (by decide) _ _).setCell ((s7.setCell _ _).setCell _ _) (by decide) _ _, HD.out, HA.out, hT⟩, ((yb3.setCell (by first | omega | (simp; done) | (simp; omega)) _).setCell (by first | omega | (simp; done) | (simp; omega)) _).setCell (by first | omega | (simp; done) | (simp; omega)) _⟩
theorem rankVal_neg (a : Int) (h0 : 0 < a) (h1 : a < 9218868437227405312) (w : World) :
    Calls Try.prog 110 #[.int .i64 (-a)] w fun e w' => RetQD 3 w (rkD (-a)) 1200 1100 e w' := by
  rw [rkD_neg]
  have QV := hid (show ∀ w, Calls Try.prog 100 #[.int .u64 a] w fun e w' => RetQD 3 w (rkD a) 1200 1100 e w' from fun w => by rw [← rkD_fv a (by omega) (by omega)]; exact qval_any a (by omega) (by omega) w)
  have ZP : Hid (∀ w, Calls Try.prog 125 #[.int .i64 1024] w fun e w' => RetZ 3 w (pw 1024) e w') := hid (fun w => zpow_any 1024 w (by omega))
  have yb0 := below_alloc w (.cells #[.bool false, .slice none 0 0, .int .i64 0] 73)
  have zR0 : QL 73 (w.alloc (.cells #[.bool false, .slice none 0 0, .int .i64 0] 73)) w.heap.size false (.slice none 0 0) 0 := QL.made rfl
  obtain ⟨p, hp⟩ : ∃ p, p = pw 1024 := ⟨_, rfl⟩
  rw [← hp] at ZP
  obtain ⟨D, hD0⟩ : ∃ D, D = rkD a := ⟨_, rfl⟩
  rw [← hD0] at QV ⊢
  clear hp hD0
  have h0n : -a < 0 := by omega
  have NG := hid (fun v w h => qneg_any v D 1200 1100 w h (by omega) (by omega))
  go_enter Try.func110, Try.ntmps110
  go_upto_region 5 with (go_at_call 125; (with_reducible refine (ZP.out _).mono ?_); rintro en w1 ⟨a1, c1, rfl, hN1, hb1⟩)
  have z40 : QL 73 (w1.alloc (.cells #[.bool (zneg p), .slice a1 (zl p).length c1, .int .i64 0] 73)) w1.heap.size (zneg p) (.slice a1 (zl p).length c1) 0 := QL.made rfl
  have zR1 := (zR0.below hb1).alloc (.cells #[.bool (zneg p), .slice a1 (zl p).length c1, .int .i64 0] 73)
  have yb1 : Below w.heap.size w (w1.alloc (.cells #[.bool (zneg p), .slice a1 (zl p).length c1, .int .i64 0] 73)) := below_trans (below_trans yb0 hb1) (below_alloc _ _)
  have hlt := (zR0.below hb1).lt
  have hne : w1.heap.size ≠ w.heap.size := by omega
  go_upto_region 6 with fail
  go_wp2_with (first
    | (go_at_call 100; (with_reducible refine (QV.out _).mono ?_); rintro en w2 ⟨v2, rfl, hQ, hb2⟩; have z4 := z40.below hb2; have zR := zR1.below hb2; have yb2 := below_trans yb1 hb2; obtain ⟨x, nn, ax, cx, rfl, hX, hD, hA, hT⟩ := hQ; have HD := hid hD; have HA := hid hA; obtain ⟨⟨k0, k1, f0, f1, s4⟩, k2, f2⟩ := id z4; obtain ⟨⟨m0, m1, g0, g1, sR⟩, m2, g2⟩ := id zR; clear z40 zR1 hD hA hb2 hN1 yb0 zR0 hb1 yb1; have zRs : QL 73 (((w2.setCell ⟨w1.heap.size, 0, none⟩ (.bool (zneg x))).setCell ⟨w1.heap.size, 1, none⟩ (.slice ax (zl x).length cx)).setCell ⟨w1.heap.size, 2, none⟩ (.int .i64 (nn : Int))) w.heap.size false (.slice none 0 0) 0 := ((zR.far _ _ (by simp; omega)).far _ _ (by simp; omega)).far _ _ (by simp; omega); have hXs : Nz 3 (((w2.setCell ⟨w1.heap.size, 0, none⟩ (.bool (zneg x))).setCell ⟨w1.heap.size, 1, none⟩ (.slice ax (zl x).length cx)).setCell ⟨w1.heap.size, 2, none⟩ (.int .i64 (nn : Int))) ax cx (zl x) := ((hX.setCell s4 (by decide) _ _).setCell (s4.setCell _ _) (by decide) _ _).setCell ((s4.setCell _ _).setCell _ _) (by decide) _ _; have yb3 : Below w.heap.size w (((w2.setCell ⟨w1.heap.size, 0, none⟩ (.bool (zneg x))).setCell ⟨w1.heap.size, 1, none⟩ (.slice ax (zl x).length cx)).setCell ⟨w1.heap.size, 2, none⟩ (.int .i64 (nn : Int))) := ((yb2.setCell (by first | omega | (simp; done) | (simp; omega)) _).setCell (by first | omega | (simp; done) | (simp; omega)) _).setCell (by first | omega | (simp; done) | (simp; omega)) _; have hQs := hid (show QD 3 _ D 1200 1100 _ from ⟨x, nn, ax, cx, rfl, hXs, HD.out, HA.out, hT⟩))
    | (go_at_call 137; (with_reducible refine (NG.out _ _ hQs.out).mono ?_); rintro en w3 ⟨v3, rfl, ⟨x3, n3, a3, c3, rfl, hX3, hD3, hA3, hT3⟩, hb3⟩; obtain ⟨⟨i0, i1, i2, i3, s3⟩, i4, i5⟩ := zRs.below hb3; have HD3 := hid hD3; have HA3 := hid hA3; clear hD3 hA3))
  refine bodyPost_ret (by simp [results, Try.results110, go_sem, i0, i1, i4]; try rfl) rfl ?_
  exact ⟨_, rfl, ⟨_, _, _, _, rfl, ((hX3.setCell s3 (by decide) _ _).setCell (s3.setCell _ _) (by decide) _ _).setCell ((s3.setCell _ _).setCell _ _) (by decide) _ _, HD3.out, HA3.out, hT3⟩, (((below_trans yb3 hb3).setCell (by first | omega | (simp; done) | (simp; omega)) _).setCell (by first | omega | (simp; done) | (simp; omega)) _).setCell (by first | omega | (simp; done) | (simp; omega)) _⟩
end Go.Proofs.Ytdoiobdomngccaa
namespace Go.Ulp
theorem pw_abs_lt {a b : Nat} (h : a < b) : (pw a).natAbs < 2 ^ b := by rw [pw_abs]; exact Nat.pow_lt_pow_right (by omega) h
end Go.Ulp
namespace Go.Proofs.Ytdoiobdomngccaa
open Go.RowKit Go.Ulp
set_option linter.unusedVariables false
set_option linter.unusedSimpArgs false
set_option maxHeartbeats 1000000
set_option maxRecDepth 100000
theorem rankVal_top (A : Nat) (hAA : 1024 < A) (hA2 : A ≤ 100000000) (w : World) :
    Calls Try.prog 110 #[.int .i64 9218868437227405312] w fun e w' => RetQD 3 w (rkD 9218868437227405312) A 1100 e w' := by
  rw [← rkD_top]
  have ZP : Hid (∀ w, Calls Try.prog 125 #[.int .i64 1024] w fun e w' => RetZ 3 w (pw 1024) e w') := hid (fun w => zpow_any 1024 w (by omega))
  have yb0 := below_alloc w (.cells #[.bool false, .slice none 0 0, .int .i64 0] 73)
  have zR0 : QL 73 (w.alloc (.cells #[.bool false, .slice none 0 0, .int .i64 0] 73)) w.heap.size false (.slice none 0 0) 0 := QL.made rfl
  obtain ⟨p, hp⟩ : ∃ p, p = pw 1024 := ⟨_, rfl⟩
  have HP := hid (show p.natAbs < 2 ^ A by rw [hp]; exact pw_abs_lt hAA)
  rw [← hp] at ZP ⊢
  clear hp
  go_enter Try.func110, Try.ntmps110
  go_upto_region 5 with (go_at_call 125; (with_reducible refine (ZP.out _).mono ?_); rintro en w1 ⟨a1, c1, rfl, hN1, hb1⟩)
  obtain ⟨W1, hW1⟩ : ∃ W, W = w1.alloc (.cells #[.bool (zneg p), .slice a1 (zl p).length c1, .int .i64 0] 73) := ⟨_, rfl⟩
  have z40 : QL 73 W1 w1.heap.size (zneg p) (.slice a1 (zl p).length c1) 0 := by rw [hW1]; exact QL.made rfl
  have zR1 : QL 73 W1 w.heap.size false (.slice none 0 0) 0 := by rw [hW1]; exact (zR0.below hb1).alloc _
  have yb1 : Below w.heap.size w W1 := by rw [hW1]; exact below_trans (below_trans yb0 hb1) (below_alloc _ _)
  have hN2 : Nz 3 W1 a1 c1 (zl p) := by rw [hW1]; exact hN1.below (below_alloc _ _)
  rw [← hW1]
  obtain ⟨⟨k0, k1, f0, f1, s4⟩, k2, f2⟩ := id z40
  obtain ⟨⟨m0, m1, g0, g1, s7⟩, m2, g2⟩ := id zR1
  clear hW1 hN1 hb1 zR0 yb0
  go_wp2_with fail
  refine bodyPost_ret (by simp [results, Try.results110, go_sem, m0, m1, m2]; try rfl) rfl ?_
  exact ⟨_, rfl, ⟨p, 0, _, _, rfl, ((hN2.setCell s7 (by decide) _ _).setCell (s7.setCell _ _) (by decide) _ _).setCell ((s7.setCell _ _).setCell _ _) (by decide) _ _, rfl, HP.out, by omega⟩, ((yb1.setCell (by first | omega | (simp; done) | (simp; omega)) _).setCell (by first | omega | (simp; done) | (simp; omega)) _).setCell (by first | omega | (simp; done) | (simp; omega)) _⟩
theorem rankVal_bot (A : Nat) (hAA : 1024 < A) (hA2 : A ≤ 100000000) (w : World) :
    Calls Try.prog 110 #[.int .i64 (-9218868437227405312)] w fun e w' => RetQD 3 w (rkD (-9218868437227405312)) A 1100 e w' := by
  rw [rkD_neg, ← rkD_top]
  have ZP : Hid (∀ w, Calls Try.prog 125 #[.int .i64 1024] w fun e w' => RetZ 3 w (pw 1024) e w') := hid (fun w => zpow_any 1024 w (by omega))
  have yb0 := below_alloc w (.cells #[.bool false, .slice none 0 0, .int .i64 0] 73)
  have zR0 : QL 73 (w.alloc (.cells #[.bool false, .slice none 0 0, .int .i64 0] 73)) w.heap.size false (.slice none 0 0) 0 := QL.made rfl
  obtain ⟨p, hp⟩ : ∃ p, p = pw 1024 := ⟨_, rfl⟩
  have HP := hid (show p.natAbs < 2 ^ A by rw [hp]; exact pw_abs_lt hAA)
  rw [← hp] at ZP ⊢
  clear hp
  have NG := hid (fun v w h => qneg_any v (nrm p 0) A 1100 w h hA2 (by omega))
  generalize hDD : negD (nrm p 0) = DD at *
  clear hDD
  go_enter Try.func110, Try.ntmps110
  go_upto_region 5 with (go_at_call 125; (with_reducible refine (ZP.out _).mono ?_); rintro en w1 ⟨a1, c1, rfl, hN1, hb1⟩)
  obtain ⟨W1, hW1⟩ : ∃ W, W = w1.alloc (.cells #[.bool (zneg p), .slice a1 (zl p).length c1, .int .i64 0] 73) := ⟨_, rfl⟩
  have z40 : QL 73 W1 w1.heap.size (zneg p) (.slice a1 (zl p).length c1) 0 := by rw [hW1]; exact QL.made rfl
  have zR1 : QL 73 W1 w.heap.size false (.slice none 0 0) 0 := by rw [hW1]; exact (zR0.below hb1).alloc _
  have yb1 : Below w.heap.size w W1 := by rw [hW1]; exact below_trans (below_trans yb0 hb1) (below_alloc _ _)
  have hN2 : Nz 3 W1 a1 c1 (zl p) := by rw [hW1]; exact hN1.below (below_alloc _ _)
  rw [← hW1]
  obtain ⟨⟨k0, k1, f0, f1, s4⟩, k2, f2⟩ := id z40
  clear hW1 hN1 hb1 zR0 yb0
  have hQs := hid (show QD 3 W1 (nrm p 0) A 1100 (.agg #[.bool (zneg p), .slice a1 (zl p).length c1, .int .i64 0]) from ⟨p, 0, _, _, rfl, hN2, rfl, HP.out, by omega⟩)
  go_wp2_with (go_at_call 137; (with_reducible refine (NG.out _ _ hQs.out).mono ?_); rintro en w3 ⟨v3, rfl, ⟨x3, n3, a3, c3, rfl, hX3, hD3, hA3, hT3⟩, hb3⟩; obtain ⟨⟨i0, i1, i2, i3, s3⟩, i4, i5⟩ := zR1.below hb3; have HD3 := hid hD3; have HA3 := hid hA3; clear hD3 hA3)
  refine bodyPost_ret (by simp [results, Try.results110, go_sem, i0, i1, i4]; try rfl) rfl ?_
  exact ⟨_, rfl, ⟨_, _, _, _, rfl, ((hX3.setCell s3 (by decide) _ _).setCell (s3.setCell _ _) (by decide) _ _).setCell ((s3.setCell _ _).setCell _ _) (by decide) _ _, HD3.out, HA3.out, hT3⟩, (((below_trans yb1 hb3).setCell (by first | omega | (simp; done) | (simp; omega)) _).setCell (by first | omega | (simp; done) | (simp; omega)) _).setCell (by first | omega | (simp; done) | (simp; omega)) _⟩
theorem rankVal_any (n : Int) (h0 : -9218868437227405312 ≤ n) (h1 : n ≤ 9218868437227405312) (w : World) :
    Calls Try.prog 110 #[.int .i64 n] w fun e w' => RetQD 3 w (rkD n) 1200 1100 e w' := by
  by_cases c0 : n < 0
  · by_cases c1 : n = -9218868437227405312
    · subst c1; exact rankVal_bot 1200 (by omega) (by omega) w
    · have := rankVal_neg (-n) (by omega) (by omega) w
      rwa [Int.neg_neg] at this
  · by_cases c1 : n = 9218868437227405312
    · subst c1; exact rankVal_top 1200 (by omega) (by omega) w
    · exact rankVal_pos n (by omega) (by omega) w
end Go.Proofs.Ytdoiobdomngccaa
