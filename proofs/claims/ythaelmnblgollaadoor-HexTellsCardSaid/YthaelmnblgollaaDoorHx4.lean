/- HexFixed. -/
import Derived.Test.YthaelmnblgollaaDoorHx3
set_option linter.unusedVariables false
set_option linter.unusedSimpArgs false
namespace Go.Ulp
open Go.RowKit
theorem fv_isNh (x : Int) : IsN (fv x) := nrm_isN _ _
theorem fv_small_h (x : Int) (h0 : 0 ≤ x) (h1 : x < 18446744073709551616) : (limbs (fv x).1.natAbs).length ≤ 2 ∧ -1074 ≤ (fv x).2 ∧ (fv x).2 ≤ 1024 := by
  obtain ⟨-, h2, h3, h4⟩ := fv_bd x h0 h1
  exact ⟨limbs_short1 53 2 (by omega) _ h2, h3, h4⟩
theorem hfK_fv (x : Int) (h0 : 0 ≤ x) (h1 : x < 18446744073709551616) (hv : hasVal x = true) (hz : (fv x).1 ≠ 0) : -1074 ≤ hfK (fv x) ∧ hfK (fv x) ≤ 1023 := by
  unfold fv at hz ⊢
  have hm : sg (negB x) (mantOf x) ≠ 0 := fun h => hz ((nrm_zero_iff _ _).2 h)
  rw [hfK_nrm _ _ hm, sg_abs]
  have hv := of_decide_eq_true hv
  have hm2 : (mantOf x).natAbs ≠ 0 := by
    intro h; apply hm; unfold sg; split <;> omega
  have hb := (bl_pos (mantOf x).natAbs).2 (by omega)
  have hb2 : bl (mantOf x).natAbs ≤ 53 := by
    rw [bl_le]
    have : 0 ≤ fracOf x ∧ fracOf x < 4503599627370496 := by unfold fracOf; omega
    have e : (2 : Nat) ^ 53 = 9007199254740992 := by decide
    rw [e]
    unfold mantOf
    split <;> omega
  have hd : -1074 ≤ dexp x ∧ dexp x ≤ 971 := by unfold dexp expOf; omega
  omega
end Go.Ulp
namespace Go.Proofs.YthaelmnblgollaaDoor
open Go.RowKit Go.Ulp
set_option linter.unusedVariables false
set_option linter.unusedSimpArgs false
set_option maxHeartbeats 2000000
set_option maxRecDepth 100000
theorem hexFixed_any (x mode : Int) (n : Nat) (h0 : 0 ≤ x) (h1 : x < 18446744073709551616) (hv : hasVal x = true) (hz : (fv x).1 ≠ 0) (m0 : 0 ≤ mode) (m1 : mode ≤ 4) (hn : n ≤ 1000) (w : World) :
    Calls Tryd.prog 12 #[.int .u64 x, .int .i64 (n : Int), .int .i64 mode] w fun e w' => e = .returned (.tuple #[.string (bsOf (hfT x n mode)), .bool (hfC x n)]) ∧ Below w.heap.size w w' := by
  obtain ⟨d1, d2, d3⟩ := fv_small_h x h0 h1
  obtain ⟨-, d4, -⟩ := fv_bd x h0 h1
  obtain ⟨k1, k2⟩ := hfK_fv x h0 h1 hv hz
  have hI := fv_isNh x
  have hC : hfC x n = mplC (fv x) (hfK (fv x) - 4 * (n : Int)) := rfl
  have hT : hfT x n mode = hxT (negB x) n (hfM (hfD (fv x) n mode) n) (hfK (hfD (fv x) n mode)) := rfl
  have QV0 := hid (fun w => qval_any x h0 h1 w)
  have DA := hid (show ∀ L : List UInt8, L.length ≤ 1000000 → ∀ w, Calls Tryd.prog 11 #[.string (bsOf L), .int .u64 x] w fun e w' => e = .returned (.string (bsOf (dsh (negB x) L))) ∧ w = w' from fun L hL w => dashed_any L x h0 h1 (by omega) w)
  generalize fv x = D at *
  obtain ⟨e1, e2, e3, e4, e5⟩ := hf_main D n mode hI hz
  have TB := hid (fun v w h => topBit_any v D 1200 1100 w h (by omega) (by omega) hz (by omega))
  obtain ⟨K, hK⟩ : ∃ K, K = hfK D := ⟨_, rfl⟩
  have hHD : hfD D n mode = mplD D (hfK D - 4 * (n : Int)) mode := rfl
  rw [← hK] at hHD TB hC e3 k1 k2
  have CTO := hid (show ∀ v w, QD 3 w D 1200 1100 v → Calls Tryd.prog 29 #[v, .int .i64 (K - 4 * (n : Int)), .int .i64 mode] w (RetCt 3 w (hfD D n mode) 900000 200000 (hfC x n)) from fun v w h => by
    rw [hHD, hC]
    exact cutTo_any v D 1200 1100 (K - 4 * (n : Int)) mode w h (by omega) (by omega) (by omega) (by omega) m0 m1)
  obtain ⟨C, hCC⟩ : ∃ C, C = hfC x n := ⟨_, rfl⟩
  rw [← hCC] at CTO ⊢
  obtain ⟨E, hE⟩ : ∃ E, E = hfD D n mode := ⟨_, rfl⟩
  rw [← hE] at e1 e2 e3 e4 e5 CTO hT
  clear hHD hC hE hCC
  have CT := cmp_top E (K + 1) e1
  have HR := hid (fun X S h => hf_rest E n X S e2 e1 e4 h)
  obtain ⟨P, hP⟩ : ∃ P, P = hfK E := ⟨_, rfl⟩
  obtain ⟨M, hM⟩ : ∃ M, M = hfM E n := ⟨_, rfl⟩
  rw [← hP] at e3 e4 CT hT
  rw [← hP, ← hM] at HR
  rw [← hM] at hT
  have hE2 : E.2 ≤ 1100 := by
    have := (bl_pos E.1.natAbs).2 (by omega)
    have : hfK E = (bl E.1.natAbs : Int) + E.2 - 1 := rfl
    omega
  have hE1 : E.1.natAbs < 2 ^ 54 := by
    have : (2 : Nat) ^ 54 = 2 * 2 ^ 53 := by decide
    omega
  have TI := hid (fun v w (h : QD 3 w E 900000 200000 v) => QD.tight h 54 1100 hE1 (by omega))
  obtain ⟨c, hc⟩ : ∃ c, c = cmpD (absD E) (nrm 1 (K + 1)) := ⟨_, rfl⟩
  have hcP : 0 ≤ c ↔ K + 1 ≤ P := by rw [hc]; exact CT
  clear CT
  have ZN1 := hid (show ∀ w, Calls Tryd.prog 24 #[.int .i64 1] w fun e w' => RetZ 3 w 1 e w' from fun w => zN_any 1 (by omega) w)
  have QM1 := hid (fun a c w h0 => qmake_any a c 1 (K + 1) 2 3000 w h0 (by decide) (by omega) (by omega) (by omega))
  have QM2 := hid (fun a c w h0 => qmake_any a c 1 P 2 3000 w h0 (by decide) (by omega) (by omega) (by omega))
  obtain ⟨A, hA⟩ : ∃ A, A = 54 + (200000 + 1100) := ⟨_, rfl⟩
  rw [← hA] at TI
  have QAb := hid (fun v w h => qabs_any v E A 200000 w h (by omega) (by omega))
  have QC := hid (show ∀ v u w, QD 3 w (absD E) A 200000 v → QD 3 w (nrm 1 (K + 1)) (2 + 3000) 3000 u → Calls Tryd.prog 30 #[v, u] w fun e w' => e = .returned (.int .i64 c) ∧ Below w.heap.size w w' from fun v u w k0 k1 => by
    rw [hc]; exact qcmp_any v u (absD E) (nrm 1 (K + 1)) A 200000 (2 + 3000) 3000 w k0 k1 (by omega) (by omega) (by omega) (by omega))
  have QN := hid (fun v w h => qneg_any v (nrm 1 P) (2 + 3000) 3000 w h (by omega) (by omega))
  obtain ⟨A2, hA2⟩ : ∃ A2, A2 = max A (2 + 3000) + max 200000 3000 + 1 := ⟨_, rfl⟩
  obtain ⟨T2, hT2⟩ : ∃ T2, T2 = max 200000 3000 := ⟨_, rfl⟩
  have QA := hid (show ∀ v u w, QD 3 w (absD E) A 200000 v → QD 3 w (negD (nrm 1 P)) (2 + 3000) 3000 u → Calls Tryd.prog 33 #[v, u] w fun e w' => RetQD 3 w (addD (absD E) (negD (nrm 1 P))) A2 T2 e w' from fun v u w k0 k1 => by
    rw [hA2, hT2]; exact qadd_any v u _ _ A 200000 (2 + 3000) 3000 w k0 k1 (by omega) (by omega) (by omega) (by omega))
  have QS := hid (fun v w h => qshift_any v (addD (absD E) (negD (nrm 1 P))) A2 T2 (4 * (n : Int) - P) w h (by omega) (by omega) (by omega) (by omega))
  obtain ⟨R, hR⟩ : ∃ R, R = addD (absD E) (negD (nrm 1 P)) := ⟨_, rfl⟩
  rw [← hR] at QA QS HR
  obtain ⟨NG, hNG⟩ : ∃ Q9, Q9 = negD (nrm 1 P) := ⟨_, rfl⟩
  rw [← hNG] at QA QN
  obtain ⟨AE, hAE⟩ : ∃ Q9, Q9 = absD E := ⟨_, rfl⟩
  rw [← hAE] at QA QC QAb
  obtain ⟨ON, hON⟩ : ∃ Q9, Q9 = nrm 1 P := ⟨_, rfl⟩
  rw [← hON] at QM2 QN
  obtain ⟨OK, hOK⟩ : ∃ Q9, Q9 = nrm 1 (K + 1) := ⟨_, rfl⟩
  rw [← hOK] at QM1 QC
  obtain ⟨SH, hSH⟩ : ∃ Q9, Q9 = shD R (4 * (n : Int) - P) := ⟨_, rfl⟩
  rw [← hSH] at QS HR
  clear hR hNG hAE hON hOK hSH hc hP hM hK hE1 hI e1 e2 e4 e5 d1 d2 d3 d4 hv hz hE2
  obtain ⟨B9, hB9⟩ : ∃ B, B = 4096 := ⟨_, rfl⟩
  have SX := hid (fun m (hm : m < 2 ^ B9) v w h => sixteens_any m n v w h (Nat.le_trans (zl_len_bits _ B9 (by rw [Int.natAbs_natCast]; exact hm)) (by omega)) hn)
  have TE := hid (fun w => twoExp_any P (by omega) w)
  obtain ⟨T, hTT⟩ : ∃ T, T = hfT x n mode := ⟨_, rfl⟩
  rw [← hTT] at hT ⊢
  have HT := hid hT
  generalize negB x = ng at *
  clear hT hTT
  have hw1 : IntKind.i64.wrap (4 * (n : Int)) = 4 * (n : Int) := IntWalk.i64_in _ (by omega)
  have hw2 : IntKind.i64.wrap (K - 4 * (n : Int)) = K - 4 * (n : Int) := IntWalk.i64_in _ (by omega)
  have hw3 : IntKind.i64.wrap (K + 1) = K + 1 := IntWalk.i64_in _ (by omega)
  have hw4 : IntKind.i64.wrap (4 * (n : Int) - P) = 4 * (n : Int) - P := IntWalk.i64_in _ (by omega)
  go_enter Tryd.func12, Tryd.ntmps12
  go_upto_region 2 with (go_at_call 27; (with_reducible refine (QV0.out _).mono ?_); rintro en w1 ⟨v8, rfl, hq8, hb1⟩; obtain ⟨X8, n8, a8, c8, rfl, hN8, hD8⟩ := id hq8)
  refine wp_worldZ (fun WW => Below w.heap.size w WW ∧ QW 53 3 WW w1.heap.size D 1200 1100 X8 n8 a8 c8) ⟨below_trans hb1 (below_alloc _ _), QW.made hq8⟩ ?_
  intro W1 ⟨y1, q8⟩
  obtain ⟨g8, hg8⟩ : ∃ g, g = w1.heap.size := ⟨_, rfl⟩
  rw [← hg8] at q8 ⊢
  clear hg8 hq8 hN8 hD8 hb1 QV0
  obtain ⟨j0, j1, j2⟩ := q8.cells
  go_upto_region 3 with (go_at_call 28; (with_reducible refine (TB.out _ _ q8.qd).mono ?_); rintro en w2 ⟨rfl, hb2⟩)
  have y2 := below_trans y1 hb2
  replace q8 := q8.below hb2
  clear y1 hb2 j0 j1 j2 TB
  obtain ⟨j0, j1, j2⟩ := q8.cells
  go_upto_region 4 with (go_at_call 29; (with_reducible refine (CTO.out _ _ q8.qd).mono ?_); rintro en w3 ⟨v10, rfl, hq10, hb3⟩; replace hq10 := TI.out _ _ hq10; obtain ⟨X10, n10, a10, c10, rfl, hN10, hD10⟩ := id hq10)
  refine wp_worldZ (fun WW => Below w.heap.size w WW ∧ QW 53 3 WW w3.heap.size E A 200000 X10 n10 a10 c10) ⟨below_trans (below_trans y2 hb3) (below_alloc _ _), QW.made hq10⟩ ?_
  intro W3 ⟨y3, q10⟩
  obtain ⟨g10, hg10⟩ : ∃ g, g = w3.heap.size := ⟨_, rfl⟩
  rw [← hg10] at q10 ⊢
  clear hg10 hq10 hN10 hD10 hb3 y2 CTO TI q8 j0 j1 j2
  obtain ⟨j0, j1, j2⟩ := q10.cells
  obtain ⟨b, hb0⟩ : ∃ b, decide (0 ≤ c) = b := ⟨_, rfl⟩
  have HPB := hid (show P = if b = true then K + 1 else K by
    rw [← hb0]
    by_cases h : 0 ≤ c
    · rw [decide_eq_true h, if_pos rfl]; omega
    · rw [decide_eq_false h, if_neg (by simp)]; omega)
  have hPb : -1074 ≤ P ∧ P ≤ 1024 := by omega
  clear hcP e3
  go_upto_if 38 with (first
    | (go_at_call 31; (with_reducible refine (QAb.out _ _ q10.qd).mono ?_); rintro en w4 ⟨v4, rfl, hq4, hb4⟩)
    | (go_at_call 24; (with_reducible refine (ZN1.out _).mono ?_); rintro en w5 ⟨az, cz, rfl, hz9, hb5⟩)
    | (go_at_call 32; (with_reducible refine (QM1.out _ _ _ hz9).mono ?_); rintro en w6 ⟨v6, rfl, hq6, hb6⟩)
    | (go_at_call 30; (with_reducible refine (QC.out _ _ _ ((hq4.below hb5).below hb6) hq6).mono ?_); rintro en w7 ⟨rfl, hb7⟩))
  replace y3 := below_trans (below_trans (below_trans (below_trans y3 hb4) hb5) hb6) hb7
  replace q10 := (((q10.below hb4).below hb5).below hb6).below hb7
  clear hb4 hb5 hb6 hb7 hq4 hz9 hq6 j0 j1 j2
  obtain ⟨W7, hW7⟩ : ∃ W, W = w7 := ⟨_, rfl⟩
  subst hW7
  go_cut [9] (fun s9 wx => s9 = .int .i64 P ∧ wx = W7)
  case first => as_aux_lemma =>
    cases b
    · have HPK := hid (show P = K from HPB.out)
      clear HPB
      go_wp2_with fail
      go_meet
      exact ⟨by rw [HPK.out], rfl⟩
    · have HPK := hid (show P = K + 1 from HPB.out)
      clear HPB
      go_wp2_with fail
      go_meet
      exact ⟨by rw [HPK.out], rfl⟩
  case rest =>
    obtain ⟨rfl, hwc⟩ := hcut
    subst hwc
    obtain ⟨W4, hW4⟩ : ∃ W, W = wc := ⟨_, rfl⟩
    subst hW4
    clear QM1 QC HPB hb0
    obtain ⟨j0, j1, j2⟩ := q10.cells
    go_upto_region 7 with (first
      | (go_at_call 31; (with_reducible refine (QAb.out _ _ q10.qd).mono ?_); rintro en w4 ⟨v4, rfl, hq4, hb4⟩)
      | (go_at_call 24; (with_reducible refine (ZN1.out _).mono ?_); rintro en w5 ⟨az, cz, rfl, hz9, hb5⟩)
      | (go_at_call 32; (with_reducible refine (QM2.out _ _ _ hz9).mono ?_); rintro en w6 ⟨v6, rfl, hq6, hb6⟩)
      | (go_at_call 34; (with_reducible refine (QN.out _ _ hq6).mono ?_); rintro en w7 ⟨v7, rfl, hq7, hb7⟩)
      | (go_at_call 33; (with_reducible refine (QA.out _ _ _ (((hq4.below hb5).below hb6).below hb7) hq7).mono ?_); rintro en w8 ⟨v12, rfl, hq12, hb8⟩; obtain ⟨X12, n12, a12, c12, rfl, hN12, hD12⟩ := id hq12))
    refine wp_worldZ (fun WW => Below w.heap.size w WW ∧ QW 53 3 WW w8.heap.size R A2 T2 X12 n12 a12 c12) ⟨below_trans (below_trans (below_trans (below_trans (below_trans (below_trans y3 hb4) hb5) hb6) hb7) hb8) (below_alloc _ _), QW.made hq12⟩ ?_
    intro W8 ⟨y8, q12⟩
    obtain ⟨g12, hg12⟩ : ∃ g, g = w8.heap.size := ⟨_, rfl⟩
    rw [← hg12] at q12 ⊢
    clear hg12 hq12 hN12 hD12 hb4 hb5 hb6 hb7 hb8 y3 q10 j0 j1 j2 hq4 hz9 hq6 hq7 QAb QM2 QN QA
    obtain ⟨j0, j1, j2⟩ := q12.cells
    go_upto_region 8 with (go_at_call 35; (with_reducible refine (QS.out _ _ q12.qd).mono ?_); rintro en w9 ⟨v13, rfl, hq13, hb9⟩; obtain ⟨X13, n13, a13, c13, rfl, hN13, hD13, hX13, hn13⟩ := id hq13)
    have hz13 : ZV 53 3 (w9.alloc (.cells #[.bool (zneg X13), .slice a13 (zl X13).length c13, .int .i64 (n13 : Int)] 53)) w9.heap.size X13 := (QW.made hq13).zv (hN13.below (below_alloc _ _))
    have hc13 := (QW.made (tq := 53) hq13).cells.2.2
    refine wp_worldZ (fun WW => Below w.heap.size w WW ∧ ZV 53 3 WW w9.heap.size X13 ∧ WW.cell? ⟨w9.heap.size, 2, none⟩ = some (.int .i64 (n13 : Int))) ⟨below_trans (below_trans y8 hb9) (below_alloc _ _), hz13, hc13⟩ ?_
    intro W9 ⟨y9, z13, c13z⟩
    obtain ⟨g13, hg13⟩ : ∃ g, g = w9.heap.size := ⟨_, rfl⟩
    rw [← hg13] at z13 c13z ⊢
    obtain ⟨r1, r2, r3⟩ := HR.out X13 n13 hD13
    have lX : (zl X13).length ≤ 900000 := Nat.le_trans (zl_len_bits _ _ hX13) (by omega)
    have lP : (zl (pw n13)).length ≤ 900000 := Nat.le_trans (zl_len_pw n13) (by omega)
    have pP : pw n13 ≠ 0 := by have := pw_pos n13; omega
    have HDG := hid (hxc_digit n M r2)
    have h16 : M - 16 ^ n < 2 ^ B9 := by
      have e16 : (16 : Nat) ^ n = 2 ^ (4 * n) := by rw [Nat.pow_mul]
      have : (2 : Nat) ^ (4 * n) ≤ 2 ^ B9 := Nat.pow_le_pow_right (by omega) (by omega)
      omega
    obtain ⟨Z, hZ⟩ : ∃ Z, Z = M - 16 ^ n := ⟨_, rfl⟩
    rw [← hZ] at r1 HDG h16
    have SX2 := hid (SX.out Z h16)
    clear hg13 hq13 hN13 hD13 hX13 hb9 y8 q12 j0 j1 j2 QS hz13 hc13 r2 r3 h16 hZ SX HR
    obtain ⟨B, hB⟩ : ∃ B, B = X13 % pw n13 := ⟨_, rfl⟩
    have HB := hid hB
    have R1 := hid r1
    clear hB r1
    refine wp_region_growL 11 8 [55, 56, 57, 58, 59, 60, 54, 61, 62, 14, 15] [Fact.is (.pointer (some ⟨g13, 0, none⟩)), Fact.z 3 (X13), Fact.is (.pointer (some ⟨g13, 2, none⟩)), Fact.is (.int .i64 (n13 : Int)), Fact.z 3 (pw n13), Fact.z2 3 (((Z : Nat) : Int)) (B), Fact.z2 3 (((Z : Nat) : Int)) (B), Fact.z 3 (((Z : Nat) : Int)), Fact.z 3 (B), Fact.z0 W9.heap.size 32, Fact.z0 W9.heap.size 32] [9, 10] (by kernel_rfl) (by kernel_rfl) rfl ⟨?o0, ?o1, ?o2, ?o3, ?o4, ?o5, ?o6, ?o7, ?o8, ?o9, ?o10, trivial⟩ ?late (fun d _ _ _ _ h => by cases d <;> exact h) ?after
    case o0 => (refine StepOKF.plain rfl ?_; intro ρ w1 R hρ hb hp hR; have e13 : ρ (.tmp 13) = .pointer (some ⟨g13, 0, none⟩) := hρ.tmp 13 rfl; replace hR := fun v w2 h1 h2 => hR v w2 h1 h2 (fun h => absurd h (by decide)); have hcon := hρ.con; have hfn := hρ.fn; clear hρ hp; unfold OpRun; go_simp; exact hR _ _ (Below.refl _ _) rfl)
    case o1 => (refine StepOKF.plain rfl ?_; intro ρ w1 R hρ hb hp hR; have e55 : ρ (.tmp 55) = _ := hp 0 55 rfl rfl; obtain ⟨ya9, yc9, yj9, yn9⟩ := ZV.below z13 hb; obtain ⟨j90, j91, -⟩ := yj9; replace hR := fun v w2 h1 h2 => hR v w2 h1 h2 (fun h => absurd h (by decide)); have hcon := hρ.con; have hfn := hρ.fn; clear hρ hp; unfold OpRun; go_simp; exact hR _ _ (Below.refl _ _) ⟨ya9, yc9, rfl, yn9⟩)
    case o2 => (refine StepOKF.plain rfl ?_; intro ρ w1 R hρ hb hp hR; have e13 : ρ (.tmp 13) = .pointer (some ⟨g13, 0, none⟩) := hρ.tmp 13 rfl; replace hR := fun v w2 h1 h2 => hR v w2 h1 h2 (fun h => absurd h (by decide)); have hcon := hρ.con; have hfn := hρ.fn; clear hρ hp; unfold OpRun; go_simp; exact hR _ _ (Below.refl _ _) rfl)
    case o3 => (refine StepOKF.plain rfl ?_; intro ρ w1 R hρ hb hp hR; have e57 : ρ (.tmp 57) = _ := hp 2 57 rfl rfl; have j12 := (hb.cell (World.block_lt_of_cell? _ _ c13z)).trans c13z; replace hR := fun v w2 h1 h2 => hR v w2 h1 h2 (fun h => absurd h (by decide)); have hcon := hρ.con; have hfn := hρ.fn; clear hρ hp; unfold OpRun; go_simp; exact hR _ _ (Below.refl _ _) rfl)
    case o4 => (refine StepOKF.plain rfl ?_; intro ρ w1 R hρ hb hp hR; have e58 : ρ (.tmp 58) = _ := hp 3 58 rfl rfl; replace hR := fun v w2 h1 h2 => hR v w2 h1 h2 (fun h => absurd h (by decide)); have hcon := hρ.con; have hfn := hρ.fn; clear hρ hp; unfold OpRun; go_simp; (refine (zpowD n13 _ (by first | assumption | omega)).mono ?_; rintro e wn ⟨v9, rfl, hz9, hbn⟩; exact ⟨_, rfl, hR _ _ hbn hz9⟩))
    case o5 => (refine StepOKF.plain rfl ?_; intro ρ w1 R hρ hb hp hR; have f56 := hp 1 56 rfl rfl; have f59 := hp 4 59 rfl rfl; replace hR := fun v w2 h1 h2 => hR v w2 h1 h2 (fun h => absurd h (by decide)); have hcon := hρ.con; have hfn := hρ.fn; clear hρ hp; unfold OpRun; go_simp; (refine (zdivD _ _ _ _ _ f56 f59 (by first | assumption | omega) (by first | assumption | omega) (by first | assumption | omega)).mono ?_; rintro e wn ⟨v9, rfl, hz9, hbn⟩; exact ⟨_, rfl, hR _ _ hbn (by rw [← R1.out, ← HB.out.symm]; exact hz9)⟩))
    case o6 => (refine StepOKF.plain rfl ?_; intro ρ w1 R hρ hb hp hR; have f60 := hp 5 60 rfl rfl; replace hR := fun v w2 h1 h2 => hR v w2 h1 h2 (fun h => absurd h (by decide)); have hcon := hρ.con; have hfn := hρ.fn; clear hρ hp; unfold OpRun; go_simp; exact hR _ _ (Below.refl _ _) f60)
    case o7 => (refine StepOKF.plain rfl ?_; intro ρ w1 R hρ hb hp hR; have f54 := hp 6 54 rfl rfl; replace hR := fun v w2 h1 h2 => hR v w2 h1 h2 (fun h => absurd h (by decide)); have hcon := hρ.con; have hfn := hρ.fn; clear hρ hp; unfold OpRun; go_simp; (obtain ⟨a97, b97, e97, h97, k97⟩ := ZD2.parts f54; rw [e97]; exact hR _ _ (Below.refl _ _) h97))
    case o8 => (refine StepOKF.plain rfl ?_; intro ρ w1 R hρ hb hp hR; have f54 := hp 6 54 rfl rfl; replace hR := fun v w2 h1 h2 => hR v w2 h1 h2 (fun h => absurd h (by decide)); have hcon := hρ.con; have hfn := hρ.fn; clear hρ hp; unfold OpRun; go_simp; (obtain ⟨a97, b97, e97, h97, k97⟩ := ZD2.parts f54; rw [e97]; exact hR _ _ (Below.refl _ _) k97))
    case o9 => (refine StepOKF.plain rfl ?_; intro ρ w1 R hρ hb hp hR; have hcon := hρ.con; have hfn := hρ.fn; clear hρ hp; unfold OpRun; go_simp; exact hR _ _ (below_alloc _ _) ⟨_, rfl, hb.size, ZL.made rfl⟩ (fun _ => ⟨_, rfl, Nat.le_refl _, by simp⟩))
    case o10 => (refine StepOKF.plain rfl ?_; intro ρ w1 R hρ hb hp hR; have hcon := hρ.con; have hfn := hρ.fn; clear hρ hp; unfold OpRun; go_simp; exact hR _ _ (below_alloc _ _) ⟨_, rfl, hb.size, ZL.made rfl⟩ (fun _ => ⟨_, rfl, Nat.le_refl _, by simp⟩))
    case late =>
      intro o ho
      simp only [List.getElem?_cons_succ, List.getElem?_cons_zero, Option.some.injEq] at ho
      subst ho
      refine ⟨rfl, ?_⟩
      intro ρ w1 hρ hb hp
      have f54 := hp 6 54 rfl rfl
      obtain ⟨a97, b97, e97, h97, k97⟩ := ZD2.parts f54
      refine ⟨_, ?_, k97⟩
      intro w2
      have hcon := hρ.con
      go_simp
      try rfl
    case after =>
      intro u wn hb hf hd
      have f61 := hf 7 61 (by omega) rfl
      have f62 := hf 8 62 (by omega) rfl
      have f14 := hf 9 14 (by omega) rfl
      have f15 := hf 10 15 (by omega) rfl
      have d14_15 : u 14 ≠ u 15 := hd 9 10 14 15 (by omega) (by omega) (by omega) rfl rfl rfl rfl
      clear hf hd
      simp only [putAll, Act.put, List.setIfInBounds_toArray, List.set_cons_zero, List.set_cons_succ, List.drop_succ_cons, List.drop_zero, List.drop_nil]
      obtain ⟨xa1, xc1, xe1, xn1⟩ := f61
      obtain ⟨xa2, xc2, xe2, xn2⟩ := f62
      obtain ⟨gv14, eg1, hg1, zz1⟩ := f14
      obtain ⟨gv15, eg2, hg2, zz2⟩ := f15
      have gne : gv14 ≠ gv15 := by intro h; apply d14_15; rw [eg1, eg2, h]
      rw [xe1, xe2, eg1, eg2]
      clear xe1 xe2 eg1 eg2 d14_15
      have zst := zv_store2 (by decide) hb hg1 hg2 gne zz1 zz2 xn1 xn2
      obtain ⟨k0, k1, kf0, kf1, -⟩ := id zz1
      obtain ⟨l0, l1, lf0, lf1, -⟩ := id zz2
      go_upto_region 9 with fail
      clear k0 k1 kf0 kf1 l0 l1 lf0 lf1 zz1 zz2 xn1 xn2 hb
      refine wp_worldZ (fun WW => Below _ _ WW ∧ ZV _ _ WW _ _ ∧ ZV _ _ WW _ _) zst ?_
      clear zst
      intro W10 ⟨y10, z14, z15⟩
      have ya := below_trans y9 y10
      clear y9 y10 z13 c13z hg1 hg2 gne z15
      obtain ⟨a14, c14, zl14, n14⟩ := z14
      obtain ⟨j0, j1, -⟩ := zl14
      have hxl := hxD_len n Z
      go_upto_if 64 with fail
      obtain ⟨S, hS⟩ : ∃ S : List UInt8, S = 48 :: 120 :: 49 :: (if n = 0 then [] else 46 :: hxD n Z) := ⟨_, rfl⟩
      have HS := hid hS
      have hSl : S.length ≤ 5000 := by rw [hS]; split <;> simp <;> omega
      clear hS
      go_cut [16] (fun s16 wx => s16 = .string (bsOf S) ∧ Below W10.heap.size W10 wx)
      case first => as_aux_lemma =>
        by_cases hn0 : n = 0
        · have hn1 : ¬ 0 < (n : Int) := by omega
          have hn2 : decide (0 < n) = false := decide_eq_false (by omega)
          have HS2 := hid (show S = [48, 120, 49] by rw [HS.out, if_pos hn0])
          clear hn0 HS
          go_wp2_with fail
          go_meet
          exact ⟨by rw [HS2.out]; rfl, Below.refl _ _⟩
        · have hn1 : 0 < (n : Int) := by omega
          have hn2 : decide (0 < n) = true := decide_eq_true (by omega)
          have HS2 := hid (show S = [48, 120, 49] ++ ([46] ++ hxD n Z) by rw [HS.out, if_neg hn0]; rfl)
          obtain ⟨H, hH⟩ : ∃ H, H = hxD n Z := ⟨_, rfl⟩
          rw [← hH] at SX2 hxl HS2
          clear hn0 hH HS
          have a1 := add_bs (P := Tryd.prog) [46] H (by simp; omega)
          have a2 := add_bs (P := Tryd.prog) [48, 120, 49] ([46] ++ H) (by simp; omega)
          rw [← HS2.out] at a2
          have b1 : (ByteArray.mk #[46]) = bsOf [46] := rfl
          have b2 : (ByteArray.mk #[48, 120, 49]) = bsOf [48, 120, 49] := rfl
          generalize [46] ++ H = H2 at *
          have SX3 := hid (fun w (h : Nz 3 w a14 c14 (zl (Z : Int))) => SX2.out _ w ⟨a14, c14, rfl, h⟩)
          go_wp2_with (go_at_call 10; (with_reducible refine (SX3.out _ n14).mono ?_); rintro en w11 ⟨rfl, hb11⟩)
          go_meet
          exact ⟨rfl, hb11⟩
      case rest =>
        obtain ⟨rfl, hbx⟩ := hcut
        have yx := below_trans ya hbx
        have hpl : (hxP P).length ≤ 100 := by
          unfold hxP
          have := decD_len 5 P.natAbs (by omega)
          simp; omega
        have a1 := add_bs (P := Tryd.prog) S (hxP P) (by omega)
        have DA1 := hid (fun w => DA.out (S ++ hxP P) (by rw [List.length_append]; omega) w)
        have HTT := hid (show T = dsh ng (S ++ hxP P) by
          rw [HT.out, HS.out]
          unfold hxT
          rw [← HDG.out]
          congr 1)
        generalize S ++ hxP P = SP at *
        generalize hxP P = PP at *
        clear HS HT HDG j0 j1 ya hbx hxl
        go_wp2_with (first
          | (go_at_call 37; (with_reducible refine (TE.out _).mono ?_); rintro en w12 ⟨rfl, rfl⟩)
          | (go_at_call 11; (with_reducible refine (DA1.out _).mono ?_); rintro en w13 ⟨rfl, rfl⟩))
        go_ret2
        exact ⟨by rw [HTT.out]; rfl, yx⟩
end Go.Proofs.YthaelmnblgollaaDoor
