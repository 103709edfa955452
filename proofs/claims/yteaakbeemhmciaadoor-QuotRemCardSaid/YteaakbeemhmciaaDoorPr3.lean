/- What is to be told of Fma; ProdSays: the law's walk. -/
import Derived.Test.YteaakbeemhmciaaDoorPr2
import Derived.Test.YteaakbeemhmciaaDoorSu4
set_option linter.unusedVariables false
set_option linter.unusedSimpArgs false
namespace Go.Proofs.YteaakbeemhmciaaDoor
open Go.RowKit Go.Ulp
set_option linter.unusedVariables false
set_option linter.unusedSimpArgs false
set_option maxHeartbeats 2000000
set_option maxRecDepth 100000
theorem fusedOf_any (x y : Int) (hx : 0 ≤ x ∧ x < 18446744073709551616) (hy : 0 ≤ y ∧ y < 18446744073709551616) (z : Nat) (hz : z < 18446744073709551616) (mode : Int) (m0 : 0 ≤ mode) (m1 : mode ≤ 4) (w : World) :
    Calls Tryd.prog 84 #[.int .u64 x, .int .u64 y, .int .u64 (z : Int), .int .i64 mode] w (RetX w (fX (kindP x y) (sgx x y) (isNan (z : Int)) (isInf (z : Int)) (mulD (fv x) (fv y)) z mode) (fC (kindP x y) (sgx x y) (isNan (z : Int)) (isInf (z : Int)) (mulD (fv x) (fv y)) z mode)) := by
  have hz0 : 0 ≤ (z : Int) := by omega
  have hz1 : (z : Int) < 18446744073709551616 := by omega
  have hsg : sgx x y = (!(negB x == negB y)) := rfl
  have NX := hid (fun w => rIsNan_any x hx.1 hx.2 w)
  have NY := hid (fun w => rIsNan_any y hy.1 hy.2 w)
  have NZ := hid (fun w => rIsNan_any (z : Int) hz0 hz1 w)
  have IX := hid (fun w => rIsInf_any x hx.1 hx.2 w)
  have IY := hid (fun w => rIsInf_any y hy.1 hy.2 w)
  have IZ := hid (fun w => rIsInf_any (z : Int) hz0 hz1 w)
  have ZX := hid (fun w => rIsZero_any x hx.1 hx.2 w)
  have ZY := hid (fun w => rIsZero_any y hy.1 hy.2 w)
  have MX := hid (fun w => rMinus_any x hx.1 hx.2 w)
  have MY := hid (fun w => rMinus_any y hy.1 hy.2 w)
  have VX := hid (fun w => qval_any x hx.1 hx.2 w)
  have VY := hid (fun w => qval_any y hy.1 hy.2 w)
  have VZ := hid (fun w => qval_any (z : Int) hz0 hz1 w)
  have QM := hid (fun v u w h0 h1 => qmul_any v u (fv x) (fv y) 1200 1100 1200 1100 w h0 h1 (by omega) (by omega) (by omega) (by omega))
  have QA := hid (fun v u w h0 h1 => (qadd_any v u (mulD (fv x) (fv y)) (fv (z : Int)) (1200 + 1200) (1100 + 1100) 1200 1100 w h0 h1 (by omega) (by omega) (by omega) (by omega)).mono fun _ _ h => RetQD.weak h (show max (1200 + 1200) 1200 + max (1100 + 1100) 1100 + 1 ≤ 5000 by omega) (show max (1100 + 1100) 1100 ≤ 2200 by omega))
  have QCS := hid (fun v u w h0 h1 => qcmp_any v u (addD (mulD (fv x) (fv y)) (fv (z : Int))) (0, 0) 5000 2200 1 0 w h0 h1 (by omega) (by omega) (by omega) (by omega))
  have QCD := hid (fun v u w h0 h1 => qcmp_any v u (mulD (fv x) (fv y)) (0, 0) (1200 + 1200) (1100 + 1100) 1 0 w h0 h1 (by omega) (by omega) (by omega) (by omega))
  have RD := hid (fun v w h => roundedD_any v (addD (mulD (fv x) (fv y)) (fv (z : Int))) 5000 2200 mode w h (addD_isN _ _) (by omega) (by omega) m0 m1)
  have S1 := hid (show ∀ w, Calls Tryd.prog 62 #[.int .u64 9218868437227405312, .bool (sgx x y)] w fun e w' => e = .returned (.int .u64 ((infN (sgx x y) : Nat) : Int)) ∧ w = w' from fun w => by
    rw [infN_eq2]; exact rSigned_any 9218868437227405312 (by omega) (by omega) _ w)
  have S2 := hid (show ∀ w, Calls Tryd.prog 62 #[.int .u64 0, .bool (sgx x y)] w fun e w' => e = .returned (.int .u64 ((sgN (sgx x y) : Nat) : Int)) ∧ w = w' from fun w => by
    rw [sgN_eq, ← Int.zero_add (sgb _)]; exact rSigned_any 0 (by omega) (by omega) _ w)
  have S3 := hid (show ∀ b w, Calls Tryd.prog 62 #[.int .u64 0, .bool b] w fun e w' => e = .returned (.int .u64 (sgb b)) ∧ w = w' from fun b w => by
    rw [← Int.zero_add (sgb b)]; exact rSigned_any 0 (by omega) (by omega) _ w)
  have SI := hid (show ∀ g w, Ns .u64 w (some ⟨g, 0, none⟩) 2 [infN (sgx x y), z] → Calls Tryd.prog 70 #[.slice (some ⟨g, 0, none⟩) 2 2, .int .i64 mode] w (RetX w (sumX [infN (sgx x y), z] mode) (sumC [infN (sgx x y), z] mode)) from fun g w h => sumOf_any (some ⟨g, 0, none⟩) 2 [infN (sgx x y), z] mode w h (two_lt _ _ (infN_lt _) hz) (by simp) m0 m1)
  have SZ := hid (show ∀ g w, Ns .u64 w (some ⟨g, 0, none⟩) 2 [sgN (sgx x y), z] → Calls Tryd.prog 70 #[.slice (some ⟨g, 0, none⟩) 2 2, .int .i64 mode] w (RetX w (sumX [sgN (sgx x y), z] mode) (sumC [sgN (sgx x y), z] mode)) from fun g w h => sumOf_any (some ⟨g, 0, none⟩) 2 [sgN (sgx x y), z] mode w h (two_lt _ _ (sgN_lt _) hz) (by simp) m0 m1)
  have N1 := hid (fun w t => ns2 w t (infN (sgx x y)) z)
  have N2 := hid (fun w t => ns2 w t (sgN (sgx x y)) z)
  have FN := hid (fun h => f_nan (k := kindP x y) (s := sgx x y) (nz := isNan (z : Int)) (iz := isInf (z : Int)) (D := mulD (fv x) (fv y)) (z := z) (mode := mode) h)
  have FI := hid (fun h => f_inf (k := kindP x y) (s := sgx x y) (iz := isInf (z : Int)) (D := mulD (fv x) (fv y)) (z := z) (mode := mode) h)
  have FZ := hid (fun h => f_z (k := kindP x y) (s := sgx x y) (D := mulD (fv x) (fv y)) (z := z) (mode := mode) h)
  have FV := hid (fun h h2 => f_num (k := kindP x y) (s := sgx x y) (D := mulD (fv x) (fv y)) (z := z) (mode := mode) h h2)
  have FB := hid (fun h h2 h3 => f_both (k := kindP x y) (s := sgx x y) (D := mulD (fv x) (fv y)) (z := z) (mode := mode) h h2 h3)
  have FG := hid (fun h h2 h3 => f_gone (k := kindP x y) (s := sgx x y) (D := mulD (fv x) (fv y)) (z := z) (mode := mode) h h2 h3)
  have HK := hid (show kindP x y = kP (isNan x) (isNan y) (isInf x) (isInf y) (isZer x) (isZer y) from rfl)
  have XZ := hid (fun h => inf_not_zer (x := x) h)
  have HCS := hid (show cmpD (addD (mulD (fv x) (fv y)) (fv (z : Int))) (0, 0) = 0 ↔ (addD (mulD (fv x) (fv y)) (fv (z : Int))).1 = 0 by rw [cmpD_zero, sgn_zero_iff])
  have HCD := hid (show cmpD (mulD (fv x) (fv y)) (0, 0) = 0 ↔ (mulD (fv x) (fv y)).1 = 0 by rw [cmpD_zero, sgn_zero_iff])
  generalize cmpD (addD (mulD (fv x) (fv y)) (fv (z : Int))) (0, 0) = cS at *
  generalize cmpD (mulD (fv x) (fv y)) (0, 0) = cD at *
  generalize kindP x y = k at *
  generalize sgx x y = s at *
  generalize mulD (fv x) (fv y) = D at *
  generalize addD D (fv (z : Int)) = S at *
  generalize fv x = X at *
  generalize fv y = Y at *
  generalize fv (z : Int) = Z at *
  generalize infN s = nI at *
  generalize sgN s = nS at *
  generalize sumX [nI, z] mode = sxI at *
  generalize sumC [nI, z] mode = scI at *
  generalize sumX [nS, z] mode = sxS at *
  generalize sumC [nS, z] mode = scS at *
  generalize isNan x = nx at *
  generalize isNan y = ny at *
  generalize isNan (z : Int) = nz at *
  generalize isInf x = ix at *
  generalize isInf y = iy at *
  generalize isInf (z : Int) = iz at *
  generalize isZer x = zx at *
  generalize isZer y = zy at *
  generalize negB x = sx at *
  generalize negB y = sy at *
  subst hsg
  obtain ⟨x0, x1⟩ := hx
  obtain ⟨y0, y1⟩ := hy
  clear hz
  go_enter Tryd.func84, Tryd.ntmps84
  cases nx
  · cases ny
    · cases nz
      · cases ix
        · cases iy
          · have hk2 : 2 ≤ k := by rw [HK.out]; cases zx <;> cases zy <;> decide
            cases iz
            · clear FN FI FZ HK XZ SI N1
              cases zx
              · go_upto_region 9 with (first | (first | (go_at_call 49; (with_reducible refine (NX.out _).mono ?_); rintro en w1 ⟨rfl, rfl⟩) | (go_at_call 49; (with_reducible refine (NY.out _).mono ?_); rintro en w1 ⟨rfl, rfl⟩) | (go_at_call 49; (with_reducible refine (NZ.out _).mono ?_); rintro en w1 ⟨rfl, rfl⟩) | (go_at_call 50; (with_reducible refine (IX.out _).mono ?_); rintro en w1 ⟨rfl, rfl⟩) | (go_at_call 50; (with_reducible refine (IY.out _).mono ?_); rintro en w1 ⟨rfl, rfl⟩) | (go_at_call 50; (with_reducible refine (IZ.out _).mono ?_); rintro en w1 ⟨rfl, rfl⟩) | (go_at_call 75; (with_reducible refine (ZX.out _).mono ?_); rintro en w1 ⟨rfl, rfl⟩) | (go_at_call 75; (with_reducible refine (ZY.out _).mono ?_); rintro en w1 ⟨rfl, rfl⟩) | (go_at_call 63; (with_reducible refine (MX.out _).mono ?_); rintro en w1 ⟨rfl, rfl⟩) | (go_at_call 63; (with_reducible refine (MY.out _).mono ?_); rintro en w1 ⟨rfl, rfl⟩) | (go_at_call 59; (with_reducible refine (rQuiet_any _).mono ?_); rintro en w1 ⟨rfl, rfl⟩) | (go_at_call 137; (with_reducible refine (rInfBits_any _).mono ?_); rintro en w1 ⟨rfl, rfl⟩) | (go_at_call 62; (with_reducible refine (S1.out _).mono ?_); rintro en w1 ⟨rfl, rfl⟩) | (go_at_call 70; (with_reducible refine (SI.out _ _ (N1.out _ _)).mono ?_); rintro en w2 ⟨rfl, hb2⟩)) | (go_at_call 25; (with_reducible refine (VX.out _).mono ?_); rintro en w2 ⟨v2, rfl, hv2, hb2⟩) | (go_at_call 25; (with_reducible refine (VY.out _).mono ?_); rintro en w3 ⟨v3, rfl, hv3, hb3⟩) | (go_at_call 41; (with_reducible refine (QM.out _ _ _ (hv2.below hb3) hv3).mono ?_); rintro en w4 ⟨v4, rfl, ⟨xd, nd, ad, cd, rfl, hNd, hDd, hAd, hTd⟩, hb4⟩))
                have zD : QL 42 (w4.alloc (.cells #[.bool (zneg xd), .slice ad (zl xd).length cd, .int .i64 (nd : Int)] 42)) w4.heap.size (zneg xd) (.slice ad (zl xd).length cd) (nd : Int) := QL.made rfl
                have hNd1 := hNd.below (below_alloc w4 (.cells #[.bool (zneg xd), .slice ad (zl xd).length cd, .int .i64 (nd : Int)] 42))
                have yb := below_trans (below_trans (below_trans hb2 hb3) hb4) (below_alloc w4 (.cells #[.bool (zneg xd), .slice ad (zl xd).length cd, .int .i64 (nd : Int)] 42))
                obtain ⟨W1, hW1⟩ : ∃ W, W = w4.alloc (.cells #[.bool (zneg xd), .slice ad (zl xd).length cd, .int .i64 (nd : Int)] 42) := ⟨_, rfl⟩
                obtain ⟨gD, hgD⟩ : ∃ g, g = w4.heap.size := ⟨_, rfl⟩
                rw [← hW1, ← hgD] at zD ⊢
                rw [← hW1] at hNd1 yb
                have HD := hid (show nrm xd (-(nd : Int)) = D ∧ xd.natAbs < 2 ^ (1200 + 1200) ∧ nd ≤ 1100 + 1100 from ⟨hDd, hAd, hTd⟩)
                have HND := hid hNd1
                clear hW1 hgD hNd hNd1 hDd hAd hTd hb2 hb3 hb4 hv2 hv3 VX VY QM
                refine wp_region_growF 5 [71, 72, 73, 74, 12] [Fact.is (.agg #[.bool (zneg xd), .slice ad (zl xd).length cd, .int .i64 (nd : Int)]), Fact.is (.int .u64 (z : Int)), Fact.q 3 Z 1200 1100, Fact.q 3 S 5000 2200, Fact.q0 W1.heap.size 42] [4] (by kernel_rfl) (by kernel_rfl) ⟨?o0, ?o1, ?o2, ?o3, ?o4, trivial⟩ ?after
                case o0 => (refine StepOKF.plain rfl ?_; intro ρ w1 R hρ hb hp hR; have e11 : ρ (.tmp 11) = .pointer (some ⟨gD, 0, none⟩) := hρ.tmp 11 rfl; obtain ⟨⟨j0, j1, -, -, -⟩, j2, -⟩ := zD.below hb; replace hR := fun v w2 h1 h2 => hR v w2 h1 h2 (fun h => absurd h (by decide)); have hcon := hρ.con; have hfn := hρ.fn; clear hρ hp; unfold OpRun; go_simp; exact hR _ _ (Below.refl _ _) rfl)
                case o1 => (refine StepOKF.plain rfl ?_; intro ρ w1 R hρ hb hp hR; have e2 : ρ (.tmp 2) = .int .u64 (z : Int) := hρ.tmp 2 rfl; replace hR := fun v w2 h1 h2 => hR v w2 h1 h2 (fun h => absurd h (by decide)); have hcon := hρ.con; have hfn := hρ.fn; clear hρ hp; unfold OpRun; go_simp; exact hR _ _ (Below.refl _ _) rfl)
                case o2 => (refine StepOKF.plain rfl ?_; intro ρ w1 R hρ hb hp hR; have e72 : ρ (.tmp 72) = _ := hp 1 72 rfl rfl; replace hR := fun v w2 h1 h2 => hR v w2 h1 h2 (fun h => absurd h (by decide)); have hcon := hρ.con; have hfn := hρ.fn; clear hρ hp; unfold OpRun; go_simp; (refine (VZ.out _).mono ?_; rintro e wn ⟨v9, rfl, hv9, hbn⟩; exact ⟨_, rfl, hR _ _ hbn hv9⟩))
                case o3 => (refine StepOKF.plain rfl ?_; intro ρ w1 R hρ hb hp hR; have e71 : ρ (.tmp 71) = _ := hp 0 71 rfl rfl; have f73 := hp 2 73 rfl rfl; replace hR := fun v w2 h1 h2 => hR v w2 h1 h2 (fun h => absurd h (by decide)); have hcon := hρ.con; have hfn := hρ.fn; clear hρ hp; unfold OpRun; go_simp; (refine (QA.out _ _ _ ⟨xd, nd, ad, cd, rfl, HND.out.below hb, HD.out.1, HD.out.2.1, HD.out.2.2⟩ f73).mono ?_; rintro e wn ⟨v9, rfl, hv9, hbn⟩; exact ⟨_, rfl, hR _ _ hbn hv9⟩))
                case o4 => (refine StepOKF.plain rfl ?_; intro ρ w1 R hρ hb hp hR; have hcon := hρ.con; have hfn := hρ.fn; clear hρ hp; unfold OpRun; go_simp; exact hR _ _ (below_alloc _ _) ⟨_, rfl, hb.size, QL.made rfl⟩ (fun _ => ⟨_, rfl, Nat.le_refl _, by simp⟩))
                case after =>
                  intro u wn hb hf hd
                  have f12 := hf 4 12 (by omega) rfl
                  have f74 := hf 3 74 (by omega) rfl
                  clear hf hd
                  simp only [putAll, Act.put, List.setIfInBounds_toArray, List.set_cons_zero, List.set_cons_succ, List.drop_succ_cons, List.drop_zero, List.drop_nil]
                  obtain ⟨gS, e12, hgS, zS⟩ := f12
                  obtain ⟨xs, ns, aq, cq, e74, hNs, hDs, hAs, hTs⟩ := f74
                  rw [e12, e74]
                  clear e12 e74
                  have hgd := zD.lt
                  have zD2 := (zD.below hb).far3 (b := gS) (by omega) (.bool (zneg xs)) (.slice aq (zl xs).length cq) (.int .i64 (ns : Int))
                  have hND2 := (HND.out.below hb).set3Q zS (by decide) (.bool (zneg xs)) (.slice aq (zl xs).length cq) (.int .i64 (ns : Int))
                  have zS2 := zS.put (zneg xs) (.slice aq (zl xs).length cq) (ns : Int)
                  have hNS2 := hNs.set3Q zS (by decide) (.bool (zneg xs)) (.slice aq (zl xs).length cq) (.int .i64 (ns : Int))
                  have yb2 := Go.Ulp.Below.put3 (below_trans yb hb) (g := gS) (by have := yb.size; omega) (.bool (zneg xs)) (.slice aq (zl xs).length cq) (.int .i64 (ns : Int))
                  obtain ⟨⟨k0, k1, f0, f1, hs2⟩, k2, f2⟩ := id zS
                  go_upto_region 10 with fail
                  obtain ⟨W2, hW2⟩ : ∃ W, W = ((wn.setCell ⟨gS, 0, none⟩ (.bool (zneg xs))).setCell ⟨gS, 1, none⟩ (.slice aq (zl xs).length cq)).setCell ⟨gS, 2, none⟩ (.int .i64 (ns : Int)) := ⟨_, rfl⟩
                  rw [← hW2] at zD2 hND2 zS2 hNS2 yb2 ⊢
                  have HQS := hid (fun w' (hb : Below W2.heap.size W2 w') => (show QD 3 w' S 5000 2200 (.agg #[.bool (zneg xs), .slice aq (zl xs).length cq, .int .i64 (ns : Int)]) from ⟨xs, ns, aq, cq, rfl, hNS2.below hb, hDs, hAs, hTs⟩))
                  have HQD := hid (fun w' (hb : Below W2.heap.size W2 w') => (show QD 3 w' D (1200 + 1200) (1100 + 1100) (.agg #[.bool (zneg xd), .slice ad (zl xd).length cd, .int .i64 (nd : Int)]) from ⟨xd, nd, ad, cd, rfl, hND2.below hb, HD.out.1, HD.out.2.1, HD.out.2.2⟩))
                  clear hW2 k0 k1 f0 f1 hs2 k2 f2 zS hNs hNS2 hND2 hDs hAs hTs zD hgd hgS yb hb HND HD QA VZ
                  obtain ⟨⟨k0, k1, -, -, -⟩, k2, -⟩ := id zS2
                  by_cases hS : cS = 0
                  · have hS1 := HCS.out.1 hS
                    subst hS
                    by_cases hD : cD = 0
                    · have HP := hid (FB.out hk2 hS1 (HCD.out.1 hD))
                      subst hD
                      clear hS1 FV FB FG RD k0 k1 k2
                      obtain ⟨⟨k0, k1, -, -, -⟩, k2, -⟩ := id zS2
                      go_wp2_with (first
                        | (go_at_call 40; (with_reducible refine (QCS.out _ _ _ (HQS.out _ (Below.refl _ _)) (QD.zero (by omega))).mono ?_); rintro en w5 ⟨rfl, hb5⟩; have zD3 := zD2.below hb5; obtain ⟨⟨j0, j1, -, -, -⟩, j2, -⟩ := id zD3)
                        | (go_at_call 40; (with_reducible refine (QCD.out _ _ _ (HQD.out _ hb5) (QD.zero (by omega))).mono ?_); rintro en w6 ⟨rfl, hb6⟩)
                        | (go_at_call 62; (with_reducible refine (S2.out _).mono ?_); rintro en w7 ⟨rfl, rfl⟩)
                        | (go_at_call 70; (with_reducible refine (SZ.out _ _ (N2.out _ _)).mono ?_); rintro en w8 ⟨rfl, hb8⟩))
                      go_ret2
                      exact ⟨ret2 HP.out.1.symm HP.out.2.symm, below_trans (below_trans (below_trans (below_trans yb2 hb5) hb6) (below_alloc _ _)) hb8⟩
                    · have HP := hid (FG.out hk2 hS1 (fun h => hD (HCD.out.2 h)))
                      have hDb : (cD == 0) = false := beq_eq_false_iff_ne.2 hD
                      clear hS1 hD FV FB FG RD
                      go_wp2_with (first
                        | (go_at_call 40; (with_reducible refine (QCS.out _ _ _ (HQS.out _ (Below.refl _ _)) (QD.zero (by omega))).mono ?_); rintro en w5 ⟨rfl, hb5⟩; have zD3 := zD2.below hb5; obtain ⟨⟨j0, j1, -, -, -⟩, j2, -⟩ := id zD3)
                        | (go_at_call 40; (with_reducible refine (QCD.out _ _ _ (HQD.out _ hb5) (QD.zero (by omega))).mono ?_); rintro en w6 ⟨rfl, hb6⟩)
                        | (go_at_call 62; (with_reducible refine (S3.out _ _).mono ?_); rintro en w7 ⟨rfl, rfl⟩))
                      go_ret2
                      exact ⟨ret2 HP.out.1.symm HP.out.2.symm, below_trans (below_trans yb2 hb5) hb6⟩
                  · have HP := hid (FV.out hk2 (fun h => hS (HCS.out.2 h)))
                    have hSb : (cS != 0) = true := bne_iff_ne.2 hS
                    clear hS FV FB FG
                    go_wp2_with (first
                      | (go_at_call 40; (with_reducible refine (QCS.out _ _ _ (HQS.out _ (Below.refl _ _)) (QD.zero (by omega))).mono ?_); rintro en w5 ⟨rfl, hb5⟩; have zS3 := zS2.below hb5; obtain ⟨⟨l0, l1, -, -, -⟩, l2, -⟩ := id zS3)
                      | (go_at_call 51; (with_reducible refine (RD.out _ _ (HQS.out _ hb5)).mono ?_); rintro en w6 ⟨rfl, hb6⟩))
                    go_ret2
                    exact ⟨ret2 HP.out.1.symm HP.out.2.symm, below_trans (below_trans yb2 hb5) hb6⟩
              · go_upto_region 9 with (first | (first | (go_at_call 49; (with_reducible refine (NX.out _).mono ?_); rintro en w1 ⟨rfl, rfl⟩) | (go_at_call 49; (with_reducible refine (NY.out _).mono ?_); rintro en w1 ⟨rfl, rfl⟩) | (go_at_call 49; (with_reducible refine (NZ.out _).mono ?_); rintro en w1 ⟨rfl, rfl⟩) | (go_at_call 50; (with_reducible refine (IX.out _).mono ?_); rintro en w1 ⟨rfl, rfl⟩) | (go_at_call 50; (with_reducible refine (IY.out _).mono ?_); rintro en w1 ⟨rfl, rfl⟩) | (go_at_call 50; (with_reducible refine (IZ.out _).mono ?_); rintro en w1 ⟨rfl, rfl⟩) | (go_at_call 75; (with_reducible refine (ZX.out _).mono ?_); rintro en w1 ⟨rfl, rfl⟩) | (go_at_call 75; (with_reducible refine (ZY.out _).mono ?_); rintro en w1 ⟨rfl, rfl⟩) | (go_at_call 63; (with_reducible refine (MX.out _).mono ?_); rintro en w1 ⟨rfl, rfl⟩) | (go_at_call 63; (with_reducible refine (MY.out _).mono ?_); rintro en w1 ⟨rfl, rfl⟩) | (go_at_call 59; (with_reducible refine (rQuiet_any _).mono ?_); rintro en w1 ⟨rfl, rfl⟩) | (go_at_call 137; (with_reducible refine (rInfBits_any _).mono ?_); rintro en w1 ⟨rfl, rfl⟩) | (go_at_call 62; (with_reducible refine (S1.out _).mono ?_); rintro en w1 ⟨rfl, rfl⟩) | (go_at_call 70; (with_reducible refine (SI.out _ _ (N1.out _ _)).mono ?_); rintro en w2 ⟨rfl, hb2⟩)) | (go_at_call 25; (with_reducible refine (VX.out _).mono ?_); rintro en w2 ⟨v2, rfl, hv2, hb2⟩) | (go_at_call 25; (with_reducible refine (VY.out _).mono ?_); rintro en w3 ⟨v3, rfl, hv3, hb3⟩) | (go_at_call 41; (with_reducible refine (QM.out _ _ _ (hv2.below hb3) hv3).mono ?_); rintro en w4 ⟨v4, rfl, ⟨xd, nd, ad, cd, rfl, hNd, hDd, hAd, hTd⟩, hb4⟩))
                have zD : QL 42 (w4.alloc (.cells #[.bool (zneg xd), .slice ad (zl xd).length cd, .int .i64 (nd : Int)] 42)) w4.heap.size (zneg xd) (.slice ad (zl xd).length cd) (nd : Int) := QL.made rfl
                have hNd1 := hNd.below (below_alloc w4 (.cells #[.bool (zneg xd), .slice ad (zl xd).length cd, .int .i64 (nd : Int)] 42))
                have yb := below_trans (below_trans (below_trans hb2 hb3) hb4) (below_alloc w4 (.cells #[.bool (zneg xd), .slice ad (zl xd).length cd, .int .i64 (nd : Int)] 42))
                obtain ⟨W1, hW1⟩ : ∃ W, W = w4.alloc (.cells #[.bool (zneg xd), .slice ad (zl xd).length cd, .int .i64 (nd : Int)] 42) := ⟨_, rfl⟩
                obtain ⟨gD, hgD⟩ : ∃ g, g = w4.heap.size := ⟨_, rfl⟩
                rw [← hW1, ← hgD] at zD ⊢
                rw [← hW1] at hNd1 yb
                have HD := hid (show nrm xd (-(nd : Int)) = D ∧ xd.natAbs < 2 ^ (1200 + 1200) ∧ nd ≤ 1100 + 1100 from ⟨hDd, hAd, hTd⟩)
                have HND := hid hNd1
                clear hW1 hgD hNd hNd1 hDd hAd hTd hb2 hb3 hb4 hv2 hv3 VX VY QM
                refine wp_region_growF 5 [71, 72, 73, 74, 12] [Fact.is (.agg #[.bool (zneg xd), .slice ad (zl xd).length cd, .int .i64 (nd : Int)]), Fact.is (.int .u64 (z : Int)), Fact.q 3 Z 1200 1100, Fact.q 3 S 5000 2200, Fact.q0 W1.heap.size 42] [4] (by kernel_rfl) (by kernel_rfl) ⟨?o0, ?o1, ?o2, ?o3, ?o4, trivial⟩ ?after
                case o0 => (refine StepOKF.plain rfl ?_; intro ρ w1 R hρ hb hp hR; have e11 : ρ (.tmp 11) = .pointer (some ⟨gD, 0, none⟩) := hρ.tmp 11 rfl; obtain ⟨⟨j0, j1, -, -, -⟩, j2, -⟩ := zD.below hb; replace hR := fun v w2 h1 h2 => hR v w2 h1 h2 (fun h => absurd h (by decide)); have hcon := hρ.con; have hfn := hρ.fn; clear hρ hp; unfold OpRun; go_simp; exact hR _ _ (Below.refl _ _) rfl)
                case o1 => (refine StepOKF.plain rfl ?_; intro ρ w1 R hρ hb hp hR; have e2 : ρ (.tmp 2) = .int .u64 (z : Int) := hρ.tmp 2 rfl; replace hR := fun v w2 h1 h2 => hR v w2 h1 h2 (fun h => absurd h (by decide)); have hcon := hρ.con; have hfn := hρ.fn; clear hρ hp; unfold OpRun; go_simp; exact hR _ _ (Below.refl _ _) rfl)
                case o2 => (refine StepOKF.plain rfl ?_; intro ρ w1 R hρ hb hp hR; have e72 : ρ (.tmp 72) = _ := hp 1 72 rfl rfl; replace hR := fun v w2 h1 h2 => hR v w2 h1 h2 (fun h => absurd h (by decide)); have hcon := hρ.con; have hfn := hρ.fn; clear hρ hp; unfold OpRun; go_simp; (refine (VZ.out _).mono ?_; rintro e wn ⟨v9, rfl, hv9, hbn⟩; exact ⟨_, rfl, hR _ _ hbn hv9⟩))
                case o3 => (refine StepOKF.plain rfl ?_; intro ρ w1 R hρ hb hp hR; have e71 : ρ (.tmp 71) = _ := hp 0 71 rfl rfl; have f73 := hp 2 73 rfl rfl; replace hR := fun v w2 h1 h2 => hR v w2 h1 h2 (fun h => absurd h (by decide)); have hcon := hρ.con; have hfn := hρ.fn; clear hρ hp; unfold OpRun; go_simp; (refine (QA.out _ _ _ ⟨xd, nd, ad, cd, rfl, HND.out.below hb, HD.out.1, HD.out.2.1, HD.out.2.2⟩ f73).mono ?_; rintro e wn ⟨v9, rfl, hv9, hbn⟩; exact ⟨_, rfl, hR _ _ hbn hv9⟩))
                case o4 => (refine StepOKF.plain rfl ?_; intro ρ w1 R hρ hb hp hR; have hcon := hρ.con; have hfn := hρ.fn; clear hρ hp; unfold OpRun; go_simp; exact hR _ _ (below_alloc _ _) ⟨_, rfl, hb.size, QL.made rfl⟩ (fun _ => ⟨_, rfl, Nat.le_refl _, by simp⟩))
                case after =>
                  intro u wn hb hf hd
                  have f12 := hf 4 12 (by omega) rfl
                  have f74 := hf 3 74 (by omega) rfl
                  clear hf hd
                  simp only [putAll, Act.put, List.setIfInBounds_toArray, List.set_cons_zero, List.set_cons_succ, List.drop_succ_cons, List.drop_zero, List.drop_nil]
                  obtain ⟨gS, e12, hgS, zS⟩ := f12
                  obtain ⟨xs, ns, aq, cq, e74, hNs, hDs, hAs, hTs⟩ := f74
                  rw [e12, e74]
                  clear e12 e74
                  have hgd := zD.lt
                  have zD2 := (zD.below hb).far3 (b := gS) (by omega) (.bool (zneg xs)) (.slice aq (zl xs).length cq) (.int .i64 (ns : Int))
                  have hND2 := (HND.out.below hb).set3Q zS (by decide) (.bool (zneg xs)) (.slice aq (zl xs).length cq) (.int .i64 (ns : Int))
                  have zS2 := zS.put (zneg xs) (.slice aq (zl xs).length cq) (ns : Int)
                  have hNS2 := hNs.set3Q zS (by decide) (.bool (zneg xs)) (.slice aq (zl xs).length cq) (.int .i64 (ns : Int))
                  have yb2 := Go.Ulp.Below.put3 (below_trans yb hb) (g := gS) (by have := yb.size; omega) (.bool (zneg xs)) (.slice aq (zl xs).length cq) (.int .i64 (ns : Int))
                  obtain ⟨⟨k0, k1, f0, f1, hs2⟩, k2, f2⟩ := id zS
                  go_upto_region 10 with fail
                  obtain ⟨W2, hW2⟩ : ∃ W, W = ((wn.setCell ⟨gS, 0, none⟩ (.bool (zneg xs))).setCell ⟨gS, 1, none⟩ (.slice aq (zl xs).length cq)).setCell ⟨gS, 2, none⟩ (.int .i64 (ns : Int)) := ⟨_, rfl⟩
                  rw [← hW2] at zD2 hND2 zS2 hNS2 yb2 ⊢
                  have HQS := hid (fun w' (hb : Below W2.heap.size W2 w') => (show QD 3 w' S 5000 2200 (.agg #[.bool (zneg xs), .slice aq (zl xs).length cq, .int .i64 (ns : Int)]) from ⟨xs, ns, aq, cq, rfl, hNS2.below hb, hDs, hAs, hTs⟩))
                  have HQD := hid (fun w' (hb : Below W2.heap.size W2 w') => (show QD 3 w' D (1200 + 1200) (1100 + 1100) (.agg #[.bool (zneg xd), .slice ad (zl xd).length cd, .int .i64 (nd : Int)]) from ⟨xd, nd, ad, cd, rfl, hND2.below hb, HD.out.1, HD.out.2.1, HD.out.2.2⟩))
                  clear hW2 k0 k1 f0 f1 hs2 k2 f2 zS hNs hNS2 hND2 hDs hAs hTs zD hgd hgS yb hb HND HD QA VZ
                  obtain ⟨⟨k0, k1, -, -, -⟩, k2, -⟩ := id zS2
                  by_cases hS : cS = 0
                  · have hS1 := HCS.out.1 hS
                    subst hS
                    by_cases hD : cD = 0
                    · have HP := hid (FB.out hk2 hS1 (HCD.out.1 hD))
                      subst hD
                      clear hS1 FV FB FG RD k0 k1 k2
                      obtain ⟨⟨k0, k1, -, -, -⟩, k2, -⟩ := id zS2
                      go_wp2_with (first
                        | (go_at_call 40; (with_reducible refine (QCS.out _ _ _ (HQS.out _ (Below.refl _ _)) (QD.zero (by omega))).mono ?_); rintro en w5 ⟨rfl, hb5⟩; have zD3 := zD2.below hb5; obtain ⟨⟨j0, j1, -, -, -⟩, j2, -⟩ := id zD3)
                        | (go_at_call 40; (with_reducible refine (QCD.out _ _ _ (HQD.out _ hb5) (QD.zero (by omega))).mono ?_); rintro en w6 ⟨rfl, hb6⟩)
                        | (go_at_call 62; (with_reducible refine (S2.out _).mono ?_); rintro en w7 ⟨rfl, rfl⟩)
                        | (go_at_call 70; (with_reducible refine (SZ.out _ _ (N2.out _ _)).mono ?_); rintro en w8 ⟨rfl, hb8⟩))
                      go_ret2
                      exact ⟨ret2 HP.out.1.symm HP.out.2.symm, below_trans (below_trans (below_trans (below_trans yb2 hb5) hb6) (below_alloc _ _)) hb8⟩
                    · have HP := hid (FG.out hk2 hS1 (fun h => hD (HCD.out.2 h)))
                      have hDb : (cD == 0) = false := beq_eq_false_iff_ne.2 hD
                      clear hS1 hD FV FB FG RD
                      go_wp2_with (first
                        | (go_at_call 40; (with_reducible refine (QCS.out _ _ _ (HQS.out _ (Below.refl _ _)) (QD.zero (by omega))).mono ?_); rintro en w5 ⟨rfl, hb5⟩; have zD3 := zD2.below hb5; obtain ⟨⟨j0, j1, -, -, -⟩, j2, -⟩ := id zD3)
                        | (go_at_call 40; (with_reducible refine (QCD.out _ _ _ (HQD.out _ hb5) (QD.zero (by omega))).mono ?_); rintro en w6 ⟨rfl, hb6⟩)
                        | (go_at_call 62; (with_reducible refine (S3.out _ _).mono ?_); rintro en w7 ⟨rfl, rfl⟩))
                      go_ret2
                      exact ⟨ret2 HP.out.1.symm HP.out.2.symm, below_trans (below_trans yb2 hb5) hb6⟩
                  · have HP := hid (FV.out hk2 (fun h => hS (HCS.out.2 h)))
                    have hSb : (cS != 0) = true := bne_iff_ne.2 hS
                    clear hS FV FB FG
                    go_wp2_with (first
                      | (go_at_call 40; (with_reducible refine (QCS.out _ _ _ (HQS.out _ (Below.refl _ _)) (QD.zero (by omega))).mono ?_); rintro en w5 ⟨rfl, hb5⟩; have zS3 := zS2.below hb5; obtain ⟨⟨l0, l1, -, -, -⟩, l2, -⟩ := id zS3)
                      | (go_at_call 51; (with_reducible refine (RD.out _ _ (HQS.out _ hb5)).mono ?_); rintro en w6 ⟨rfl, hb6⟩))
                    go_ret2
                    exact ⟨ret2 HP.out.1.symm HP.out.2.symm, below_trans (below_trans yb2 hb5) hb6⟩
            · have HP := hid (FZ.out hk2)
              clear FN FI FZ FV FB FG hk2
              cases zx
              · go_wp2_with (first | (go_at_call 49; (with_reducible refine (NX.out _).mono ?_); rintro en w1 ⟨rfl, rfl⟩) | (go_at_call 49; (with_reducible refine (NY.out _).mono ?_); rintro en w1 ⟨rfl, rfl⟩) | (go_at_call 49; (with_reducible refine (NZ.out _).mono ?_); rintro en w1 ⟨rfl, rfl⟩) | (go_at_call 50; (with_reducible refine (IX.out _).mono ?_); rintro en w1 ⟨rfl, rfl⟩) | (go_at_call 50; (with_reducible refine (IY.out _).mono ?_); rintro en w1 ⟨rfl, rfl⟩) | (go_at_call 50; (with_reducible refine (IZ.out _).mono ?_); rintro en w1 ⟨rfl, rfl⟩) | (go_at_call 75; (with_reducible refine (ZX.out _).mono ?_); rintro en w1 ⟨rfl, rfl⟩) | (go_at_call 75; (with_reducible refine (ZY.out _).mono ?_); rintro en w1 ⟨rfl, rfl⟩) | (go_at_call 63; (with_reducible refine (MX.out _).mono ?_); rintro en w1 ⟨rfl, rfl⟩) | (go_at_call 63; (with_reducible refine (MY.out _).mono ?_); rintro en w1 ⟨rfl, rfl⟩) | (go_at_call 59; (with_reducible refine (rQuiet_any _).mono ?_); rintro en w1 ⟨rfl, rfl⟩) | (go_at_call 137; (with_reducible refine (rInfBits_any _).mono ?_); rintro en w1 ⟨rfl, rfl⟩) | (go_at_call 62; (with_reducible refine (S1.out _).mono ?_); rintro en w1 ⟨rfl, rfl⟩) | (go_at_call 70; (with_reducible refine (SI.out _ _ (N1.out _ _)).mono ?_); rintro en w2 ⟨rfl, hb2⟩))
                go_ret2
                exact ⟨ret2 HP.out.1.symm HP.out.2.symm, Below.refl _ _⟩
              · go_wp2_with (first | (go_at_call 49; (with_reducible refine (NX.out _).mono ?_); rintro en w1 ⟨rfl, rfl⟩) | (go_at_call 49; (with_reducible refine (NY.out _).mono ?_); rintro en w1 ⟨rfl, rfl⟩) | (go_at_call 49; (with_reducible refine (NZ.out _).mono ?_); rintro en w1 ⟨rfl, rfl⟩) | (go_at_call 50; (with_reducible refine (IX.out _).mono ?_); rintro en w1 ⟨rfl, rfl⟩) | (go_at_call 50; (with_reducible refine (IY.out _).mono ?_); rintro en w1 ⟨rfl, rfl⟩) | (go_at_call 50; (with_reducible refine (IZ.out _).mono ?_); rintro en w1 ⟨rfl, rfl⟩) | (go_at_call 75; (with_reducible refine (ZX.out _).mono ?_); rintro en w1 ⟨rfl, rfl⟩) | (go_at_call 75; (with_reducible refine (ZY.out _).mono ?_); rintro en w1 ⟨rfl, rfl⟩) | (go_at_call 63; (with_reducible refine (MX.out _).mono ?_); rintro en w1 ⟨rfl, rfl⟩) | (go_at_call 63; (with_reducible refine (MY.out _).mono ?_); rintro en w1 ⟨rfl, rfl⟩) | (go_at_call 59; (with_reducible refine (rQuiet_any _).mono ?_); rintro en w1 ⟨rfl, rfl⟩) | (go_at_call 137; (with_reducible refine (rInfBits_any _).mono ?_); rintro en w1 ⟨rfl, rfl⟩) | (go_at_call 62; (with_reducible refine (S1.out _).mono ?_); rintro en w1 ⟨rfl, rfl⟩) | (go_at_call 70; (with_reducible refine (SI.out _ _ (N1.out _ _)).mono ?_); rintro en w2 ⟨rfl, hb2⟩))
                go_ret2
                exact ⟨ret2 HP.out.1.symm HP.out.2.symm, Below.refl _ _⟩
          · cases zx
            · have HP := hid (FI.out (by rw [HK.out]; simp [kP]))
              clear FN FI FZ FV FB FG
              go_wp2_with (first | (go_at_call 49; (with_reducible refine (NX.out _).mono ?_); rintro en w1 ⟨rfl, rfl⟩) | (go_at_call 49; (with_reducible refine (NY.out _).mono ?_); rintro en w1 ⟨rfl, rfl⟩) | (go_at_call 49; (with_reducible refine (NZ.out _).mono ?_); rintro en w1 ⟨rfl, rfl⟩) | (go_at_call 50; (with_reducible refine (IX.out _).mono ?_); rintro en w1 ⟨rfl, rfl⟩) | (go_at_call 50; (with_reducible refine (IY.out _).mono ?_); rintro en w1 ⟨rfl, rfl⟩) | (go_at_call 50; (with_reducible refine (IZ.out _).mono ?_); rintro en w1 ⟨rfl, rfl⟩) | (go_at_call 75; (with_reducible refine (ZX.out _).mono ?_); rintro en w1 ⟨rfl, rfl⟩) | (go_at_call 75; (with_reducible refine (ZY.out _).mono ?_); rintro en w1 ⟨rfl, rfl⟩) | (go_at_call 63; (with_reducible refine (MX.out _).mono ?_); rintro en w1 ⟨rfl, rfl⟩) | (go_at_call 63; (with_reducible refine (MY.out _).mono ?_); rintro en w1 ⟨rfl, rfl⟩) | (go_at_call 59; (with_reducible refine (rQuiet_any _).mono ?_); rintro en w1 ⟨rfl, rfl⟩) | (go_at_call 137; (with_reducible refine (rInfBits_any _).mono ?_); rintro en w1 ⟨rfl, rfl⟩) | (go_at_call 62; (with_reducible refine (S1.out _).mono ?_); rintro en w1 ⟨rfl, rfl⟩) | (go_at_call 70; (with_reducible refine (SI.out _ _ (N1.out _ _)).mono ?_); rintro en w2 ⟨rfl, hb2⟩))
              go_ret2
              exact ⟨ret2 HP.out.1.symm HP.out.2.symm, below_trans (below_alloc _ _) hb2⟩
            · have HP := hid (FN.out (by first | exact .inl rfl | exact .inr (by rw [HK.out]; simp [kP])))
              clear FN FI FZ FV FB FG
              go_wp2_with (first | (go_at_call 49; (with_reducible refine (NX.out _).mono ?_); rintro en w1 ⟨rfl, rfl⟩) | (go_at_call 49; (with_reducible refine (NY.out _).mono ?_); rintro en w1 ⟨rfl, rfl⟩) | (go_at_call 49; (with_reducible refine (NZ.out _).mono ?_); rintro en w1 ⟨rfl, rfl⟩) | (go_at_call 50; (with_reducible refine (IX.out _).mono ?_); rintro en w1 ⟨rfl, rfl⟩) | (go_at_call 50; (with_reducible refine (IY.out _).mono ?_); rintro en w1 ⟨rfl, rfl⟩) | (go_at_call 50; (with_reducible refine (IZ.out _).mono ?_); rintro en w1 ⟨rfl, rfl⟩) | (go_at_call 75; (with_reducible refine (ZX.out _).mono ?_); rintro en w1 ⟨rfl, rfl⟩) | (go_at_call 75; (with_reducible refine (ZY.out _).mono ?_); rintro en w1 ⟨rfl, rfl⟩) | (go_at_call 63; (with_reducible refine (MX.out _).mono ?_); rintro en w1 ⟨rfl, rfl⟩) | (go_at_call 63; (with_reducible refine (MY.out _).mono ?_); rintro en w1 ⟨rfl, rfl⟩) | (go_at_call 59; (with_reducible refine (rQuiet_any _).mono ?_); rintro en w1 ⟨rfl, rfl⟩) | (go_at_call 137; (with_reducible refine (rInfBits_any _).mono ?_); rintro en w1 ⟨rfl, rfl⟩) | (go_at_call 62; (with_reducible refine (S1.out _).mono ?_); rintro en w1 ⟨rfl, rfl⟩) | (go_at_call 70; (with_reducible refine (SI.out _ _ (N1.out _ _)).mono ?_); rintro en w2 ⟨rfl, hb2⟩))
              go_ret2
              exact ⟨ret2 HP.out.1.symm HP.out.2.symm, Below.refl _ _⟩
        · obtain rfl : zx = false := XZ.out rfl
          cases zy
          · have HP := hid (FI.out (by rw [HK.out]; simp [kP]))
            clear FN FI FZ FV FB FG
            go_wp2_with (first | (go_at_call 49; (with_reducible refine (NX.out _).mono ?_); rintro en w1 ⟨rfl, rfl⟩) | (go_at_call 49; (with_reducible refine (NY.out _).mono ?_); rintro en w1 ⟨rfl, rfl⟩) | (go_at_call 49; (with_reducible refine (NZ.out _).mono ?_); rintro en w1 ⟨rfl, rfl⟩) | (go_at_call 50; (with_reducible refine (IX.out _).mono ?_); rintro en w1 ⟨rfl, rfl⟩) | (go_at_call 50; (with_reducible refine (IY.out _).mono ?_); rintro en w1 ⟨rfl, rfl⟩) | (go_at_call 50; (with_reducible refine (IZ.out _).mono ?_); rintro en w1 ⟨rfl, rfl⟩) | (go_at_call 75; (with_reducible refine (ZX.out _).mono ?_); rintro en w1 ⟨rfl, rfl⟩) | (go_at_call 75; (with_reducible refine (ZY.out _).mono ?_); rintro en w1 ⟨rfl, rfl⟩) | (go_at_call 63; (with_reducible refine (MX.out _).mono ?_); rintro en w1 ⟨rfl, rfl⟩) | (go_at_call 63; (with_reducible refine (MY.out _).mono ?_); rintro en w1 ⟨rfl, rfl⟩) | (go_at_call 59; (with_reducible refine (rQuiet_any _).mono ?_); rintro en w1 ⟨rfl, rfl⟩) | (go_at_call 137; (with_reducible refine (rInfBits_any _).mono ?_); rintro en w1 ⟨rfl, rfl⟩) | (go_at_call 62; (with_reducible refine (S1.out _).mono ?_); rintro en w1 ⟨rfl, rfl⟩) | (go_at_call 70; (with_reducible refine (SI.out _ _ (N1.out _ _)).mono ?_); rintro en w2 ⟨rfl, hb2⟩))
            go_ret2
            exact ⟨ret2 HP.out.1.symm HP.out.2.symm, below_trans (below_alloc _ _) hb2⟩
          · have HP := hid (FN.out (by first | exact .inl rfl | exact .inr (by rw [HK.out]; simp [kP])))
            clear FN FI FZ FV FB FG
            go_wp2_with (first | (go_at_call 49; (with_reducible refine (NX.out _).mono ?_); rintro en w1 ⟨rfl, rfl⟩) | (go_at_call 49; (with_reducible refine (NY.out _).mono ?_); rintro en w1 ⟨rfl, rfl⟩) | (go_at_call 49; (with_reducible refine (NZ.out _).mono ?_); rintro en w1 ⟨rfl, rfl⟩) | (go_at_call 50; (with_reducible refine (IX.out _).mono ?_); rintro en w1 ⟨rfl, rfl⟩) | (go_at_call 50; (with_reducible refine (IY.out _).mono ?_); rintro en w1 ⟨rfl, rfl⟩) | (go_at_call 50; (with_reducible refine (IZ.out _).mono ?_); rintro en w1 ⟨rfl, rfl⟩) | (go_at_call 75; (with_reducible refine (ZX.out _).mono ?_); rintro en w1 ⟨rfl, rfl⟩) | (go_at_call 75; (with_reducible refine (ZY.out _).mono ?_); rintro en w1 ⟨rfl, rfl⟩) | (go_at_call 63; (with_reducible refine (MX.out _).mono ?_); rintro en w1 ⟨rfl, rfl⟩) | (go_at_call 63; (with_reducible refine (MY.out _).mono ?_); rintro en w1 ⟨rfl, rfl⟩) | (go_at_call 59; (with_reducible refine (rQuiet_any _).mono ?_); rintro en w1 ⟨rfl, rfl⟩) | (go_at_call 137; (with_reducible refine (rInfBits_any _).mono ?_); rintro en w1 ⟨rfl, rfl⟩) | (go_at_call 62; (with_reducible refine (S1.out _).mono ?_); rintro en w1 ⟨rfl, rfl⟩) | (go_at_call 70; (with_reducible refine (SI.out _ _ (N1.out _ _)).mono ?_); rintro en w2 ⟨rfl, hb2⟩))
            go_ret2
            exact ⟨ret2 HP.out.1.symm HP.out.2.symm, Below.refl _ _⟩
      · have HP := hid (FN.out (by first | exact .inl rfl | exact .inr (by rw [HK.out]; simp [kP])))
        clear FN FI FZ FV FB FG
        go_wp2_with (first | (go_at_call 49; (with_reducible refine (NX.out _).mono ?_); rintro en w1 ⟨rfl, rfl⟩) | (go_at_call 49; (with_reducible refine (NY.out _).mono ?_); rintro en w1 ⟨rfl, rfl⟩) | (go_at_call 49; (with_reducible refine (NZ.out _).mono ?_); rintro en w1 ⟨rfl, rfl⟩) | (go_at_call 50; (with_reducible refine (IX.out _).mono ?_); rintro en w1 ⟨rfl, rfl⟩) | (go_at_call 50; (with_reducible refine (IY.out _).mono ?_); rintro en w1 ⟨rfl, rfl⟩) | (go_at_call 50; (with_reducible refine (IZ.out _).mono ?_); rintro en w1 ⟨rfl, rfl⟩) | (go_at_call 75; (with_reducible refine (ZX.out _).mono ?_); rintro en w1 ⟨rfl, rfl⟩) | (go_at_call 75; (with_reducible refine (ZY.out _).mono ?_); rintro en w1 ⟨rfl, rfl⟩) | (go_at_call 63; (with_reducible refine (MX.out _).mono ?_); rintro en w1 ⟨rfl, rfl⟩) | (go_at_call 63; (with_reducible refine (MY.out _).mono ?_); rintro en w1 ⟨rfl, rfl⟩) | (go_at_call 59; (with_reducible refine (rQuiet_any _).mono ?_); rintro en w1 ⟨rfl, rfl⟩) | (go_at_call 137; (with_reducible refine (rInfBits_any _).mono ?_); rintro en w1 ⟨rfl, rfl⟩) | (go_at_call 62; (with_reducible refine (S1.out _).mono ?_); rintro en w1 ⟨rfl, rfl⟩) | (go_at_call 70; (with_reducible refine (SI.out _ _ (N1.out _ _)).mono ?_); rintro en w2 ⟨rfl, hb2⟩))
        go_ret2
        exact ⟨ret2 HP.out.1.symm HP.out.2.symm, Below.refl _ _⟩
    · have HP := hid (FN.out (by first | exact .inl rfl | exact .inr (by rw [HK.out]; simp [kP])))
      clear FN FI FZ FV FB FG
      go_wp2_with (first | (go_at_call 49; (with_reducible refine (NX.out _).mono ?_); rintro en w1 ⟨rfl, rfl⟩) | (go_at_call 49; (with_reducible refine (NY.out _).mono ?_); rintro en w1 ⟨rfl, rfl⟩) | (go_at_call 49; (with_reducible refine (NZ.out _).mono ?_); rintro en w1 ⟨rfl, rfl⟩) | (go_at_call 50; (with_reducible refine (IX.out _).mono ?_); rintro en w1 ⟨rfl, rfl⟩) | (go_at_call 50; (with_reducible refine (IY.out _).mono ?_); rintro en w1 ⟨rfl, rfl⟩) | (go_at_call 50; (with_reducible refine (IZ.out _).mono ?_); rintro en w1 ⟨rfl, rfl⟩) | (go_at_call 75; (with_reducible refine (ZX.out _).mono ?_); rintro en w1 ⟨rfl, rfl⟩) | (go_at_call 75; (with_reducible refine (ZY.out _).mono ?_); rintro en w1 ⟨rfl, rfl⟩) | (go_at_call 63; (with_reducible refine (MX.out _).mono ?_); rintro en w1 ⟨rfl, rfl⟩) | (go_at_call 63; (with_reducible refine (MY.out _).mono ?_); rintro en w1 ⟨rfl, rfl⟩) | (go_at_call 59; (with_reducible refine (rQuiet_any _).mono ?_); rintro en w1 ⟨rfl, rfl⟩) | (go_at_call 137; (with_reducible refine (rInfBits_any _).mono ?_); rintro en w1 ⟨rfl, rfl⟩) | (go_at_call 62; (with_reducible refine (S1.out _).mono ?_); rintro en w1 ⟨rfl, rfl⟩) | (go_at_call 70; (with_reducible refine (SI.out _ _ (N1.out _ _)).mono ?_); rintro en w2 ⟨rfl, hb2⟩))
      go_ret2
      exact ⟨ret2 HP.out.1.symm HP.out.2.symm, Below.refl _ _⟩
  · have HP := hid (FN.out (by first | exact .inl rfl | exact .inr (by rw [HK.out]; simp [kP])))
    clear FN FI FZ FV FB FG
    go_wp2_with (first | (go_at_call 49; (with_reducible refine (NX.out _).mono ?_); rintro en w1 ⟨rfl, rfl⟩) | (go_at_call 49; (with_reducible refine (NY.out _).mono ?_); rintro en w1 ⟨rfl, rfl⟩) | (go_at_call 49; (with_reducible refine (NZ.out _).mono ?_); rintro en w1 ⟨rfl, rfl⟩) | (go_at_call 50; (with_reducible refine (IX.out _).mono ?_); rintro en w1 ⟨rfl, rfl⟩) | (go_at_call 50; (with_reducible refine (IY.out _).mono ?_); rintro en w1 ⟨rfl, rfl⟩) | (go_at_call 50; (with_reducible refine (IZ.out _).mono ?_); rintro en w1 ⟨rfl, rfl⟩) | (go_at_call 75; (with_reducible refine (ZX.out _).mono ?_); rintro en w1 ⟨rfl, rfl⟩) | (go_at_call 75; (with_reducible refine (ZY.out _).mono ?_); rintro en w1 ⟨rfl, rfl⟩) | (go_at_call 63; (with_reducible refine (MX.out _).mono ?_); rintro en w1 ⟨rfl, rfl⟩) | (go_at_call 63; (with_reducible refine (MY.out _).mono ?_); rintro en w1 ⟨rfl, rfl⟩) | (go_at_call 59; (with_reducible refine (rQuiet_any _).mono ?_); rintro en w1 ⟨rfl, rfl⟩) | (go_at_call 137; (with_reducible refine (rInfBits_any _).mono ?_); rintro en w1 ⟨rfl, rfl⟩) | (go_at_call 62; (with_reducible refine (S1.out _).mono ?_); rintro en w1 ⟨rfl, rfl⟩) | (go_at_call 70; (with_reducible refine (SI.out _ _ (N1.out _ _)).mono ?_); rintro en w2 ⟨rfl, hb2⟩))
    go_ret2
    exact ⟨ret2 HP.out.1.symm HP.out.2.symm, Below.refl _ _⟩
end Go.Proofs.YteaakbeemhmciaaDoor
