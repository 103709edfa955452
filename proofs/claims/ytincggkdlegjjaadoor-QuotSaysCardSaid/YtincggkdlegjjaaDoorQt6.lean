/- QuotSays: the law's walk. -/
import Derived.Test.YtincggkdlegjjaaDoorQt4
set_option linter.unusedVariables false
set_option linter.unusedSimpArgs false
namespace Go.Ulp
open Go.RowKit
def rootB (mode CM : Int) : Bool := decide (mode = 1 ∨ (mode = 0 ∨ mode = 4) ∧ 0 < CM)
theorem rootA_zero {D : Dy} {mode l : Int} (h : sqC D l = 0) : rootA D mode l = (l, false) := by unfold rootA; rw [if_pos h]
theorem rootA_up {D : Dy} {mode l : Int} (h : sqC D l ≠ 0) (hb : rootB mode (sqM D l) = true) : rootA D mode l = (l + 1, true) := by unfold rootA; rw [if_neg h, if_pos (of_decide_eq_true hb)]
theorem rootA_down {D : Dy} {mode l : Int} (h : sqC D l ≠ 0) (hb : rootB mode (sqM D l) = false) : rootA D mode l = (l, true) := by unfold rootA; rw [if_neg h, if_neg (of_decide_eq_false hb)]
end Go.Ulp
namespace Go.Proofs.YtincggkdlegjjaaDoor
open Go.RowKit Go.Ulp
set_option linter.unusedVariables false
set_option linter.unusedSimpArgs false
set_option maxHeartbeats 4000000
set_option maxRecDepth 100000
theorem rootOf_any (x : Int) (hx : 0 ≤ x ∧ x < 18446744073709551616) (mode : Int) (m0 : 0 ≤ mode) (m1 : mode ≤ 4) (w : World) :
    Calls Tryd.prog 16 #[.int .u64 x, .int .i64 mode] w (RetX w (sqX (kindR x) x (roM x) (roE x) mode) (sqB (kindR x) (roM x) (roE x) mode)) := by
  have NX := hid (fun w => rIsNan_any x hx.1 hx.2 w)
  have IX := hid (fun w => rIsInf_any x hx.1 hx.2 w)
  have ZX := hid (fun w => rIsZero_any x hx.1 hx.2 w)
  have MX := hid (fun w => rMinus_any x hx.1 hx.2 w)
  have VX := hid (fun w => qval_any x hx.1 hx.2 w)
  have BIG := hid (show kindR x = 2 → ∃ (M : Nat) (e : Int), fv x = ((M : Int), e) ∧ -1074 ≤ e ∧ IsN ((M : Int), e) ∧ ∀ l : Nat, (l : Int) < 9218868437227405312 → sqC ((M : Int), e) l ≤ 0 → ((l : Int) + 1 = 9218868437227405312 ∨ 0 < sqC ((M : Int), e) ((l : Int) + 1)) → numX false (roM x) (roE x) mode = (rootA ((M : Int), e) mode l).1 ∧ numC false (roM x) (roE x) mode = (rootA ((M : Int), e) mode l).2 from fun h3 => by
    obtain ⟨cx, dx, sx⟩ := kindR_two h3
    have fx := fv_nz x hx.1 hx.2 cx dx
    obtain ⟨-, b1, b2, b3⟩ := fv_bd x hx.1 hx.2
    have sg := fv_sign x (by omega)
    rw [sx] at sg
    have pos : 0 < (fv x).1 := by have := of_decide_eq_false sg; omega
    have hI := fv_isN x
    obtain ⟨k1, k2, k3⟩ := rtK_bd (fv x).2
    have hM : (((fv x).1.natAbs : Nat) : Int) = (fv x).1 := by omega
    obtain ⟨M, hM2⟩ : ∃ M, M = (fv x).1.natAbs := ⟨_, rfl⟩
    obtain ⟨e, he⟩ : ∃ e, e = (fv x).2 := ⟨_, rfl⟩
    have hD : fv x = ((M : Int), e) := by rw [hM2, hM, he]
    refine ⟨M, e, hD, by omega, by rw [← hD]; exact hI, fun l l1 l2 l3 => ?_⟩
    obtain ⟨s1, s2⟩ := isq_spec (rtm M e)
    have h9 := root_plain M e ((e - rtK e) / 2) (rtK e) (isq (rtm M e)) (rtm M e) mode l m0 m1 (by omega) (by rw [hM2]; exact b1) (by omega) (by rw [← hD]; exact hI) (by rw [he]; exact k1) (by rw [he]; exact k3) (by rw [he]; exact k2) rfl s1 s2 l1 l2 l3
    have r1 : roM x = rst (isq (rtm M e)) (rtm M e) := by unfold roM; rw [← hM2, ← he]; rfl
    have r2 : roE x = (e - rtK e) / 2 - 2 := by unfold roE; rw [← he]; rfl
    rw [r1, r2, ← h9]
    exact ⟨rfl, rfl⟩)
  have HK := hid (show kindR x = kR (isNan x) (negB x) (isInf x) (isZer x) from rfl)
  have XZ := hid (fun h => inf_not_zer (x := x) h)
  generalize roM x = QM at *
  generalize roE x = QE at *
  generalize kindR x = k at *
  generalize isNan x = nx at *
  generalize isInf x = ix at *
  generalize isZer x = zx at *
  generalize negB x = sx at *
  obtain ⟨x0, x1⟩ := hx
  cases nx
  · cases zx
    · cases sx
      · cases ix
        · have hk3 : k = 2 := HK.out
          obtain ⟨M, e, hD, he, hI, AN⟩ := BIG.out hk3
          have HAN := hid AN
          rw [hD] at VX
          have RR := hid (fun v w hq => rootRank_any v M e w hq he hI)
          clear BIG AN hD he hI
          subst hk3
          rw [show sqX 2 x QM QE mode = numX false QM QE mode from rfl, show sqB 2 QM QE mode = numC false QM QE mode from rfl]
          clear HK XZ
          obtain ⟨D, hD⟩ : ∃ D : Dy, D = ((M : Int), e) := ⟨_, rfl⟩
          rw [← hD] at VX RR HAN
          clear hD
          have RV := hid (fun r h0 h1 w => rankVal_any r h0 h1 w)
          have SH := hid (fun v w h => qshift_any v D 1200 1100 2 w h (by omega) (by omega) (by omega) (by omega))
          have RK := hid (show ∀ n w, 0 ≤ n → n ≤ 9218868437227405312 → Calls Tryd.prog 76 #[.int .i64 n] w fun e w' => e = .returned (.int .u64 n) ∧ w = w' from fun n w h0 h1 => by
            have h9 := ranked_any n (by omega) h1 w
            rwa [ranked_pos n h0] at h9)
          go_enter Tryd.func16, Tryd.ntmps16
          go_upto_region 6 with (first
            | (go_at_call 66; (with_reducible refine (NX.out _).mono ?_); rintro en w1 ⟨rfl, rfl⟩)
            | (go_at_call 67; (with_reducible refine (IX.out _).mono ?_); rintro en w1 ⟨rfl, rfl⟩)
            | (go_at_call 34; (with_reducible refine (ZX.out _).mono ?_); rintro en w1 ⟨rfl, rfl⟩)
            | (go_at_call 65; (with_reducible refine (MX.out _).mono ?_); rintro en w1 ⟨rfl, rfl⟩)
            | (go_at_call 68; (with_reducible refine (rQuiet_any _).mono ?_); rintro en w1 ⟨rfl, rfl⟩)
            | (go_at_call 72; (with_reducible refine (VX.out _).mono ?_); rintro en w2 ⟨v2, rfl, ⟨x6, n6, a6, c6, rfl, hN6, hD6, hA6, hT6⟩, hb2⟩))
          have z6 : QL 44 (w2.alloc (.cells #[.bool (zneg x6), .slice a6 (zl x6).length c6, .int .i64 (n6 : Int)] 44)) w2.heap.size (zneg x6) (.slice a6 (zl x6).length c6) n6 := QL.made rfl
          have yb := below_trans hb2 (below_alloc w2 (.cells #[.bool (zneg x6), .slice a6 (zl x6).length c6, .int .i64 (n6 : Int)] 44))
          have hN62 := hN6.below (below_alloc w2 (.cells #[.bool (zneg x6), .slice a6 (zl x6).length c6, .int .i64 (n6 : Int)] 44))
          obtain ⟨W3, hW3⟩ : ∃ W, W = w2.alloc (.cells #[.bool (zneg x6), .slice a6 (zl x6).length c6, .int .i64 (n6 : Int)] 44) := ⟨_, rfl⟩
          obtain ⟨g6, hg6⟩ : ∃ g, g = w2.heap.size := ⟨_, rfl⟩
          rw [← hW3, ← hg6] at z6 ⊢
          rw [← hW3] at yb hN62
          have HQ6 := hid (show QD 3 W3 D 1200 1100 (.agg #[.bool (zneg x6), .slice a6 (zl x6).length c6, .int .i64 (n6 : Int)]) from ⟨x6, n6, a6, c6, rfl, hN62, hD6, hA6, hT6⟩)
          have HN6 := hid hN62
          have HD6 := hid (show nrm x6 (-(n6 : Int)) = D ∧ x6.natAbs < 2 ^ 1200 ∧ n6 ≤ 1100 from ⟨hD6, hA6, hT6⟩)
          clear hW3 hg6 hN6 hN62 hD6 hA6 hT6 hb2 VX
          obtain ⟨⟨j0, j1, -, -, -⟩, j2, -⟩ := id z6
          go_upto_region 7 with (go_at_call 73; (with_reducible refine (RR.out _ _ HQ6.out).mono ?_); rintro en w4 ⟨l, rfl, l1, l2, l3, hb4⟩)
          have HAL := hid (HAN.out l l1 l2 l3)
          have L0 : (0 : Int) ≤ (l : Int) := by omega
          clear l2 l3 HAN RR j0 j1 j2
          obtain ⟨L, hL⟩ : ∃ L : Int, L = (l : Int) := ⟨_, rfl⟩
          rw [← hL] at l1 HAL L0 ⊢
          clear hL l
          go_upto_region 8 with (go_at_call 74; (with_reducible refine (RV.out _ (by omega) (by omega) _).mono ?_); rintro en w5 ⟨v5, rfl, ⟨x8, n8, a8, c8, rfl, hN8, hD8, hA8, hT8⟩, hb5⟩)
          have z8 : QL 44 (w5.alloc (.cells #[.bool (zneg x8), .slice a8 (zl x8).length c8, .int .i64 (n8 : Int)] 44)) w5.heap.size (zneg x8) (.slice a8 (zl x8).length c8) n8 := QL.made rfl
          have yc := below_trans (below_trans hb4 hb5) (below_alloc w5 (.cells #[.bool (zneg x8), .slice a8 (zl x8).length c8, .int .i64 (n8 : Int)] 44))
          have hN82 := hN8.below (below_alloc w5 (.cells #[.bool (zneg x8), .slice a8 (zl x8).length c8, .int .i64 (n8 : Int)] 44))
          obtain ⟨W5, hW5⟩ : ∃ W, W = w5.alloc (.cells #[.bool (zneg x8), .slice a8 (zl x8).length c8, .int .i64 (n8 : Int)] 44) := ⟨_, rfl⟩
          obtain ⟨g8, hg8⟩ : ∃ g, g = w5.heap.size := ⟨_, rfl⟩
          rw [← hW5, ← hg8] at z8 ⊢
          rw [← hW5] at yc hN82
          have z62 := z6.below yc
          have H6 := hid (HQ6.out.below yc)
          have KN6 := hid (HN6.out.below yc)
          have H8 := hid (show QD 3 W5 (rkD L) 1200 1100 (.agg #[.bool (zneg x8), .slice a8 (zl x8).length c8, .int .i64 (n8 : Int)]) from ⟨x8, n8, a8, c8, rfl, hN82, hD8, hA8, hT8⟩)
          replace yb := below_trans yb yc
          clear z6 HQ6 HN6
          have z6 := z62
          clear z62 hW5 hg8 hN8 hN82 hD8 hA8 hT8 hb5 hb4 yc
          have RK1 := hid (fun w => RK.out L w L0 (by omega))
          have RK2 := hid (fun w => RK.out (L + 1) w (by omega) (by omega))
          have RV1 := hid (fun w => RV.out (L + 1) (by omega) (by omega) w)
          have hwL : IntKind.i64.wrap (L + 1) = L + 1 := IntWalk.i64_in _ (by omega)
          have HWL := hid hwL
          clear RK RV x0 x1 hwL
          have QM1 := hid (fun v w h => qmul_any v v (rkD L) (rkD L) 1200 1100 1200 1100 w h h (by omega) (by omega) (by omega) (by omega))
          have QC1 := hid (show ∀ v u w, QD 3 w (mulD (rkD L) (rkD L)) (1200 + 1200) (1100 + 1100) v → QD 3 w D 1200 1100 u → Calls Tryd.prog 19 #[v, u] w fun e w' => e = .returned (.int .i64 (sqC D L)) ∧ Below w.heap.size w w' from fun v u w h1 h2 => qcmp_any v u (mulD (rkD L) (rkD L)) D (1200 + 1200) (1100 + 1100) 1200 1100 w h1 h2 (by omega) (by omega) (by omega) (by omega))
          have QA := hid (fun v u w h1 h2 => qadd_any v u (rkD L) (rkD (L + 1)) 1200 1100 1200 1100 w h1 h2 (by omega) (by omega) (by omega) (by omega))
          obtain ⟨AS, hAS⟩ : ∃ A, A = max 1200 1200 + max 1100 1100 + 1 := ⟨_, rfl⟩
          obtain ⟨TS, hTS⟩ : ∃ A, A = max 1100 1100 := ⟨_, rfl⟩
          rw [← hAS, ← hTS] at QA
          have bS : AS ≤ 3000 := by omega
          have bT : TS ≤ 2000 := by omega
          clear hAS hTS
          have QS := hid (show ∀ v w, QD 3 w (addD (rkD L) (rkD (L + 1))) AS TS v → Calls Tryd.prog 75 #[v, v] w fun e w' => RetQD 3 w (mulD (addD (rkD L) (rkD (L + 1))) (addD (rkD L) (rkD (L + 1)))) (AS + AS) (TS + TS) e w' from fun v w h => qmul_any v v _ _ AS TS AS TS w h h (by omega) (by omega) (by omega) (by omega))
          have QC2 := hid (show ∀ v u w, QD 3 w (shD D 2) (1200 + 400000) 400000 v → QD 3 w (mulD (addD (rkD L) (rkD (L + 1))) (addD (rkD L) (rkD (L + 1)))) (AS + AS) (TS + TS) u → Calls Tryd.prog 19 #[v, u] w fun e w' => e = .returned (.int .i64 (sqM D L)) ∧ Below w.heap.size w w' from fun v u w h1 h2 => qcmp_any v u _ _ (1200 + 400000) 400000 (AS + AS) (TS + TS) w h1 h2 (by omega) (by omega) (by omega) (by omega))
          have AZ := hid (fun h => rootA_zero (D := D) (mode := mode) (l := L) h)
          have AU := hid (fun h h2 => rootA_up (D := D) (mode := mode) (l := L) h h2)
          have AD := hid (fun h h2 => rootA_down (D := D) (mode := mode) (l := L) h h2)
          obtain ⟨CL, hCL⟩ : ∃ c, c = sqC D L := ⟨_, rfl⟩
          obtain ⟨CM, hCM⟩ : ∃ c, c = sqM D L := ⟨_, rfl⟩
          obtain ⟨S, hS⟩ : ∃ c, c = addD (rkD L) (rkD (L + 1)) := ⟨_, rfl⟩
          rw [← hCL] at QC1 AZ AU AD
          rw [← hCM] at QC2 AU AD
          rw [← hS] at QA QS QC2
          clear hCL hCM hS
          refine wp_region_grow 6 [37, 38, 39, 40, 41, 42] [Fact.is (.agg #[.bool (zneg x8), .slice a8 (zl x8).length c8, .int .i64 (n8 : Int)]), Fact.is (.agg #[.bool (zneg x8), .slice a8 (zl x8).length c8, .int .i64 (n8 : Int)]), Fact.q 3 (mulD (rkD L) (rkD L)) (1200 + 1200) (1100 + 1100), Fact.is (.agg #[.bool (zneg x6), .slice a6 (zl x6).length c6, .int .i64 (n6 : Int)]), Fact.is (.int .i64 CL), Fact.is (.bool (CL == 0))] (by kernel_rfl) (by kernel_rfl) ⟨?o0, ?o1, ?o2, ?o3, ?o4, ?o5, trivial⟩ ?after
          case o0 => (refine StepOK.plain rfl ?_; intro ρ w1 R hρ hb hp hR; have e8 : ρ (.tmp 8) = .pointer (some ⟨g8, 0, none⟩) := hρ.tmp 8 rfl; obtain ⟨⟨j0, j1, -, -, -⟩, j2, -⟩ := z8.below hb; have hcon := hρ.con; have hfn := hρ.fn; clear hρ hp; unfold OpRun; go_simp; exact hR _ _ (Below.refl _ _) rfl)
          case o1 => (refine StepOK.plain rfl ?_; intro ρ w1 R hρ hb hp hR; have e8 : ρ (.tmp 8) = .pointer (some ⟨g8, 0, none⟩) := hρ.tmp 8 rfl; obtain ⟨⟨j0, j1, -, -, -⟩, j2, -⟩ := z8.below hb; have hcon := hρ.con; have hfn := hρ.fn; clear hρ hp; unfold OpRun; go_simp; exact hR _ _ (Below.refl _ _) rfl)
          case o2 => (refine StepOK.plain rfl ?_; intro ρ w1 R hρ hb hp hR; have e37 : ρ (.tmp 37) = _ := hp 0 37 rfl rfl; have e38 : ρ (.tmp 38) = _ := hp 1 38 rfl rfl; have hcon := hρ.con; have hfn := hρ.fn; clear hρ hp; unfold OpRun; go_simp; (refine (QM1.out _ _ (H8.out.below hb)).mono ?_; rintro e wn ⟨v9, rfl, hv9, hbn⟩; exact ⟨_, rfl, hR _ _ hbn hv9⟩))
          case o3 => (refine StepOK.plain rfl ?_; intro ρ w1 R hρ hb hp hR; have e6 : ρ (.tmp 6) = .pointer (some ⟨g6, 0, none⟩) := hρ.tmp 6 rfl; obtain ⟨⟨j0, j1, -, -, -⟩, j2, -⟩ := z6.below hb; have hcon := hρ.con; have hfn := hρ.fn; clear hρ hp; unfold OpRun; go_simp; exact hR _ _ (Below.refl _ _) rfl)
          case o4 => (refine StepOK.plain rfl ?_; intro ρ w1 R hρ hb hp hR; have f39 := hp 2 39 rfl rfl; have e40 : ρ (.tmp 40) = _ := hp 3 40 rfl rfl; have hcon := hρ.con; have hfn := hρ.fn; clear hρ hp; unfold OpRun; go_simp; (refine (QC1.out _ _ _ f39 (H6.out.below hb)).mono ?_; rintro e wn ⟨rfl, hbn⟩; exact ⟨_, rfl, hR _ _ hbn rfl⟩))
          case o5 => (refine StepOK.plain rfl ?_; intro ρ w1 R hρ hb hp hR; have e41 : ρ (.tmp 41) = _ := hp 4 41 rfl rfl; have hcon := hρ.con; have hfn := hρ.fn; clear hρ hp; unfold OpRun; go_simp; exact hR _ _ (Below.refl _ _) rfl)
          case after =>
            intro u wn hb hf
            have e42 : u 42 = _ := hf 5 42 (by omega) rfl
            clear hf
            simp only [putAll, Act.put, List.setIfInBounds_toArray, List.set_cons_zero, List.set_cons_succ, List.drop_succ_cons, List.drop_zero, List.drop_nil]
            rw [e42]
            replace yb := below_trans yb hb
            replace z6 := z6.below hb
            replace z8 := z8.below hb
            have G6 := hid (KN6.out.below hb)
            have G8 := hid (H8.out.below hb)
            clear H6 KN6 H8 hb QM1 QC1
            by_cases hz : CL = 0
            · have hz2 : (CL == 0) = true := beq_iff_eq.2 hz
              have HF := hid (show numX false QM QE mode = L ∧ numC false QM QE mode = false by
                have h9 := HAL.out
                rw [AZ.out hz] at h9
                exact h9)
              clear hz HAL AZ AU AD
              go_wp2_with (go_at_call 76; (with_reducible refine (RK1.out _).mono ?_); rintro en w6 ⟨rfl, rfl⟩)
              go_ret2
              exact ⟨ret2 HF.out.1.symm HF.out.2.symm, yb⟩
            · have hz2 : (CL == 0) = false := beq_eq_false_iff_ne.2 hz
              have HU := hid (fun h2 => (show numX false QM QE mode = L + 1 ∧ numC false QM QE mode = true by
                have h9 := HAL.out
                rw [AU.out hz h2] at h9
                exact h9))
              have HDn := hid (fun h2 => (show numX false QM QE mode = L ∧ numC false QM QE mode = true by
                have h9 := HAL.out
                rw [AD.out hz h2] at h9
                exact h9))
              clear hz HAL AZ AU AD
              go_upto_region 10 with fail
              obtain ⟨W6, hW6⟩ : ∃ W, W = wn := ⟨_, rfl⟩
              subst hW6
              have hwL := HWL.out
              refine wp_region_growF 6 [45, 46, 47, 48, 49, 9] [Fact.is (.agg #[.bool (zneg x8), .slice a8 (zl x8).length c8, .int .i64 (n8 : Int)]), Fact.is (.int .i64 L), Fact.is (.int .i64 (L + 1)), Fact.q 3 (rkD (L + 1)) 1200 1100, Fact.q 3 S AS TS, Fact.q0 W6.heap.size 44] [5] (by kernel_rfl) (by kernel_rfl) ⟨?o0, ?o1, ?o2, ?o3, ?o4, ?o5, trivial⟩ ?after
              case o0 => (refine StepOKF.plain rfl ?_; intro ρ w1 R hρ hb hp hR; have e8 : ρ (.tmp 8) = .pointer (some ⟨g8, 0, none⟩) := hρ.tmp 8 rfl; obtain ⟨⟨j0, j1, -, -, -⟩, j2, -⟩ := z8.below hb; replace hR := fun v w2 h1 h2 => hR v w2 h1 h2 (fun h => absurd h (by decide)); have hcon := hρ.con; have hfn := hρ.fn; clear hρ hp; unfold OpRun; go_simp; exact hR _ _ (Below.refl _ _) rfl)
              case o1 => (refine StepOKF.plain rfl ?_; intro ρ w1 R hρ hb hp hR; have e7 : ρ (.tmp 7) = .int .i64 L := hρ.tmp 7 rfl; replace hR := fun v w2 h1 h2 => hR v w2 h1 h2 (fun h => absurd h (by decide)); have hcon := hρ.con; have hfn := hρ.fn; clear hρ hp; unfold OpRun; go_simp; exact hR _ _ (Below.refl _ _) rfl)
              case o2 => (refine StepOKF.plain rfl ?_; intro ρ w1 R hρ hb hp hR; have e46 : ρ (.tmp 46) = _ := hp 1 46 rfl rfl; replace hR := fun v w2 h1 h2 => hR v w2 h1 h2 (fun h => absurd h (by decide)); have hcon := hρ.con; have hfn := hρ.fn; clear hρ hp; unfold OpRun; go_simp; exact hR _ _ (Below.refl _ _) rfl)
              case o3 => (refine StepOKF.plain rfl ?_; intro ρ w1 R hρ hb hp hR; have e47 : ρ (.tmp 47) = _ := hp 2 47 rfl rfl; replace hR := fun v w2 h1 h2 => hR v w2 h1 h2 (fun h => absurd h (by decide)); have hcon := hρ.con; have hfn := hρ.fn; clear hρ hp; unfold OpRun; go_simp; (refine (RV1.out _).mono ?_; rintro e wn ⟨v9, rfl, hv9, hbn⟩; exact ⟨_, rfl, hR _ _ hbn hv9⟩))
              case o4 => (refine StepOKF.plain rfl ?_; intro ρ w1 R hρ hb hp hR; have e45 : ρ (.tmp 45) = _ := hp 0 45 rfl rfl; have f48 := hp 3 48 rfl rfl; replace hR := fun v w2 h1 h2 => hR v w2 h1 h2 (fun h => absurd h (by decide)); have hcon := hρ.con; have hfn := hρ.fn; clear hρ hp; unfold OpRun; go_simp; (refine (QA.out _ _ _ (G8.out.below hb) f48).mono ?_; rintro e wn ⟨v9, rfl, hv9, hbn⟩; exact ⟨_, rfl, hR _ _ hbn hv9⟩))
              case o5 => (refine StepOKF.plain rfl ?_; intro ρ w1 R hρ hb hp hR; have hcon := hρ.con; have hfn := hρ.fn; clear hρ hp; unfold OpRun; go_simp; exact hR _ _ (below_alloc _ _) ⟨_, rfl, hb.size, QL.made rfl⟩ (fun _ => ⟨_, rfl, Nat.le_refl _, by simp⟩))
              case after =>
                intro u wn hb hf hd
                have f9 := hf 5 9 (by omega) rfl
                have f49 := hf 4 49 (by omega) rfl
                clear hf hd
                simp only [putAll, Act.put, List.setIfInBounds_toArray, List.set_cons_zero, List.set_cons_succ, List.drop_succ_cons, List.drop_zero, List.drop_nil]
                clear hwL HWL
                obtain ⟨gS, e9, hgS, zS⟩ := f9
                obtain ⟨xs, ns, aq, cq, e49, hNs, hDs, hAs, hTs⟩ := f49
                rw [e9, e49]
                clear e9 e49
                have l6 := z6.lt
                have l8 := z8.lt
                have z62 := (z6.below hb).far3 (b := gS) (by omega) (.bool (zneg xs)) (.slice aq (zl xs).length cq) (.int .i64 (ns : Int))
                have hN62 := (G6.out.below hb).set3Q zS (by decide) (.bool (zneg xs)) (.slice aq (zl xs).length cq) (.int .i64 (ns : Int))
                have zS2 := zS.put (zneg xs) (.slice aq (zl xs).length cq) (ns : Int)
                have hNS2 := hNs.set3Q zS (by decide) (.bool (zneg xs)) (.slice aq (zl xs).length cq) (.int .i64 (ns : Int))
                have yb2 := Go.Ulp.Below.put3 (below_trans yb hb) (g := gS) (by have := yb.size; omega) (.bool (zneg xs)) (.slice aq (zl xs).length cq) (.int .i64 (ns : Int))
                obtain ⟨⟨k0, k1, f0, f1, hs2⟩, k2, f2⟩ := id zS
                go_upto_region 11 with fail
                obtain ⟨W7, hW7⟩ : ∃ W, W = ((wn.setCell ⟨gS, 0, none⟩ (.bool (zneg xs))).setCell ⟨gS, 1, none⟩ (.slice aq (zl xs).length cq)).setCell ⟨gS, 2, none⟩ (.int .i64 (ns : Int)) := ⟨_, rfl⟩
                rw [← hW7] at z62 hN62 zS2 hNS2 yb2 ⊢
                have HQS := hid (fun w' (hb : Below W7.heap.size W7 w') => (show QD 3 w' S AS TS (.agg #[.bool (zneg xs), .slice aq (zl xs).length cq, .int .i64 (ns : Int)]) from ⟨xs, ns, aq, cq, rfl, hNS2.below hb, hDs, hAs, hTs⟩))
                have HQ6 := hid (fun w' (hb : Below W7.heap.size W7 w') => (show QD 3 w' D 1200 1100 (.agg #[.bool (zneg x6), .slice a6 (zl x6).length c6, .int .i64 (n6 : Int)]) from ⟨x6, n6, a6, c6, rfl, hN62.below hb, HD6.out.1, HD6.out.2.1, HD6.out.2.2⟩))
                clear hW7 k0 k1 f0 f1 hs2 k2 f2 zS hNs hNS2 hN62 HD6 hDs hAs hTs z6 z8 l6 l8 hgS yb hb G6 G8 QA RV1
                have z6 := z62
                clear z62
                by_cases c1 : mode = 1
                · subst c1
                  have HF := hid (HU.out (by unfold rootB; simp))
                  clear HU HDn
                  refine wp_region_grow 19 [50, 51, 52, 53, 54, 55, 56, 57, 58, 59, 60, 61, 62, 63, 64, 65, 66, 67, 68] [Fact.is (.int .i64 1), Fact.is (.bool true), Fact.is (.bool true), Fact.any, Fact.any, Fact.is undef, Fact.any, Fact.any, Fact.any, Fact.is undef, Fact.any, Fact.any, Fact.any, Fact.any, Fact.any, Fact.any, Fact.any, Fact.any, Fact.is (.bool true)] (by kernel_rfl) (by kernel_rfl) ⟨?o0, ?o1, ?o2, ?o3, ?o4, ?o5, ?o6, ?o7, ?o8, ?o9, ?o10, ?o11, ?o12, ?o13, ?o14, ?o15, ?o16, ?o17, ?o18, trivial⟩ ?after
                  case o0 => (refine StepOK.plain rfl ?_; intro ρ w1 R hρ hb hp hR; have e1 : ρ (.tmp 1) = .int .i64 1 := hρ.tmp 1 rfl; have hcon := hρ.con; have hfn := hρ.fn; clear hρ hp; unfold OpRun; go_simp; exact hR _ _ (Below.refl _ _) rfl)
                  case o1 => (refine StepOK.plain rfl ?_; intro ρ w1 R hρ hb hp hR; have e50 : ρ (.tmp 50) = _ := hp 0 50 rfl rfl; have hcon := hρ.con; have hfn := hρ.fn; clear hρ hp; unfold OpRun; go_simp; exact hR _ _ (Below.refl _ _) rfl)
                  case o2 => (refine StepOK.plain rfl ?_; intro ρ w1 R hρ hb hp hR; have e51 : ρ (.tmp 51) = _ := hp 1 51 rfl rfl; have hcon := hρ.con; have hfn := hρ.fn; clear hρ hp; unfold OpRun; go_simp; exact hR _ _ (Below.refl _ _) rfl)
                  case o3 => (intro ρ w1 R hρ hb hp hR; have eg : ρ (.tmp 52) = .bool true := hp 2 52 rfl rfl; exact ⟨fun hg => absurd hg (by simp [guardOf, eg]), fun _ => trivial⟩)
                  case o4 => (intro ρ w1 R hρ hb hp hR; have eg : ρ (.tmp 52) = .bool true := hp 2 52 rfl rfl; exact ⟨fun hg => absurd hg (by simp [guardOf, eg]), fun _ => trivial⟩)
                  case o5 => (intro ρ w1 R hρ hb hp hR; have eg : ρ (.tmp 52) = .bool true := hp 2 52 rfl rfl; exact ⟨fun hg => absurd hg (by simp [guardOf, eg, undef]), fun _ => rfl⟩)
                  case o6 => (intro ρ w1 R hρ hb hp hR; have eg : ρ (.tmp 55) = undef := hp 5 55 rfl rfl; exact ⟨fun hg => absurd hg (by simp [guardOf, eg, undef]), fun _ => trivial⟩)
                  case o7 => (intro ρ w1 R hρ hb hp hR; have eg : ρ (.tmp 55) = undef := hp 5 55 rfl rfl; exact ⟨fun hg => absurd hg (by simp [guardOf, eg, undef]), fun _ => trivial⟩)
                  case o8 => (intro ρ w1 R hρ hb hp hR; have eg : ρ (.tmp 52) = .bool true := hp 2 52 rfl rfl; exact ⟨fun hg => absurd hg (by simp [guardOf, eg]), fun _ => trivial⟩)
                  case o9 => (intro ρ w1 R hρ hb hp hR; have eg : ρ (.tmp 52) = .bool true := hp 2 52 rfl rfl; exact ⟨fun hg => absurd hg (by simp [guardOf, eg, undef]), fun _ => rfl⟩)
                  case o10 => (intro ρ w1 R hρ hb hp hR; have eg : ρ (.tmp 59) = undef := hp 9 59 rfl rfl; exact ⟨fun hg => absurd hg (by simp [guardOf, eg, undef]), fun _ => trivial⟩)
                  case o11 => (intro ρ w1 R hρ hb hp hR; have eg : ρ (.tmp 59) = undef := hp 9 59 rfl rfl; exact ⟨fun hg => absurd hg (by simp [guardOf, eg, undef]), fun _ => trivial⟩)
                  case o12 => (intro ρ w1 R hρ hb hp hR; have eg : ρ (.tmp 59) = undef := hp 9 59 rfl rfl; exact ⟨fun hg => absurd hg (by simp [guardOf, eg, undef]), fun _ => trivial⟩)
                  case o13 => (intro ρ w1 R hρ hb hp hR; have eg : ρ (.tmp 59) = undef := hp 9 59 rfl rfl; exact ⟨fun hg => absurd hg (by simp [guardOf, eg, undef]), fun _ => trivial⟩)
                  case o14 => (intro ρ w1 R hρ hb hp hR; have eg : ρ (.tmp 59) = undef := hp 9 59 rfl rfl; exact ⟨fun hg => absurd hg (by simp [guardOf, eg, undef]), fun _ => trivial⟩)
                  case o15 => (intro ρ w1 R hρ hb hp hR; have eg : ρ (.tmp 59) = undef := hp 9 59 rfl rfl; exact ⟨fun hg => absurd hg (by simp [guardOf, eg, undef]), fun _ => trivial⟩)
                  case o16 => (intro ρ w1 R hρ hb hp hR; have eg : ρ (.tmp 59) = undef := hp 9 59 rfl rfl; exact ⟨fun hg => absurd hg (by simp [guardOf, eg, undef]), fun _ => trivial⟩)
                  case o17 => (intro ρ w1 R hρ hb hp hR; have eg : ρ (.tmp 52) = .bool true := hp 2 52 rfl rfl; exact ⟨fun hg => absurd hg (by simp [guardOf, eg]), fun _ => trivial⟩)
                  case o18 => (refine StepOK.plain rfl ?_; intro ρ w1 R hρ hb hp hR; have e52 : ρ (.tmp 52) = _ := hp 2 52 rfl rfl; have f67 := hp 17 67 rfl rfl; have hcon := hρ.con; have hfn := hρ.fn; clear hρ hp; unfold OpRun; go_simp; exact hR _ _ (Below.refl _ _) rfl)
                  case after =>
                    intro u wn hb hf
                    have e68 : u 68 = _ := hf 18 68 (by omega) rfl
                    clear hf
                    simp only [putAll, Act.put, List.setIfInBounds_toArray, List.set_cons_zero, List.set_cons_succ, List.drop_succ_cons, List.drop_zero, List.drop_nil]
                    rw [e68]
                    replace yb2 := below_trans yb2 hb
                    go_wp2_with (go_at_call 76; (with_reducible refine (RK2.out _).mono ?_); rintro en w8 ⟨rfl, rfl⟩)
                    go_ret2
                    exact ⟨ret2 HF.out.1.symm HF.out.2.symm, yb2⟩
                by_cases c0 : mode = 0
                · subst c0
                  have HU2 := hid (show 0 < CM → _ from fun h => HU.out (show rootB 0 CM = true by unfold rootB; simp [h]))
                  have HD2 := hid (show ¬ 0 < CM → _ from fun h => HDn.out (show rootB 0 CM = false by unfold rootB; simp [h]))
                  clear HU HDn c1
                  refine wp_region_grow 19 [50, 51, 52, 53, 54, 55, 56, 57, 58, 59, 60, 61, 62, 63, 64, 65, 66, 67, 68] [Fact.is (.int .i64 0), Fact.is (.bool false), Fact.is (.bool false), Fact.is (.int .i64 0), Fact.is (.bool true), Fact.is (.bool true), Fact.any, Fact.any, Fact.is (.bool true), Fact.is (.bool true), Fact.is (.agg #[.bool (zneg x6), .slice a6 (zl x6).length c6, .int .i64 (n6 : Int)]), Fact.q 3 (shD D 2) (1200 + 400000) 400000, Fact.is (.agg #[.bool (zneg xs), .slice aq (zl xs).length cq, .int .i64 (ns : Int)]), Fact.is (.agg #[.bool (zneg xs), .slice aq (zl xs).length cq, .int .i64 (ns : Int)]), Fact.q 3 (mulD S S) (AS + AS) (TS + TS), Fact.is (.int .i64 CM), Fact.is (.bool (decide (0 < CM))), Fact.is (.bool (decide (0 < CM))), Fact.is (.bool (decide (0 < CM)))] (by kernel_rfl) (by kernel_rfl) ⟨?o0, ?o1, ?o2, ?o3, ?o4, ?o5, ?o6, ?o7, ?o8, ?o9, ?o10, ?o11, ?o12, ?o13, ?o14, ?o15, ?o16, ?o17, ?o18, trivial⟩ ?after
                  case o0 => (refine StepOK.plain rfl ?_; intro ρ w1 R hρ hb hp hR; have e1 : ρ (.tmp 1) = .int .i64 0 := hρ.tmp 1 rfl; have hcon := hρ.con; have hfn := hρ.fn; clear hρ hp; unfold OpRun; go_simp; exact hR _ _ (Below.refl _ _) rfl)
                  case o1 => (refine StepOK.plain rfl ?_; intro ρ w1 R hρ hb hp hR; have e50 : ρ (.tmp 50) = _ := hp 0 50 rfl rfl; have hcon := hρ.con; have hfn := hρ.fn; clear hρ hp; unfold OpRun; go_simp; exact hR _ _ (Below.refl _ _) rfl)
                  case o2 => (refine StepOK.plain rfl ?_; intro ρ w1 R hρ hb hp hR; have e51 : ρ (.tmp 51) = _ := hp 1 51 rfl rfl; have hcon := hρ.con; have hfn := hρ.fn; clear hρ hp; unfold OpRun; go_simp; exact hR _ _ (Below.refl _ _) rfl)
                  case o3 => (intro ρ w1 R hρ hb hp hR; have eg : ρ (.tmp 52) = .bool false := hp 2 52 rfl rfl; refine ⟨fun _ => ?_, fun hg => absurd hg (by simp [guardOf, eg])⟩; clear eg; have e1 : ρ (.tmp 1) = .int .i64 0 := hρ.tmp 1 rfl; have hcon := hρ.con; have hfn := hρ.fn; clear hρ hp; unfold OpRun; go_simp; exact hR _ _ (Below.refl _ _) rfl)
                  case o4 => (intro ρ w1 R hρ hb hp hR; have eg : ρ (.tmp 52) = .bool false := hp 2 52 rfl rfl; refine ⟨fun _ => ?_, fun hg => absurd hg (by simp [guardOf, eg])⟩; clear eg; have e53 : ρ (.tmp 53) = _ := hp 3 53 rfl rfl; have hcon := hρ.con; have hfn := hρ.fn; clear hρ hp; unfold OpRun; go_simp; exact hR _ _ (Below.refl _ _) rfl)
                  case o5 => (intro ρ w1 R hρ hb hp hR; have eg : ρ (.tmp 52) = .bool false := hp 2 52 rfl rfl; refine ⟨fun _ => ?_, fun hg => absurd hg (by simp [guardOf, eg])⟩; clear eg; have e54 : ρ (.tmp 54) = _ := hp 4 54 rfl rfl; have hcon := hρ.con; have hfn := hρ.fn; clear hρ hp; unfold OpRun; go_simp; exact hR _ _ (Below.refl _ _) rfl)
                  case o6 => (intro ρ w1 R hρ hb hp hR; have eg : ρ (.tmp 55) = .bool true := hp 5 55 rfl rfl; exact ⟨fun hg => absurd hg (by simp [guardOf, eg]), fun _ => trivial⟩)
                  case o7 => (intro ρ w1 R hρ hb hp hR; have eg : ρ (.tmp 55) = .bool true := hp 5 55 rfl rfl; exact ⟨fun hg => absurd hg (by simp [guardOf, eg]), fun _ => trivial⟩)
                  case o8 => (intro ρ w1 R hρ hb hp hR; have eg : ρ (.tmp 52) = .bool false := hp 2 52 rfl rfl; refine ⟨fun _ => ?_, fun hg => absurd hg (by simp [guardOf, eg])⟩; clear eg; have e55 : ρ (.tmp 55) = _ := hp 5 55 rfl rfl; have f57 := hp 7 57 rfl rfl; have hcon := hρ.con; have hfn := hρ.fn; clear hρ hp; unfold OpRun; go_simp; exact hR _ _ (Below.refl _ _) rfl)
                  case o9 => (intro ρ w1 R hρ hb hp hR; have eg : ρ (.tmp 52) = .bool false := hp 2 52 rfl rfl; refine ⟨fun _ => ?_, fun hg => absurd hg (by simp [guardOf, eg])⟩; clear eg; have e58 : ρ (.tmp 58) = _ := hp 8 58 rfl rfl; have hcon := hρ.con; have hfn := hρ.fn; clear hρ hp; unfold OpRun; go_simp; exact hR _ _ (Below.refl _ _) rfl)
                  case o10 => (intro ρ w1 R hρ hb hp hR; have eg : ρ (.tmp 59) = .bool true := hp 9 59 rfl rfl; refine ⟨fun _ => ?_, fun hg => absurd hg (by simp [guardOf, eg])⟩; clear eg; have e6 : ρ (.tmp 6) = .pointer (some ⟨g6, 0, none⟩) := hρ.tmp 6 rfl; obtain ⟨⟨j0, j1, -, -, -⟩, j2, -⟩ := z6.below hb; have hcon := hρ.con; have hfn := hρ.fn; clear hρ hp; unfold OpRun; go_simp; exact hR _ _ (Below.refl _ _) rfl)
                  case o11 => (intro ρ w1 R hρ hb hp hR; have eg : ρ (.tmp 59) = .bool true := hp 9 59 rfl rfl; refine ⟨fun _ => ?_, fun hg => absurd hg (by simp [guardOf, eg])⟩; clear eg; have e60 : ρ (.tmp 60) = _ := hp 10 60 rfl rfl; have hcon := hρ.con; have hfn := hρ.fn; clear hρ hp; unfold OpRun; go_simp; (refine (SH.out _ _ (HQ6.out _ hb)).mono ?_; rintro e wn ⟨v9, rfl, hv9, hbn⟩; exact ⟨_, rfl, hR _ _ hbn hv9⟩))
                  case o12 => (intro ρ w1 R hρ hb hp hR; have eg : ρ (.tmp 59) = .bool true := hp 9 59 rfl rfl; refine ⟨fun _ => ?_, fun hg => absurd hg (by simp [guardOf, eg])⟩; clear eg; have e9 : ρ (.tmp 9) = .pointer (some ⟨gS, 0, none⟩) := hρ.tmp 9 rfl; obtain ⟨⟨j0, j1, -, -, -⟩, j2, -⟩ := zS2.below hb; have hcon := hρ.con; have hfn := hρ.fn; clear hρ hp; unfold OpRun; go_simp; exact hR _ _ (Below.refl _ _) rfl)
                  case o13 => (intro ρ w1 R hρ hb hp hR; have eg : ρ (.tmp 59) = .bool true := hp 9 59 rfl rfl; refine ⟨fun _ => ?_, fun hg => absurd hg (by simp [guardOf, eg])⟩; clear eg; have e9 : ρ (.tmp 9) = .pointer (some ⟨gS, 0, none⟩) := hρ.tmp 9 rfl; obtain ⟨⟨j0, j1, -, -, -⟩, j2, -⟩ := zS2.below hb; have hcon := hρ.con; have hfn := hρ.fn; clear hρ hp; unfold OpRun; go_simp; exact hR _ _ (Below.refl _ _) rfl)
                  case o14 => (intro ρ w1 R hρ hb hp hR; have eg : ρ (.tmp 59) = .bool true := hp 9 59 rfl rfl; refine ⟨fun _ => ?_, fun hg => absurd hg (by simp [guardOf, eg])⟩; clear eg; have e62 : ρ (.tmp 62) = _ := hp 12 62 rfl rfl; have e63 : ρ (.tmp 63) = _ := hp 13 63 rfl rfl; have hcon := hρ.con; have hfn := hρ.fn; clear hρ hp; unfold OpRun; go_simp; (refine (QS.out _ _ (HQS.out _ hb)).mono ?_; rintro e wn ⟨v9, rfl, hv9, hbn⟩; exact ⟨_, rfl, hR _ _ hbn hv9⟩))
                  case o15 => (intro ρ w1 R hρ hb hp hR; have eg : ρ (.tmp 59) = .bool true := hp 9 59 rfl rfl; refine ⟨fun _ => ?_, fun hg => absurd hg (by simp [guardOf, eg])⟩; clear eg; have f61 := hp 11 61 rfl rfl; have f64 := hp 14 64 rfl rfl; have hcon := hρ.con; have hfn := hρ.fn; clear hρ hp; unfold OpRun; go_simp; (refine (QC2.out _ _ _ f61 f64).mono ?_; rintro e wn ⟨rfl, hbn⟩; exact ⟨_, rfl, hR _ _ hbn rfl⟩))
                  case o16 => (intro ρ w1 R hρ hb hp hR; have eg : ρ (.tmp 59) = .bool true := hp 9 59 rfl rfl; refine ⟨fun _ => ?_, fun hg => absurd hg (by simp [guardOf, eg])⟩; clear eg; have e65 : ρ (.tmp 65) = _ := hp 15 65 rfl rfl; have hcon := hρ.con; have hfn := hρ.fn; clear hρ hp; unfold OpRun; go_simp; exact hR _ _ (Below.refl _ _) rfl)
                  case o17 => (intro ρ w1 R hρ hb hp hR; have eg : ρ (.tmp 52) = .bool false := hp 2 52 rfl rfl; refine ⟨fun _ => ?_, fun hg => absurd hg (by simp [guardOf, eg])⟩; clear eg; have e59 : ρ (.tmp 59) = _ := hp 9 59 rfl rfl; have e66 : ρ (.tmp 66) = _ := hp 16 66 rfl rfl; have hcon := hρ.con; have hfn := hρ.fn; clear hρ hp; unfold OpRun; go_simp; exact hR _ _ (Below.refl _ _) rfl)
                  case o18 => (refine StepOK.plain rfl ?_; intro ρ w1 R hρ hb hp hR; have e52 : ρ (.tmp 52) = _ := hp 2 52 rfl rfl; have e67 : ρ (.tmp 67) = _ := hp 17 67 rfl rfl; have hcon := hρ.con; have hfn := hρ.fn; clear hρ hp; unfold OpRun; go_simp; exact hR _ _ (Below.refl _ _) rfl)
                  case after =>
                    intro u wn hb hf
                    have e68 : u 68 = _ := hf 18 68 (by omega) rfl
                    clear hf
                    simp only [putAll, Act.put, List.setIfInBounds_toArray, List.set_cons_zero, List.set_cons_succ, List.drop_succ_cons, List.drop_zero, List.drop_nil]
                    rw [e68]
                    replace yb2 := below_trans yb2 hb
                    by_cases hcm : 0 < CM
                    · have HF := hid (HU2.out hcm)
                      go_wp2_with (go_at_call 76; (with_reducible refine (RK2.out _).mono ?_); rintro en w8 ⟨rfl, rfl⟩)
                      go_ret2
                      exact ⟨ret2 HF.out.1.symm HF.out.2.symm, yb2⟩
                    · have HF := hid (HD2.out hcm)
                      go_wp2_with (go_at_call 76; (with_reducible refine (RK1.out _).mono ?_); rintro en w8 ⟨rfl, rfl⟩)
                      go_ret2
                      exact ⟨ret2 HF.out.1.symm HF.out.2.symm, yb2⟩
                by_cases c4 : mode = 4
                · subst c4
                  have HU2 := hid (show 0 < CM → _ from fun h => HU.out (show rootB 4 CM = true by unfold rootB; simp [h]))
                  have HD2 := hid (show ¬ 0 < CM → _ from fun h => HDn.out (show rootB 4 CM = false by unfold rootB; simp [h]))
                  clear HU HDn c1 c0
                  refine wp_region_grow 19 [50, 51, 52, 53, 54, 55, 56, 57, 58, 59, 60, 61, 62, 63, 64, 65, 66, 67, 68] [Fact.is (.int .i64 4), Fact.is (.bool false), Fact.is (.bool false), Fact.is (.int .i64 4), Fact.is (.bool false), Fact.is (.bool false), Fact.is (.int .i64 4), Fact.is (.bool true), Fact.is (.bool true), Fact.is (.bool true), Fact.is (.agg #[.bool (zneg x6), .slice a6 (zl x6).length c6, .int .i64 (n6 : Int)]), Fact.q 3 (shD D 2) (1200 + 400000) 400000, Fact.is (.agg #[.bool (zneg xs), .slice aq (zl xs).length cq, .int .i64 (ns : Int)]), Fact.is (.agg #[.bool (zneg xs), .slice aq (zl xs).length cq, .int .i64 (ns : Int)]), Fact.q 3 (mulD S S) (AS + AS) (TS + TS), Fact.is (.int .i64 CM), Fact.is (.bool (decide (0 < CM))), Fact.is (.bool (decide (0 < CM))), Fact.is (.bool (decide (0 < CM)))] (by kernel_rfl) (by kernel_rfl) ⟨?o0, ?o1, ?o2, ?o3, ?o4, ?o5, ?o6, ?o7, ?o8, ?o9, ?o10, ?o11, ?o12, ?o13, ?o14, ?o15, ?o16, ?o17, ?o18, trivial⟩ ?after
                  case o0 => (refine StepOK.plain rfl ?_; intro ρ w1 R hρ hb hp hR; have e1 : ρ (.tmp 1) = .int .i64 4 := hρ.tmp 1 rfl; have hcon := hρ.con; have hfn := hρ.fn; clear hρ hp; unfold OpRun; go_simp; exact hR _ _ (Below.refl _ _) rfl)
                  case o1 => (refine StepOK.plain rfl ?_; intro ρ w1 R hρ hb hp hR; have e50 : ρ (.tmp 50) = _ := hp 0 50 rfl rfl; have hcon := hρ.con; have hfn := hρ.fn; clear hρ hp; unfold OpRun; go_simp; exact hR _ _ (Below.refl _ _) rfl)
                  case o2 => (refine StepOK.plain rfl ?_; intro ρ w1 R hρ hb hp hR; have e51 : ρ (.tmp 51) = _ := hp 1 51 rfl rfl; have hcon := hρ.con; have hfn := hρ.fn; clear hρ hp; unfold OpRun; go_simp; exact hR _ _ (Below.refl _ _) rfl)
                  case o3 => (intro ρ w1 R hρ hb hp hR; have eg : ρ (.tmp 52) = .bool false := hp 2 52 rfl rfl; refine ⟨fun _ => ?_, fun hg => absurd hg (by simp [guardOf, eg])⟩; clear eg; have e1 : ρ (.tmp 1) = .int .i64 4 := hρ.tmp 1 rfl; have hcon := hρ.con; have hfn := hρ.fn; clear hρ hp; unfold OpRun; go_simp; exact hR _ _ (Below.refl _ _) rfl)
                  case o4 => (intro ρ w1 R hρ hb hp hR; have eg : ρ (.tmp 52) = .bool false := hp 2 52 rfl rfl; refine ⟨fun _ => ?_, fun hg => absurd hg (by simp [guardOf, eg])⟩; clear eg; have e53 : ρ (.tmp 53) = _ := hp 3 53 rfl rfl; have hcon := hρ.con; have hfn := hρ.fn; clear hρ hp; unfold OpRun; go_simp; exact hR _ _ (Below.refl _ _) rfl)
                  case o5 => (intro ρ w1 R hρ hb hp hR; have eg : ρ (.tmp 52) = .bool false := hp 2 52 rfl rfl; refine ⟨fun _ => ?_, fun hg => absurd hg (by simp [guardOf, eg])⟩; clear eg; have e54 : ρ (.tmp 54) = _ := hp 4 54 rfl rfl; have hcon := hρ.con; have hfn := hρ.fn; clear hρ hp; unfold OpRun; go_simp; exact hR _ _ (Below.refl _ _) rfl)
                  case o6 => (intro ρ w1 R hρ hb hp hR; have eg : ρ (.tmp 55) = .bool false := hp 5 55 rfl rfl; refine ⟨fun _ => ?_, fun hg => absurd hg (by simp [guardOf, eg])⟩; clear eg; have e1 : ρ (.tmp 1) = .int .i64 4 := hρ.tmp 1 rfl; have hcon := hρ.con; have hfn := hρ.fn; clear hρ hp; unfold OpRun; go_simp; exact hR _ _ (Below.refl _ _) rfl)
                  case o7 => (intro ρ w1 R hρ hb hp hR; have eg : ρ (.tmp 55) = .bool false := hp 5 55 rfl rfl; refine ⟨fun _ => ?_, fun hg => absurd hg (by simp [guardOf, eg])⟩; clear eg; have e56 : ρ (.tmp 56) = _ := hp 6 56 rfl rfl; have hcon := hρ.con; have hfn := hρ.fn; clear hρ hp; unfold OpRun; go_simp; exact hR _ _ (Below.refl _ _) rfl)
                  case o8 => (intro ρ w1 R hρ hb hp hR; have eg : ρ (.tmp 52) = .bool false := hp 2 52 rfl rfl; refine ⟨fun _ => ?_, fun hg => absurd hg (by simp [guardOf, eg])⟩; clear eg; have e55 : ρ (.tmp 55) = _ := hp 5 55 rfl rfl; have e57 : ρ (.tmp 57) = _ := hp 7 57 rfl rfl; have hcon := hρ.con; have hfn := hρ.fn; clear hρ hp; unfold OpRun; go_simp; exact hR _ _ (Below.refl _ _) rfl)
                  case o9 => (intro ρ w1 R hρ hb hp hR; have eg : ρ (.tmp 52) = .bool false := hp 2 52 rfl rfl; refine ⟨fun _ => ?_, fun hg => absurd hg (by simp [guardOf, eg])⟩; clear eg; have e58 : ρ (.tmp 58) = _ := hp 8 58 rfl rfl; have hcon := hρ.con; have hfn := hρ.fn; clear hρ hp; unfold OpRun; go_simp; exact hR _ _ (Below.refl _ _) rfl)
                  case o10 => (intro ρ w1 R hρ hb hp hR; have eg : ρ (.tmp 59) = .bool true := hp 9 59 rfl rfl; refine ⟨fun _ => ?_, fun hg => absurd hg (by simp [guardOf, eg])⟩; clear eg; have e6 : ρ (.tmp 6) = .pointer (some ⟨g6, 0, none⟩) := hρ.tmp 6 rfl; obtain ⟨⟨j0, j1, -, -, -⟩, j2, -⟩ := z6.below hb; have hcon := hρ.con; have hfn := hρ.fn; clear hρ hp; unfold OpRun; go_simp; exact hR _ _ (Below.refl _ _) rfl)
                  case o11 => (intro ρ w1 R hρ hb hp hR; have eg : ρ (.tmp 59) = .bool true := hp 9 59 rfl rfl; refine ⟨fun _ => ?_, fun hg => absurd hg (by simp [guardOf, eg])⟩; clear eg; have e60 : ρ (.tmp 60) = _ := hp 10 60 rfl rfl; have hcon := hρ.con; have hfn := hρ.fn; clear hρ hp; unfold OpRun; go_simp; (refine (SH.out _ _ (HQ6.out _ hb)).mono ?_; rintro e wn ⟨v9, rfl, hv9, hbn⟩; exact ⟨_, rfl, hR _ _ hbn hv9⟩))
                  case o12 => (intro ρ w1 R hρ hb hp hR; have eg : ρ (.tmp 59) = .bool true := hp 9 59 rfl rfl; refine ⟨fun _ => ?_, fun hg => absurd hg (by simp [guardOf, eg])⟩; clear eg; have e9 : ρ (.tmp 9) = .pointer (some ⟨gS, 0, none⟩) := hρ.tmp 9 rfl; obtain ⟨⟨j0, j1, -, -, -⟩, j2, -⟩ := zS2.below hb; have hcon := hρ.con; have hfn := hρ.fn; clear hρ hp; unfold OpRun; go_simp; exact hR _ _ (Below.refl _ _) rfl)
                  case o13 => (intro ρ w1 R hρ hb hp hR; have eg : ρ (.tmp 59) = .bool true := hp 9 59 rfl rfl; refine ⟨fun _ => ?_, fun hg => absurd hg (by simp [guardOf, eg])⟩; clear eg; have e9 : ρ (.tmp 9) = .pointer (some ⟨gS, 0, none⟩) := hρ.tmp 9 rfl; obtain ⟨⟨j0, j1, -, -, -⟩, j2, -⟩ := zS2.below hb; have hcon := hρ.con; have hfn := hρ.fn; clear hρ hp; unfold OpRun; go_simp; exact hR _ _ (Below.refl _ _) rfl)
                  case o14 => (intro ρ w1 R hρ hb hp hR; have eg : ρ (.tmp 59) = .bool true := hp 9 59 rfl rfl; refine ⟨fun _ => ?_, fun hg => absurd hg (by simp [guardOf, eg])⟩; clear eg; have e62 : ρ (.tmp 62) = _ := hp 12 62 rfl rfl; have e63 : ρ (.tmp 63) = _ := hp 13 63 rfl rfl; have hcon := hρ.con; have hfn := hρ.fn; clear hρ hp; unfold OpRun; go_simp; (refine (QS.out _ _ (HQS.out _ hb)).mono ?_; rintro e wn ⟨v9, rfl, hv9, hbn⟩; exact ⟨_, rfl, hR _ _ hbn hv9⟩))
                  case o15 => (intro ρ w1 R hρ hb hp hR; have eg : ρ (.tmp 59) = .bool true := hp 9 59 rfl rfl; refine ⟨fun _ => ?_, fun hg => absurd hg (by simp [guardOf, eg])⟩; clear eg; have f61 := hp 11 61 rfl rfl; have f64 := hp 14 64 rfl rfl; have hcon := hρ.con; have hfn := hρ.fn; clear hρ hp; unfold OpRun; go_simp; (refine (QC2.out _ _ _ f61 f64).mono ?_; rintro e wn ⟨rfl, hbn⟩; exact ⟨_, rfl, hR _ _ hbn rfl⟩))
                  case o16 => (intro ρ w1 R hρ hb hp hR; have eg : ρ (.tmp 59) = .bool true := hp 9 59 rfl rfl; refine ⟨fun _ => ?_, fun hg => absurd hg (by simp [guardOf, eg])⟩; clear eg; have e65 : ρ (.tmp 65) = _ := hp 15 65 rfl rfl; have hcon := hρ.con; have hfn := hρ.fn; clear hρ hp; unfold OpRun; go_simp; exact hR _ _ (Below.refl _ _) rfl)
                  case o17 => (intro ρ w1 R hρ hb hp hR; have eg : ρ (.tmp 52) = .bool false := hp 2 52 rfl rfl; refine ⟨fun _ => ?_, fun hg => absurd hg (by simp [guardOf, eg])⟩; clear eg; have e59 : ρ (.tmp 59) = _ := hp 9 59 rfl rfl; have e66 : ρ (.tmp 66) = _ := hp 16 66 rfl rfl; have hcon := hρ.con; have hfn := hρ.fn; clear hρ hp; unfold OpRun; go_simp; exact hR _ _ (Below.refl _ _) rfl)
                  case o18 => (refine StepOK.plain rfl ?_; intro ρ w1 R hρ hb hp hR; have e52 : ρ (.tmp 52) = _ := hp 2 52 rfl rfl; have e67 : ρ (.tmp 67) = _ := hp 17 67 rfl rfl; have hcon := hρ.con; have hfn := hρ.fn; clear hρ hp; unfold OpRun; go_simp; exact hR _ _ (Below.refl _ _) rfl)
                  case after =>
                    intro u wn hb hf
                    have e68 : u 68 = _ := hf 18 68 (by omega) rfl
                    clear hf
                    simp only [putAll, Act.put, List.setIfInBounds_toArray, List.set_cons_zero, List.set_cons_succ, List.drop_succ_cons, List.drop_zero, List.drop_nil]
                    rw [e68]
                    replace yb2 := below_trans yb2 hb
                    by_cases hcm : 0 < CM
                    · have HF := hid (HU2.out hcm)
                      go_wp2_with (go_at_call 76; (with_reducible refine (RK2.out _).mono ?_); rintro en w8 ⟨rfl, rfl⟩)
                      go_ret2
                      exact ⟨ret2 HF.out.1.symm HF.out.2.symm, yb2⟩
                    · have HF := hid (HD2.out hcm)
                      go_wp2_with (go_at_call 76; (with_reducible refine (RK1.out _).mono ?_); rintro en w8 ⟨rfl, rfl⟩)
                      go_ret2
                      exact ⟨ret2 HF.out.1.symm HF.out.2.symm, yb2⟩
                have HF := hid (HDn.out (show rootB mode CM = false by unfold rootB; simp [c0, c1, c4]))
                have b1 : (mode == 1) = false := beq_eq_false_iff_ne.2 c1
                have b0 : (mode == 0) = false := beq_eq_false_iff_ne.2 c0
                have b4 : (mode == 4) = false := beq_eq_false_iff_ne.2 c4
                clear HU HDn c0 c1 c4
                refine wp_region_grow 19 [50, 51, 52, 53, 54, 55, 56, 57, 58, 59, 60, 61, 62, 63, 64, 65, 66, 67, 68] [Fact.is (.int .i64 mode), Fact.is (.bool false), Fact.is (.bool false), Fact.is (.int .i64 mode), Fact.is (.bool false), Fact.is (.bool false), Fact.is (.int .i64 mode), Fact.is (.bool false), Fact.is (.bool false), Fact.is (.bool false), Fact.any, Fact.any, Fact.any, Fact.any, Fact.any, Fact.any, Fact.any, Fact.is (.bool false), Fact.is (.bool false)] (by kernel_rfl) (by kernel_rfl) ⟨?o0, ?o1, ?o2, ?o3, ?o4, ?o5, ?o6, ?o7, ?o8, ?o9, ?o10, ?o11, ?o12, ?o13, ?o14, ?o15, ?o16, ?o17, ?o18, trivial⟩ ?after
                case o0 => (refine StepOK.plain rfl ?_; intro ρ w1 R hρ hb hp hR; have e1 : ρ (.tmp 1) = .int .i64 mode := hρ.tmp 1 rfl; have hcon := hρ.con; have hfn := hρ.fn; clear hρ hp; unfold OpRun; go_simp; exact hR _ _ (Below.refl _ _) rfl)
                case o1 => (refine StepOK.plain rfl ?_; intro ρ w1 R hρ hb hp hR; have e50 : ρ (.tmp 50) = _ := hp 0 50 rfl rfl; have hcon := hρ.con; have hfn := hρ.fn; clear hρ hp; unfold OpRun; go_simp; exact hR _ _ (Below.refl _ _) rfl)
                case o2 => (refine StepOK.plain rfl ?_; intro ρ w1 R hρ hb hp hR; have e51 : ρ (.tmp 51) = _ := hp 1 51 rfl rfl; have hcon := hρ.con; have hfn := hρ.fn; clear hρ hp; unfold OpRun; go_simp; exact hR _ _ (Below.refl _ _) rfl)
                case o3 => (intro ρ w1 R hρ hb hp hR; have eg : ρ (.tmp 52) = .bool false := hp 2 52 rfl rfl; refine ⟨fun _ => ?_, fun hg => absurd hg (by simp [guardOf, eg])⟩; clear eg; have e1 : ρ (.tmp 1) = .int .i64 mode := hρ.tmp 1 rfl; have hcon := hρ.con; have hfn := hρ.fn; clear hρ hp; unfold OpRun; go_simp; exact hR _ _ (Below.refl _ _) rfl)
                case o4 => (intro ρ w1 R hρ hb hp hR; have eg : ρ (.tmp 52) = .bool false := hp 2 52 rfl rfl; refine ⟨fun _ => ?_, fun hg => absurd hg (by simp [guardOf, eg])⟩; clear eg; have e53 : ρ (.tmp 53) = _ := hp 3 53 rfl rfl; have hcon := hρ.con; have hfn := hρ.fn; clear hρ hp; unfold OpRun; go_simp; exact hR _ _ (Below.refl _ _) rfl)
                case o5 => (intro ρ w1 R hρ hb hp hR; have eg : ρ (.tmp 52) = .bool false := hp 2 52 rfl rfl; refine ⟨fun _ => ?_, fun hg => absurd hg (by simp [guardOf, eg])⟩; clear eg; have e54 : ρ (.tmp 54) = _ := hp 4 54 rfl rfl; have hcon := hρ.con; have hfn := hρ.fn; clear hρ hp; unfold OpRun; go_simp; exact hR _ _ (Below.refl _ _) rfl)
                case o6 => (intro ρ w1 R hρ hb hp hR; have eg : ρ (.tmp 55) = .bool false := hp 5 55 rfl rfl; refine ⟨fun _ => ?_, fun hg => absurd hg (by simp [guardOf, eg])⟩; clear eg; have e1 : ρ (.tmp 1) = .int .i64 mode := hρ.tmp 1 rfl; have hcon := hρ.con; have hfn := hρ.fn; clear hρ hp; unfold OpRun; go_simp; exact hR _ _ (Below.refl _ _) rfl)
                case o7 => (intro ρ w1 R hρ hb hp hR; have eg : ρ (.tmp 55) = .bool false := hp 5 55 rfl rfl; refine ⟨fun _ => ?_, fun hg => absurd hg (by simp [guardOf, eg])⟩; clear eg; have e56 : ρ (.tmp 56) = _ := hp 6 56 rfl rfl; have hcon := hρ.con; have hfn := hρ.fn; clear hρ hp; unfold OpRun; go_simp; exact hR _ _ (Below.refl _ _) rfl)
                case o8 => (intro ρ w1 R hρ hb hp hR; have eg : ρ (.tmp 52) = .bool false := hp 2 52 rfl rfl; refine ⟨fun _ => ?_, fun hg => absurd hg (by simp [guardOf, eg])⟩; clear eg; have e55 : ρ (.tmp 55) = _ := hp 5 55 rfl rfl; have e57 : ρ (.tmp 57) = _ := hp 7 57 rfl rfl; have hcon := hρ.con; have hfn := hρ.fn; clear hρ hp; unfold OpRun; go_simp; exact hR _ _ (Below.refl _ _) rfl)
                case o9 => (intro ρ w1 R hρ hb hp hR; have eg : ρ (.tmp 52) = .bool false := hp 2 52 rfl rfl; refine ⟨fun _ => ?_, fun hg => absurd hg (by simp [guardOf, eg])⟩; clear eg; have e58 : ρ (.tmp 58) = _ := hp 8 58 rfl rfl; have hcon := hρ.con; have hfn := hρ.fn; clear hρ hp; unfold OpRun; go_simp; exact hR _ _ (Below.refl _ _) rfl)
                case o10 => (intro ρ w1 R hρ hb hp hR; have eg : ρ (.tmp 59) = .bool false := hp 9 59 rfl rfl; exact ⟨fun hg => absurd hg (by simp [guardOf, eg]), fun _ => trivial⟩)
                case o11 => (intro ρ w1 R hρ hb hp hR; have eg : ρ (.tmp 59) = .bool false := hp 9 59 rfl rfl; exact ⟨fun hg => absurd hg (by simp [guardOf, eg]), fun _ => trivial⟩)
                case o12 => (intro ρ w1 R hρ hb hp hR; have eg : ρ (.tmp 59) = .bool false := hp 9 59 rfl rfl; exact ⟨fun hg => absurd hg (by simp [guardOf, eg]), fun _ => trivial⟩)
                case o13 => (intro ρ w1 R hρ hb hp hR; have eg : ρ (.tmp 59) = .bool false := hp 9 59 rfl rfl; exact ⟨fun hg => absurd hg (by simp [guardOf, eg]), fun _ => trivial⟩)
                case o14 => (intro ρ w1 R hρ hb hp hR; have eg : ρ (.tmp 59) = .bool false := hp 9 59 rfl rfl; exact ⟨fun hg => absurd hg (by simp [guardOf, eg]), fun _ => trivial⟩)
                case o15 => (intro ρ w1 R hρ hb hp hR; have eg : ρ (.tmp 59) = .bool false := hp 9 59 rfl rfl; exact ⟨fun hg => absurd hg (by simp [guardOf, eg]), fun _ => trivial⟩)
                case o16 => (intro ρ w1 R hρ hb hp hR; have eg : ρ (.tmp 59) = .bool false := hp 9 59 rfl rfl; exact ⟨fun hg => absurd hg (by simp [guardOf, eg]), fun _ => trivial⟩)
                case o17 => (intro ρ w1 R hρ hb hp hR; have eg : ρ (.tmp 52) = .bool false := hp 2 52 rfl rfl; refine ⟨fun _ => ?_, fun hg => absurd hg (by simp [guardOf, eg])⟩; clear eg; have e59 : ρ (.tmp 59) = _ := hp 9 59 rfl rfl; have f66 := hp 16 66 rfl rfl; have hcon := hρ.con; have hfn := hρ.fn; clear hρ hp; unfold OpRun; go_simp; exact hR _ _ (Below.refl _ _) rfl)
                case o18 => (refine StepOK.plain rfl ?_; intro ρ w1 R hρ hb hp hR; have e52 : ρ (.tmp 52) = _ := hp 2 52 rfl rfl; have e67 : ρ (.tmp 67) = _ := hp 17 67 rfl rfl; have hcon := hρ.con; have hfn := hρ.fn; clear hρ hp; unfold OpRun; go_simp; exact hR _ _ (Below.refl _ _) rfl)
                case after =>
                  intro u wn hb hf
                  have e68 : u 68 = _ := hf 18 68 (by omega) rfl
                  clear hf
                  simp only [putAll, Act.put, List.setIfInBounds_toArray, List.set_cons_zero, List.set_cons_succ, List.drop_succ_cons, List.drop_zero, List.drop_nil]
                  rw [e68]
                  replace yb2 := below_trans yb2 hb
                  go_wp2_with (go_at_call 76; (with_reducible refine (RK1.out _).mono ?_); rintro en w8 ⟨rfl, rfl⟩)
                  go_ret2
                  exact ⟨ret2 HF.out.1.symm HF.out.2.symm, yb2⟩
        · go_enter Tryd.func16, Tryd.ntmps16
          go_wp2_with (first
            | (go_at_call 66; (with_reducible refine (NX.out _).mono ?_); rintro en w1 ⟨rfl, rfl⟩)
            | (go_at_call 67; (with_reducible refine (IX.out _).mono ?_); rintro en w1 ⟨rfl, rfl⟩)
            | (go_at_call 34; (with_reducible refine (ZX.out _).mono ?_); rintro en w1 ⟨rfl, rfl⟩)
            | (go_at_call 65; (with_reducible refine (MX.out _).mono ?_); rintro en w1 ⟨rfl, rfl⟩)
            | (go_at_call 68; (with_reducible refine (rQuiet_any _).mono ?_); rintro en w1 ⟨rfl, rfl⟩)
            )
          go_ret2
          refine ⟨ret2 ?_ ?_, Below.refl _ _⟩
          · rw [HK.out]
            simp only [kR, sqX, Bool.true_or, Bool.or_true, Bool.false_or, Bool.or_false, Bool.true_and, Bool.and_true, Bool.false_and, Bool.and_false, Bool.not_true, Bool.not_false, if_true, if_false, *] <;> (first | rfl | simp)
          · rw [HK.out]
            simp only [kR, sqB, Bool.true_or, Bool.or_true, Bool.false_or, Bool.or_false, Bool.true_and, Bool.and_true, Bool.false_and, Bool.and_false, Bool.not_true, Bool.not_false, if_true, if_false, *] <;> (first | rfl | simp)
      · go_enter Tryd.func16, Tryd.ntmps16
        go_wp2_with (first
          | (go_at_call 66; (with_reducible refine (NX.out _).mono ?_); rintro en w1 ⟨rfl, rfl⟩)
          | (go_at_call 67; (with_reducible refine (IX.out _).mono ?_); rintro en w1 ⟨rfl, rfl⟩)
          | (go_at_call 34; (with_reducible refine (ZX.out _).mono ?_); rintro en w1 ⟨rfl, rfl⟩)
          | (go_at_call 65; (with_reducible refine (MX.out _).mono ?_); rintro en w1 ⟨rfl, rfl⟩)
          | (go_at_call 68; (with_reducible refine (rQuiet_any _).mono ?_); rintro en w1 ⟨rfl, rfl⟩)
          )
        go_ret2
        refine ⟨ret2 ?_ ?_, Below.refl _ _⟩
        · rw [HK.out]
          simp only [kR, sqX, Bool.true_or, Bool.or_true, Bool.false_or, Bool.or_false, Bool.true_and, Bool.and_true, Bool.false_and, Bool.and_false, Bool.not_true, Bool.not_false, if_true, if_false, *] <;> (first | rfl | simp)
        · rw [HK.out]
          simp only [kR, sqB, Bool.true_or, Bool.or_true, Bool.false_or, Bool.or_false, Bool.true_and, Bool.and_true, Bool.false_and, Bool.and_false, Bool.not_true, Bool.not_false, if_true, if_false, *] <;> (first | rfl | simp)
    · obtain rfl : ix = false := by
        cases ix
        · rfl
        · exact absurd (XZ.out rfl) (by simp)
      cases sx
      · go_enter Tryd.func16, Tryd.ntmps16
        go_wp2_with (first
          | (go_at_call 66; (with_reducible refine (NX.out _).mono ?_); rintro en w1 ⟨rfl, rfl⟩)
          | (go_at_call 67; (with_reducible refine (IX.out _).mono ?_); rintro en w1 ⟨rfl, rfl⟩)
          | (go_at_call 34; (with_reducible refine (ZX.out _).mono ?_); rintro en w1 ⟨rfl, rfl⟩)
          | (go_at_call 65; (with_reducible refine (MX.out _).mono ?_); rintro en w1 ⟨rfl, rfl⟩)
          | (go_at_call 68; (with_reducible refine (rQuiet_any _).mono ?_); rintro en w1 ⟨rfl, rfl⟩)
          )
        go_ret2
        refine ⟨ret2 ?_ ?_, Below.refl _ _⟩
        · rw [HK.out]
          simp only [kR, sqX, Bool.true_or, Bool.or_true, Bool.false_or, Bool.or_false, Bool.true_and, Bool.and_true, Bool.false_and, Bool.and_false, Bool.not_true, Bool.not_false, if_true, if_false, *] <;> (first | rfl | simp)
        · rw [HK.out]
          simp only [kR, sqB, Bool.true_or, Bool.or_true, Bool.false_or, Bool.or_false, Bool.true_and, Bool.and_true, Bool.false_and, Bool.and_false, Bool.not_true, Bool.not_false, if_true, if_false, *] <;> (first | rfl | simp)
      · go_enter Tryd.func16, Tryd.ntmps16
        go_wp2_with (first
          | (go_at_call 66; (with_reducible refine (NX.out _).mono ?_); rintro en w1 ⟨rfl, rfl⟩)
          | (go_at_call 67; (with_reducible refine (IX.out _).mono ?_); rintro en w1 ⟨rfl, rfl⟩)
          | (go_at_call 34; (with_reducible refine (ZX.out _).mono ?_); rintro en w1 ⟨rfl, rfl⟩)
          | (go_at_call 65; (with_reducible refine (MX.out _).mono ?_); rintro en w1 ⟨rfl, rfl⟩)
          | (go_at_call 68; (with_reducible refine (rQuiet_any _).mono ?_); rintro en w1 ⟨rfl, rfl⟩)
          )
        go_ret2
        refine ⟨ret2 ?_ ?_, Below.refl _ _⟩
        · rw [HK.out]
          simp only [kR, sqX, Bool.true_or, Bool.or_true, Bool.false_or, Bool.or_false, Bool.true_and, Bool.and_true, Bool.false_and, Bool.and_false, Bool.not_true, Bool.not_false, if_true, if_false, *] <;> (first | rfl | simp)
        · rw [HK.out]
          simp only [kR, sqB, Bool.true_or, Bool.or_true, Bool.false_or, Bool.or_false, Bool.true_and, Bool.and_true, Bool.false_and, Bool.and_false, Bool.not_true, Bool.not_false, if_true, if_false, *] <;> (first | rfl | simp)
  · go_enter Tryd.func16, Tryd.ntmps16
    go_wp2_with (first
      | (go_at_call 66; (with_reducible refine (NX.out _).mono ?_); rintro en w1 ⟨rfl, rfl⟩)
      | (go_at_call 67; (with_reducible refine (IX.out _).mono ?_); rintro en w1 ⟨rfl, rfl⟩)
      | (go_at_call 34; (with_reducible refine (ZX.out _).mono ?_); rintro en w1 ⟨rfl, rfl⟩)
      | (go_at_call 65; (with_reducible refine (MX.out _).mono ?_); rintro en w1 ⟨rfl, rfl⟩)
      | (go_at_call 68; (with_reducible refine (rQuiet_any _).mono ?_); rintro en w1 ⟨rfl, rfl⟩)
      )
    go_ret2
    refine ⟨ret2 ?_ ?_, Below.refl _ _⟩
    · rw [HK.out]
      simp only [kR, sqX, Bool.true_or, Bool.or_true, Bool.false_or, Bool.or_false, Bool.true_and, Bool.and_true, Bool.false_and, Bool.and_false, Bool.not_true, Bool.not_false, if_true, if_false, *] <;> (first | rfl | simp)
    · rw [HK.out]
      simp only [kR, sqB, Bool.true_or, Bool.or_true, Bool.false_or, Bool.or_false, Bool.true_and, Bool.and_true, Bool.false_and, Bool.and_false, Bool.not_true, Bool.not_false, if_true, if_false, *] <;> (first | rfl | simp)
end Go.Proofs.YtincggkdlegjjaaDoor
set_option linter.unusedVariables false
set_option linter.unusedSimpArgs false
namespace Go.Proofs.YtincggkdlegjjaaDoor
open Go.RowKit Go.Ulp
set_option linter.unusedVariables false
set_option linter.unusedSimpArgs false
set_option maxHeartbeats 2000000
set_option maxRecDepth 100000
theorem ent_quot1 (caps : Array Value) (w : World) : Sem.run Tryd.prog (callFunc 13 caps) w = .ok (.enter 13 caps) w := by
  simp [callFunc, go_sem, Tryd.func13, Tryd.f13]
theorem ent_quot2 (caps : Array Value) (w : World) : Sem.run Tryd.prog (callFunc 15 caps) w = .ok (.enter 15 caps) w := by
  simp [callFunc, go_sem, Tryd.func15, Tryd.f15]
theorem quotC1_any (g0 g1 g2 : Nat) (x y : Int) (hx : 0 ≤ x ∧ x < 18446744073709551616) (hy : 0 ≤ y ∧ y < 18446744073709551616) (mode : Int) (m0 : 0 ≤ mode) (m1 : mode ≤ 4) (w : World) (c0 : CV w g0 (.int .u64 x)) (c1 : CV w g1 (.int .u64 y)) (c2 : CV w g2 (.int .i64 mode)) :
    Calls Tryd.prog 13 #[.pointer (some ⟨g0, 0, none⟩), .pointer (some ⟨g1, 0, none⟩), .pointer (some ⟨g2, 0, none⟩)] w (RetX w (dX (kindQ x y) (sgx x y) (quM x y) (quE x y) mode) (dC (kindQ x y) (sgx x y) (quM x y) (quE x y) mode)) := by
  have PO := hid (fun w => quotientOf_any x y hx hy mode m0 m1 w)
  generalize dX (kindQ x y) (sgx x y) (quM x y) (quE x y) mode = sx at *
  generalize dC (kindQ x y) (sgx x y) (quM x y) (quE x y) mode = sc at *
  obtain ⟨k0, f0⟩ := c0
  obtain ⟨k1, f1⟩ := c1
  obtain ⟨k2, f2⟩ := c2
  clear hx hy m0 m1
  go_enter Tryd.func13, Tryd.ntmps13
  go_wp2_with (go_at_call 14; (with_reducible refine (PO.out _).mono ?_); rintro en w2 ⟨rfl, hb2⟩)
  refine bodyPost_ret (by simp [results, Tryd.results13, go_sem]; try rfl) rfl ?_
  exact ⟨rfl, hb2⟩
theorem quotC2_any (g0 g2 : Nat) (x : Int) (hx : 0 ≤ x ∧ x < 18446744073709551616) (mode : Int) (m0 : 0 ≤ mode) (m1 : mode ≤ 4) (w : World) (c0 : CV w g0 (.int .u64 x)) (c2 : CV w g2 (.int .i64 mode)) :
    Calls Tryd.prog 15 #[.pointer (some ⟨g0, 0, none⟩), .pointer (some ⟨g2, 0, none⟩)] w (RetX w (sqX (kindR x) x (roM x) (roE x) mode) (sqB (kindR x) (roM x) (roE x) mode)) := by
  have FO := hid (fun w => rootOf_any x hx mode m0 m1 w)
  generalize sqX (kindR x) x (roM x) (roE x) mode = sx at *
  generalize sqB (kindR x) (roM x) (roE x) mode = sc at *
  obtain ⟨k0, f0⟩ := c0
  obtain ⟨k2, f2⟩ := c2
  clear hx m0 m1
  go_enter Tryd.func15, Tryd.ntmps15
  go_wp2_with (go_at_call 16; (with_reducible refine (FO.out _).mono ?_); rintro en w2 ⟨rfl, hb2⟩)
  refine bodyPost_ret (by simp [results, Tryd.results15, go_sem]; try rfl) rfl ?_
  exact ⟨rfl, hb2⟩
theorem quotSays_walk (x y mode : Int) (hx : 0 ≤ x ∧ x < 18446744073709551616) (hy : 0 ≤ y ∧ y < 18446744073709551616) (hm : -9223372036854775808 ≤ mode ∧ mode ≤ 9223372036854775807) (W : World) (hT : Tab 0 W) :
    Calls Tryd.prog 3 #[.int .u64 x, .int .u64 y, .int .i64 mode] W fun e w' => e = .returned (.bool true) ∧ Below W.heap.size W w' := by
  have AD := hid (fun w t => div_any x y hx hy mode w t)
  have SB := hid (fun w t => sqrt_any x hx mode w t)
  have TD1 := hid (fun caps w hC => told_md (dX (kindQ x y) (sgx x y) (quM x y) (quE x y) mode) (dC (kindQ x y) (sgx x y) (quM x y) (quE x y) mode) mode 13 caps w (ent_quot1 caps) hC)
  have TD2 := hid (fun caps w hC => told_md (sqX (kindR x) x (roM x) (roE x) mode) (sqB (kindR x) (roM x) (roE x) mode) mode 15 caps w (ent_quot2 caps) hC)
  have C1 := hid (fun g0 g1 g2 w (hk : knownB mode = true) c0 c1 c2 => quotC1_any g0 g1 g2 x y hx hy mode (of_decide_eq_true hk).1 (of_decide_eq_true hk).2 w c0 c1 c2)
  have C2 := hid (fun g0 g2 w (hk : knownB mode = true) c0 c2 => quotC2_any g0 g2 x hx mode (of_decide_eq_true hk).1 (of_decide_eq_true hk).2 w c0 c2)
  have HT := hid hT
  have hmf : ∀ fn first cap w, (Instr.makeFunc fn first cap).run Tryd.prog w = .ok (.func fn first cap) w := fun _ _ _ _ => rfl
  obtain ⟨W0, hW0⟩ : ∃ X, X = ((W.alloc (.cells #[.int .u64 x] 22)).alloc (.cells #[.int .u64 y] 22)).alloc (.cells #[.int .i64 mode] 3) := ⟨_, rfl⟩
  have yb0 : Below W.heap.size W W0 := by rw [hW0]; (repeat' (first | (with_reducible assumption) | (with_reducible exact Below.refl _ _) | (with_reducible refine below_al ?_ _) | (with_reducible refine below_drewN ?_ _) | (with_reducible refine Below.drew ?_) | (with_reducible refine Below.alloc ?_ ?_ _) | (with_reducible refine Below.setCell ?_ ?_ _) | (refine below_trans ?_ (by assumption)) | go_size))
  have c0 : CV W0 W.heap.size (.int .u64 x) := by rw [hW0]; exact (CV.made.below (below_alloc _ _)).below (below_alloc _ _)
  have c1 : CV W0 (W.heap.size + 1) (.int .u64 y) := by
    have h := (CV.made (w := W.alloc (.cells #[.int .u64 x] 22)) (v := .int .u64 y) (t := 22)).below (below_alloc _ (.cells #[.int .i64 mode] 3))
    rw [hW0]; simpa using h
  have c3 : CV W0 (W.heap.size + 1 + 1) (.int .i64 mode) := by
    have h := CV.made (w := (W.alloc (.cells #[.int .u64 x] 22)).alloc (.cells #[.int .u64 y] 22)) (v := .int .i64 mode) (t := 3)
    rw [hW0]; simpa using h
  obtain ⟨X1, hX1⟩ : ∃ X, X = mdX mode (dX (kindQ x y) (sgx x y) (quM x y) (quE x y) mode) := ⟨_, rfl⟩
  obtain ⟨K1, hK1⟩ : ∃ X, X = mdC mode (dC (kindQ x y) (sgx x y) (quM x y) (quE x y) mode) := ⟨_, rfl⟩
  obtain ⟨X2, hX2⟩ : ∃ X, X = mdX mode (sqX (kindR x) x (roM x) (roE x) mode) := ⟨_, rfl⟩
  obtain ⟨K2, hK2⟩ : ∃ X, X = mdC mode (sqB (kindR x) (roM x) (roE x) mode) := ⟨_, rfl⟩
  obtain ⟨ER, hER⟩ : ∃ X, X = mdE mode := ⟨_, rfl⟩
  rw [← hX1, ← hK1, ← hER] at AD TD1
  rw [← hX2, ← hK2, ← hER] at SB TD2
  generalize dX (kindQ x y) (sgx x y) (quM x y) (quE x y) mode = sx1 at *
  generalize dC (kindQ x y) (sgx x y) (quM x y) (quE x y) mode = sc1 at *
  generalize sqX (kindR x) x (roM x) (roE x) mode = sx2 at *
  generalize sqB (kindR x) (roM x) (roE x) mode = sc2 at *
  clear hX1 hK1 hX2 hK2 hER hT
  obtain ⟨x0, x1⟩ := hx
  obtain ⟨y0, y1⟩ := hy
  obtain ⟨mm0, mm1⟩ := hm
  go_enter Tryd.func3, Tryd.ntmps3
  go_upto_region 1 with fail
  rw [← hW0]
  obtain ⟨k0, f0⟩ := id c0
  obtain ⟨k1, f1⟩ := id c1
  obtain ⟨k3, f3⟩ := id c3
  clear hW0
  go_upto_region 2 with (go_at_call 10; (with_reducible refine (AD.out _ (HT.out.below yb0)).mono ?_); rintro en w1 ⟨rfl, hb1⟩)
  replace c0 := c0.below hb1
  replace c1 := c1.below hb1
  replace c3 := c3.below hb1
  replace yb0 := below_trans yb0 hb1
  clear k0 f0 k1 f1 k3 f3 hb1
  obtain ⟨k0, f0⟩ := id c0
  obtain ⟨k3, f3⟩ := id c3
  go_upto_region 3 with (go_at_call 11; (with_reducible refine (SB.out _ (HT.out.below yb0)).mono ?_); rintro en w2 ⟨rfl, hb2⟩)
  have E0 := hid (c0.below hb2)
  have E1 := hid (c1.below hb2)
  have E3 := hid (c3.below hb2)
  replace yb0 := below_trans yb0 hb2
  clear k0 f0 k3 f3 hb2 c0 c1 c3 AD SB
  obtain ⟨k3, f3⟩ := E3.out
  go_wp2_with (first
    | (go_at_call 12; (with_reducible refine (TD1.out _ _ (fun hk w' hb' => C1.out _ _ _ w' hk (E0.out.below hb') (E1.out.below hb') (E3.out.below hb'))).mono ?_); rintro en w3 ⟨rfl, hb3⟩; obtain ⟨l3, m3⟩ := E3.out.below hb3)
    | (go_at_call 12; (with_reducible refine (TD2.out _ _ (fun hk w' hb' => C2.out _ _ w' hk ((E0.out.below hb3).below hb') ((E3.out.below hb3).below hb'))).mono ?_); rintro en w4 ⟨rfl, hb4⟩))
  go_ret
  exact ⟨rfl, below_trans (below_trans yb0 hb3) hb4⟩
end Go.Proofs.YtincggkdlegjjaaDoor
