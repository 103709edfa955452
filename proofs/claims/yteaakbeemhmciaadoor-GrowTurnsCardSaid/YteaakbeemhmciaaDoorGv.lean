/- Is a number too far from 1? -/
import Derived.Test.YteaakbeemhmciaaDoorGu
import Derived.Test.YteaakbeemhmciaaDoorRr5
set_option linter.unusedVariables false
set_option linter.unusedSimpArgs false
namespace Go.Ulp
open Go.RowKit
theorem rkD_cmp (a b : Int) : cmpD (rkD a) (rkD b) = cmpI a b := by
  unfold rkD
  rw [← rvs_cmp a b, ← cmp_nrm (rvs a) (-1074) (rvs b) (-1074) (-1074) (.inl (by omega)) (.inl (by omega)), sc_self, sc_self]
theorem rkD_low : nrm 1 (-400) = rkD 2805742567851819008 := rkD_pow 622 1074 (-400) (by omega)
theorem rkD_high : nrm 1 400 = rkD 6408622269748215808 := rkD_pow 1422 1074 400 (by omega)
theorem absD_fv (x : Int) (h0 : 0 ≤ x) (h1 : x < 18446744073709551616) : absD (fv x) = rkD (absOf x) := by
  rw [fv_rank x h0 h1, ← nrm_natAbs]
  unfold rkD
  have hn : 0 ≤ absOf x := by unfold absOf; omega
  obtain ⟨m, hm⟩ := Int.eq_ofNat_of_zero_le hn
  have e : ((rvs (rankOf x)).natAbs : Int) = rvs (absOf x) := by
    unfold rankOf
    unfold absOf at hm ⊢
    rw [hm]
    split
    · rw [rvs_neg, Int.natAbs_neg, rvs_nat]; rfl
    · rw [rvs_nat]; rfl
  rw [e]
theorem tooB_cmp (x : Int) (h0 : 0 ≤ x) (h1 : x < 18446744073709551616) :
    tooB x = (decide (absOf x ≠ 0) && (decide (cmpD (absD (fv x)) (nrm 1 (-400)) < 0) || decide (0 < cmpD (absD (fv x)) (nrm 1 400)))) := by
  rw [absD_fv x h0 h1, rkD_low, rkD_high, rkD_cmp, rkD_cmp]
  unfold tooB
  have e1 : decide (cmpI (absOf x) 2805742567851819008 < 0) = decide (absOf x < 2805742567851819008) := by
    rw [decide_eq_decide]; unfold cmpI; split <;> (try split) <;> omega
  have e2 : decide (0 < cmpI (absOf x) 6408622269748215808) = decide (6408622269748215808 < absOf x) := by
    rw [decide_eq_decide]; unfold cmpI; split <;> (try split) <;> omega
  rw [e1, e2]
theorem isZ_class (x : Int) (h0 : 0 ≤ x) (h1 : x < 18446744073709551616) : (classOf x == 1) = decide (absOf x = 0) := by
  rw [Bool.eq_iff_iff, beq_iff_eq, decide_eq_true_eq]
  unfold classOf absOf expOf fracOf
  split
  · split <;> omega
  · split
    · omega
    · split <;> omega
end Go.Ulp
namespace Go.Proofs.YteaakbeemhmciaaDoor
open Go.RowKit Go.Ulp
set_option linter.unusedVariables false
set_option linter.unusedSimpArgs false
set_option maxHeartbeats 1000000
set_option maxRecDepth 100000
theorem isZero_any (x : Int) (h0 : 0 ≤ x) (h1 : x < 18446744073709551616) (w : World) :
    Calls Tryd.prog 75 #[.int .u64 x] w fun e w' => e = .returned (.bool (decide (absOf x = 0))) ∧ w = w' := by
  have CL := hid (fun w => classOf_any x h0 h1 w)
  have HC := hid (isZ_class x h0 h1)
  generalize classOf x = c at *
  go_enter Tryd.func75, Tryd.ntmps75
  go_wp2_with (go_at_call 22; (with_reducible refine (CL.out _).mono ?_); rintro en w1 ⟨rfl, rfl⟩)
  go_ret
  exact ⟨ret_bool HC.out, rfl⟩
theorem tooFar_any (x : Int) (h0 : 0 ≤ x) (h1 : x < 18446744073709551616) (w : World) :
    Calls Tryd.prog 36 #[.int .u64 x] w fun e w' => e = .returned (.bool (tooB x)) ∧ Below w.heap.size w w' := by
  have QV := hid (fun w => qval_any x h0 h1 w)
  have QAb := hid (fun v w h => qabs_any v (fv x) 1200 1100 w h (by omega) (by omega))
  have IZ := hid (fun w => isZero_any x h0 h1 w)
  have HTB0 := tooB_cmp x h0 h1
  have ZN1 := hid (zN_any 1 (by omega))
  have QL1 := hid (fun a c w h => qmake_any a c 1 (-400) 2 400 w h (by decide) (by omega) (by omega) (by omega))
  have QH1 := hid (fun a c w h => qmake_any a c 1 400 2 400 w h (by decide) (by omega) (by omega) (by omega))
  have QC1 := hid (fun v u w k0 k1 => qcmp_any v u (absD (fv x)) (nrm 1 (-400)) 1200 1100 (2 + 400) 400 w k0 k1 (by omega) (by omega) (by omega) (by omega))
  have QC2 := hid (fun v u w k0 k1 => qcmp_any v u (absD (fv x)) (nrm 1 400) 1200 1100 (2 + 400) 400 w k0 k1 (by omega) (by omega) (by omega) (by omega))
  generalize cmpD (absD (fv x)) (nrm 1 (-400)) = CL at *
  generalize cmpD (absD (fv x)) (nrm 1 400) = CH at *
  generalize absD (fv x) = AX at *
  generalize fv x = FX at *
  generalize absOf x = m0 at *
  generalize tooB x = TB at *
  have hne : (decide (m0 ≠ 0)) = !decide (m0 = 0) := by simp
  rw [hne] at HTB0
  go_enter Tryd.func36, Tryd.ntmps36
  go_upto_region 1 with fail
  go_cut [3] (fun s1 wx => ∃ (g : Nat) (y : Int) (m : Nat) (ay : Option Addr) (cy : Nat), s1 = .pointer (some ⟨g, 0, none⟩) ∧ QL 42 wx g (zneg y) (.slice ay (zl y).length cy) (m : Int) ∧ QD 3 wx AX 1200 1100 (.agg #[.bool (zneg y), .slice ay (zl y).length cy, .int .i64 (m : Int)]) ∧ Below w.heap.size w wx)
  case first =>
    go_wp2_with (first
      | (go_at_call 25; (with_reducible refine (QV.out _).mono ?_); rintro en w1 ⟨v1, rfl, hv1, hb1⟩)
      | (go_at_call 121; (with_reducible refine (QAb.out _ _ hv1).mono ?_); rintro en w2 ⟨v2, rfl, ⟨y, m, ay, cy, rfl, hNy, hDy⟩, hb2⟩))
    go_meet
    exact ⟨_, y, m, ay, cy, rfl, QL.made rfl, ⟨y, m, ay, cy, rfl, hNy.below (below_alloc _ _), hDy⟩, by (repeat' (first | (with_reducible assumption) | (with_reducible exact Below.refl _ _) | (with_reducible refine below_al ?_ _) | (with_reducible refine below_drewN ?_ _) | (with_reducible refine Below.drew ?_) | (with_reducible refine Below.alloc ?_ ?_ _) | (with_reducible refine Below.setCell ?_ ?_ _) | (refine below_trans ?_ (by assumption)) | go_size))⟩
  case rest =>
  obtain ⟨g, y, m, ay, cy, rfl, zQ, hQ, yb⟩ := hcut
  have HVQ := hid (fun w' (hb : Below wc.heap.size wc w') => hQ.below hb)
  clear hQ QV QAb hne
  cases hz : decide (m0 = 0)
  · rw [hz] at HTB0 IZ
    cases hlo : decide (CL < 0)
    · have HTB := hid (show TB = decide (0 < CH) by rw [HTB0, hlo]; simp)
      have hlo2 : ¬ CL < 0 := of_decide_eq_false hlo
      clear HTB0 hz hlo
      go_upto_region 2 with fail
      refine wp_region_grow 18 [7, 8, 9, 10, 11, 12, 13, 14, 15, 16, 17, 18, 19, 20, 21, 22, 23, 2] [Fact.is (.int .u64 x), Fact.is (.bool false), Fact.is (.bool true), Fact.is (.bool true), Fact.is (.agg #[.bool (zneg y), .slice ay (zl y).length cy, .int .i64 (m : Int)]), Fact.z 3 1, Fact.q 3 (nrm 1 (-400)) (2 + 400) 400, Fact.is (.int .i64 CL), Fact.is (.bool false), Fact.is (.bool false), Fact.is (.agg #[.bool (zneg y), .slice ay (zl y).length cy, .int .i64 (m : Int)]), Fact.z 3 1, Fact.q 3 (nrm 1 400) (2 + 400) 400, Fact.is (.int .i64 CH), Fact.is (.bool (decide (0 < CH))), Fact.is (.bool (decide (0 < CH))), Fact.is (.bool (decide (0 < CH))), Fact.is (.bool (decide (0 < CH)))] (by kernel_rfl) (by kernel_rfl) ⟨?o0, ?o1, ?o2, ?o3, ?o4, ?o5, ?o6, ?o7, ?o8, ?o9, ?o10, ?o11, ?o12, ?o13, ?o14, ?o15, ?o16, ?o17, trivial⟩ ?after
      case o0 => (refine StepOK.plain rfl ?_; intro ρ w1 R hρ hb hp hR; have e0 : ρ (.tmp 0) = .int .u64 x := hρ.tmp 0 rfl; have hcon := hρ.con; have hfn := hρ.fn; clear hρ hp; unfold OpRun; go_simp; exact hR _ _ (Below.refl _ _) rfl)
      case o1 => (refine StepOK.plain rfl ?_; intro ρ w1 R hρ hb hp hR; have e7 : ρ (.tmp 7) = _ := hp 0 7 rfl rfl; have hcon := hρ.con; have hfn := hρ.fn; clear hρ hp; unfold OpRun; go_simp; (refine (IZ.out _).mono ?_; rintro e wn ⟨rfl, rfl⟩; exact ⟨_, rfl, hR _ _ (Below.refl _ _) rfl⟩))
      case o2 => (refine StepOK.plain rfl ?_; intro ρ w1 R hρ hb hp hR; have e8 : ρ (.tmp 8) = _ := hp 1 8 rfl rfl; have hcon := hρ.con; have hfn := hρ.fn; clear hρ hp; unfold OpRun; go_simp; exact hR _ _ (Below.refl _ _) rfl)
      case o3 => (refine StepOK.plain rfl ?_; intro ρ w1 R hρ hb hp hR; have e9 : ρ (.tmp 9) = _ := hp 2 9 rfl rfl; have hcon := hρ.con; have hfn := hρ.fn; clear hρ hp; unfold OpRun; go_simp; exact hR _ _ (Below.refl _ _) rfl)
      case o4 => (intro ρ w1 R hρ hb hp hR; have eg : ρ (.tmp 10) = .bool true := hp 3 10 rfl rfl; refine ⟨fun _ => ?_, fun hg => absurd hg (by simp [guardOf, eg])⟩; clear eg; have e3 : ρ (.tmp 3) = .pointer (some ⟨g, 0, none⟩) := hρ.tmp 3 rfl; obtain ⟨⟨j0, j1, -, -, -⟩, j2, -⟩ := zQ.below hb; have hcon := hρ.con; have hfn := hρ.fn; clear hρ hp; unfold OpRun; go_simp; exact hR _ _ (Below.refl _ _) rfl)
      case o5 => (intro ρ w1 R hρ hb hp hR; have eg : ρ (.tmp 10) = .bool true := hp 3 10 rfl rfl; refine ⟨fun _ => ?_, fun hg => absurd hg (by simp [guardOf, eg])⟩; clear eg; skip; have hcon := hρ.con; have hfn := hρ.fn; clear hρ hp; unfold OpRun; go_simp; (refine (ZN1.out _).mono ?_; rintro e wn ⟨az, cz, rfl, hz9, hbn⟩; exact ⟨_, rfl, hR _ _ hbn ⟨az, cz, rfl, hz9⟩⟩))
      case o6 => (intro ρ w1 R hρ hb hp hR; have eg : ρ (.tmp 10) = .bool true := hp 3 10 rfl rfl; refine ⟨fun _ => ?_, fun hg => absurd hg (by simp [guardOf, eg])⟩; clear eg; have f12 := hp 5 12 rfl rfl; obtain ⟨a12, c12, e12, hz12⟩ := f12; have hcon := hρ.con; have hfn := hρ.fn; clear hρ hp; unfold OpRun; go_simp; (skip; refine (QL1.out _ _ _ hz12).mono ?_; rintro e wn ⟨v9, rfl, hv9, hbn⟩; exact ⟨_, rfl, hR _ _ hbn hv9⟩))
      case o7 => (intro ρ w1 R hρ hb hp hR; have eg : ρ (.tmp 10) = .bool true := hp 3 10 rfl rfl; refine ⟨fun _ => ?_, fun hg => absurd hg (by simp [guardOf, eg])⟩; clear eg; have e11 : ρ (.tmp 11) = _ := hp 4 11 rfl rfl; have f13 := hp 6 13 rfl rfl; have hcon := hρ.con; have hfn := hρ.fn; clear hρ hp; unfold OpRun; go_simp; (refine (QC1.out _ _ _ (HVQ.out _ hb) f13).mono ?_; rintro e wn ⟨rfl, hbn⟩; exact ⟨_, rfl, hR _ _ hbn rfl⟩))
      case o8 => (intro ρ w1 R hρ hb hp hR; have eg : ρ (.tmp 10) = .bool true := hp 3 10 rfl rfl; refine ⟨fun _ => ?_, fun hg => absurd hg (by simp [guardOf, eg])⟩; clear eg; have e14 : ρ (.tmp 14) = _ := hp 7 14 rfl rfl; have hcon := hρ.con; have hfn := hρ.fn; clear hρ hp; unfold OpRun; go_simp; exact hR _ _ (Below.refl _ _) rfl)
      case o9 => (intro ρ w1 R hρ hb hp hR; have eg : ρ (.tmp 10) = .bool true := hp 3 10 rfl rfl; refine ⟨fun _ => ?_, fun hg => absurd hg (by simp [guardOf, eg])⟩; clear eg; have e15 : ρ (.tmp 15) = _ := hp 8 15 rfl rfl; have hcon := hρ.con; have hfn := hρ.fn; clear hρ hp; unfold OpRun; go_simp; exact hR _ _ (Below.refl _ _) rfl)
      case o10 => (intro ρ w1 R hρ hb hp hR; have eg : ρ (.tmp 16) = .bool false := hp 9 16 rfl rfl; refine ⟨fun _ => ?_, fun hg => absurd hg (by simp [guardOf, eg])⟩; clear eg; have e3 : ρ (.tmp 3) = .pointer (some ⟨g, 0, none⟩) := hρ.tmp 3 rfl; obtain ⟨⟨j0, j1, -, -, -⟩, j2, -⟩ := zQ.below hb; have hcon := hρ.con; have hfn := hρ.fn; clear hρ hp; unfold OpRun; go_simp; exact hR _ _ (Below.refl _ _) rfl)
      case o11 => (intro ρ w1 R hρ hb hp hR; have eg : ρ (.tmp 16) = .bool false := hp 9 16 rfl rfl; refine ⟨fun _ => ?_, fun hg => absurd hg (by simp [guardOf, eg])⟩; clear eg; skip; have hcon := hρ.con; have hfn := hρ.fn; clear hρ hp; unfold OpRun; go_simp; (refine (ZN1.out _).mono ?_; rintro e wn ⟨az, cz, rfl, hz9, hbn⟩; exact ⟨_, rfl, hR _ _ hbn ⟨az, cz, rfl, hz9⟩⟩))
      case o12 => (intro ρ w1 R hρ hb hp hR; have eg : ρ (.tmp 16) = .bool false := hp 9 16 rfl rfl; refine ⟨fun _ => ?_, fun hg => absurd hg (by simp [guardOf, eg])⟩; clear eg; have f18 := hp 11 18 rfl rfl; obtain ⟨a18, c18, e18, hz18⟩ := f18; have hcon := hρ.con; have hfn := hρ.fn; clear hρ hp; unfold OpRun; go_simp; (skip; refine (QH1.out _ _ _ hz18).mono ?_; rintro e wn ⟨v9, rfl, hv9, hbn⟩; exact ⟨_, rfl, hR _ _ hbn hv9⟩))
      case o13 => (intro ρ w1 R hρ hb hp hR; have eg : ρ (.tmp 16) = .bool false := hp 9 16 rfl rfl; refine ⟨fun _ => ?_, fun hg => absurd hg (by simp [guardOf, eg])⟩; clear eg; have e17 : ρ (.tmp 17) = _ := hp 10 17 rfl rfl; have f19 := hp 12 19 rfl rfl; have hcon := hρ.con; have hfn := hρ.fn; clear hρ hp; unfold OpRun; go_simp; (refine (QC2.out _ _ _ (HVQ.out _ hb) f19).mono ?_; rintro e wn ⟨rfl, hbn⟩; exact ⟨_, rfl, hR _ _ hbn rfl⟩))
      case o14 => (intro ρ w1 R hρ hb hp hR; have eg : ρ (.tmp 16) = .bool false := hp 9 16 rfl rfl; refine ⟨fun _ => ?_, fun hg => absurd hg (by simp [guardOf, eg])⟩; clear eg; have e20 : ρ (.tmp 20) = _ := hp 13 20 rfl rfl; have hcon := hρ.con; have hfn := hρ.fn; clear hρ hp; unfold OpRun; go_simp; exact hR _ _ (Below.refl _ _) rfl)
      case o15 => (intro ρ w1 R hρ hb hp hR; have eg : ρ (.tmp 10) = .bool true := hp 3 10 rfl rfl; refine ⟨fun _ => ?_, fun hg => absurd hg (by simp [guardOf, eg])⟩; clear eg; have e16 : ρ (.tmp 16) = _ := hp 9 16 rfl rfl; have e21 : ρ (.tmp 21) = _ := hp 14 21 rfl rfl; have hcon := hρ.con; have hfn := hρ.fn; clear hρ hp; unfold OpRun; go_simp; exact hR _ _ (Below.refl _ _) rfl)
      case o16 => (refine StepOK.plain rfl ?_; intro ρ w1 R hρ hb hp hR; have e10 : ρ (.tmp 10) = _ := hp 3 10 rfl rfl; have e22 : ρ (.tmp 22) = _ := hp 15 22 rfl rfl; have hcon := hρ.con; have hfn := hρ.fn; clear hρ hp; unfold OpRun; go_simp; exact hR _ _ (Below.refl _ _) rfl)
      case o17 => (refine StepOK.plain rfl ?_; intro ρ w1 R hρ hb hp hR; have e23 : ρ (.tmp 23) = _ := hp 16 23 rfl rfl; have hcon := hρ.con; have hfn := hρ.fn; clear hρ hp; unfold OpRun; go_simp; exact hR _ _ (Below.refl _ _) rfl)
      case after =>
        intro u wn hb hf
        have e2 : u 2 = _ := hf 17 2 (by omega) rfl
        clear hf
        simp only [putAll, Act.put, List.setIfInBounds_toArray, List.set_cons_zero, List.set_cons_succ, List.drop_succ_cons, List.drop_zero, List.drop_nil]
        rw [e2]
        go_wp2_with fail
        go_ret
        exact ⟨ret_bool (by rw [HTB.out]), below_trans yb hb⟩
    · have HTB := hid (show TB = true by rw [HTB0, hlo]; rfl)
      have hlo2 : CL < 0 := of_decide_eq_true hlo
      clear HTB0 hz hlo
      go_upto_region 2 with fail
      refine wp_region_grow 18 [7, 8, 9, 10, 11, 12, 13, 14, 15, 16, 17, 18, 19, 20, 21, 22, 23, 2] [Fact.is (.int .u64 x), Fact.is (.bool false), Fact.is (.bool true), Fact.is (.bool true), Fact.is (.agg #[.bool (zneg y), .slice ay (zl y).length cy, .int .i64 (m : Int)]), Fact.z 3 1, Fact.q 3 (nrm 1 (-400)) (2 + 400) 400, Fact.is (.int .i64 CL), Fact.is (.bool true), Fact.is (.bool true), Fact.any, Fact.any, Fact.any, Fact.any, Fact.any, Fact.is (.bool true), Fact.is (.bool true), Fact.is (.bool true)] (by kernel_rfl) (by kernel_rfl) ⟨?o0, ?o1, ?o2, ?o3, ?o4, ?o5, ?o6, ?o7, ?o8, ?o9, ?o10, ?o11, ?o12, ?o13, ?o14, ?o15, ?o16, ?o17, trivial⟩ ?after
      case o0 => (refine StepOK.plain rfl ?_; intro ρ w1 R hρ hb hp hR; have e0 : ρ (.tmp 0) = .int .u64 x := hρ.tmp 0 rfl; have hcon := hρ.con; have hfn := hρ.fn; clear hρ hp; unfold OpRun; go_simp; exact hR _ _ (Below.refl _ _) rfl)
      case o1 => (refine StepOK.plain rfl ?_; intro ρ w1 R hρ hb hp hR; have e7 : ρ (.tmp 7) = _ := hp 0 7 rfl rfl; have hcon := hρ.con; have hfn := hρ.fn; clear hρ hp; unfold OpRun; go_simp; (refine (IZ.out _).mono ?_; rintro e wn ⟨rfl, rfl⟩; exact ⟨_, rfl, hR _ _ (Below.refl _ _) rfl⟩))
      case o2 => (refine StepOK.plain rfl ?_; intro ρ w1 R hρ hb hp hR; have e8 : ρ (.tmp 8) = _ := hp 1 8 rfl rfl; have hcon := hρ.con; have hfn := hρ.fn; clear hρ hp; unfold OpRun; go_simp; exact hR _ _ (Below.refl _ _) rfl)
      case o3 => (refine StepOK.plain rfl ?_; intro ρ w1 R hρ hb hp hR; have e9 : ρ (.tmp 9) = _ := hp 2 9 rfl rfl; have hcon := hρ.con; have hfn := hρ.fn; clear hρ hp; unfold OpRun; go_simp; exact hR _ _ (Below.refl _ _) rfl)
      case o4 => (intro ρ w1 R hρ hb hp hR; have eg : ρ (.tmp 10) = .bool true := hp 3 10 rfl rfl; refine ⟨fun _ => ?_, fun hg => absurd hg (by simp [guardOf, eg])⟩; clear eg; have e3 : ρ (.tmp 3) = .pointer (some ⟨g, 0, none⟩) := hρ.tmp 3 rfl; obtain ⟨⟨j0, j1, -, -, -⟩, j2, -⟩ := zQ.below hb; have hcon := hρ.con; have hfn := hρ.fn; clear hρ hp; unfold OpRun; go_simp; exact hR _ _ (Below.refl _ _) rfl)
      case o5 => (intro ρ w1 R hρ hb hp hR; have eg : ρ (.tmp 10) = .bool true := hp 3 10 rfl rfl; refine ⟨fun _ => ?_, fun hg => absurd hg (by simp [guardOf, eg])⟩; clear eg; skip; have hcon := hρ.con; have hfn := hρ.fn; clear hρ hp; unfold OpRun; go_simp; (refine (ZN1.out _).mono ?_; rintro e wn ⟨az, cz, rfl, hz9, hbn⟩; exact ⟨_, rfl, hR _ _ hbn ⟨az, cz, rfl, hz9⟩⟩))
      case o6 => (intro ρ w1 R hρ hb hp hR; have eg : ρ (.tmp 10) = .bool true := hp 3 10 rfl rfl; refine ⟨fun _ => ?_, fun hg => absurd hg (by simp [guardOf, eg])⟩; clear eg; have f12 := hp 5 12 rfl rfl; obtain ⟨a12, c12, e12, hz12⟩ := f12; have hcon := hρ.con; have hfn := hρ.fn; clear hρ hp; unfold OpRun; go_simp; (skip; refine (QL1.out _ _ _ hz12).mono ?_; rintro e wn ⟨v9, rfl, hv9, hbn⟩; exact ⟨_, rfl, hR _ _ hbn hv9⟩))
      case o7 => (intro ρ w1 R hρ hb hp hR; have eg : ρ (.tmp 10) = .bool true := hp 3 10 rfl rfl; refine ⟨fun _ => ?_, fun hg => absurd hg (by simp [guardOf, eg])⟩; clear eg; have e11 : ρ (.tmp 11) = _ := hp 4 11 rfl rfl; have f13 := hp 6 13 rfl rfl; have hcon := hρ.con; have hfn := hρ.fn; clear hρ hp; unfold OpRun; go_simp; (refine (QC1.out _ _ _ (HVQ.out _ hb) f13).mono ?_; rintro e wn ⟨rfl, hbn⟩; exact ⟨_, rfl, hR _ _ hbn rfl⟩))
      case o8 => (intro ρ w1 R hρ hb hp hR; have eg : ρ (.tmp 10) = .bool true := hp 3 10 rfl rfl; refine ⟨fun _ => ?_, fun hg => absurd hg (by simp [guardOf, eg])⟩; clear eg; have e14 : ρ (.tmp 14) = _ := hp 7 14 rfl rfl; have hcon := hρ.con; have hfn := hρ.fn; clear hρ hp; unfold OpRun; go_simp; exact hR _ _ (Below.refl _ _) rfl)
      case o9 => (intro ρ w1 R hρ hb hp hR; have eg : ρ (.tmp 10) = .bool true := hp 3 10 rfl rfl; refine ⟨fun _ => ?_, fun hg => absurd hg (by simp [guardOf, eg])⟩; clear eg; have e15 : ρ (.tmp 15) = _ := hp 8 15 rfl rfl; have hcon := hρ.con; have hfn := hρ.fn; clear hρ hp; unfold OpRun; go_simp; exact hR _ _ (Below.refl _ _) rfl)
      case o10 => (intro ρ w1 R hρ hb hp hR; have eg : ρ (.tmp 16) = .bool true := hp 9 16 rfl rfl; exact ⟨fun hg => absurd hg (by simp [guardOf, eg]), fun _ => trivial⟩)
      case o11 => (intro ρ w1 R hρ hb hp hR; have eg : ρ (.tmp 16) = .bool true := hp 9 16 rfl rfl; exact ⟨fun hg => absurd hg (by simp [guardOf, eg]), fun _ => trivial⟩)
      case o12 => (intro ρ w1 R hρ hb hp hR; have eg : ρ (.tmp 16) = .bool true := hp 9 16 rfl rfl; exact ⟨fun hg => absurd hg (by simp [guardOf, eg]), fun _ => trivial⟩)
      case o13 => (intro ρ w1 R hρ hb hp hR; have eg : ρ (.tmp 16) = .bool true := hp 9 16 rfl rfl; exact ⟨fun hg => absurd hg (by simp [guardOf, eg]), fun _ => trivial⟩)
      case o14 => (intro ρ w1 R hρ hb hp hR; have eg : ρ (.tmp 16) = .bool true := hp 9 16 rfl rfl; exact ⟨fun hg => absurd hg (by simp [guardOf, eg]), fun _ => trivial⟩)
      case o15 => (intro ρ w1 R hρ hb hp hR; have eg : ρ (.tmp 10) = .bool true := hp 3 10 rfl rfl; refine ⟨fun _ => ?_, fun hg => absurd hg (by simp [guardOf, eg])⟩; clear eg; have e16 : ρ (.tmp 16) = _ := hp 9 16 rfl rfl; have f21 := hp 14 21 rfl rfl; have hcon := hρ.con; have hfn := hρ.fn; clear hρ hp; unfold OpRun; go_simp; exact hR _ _ (Below.refl _ _) rfl)
      case o16 => (refine StepOK.plain rfl ?_; intro ρ w1 R hρ hb hp hR; have e10 : ρ (.tmp 10) = _ := hp 3 10 rfl rfl; have e22 : ρ (.tmp 22) = _ := hp 15 22 rfl rfl; have hcon := hρ.con; have hfn := hρ.fn; clear hρ hp; unfold OpRun; go_simp; exact hR _ _ (Below.refl _ _) rfl)
      case o17 => (refine StepOK.plain rfl ?_; intro ρ w1 R hρ hb hp hR; have e23 : ρ (.tmp 23) = _ := hp 16 23 rfl rfl; have hcon := hρ.con; have hfn := hρ.fn; clear hρ hp; unfold OpRun; go_simp; exact hR _ _ (Below.refl _ _) rfl)
      case after =>
        intro u wn hb hf
        have e2 : u 2 = _ := hf 17 2 (by omega) rfl
        clear hf
        simp only [putAll, Act.put, List.setIfInBounds_toArray, List.set_cons_zero, List.set_cons_succ, List.drop_succ_cons, List.drop_zero, List.drop_nil]
        rw [e2]
        go_wp2_with fail
        go_ret
        exact ⟨ret_bool (by rw [HTB.out]), below_trans yb hb⟩
  · rw [hz] at HTB0 IZ
    have HTB := hid (show TB = false by rw [HTB0]; rfl)
    clear HTB0 hz
    go_upto_region 2 with fail
    refine wp_region_grow 18 [7, 8, 9, 10, 11, 12, 13, 14, 15, 16, 17, 18, 19, 20, 21, 22, 23, 2] [Fact.is (.int .u64 x), Fact.is (.bool true), Fact.is (.bool false), Fact.is (.bool false), Fact.any, Fact.any, Fact.any, Fact.any, Fact.any, Fact.is undef, Fact.any, Fact.any, Fact.any, Fact.any, Fact.any, Fact.any, Fact.is (.bool false), Fact.is (.bool false)] (by kernel_rfl) (by kernel_rfl) ⟨?o0, ?o1, ?o2, ?o3, ?o4, ?o5, ?o6, ?o7, ?o8, ?o9, ?o10, ?o11, ?o12, ?o13, ?o14, ?o15, ?o16, ?o17, trivial⟩ ?after
    case o0 => (refine StepOK.plain rfl ?_; intro ρ w1 R hρ hb hp hR; have e0 : ρ (.tmp 0) = .int .u64 x := hρ.tmp 0 rfl; have hcon := hρ.con; have hfn := hρ.fn; clear hρ hp; unfold OpRun; go_simp; exact hR _ _ (Below.refl _ _) rfl)
    case o1 => (refine StepOK.plain rfl ?_; intro ρ w1 R hρ hb hp hR; have e7 : ρ (.tmp 7) = _ := hp 0 7 rfl rfl; have hcon := hρ.con; have hfn := hρ.fn; clear hρ hp; unfold OpRun; go_simp; (refine (IZ.out _).mono ?_; rintro e wn ⟨rfl, rfl⟩; exact ⟨_, rfl, hR _ _ (Below.refl _ _) rfl⟩))
    case o2 => (refine StepOK.plain rfl ?_; intro ρ w1 R hρ hb hp hR; have e8 : ρ (.tmp 8) = _ := hp 1 8 rfl rfl; have hcon := hρ.con; have hfn := hρ.fn; clear hρ hp; unfold OpRun; go_simp; exact hR _ _ (Below.refl _ _) rfl)
    case o3 => (refine StepOK.plain rfl ?_; intro ρ w1 R hρ hb hp hR; have e9 : ρ (.tmp 9) = _ := hp 2 9 rfl rfl; have hcon := hρ.con; have hfn := hρ.fn; clear hρ hp; unfold OpRun; go_simp; exact hR _ _ (Below.refl _ _) rfl)
    case o4 => (intro ρ w1 R hρ hb hp hR; have eg : ρ (.tmp 10) = .bool false := hp 3 10 rfl rfl; exact ⟨fun hg => absurd hg (by simp [guardOf, eg]), fun _ => trivial⟩)
    case o5 => (intro ρ w1 R hρ hb hp hR; have eg : ρ (.tmp 10) = .bool false := hp 3 10 rfl rfl; exact ⟨fun hg => absurd hg (by simp [guardOf, eg]), fun _ => trivial⟩)
    case o6 => (intro ρ w1 R hρ hb hp hR; have eg : ρ (.tmp 10) = .bool false := hp 3 10 rfl rfl; exact ⟨fun hg => absurd hg (by simp [guardOf, eg]), fun _ => trivial⟩)
    case o7 => (intro ρ w1 R hρ hb hp hR; have eg : ρ (.tmp 10) = .bool false := hp 3 10 rfl rfl; exact ⟨fun hg => absurd hg (by simp [guardOf, eg]), fun _ => trivial⟩)
    case o8 => (intro ρ w1 R hρ hb hp hR; have eg : ρ (.tmp 10) = .bool false := hp 3 10 rfl rfl; exact ⟨fun hg => absurd hg (by simp [guardOf, eg]), fun _ => trivial⟩)
    case o9 => (intro ρ w1 R hρ hb hp hR; have eg : ρ (.tmp 10) = .bool false := hp 3 10 rfl rfl; exact ⟨fun hg => absurd hg (by simp [guardOf, eg, undef]), fun _ => rfl⟩)
    case o10 => (intro ρ w1 R hρ hb hp hR; have eg : ρ (.tmp 16) = undef := hp 9 16 rfl rfl; exact ⟨fun hg => absurd hg (by simp [guardOf, eg, undef]), fun _ => trivial⟩)
    case o11 => (intro ρ w1 R hρ hb hp hR; have eg : ρ (.tmp 16) = undef := hp 9 16 rfl rfl; exact ⟨fun hg => absurd hg (by simp [guardOf, eg, undef]), fun _ => trivial⟩)
    case o12 => (intro ρ w1 R hρ hb hp hR; have eg : ρ (.tmp 16) = undef := hp 9 16 rfl rfl; exact ⟨fun hg => absurd hg (by simp [guardOf, eg, undef]), fun _ => trivial⟩)
    case o13 => (intro ρ w1 R hρ hb hp hR; have eg : ρ (.tmp 16) = undef := hp 9 16 rfl rfl; exact ⟨fun hg => absurd hg (by simp [guardOf, eg, undef]), fun _ => trivial⟩)
    case o14 => (intro ρ w1 R hρ hb hp hR; have eg : ρ (.tmp 16) = undef := hp 9 16 rfl rfl; exact ⟨fun hg => absurd hg (by simp [guardOf, eg, undef]), fun _ => trivial⟩)
    case o15 => (intro ρ w1 R hρ hb hp hR; have eg : ρ (.tmp 10) = .bool false := hp 3 10 rfl rfl; exact ⟨fun hg => absurd hg (by simp [guardOf, eg]), fun _ => trivial⟩)
    case o16 => (refine StepOK.plain rfl ?_; intro ρ w1 R hρ hb hp hR; have e10 : ρ (.tmp 10) = _ := hp 3 10 rfl rfl; have f22 := hp 15 22 rfl rfl; have hcon := hρ.con; have hfn := hρ.fn; clear hρ hp; unfold OpRun; go_simp; exact hR _ _ (Below.refl _ _) rfl)
    case o17 => (refine StepOK.plain rfl ?_; intro ρ w1 R hρ hb hp hR; have e23 : ρ (.tmp 23) = _ := hp 16 23 rfl rfl; have hcon := hρ.con; have hfn := hρ.fn; clear hρ hp; unfold OpRun; go_simp; exact hR _ _ (Below.refl _ _) rfl)
    case after =>
      intro u wn hb hf
      have e2 : u 2 = _ := hf 17 2 (by omega) rfl
      clear hf
      simp only [putAll, Act.put, List.setIfInBounds_toArray, List.set_cons_zero, List.set_cons_succ, List.drop_succ_cons, List.drop_zero, List.drop_nil]
      rw [e2]
      go_wp2_with fail
      go_ret
      exact ⟨ret_bool (by rw [HTB.out]), below_trans yb hb⟩
end Go.Proofs.YteaakbeemhmciaaDoor
