/- WholeSays: the law's walk. -/
import Derived.Test.YteaakbeemhmciaaDoorWh3
set_option linter.unusedVariables false
set_option linter.unusedSimpArgs false
namespace Go.Ulp
open Go.RowKit
theorem ent_mode {mode : Int} (h : knownB mode = true) : 0 ≤ mode ∧ mode ≤ 4 := of_decide_eq_true h
end Go.Ulp
namespace Go.Proofs.YteaakbeemhmciaaDoor
open Go.RowKit Go.Ulp
set_option linter.unusedVariables false
set_option linter.unusedSimpArgs false
set_option maxHeartbeats 2000000
set_option maxRecDepth 100000
theorem hasVal_partsW {x : Int} (h0 : 0 ≤ x) (h1 : x < 18446744073709551616) (h : hasVal x = true) : isNan x = false ∧ isInf x = false ∧ classOf x < 4 := by
  rw [← hasVal_lt x h0 h1, decide_eq_true_eq] at h
  exact ⟨by unfold isNan; rw [beq_eq_false_iff_ne]; omega, by unfold isInf; rw [beq_eq_false_iff_ne]; omega, h⟩
theorem hasVal_noneW {x : Int} (h0 : 0 ≤ x) (h1 : x < 18446744073709551616) (h : hasVal x = false) : isNan x = true ∨ (isNan x = false ∧ isInf x = true) := by
  rw [← hasVal_lt x h0 h1, decide_eq_false_iff_not] at h
  have := class_bd x
  unfold isNan isInf
  rw [beq_iff_eq, beq_iff_eq, beq_eq_false_iff_ne]; omega
theorem ent_whole1 (caps : Array Value) (w : World) : Sem.run Tryd.prog (callFunc 56 caps) w = .ok (.enter 56 caps) w := by
  simp [callFunc, go_sem, Tryd.func56, Tryd.f56]
theorem ent_whole2 (caps : Array Value) (w : World) : Sem.run Tryd.prog (callFunc 58 caps) w = .ok (.enter 58 caps) w := by
  simp [callFunc, go_sem, Tryd.func58, Tryd.f58]
theorem wholeC1_any (g0 g1 : Nat) (n : Int) (h0 : -9223372036854775808 ≤ n) (h1 : n ≤ 9223372036854775807) (mode : Int) (m0 : 0 ≤ mode) (m1 : mode ≤ 4) (w : World) (c0 : CV w g0 (.int .i64 n)) (c1 : CV w g1 (.int .i64 mode)) :
    Calls Tryd.prog 56 #[.pointer (some ⟨g0, 0, none⟩), .pointer (some ⟨g1, 0, none⟩)] w (RetX w (rX (nrm n 0) mode) (rC (nrm n 0) mode)) := by
  have ZO := hid (fun w => zOfInt_any n h0 h1 w)
  have QM := hid (fun a c w h => qmake_any a c n 0 64 0 w h (by omega) (by omega) ⟨by omega, by omega⟩ (by omega))
  have RD := hid (fun v w h => roundedD_any v (nrm n 0) (64 + 0) 0 mode w h (nrm_isN _ _) (by omega) (by omega) m0 m1)
  generalize rX (nrm n 0) mode = rx at *
  generalize rC (nrm n 0) mode = rc at *
  generalize nrm n 0 = D at *
  go_enter Tryd.func56, Tryd.ntmps56
  go_upto_region 1 with fail
  refine wp_region_grow 9 [4, 5, 6, 7, 8, 9, 10, 2, 3] [Fact.is (.int .i64 n), Fact.z 3 n, Fact.q 3 D (64 + 0) 0, Fact.is (.int .i64 mode), Fact.is (.tuple #[.int .u64 rx, .bool rc]), Fact.is (.int .u64 rx), Fact.is (.bool rc), Fact.is (.int .u64 rx), Fact.is (.bool rc)] (by kernel_rfl) (by kernel_rfl) ⟨?o0, ?o1, ?o2, ?o3, ?o4, ?o5, ?o6, ?o7, ?o8, trivial⟩ ?after
  case o0 => (refine StepOK.plain rfl ?_; intro ρ w1 R hρ hb hp hR; have e0 : ρ (.tmp 0) = .pointer (some ⟨g0, 0, none⟩) := hρ.tmp 0 rfl; obtain ⟨k0, f0⟩ := c0.below hb; have hcon := hρ.con; have hfn := hρ.fn; clear hρ hp; unfold OpRun; go_simp; exact hR _ _ (Below.refl _ _) rfl)
  case o1 => (refine StepOK.plain rfl ?_; intro ρ w1 R hρ hb hp hR; have e4 : ρ (.tmp 4) = _ := hp 0 4 rfl rfl; have hcon := hρ.con; have hfn := hρ.fn; clear hρ hp; unfold OpRun; go_simp; (refine (ZO.out _).mono ?_; rintro e wn ⟨az, cz, rfl, hz9, hbn⟩; exact ⟨_, rfl, hR _ _ hbn ⟨az, cz, rfl, hz9⟩⟩))
  case o2 => (refine StepOK.plain rfl ?_; intro ρ w1 R hρ hb hp hR; have f5 := hp 1 5 rfl rfl; obtain ⟨a5, c5, e5, hz5⟩ := f5; have hcon := hρ.con; have hfn := hρ.fn; clear hρ hp; unfold OpRun; go_simp; (skip; refine (QM.out _ _ _ hz5).mono ?_; rintro e wn ⟨v9, rfl, hv9, hbn⟩; exact ⟨_, rfl, hR _ _ hbn hv9⟩))
  case o3 => (refine StepOK.plain rfl ?_; intro ρ w1 R hρ hb hp hR; have e1 : ρ (.tmp 1) = .pointer (some ⟨g1, 0, none⟩) := hρ.tmp 1 rfl; obtain ⟨k1, f1⟩ := c1.below hb; have hcon := hρ.con; have hfn := hρ.fn; clear hρ hp; unfold OpRun; go_simp; exact hR _ _ (Below.refl _ _) rfl)
  case o4 => (refine StepOK.plain rfl ?_; intro ρ w1 R hρ hb hp hR; have f6 := hp 2 6 rfl rfl; have e7 : ρ (.tmp 7) = _ := hp 3 7 rfl rfl; have hcon := hρ.con; have hfn := hρ.fn; clear hρ hp; unfold OpRun; go_simp; (refine (RD.out _ _ f6).mono ?_; rintro e wn ⟨rfl, hbn⟩; exact ⟨_, rfl, hR _ _ hbn rfl⟩))
  case o5 => (refine StepOK.plain rfl ?_; intro ρ w1 R hρ hb hp hR; have e8 : ρ (.tmp 8) = _ := hp 4 8 rfl rfl; have hcon := hρ.con; have hfn := hρ.fn; clear hρ hp; unfold OpRun; go_simp; exact hR _ _ (Below.refl _ _) rfl)
  case o6 => (refine StepOK.plain rfl ?_; intro ρ w1 R hρ hb hp hR; have e8 : ρ (.tmp 8) = _ := hp 4 8 rfl rfl; have hcon := hρ.con; have hfn := hρ.fn; clear hρ hp; unfold OpRun; go_simp; exact hR _ _ (Below.refl _ _) rfl)
  case o7 => (refine StepOK.plain rfl ?_; intro ρ w1 R hρ hb hp hR; have e9 : ρ (.tmp 9) = _ := hp 5 9 rfl rfl; have hcon := hρ.con; have hfn := hρ.fn; clear hρ hp; unfold OpRun; go_simp; exact hR _ _ (Below.refl _ _) rfl)
  case o8 => (refine StepOK.plain rfl ?_; intro ρ w1 R hρ hb hp hR; have e10 : ρ (.tmp 10) = _ := hp 6 10 rfl rfl; have hcon := hρ.con; have hfn := hρ.fn; clear hρ hp; unfold OpRun; go_simp; exact hR _ _ (Below.refl _ _) rfl)
  case after =>
    intro u wn hb hf
    have e2 : u 2 = _ := hf 7 2 (by omega) rfl
    have e3 : u 3 = _ := hf 8 3 (by omega) rfl
    clear hf
    simp only [putAll, Act.put, List.setIfInBounds_toArray, List.set_cons_zero, List.set_cons_succ, List.drop_succ_cons, List.drop_zero, List.drop_nil]
    rw [e2, e3]
    go_wp2_with fail
    refine bodyPost_ret (by simp [results, Tryd.results56, go_sem]; try rfl) rfl ?_
    exact ⟨rfl, hb⟩
theorem wholeC2_any (g0 g1 : Nat) (x : Int) (h0 : 0 ≤ x) (h1 : x < 18446744073709551616) (mode : Int) (m0 : 0 ≤ mode) (m1 : mode ≤ 4) (w : World) (c0 : CV w g0 (.int .u64 x)) (c1 : CV w g1 (.int .i64 mode)) :
    Calls Tryd.prog 58 #[.pointer (some ⟨g0, 0, none⟩), .pointer (some ⟨g1, 0, none⟩)] w (RetX w (wrX x mode) (wrC x)) := by
  have NA := hid (fun w => rIsNan_any x h0 h1 w)
  have IN := hid (fun w => rIsInf_any x h0 h1 w)
  have MI := hid (fun w => rMinus_any x h0 h1 w)
  have CW := hid (fun w => cutWhole_any x mode h0 h1 m0 m1 w)
  obtain ⟨f1, f2, f3, f4⟩ := whD_form x mode h0 h1
  obtain ⟨B, hB⟩ : ∃ B : Nat, B = 1154 := ⟨_, rfl⟩
  have hwb := whole_bd B (by omega) (whD x mode) f1 f3
  have ZA := hid (fun a c w h => zabs_any a c (whole (whD x mode)) w h)
  have QM := hid (fun a c w h => qmake_any a c ((whole (whD x mode)).natAbs : Int) 0 B 0 w h (by rw [Int.natAbs_natCast]; exact hwb) (by omega) ⟨by omega, by omega⟩ (by omega))
  rw [whole_abs _ f2 f4] at QM
  have RD := hid (fun v w h => roundedD_any v (absD (whD x mode)) (B + 0) 0 0 w h (absD_isN f4) (by omega) (by omega) (by omega) (by omega))
  have hq := rX_lt (whD x mode)
  have SG := hid (fun w => rSigned_any (rX (absD (whD x mode)) 0) hq.1 hq.2 (negB x) w)
  have HW := hid (show wrX x mode = (if isNan x = true then 9221120237041090560 else if isInf x = true then x else rX (absD (whD x mode)) 0 + sgb (negB x)) ∧ wrC x = (if isNan x = true then false else if isInf x = true then false else whC x) from ⟨rfl, rfl⟩)
  generalize wrX x mode = rx at *
  generalize wrC x = rc at *
  generalize rX (absD (whD x mode)) 0 = qa at *
  generalize rC (absD (whD x mode)) 0 = qc at *
  generalize whole (whD x mode) = W at *
  generalize whC x = wc at *
  generalize whD x mode = D at *
  generalize isNan x = nx at *
  generalize isInf x = ix at *
  generalize negB x = sx at *
  obtain ⟨k0, g0f⟩ := id c0
  obtain ⟨k1, g1f⟩ := id c1
  clear f1 f2 f3 f4 hB hwb hq
  cases nx
  · cases ix
    · have hh := HW.out
      obtain ⟨hx1, hx2⟩ := hh
      have HX := hid (show rx = qa + sgb sx ∧ rc = wc from ⟨hx1, hx2⟩)
      clear hx1 hx2 HW
      go_enter Tryd.func58, Tryd.ntmps58
      go_wp2_with (first
        | (go_at_call 49; (with_reducible refine (NA.out _).mono ?_); rintro en w1 ⟨rfl, rfl⟩)
        | (go_at_call 50; (with_reducible refine (IN.out _).mono ?_); rintro en w1 ⟨rfl, rfl⟩)
        | (go_at_call 60; (with_reducible refine (CW.out _).mono ?_); rintro en w2 ⟨a2, c2, rfl, hN2, hb2⟩)
        | (go_at_call 61; (with_reducible refine (ZA.out _ _ _ (hN2.below (below_alloc _ _))).mono ?_); rintro en w3 ⟨a3, c3, rfl, hN3, hb3⟩)
        | (go_at_call 30; (with_reducible refine (QM.out _ _ _ hN3).mono ?_); rintro en w4 ⟨v4, rfl, hv4, hb4⟩)
        | (go_at_call 51; (with_reducible refine (RD.out _ _ hv4).mono ?_); rintro en w5 ⟨rfl, hb5⟩; have yb5 := below_trans (below_trans (below_trans (below_trans hb2 (below_alloc _ _)) hb3) hb4) hb5; obtain ⟨l0, m0f⟩ := c0.below yb5)
        | (go_at_call 63; (with_reducible refine (MI.out _).mono ?_); rintro en w6 ⟨rfl, rfl⟩)
        | (go_at_call 62; (with_reducible refine (SG.out _).mono ?_); rintro en w6 ⟨rfl, rfl⟩))
      refine bodyPost_ret (by simp [results, Tryd.results58, go_sem]; try rfl) rfl ?_
      exact ⟨ret2 HX.out.1.symm HX.out.2.symm, yb5⟩
    · have hh := HW.out
      obtain ⟨hx1, hx2⟩ := hh
      have HX := hid (show rx = x ∧ rc = false from ⟨hx1, hx2⟩)
      clear hx1 hx2 HW
      go_enter Tryd.func58, Tryd.ntmps58
      go_wp2_with (first
        | (go_at_call 49; (with_reducible refine (NA.out _).mono ?_); rintro en w1 ⟨rfl, rfl⟩)
        | (go_at_call 50; (with_reducible refine (IN.out _).mono ?_); rintro en w1 ⟨rfl, rfl⟩))
      refine bodyPost_ret (by simp [results, Tryd.results58, go_sem]; try rfl) rfl ?_
      exact ⟨ret2 HX.out.1.symm HX.out.2.symm, Below.refl _ _⟩
  · have hh := HW.out
    obtain ⟨hx1, hx2⟩ := hh
    have HX := hid (show rx = 9221120237041090560 ∧ rc = false from ⟨hx1, hx2⟩)
    clear hx1 hx2 HW
    go_enter Tryd.func58, Tryd.ntmps58
    go_wp2_with (first
      | (go_at_call 49; (with_reducible refine (NA.out _).mono ?_); rintro en w1 ⟨rfl, rfl⟩)
      | (go_at_call 59; (with_reducible refine (rQuiet_any _).mono ?_); rintro en w1 ⟨rfl, rfl⟩))
    refine bodyPost_ret (by simp [results, Tryd.results58, go_sem]; try rfl) rfl ?_
    exact ⟨ret2 HX.out.1.symm HX.out.2.symm, Below.refl _ _⟩
end Go.Proofs.YteaakbeemhmciaaDoor
