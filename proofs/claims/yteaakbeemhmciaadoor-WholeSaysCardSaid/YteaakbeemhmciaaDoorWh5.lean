/- WholeSays: the law's walk, the end. -/
import Derived.Test.YteaakbeemhmciaaDoorWh4
set_option linter.unusedVariables false
set_option linter.unusedSimpArgs false
namespace Go.Proofs.YteaakbeemhmciaaDoor
open Go.RowKit Go.Ulp
set_option linter.unusedVariables false
set_option linter.unusedSimpArgs false
set_option maxHeartbeats 4000000
set_option maxRecDepth 100000
theorem wholeSays_walk (x n mode : Int) (hx : 0 ≤ x ∧ x < 18446744073709551616) (hn : -9223372036854775808 ≤ n ∧ n ≤ 9223372036854775807) (hm : -9223372036854775808 ≤ mode ∧ mode ≤ 9223372036854775807) (W : World) (hT : Tab 0 W) :
    Calls Tryd.prog 8 #[.int .u64 x, .int .i64 n, .int .i64 mode] W fun e w' => e = .returned (.bool true) ∧ Below W.heap.size W w' := by
  have RO := hid (fun w t => roundW_any x mode hx.1 hx.2 w t)
  have IT := hid (fun w t => intW_any x mode hx.1 hx.2 w t)
  have FR := hid (fun w t => from_any n mode hn.1 hn.2 w t)
  have TD1 := hid (fun caps w hC => told_md (rX (nrm n 0) mode) (rC (nrm n 0) mode) mode 56 caps w (ent_whole1 caps) hC)
  have TD2 := hid (fun caps w hC => told_md (wrX x mode) (wrC x) mode 58 caps w (ent_whole2 caps) hC)
  have C1 := hid (fun g0 g1 w (hk : knownB mode = true) c0 c1 => wholeC1_any g0 g1 n hn.1 hn.2 mode (ent_mode hk).1 (ent_mode hk).2 w c0 c1)
  have C2 := hid (fun g0 g1 w (hk : knownB mode = true) c0 c1 => wholeC2_any g0 g1 x hx.1 hx.2 mode (ent_mode hk).1 (ent_mode hk).2 w c0 c1)
  have BT := hid (show ∀ w, Calls Tryd.prog 27 #[.int .i64 mode, .int .i64 0, .int .i64 4] w fun e w' => e = .returned (.bool (knownB mode)) ∧ w = w' from fun w => between_any mode 0 4 w)
  have NA := hid (fun w => rIsNan_any x hx.1 hx.2 w)
  have IN := hid (fun w => rIsInf_any x hx.1 hx.2 w)
  have IS := hid (fun w t => is_any x hx.1 hx.2 w t)
  have CW3 := hid (fun w => cutWhole_any x 3 hx.1 hx.2 (by omega) (by omega) w)
  have CWm := hid (fun (hk : knownB mode = true) w => cutWhole_any x mode hx.1 hx.2 (ent_mode hk).1 (ent_mode hk).2 w)
  have HWC := hid (whC_iff x hx.1 hx.2)
  have HP1 := hid (fun h => hasVal_partsW (x := x) hx.1 hx.2 h)
  have HP2 := hid (fun h => hasVal_noneW (x := x) hx.1 hx.2 h)
  have HB := hid (fun e h he => wi_bad (x := x) (mode := mode) (e := e) h he)
  have HG := hid (fun h => wi_good (x := x) (mode := mode) h)
  have HE := hid (show wiE x mode = (if knownB mode = true then (if hasVal x = true then (if -9223372036854775808 ≤ whole (whD x mode) ∧ whole (whD x mode) ≤ 9223372036854775807 then 0 else 4) else 4) else 1) from rfl)
  have HT := hid hT
  have hmf : ∀ fn first cap w, (Instr.makeFunc fn first cap).run Tryd.prog w = .ok (.func fn first cap) w := fun _ _ _ _ => rfl
  obtain ⟨W0, hW0⟩ : ∃ X, X = ((W.alloc (.cells #[.int .u64 x] 22)).alloc (.cells #[.int .i64 n] 3)).alloc (.cells #[.int .i64 mode] 3) := ⟨_, rfl⟩
  have yb0 : Below W.heap.size W W0 := by rw [hW0]; (repeat' (first | (with_reducible assumption) | (with_reducible exact Below.refl _ _) | (with_reducible refine below_al ?_ _) | (with_reducible refine below_drewN ?_ _) | (with_reducible refine Below.drew ?_) | (with_reducible refine Below.alloc ?_ ?_ _) | (with_reducible refine Below.setCell ?_ ?_ _) | (refine below_trans ?_ (by assumption)) | go_size))
  have c0 : CV W0 W.heap.size (.int .u64 x) := by rw [hW0]; exact (CV.made.below (below_alloc _ _)).below (below_alloc _ _)
  have c1 : CV W0 (W.heap.size + 1) (.int .i64 n) := by
    have h := (CV.made (w := W.alloc (.cells #[.int .u64 x] 22)) (v := .int .i64 n) (t := 3)).below (below_alloc _ (.cells #[.int .i64 mode] 3))
    rw [hW0]; simpa using h
  have c2 : CV W0 (W.heap.size + 1 + 1) (.int .i64 mode) := by
    have h := CV.made (w := (W.alloc (.cells #[.int .u64 x] 22)).alloc (.cells #[.int .i64 n] 3)) (v := .int .i64 mode) (t := 3)
    rw [hW0]; simpa using h
  obtain ⟨X1, hX1⟩ : ∃ X, X = mdX mode (rX (nrm n 0) mode) := ⟨_, rfl⟩
  obtain ⟨K1, hK1⟩ : ∃ X, X = mdC mode (rC (nrm n 0) mode) := ⟨_, rfl⟩
  obtain ⟨X2, hX2⟩ : ∃ X, X = mdX mode (wrX x mode) := ⟨_, rfl⟩
  obtain ⟨K2, hK2⟩ : ∃ X, X = mdC mode (wrC x) := ⟨_, rfl⟩
  obtain ⟨ER, hER⟩ : ∃ X, X = mdE mode := ⟨_, rfl⟩
  rw [← hX1, ← hK1, ← hER] at FR TD1
  rw [← hX2, ← hK2, ← hER] at RO TD2
  generalize rX (nrm n 0) mode = sx1 at *
  generalize rC (nrm n 0) mode = sc1 at *
  generalize wrX x mode = sx2 at *
  generalize wrC x = sc2 at *
  generalize wiX x mode = ix at *
  generalize wiC x mode = ic at *
  generalize wiE x mode = ie at *
  generalize whole (whD x mode) = V at *
  generalize whole (whD x 3) = V3 at *
  generalize whC x = wc at *
  generalize decide (0 ≤ (fv x).2) = dd at *
  clear hX1 hK1 hX2 hK2 hER hT
  obtain ⟨x0, x1⟩ := hx
  obtain ⟨n0, n1⟩ := hn
  obtain ⟨m0, m1⟩ := hm
  go_enter Tryd.func8, Tryd.ntmps8
  go_upto_region 1 with fail
  rw [← hW0]
  clear hW0
  obtain ⟨k0, f0⟩ := id c0
  obtain ⟨k2, f2⟩ := id c2
  go_upto_region 2 with (go_at_call 52; (with_reducible refine (RO.out _ (HT.out.below yb0)).mono ?_); rintro en w1 ⟨rfl, hb1⟩)
  replace c0 := c0.below hb1
  replace c1 := c1.below hb1
  replace c2 := c2.below hb1
  replace yb0 := below_trans yb0 hb1
  clear k0 f0 k2 f2 hb1
  obtain ⟨k0, f0⟩ := id c0
  obtain ⟨k2, f2⟩ := id c2
  go_upto_region 3 with (go_at_call 53; (with_reducible refine (IT.out _ (HT.out.below yb0)).mono ?_); rintro en w2 ⟨rfl, hb2⟩)
  replace c0 := c0.below hb2
  replace c1 := c1.below hb2
  replace c2 := c2.below hb2
  replace yb0 := below_trans yb0 hb2
  clear k0 f0 k2 f2 hb2
  obtain ⟨k1, f1⟩ := id c1
  obtain ⟨k2, f2⟩ := id c2
  go_upto_region 4 with (go_at_call 54; (with_reducible refine (FR.out _ (HT.out.below yb0)).mono ?_); rintro en w3 ⟨rfl, hb3⟩)
  replace c0 := c0.below hb3
  replace c1 := c1.below hb3
  replace c2 := c2.below hb3
  replace yb0 := below_trans yb0 hb3
  clear k1 f1 k2 f2 hb3 RO IT FR
  have E0 := hid c0
  have E1 := hid c1
  have E2 := hid c2
  clear c0 c1 c2
  obtain ⟨k2, f2⟩ := E2.out
  go_upto_region 6 with (go_at_call 55; (with_reducible refine (TD1.out _ _ (fun hk w' hb' => C1.out _ _ w' hk (E1.out.below hb') (E2.out.below hb'))).mono ?_); rintro en w4 ⟨rfl, hb4⟩)
  replace E0 := hid (E0.out.below hb4)
  replace E2 := hid (E2.out.below hb4)
  replace yb0 := below_trans yb0 hb4
  clear k2 f2 hb4 TD1 C1 E1
  obtain ⟨k2, f2⟩ := E2.out
  go_upto_region 8 with (go_at_call 55; (with_reducible refine (TD2.out _ _ (fun hk w' hb' => C2.out _ _ w' hk (E0.out.below hb') (E2.out.below hb'))).mono ?_); rintro en w5 ⟨rfl, hb5⟩)
  replace E0 := hid (E0.out.below hb5)
  replace E2 := hid (E2.out.below hb5)
  replace yb0 := below_trans yb0 hb5
  clear k2 f2 hb5 TD2 C2
  obtain ⟨k0, f0⟩ := E0.out
  obtain ⟨k2, f2⟩ := E2.out
  cases hv : hasVal x
  · have hie : ie = if knownB mode = true then 4 else 1 := by rw [HE.out, hv]; rfl
    have hpp := HP2.out hv
    have IS2 := hid (show ∀ w, Tab 0 w → Calls Tryd.prog 64 #[.int .u64 x] w fun e w' => e = .returned (.bool false) ∧ Below w.heap.size w w' from fun w t => by have h := IS.out w t; rw [hv, Bool.false_and] at h; exact h)
    clear hv IS CW3 CWm HP1 HP2 HG HE
    have hee : (knownB mode = false ∧ ix = 0 ∧ ic = false ∧ ie = 1) ∨ (knownB mode = true ∧ ix = 0 ∧ ic = false ∧ ie = 4) := by
      cases hk : knownB mode
      · left; rw [hk] at hie
        obtain ⟨a, b, c⟩ := HB.out 1 (by rw [hie]; rfl) (by omega)
        exact ⟨rfl, a, b, c⟩
      · right; rw [hk] at hie
        obtain ⟨a, b, c⟩ := HB.out 4 (by rw [hie]; rfl) (by omega)
        exact ⟨rfl, a, b, c⟩
    clear hie HB
    rcases hpp with hnn | ⟨hnn, hii⟩
    · rw [hnn] at NA
      clear hnn
      rcases hee with ⟨hk, rfl, rfl, rfl⟩ | ⟨hk, rfl, rfl, rfl⟩
      · rw [hk] at BT
        clear hk
        go_wp2_with (first
          | (go_at_call 49; (with_reducible refine (NA.out _).mono ?_); rintro en w6 ⟨rfl, rfl⟩)
          | (go_at_call 64; (with_reducible refine (IS2.out _ (HT.out.below yb0)).mono ?_); rintro en w7 ⟨rfl, hb7⟩; obtain ⟨l2, q2⟩ := E2.out.below hb7)
          | (go_at_call 27; (with_reducible refine (BT.out _).mono ?_); rintro en w8 ⟨rfl, rfl⟩))
        go_ret
        exact ⟨rfl, below_trans yb0 hb7⟩
      · rw [hk] at BT
        clear hk
        go_wp2_with (first
          | (go_at_call 49; (with_reducible refine (NA.out _).mono ?_); rintro en w6 ⟨rfl, rfl⟩)
          | (go_at_call 64; (with_reducible refine (IS2.out _ (HT.out.below yb0)).mono ?_); rintro en w7 ⟨rfl, hb7⟩; obtain ⟨l2, q2⟩ := E2.out.below hb7)
          | (go_at_call 27; (with_reducible refine (BT.out _).mono ?_); rintro en w8 ⟨rfl, rfl⟩))
        go_ret
        exact ⟨rfl, below_trans yb0 hb7⟩
    · rw [hnn] at NA
      rw [hii] at IN
      clear hnn hii
      rcases hee with ⟨hk, rfl, rfl, rfl⟩ | ⟨hk, rfl, rfl, rfl⟩
      · rw [hk] at BT
        clear hk
        go_wp2_with (first
          | (go_at_call 49; (with_reducible refine (NA.out _).mono ?_); rintro en w6 ⟨rfl, rfl⟩)
          | (go_at_call 50; (with_reducible refine (IN.out _).mono ?_); rintro en w6 ⟨rfl, rfl⟩)
          | (go_at_call 64; (with_reducible refine (IS2.out _ (HT.out.below yb0)).mono ?_); rintro en w7 ⟨rfl, hb7⟩; obtain ⟨l2, q2⟩ := E2.out.below hb7)
          | (go_at_call 27; (with_reducible refine (BT.out _).mono ?_); rintro en w8 ⟨rfl, rfl⟩))
        go_ret
        exact ⟨rfl, below_trans yb0 hb7⟩
      · rw [hk] at BT
        clear hk
        go_wp2_with (first
          | (go_at_call 49; (with_reducible refine (NA.out _).mono ?_); rintro en w6 ⟨rfl, rfl⟩)
          | (go_at_call 50; (with_reducible refine (IN.out _).mono ?_); rintro en w6 ⟨rfl, rfl⟩)
          | (go_at_call 64; (with_reducible refine (IS2.out _ (HT.out.below yb0)).mono ?_); rintro en w7 ⟨rfl, hb7⟩; obtain ⟨l2, q2⟩ := E2.out.below hb7)
          | (go_at_call 27; (with_reducible refine (BT.out _).mono ?_); rintro en w8 ⟨rfl, rfl⟩))
        go_ret
        exact ⟨rfl, below_trans yb0 hb7⟩
  · obtain ⟨hnn, hii, -⟩ := HP1.out hv
    rw [hnn] at NA
    rw [hii] at IN
    have IS2 := hid (show ∀ w, Tab 0 w → Calls Tryd.prog 64 #[.int .u64 x] w fun e w' => e = .returned (.bool (!wc)) ∧ Below w.heap.size w w' from fun w t => by
      have h := IS.out w t
      rw [hv, Bool.true_and] at h
      have e : dd = !wc := by rw [HWC.out, Bool.not_not]
      rw [← e]; exact h)
    have hie : ie = (if knownB mode = true then (if -9223372036854775808 ≤ V ∧ V ≤ 9223372036854775807 then 0 else 4) else 1) := by rw [HE.out, if_pos hv]
    clear hnn hii hv IS HP1 HP2 HE HWC
    cases hk : knownB mode
    · rw [hk] at hie BT
      obtain ⟨rfl, rfl, rfl⟩ := HB.out 1 (by rw [hie]; rfl) (by omega)
      clear hie hk HB HG CWm
      go_wp2_with (first
        | (go_at_call 49; (with_reducible refine (NA.out _).mono ?_); rintro en w6 ⟨rfl, rfl⟩)
        | (go_at_call 50; (with_reducible refine (IN.out _).mono ?_); rintro en w6 ⟨rfl, rfl⟩)
        | (go_at_call 60; (with_reducible refine (CW3.out _).mono ?_); rintro en w7 ⟨a7, c7, rfl, hN7, hb7⟩; have yb7 := below_trans hb7 (below_alloc w7 (.cells #[.bool (zneg V3), .slice a7 (zl V3).length c7] 40)); obtain ⟨l0, q0⟩ := E0.out.below yb7)
        | (go_at_call 64; (with_reducible refine (IS2.out _ (HT.out.below (below_trans yb0 yb7))).mono ?_); rintro en w8 ⟨rfl, hb8⟩; obtain ⟨l2, q2⟩ := E2.out.below (below_trans yb7 hb8))
        | (go_at_call 27; (with_reducible refine (BT.out _).mono ?_); rintro en w9 ⟨rfl, rfl⟩))
      go_ret
      exact ⟨rfl, below_trans (below_trans yb0 yb7) hb8⟩
    · rw [hk] at hie BT
      rw [if_pos rfl] at hie
      have CW := hid (CWm.out hk)
      have HIE := hid hie
      clear hk CWm hie
      go_upto_region 20 with (first
        | (go_at_call 49; (with_reducible refine (NA.out _).mono ?_); rintro en w6 ⟨rfl, rfl⟩)
        | (go_at_call 50; (with_reducible refine (IN.out _).mono ?_); rintro en w6 ⟨rfl, rfl⟩)
        | (go_at_call 60; (with_reducible refine (CW3.out _).mono ?_); rintro en w7 ⟨a7, c7, rfl, hN7, hb7⟩; have yb7 := below_trans hb7 (below_alloc w7 (.cells #[.bool (zneg V3), .slice a7 (zl V3).length c7] 40)); obtain ⟨l0, q0⟩ := E0.out.below yb7)
        | (go_at_call 64; (with_reducible refine (IS2.out _ (HT.out.below (below_trans yb0 yb7))).mono ?_); rintro en w8 ⟨rfl, hb8⟩; have yb8 := below_trans yb7 hb8; obtain ⟨r0, s0⟩ := E0.out.below yb8; obtain ⟨l2, q2⟩ := E2.out.below yb8)
        | (go_at_call 27; (with_reducible refine (BT.out _).mono ?_); rintro en w9 ⟨rfl, rfl⟩)
        | (go_at_call 60; (with_reducible refine (CW.out _).mono ?_); rintro en w10 ⟨aV, cV, rfl, hNV, hb10⟩))
      have zV : ZL 40 (w10.alloc (.cells #[.bool (zneg V), .slice aV (zl V).length cV] 40)) w10.heap.size (zneg V) (.slice aV (zl V).length cV) := ZL.made rfl
      have hNV1 := hNV.below (below_alloc w10 (.cells #[.bool (zneg V), .slice aV (zl V).length cV] 40))
      have yb := below_trans (below_trans (below_trans yb0 yb8) hb10) (below_alloc w10 (.cells #[.bool (zneg V), .slice aV (zl V).length cV] 40))
      obtain ⟨W1, hW1⟩ : ∃ Y, Y = w10.alloc (.cells #[.bool (zneg V), .slice aV (zl V).length cV] 40) := ⟨_, rfl⟩
      obtain ⟨gV, hgV⟩ : ∃ g, g = w10.heap.size := ⟨_, rfl⟩
      rw [← hW1, ← hgV] at zV ⊢
      rw [← hW1] at hNV1 yb
      have HNV := hid hNV1
      have ZN1 := hid (fun w => zNint_any (-9223372036854775808) (by omega) (by omega) w)
      have ZN2 := hid (fun w => zNint_any 9223372036854775807 (by omega) (by omega) w)
      have ZC1 := hid (fun a c w h0 h1 => zcmp_any aV a cV c V (-9223372036854775808) w h0 h1)
      have ZC2 := hid (fun a c w h0 h1 => zcmp_any aV a cV c V 9223372036854775807 w h0 h1)
      have h1 := cmpI_lt V (-9223372036854775808)
      have h2 := cmpI_gt V 9223372036854775807
      obtain ⟨u1, hu1⟩ : ∃ q, q = cmpI V (-9223372036854775808) := ⟨_, rfl⟩
      obtain ⟨u2, hu2⟩ : ∃ q, q = cmpI V 9223372036854775807 := ⟨_, rfl⟩
      rw [← hu1] at ZC1 h1
      rw [← hu2] at ZC2 h2
      have HQ1 := hid h1
      have HQ2 := hid h2
      clear hW1 hgV hNV hNV1 hb7 hb8 hb10 yb7 yb8 yb0 l0 q0 r0 s0 l2 q2 k0 f0 k2 f2 hu1 hu2 h1 h2 hN7 E0 E2 HT NA IN IS2 BT CW3 CW
      by_cases c1 : u1 < 0
      · obtain ⟨e1, e2, e3⟩ := HB.out 4 (by rw [HIE.out, if_neg (fun h => by have := HQ1.out.1 c1; omega)]) (by omega)
        subst e1 e2 e3
        clear HB HG HIE
        refine wp_region_grow 10 [108, 109, 110, 111, 112, 113, 114, 115, 116, 117] [Fact.is (.agg #[.bool (zneg V), .slice aV (zl V).length cV]), Fact.z 3 (-9223372036854775808), Fact.is (.int .i64 u1), Fact.is (.bool true), Fact.is (.bool true), Fact.any, Fact.any, Fact.any, Fact.any, Fact.is (.bool true)] (by kernel_rfl) (by kernel_rfl) ⟨?o0, ?o1, ?o2, ?o3, ?o4, ?o5, ?o6, ?o7, ?o8, ?o9, trivial⟩ ?after
        case o0 => (refine StepOK.plain rfl ?_; intro ρ w1 R hρ hb hp hR; have e20 : ρ (.tmp 20) = .pointer (some ⟨gV, 0, none⟩) := hρ.tmp 20 rfl; obtain ⟨j0, j1, -, -, -⟩ := zV.below hb; have hcon := hρ.con; have hfn := hρ.fn; clear hρ hp; unfold OpRun; go_simp; exact hR _ _ (Below.refl _ _) rfl)
        case o1 => (refine StepOK.plain rfl ?_; intro ρ w1 R hρ hb hp hR; have hcon := hρ.con; have hfn := hρ.fn; clear hρ hp; unfold OpRun; go_simp; (refine (ZN1.out _).mono ?_; rintro e wn ⟨az, cz, rfl, hz9, hbn⟩; exact ⟨_, rfl, hR _ _ hbn ⟨az, cz, rfl, hz9⟩⟩))
        case o2 => (refine StepOK.plain rfl ?_; intro ρ w1 R hρ hb hp hR; have e108 : ρ (.tmp 108) = _ := hp 0 108 rfl rfl; have f109 := hp 1 109 rfl rfl; obtain ⟨a109, c109, e109, hz109⟩ := f109; have hcon := hρ.con; have hfn := hρ.fn; clear hρ hp; unfold OpRun; go_simp; (refine (ZC1.out _ _ _ (HNV.out.below hb) hz109).mono ?_; rintro e wn ⟨rfl, hbn⟩; exact ⟨_, rfl, hR _ _ hbn rfl⟩))
        case o3 => (refine StepOK.plain rfl ?_; intro ρ w1 R hρ hb hp hR; have e110 : ρ (.tmp 110) = _ := hp 2 110 rfl rfl; have hcon := hρ.con; have hfn := hρ.fn; clear hρ hp; unfold OpRun; go_simp; exact hR _ _ (Below.refl _ _) rfl)
        case o4 => (refine StepOK.plain rfl ?_; intro ρ w1 R hρ hb hp hR; have e111 : ρ (.tmp 111) = _ := hp 3 111 rfl rfl; have hcon := hρ.con; have hfn := hρ.fn; clear hρ hp; unfold OpRun; go_simp; exact hR _ _ (Below.refl _ _) rfl)
        case o5 => (intro ρ w1 R hρ hb hp hR; have eg : ρ (.tmp 112) = .bool true := hp 4 112 rfl rfl; exact ⟨fun hg => absurd hg (by simp [guardOf, eg]), fun _ => trivial⟩)
        case o6 => (intro ρ w1 R hρ hb hp hR; have eg : ρ (.tmp 112) = .bool true := hp 4 112 rfl rfl; exact ⟨fun hg => absurd hg (by simp [guardOf, eg]), fun _ => trivial⟩)
        case o7 => (intro ρ w1 R hρ hb hp hR; have eg : ρ (.tmp 112) = .bool true := hp 4 112 rfl rfl; exact ⟨fun hg => absurd hg (by simp [guardOf, eg]), fun _ => trivial⟩)
        case o8 => (intro ρ w1 R hρ hb hp hR; have eg : ρ (.tmp 112) = .bool true := hp 4 112 rfl rfl; exact ⟨fun hg => absurd hg (by simp [guardOf, eg]), fun _ => trivial⟩)
        case o9 => (refine StepOK.plain rfl ?_; intro ρ w1 R hρ hb hp hR; have e112 : ρ (.tmp 112) = _ := hp 4 112 rfl rfl; have f116 := hp 8 116 rfl rfl; have hcon := hρ.con; have hfn := hρ.fn; clear hρ hp; unfold OpRun; go_simp; exact hR _ _ (Below.refl _ _) rfl)
        case after =>
          intro u wn hb hf
          have e117 : u 117 = _ := hf 9 117 (by omega) rfl
          clear hf
          simp only [putAll, Act.put, List.setIfInBounds_toArray, List.set_cons_zero, List.set_cons_succ, List.drop_succ_cons, List.drop_zero, List.drop_nil]
          rw [e117]
          go_wp2_with fail
          go_ret
          exact ⟨rfl, below_trans yb hb⟩
      · by_cases c2 : 0 < u2
        · obtain ⟨e1, e2, e3⟩ := HB.out 4 (by rw [HIE.out, if_neg (fun h => by have := HQ2.out.1 c2; omega)]) (by omega)
          subst e1 e2 e3
          clear HB HG HIE
          refine wp_region_grow 10 [108, 109, 110, 111, 112, 113, 114, 115, 116, 117] [Fact.is (.agg #[.bool (zneg V), .slice aV (zl V).length cV]), Fact.z 3 (-9223372036854775808), Fact.is (.int .i64 u1), Fact.is (.bool false), Fact.is (.bool false), Fact.is (.agg #[.bool (zneg V), .slice aV (zl V).length cV]), Fact.z 3 9223372036854775807, Fact.is (.int .i64 u2), Fact.is (.bool true), Fact.is (.bool true)] (by kernel_rfl) (by kernel_rfl) ⟨?o0, ?o1, ?o2, ?o3, ?o4, ?o5, ?o6, ?o7, ?o8, ?o9, trivial⟩ ?after
          case o0 => (refine StepOK.plain rfl ?_; intro ρ w1 R hρ hb hp hR; have e20 : ρ (.tmp 20) = .pointer (some ⟨gV, 0, none⟩) := hρ.tmp 20 rfl; obtain ⟨j0, j1, -, -, -⟩ := zV.below hb; have hcon := hρ.con; have hfn := hρ.fn; clear hρ hp; unfold OpRun; go_simp; exact hR _ _ (Below.refl _ _) rfl)
          case o1 => (refine StepOK.plain rfl ?_; intro ρ w1 R hρ hb hp hR; have hcon := hρ.con; have hfn := hρ.fn; clear hρ hp; unfold OpRun; go_simp; (refine (ZN1.out _).mono ?_; rintro e wn ⟨az, cz, rfl, hz9, hbn⟩; exact ⟨_, rfl, hR _ _ hbn ⟨az, cz, rfl, hz9⟩⟩))
          case o2 => (refine StepOK.plain rfl ?_; intro ρ w1 R hρ hb hp hR; have e108 : ρ (.tmp 108) = _ := hp 0 108 rfl rfl; have f109 := hp 1 109 rfl rfl; obtain ⟨a109, c109, e109, hz109⟩ := f109; have hcon := hρ.con; have hfn := hρ.fn; clear hρ hp; unfold OpRun; go_simp; (refine (ZC1.out _ _ _ (HNV.out.below hb) hz109).mono ?_; rintro e wn ⟨rfl, hbn⟩; exact ⟨_, rfl, hR _ _ hbn rfl⟩))
          case o3 => (refine StepOK.plain rfl ?_; intro ρ w1 R hρ hb hp hR; have e110 : ρ (.tmp 110) = _ := hp 2 110 rfl rfl; have hcon := hρ.con; have hfn := hρ.fn; clear hρ hp; unfold OpRun; go_simp; exact hR _ _ (Below.refl _ _) rfl)
          case o4 => (refine StepOK.plain rfl ?_; intro ρ w1 R hρ hb hp hR; have e111 : ρ (.tmp 111) = _ := hp 3 111 rfl rfl; have hcon := hρ.con; have hfn := hρ.fn; clear hρ hp; unfold OpRun; go_simp; exact hR _ _ (Below.refl _ _) rfl)
          case o5 => (intro ρ w1 R hρ hb hp hR; have eg : ρ (.tmp 112) = .bool false := hp 4 112 rfl rfl; refine ⟨fun _ => ?_, fun hg => absurd hg (by simp [guardOf, eg])⟩; clear eg; have e20 : ρ (.tmp 20) = .pointer (some ⟨gV, 0, none⟩) := hρ.tmp 20 rfl; obtain ⟨j0, j1, -, -, -⟩ := zV.below hb; have hcon := hρ.con; have hfn := hρ.fn; clear hρ hp; unfold OpRun; go_simp; exact hR _ _ (Below.refl _ _) rfl)
          case o6 => (intro ρ w1 R hρ hb hp hR; have eg : ρ (.tmp 112) = .bool false := hp 4 112 rfl rfl; refine ⟨fun _ => ?_, fun hg => absurd hg (by simp [guardOf, eg])⟩; clear eg; skip; have hcon := hρ.con; have hfn := hρ.fn; clear hρ hp; unfold OpRun; go_simp; (refine (ZN2.out _).mono ?_; rintro e wn ⟨az, cz, rfl, hz9, hbn⟩; exact ⟨_, rfl, hR _ _ hbn ⟨az, cz, rfl, hz9⟩⟩))
          case o7 => (intro ρ w1 R hρ hb hp hR; have eg : ρ (.tmp 112) = .bool false := hp 4 112 rfl rfl; refine ⟨fun _ => ?_, fun hg => absurd hg (by simp [guardOf, eg])⟩; clear eg; have e113 : ρ (.tmp 113) = _ := hp 5 113 rfl rfl; have f114 := hp 6 114 rfl rfl; obtain ⟨a114, c114, e114, hz114⟩ := f114; have hcon := hρ.con; have hfn := hρ.fn; clear hρ hp; unfold OpRun; go_simp; (refine (ZC2.out _ _ _ (HNV.out.below hb) hz114).mono ?_; rintro e wn ⟨rfl, hbn⟩; exact ⟨_, rfl, hR _ _ hbn rfl⟩))
          case o8 => (intro ρ w1 R hρ hb hp hR; have eg : ρ (.tmp 112) = .bool false := hp 4 112 rfl rfl; refine ⟨fun _ => ?_, fun hg => absurd hg (by simp [guardOf, eg])⟩; clear eg; have e115 : ρ (.tmp 115) = _ := hp 7 115 rfl rfl; have hcon := hρ.con; have hfn := hρ.fn; clear hρ hp; unfold OpRun; go_simp; exact hR _ _ (Below.refl _ _) rfl)
          case o9 => (refine StepOK.plain rfl ?_; intro ρ w1 R hρ hb hp hR; have e112 : ρ (.tmp 112) = _ := hp 4 112 rfl rfl; have e116 : ρ (.tmp 116) = _ := hp 8 116 rfl rfl; have hcon := hρ.con; have hfn := hρ.fn; clear hρ hp; unfold OpRun; go_simp; exact hR _ _ (Below.refl _ _) rfl)
          case after =>
            intro u wn hb hf
            have e117 : u 117 = _ := hf 9 117 (by omega) rfl
            clear hf
            simp only [putAll, Act.put, List.setIfInBounds_toArray, List.set_cons_zero, List.set_cons_succ, List.drop_succ_cons, List.drop_zero, List.drop_nil]
            rw [e117]
            go_wp2_with fail
            go_ret
            exact ⟨rfl, below_trans yb hb⟩
        · have hr : -9223372036854775808 ≤ V ∧ V ≤ 9223372036854775807 := by
            have a1 := HQ1.out
            have a2 := HQ2.out
            constructor
            · exact Int.not_lt.1 (fun h => c1 (a1.2 h))
            · exact Int.not_lt.1 (fun h => c2 (a2.2 h))
          obtain ⟨e1, e2, e3⟩ := HG.out (by rw [HIE.out, if_pos hr])
          have ZO := hid (fun w => zOfInt_any V hr.1 hr.2 w)
          have ZC3 := hid (show ∀ a c w, Nz 3 w a c (zl V) → Nz 3 w aV cV (zl V) → Calls Tryd.prog 65 #[.agg #[.bool (zneg V), .slice a (zl V).length c], .agg #[.bool (zneg V), .slice aV (zl V).length cV]] w fun e w' => e = .returned (.int .i64 0) ∧ Below w.heap.size w w' from fun a c w h0 h1 => by
            have h := zcmp_any a aV c cV V V w h0 h1
            rw [(cmpI_eq_zero V V).2 rfl] at h; exact h)
          replace e1 := e1.symm
          replace e2 := e2.symm
          subst e1 e2 e3
          clear HB HG HIE hr
          refine wp_region_grow 10 [108, 109, 110, 111, 112, 113, 114, 115, 116, 117] [Fact.is (.agg #[.bool (zneg V), .slice aV (zl V).length cV]), Fact.z 3 (-9223372036854775808), Fact.is (.int .i64 u1), Fact.is (.bool false), Fact.is (.bool false), Fact.is (.agg #[.bool (zneg V), .slice aV (zl V).length cV]), Fact.z 3 9223372036854775807, Fact.is (.int .i64 u2), Fact.is (.bool false), Fact.is (.bool false)] (by kernel_rfl) (by kernel_rfl) ⟨?o0, ?o1, ?o2, ?o3, ?o4, ?o5, ?o6, ?o7, ?o8, ?o9, trivial⟩ ?after
          case o0 => (refine StepOK.plain rfl ?_; intro ρ w1 R hρ hb hp hR; have e20 : ρ (.tmp 20) = .pointer (some ⟨gV, 0, none⟩) := hρ.tmp 20 rfl; obtain ⟨j0, j1, -, -, -⟩ := zV.below hb; have hcon := hρ.con; have hfn := hρ.fn; clear hρ hp; unfold OpRun; go_simp; exact hR _ _ (Below.refl _ _) rfl)
          case o1 => (refine StepOK.plain rfl ?_; intro ρ w1 R hρ hb hp hR; have hcon := hρ.con; have hfn := hρ.fn; clear hρ hp; unfold OpRun; go_simp; (refine (ZN1.out _).mono ?_; rintro e wn ⟨az, cz, rfl, hz9, hbn⟩; exact ⟨_, rfl, hR _ _ hbn ⟨az, cz, rfl, hz9⟩⟩))
          case o2 => (refine StepOK.plain rfl ?_; intro ρ w1 R hρ hb hp hR; have e108 : ρ (.tmp 108) = _ := hp 0 108 rfl rfl; have f109 := hp 1 109 rfl rfl; obtain ⟨a109, c109, e109, hz109⟩ := f109; have hcon := hρ.con; have hfn := hρ.fn; clear hρ hp; unfold OpRun; go_simp; (refine (ZC1.out _ _ _ (HNV.out.below hb) hz109).mono ?_; rintro e wn ⟨rfl, hbn⟩; exact ⟨_, rfl, hR _ _ hbn rfl⟩))
          case o3 => (refine StepOK.plain rfl ?_; intro ρ w1 R hρ hb hp hR; have e110 : ρ (.tmp 110) = _ := hp 2 110 rfl rfl; have hcon := hρ.con; have hfn := hρ.fn; clear hρ hp; unfold OpRun; go_simp; exact hR _ _ (Below.refl _ _) rfl)
          case o4 => (refine StepOK.plain rfl ?_; intro ρ w1 R hρ hb hp hR; have e111 : ρ (.tmp 111) = _ := hp 3 111 rfl rfl; have hcon := hρ.con; have hfn := hρ.fn; clear hρ hp; unfold OpRun; go_simp; exact hR _ _ (Below.refl _ _) rfl)
          case o5 => (intro ρ w1 R hρ hb hp hR; have eg : ρ (.tmp 112) = .bool false := hp 4 112 rfl rfl; refine ⟨fun _ => ?_, fun hg => absurd hg (by simp [guardOf, eg])⟩; clear eg; have e20 : ρ (.tmp 20) = .pointer (some ⟨gV, 0, none⟩) := hρ.tmp 20 rfl; obtain ⟨j0, j1, -, -, -⟩ := zV.below hb; have hcon := hρ.con; have hfn := hρ.fn; clear hρ hp; unfold OpRun; go_simp; exact hR _ _ (Below.refl _ _) rfl)
          case o6 => (intro ρ w1 R hρ hb hp hR; have eg : ρ (.tmp 112) = .bool false := hp 4 112 rfl rfl; refine ⟨fun _ => ?_, fun hg => absurd hg (by simp [guardOf, eg])⟩; clear eg; skip; have hcon := hρ.con; have hfn := hρ.fn; clear hρ hp; unfold OpRun; go_simp; (refine (ZN2.out _).mono ?_; rintro e wn ⟨az, cz, rfl, hz9, hbn⟩; exact ⟨_, rfl, hR _ _ hbn ⟨az, cz, rfl, hz9⟩⟩))
          case o7 => (intro ρ w1 R hρ hb hp hR; have eg : ρ (.tmp 112) = .bool false := hp 4 112 rfl rfl; refine ⟨fun _ => ?_, fun hg => absurd hg (by simp [guardOf, eg])⟩; clear eg; have e113 : ρ (.tmp 113) = _ := hp 5 113 rfl rfl; have f114 := hp 6 114 rfl rfl; obtain ⟨a114, c114, e114, hz114⟩ := f114; have hcon := hρ.con; have hfn := hρ.fn; clear hρ hp; unfold OpRun; go_simp; (refine (ZC2.out _ _ _ (HNV.out.below hb) hz114).mono ?_; rintro e wn ⟨rfl, hbn⟩; exact ⟨_, rfl, hR _ _ hbn rfl⟩))
          case o8 => (intro ρ w1 R hρ hb hp hR; have eg : ρ (.tmp 112) = .bool false := hp 4 112 rfl rfl; refine ⟨fun _ => ?_, fun hg => absurd hg (by simp [guardOf, eg])⟩; clear eg; have e115 : ρ (.tmp 115) = _ := hp 7 115 rfl rfl; have hcon := hρ.con; have hfn := hρ.fn; clear hρ hp; unfold OpRun; go_simp; exact hR _ _ (Below.refl _ _) rfl)
          case o9 => (refine StepOK.plain rfl ?_; intro ρ w1 R hρ hb hp hR; have e112 : ρ (.tmp 112) = _ := hp 4 112 rfl rfl; have e116 : ρ (.tmp 116) = _ := hp 8 116 rfl rfl; have hcon := hρ.con; have hfn := hρ.fn; clear hρ hp; unfold OpRun; go_simp; exact hR _ _ (Below.refl _ _) rfl)
          case after =>
            intro u wn hb hf
            have e117 : u 117 = _ := hf 9 117 (by omega) rfl
            clear hf
            simp only [putAll, Act.put, List.setIfInBounds_toArray, List.set_cons_zero, List.set_cons_succ, List.drop_succ_cons, List.drop_zero, List.drop_nil]
            rw [e117]
            go_upto_region 22 with fail
            obtain ⟨W2, hW2⟩ : ∃ Y, Y = wn := ⟨_, rfl⟩
            have zV2 := zV.below hb
            have HNV2 := hid (HNV.out.below hb)
            have yb2 := below_trans yb hb
            subst hW2
            clear hb zV HNV yb ZN1 ZN2 ZC1 ZC2
            refine wp_region_grow 15 [128, 129, 130, 131, 132, 133, 134, 135, 136, 137, 138, 139, 140, 141, 6] [Fact.is (.int .i64 V), Fact.z 3 V, Fact.is (.agg #[.bool (zneg V), .slice aV (zl V).length cV]), Fact.is (.int .i64 0), Fact.is (.bool true), Fact.is (.bool true), Fact.is (.bool wc), Fact.is (.bool wc), Fact.is (.bool true), Fact.is (.bool true), Fact.is (.bool true), Fact.is (.int .i64 0), Fact.is (.bool true), Fact.is (.bool true), Fact.is (.bool true)] (by kernel_rfl) (by kernel_rfl) ⟨?o0, ?o1, ?o2, ?o3, ?o4, ?o5, ?o6, ?o7, ?o8, ?o9, ?o10, ?o11, ?o12, ?o13, ?o14, trivial⟩ ?after
            case o0 => (refine StepOK.plain rfl ?_; intro ρ w1 R hρ hb hp hR; have e10 : ρ (.tmp 10) = .int .i64 V := hρ.tmp 10 rfl; have hcon := hρ.con; have hfn := hρ.fn; clear hρ hp; unfold OpRun; go_simp; exact hR _ _ (Below.refl _ _) rfl)
            case o1 => (refine StepOK.plain rfl ?_; intro ρ w1 R hρ hb hp hR; have e128 : ρ (.tmp 128) = _ := hp 0 128 rfl rfl; have hcon := hρ.con; have hfn := hρ.fn; clear hρ hp; unfold OpRun; go_simp; (refine (ZO.out _).mono ?_; rintro e wn ⟨az, cz, rfl, hz9, hbn⟩; exact ⟨_, rfl, hR _ _ hbn ⟨az, cz, rfl, hz9⟩⟩))
            case o2 => (refine StepOK.plain rfl ?_; intro ρ w1 R hρ hb hp hR; have e20 : ρ (.tmp 20) = .pointer (some ⟨gV, 0, none⟩) := hρ.tmp 20 rfl; obtain ⟨j0, j1, -, -, -⟩ := zV2.below hb; have hcon := hρ.con; have hfn := hρ.fn; clear hρ hp; unfold OpRun; go_simp; exact hR _ _ (Below.refl _ _) rfl)
            case o3 => (refine StepOK.plain rfl ?_; intro ρ w1 R hρ hb hp hR; have f129 := hp 1 129 rfl rfl; have e130 : ρ (.tmp 130) = _ := hp 2 130 rfl rfl; obtain ⟨a129, c129, e129, hz129⟩ := f129; have hcon := hρ.con; have hfn := hρ.fn; clear hρ hp; unfold OpRun; go_simp; (refine (ZC3.out _ _ _ hz129 (HNV2.out.below hb)).mono ?_; rintro e wn ⟨rfl, hbn⟩; exact ⟨_, rfl, hR _ _ hbn rfl⟩))
            case o4 => (refine StepOK.plain rfl ?_; intro ρ w1 R hρ hb hp hR; have e131 : ρ (.tmp 131) = _ := hp 3 131 rfl rfl; have hcon := hρ.con; have hfn := hρ.fn; clear hρ hp; unfold OpRun; go_simp; exact hR _ _ (Below.refl _ _) rfl)
            case o5 => (refine StepOK.plain rfl ?_; intro ρ w1 R hρ hb hp hR; have e132 : ρ (.tmp 132) = _ := hp 4 132 rfl rfl; have hcon := hρ.con; have hfn := hρ.fn; clear hρ hp; unfold OpRun; go_simp; exact hR _ _ (Below.refl _ _) rfl)
            case o6 => (intro ρ w1 R hρ hb hp hR; have eg : ρ (.tmp 133) = .bool true := hp 5 133 rfl rfl; refine ⟨fun _ => ?_, fun hg => absurd hg (by simp [guardOf, eg])⟩; clear eg; have e11 : ρ (.tmp 11) = .bool wc := hρ.tmp 11 rfl; have hcon := hρ.con; have hfn := hρ.fn; clear hρ hp; unfold OpRun; go_simp; exact hR _ _ (Below.refl _ _) rfl)
            case o7 => (intro ρ w1 R hρ hb hp hR; have eg : ρ (.tmp 133) = .bool true := hp 5 133 rfl rfl; refine ⟨fun _ => ?_, fun hg => absurd hg (by simp [guardOf, eg])⟩; clear eg; have e21 : ρ (.tmp 21) = .bool wc := hρ.tmp 21 rfl; have hcon := hρ.con; have hfn := hρ.fn; clear hρ hp; unfold OpRun; go_simp; exact hR _ _ (Below.refl _ _) rfl)
            case o8 => (intro ρ w1 R hρ hb hp hR; have eg : ρ (.tmp 133) = .bool true := hp 5 133 rfl rfl; refine ⟨fun _ => ?_, fun hg => absurd hg (by simp [guardOf, eg])⟩; clear eg; have e134 : ρ (.tmp 134) = _ := hp 6 134 rfl rfl; have e135 : ρ (.tmp 135) = _ := hp 7 135 rfl rfl; have hcon := hρ.con; have hfn := hρ.fn; clear hρ hp; unfold OpRun; go_simp; exact hR _ _ (Below.refl _ _) rfl)
            case o9 => (refine StepOK.plain rfl ?_; intro ρ w1 R hρ hb hp hR; have e133 : ρ (.tmp 133) = _ := hp 5 133 rfl rfl; have e136 : ρ (.tmp 136) = _ := hp 8 136 rfl rfl; have hcon := hρ.con; have hfn := hρ.fn; clear hρ hp; unfold OpRun; go_simp; exact hR _ _ (Below.refl _ _) rfl)
            case o10 => (refine StepOK.plain rfl ?_; intro ρ w1 R hρ hb hp hR; have e137 : ρ (.tmp 137) = _ := hp 9 137 rfl rfl; have hcon := hρ.con; have hfn := hρ.fn; clear hρ hp; unfold OpRun; go_simp; exact hR _ _ (Below.refl _ _) rfl)
            case o11 => (intro ρ w1 R hρ hb hp hR; have eg : ρ (.tmp 138) = .bool true := hp 10 138 rfl rfl; refine ⟨fun _ => ?_, fun hg => absurd hg (by simp [guardOf, eg])⟩; clear eg; have e12 : ρ (.tmp 12) = .int .i64 0 := hρ.tmp 12 rfl; have hcon := hρ.con; have hfn := hρ.fn; clear hρ hp; unfold OpRun; go_simp; exact hR _ _ (Below.refl _ _) rfl)
            case o12 => (intro ρ w1 R hρ hb hp hR; have eg : ρ (.tmp 138) = .bool true := hp 10 138 rfl rfl; refine ⟨fun _ => ?_, fun hg => absurd hg (by simp [guardOf, eg])⟩; clear eg; have e139 : ρ (.tmp 139) = _ := hp 11 139 rfl rfl; have hcon := hρ.con; have hfn := hρ.fn; clear hρ hp; unfold OpRun; go_simp; exact hR _ _ (Below.refl _ _) rfl)
            case o13 => (refine StepOK.plain rfl ?_; intro ρ w1 R hρ hb hp hR; have e138 : ρ (.tmp 138) = _ := hp 10 138 rfl rfl; have e140 : ρ (.tmp 140) = _ := hp 12 140 rfl rfl; have hcon := hρ.con; have hfn := hρ.fn; clear hρ hp; unfold OpRun; go_simp; exact hR _ _ (Below.refl _ _) rfl)
            case o14 => (refine StepOK.plain rfl ?_; intro ρ w1 R hρ hb hp hR; have e141 : ρ (.tmp 141) = _ := hp 13 141 rfl rfl; have hcon := hρ.con; have hfn := hρ.fn; clear hρ hp; unfold OpRun; go_simp; exact hR _ _ (Below.refl _ _) rfl)
            case after =>
              intro u wn hb hf
              have e6 : u 6 = _ := hf 14 6 (by omega) rfl
              clear hf
              simp only [putAll, Act.put, List.setIfInBounds_toArray, List.set_cons_zero, List.set_cons_succ, List.drop_succ_cons, List.drop_zero, List.drop_nil]
              rw [e6]
              go_wp2_with fail
              go_ret
              exact ⟨rfl, below_trans yb2 hb⟩
end Go.Proofs.YteaakbeemhmciaaDoor
