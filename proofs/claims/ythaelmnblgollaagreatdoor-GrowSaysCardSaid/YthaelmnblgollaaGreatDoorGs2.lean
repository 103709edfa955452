/- Expansions: PartsRight. -/
import Derived.Test.YthaelmnblgollaaGreatDoorGs1
import Derived.Test.YthaelmnblgollaaGreatDoorZt
set_option linter.unusedVariables false
set_option linter.unusedSimpArgs false
namespace Go.Ulp
open Go.RowKit
/-- the lowest power of two in a value's parts -/
theorem tw_exp (X : Int) (n : Nat) (D : Dy) (h : nrm X (-(n : Int)) = D) (hX : X ≠ 0) : (tw X.natAbs : Int) - (n : Int) = D.2 := by
  rw [← h]
  unfold nrm
  rw [if_neg hX]
  show _ = -(n : Int) + (tw X.natAbs : Int)
  omega
end Go.Ulp
namespace Go.Proofs.YthaelmnblgollaaGreatDoor
open Go.RowKit Go.Ulp
set_option linter.unusedVariables false
set_option linter.unusedSimpArgs false
set_option maxHeartbeats 2000000
set_option maxRecDepth 100000
theorem fv_nz_p (x : Int) (h0 : 0 ≤ x) (h1 : x < 18446744073709551616) (hv : hasVal x = true) (hz : classOf x ≠ 1) : (fv x).1 ≠ 0 := by
  have h4 : classOf x < 4 := by
    have := hasVal_lt x h0 h1
    rw [hv] at this
    exact of_decide_eq_true this
  rw [fv_uV x h0 h1 h4]
  intro h
  exact hz ((uV_zero_iff x h0 h1 h4).1 ((nrm_zero_iff _ _).1 h))
theorem partsRight_any (ao : Option Addr) (cap : Nat) (L : List Nat) (w : World) (h : Ns .u64 w ao cap L) (hL : ∀ j, lb L j < 18446744073709551616) :
    Calls Tryz.prog 13 #[.slice ao L.length cap] w fun e w' => e = .returned (.int .i64 (prE L)) ∧ Below w.heap.size w w' := by
  have HN := hid h
  have hcap := h.1
  have hcap2 := h.2.1
  unfold maxLen at hcap2
  have HP := hid (show prE L = if 60 < L.length then 2 else if noTo L L.length = true then 4 else if badTo L L.length = true then 3 else 0 from rfl)
  have NS := hid (show ∀ i, noTo L (i + 1) = (noTo L i || !hasVal (lb L i)) from fun _ => rfl)
  have NI := hid (noTo_iff L L.length)
  have BS := hid (show ∀ i, badTo L (i + 1) = (badTo L i || badA L i) from fun _ => rfl)
  have BA := hid (show ∀ i, badA L i = (decide (classOf (lb L i) = 1) || (decide (0 < i) && decide ((fv (lb L i)).2 ≤ hfK (fv (lb L (i - 1)))))) from fun _ => rfl)
  have BM := hid (fun i h => badTo_mono L i h L.length)
  have BT := hid (fun i j h hj => badTo_at L i j h hj)
  have HV := hid (fun j w => rHasValue_any (lb L j) (lb_nonneg _ _) (hL j) w)
  have IZ := hid (fun j w => rIsZero_any (lb L j) (lb_nonneg _ _) (hL j) w)
  have QVa := hid (fun j w => qval_any (lb L j) (lb_nonneg _ _) (hL j) w)
  have FS := hid (fun j => fv_small_p (lb L j) (lb_nonneg _ _) (hL j))
  have NZ := hid (fun j (h : hasVal (lb L j) = true) (h2 : classOf (lb L j) ≠ 1) => fv_nz_p (lb L j) (lb_nonneg _ _) (hL j) h h2)
  have HL := hid (fun j => hL j)
  obtain ⟨E, hE⟩ : ∃ E, E = prE L := ⟨_, rfl⟩
  rw [← hE] at HP ⊢
  clear h hL hE
  by_cases hl : 60 < L.length
  · have HE := hid (show E = 2 by rw [HP.out, if_pos hl])
    have hl2 : 60 < (L.length : Int) := by omega
    clear HP hl NS NI BS BA BM BT
    go_enter Tryz.func13, Tryz.ntmps13
    go_wp2_with fail
    go_ret
    exact ⟨by rw [HE.out]; rfl, Below.refl _ _⟩
  · have hl2 : ¬ 60 < (L.length : Int) := by omega
    have HP2 := hid (show E = if noTo L L.length = true then 4 else if badTo L L.length = true then 3 else 0 by rw [HP.out, if_neg hl])
    clear HP
    go_enter Tryz.func13, Tryz.ntmps13
    go_upto_region 3 with fail
    go_wp2_with fail
    go_loopw [4, 16] (fun s4 s16 wr => ∃ i : Nat, s16 = .int .i64 (i : Int) ∧ i ≤ L.length ∧ (∀ j, j < i → hasVal (lb L j) = true) ∧ w = wr) (fun _ i _ => (L.length - (intOf i).toNat))
    case atStart => exact ⟨0, rfl, by omega, fun j hj => absurd hj (Nat.not_lt_zero j), rfl⟩
    case round =>
      obtain ⟨i, rfl, hi, hdr, rfl⟩ := hrel
      have HD := hid hdr
      clear hdr
      by_cases hi2 : (i : Int) < (L.length : Int)
      · obtain ⟨b0, o0, rfl, hc0⟩ := HN.out.2.2 (by omega)
        have k0 := hc0 i (by omega)
        have H0 := hid (HV.out i)
        cases hv : hasVal (lb L i)
        · have HE := hid (show E = 4 by rw [HP2.out, if_pos (NI.out.2 ⟨i, by omega, hv⟩)])
          rw [hv] at H0
          clear hv HP2 NS NI BS BA BM BT hc0
          obtain ⟨x, hx⟩ : ∃ x, x = lb L i := ⟨_, rfl⟩
          rw [← hx] at k0 H0
          clear hx
          go_wp2_with (go_at_call 19; (with_reducible refine (H0.out _).mono ?_); rintro en w2 ⟨rfl, rfl⟩)
          go_ret
          exact ⟨by rw [HE.out]; rfl, Below.refl _ _⟩
        · have HV2 := hid hv
          rw [hv] at H0
          clear hv NS NI BS BA BM BT hc0
          obtain ⟨x, hx⟩ : ∃ x, x = lb L i := ⟨_, rfl⟩
          rw [← hx] at k0 H0
          have HX := hid hx
          clear hx
          go_wp2_with (go_at_call 19; (with_reducible refine (H0.out _).mono ?_); rintro en w2 ⟨rfl, rfl⟩)
          go_roundw
          case rel => exact ⟨i + 1, by go_num, by omega, fun j hj => by
            by_cases e : j = i
            · rw [e]; exact HV2.out
            · exact HD.out j (by omega), by first | rfl | trivial⟩
          case measure => first | (simp [intOf]; done) | (simp [intOf]; omega)
      · have hno : noTo L L.length = false := by
          cases hn : noTo L L.length with
          | false => rfl
          | true =>
            obtain ⟨j, h1, h2⟩ := NI.out.1 hn
            rw [HD.out j (by omega)] at h2; cases h2
        have HP3 := hid (show E = if badTo L L.length = true then 3 else 0 by rw [HP2.out, hno]; rfl)
        have HD2 := hid (show ∀ j, j < L.length → hasVal (lb L j) = true from fun j hj => HD.out j (by omega))
        have hcc : ¬ (i : Int) < (L.length : Int) := hi2
        clear HP2 hno NS NI HD HV
        go_upto_region 9 with fail
        go_wp2_with fail
        go_loopw [5, 6, 7, 8, 9, 10, 26] (fun _ _ _ _ _ _ s26 wr => ∃ i : Nat, s26 = .int .i64 (i : Int) ∧ i ≤ L.length ∧ badTo L i = false ∧ Below w.heap.size w wr) (fun _ _ _ _ _ _ i _ => (L.length - (intOf i).toNat))
        case atStart => exact ⟨0, rfl, by omega, rfl, Below.refl _ _⟩
        case round =>
          obtain ⟨k, rfl, hk, hbd, yr⟩ := hrel
          have HBD := hid hbd
          clear hbd hi hi2 hcc
          by_cases hk2 : (k : Int) < (L.length : Int)
          · obtain ⟨b0, o0, rfl, hc0⟩ := HN.out.2.2 (by omega)
            have HC0 := hid hc0
            have k0 := (yr.cell (p := ⟨b0, o0 + k, none⟩) (World.block_lt_of_cell? _ _ (hc0 k (by omega)))).trans (hc0 k (by omega))
            have Z0 := hid (IZ.out k)
            have V0 := hid (QVa.out k)
            have F0 := FS.out k
            have BS0 := hid (BS.out k)
            have BA0 := hid (BA.out k)
            have BM0 := hid (fun h => BM.out (k + 1) h (by omega))
            have BT0 := hid (fun j hj => BT.out k j HBD.out hj)
            have NZ0 := hid (NZ.out k (HD2.out k (by omega)))
            obtain ⟨x, hx⟩ : ∃ x, x = lb L k := ⟨_, rfl⟩
            rw [← hx] at k0 Z0 V0 F0 BA0 NZ0
            clear hx hc0
            by_cases h1 : classOf x = 1
            · have HE := hid (show E = 3 by
                rw [HP3.out, BM0.out (by rw [BS0.out, BA0.out, decide_eq_true h1]; simp)]; rfl)
              have ez : isZer x = true := beq_iff_eq.2 h1
              rw [ez] at Z0
              clear h1 BA0 BS0 BM0 HP3 BS BA BM ez BT BT0
              go_wp2_with (go_at_call 54; (with_reducible refine (Z0.out _).mono ?_); rintro en w2 ⟨rfl, rfl⟩)
              go_ret
              exact ⟨by rw [HE.out]; rfl, yr⟩
            · have BA1 := hid (show badA L k = (decide (0 < k) && decide ((fv x).2 ≤ hfK (fv (lb L (k - 1))))) by rw [BA0.out, decide_eq_false h1, Bool.false_or])
              have ez : isZer x = false := beq_eq_false_iff_ne.2 h1
              rw [ez] at Z0
              have hnz := NZ0.out h1
              clear BA0 ez h1 NZ0
              by_cases h0 : k = 0
              · have HB2 := hid (show badTo L (k + 1) = false by rw [BS0.out, HBD.out, BA1.out, h0]; rfl)
                have hz1 : ¬ 0 < (k : Int) := by omega
                have hz2 : decide (0 < k) = false := decide_eq_false (by omega)
                clear BA1 BS0 BM0 h0 hnz
                go_wp2_with (go_at_call 54; (with_reducible refine (Z0.out _).mono ?_); rintro en w2 ⟨rfl, rfl⟩)
                go_roundw
                case rel => exact ⟨k + 1, by go_num, by omega, HB2.out, yr⟩
                case measure => first | (simp [intOf]; done) | (simp [intOf]; omega)
              · obtain ⟨p, hp⟩ : ∃ p, k = p + 1 := ⟨k - 1, by omega⟩
                have BA2 := hid (show badA L k = decide ((fv x).2 ≤ hfK (fv (lb L p))) by rw [BA1.out, decide_eq_true (show 0 < k by omega), Bool.true_and, show k - 1 = p by omega])
                have k1 := (yr.cell (p := ⟨b0, o0 + p, none⟩) (World.block_lt_of_cell? _ _ (HC0.out p (by omega)))).trans (HC0.out p (by omega))
                have V1 := hid (QVa.out p)
                have F1 := FS.out p
                have ny : (fv (lb L p)).1 ≠ 0 := NZ.out p (HD2.out p (by omega)) (fun hc => by
                  have h9 := BT0.out p (by omega)
                  rw [BA.out p, decide_eq_true hc] at h9
                  simp at h9)
                have hcw := HC0.out p (by omega)
                obtain ⟨y, hy⟩ : ∃ y, y = lb L p := ⟨_, rfl⟩
                rw [← hy] at k1 V1 F1 BA2 ny hcw
                have hpl : (p : Int) < (L.length : Int) := by omega
                have HCW := hid hcw
                clear hcw k1
                have hp1 : (k : Int) - 1 = (p : Int) := by omega
                have hp2 : 0 < (k : Int) := by omega
                have hp3 : decide (0 < k) = true := decide_eq_true (by omega)
                have hwp : IntKind.i64.wrap (p : Int) = (p : Int) := IntWalk.i64_in _ (by omega)
                have ct := cmp_top (fv y) (fv x).2 ny
                obtain ⟨cv, hcv⟩ : ∃ cv, cv = cmpD (absD (fv y)) (nrm 1 (fv x).2) := ⟨_, rfl⟩
                rw [← hcv] at ct
                obtain ⟨bd, hbd⟩ : ∃ b, decide (0 ≤ cv) = b := ⟨_, rfl⟩
                have HA := hid (show badA L k = bd by rw [BA2.out, ← hbd, decide_eq_decide]; exact ct.symm)
                have QAb := hid (fun v w h => qabs_any v (fv y) 1200 1100 w h (by omega) (by omega))
                have QM := hid (fun a c w h0 => qmake_any a c 1 (fv x).2 2 3000 w h0 (by decide) (by omega) (by omega) (by omega))
                have QC := hid (show ∀ v u w, QD 3 w (absD (fv y)) 1200 1100 v → QD 3 w (nrm 1 (fv x).2) (2 + 3000) 3000 u → Calls Tryz.prog 18 #[v, u] w fun e w' => e = .returned (.int .i64 cv) ∧ Below w.heap.size w w' from fun v u w k0 k1 => by
                  rw [hcv]; exact qcmp_any v u (absD (fv y)) (nrm 1 (fv x).2) 1200 1100 (2 + 3000) 3000 w k0 k1 (by omega) (by omega) (by omega) (by omega))
                have ZN1 := hid (show ∀ w, Calls Tryz.prog 70 #[.int .i64 1] w fun e w' => RetZ 3 w 1 e w' from fun w => zN_any 1 (by omega) w)
                obtain ⟨-, f3, f4, -⟩ := F0
                have TX := hid (fun X n h hX => tw_exp X n (fv x) h hX)
                have HNZ := hid hnz
                obtain ⟨DY, hDY⟩ : ∃ D, D = fv y := ⟨_, rfl⟩
                rw [← hDY] at V1 QAb QC
                obtain ⟨AY, hAY⟩ : ∃ D, D = absD DY := ⟨_, rfl⟩
                rw [← hAY] at QAb QC
                obtain ⟨DX, hDX⟩ : ∃ D, D = fv x := ⟨_, rfl⟩
                rw [← hDX] at V0 QM QC TX f3 f4 HNZ
                obtain ⟨OX, hOX⟩ : ∃ D, D = nrm 1 DX.2 := ⟨_, rfl⟩
                rw [← hOX] at QM QC
                have HBD2 := hid hbd
                clear hDY hAY hDX hOX hcv ct ny hy BA2 BA1 hnz hbd h0 hp F1 BT BT0 BS BA BM QVa IZ FS NZ HC0
                go_upto_region 16 with (first
                  | (go_at_call 54; (with_reducible refine (Z0.out _).mono ?_); rintro en w2 ⟨rfl, rfl⟩)
                  | (go_at_call 68; (with_reducible refine (V0.out _).mono ?_); rintro en w3 ⟨v7, rfl, hq7, hb3⟩; obtain ⟨X7, n7, a7, c7, rfl, hN7, hD7, hA7, hT7⟩ := id hq7))
                have hX7 : X7 ≠ 0 := fun h => HNZ.out (by rw [← hD7, h]; rfl)
                have htw := TX.out X7 n7 hD7 hX7
                have TZ := hid (fun w h => ztwos_any a7 c7 X7 w h (Nat.le_trans (zl_len_bits _ _ hA7) (by omega)) hX7)
                refine wp_wld (fun WW => Below w.heap.size w WW ∧ QW 41 3 WW w3.heap.size DX 1200 1100 X7 n7 a7 c7 ∧ Nz 3 WW a7 c7 (zl X7)) ⟨below_trans (below_trans yr hb3) (below_alloc _ _), QW.made hq7, hN7.below (below_alloc _ _)⟩ ?_
                intro W1 ⟨y1, q7, n7z⟩
                obtain ⟨g7, hg7⟩ : ∃ g, g = w3.heap.size := ⟨_, rfl⟩
                rw [← hg7] at q7 ⊢
                clear hg7 hN7 hq7 hb3 V0 yr k0 HNZ TX hX7 hD7 hA7
                obtain ⟨t, ht⟩ : ∃ t : Nat, t = tw X7.natAbs := ⟨_, rfl⟩
                obtain ⟨z, hz⟩ : ∃ z : Int, z = X7 / pw (tw X7.natAbs) := ⟨_, rfl⟩
                rw [← hz] at TZ
                rw [← ht] at TZ htw
                have HTW := hid htw
                clear ht hz htw
                obtain ⟨j0, j1, j2⟩ := q7.cells
                go_upto_region 17 with (go_at_call 69; (with_reducible refine (TZ.out _ n7z).mono ?_); rintro en w4 ⟨a9, c9, rfl, hN9, hb4⟩)
                refine wp_wld (fun WW => Below w.heap.size w WW ∧ QW 41 3 WW g7 DX 1200 1100 X7 n7 a7 c7) ⟨below_trans (below_trans y1 hb4) (below_alloc _ _), (q7.below hb4).below (below_alloc _ _)⟩ ?_
                clear y1 q7 n7z j0 j1 j2 hN9 TZ
                intro W4 ⟨y4, q7⟩
                have hwx : IntKind.i64.wrap DX.2 = DX.2 := IntWalk.i64_in _ (by omega)
                refine wp_region_growF 7 [43, 44, 45, 46, 47, 48, 10] [Fact.z 3 1, Fact.is (.int .i64 (t : Int)), Fact.is (.pointer (some ⟨g7, 2, none⟩)), Fact.is (.int .i64 (n7 : Int)), Fact.is (.int .i64 DX.2), Fact.q 3 OX (2 + 3000) 3000, Fact.q0 W4.heap.size 41] [6] (by kernel_rfl) (by kernel_rfl) ⟨?o0, ?o1, ?o2, ?o3, ?o4, ?o5, ?o6, trivial⟩ ?after
                case o0 => (refine StepOKF.plain rfl ?_; intro ρ w1 R hρ hb hp hR; replace hR := fun v w2 h1 h2 => hR v w2 h1 h2 (fun h => absurd h (by decide)); have hcon := hρ.con; have hfn := hρ.fn; clear hρ hp; unfold OpRun; go_simp; (refine (ZN1.out _).mono ?_; rintro e wn ⟨az, cz, rfl, hz9, hbn⟩; exact ⟨_, rfl, hR _ _ hbn ⟨az, cz, rfl, hz9⟩⟩))
                case o1 => (refine StepOKF.plain rfl ?_; intro ρ w1 R hρ hb hp hR; have e8 : ρ (.tmp 8) = .int .i64 (t : Int) := hρ.tmp 8 rfl; replace hR := fun v w2 h1 h2 => hR v w2 h1 h2 (fun h => absurd h (by decide)); have hcon := hρ.con; have hfn := hρ.fn; clear hρ hp; unfold OpRun; go_simp; exact hR _ _ (Below.refl _ _) rfl)
                case o2 => (refine StepOKF.plain rfl ?_; intro ρ w1 R hρ hb hp hR; have e7 : ρ (.tmp 7) = .pointer (some ⟨g7, 0, none⟩) := hρ.tmp 7 rfl; replace hR := fun v w2 h1 h2 => hR v w2 h1 h2 (fun h => absurd h (by decide)); have hcon := hρ.con; have hfn := hρ.fn; clear hρ hp; unfold OpRun; go_simp; exact hR _ _ (Below.refl _ _) rfl)
                case o3 => (refine StepOKF.plain rfl ?_; intro ρ w1 R hρ hb hp hR; have e45 : ρ (.tmp 45) = _ := hp 2 45 rfl rfl; obtain ⟨j0, j1, j2⟩ := (q7.below hb).cells; replace hR := fun v w2 h1 h2 => hR v w2 h1 h2 (fun h => absurd h (by decide)); have hcon := hρ.con; have hfn := hρ.fn; clear hρ hp; unfold OpRun; go_simp; exact hR _ _ (Below.refl _ _) rfl)
                case o4 => (refine StepOKF.plain rfl ?_; intro ρ w1 R hρ hb hp hR; have e44 : ρ (.tmp 44) = _ := hp 1 44 rfl rfl; have e46 : ρ (.tmp 46) = _ := hp 3 46 rfl rfl; have htw := HTW.out; replace hR := fun v w2 h1 h2 => hR v w2 h1 h2 (fun h => absurd h (by decide)); have hcon := hρ.con; have hfn := hρ.fn; clear hρ hp; unfold OpRun; go_simp; exact hR _ _ (Below.refl _ _) rfl)
                case o5 => (refine StepOKF.plain rfl ?_; intro ρ w1 R hρ hb hp hR; have f43 := hp 0 43 rfl rfl; have e47 : ρ (.tmp 47) = _ := hp 4 47 rfl rfl; obtain ⟨a43, c43, e43, hz43⟩ := f43; replace hR := fun v w2 h1 h2 => hR v w2 h1 h2 (fun h => absurd h (by decide)); have hcon := hρ.con; have hfn := hρ.fn; clear hρ hp; unfold OpRun; go_simp; (skip; refine (QM.out _ _ _ hz43).mono ?_; rintro e wn ⟨v9, rfl, hv9, hbn⟩; exact ⟨_, rfl, hR _ _ hbn hv9⟩))
                case o6 => (refine StepOKF.plain rfl ?_; intro ρ w1 R hρ hb hp hR; have hcon := hρ.con; have hfn := hρ.fn; clear hρ hp; unfold OpRun; go_simp; exact hR _ _ (below_alloc _ _) ⟨_, rfl, hb.size, QL.made rfl⟩ (fun _ => ⟨_, rfl, Nat.le_refl _, by simp⟩))
                case after =>
                  intro u wn hb hf hd
                  have f10 := hf 6 10 (by omega) rfl
                  have f48 := hf 5 48 (by omega) rfl
                  clear hf hd
                  simp only [putAll, Act.put, List.setIfInBounds_toArray, List.set_cons_zero, List.set_cons_succ, List.drop_succ_cons, List.drop_zero, List.drop_nil]
                  obtain ⟨gS, e10, hgS, zS⟩ := f10
                  have hq48 := f48
                  obtain ⟨xs, ns, aq, cq, e48, hNs, hDs⟩ := f48
                  rw [e48] at hq48
                  rw [e10, e48]
                  have hst := QW.stored (by decide) hb hgS zS hq48
                  obtain ⟨⟨k0, k1, f0, f1, hs2⟩, k2, f2⟩ := id zS
                  clear e10 e48 hq48 hNs hDs
                  go_upto_region 18 with fail
                  refine wp_wld (fun WW => Below W4.heap.size W4 WW ∧ QW 41 3 WW gS OX (2 + 3000) 3000 xs ns aq cq) hst ?_
                  clear hst zS k0 k1 f0 f1 hs2 k2 f2 hb q7 HTW QM ZN1
                  intro W5 ⟨y5, q10⟩
                  replace y5 := below_trans y4 y5
                  clear y4 hgS
                  refine wp_region_grow 10 [49, 50, 51, 52, 53, 54, 55, 56, 57, 58] [Fact.is (.slice (some ⟨b0, o0, none⟩) L.length cap), Fact.is (.int .i64 (k : Int)), Fact.is (.int .i64 (p : Int)), Fact.is (.pointer (some ⟨b0, o0 + p, none⟩)), Fact.is (.int .u64 y), Fact.q 3 DY 1200 1100, Fact.q 3 AY 1200 1100, Fact.is (.agg #[.bool (zneg xs), .slice aq (zl xs).length cq, .int .i64 (ns : Int)]), Fact.is (.int .i64 cv), Fact.is (.bool bd)] (by kernel_rfl) (by kernel_rfl) ⟨?o0, ?o1, ?o2, ?o3, ?o4, ?o5, ?o6, ?o7, ?o8, ?o9, trivial⟩ ?after
                  case o0 => (refine StepOK.plain rfl ?_; intro ρ w1 R hρ hb hp hR; have e0 : ρ (.tmp 0) = .slice (some ⟨b0, o0, none⟩) L.length cap := hρ.tmp 0 rfl; have hcon := hρ.con; have hfn := hρ.fn; clear hρ hp; unfold OpRun; go_simp; exact hR _ _ (Below.refl _ _) rfl)
                  case o1 => (refine StepOK.plain rfl ?_; intro ρ w1 R hρ hb hp hR; have e5 : ρ (.tmp 5) = .int .i64 (k : Int) := hρ.tmp 5 rfl; have hcon := hρ.con; have hfn := hρ.fn; clear hρ hp; unfold OpRun; go_simp; exact hR _ _ (Below.refl _ _) rfl)
                  case o2 => (refine StepOK.plain rfl ?_; intro ρ w1 R hρ hb hp hR; have e50 : ρ (.tmp 50) = _ := hp 1 50 rfl rfl; have hcon := hρ.con; have hfn := hρ.fn; clear hρ hp; unfold OpRun; go_simp; exact hR _ _ (Below.refl _ _) rfl)
                  case o3 => (refine StepOK.plain rfl ?_; intro ρ w1 R hρ hb hp hR; have e49 : ρ (.tmp 49) = _ := hp 0 49 rfl rfl; have e51 : ρ (.tmp 51) = _ := hp 2 51 rfl rfl; have hcon := hρ.con; have hfn := hρ.fn; clear hρ hp; unfold OpRun; go_simp; exact hR _ _ (Below.refl _ _) rfl)
                  case o4 => (refine StepOK.plain rfl ?_; intro ρ w1 R hρ hb hp hR; have e52 : ρ (.tmp 52) = _ := hp 3 52 rfl rfl; have k1 := ((below_trans y5 hb).cell (p := ⟨b0, o0 + p, none⟩) (World.block_lt_of_cell? _ _ HCW.out)).trans HCW.out; have hcon := hρ.con; have hfn := hρ.fn; clear hρ hp; unfold OpRun; go_simp; exact hR _ _ (Below.refl _ _) rfl)
                  case o5 => (refine StepOK.plain rfl ?_; intro ρ w1 R hρ hb hp hR; have e53 : ρ (.tmp 53) = _ := hp 4 53 rfl rfl; have hcon := hρ.con; have hfn := hρ.fn; clear hρ hp; unfold OpRun; go_simp; (refine (V1.out _).mono ?_; rintro e wn ⟨v9, rfl, hv9, hbn⟩; exact ⟨_, rfl, hR _ _ hbn hv9⟩))
                  case o6 => (refine StepOK.plain rfl ?_; intro ρ w1 R hρ hb hp hR; have f54 := hp 5 54 rfl rfl; have hcon := hρ.con; have hfn := hρ.fn; clear hρ hp; unfold OpRun; go_simp; (refine (QAb.out _ _ f54).mono ?_; rintro e wn ⟨v9, rfl, hv9, hbn⟩; exact ⟨_, rfl, hR _ _ hbn hv9⟩))
                  case o7 => (refine StepOK.plain rfl ?_; intro ρ w1 R hρ hb hp hR; have e10 : ρ (.tmp 10) = .pointer (some ⟨gS, 0, none⟩) := hρ.tmp 10 rfl; obtain ⟨j0, j1, j2⟩ := (q10.below hb).cells; have hcon := hρ.con; have hfn := hρ.fn; clear hρ hp; unfold OpRun; go_simp; exact hR _ _ (Below.refl _ _) rfl)
                  case o8 => (refine StepOK.plain rfl ?_; intro ρ w1 R hρ hb hp hR; have f55 := hp 6 55 rfl rfl; have e56 : ρ (.tmp 56) = _ := hp 7 56 rfl rfl; have hcon := hρ.con; have hfn := hρ.fn; clear hρ hp; unfold OpRun; go_simp; (refine (QC.out _ _ _ f55 (q10.below hb).qd).mono ?_; rintro e wn ⟨rfl, hbn⟩; exact ⟨_, rfl, hR _ _ hbn rfl⟩))
                  case o9 => (refine StepOK.plain rfl ?_; intro ρ w1 R hρ hb hp hR; have e57 : ρ (.tmp 57) = _ := hp 8 57 rfl rfl; have hx9 := HBD2.out; have hcon := hρ.con; have hfn := hρ.fn; clear hρ hp; unfold OpRun; go_simp; exact hR _ _ (Below.refl _ _) rfl)
                  case after =>
                    intro u wn hb hf
                    have e58 : u 58 = _ := hf 9 58 (by omega) rfl
                    clear hf
                    simp only [putAll, Act.put, List.setIfInBounds_toArray, List.set_cons_zero, List.set_cons_succ, List.drop_succ_cons, List.drop_zero, List.drop_nil]
                    rw [e58]
                    have y6 := below_trans y5 hb
                    clear hb y5 q10
                    cases bd
                    · have HB2 := hid (show badTo L (k + 1) = false by rw [BS0.out, HBD.out, HA.out]; rfl)
                      clear HA BS0 BM0 HBD2
                      go_wp2_with fail
                      go_roundw
                      case rel => exact ⟨k + 1, by go_num, by omega, HB2.out, y6⟩
                      case measure => first | (simp [intOf]; done) | (simp [intOf]; omega)
                    · have HE := hid (show E = 3 by
                        rw [HP3.out, BM0.out (by rw [BS0.out, HA.out, Bool.or_true])]; rfl)
                      clear HA BS0 BM0 HBD2 HP3
                      go_wp2_with fail
                      go_ret
                      exact ⟨by rw [HE.out]; rfl, y6⟩
          · have HE := hid (show E = 0 by
              rw [HP3.out, show L.length = k by omega, HBD.out]; rfl)
            clear HP3 BS BA BM BT
            go_wp2_with fail
            go_ret
            exact ⟨by rw [HE.out]; rfl, yr⟩
end Go.Proofs.YthaelmnblgollaaGreatDoor
