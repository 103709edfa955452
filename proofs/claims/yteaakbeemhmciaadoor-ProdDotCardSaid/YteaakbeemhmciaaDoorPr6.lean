/- ProdDot: the law's walk. -/
import Derived.Test.YteaakbeemhmciaaDoorPr5
import Derived.Test.YteaakbeemhmciaaDoorSu2
set_option linter.unusedVariables false
set_option linter.unusedSimpArgs false
namespace Go.Ulp
open Go.RowKit
theorem sayNo_zero {L : List Nat} {i : Nat} (h : sayNo L i = 0) (j : Nat) (hj : j < i) : hasVal (lb L j) = true := by
  unfold sayNo at h
  split at h
  · omega
  · rename_i h2
    rw [Bool.not_eq_true, anyTo_false] at h2
    have h3 : (!hasVal (lb L j)) = false := h2 j hj
    cases e : hasVal (lb L j)
    · rw [e] at h3; cases h3
    · rfl
end Go.Ulp
namespace Go.Proofs.YteaakbeemhmciaaDoor
open Go.RowKit Go.Ulp
set_option linter.unusedVariables false
set_option linter.unusedSimpArgs false
set_option maxHeartbeats 2000000
set_option maxRecDepth 100000
theorem hasVal_parts {x : Int} (h0 : 0 ≤ x) (h1 : x < 18446744073709551616) (h : hasVal x = true) : isNan x = false ∧ isInf x = false ∧ classOf x < 4 := by
  rw [← hasVal_lt x h0 h1, decide_eq_true_eq] at h
  exact ⟨by unfold isNan; rw [beq_eq_false_iff_ne]; omega, by unfold isInf; rw [beq_eq_false_iff_ne]; omega, h⟩
theorem hasVal_none {x : Int} (h0 : 0 ≤ x) (h1 : x < 18446744073709551616) (h : hasVal x = false) : isNan x = true ∨ (isNan x = false ∧ isInf x = true) := by
  rw [← hasVal_lt x h0 h1, decide_eq_false_iff_not] at h
  have := class_bd x
  unfold isNan isInf
  rw [beq_iff_eq, beq_iff_eq, beq_eq_false_iff_ne]; omega
theorem prodDot_walk (L : List Nat) (ao : Option Addr) (cap : Nat) (mode : Int) (W : World) (hN : Ns .u64 W ao cap L) (hl : AllLt 18446744073709551616 L) (wm : -9223372036854775808 ≤ mode ∧ mode ≤ 9223372036854775807) (hT : Tab 0 W) :
    Calls Tryd.prog 7 #[.slice ao L.length cap, .int .i64 mode] W fun e w' => e = .returned (.bool true) ∧ Below W.heap.size W w' := by
  have hL : ∀ j, lb L j < 18446744073709551616 := fun j => lb_lt (by omega) hl j
  have hcap := hN.1
  have hcap2 := hN.2.1
  unfold maxLen at hcap2
  have BT := hid (show ∀ w, Calls Tryd.prog 27 #[.int .i64 mode, .int .i64 0, .int .i64 4] w fun e w' => e = .returned (.bool (knownB mode)) ∧ w = w' from fun w => between_any mode 0 4 w)
  have DO := hid (fun w h t => dot_any ao cap L mode w h hL t)
  have HN := hid hN
  have HT := hid hT
  clear hN hT hl wm
  cases hk : knownB mode
  · obtain ⟨e1, e2, e3⟩ := dot_bad (L := L) (mode := mode) (e := 1) (by unfold dotE; rw [hk]; rfl) (by omega)
    rw [hk] at BT
    clear hk hL
    rw [e1, e2, e3] at DO
    clear e1 e2 e3
    go_enter Tryd.func7, Tryd.ntmps7
    go_wp2_with (first
      | (go_at_call 48; (with_reducible refine (DO.out _ HN.out HT.out).mono ?_); rintro en w1 ⟨rfl, hb1⟩)
      | (go_at_call 27; (with_reducible refine (BT.out _).mono ?_); rintro en w2 ⟨rfl, rfl⟩))
    go_ret
    exact ⟨ret_bool (by simp), below_trans hb1 (below_alloc _ _)⟩
  rw [hk] at BT
  by_cases h2 : L.length % 2 = 1
  · obtain ⟨e1, e2, e3⟩ := dot_bad (L := L) (mode := mode) (e := 3) (by unfold dotE; rw [if_pos hk, if_pos h2]) (by omega)
    have hm : (L.length : Int) % 2 = 1 := by omega
    clear hk hL h2
    rw [e1, e2, e3] at DO
    clear e1 e2 e3
    go_enter Tryd.func7, Tryd.ntmps7
    go_wp2_with (first
      | (go_at_call 48; (with_reducible refine (DO.out _ HN.out HT.out).mono ?_); rintro en w1 ⟨rfl, hb1⟩)
      | (go_at_call 27; (with_reducible refine (BT.out _).mono ?_); rintro en w2 ⟨rfl, rfl⟩))
    go_ret
    exact ⟨ret_bool (by simp), below_trans hb1 (below_alloc _ _)⟩
  have hm : (L.length : Int) % 2 = 0 := by omega
  by_cases h3 : 200 < L.length
  · obtain ⟨e1, e2, e3⟩ := dot_bad (L := L) (mode := mode) (e := 2) (by unfold dotE; rw [if_pos hk, if_neg h2, if_pos h3]) (by omega)
    have h3i : (200 : Int) < (L.length : Int) := by omega
    clear hk hL h2 h3
    rw [e1, e2, e3] at DO
    clear e1 e2 e3
    go_enter Tryd.func7, Tryd.ntmps7
    go_wp2_with (first
      | (go_at_call 48; (with_reducible refine (DO.out _ HN.out HT.out).mono ?_); rintro en w1 ⟨rfl, hb1⟩)
      | (go_at_call 27; (with_reducible refine (BT.out _).mono ?_); rintro en w2 ⟨rfl, rfl⟩))
    go_ret
    exact ⟨ret_bool (by simp), below_trans hb1 (below_alloc _ _)⟩
  have h3i : ¬ (200 : Int) < (L.length : Int) := by omega
  have m01 : 0 ≤ mode ∧ mode ≤ 4 := of_decide_eq_true hk
  have hE : dotE L mode = sayNo L L.length := by unfold dotE; rw [if_pos hk, if_neg h2, if_neg h3]
  have HB := hid (fun h => dot_bad (L := L) (mode := mode) (e := 4) h (by omega))
  have HG := hid (fun h => dot_good (L := L) (mode := mode) h)
  obtain ⟨DE, hDE⟩ : ∃ z, z = dotE L mode := ⟨_, rfl⟩
  obtain ⟨DX, hDX⟩ : ∃ z, z = dotX L mode := ⟨_, rfl⟩
  obtain ⟨DCc, hDC⟩ : ∃ z, z = dotC L mode := ⟨_, rfl⟩
  rw [← hDE, ← hDX, ← hDC] at DO HB HG
  rw [← hDE] at hE
  have HE := hid hE
  have RH := hid (fun j w => rIsNan_any (lb L j) (lb_nonneg _ _) (hL j) w)
  have RI := hid (fun j w => rIsInf_any (lb L j) (lb_nonneg _ _) (hL j) w)
  have VA := hid (fun j w => qval_any (lb L j) (lb_nonneg _ _) (hL j) w)
  have HP1 := hid (fun j h => hasVal_parts (x := lb L j) (lb_nonneg _ _) (hL j) h)
  have HP2 := hid (fun j h => hasVal_none (x := lb L j) (lb_nonneg _ _) (hL j) h)
  have MU := hid (fun i j => mul_uV (x := lb L i) (y := lb L j) ⟨lb_nonneg _ _, hL i⟩ ⟨lb_nonneg _ _, hL j⟩)
  clear hE hDE hDX hDC hk hL h2 h3
  go_enter Tryd.func7, Tryd.ntmps7
  go_upto_region 3 with (go_at_call 48; (with_reducible refine (DO.out _ HN.out HT.out).mono ?_); rintro en w1 ⟨rfl, hb1⟩)
  have HN1 := hid (HN.out.below (below_trans hb1 (below_alloc w1 (.cells #[.bool false, .slice none 0 0, .int .i64 0] 42))))
  have yb0 := below_trans hb1 (below_alloc w1 (.cells #[.bool false, .slice none 0 0, .int .i64 0] 42))
  have zR0 : QV 42 3 (w1.alloc (.cells #[.bool false, .slice none 0 0, .int .i64 0] 42)) w1.heap.size (nrm 0 (-2148)) (5000 + 3000 * 0) 2200 := QV.zero _ _
  have hgw : W.heap.size ≤ w1.heap.size := hb1.size
  go_wp2_with (go_at_call 27; (with_reducible refine (BT.out _).mono ?_); rintro en w2 ⟨rfl, rfl⟩)
  obtain ⟨W1, hW1⟩ : ∃ W, W = w1.alloc (.cells #[.bool false, .slice none 0 0, .int .i64 0] 42) := ⟨_, rfl⟩
  obtain ⟨gQ, hgQ⟩ : ∃ g, g = w1.heap.size := ⟨_, rfl⟩
  rw [← hW1, ← hgQ] at zR0 ⊢
  rw [← hW1] at HN1 yb0
  rw [← hgQ] at hgw
  clear hW1 hgQ hb1 hm
  go_loopw [8, 10, 23] (fun s8 _ s23 wr => ∃ (i : Nat) (s : Int) (D : Dy), s23 = .int .i64 (i : Int) ∧ i ≤ L.length ∧ s8 = .int .i64 s ∧ s = sayNo L i ∧ (s = 0 → D = nrm (dotI L i) (-2148)) ∧ QV 42 3 wr gQ D (5000 + 3000 * i) 2200 ∧ Below W.heap.size W wr) (fun _ _ s23 _ => (L.length - (intOf s23).toNat))
  case atStart => exact ⟨0, 0, _, rfl, by omega, rfl, rfl, fun _ => rfl, zR0, yb0⟩
  case round =>
    obtain ⟨i, s, D, rfl, hi, rfl, hs, hD, hQV, yb⟩ := hrel
    have HQV := hid hQV
    have HS := hid hs
    have HDD := hid hD
    have hs2 := sayNo_or L i
    rw [← hs] at hs2
    clear hQV zR0 yb0 HN1 hs hD
    by_cases hlt : (i : Int) < (L.length : Int)
    · obtain ⟨b0, o0, rfl, hc0⟩ := HN.out.2.2 (by omega)
      have k0 := (yb.cell (p := ⟨b0, o0 + i, none⟩) (World.block_lt_of_cell? _ _ (hc0 i (by omega)))).trans (hc0 i (by omega))
      have R0 := hid (RH.out i)
      have I0 := hid (RI.out i)
      cases hv : hasVal (lb L i)
      · have h4 := sayNo_yes hv
        have hpp := HP2.out i hv
        have H4 := hid h4
        obtain ⟨x, hx⟩ : ∃ x, x = lb L i := ⟨_, rfl⟩
        rw [← hx] at k0 R0 I0 hpp
        clear hv h4 hx hc0 RH RI VA HP1 HP2 MU HE HB HG DO
        rcases hpp with hnn | ⟨hnn, hii⟩
        · rw [hnn] at R0
          clear hnn
          go_wp2_with (first
            | (go_at_call 49; (with_reducible refine (R0.out _).mono ?_); rintro en w2 ⟨rfl, rfl⟩)
            | (go_at_call 50; (with_reducible refine (I0.out _).mono ?_); rintro en w2 ⟨rfl, rfl⟩))
          go_roundw
          case rel => exact ⟨i + 1, 4, D, by go_num, by omega, rfl, H4.out.symm, (fun h => by omega), HQV.out.weak (by omega) (by omega), yb⟩
          case measure => simp [intOf]; omega
        · rw [hnn] at R0
          rw [hii] at I0
          clear hnn hii
          go_wp2_with (first
            | (go_at_call 49; (with_reducible refine (R0.out _).mono ?_); rintro en w2 ⟨rfl, rfl⟩)
            | (go_at_call 50; (with_reducible refine (I0.out _).mono ?_); rintro en w2 ⟨rfl, rfl⟩))
          go_roundw
          case rel => exact ⟨i + 1, 4, D, by go_num, by omega, rfl, H4.out.symm, (fun h => by omega), HQV.out.weak (by omega) (by omega), yb⟩
          case measure => simp [intOf]; omega
      · have H4 := hid (sayNo_no hv)
        obtain ⟨hnn, hii, hcl⟩ := HP1.out i hv
        rw [hnn] at R0
        rw [hii] at I0
        by_cases hi2 : i % 2 = 1
        · rcases hs2 with rfl | rfl
          · obtain ⟨x, hx⟩ : ∃ x, x = lb L i := ⟨_, rfl⟩
            rw [← hx] at k0 R0 I0
            have hm : (i : Int) % 2 = 1 := by omega
            clear hv hx hc0 RH RI VA HP1 HP2 MU HE HB HG DO hnn hii hcl hi2
            go_wp2_with (first
              | (go_at_call 49; (with_reducible refine (R0.out _).mono ?_); rintro en w2 ⟨rfl, rfl⟩)
              | (go_at_call 50; (with_reducible refine (I0.out _).mono ?_); rintro en w2 ⟨rfl, rfl⟩))
            go_roundw
            case rel => exact ⟨i + 1, 4, D, by go_num, by omega, rfl, HS.out.trans H4.out.symm, (fun h => by omega), HQV.out.weak (by omega) (by omega), yb⟩
            case measure => simp [intOf]; omega
          · obtain ⟨j, hj⟩ : ∃ j, j + 1 = i := ⟨i - 1, by omega⟩
            have hvj := sayNo_zero HS.out.symm j (by omega)
            have hclj := (HP1.out j hvj).2.2
            have k1 := (yb.cell (p := ⟨b0, o0 + j, none⟩) (World.block_lt_of_cell? _ _ (hc0 j (by omega)))).trans (hc0 j (by omega))
            have VX := hid (VA.out i)
            have VY := hid (VA.out j)
            have hdt := dot_one L i hi2
            have hij : i - 1 = j := by omega
            rw [hij] at hdt
            have hmu := MU.out j i hclj hcl
            obtain ⟨x, hx⟩ : ∃ x, x = lb L i := ⟨_, rfl⟩
            obtain ⟨y, hy⟩ : ∃ y, y = lb L j := ⟨_, rfl⟩
            rw [← hx] at k0 R0 I0 VX hdt hmu
            rw [← hy] at k1 VY hdt hmu
            have QM := hid (fun v u w h0 h1 => qmul_any v u (fv y) (fv x) 1200 1100 1200 1100 w h0 h1 (by omega) (by omega) (by omega) (by omega))
            have QA := hid (fun v u w h0 h1 => (qadd_any v u D (mulD (fv y) (fv x)) (5000 + 3000 * i) 2200 (1200 + 1200) (1100 + 1100) w h0 h1 (by omega) (by omega) (by omega) (by omega)).mono fun _ _ h => RetQD.weak h (show max (5000 + 3000 * i) (1200 + 1200) + max 2200 (1100 + 1100) + 1 ≤ 5000 + 3000 * (i + 1) by omega) (show max 2200 (1100 + 1100) ≤ 2200 by omega))
            have HSD := hid (show addD D (mulD (fv y) (fv x)) = nrm (dotI L (i + 1)) (-2148) by rw [HDD.out rfl, hmu, addD_lev, hdt])
            rw [HSD.out] at QA
            obtain ⟨D2, hD2⟩ : ∃ D2, D2 = nrm (dotI L (i + 1)) (-2148) := ⟨_, rfl⟩
            rw [← hD2] at QA
            have HD2 := hid hD2
            have HJ := hid hj
            obtain ⟨xq, nq, aq, cq, zq, hNq, hDq, hAq, hTq⟩ := HQV.out
            have HQ1 := hid (fun w' (hb : Below wr.heap.size wr w') => (show QD 3 w' D (5000 + 3000 * i) 2200 (.agg #[.bool (zneg xq), .slice aq (zl xq).length cq, .int .i64 (nq : Int)]) from ⟨xq, nq, aq, cq, rfl, hNq.below hb, hDq, hAq, hTq⟩))
            generalize mulD (fv y) (fv x) = M at *
            generalize fv x = FX at *
            generalize fv y = FY at *
            have K0 := hid k0
            have K1 := hid k1
            have hm : (i : Int) % 2 = 1 := by omega
            have hsub : IntKind.i64.wrap ((i : Int) - 1) = (i : Int) - 1 := IntWalk.i64_in _ (by omega)
            have hs0 : 0 ≤ (i : Int) - 1 := by omega
            have hs00 : 1 ≤ (i : Int) := by omega
            have hs1 : (i : Int) - 1 < (L.length : Int) := by omega
            have hin : ((i : Int) - 1).toNat = j := by omega
            clear hv hx hy hc0 hdt hmu hij hD2 hj hvj hclj hcl HQV hNq hDq hAq RH RI VA HP1 HP2 MU HE HB HG DO hnn hii hi2 HSD HDD
            go_upto_region 10 with (first
              | (go_at_call 49; (with_reducible refine (R0.out _).mono ?_); rintro en w2 ⟨rfl, rfl⟩)
              | (go_at_call 50; (with_reducible refine (I0.out _).mono ?_); rintro en w2 ⟨rfl, rfl⟩))
            refine wp_region_grow 14 [45, 46, 47, 48, 49, 50, 51, 52, 53, 54, 55, 56, 57, 58] [Fact.is (.agg #[.bool (zneg xq), .slice aq (zl xq).length cq, .int .i64 (nq : Int)]), Fact.is (.slice (some ⟨b0, o0, none⟩) L.length cap), Fact.is (.int .i64 (i : Int)), Fact.is (.int .i64 ((i : Int) - 1)), Fact.is (.pointer (some ⟨b0, o0 + j, none⟩)), Fact.is (.int .u64 y), Fact.q 3 FY 1200 1100, Fact.is (.slice (some ⟨b0, o0, none⟩) L.length cap), Fact.is (.int .i64 (i : Int)), Fact.is (.pointer (some ⟨b0, o0 + i, none⟩)), Fact.is (.int .u64 x), Fact.q 3 FX 1200 1100, Fact.q 3 M (1200 + 1200) (1100 + 1100), Fact.q 3 D2 (5000 + 3000 * (i + 1)) 2200] (by kernel_rfl) (by kernel_rfl) ⟨?o0, ?o1, ?o2, ?o3, ?o4, ?o5, ?o6, ?o7, ?o8, ?o9, ?o10, ?o11, ?o12, ?o13, trivial⟩ ?after
            case o0 => (refine StepOK.plain rfl ?_; intro ρ w1 R hρ hb hp hR; have e9 : ρ (.tmp 9) = .pointer (some ⟨gQ, 0, none⟩) := hρ.tmp 9 rfl; obtain ⟨⟨j0, j1, -, -, -⟩, j2, -⟩ := zq.below hb; have hcon := hρ.con; have hfn := hρ.fn; clear hρ hp; unfold OpRun; go_simp; exact hR _ _ (Below.refl _ _) rfl)
            case o1 => (refine StepOK.plain rfl ?_; intro ρ w1 R hρ hb hp hR; have e0 : ρ (.tmp 0) = .slice (some ⟨b0, o0, none⟩) L.length cap := hρ.tmp 0 rfl; have hcon := hρ.con; have hfn := hρ.fn; clear hρ hp; unfold OpRun; go_simp; exact hR _ _ (Below.refl _ _) rfl)
            case o2 => (refine StepOK.plain rfl ?_; intro ρ w1 R hρ hb hp hR; have e10 : ρ (.tmp 10) = .int .i64 (i : Int) := hρ.tmp 10 rfl; have hcon := hρ.con; have hfn := hρ.fn; clear hρ hp; unfold OpRun; go_simp; exact hR _ _ (Below.refl _ _) rfl)
            case o3 => (refine StepOK.plain rfl ?_; intro ρ w1 R hρ hb hp hR; have e47 : ρ (.tmp 47) = _ := hp 2 47 rfl rfl; have hcon := hρ.con; have hfn := hρ.fn; clear hρ hp; unfold OpRun; go_simp; exact hR _ _ (Below.refl _ _) rfl)
            case o4 => (refine StepOK.plain rfl ?_; intro ρ w1 R hρ hb hp hR; have e46 : ρ (.tmp 46) = _ := hp 1 46 rfl rfl; have e48 : ρ (.tmp 48) = _ := hp 3 48 rfl rfl; have hcon := hρ.con; have hfn := hρ.fn; clear hρ hp; unfold OpRun; go_simp; exact hR _ _ (Below.refl _ _) rfl)
            case o5 => (refine StepOK.plain rfl ?_; intro ρ w1 R hρ hb hp hR; have e49 : ρ (.tmp 49) = _ := hp 4 49 rfl rfl; have q1 := (hb.cell (p := ⟨b0, o0 + j, none⟩) (World.block_lt_of_cell? _ _ K1.out)).trans K1.out; have hcon := hρ.con; have hfn := hρ.fn; clear hρ hp; unfold OpRun; go_simp; exact hR _ _ (Below.refl _ _) rfl)
            case o6 => (refine StepOK.plain rfl ?_; intro ρ w1 R hρ hb hp hR; have e50 : ρ (.tmp 50) = _ := hp 5 50 rfl rfl; have hcon := hρ.con; have hfn := hρ.fn; clear hρ hp; unfold OpRun; go_simp; (refine (VY.out _).mono ?_; rintro e wn ⟨v9, rfl, hv9, hbn⟩; exact ⟨_, rfl, hR _ _ hbn hv9⟩))
            case o7 => (refine StepOK.plain rfl ?_; intro ρ w1 R hρ hb hp hR; have e0 : ρ (.tmp 0) = .slice (some ⟨b0, o0, none⟩) L.length cap := hρ.tmp 0 rfl; have hcon := hρ.con; have hfn := hρ.fn; clear hρ hp; unfold OpRun; go_simp; exact hR _ _ (Below.refl _ _) rfl)
            case o8 => (refine StepOK.plain rfl ?_; intro ρ w1 R hρ hb hp hR; have e10 : ρ (.tmp 10) = .int .i64 (i : Int) := hρ.tmp 10 rfl; have hcon := hρ.con; have hfn := hρ.fn; clear hρ hp; unfold OpRun; go_simp; exact hR _ _ (Below.refl _ _) rfl)
            case o9 => (refine StepOK.plain rfl ?_; intro ρ w1 R hρ hb hp hR; have e52 : ρ (.tmp 52) = _ := hp 7 52 rfl rfl; have e53 : ρ (.tmp 53) = _ := hp 8 53 rfl rfl; have hcon := hρ.con; have hfn := hρ.fn; clear hρ hp; unfold OpRun; go_simp; exact hR _ _ (Below.refl _ _) rfl)
            case o10 => (refine StepOK.plain rfl ?_; intro ρ w1 R hρ hb hp hR; have e54 : ρ (.tmp 54) = _ := hp 9 54 rfl rfl; have q0 := (hb.cell (p := ⟨b0, o0 + i, none⟩) (World.block_lt_of_cell? _ _ K0.out)).trans K0.out; have hcon := hρ.con; have hfn := hρ.fn; clear hρ hp; unfold OpRun; go_simp; exact hR _ _ (Below.refl _ _) rfl)
            case o11 => (refine StepOK.plain rfl ?_; intro ρ w1 R hρ hb hp hR; have e55 : ρ (.tmp 55) = _ := hp 10 55 rfl rfl; have hcon := hρ.con; have hfn := hρ.fn; clear hρ hp; unfold OpRun; go_simp; (refine (VX.out _).mono ?_; rintro e wn ⟨v9, rfl, hv9, hbn⟩; exact ⟨_, rfl, hR _ _ hbn hv9⟩))
            case o12 => (refine StepOK.plain rfl ?_; intro ρ w1 R hρ hb hp hR; have f51 := hp 6 51 rfl rfl; have f56 := hp 11 56 rfl rfl; have hcon := hρ.con; have hfn := hρ.fn; clear hρ hp; unfold OpRun; go_simp; (refine (QM.out _ _ _ f51 f56).mono ?_; rintro e wn ⟨v9, rfl, hv9, hbn⟩; exact ⟨_, rfl, hR _ _ hbn hv9⟩))
            case o13 => (refine StepOK.plain rfl ?_; intro ρ w1 R hρ hb hp hR; have e45 : ρ (.tmp 45) = _ := hp 0 45 rfl rfl; have f57 := hp 12 57 rfl rfl; have hcon := hρ.con; have hfn := hρ.fn; clear hρ hp; unfold OpRun; go_simp; (refine (QA.out _ _ _ (HQ1.out _ hb) f57).mono ?_; rintro e wn ⟨v9, rfl, hv9, hbn⟩; exact ⟨_, rfl, hR _ _ hbn hv9⟩))
            case after =>
              intro u wn hb hf
              have f58 := hf 13 58 (by omega) rfl
              clear hf
              simp only [putAll, Act.put, List.setIfInBounds_toArray, List.set_cons_zero, List.set_cons_succ, List.drop_succ_cons, List.drop_zero, List.drop_nil]
              obtain ⟨x2, n2, a2, c2, e58, hN2, hD3, hA3, hT3⟩ := f58
              rw [e58]
              have zq2 := zq.below hb
              have yb2 := below_trans yb hb
              obtain ⟨⟨j0, j1, g0, g1, hs2⟩, j2, g2⟩ := id zq2
              clear e58 hin hm
              go_wp2_with fail
              go_roundw
              case rel => exact ⟨i + 1, 0, D2, by go_num, by omega, rfl, HS.out.trans H4.out.symm, (fun _ => HD2.out), ⟨x2, n2, a2, c2, zq2.put _ _ _, hN2.set3Q zq2 (by decide) _ _ _, hD3, hA3, hT3⟩, Go.Ulp.Below.put3 yb2 hgw _ _ _⟩
              case measure => simp [intOf]; omega
        · have hdn := dot_none L i (by omega)
          have HDN := hid hdn
          obtain ⟨x, hx⟩ : ∃ x, x = lb L i := ⟨_, rfl⟩
          rw [← hx] at k0 R0 I0
          have hm : (i : Int) % 2 = 0 := by omega
          clear hv hx hc0 RH RI VA HP1 HP2 MU HE HB HG DO hnn hii hcl hi2 hdn hs2
          go_wp2_with (first
            | (go_at_call 49; (with_reducible refine (R0.out _).mono ?_); rintro en w2 ⟨rfl, rfl⟩)
            | (go_at_call 50; (with_reducible refine (I0.out _).mono ?_); rintro en w2 ⟨rfl, rfl⟩))
          go_roundw
          case rel => exact ⟨i + 1, s, D, by go_num, by omega, rfl, HS.out.trans H4.out.symm, (fun h => by rw [HDN.out]; exact HDD.out h), HQV.out.weak (by omega) (by omega), yb⟩
          case measure => simp [intOf]; omega
    · have hie : i = L.length := by omega
      rw [hie] at HS HDD
      have HEE := hid (show DE = s by rw [HE.out, HS.out])
      clear RH RI VA HP1 HP2 MU HE DO HN
      rcases hs2 with rfl | rfl
      · obtain ⟨e1, e2, -⟩ := HB.out HEE.out
        have e3 := HEE.out
        subst e1 e2 e3
        clear HB HG HEE
        go_wp2_with fail
        go_ret
        exact ⟨ret_bool (by simp), yb⟩
      · obtain ⟨e1, e2, -⟩ := HG.out HEE.out
        have e3 := HEE.out
        have RD := hid (fun v w h => roundedD_any v (nrm (dotI L L.length) (-2148)) (5000 + 3000 * i) 2200 mode w h (nrm_isN _ _) (by omega) (by omega) m01.1 m01.2)
        rw [← e1, ← e2] at RD
        obtain ⟨xq, nq, aq, cq, zq, hNq, hDq, hAq, hTq⟩ := HQV.out
        have HQ1 := hid (show QD 3 wr (nrm (dotI L L.length) (-2148)) (5000 + 3000 * i) 2200 (.agg #[.bool (zneg xq), .slice aq (zl xq).length cq, .int .i64 (nq : Int)]) from ⟨xq, nq, aq, cq, rfl, hNq, by rw [hDq]; exact HDD.out rfl, hAq, hTq⟩)
        obtain ⟨⟨j0, j1, -, -, -⟩, j2, -⟩ := id zq
        subst e3
        clear HB HG HEE e1 e2 hie hNq hDq hAq HQV HDD
        go_wp2_with (go_at_call 51; (with_reducible refine (RD.out _ _ HQ1.out).mono ?_); rintro en w3 ⟨rfl, hb3⟩)
        go_ret
        exact ⟨ret_bool (by simp), below_trans yb hb3⟩
end Go.Proofs.YteaakbeemhmciaaDoor
