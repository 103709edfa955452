/- Expansions: SumAll of the reference; grow.Value, grow.Sign. -/
import Derived.Test.YthaelmnblgollaaGreatDoorGs2
import Derived.Test.YthaelmnblgollaaGreatDoorSu2
import Derived.Test.YthaelmnblgollaaGreatDoorSu1
import Derived.Test.YthaelmnblgollaaGreatDoorTd
set_option linter.unusedVariables false
set_option linter.unusedSimpArgs false
namespace Go.Ulp
open Go.RowKit
def grS (L : List Nat) : Dy := nrm (sumTo L L.length) (-1074)
end Go.Ulp
namespace Go.Proofs.YthaelmnblgollaaGreatDoor
open Go.RowKit Go.Ulp
set_option linter.unusedVariables false
set_option linter.unusedSimpArgs false
set_option maxHeartbeats 2000000
set_option maxRecDepth 100000
theorem growValue_in (ao : Option Addr) (cap : Nat) (L : List Nat) (w : World) (h : Ns .u64 w ao cap L) (hL : ∀ j, lb L j < 18446744073709551616) (hlen : L.length ≤ 200) (hv : ∀ j, j < L.length → hasVal (lb L j) = true) (hT : Tab 0 w) :
    Calls Tryz.prog 60 #[.slice ao L.length cap] w (RetVD w (grS L)) := by
  have HN := hid h
  have hcap := h.1
  have hcap2 := h.2.1
  unfold maxLen at hcap2
  have VA := hid (fun j w t => value_any (lb L j) (lb_nonneg _ _) (hL j) w t)
  have FS := hid (fun j => fv_small_p (lb L j) (lb_nonneg _ _) (hL j))
  have FV := hid (show ∀ j, j < L.length → fv (lb L j) = nrm (uV (lb L j)) (-1074) from fun j hj => fv_uV (lb L j) (lb_nonneg _ _) (hL j) (by
    have := hasVal_lt (lb L j) (lb_nonneg _ _) (hL j)
    rw [hv j hj] at this
    exact of_decide_eq_true this))
  obtain ⟨A, hA⟩ : ∃ A : Nat, A = 2298 := ⟨_, rfl⟩
  have SB := hid (fun i hi => sumD_bd A hA L hL i hi)
  obtain ⟨K, hK⟩ : ∃ K : Nat, K = 100 := ⟨_, rfl⟩
  have LB := hid (fun (M : Nat) (h : M < 2 ^ A) => (limbs_le_bits M K).2 (Nat.lt_of_lt_of_le h (Nat.pow_le_pow_right (by omega) (by omega))))
  have HS := hid (show ∀ i, sumTo L (i + 1) = sumTo L i + uV (lb L i) from fun _ => rfl)
  have HG := hid (show grS L = nrm (sumTo L L.length) (-1074) from rfl)
  have HT := hid hT
  have yb0 := below_trans (below_alloc w (.cells #[.bool false, .slice none 0 0, .int .i64 0] 26)) (below_alloc _ (.cells #[.bool false, .slice none 0 0, .int .i64 0] 26))
  have z2 : QL 26 ((w.alloc (.cells #[.bool false, .slice none 0 0, .int .i64 0] 26)).alloc (.cells #[.bool false, .slice none 0 0, .int .i64 0] 26)) w.heap.size false (.slice none 0 0) 0 := (QL.made rfl).alloc _
  have z3 : DV 26 ((w.alloc (.cells #[.bool false, .slice none 0 0, .int .i64 0] 26)).alloc (.cells #[.bool false, .slice none 0 0, .int .i64 0] 26)) (w.heap.size + 1) (nrm 0 (-1074)) := ⟨none, 0, QL.made (by first | omega | (simp; done) | (simp; omega)), Ns.nil⟩
  clear h hL hT hA
  go_enter Tryz.func60, Tryz.ntmps60
  go_upto_region 2 with fail
  refine wp_wld (fun WW => Below w.heap.size w WW ∧ QL 26 WW w.heap.size false (.slice none 0 0) 0 ∧ DV 26 WW (w.heap.size + 1) (nrm 0 (-1074))) ⟨yb0, z2, z3⟩ ?_
  clear yb0 z2 z3
  intro W1 ⟨y1, z2, z3⟩
  obtain ⟨g3, hg3⟩ : ∃ g, g = w.heap.size + 1 := ⟨_, rfl⟩
  obtain ⟨g2, hg2⟩ : ∃ g, g = w.heap.size := ⟨_, rfl⟩
  have b3 : w.heap.size ≤ g3 := by omega
  have b2 : w.heap.size ≤ g2 := by omega
  have n23 : g2 ≠ g3 := by omega
  rw [← hg3] at z3 ⊢
  rw [← hg2] at z2
  rw [← hg2]
  clear hg3 hg2
  have Z2 := hid z2
  have Z3 := hid z3
  clear z2 z3
  go_wp2_with fail
  go_loopw [5, 8] (fun _ s8 wr => ∃ i : Nat, s8 = .int .i64 (i : Int) ∧ i ≤ L.length ∧ QL 26 wr g2 false (.slice none 0 0) 0 ∧ DV 26 wr g3 (nrm (sumTo L i) (-1074)) ∧ Below w.heap.size w wr) (fun _ i _ => (L.length - (intOf i).toNat))
  case atStart => exact ⟨0, rfl, by omega, Z2.out, Z3.out, y1⟩
  case round =>
    obtain ⟨i, rfl, hi, z2, z3, yr⟩ := hrel
    clear Z2 Z3 y1
    by_cases hi2 : (i : Int) < (L.length : Int)
    · obtain ⟨b0, o0, rfl, hc0⟩ := HN.out.2.2 (by omega)
      have k0 := (yr.cell (p := ⟨b0, o0 + i, none⟩) (World.block_lt_of_cell? _ _ (hc0 i (by omega)))).trans (hc0 i (by omega))
      have V0 := hid (VA.out i)
      have hfv := FV.out i (by omega)
      have hfb := FS.out i
      have hbd := SB.out i (by omega)
      have HS0 := HS.out i
      obtain ⟨x, hx⟩ : ∃ x, x = lb L i := ⟨_, rfl⟩
      rw [← hx] at k0 V0 hfv hfb HS0
      have l1 := LB.out _ hbd.1
      have PL := hid (fun v u w h0 h1 t => plusD_any v u (nrm (sumTo L i) (-1074)) (fv x) w h0 h1 (by omega) (by omega) ⟨by omega, by omega⟩ ⟨by omega, by omega⟩ t)
      have HSD := hid (show addD (nrm (sumTo L i) (-1074)) (fv x) = nrm (sumTo L (i + 1)) (-1074) by rw [hfv, addD_step, HS0])
      rw [HSD.out] at PL
      obtain ⟨am, cm, zD, hND⟩ := z3
      have HVD := hid (fun w' (hb : Below wr.heap.size wr w') => (show VD w' (nrm (sumTo L i) (-1074)) (.agg #[.bool (decide ((nrm (sumTo L i) (-1074)).1 < 0)), .slice am (limbs (nrm (sumTo L i) (-1074)).1.natAbs).length cm, .int .i64 (nrm (sumTo L i) (-1074)).2]) from ⟨am, cm, rfl, hND.below hb⟩))
      obtain ⟨D2, hD2⟩ : ∃ D, D = nrm (sumTo L (i + 1)) (-1074) := ⟨_, rfl⟩
      rw [← hD2] at PL
      have HD2 := hid hD2
      obtain ⟨D, hD⟩ : ∃ D, D = nrm (sumTo L i) (-1074) := ⟨_, rfl⟩
      rw [← hD] at PL HVD zD
      obtain ⟨DX, hDX⟩ : ∃ D, D = fv x := ⟨_, rfl⟩
      rw [← hDX] at PL V0
      clear hx hc0 VA FV FS SB HS HSD hfv hfb hbd HS0 l1 hND hD hD2 hDX LB
      go_upto_region 5 with fail
      obtain ⟨W4, hW4⟩ : ∃ W, W = wr := ⟨_, rfl⟩
      subst hW4
      refine wp_region_grow 4 [12, 13, 14, 15] [Fact.is (.agg #[.bool (decide (D.1 < 0)), .slice am (limbs D.1.natAbs).length cm, .int .i64 D.2]), Fact.is (.int .u64 x), Fact.vd DX, Fact.vd D2] (by kernel_rfl) (by kernel_rfl) ⟨?o0, ?o1, ?o2, ?o3, trivial⟩ ?after
      case o0 => (refine StepOK.plain rfl ?_; intro ρ w1 R hρ hb hp hR; have e3 : ρ (.tmp 3) = .pointer (some ⟨g3, 0, none⟩) := hρ.tmp 3 rfl; obtain ⟨⟨j0, j1, -, -, -⟩, j2, -⟩ := zD.below hb; have hcon := hρ.con; have hfn := hρ.fn; clear hρ hp; unfold OpRun; go_simp; exact hR _ _ (Below.refl _ _) rfl)
      case o1 => (refine StepOK.plain rfl ?_; intro ρ w1 R hρ hb hp hR; have e5 : ρ (.tmp 5) = .int .u64 x := hρ.tmp 5 rfl; have hcon := hρ.con; have hfn := hρ.fn; clear hρ hp; unfold OpRun; go_simp; exact hR _ _ (Below.refl _ _) rfl)
      case o2 => (refine StepOK.plain rfl ?_; intro ρ w1 R hρ hb hp hR; have e13 : ρ (.tmp 13) = _ := hp 1 13 rfl rfl; have hcon := hρ.con; have hfn := hρ.fn; clear hρ hp; unfold OpRun; go_simp; (refine (V0.out _ (HT.out.below (below_trans yr hb))).mono ?_; rintro e wn ⟨v9, rfl, hv9, hbn⟩; exact ⟨_, rfl, hR _ _ hbn hv9⟩))
      case o3 => (refine StepOK.plain rfl ?_; intro ρ w1 R hρ hb hp hR; have e12 : ρ (.tmp 12) = _ := hp 0 12 rfl rfl; have f14 := hp 2 14 rfl rfl; have hcon := hρ.con; have hfn := hρ.fn; clear hρ hp; unfold OpRun; go_simp; (refine (PL.out _ _ _ (HVD.out _ hb) f14 (HT.out.below (below_trans yr hb))).mono ?_; rintro e wn ⟨v9, rfl, hv9, hbn⟩; exact ⟨_, rfl, hR _ _ hbn hv9⟩))
      case after =>
        intro u wn hb hf
        have f15 := hf 3 15 (by omega) rfl
        clear hf
        simp only [putAll, Act.put, List.setIfInBounds_toArray, List.set_cons_zero, List.set_cons_succ, List.drop_succ_cons, List.drop_zero, List.drop_nil]
        obtain ⟨am2, cm2, e15, hN2⟩ := f15
        rw [e15]
        have zD2 := zD.below hb
        have z22 := (z2.below hb).far3 (b := g3) n23 (.bool (decide (D2.1 < 0))) (.slice am2 (limbs D2.1.natAbs).length cm2) (.int .i64 D2.2)
        have yb2 := below_trans yr hb
        obtain ⟨⟨j0, j1, f0, f1, hs2⟩, j2, f2⟩ := id zD2
        clear e15 zD hb
        go_wp2_with fail
        go_roundw
        case rel => exact ⟨i + 1, by go_num, by omega, z22, by rw [← HD2.out]; exact DV.put zD2 hN2 (by intro x h; cases h), Go.Ulp.Below.put3 yb2 b3 _ _ _⟩
        case measure => first | (simp [intOf]; done) | (simp [intOf]; omega)
    · have hie : i = L.length := by omega
      subst hie
      rw [← HG.out] at z3
      obtain ⟨am, cm, zD, hND⟩ := z3
      have hns := hND.set3 z2 (by intro x h; cases h) (.bool (decide ((grS L).1 < 0))) (.slice am (limbs (grS L).1.natAbs).length cm) (.int .i64 (grS L).2)
      have yb2 := Go.Ulp.Below.put3 yr b2 (.bool (decide ((grS L).1 < 0))) (.slice am (limbs (grS L).1.natAbs).length cm) (.int .i64 (grS L).2)
      obtain ⟨⟨j0, j1, -⟩, j2, -⟩ := id zD
      obtain ⟨⟨k0, k1, f0, f1, hs2⟩, k2, f2⟩ := id z2
      generalize grS L = G at *
      clear zD z2 hND HG VA FV FS SB HS LB hs2
      go_wp2_with fail
      refine bodyPost_ret (by simp [results, Tryz.results60, go_sem, k0, k1, k2]; try rfl) rfl ?_
      exact ⟨_, rfl, ⟨am, cm, rfl, hns⟩, yb2⟩
end Go.Proofs.YthaelmnblgollaaGreatDoor
set_option linter.unusedVariables false
set_option linter.unusedSimpArgs false
namespace Go.Ulp
open Go.RowKit
theorem QW.weak {tq ti : TypeId} {w : World} {g : Nat} {D : Dy} {A T A' T' : Nat} {X : Int} {n : Nat} {ao : Option Addr} {cap : Nat} (h : QW tq ti w g D A T X n ao cap) (hA : A ≤ A') (hT : T ≤ T') : QW tq ti w g D A' T' X n ao cap := by
  obtain ⟨h1, x, m, a, c, h2, h3, h4, h5, h6⟩ := h
  exact ⟨h1, x, m, a, c, h2, h3, h4, abs_weak h5 hA, by omega⟩
theorem QW.zero {tq ti : TypeId} {w : World} (A T g : Nat) (hg : g = w.heap.size) : QW tq ti (w.alloc (.cells #[.bool false, .slice none 0 0, .int .i64 0] tq)) g (0, 0) A T 0 0 none 0 :=
  ⟨QL.made hg, 0, 0, none, 0, rfl, Nz.nil' none 0 (by unfold maxLen; omega), nrm_zero _, Nat.two_pow_pos A, Nat.zero_le _⟩
theorem grS_bd (B : Nat) (hB : B = 2298) (L : List Nat) (hL : ∀ j, lb L j < 18446744073709551616) (hlen : L.length ≤ 200) : (grS L).1.natAbs < 2 ^ B ∧ bndB (grS L) = true := by
  have h := sumD_bd B hB L hL L.length hlen
  refine ⟨h.1, ?_⟩
  unfold bndB dyB
  obtain ⟨K, hK⟩ : ∃ K, K = 400 := ⟨_, rfl⟩
  have h2 := (limbs_le_bits (grS L).1.natAbs K).2 (Nat.lt_of_lt_of_le h.1 (Nat.pow_le_pow_right (by omega) (by omega)))
  rw [hK] at h2
  exact decide_eq_true ⟨h2, by have := h.2.1; unfold grS; omega, by have := h.2.2; unfold grS; omega⟩
/-- what Value answers -/
def grV (L : List Nat) : Dy := if prE L = 0 then grS L else (0, 0)
theorem prE_zero (L : List Nat) (h : prE L = 0) : L.length ≤ 60 ∧ noTo L L.length = false ∧ badTo L L.length = false := by
  unfold prE at h
  by_cases h1 : 60 < L.length
  · rw [if_pos h1] at h; omega
  · rw [if_neg h1] at h
    cases hn : noTo L L.length
    · rw [hn] at h
      cases hb : badTo L L.length
      · exact ⟨by omega, rfl, rfl⟩
      · rw [hb] at h; simp at h
    · rw [hn] at h; simp at h
theorem no_vals (L : List Nat) (h : noTo L L.length = false) : ∀ j, j < L.length → hasVal (lb L j) = true := by
  intro j hj
  cases hv : hasVal (lb L j) with
  | true => rfl
  | false => rw [(noTo_iff L L.length).2 ⟨j, hj, hv⟩] at h; cases h
theorem prE_cases (L : List Nat) : prE L = 0 ∨ prE L = 2 ∨ prE L = 3 ∨ prE L = 4 := by
  unfold prE; split
  · simp
  · split
    · simp
    · split <;> simp
end Go.Ulp
namespace Go.Proofs.YthaelmnblgollaaGreatDoor
open Go.RowKit Go.Ulp
set_option linter.unusedVariables false
set_option linter.unusedSimpArgs false
set_option maxHeartbeats 2000000
set_option maxRecDepth 100000
theorem sumAllR_any (ao : Option Addr) (cap : Nat) (L : List Nat) (w : World) (h : Ns .u64 w ao cap L) (hL : ∀ j, lb L j < 18446744073709551616) (hlen : L.length ≤ 200) (hv : ∀ j, j < L.length → hasVal (lb L j) = true) :
    Calls Tryz.prog 16 #[.slice ao L.length cap] w fun e w' => RetQD 3 w (grS L) 250000 1100 e w' := by
  have HN := hid h
  have hcap := h.1
  have hcap2 := h.2.1
  unfold maxLen at hcap2
  have VA := hid (fun j w => qval_any (lb L j) (lb_nonneg _ _) (hL j) w)
  have FV := hid (show ∀ j, j < L.length → fv (lb L j) = nrm (uV (lb L j)) (-1074) from fun j hj => fv_uV (lb L j) (lb_nonneg _ _) (hL j) (by
    have := hasVal_lt (lb L j) (lb_nonneg _ _) (hL j)
    rw [hv j hj] at this
    exact of_decide_eq_true this))
  have HS := hid (show ∀ i, sumTo L (i + 1) = sumTo L i + uV (lb L i) from fun _ => rfl)
  have HG := hid (show grS L = nrm (sumTo L L.length) (-1074) from rfl)
  have yb0 := below_trans (below_alloc w (.cells #[.bool false, .slice none 0 0, .int .i64 0] 41)) (below_alloc _ (.cells #[.bool false, .slice none 0 0, .int .i64 0] 41))
  have z2 : QL 41 ((w.alloc (.cells #[.bool false, .slice none 0 0, .int .i64 0] 41)).alloc (.cells #[.bool false, .slice none 0 0, .int .i64 0] 41)) w.heap.size false (.slice none 0 0) 0 := (QL.made rfl).alloc _
  have z3 : QW 41 3 ((w.alloc (.cells #[.bool false, .slice none 0 0, .int .i64 0] 41)).alloc (.cells #[.bool false, .slice none 0 0, .int .i64 0] 41)) (w.heap.size + 1) (nrm 0 (-1074)) (2500 + 1200 * 0) 1100 0 0 none 0 := QW.zero _ _ _ (by first | omega | (simp; done) | (simp; omega))
  clear h hL
  go_enter Tryz.func16, Tryz.ntmps16
  go_upto_region 2 with fail
  refine wp_wld (fun WW => Below w.heap.size w WW ∧ QL 41 WW w.heap.size false (.slice none 0 0) 0 ∧ QW 41 3 WW (w.heap.size + 1) (nrm 0 (-1074)) (2500 + 1200 * 0) 1100 0 0 none 0) ⟨yb0, z2, z3⟩ ?_
  clear yb0 z2 z3
  intro W1 ⟨y1, z2, z3⟩
  obtain ⟨g3, hg3⟩ : ∃ g, g = w.heap.size + 1 := ⟨_, rfl⟩
  obtain ⟨g2, hg2⟩ : ∃ g, g = w.heap.size := ⟨_, rfl⟩
  have b3 : w.heap.size ≤ g3 := by omega
  have b2 : w.heap.size ≤ g2 := by omega
  have n23 : g2 ≠ g3 := by omega
  rw [← hg3] at z3 ⊢
  rw [← hg2] at z2
  rw [← hg2]
  clear hg3 hg2
  have Z2 := hid z2
  have Z3 := hid z3
  clear z2 z3
  go_wp2_with fail
  go_loopw [5, 9] (fun _ s9 wr => ∃ (i : Nat) (X : Int) (n : Nat) (a : Option Addr) (c : Nat), s9 = .int .i64 (i : Int) ∧ i ≤ L.length ∧ QL 41 wr g2 false (.slice none 0 0) 0 ∧ QW 41 3 wr g3 (nrm (sumTo L i) (-1074)) (2500 + 1200 * i) 1100 X n a c ∧ Below w.heap.size w wr) (fun _ i _ => (L.length - (intOf i).toNat))
  case atStart => exact ⟨0, 0, 0, none, 0, rfl, by omega, Z2.out, Z3.out, y1⟩
  case round =>
    obtain ⟨i, X, n, a, c, rfl, hi, z2, z3, yr⟩ := hrel
    clear Z2 Z3 y1
    by_cases hi2 : (i : Int) < (L.length : Int)
    · obtain ⟨b0, o0, rfl, hc0⟩ := HN.out.2.2 (by omega)
      have k0 := (yr.cell (p := ⟨b0, o0 + i, none⟩) (World.block_lt_of_cell? _ _ (hc0 i (by omega)))).trans (hc0 i (by omega))
      have V0 := hid (VA.out i)
      have hfv := FV.out i (by omega)
      have HS0 := HS.out i
      obtain ⟨x, hx⟩ : ∃ x, x = lb L i := ⟨_, rfl⟩
      rw [← hx] at k0 V0 hfv HS0
      have PL := hid (fun v u w h0 h1 => (qadd_any v u (nrm (sumTo L i) (-1074)) (fv x) (2500 + 1200 * i) 1100 1200 1100 w h0 h1 (by omega) (by omega) (by omega) (by omega)).mono fun _ _ h => RetQD.weak h (show max (2500 + 1200 * i) 1200 + max 1100 1100 + 1 ≤ 2500 + 1200 * (i + 1) by omega) (show max 1100 1100 ≤ 1100 by omega))
      have HSD := hid (show addD (nrm (sumTo L i) (-1074)) (fv x) = nrm (sumTo L (i + 1)) (-1074) by rw [hfv, addD_step, HS0])
      rw [HSD.out] at PL
      obtain ⟨D2, hD2⟩ : ∃ D, D = nrm (sumTo L (i + 1)) (-1074) := ⟨_, rfl⟩
      rw [← hD2] at PL
      have HD2 := hid hD2
      obtain ⟨D, hD⟩ : ∃ D, D = nrm (sumTo L i) (-1074) := ⟨_, rfl⟩
      rw [← hD] at PL z3
      obtain ⟨DX, hDX⟩ : ∃ D, D = fv x := ⟨_, rfl⟩
      rw [← hDX] at PL V0
      obtain ⟨AI, hAI⟩ : ∃ A, A = 2500 + 1200 * i := ⟨_, rfl⟩
      obtain ⟨AJ, hAJ⟩ : ∃ A, A = 2500 + 1200 * (i + 1) := ⟨_, rfl⟩
      rw [← hAI] at PL z3
      rw [← hAJ] at PL
      have HAJ := hid hAJ
      clear hx hc0 VA FV HS HSD hfv HS0 hD hD2 hDX hAI hAJ
      go_upto_region 5 with fail
      obtain ⟨W4, hW4⟩ : ∃ W, W = wr := ⟨_, rfl⟩
      subst hW4
      refine wp_region_grow 4 [13, 14, 15, 16] [Fact.is (.agg #[.bool (zneg X), .slice a (zl X).length c, .int .i64 (n : Int)]), Fact.is (.int .u64 x), Fact.q 3 DX 1200 1100, Fact.q 3 D2 AJ 1100] (by kernel_rfl) (by kernel_rfl) ⟨?o0, ?o1, ?o2, ?o3, trivial⟩ ?after
      case o0 => (refine StepOK.plain rfl ?_; intro ρ w1 R hρ hb hp hR; have e3 : ρ (.tmp 3) = .pointer (some ⟨g3, 0, none⟩) := hρ.tmp 3 rfl; obtain ⟨j0, j1, j2⟩ := (z3.below hb).cells; have hcon := hρ.con; have hfn := hρ.fn; clear hρ hp; unfold OpRun; go_simp; exact hR _ _ (Below.refl _ _) rfl)
      case o1 => (refine StepOK.plain rfl ?_; intro ρ w1 R hρ hb hp hR; have e5 : ρ (.tmp 5) = .int .u64 x := hρ.tmp 5 rfl; have hcon := hρ.con; have hfn := hρ.fn; clear hρ hp; unfold OpRun; go_simp; exact hR _ _ (Below.refl _ _) rfl)
      case o2 => (refine StepOK.plain rfl ?_; intro ρ w1 R hρ hb hp hR; have e14 : ρ (.tmp 14) = _ := hp 1 14 rfl rfl; have hcon := hρ.con; have hfn := hρ.fn; clear hρ hp; unfold OpRun; go_simp; (refine (V0.out _).mono ?_; rintro e wn ⟨v9, rfl, hv9, hbn⟩; exact ⟨_, rfl, hR _ _ hbn hv9⟩))
      case o3 => (refine StepOK.plain rfl ?_; intro ρ w1 R hρ hb hp hR; have e13 : ρ (.tmp 13) = _ := hp 0 13 rfl rfl; have f15 := hp 2 15 rfl rfl; have hcon := hρ.con; have hfn := hρ.fn; clear hρ hp; unfold OpRun; go_simp; (refine (PL.out _ _ _ (z3.below hb).qd f15).mono ?_; rintro e wn ⟨v9, rfl, hv9, hbn⟩; exact ⟨_, rfl, hR _ _ hbn hv9⟩))
      case after =>
        intro u wn hb hf
        have f16 := hf 3 16 (by omega) rfl
        clear hf
        simp only [putAll, Act.put, List.setIfInBounds_toArray, List.set_cons_zero, List.set_cons_succ, List.drop_succ_cons, List.drop_zero, List.drop_nil]
        have hq := f16
        obtain ⟨xs, ns, aq, cq, e16, hNs, hDs⟩ := f16
        rw [e16] at hq
        rw [e16]
        have zD2 := (z3.below hb).1
        have z22 := (z2.below hb).far3 (b := g3) n23 (.bool (zneg xs)) (.slice aq (zl xs).length cq) (.int .i64 (ns : Int))
        have hst := QW.stored (by decide) (below_trans yr hb) b3 zD2 hq
        obtain ⟨⟨j0, j1, f0, f1, hs2⟩, j2, f2⟩ := id zD2
        clear e16 hb hNs hDs hq zD2 z3 z2
        go_wp2_with fail
        go_roundw
        case rel => exact ⟨i + 1, xs, ns, aq, cq, by go_num, by omega, z22, by rw [← HD2.out, ← HAJ.out]; exact hst.2, hst.1⟩
        case measure => first | (simp [intOf]; done) | (simp [intOf]; omega)
    · have hie : i = L.length := by omega
      subst hie
      rw [← HG.out] at z3
      have hq : QD 3 wr (grS L) 250000 1100 (.agg #[.bool (zneg X), .slice a (zl X).length c, .int .i64 (n : Int)]) := (z3.weak (by omega) (by omega)).qd
      have hst := QW.stored (by decide) yr b2 z2 hq
      obtain ⟨j0, j1, j2⟩ := z3.cells
      obtain ⟨⟨k0, k1, f0, f1, hs2⟩, k2, f2⟩ := id z2
      clear z3 z2 HG VA FV HS hs2 hq
      go_wp2_with fail
      obtain ⟨s1, s2⟩ := hst
      obtain ⟨c0, c1, c2⟩ := s2.cells
      refine bodyPost_ret (by simp [results, Tryz.results16, go_sem, c0, c1, c2]; try rfl) rfl ?_
      exact ⟨_, rfl, s2.qd, s1⟩
theorem dsignV_any (v : Value) (D : Dy) (w : World) (hv : VD w D v) : Calls Tryz.prog 61 #[v] w fun en w' => en = .returned (.int .i64 (cmpD D (0, 0))) ∧ Below w.heap.size w w' := by
  obtain ⟨a, c, rfl, h2⟩ := hv
  rw [cmpD_zero, ← dSign_sgn]
  exact dyadSign_any _ _ _ _ _ w
theorem growVal_any (ao : Option Addr) (cap : Nat) (L : List Nat) (w : World) (h : Ns .u64 w ao cap L) (hL : ∀ j, lb L j < 18446744073709551616) (hT : Tab 0 w) :
    Calls Tryz.prog 9 #[.slice ao L.length cap] w (RetVE w (grV L) (prE L)) := by
  have CK := hid (fun w h t => growCheck_any ao cap L w h hL t)
  have HN := hid h
  have HT := hid hT
  have z2 : QL 26 (w.alloc (.cells #[.bool false, .slice none 0 0, .int .i64 0] 26)) w.heap.size false (.slice none 0 0) 0 := QL.made rfl
  have y1 := below_alloc w (.cells #[.bool false, .slice none 0 0, .int .i64 0] 26)
  by_cases hp : prE L = 0
  · obtain ⟨p1, p2, -⟩ := prE_zero L hp
    have VL := hid (fun w h t => growValue_in ao cap L w h hL (by omega) (no_vals L p2) t)
    have e : grV L = grS L := by unfold grV; rw [if_pos hp]
    rw [e, hp]
    rw [hp] at CK
    generalize grS L = G at *
    clear h hL hT hp p1 p2 e
    go_enter Tryz.func9, Tryz.ntmps9
    go_upto_region 1 with fail
    refine wp_wld (fun WW => Below w.heap.size w WW ∧ QL 26 WW w.heap.size false (.slice none 0 0) 0) ⟨y1, z2⟩ ?_
    clear y1 z2
    intro W1 ⟨y1, z2⟩
    obtain ⟨g2, hg2⟩ : ∃ g, g = w.heap.size := ⟨_, rfl⟩
    have b2 : w.heap.size ≤ g2 := by omega
    rw [← hg2] at z2
    rw [← hg2]
    clear hg2
    go_upto_region 4 with (go_at_call 14; (with_reducible refine (CK.out _ (HN.out.below y1) (HT.out.below y1)).mono ?_); rintro en w1 ⟨rfl, hb1⟩)
    have y2 := below_trans y1 hb1
    have z3 := z2.below hb1
    clear z2 hb1 y1
    go_wp2_with (go_at_call 60; (with_reducible refine (VL.out _ (HN.out.below y2) (HT.out.below y2)).mono ?_); rintro en w2 ⟨v3, rfl, ⟨a3, c3, rfl, hN3⟩, hb3⟩; have z4 := z3.below hb3; have yb3 := below_trans y2 hb3; obtain ⟨⟨k0, k1, f0, f1, hs2⟩, k2, f2⟩ := id z4)
    refine bodyPost_ret (by simp [results, Tryz.results9, go_sem, k0, k1, k2]; try rfl) rfl ?_
    exact ⟨_, rfl, ⟨a3, c3, rfl, hN3.set3 z4 (by intro x h; cases h) _ _ _⟩, Go.Ulp.Below.put3 yb3 b2 _ _ _⟩
  · have e : grV L = (0, 0) := by unfold grV; rw [if_neg hp]
    rw [e]
    generalize prE L = E at *
    have hp1 : (E == 0) = false := beq_eq_false_iff_ne.2 hp
    have hp2 : (E != 0) = true := bne_iff_ne.2 hp
    clear h hL hT e
    go_enter Tryz.func9, Tryz.ntmps9
    go_upto_region 1 with fail
    refine wp_wld (fun WW => Below w.heap.size w WW ∧ QL 26 WW w.heap.size false (.slice none 0 0) 0) ⟨y1, z2⟩ ?_
    clear y1 z2
    intro W1 ⟨y1, z2⟩
    obtain ⟨g2, hg2⟩ : ∃ g, g = w.heap.size := ⟨_, rfl⟩
    have b2 : w.heap.size ≤ g2 := by omega
    rw [← hg2] at z2
    rw [← hg2]
    clear hg2
    go_upto_region 3 with (go_at_call 14; (with_reducible refine (CK.out _ (HN.out.below y1) (HT.out.below y1)).mono ?_); rintro en w1 ⟨rfl, hb1⟩)
    have y2 := below_trans y1 hb1
    have z3 := z2.below hb1
    clear z2 hb1 y1
    obtain ⟨⟨k0, k1, f0, f1, hs2⟩, k2, f2⟩ := id z3
    go_wp2_with fail
    refine bodyPost_ret (by simp [results, Tryz.results9, go_sem, k0, k1, k2]; try rfl) rfl ?_
    exact ⟨_, rfl, ⟨none, 0, rfl, Ns.nil⟩, Go.Ulp.Below.put3 y2 b2 _ _ _⟩
theorem growSign_any (ao : Option Addr) (cap : Nat) (L : List Nat) (w : World) (h : Ns .u64 w ao cap L) (hL : ∀ j, lb L j < 18446744073709551616) (hT : Tab 0 w) :
    Calls Tryz.prog 10 #[.slice ao L.length cap] w fun e w' => e = .returned (.tuple #[.int .i64 (cmpD (grV L) (0, 0)), .int .i64 (prE L)]) ∧ Below w.heap.size w w' := by
  have CK := hid (fun w h t => growCheck_any ao cap L w h hL t)
  have HN := hid h
  have HT := hid hT
  by_cases hp : prE L = 0
  · obtain ⟨p1, p2, -⟩ := prE_zero L hp
    have VL := hid (fun w h t => growValue_in ao cap L w h hL (by omega) (no_vals L p2) t)
    have e : grV L = grS L := by unfold grV; rw [if_pos hp]
    have SG := hid (fun v w h => dsignV_any v (grS L) w h)
    rw [e, hp]
    rw [hp] at CK
    generalize cmpD (grS L) (0, 0) = sg at *
    generalize grS L = G at *
    clear h hL hT hp p1 p2 e
    go_enter Tryz.func10, Tryz.ntmps10
    go_wp2_with (first
      | (go_at_call 14; (with_reducible refine (CK.out _ HN.out HT.out).mono ?_); rintro en w1 ⟨rfl, hb1⟩)
      | (go_at_call 60; (with_reducible refine (VL.out _ (HN.out.below hb1) (HT.out.below hb1)).mono ?_); rintro en w2 ⟨v3, rfl, hv3, hb2⟩)
      | (go_at_call 61; (with_reducible refine (SG.out _ _ hv3).mono ?_); rintro en w3 ⟨rfl, hb3⟩))
    go_ret2
    exact ⟨rfl, below_trans (below_trans hb1 hb2) hb3⟩
  · have e : grV L = (0, 0) := by unfold grV; rw [if_neg hp]
    have e2 : cmpD (0, 0) (0, 0) = 0 := cmpD_self _
    rw [e, e2]
    generalize prE L = E at *
    have hp1 : (E == 0) = false := beq_eq_false_iff_ne.2 hp
    have hp2 : (E != 0) = true := bne_iff_ne.2 hp
    clear h hL hT e e2
    go_enter Tryz.func10, Tryz.ntmps10
    go_wp2_with (go_at_call 14; (with_reducible refine (CK.out _ HN.out HT.out).mono ?_); rintro en w1 ⟨rfl, hb1⟩)
    go_ret2
    exact ⟨rfl, hb1⟩
end Go.Proofs.YthaelmnblgollaaGreatDoor
