/- HighBits. -/
import Derived.Test.YteaakbeemhmciaaDoorEs0
set_option linter.unusedVariables false
set_option linter.unusedSimpArgs false
namespace Go.Ulp
open Go.RowKit
theorem fv_sign (x : Int) (h : 0 < (fv x).1.natAbs) : decide ((fv x).1 < 0) = negB x := by
  have hs := sgn_nrm (sg (negB x) (mantOf x)) (dexp x)
  have hm := (mantOf_bd x).1
  have e : (nrm (sg (negB x) (mantOf x)) (dexp x)).1 = (fv x).1 := rfl
  rw [e] at hs
  by_cases hm0 : mantOf x = 0
  · have : (fv x).1 = 0 := by
      show (nrm _ _).1 = 0
      rw [nrm_zero_iff, hm0]; cases negB x <;> rfl
    omega
  · cases hb : negB x
    · rw [hb] at hs
      rw [show sg false (mantOf x) = mantOf x from rfl, show sgn (mantOf x) = 1 from cmpI_g (by omega)] at hs
      refine decide_eq_false (fun h9 => ?_)
      rw [show sgn (fv x).1 = -1 from cmpI_l h9] at hs
      omega
    · rw [hb] at hs
      rw [show sg true (mantOf x) = -mantOf x from rfl, show sgn (-mantOf x) = -1 from cmpI_l (by omega)] at hs
      refine decide_eq_true ?_
      rcases Int.lt_trichotomy (fv x).1 0 with h9 | h9 | h9
      · exact h9
      · omega
      · rw [show sgn (fv x).1 = 1 from cmpI_g h9] at hs; omega
theorem qN_lt (B : Nat) (hB : 2224 ≤ B) (x : Int) (h0 : 0 ≤ x) (h1 : x < 18446744073709551616) : qN x < 2 ^ B := by
  obtain ⟨A, hA⟩ : ∃ A : Nat, A = 2098 := ⟨_, rfl⟩
  have h := uV_bd A (by omega) x h0 h1
  unfold qN
  have h2 : (uV x).natAbs * 2 ^ 126 < 2 ^ A * 2 ^ 126 := Nat.mul_lt_mul_of_pos_right h (Nat.two_pow_pos 126)
  rw [← Nat.pow_add] at h2
  exact Nat.lt_of_lt_of_le h2 (Nat.pow_le_pow_right (by omega) (by omega))
theorem qN_ge (x : Int) (h : uV x ≠ 0) : 2 ^ 126 ≤ qN x := by
  unfold qN
  exact Nat.le_mul_of_pos_left _ (by omega)
theorem bl_top2 (N K : Nat) (h1 : 2 ^ K ≤ N) (h2 : N < 2 ^ (K + 1)) : bl N = K + 1 := bl_eq N K h1 h2
end Go.Ulp
namespace Go.Proofs.YteaakbeemhmciaaDoor
open Go.RowKit Go.Ulp
set_option linter.unusedVariables false
set_option linter.unusedSimpArgs false
set_option maxHeartbeats 4000000
set_option maxRecDepth 100000
theorem highBits_any (x bits : Int) (h0 : 0 ≤ x) (h1 : x < 18446744073709551616) (h : classOf x < 4) (hz : classOf x ≠ 1) (b1 : 1 ≤ bits) (b2 : bits ≤ 52) (w : World) :
    Calls Tryd.prog 76 #[.int .u64 x, .int .i64 bits] w (RetQD 3 w (spD x bits) 200000 1300) := by
  obtain ⟨n, hn⟩ := Int.eq_ofNat_of_zero_le (show 0 ≤ bits by omega)
  have QV := hid (fun w => qval_any x h0 h1 w)
  have QAb := hid (fun v w h => qabs_any v (fv x) 1200 1100 w h (by omega) (by omega))
  have MI := hid (fun w => rMinus_any x h0 h1 w)
  have hu : uV x ≠ 0 := fun e => hz ((uV_zero_iff x h0 h1 h).1 e)
  obtain ⟨hp, hq⟩ := qN_fv x h0 h1 h hz
  have hsg := fv_sign x hp
  obtain ⟨-, c1, c2, c3⟩ := fv_bd x h0 h1
  have hbl : bl (qN x) = bl (fv x).1.natAbs + ((fv x).2 + 1200).toNat := by rw [hq, bl_mul _ _ hp]
  obtain ⟨B, hB⟩ : ∃ B : Nat, B = 2225 := ⟨_, rfl⟩
  have hNB := qN_lt B (by omega) x h0 h1
  have hNL := qN_ge x hu
  have SPF := hid (fun j hj => spD_form x bits h0 h1 h hz b1 b2 j hj)
  rw [hsg] at SPF
  have hsp : spP x bits = (bl (fv x).1.natAbs : Int) + (fv x).2 - bits := rfl
  have HSP := hid (show (bl (qN x) : Int) - bits = spP x bits + 1200 by rw [hbl, hsp]; omega)
  rw [qN_form x h0 h1 h] at QAb
  obtain ⟨N, hN⟩ : ∃ N, N = qN x := ⟨_, rfl⟩
  rw [← hN] at QAb SPF HSP hNB hNL
  have ZN1 := hid (show ∀ w, Calls Tryd.prog 66 #[.int .i64 1] w fun e w' => RetZ 3 w 1 e w' from fun w => zN_any 1 (by omega) w)
  have QM := hid (fun k hk a c w h => qmake_any a c 1 k 2 1300 w h (by decide) (by omega) hk (by omega))
  have QCk := hid (fun (k : Int) (j : Nat) (hj : (j : Int) = k + 1200) v u w k0 k1 => qcmp_any v u (nrm 1 k) (nrm (N : Int) (-1200)) (2 + 1300) 1300 1200 1100 w k0 k1 (by omega) (by omega) (by omega) (by omega))
  have zR0 : QL 42 (w.alloc (.cells #[.bool false, .slice none 0 0, .int .i64 0] 42)) w.heap.size false (.slice none 0 0) 0 := QL.made rfl
  have yb0 := below_alloc w (.cells #[.bool false, .slice none 0 0, .int .i64 0] 42)
  have HNB := hid hNB
  have HNL := hid hNL
  obtain ⟨j0, hj0⟩ : ∃ j : Nat, j + 1 = B := ⟨2224, by omega⟩
  have HJ0 := hid (show N < 2 ^ (j0 + 1) ∧ (j0 : Int) = 1024 + 1200 from ⟨by rw [hj0]; exact HNB.out, by omega⟩)
  generalize negB x = sx at *
  generalize spD x bits = SD at *
  generalize spP x bits = sp at *
  generalize fv x = FX at *
  clear hN hu hp hq hsg c1 c2 c3 hbl hNB hNL hsp h hz hB hj0 HNB
  subst hn
  go_enter Tryd.func76, Tryd.ntmps76
  go_upto_region 2 with (first
    | (go_at_call 25; (with_reducible refine (QV.out _).mono ?_); rintro en w1 ⟨v1, rfl, hv1, hb1⟩)
    | (go_at_call 121; (with_reducible refine (QAb.out _ _ hv1).mono ?_); rintro en w2 ⟨v2, rfl, ⟨y, m, ay, cy, rfl, hNy, hDy, hAy, hTy⟩, hb2⟩))
  have zQ : QL 42 (w2.alloc (.cells #[.bool (zneg y), .slice ay (zl y).length cy, .int .i64 (m : Int)] 42)) w2.heap.size (zneg y) (.slice ay (zl y).length cy) (m : Int) := QL.made rfl
  have hNy1 := hNy.below (below_alloc w2 (.cells #[.bool (zneg y), .slice ay (zl y).length cy, .int .i64 (m : Int)] 42))
  have yb := below_trans (below_trans (below_trans yb0 hb1) hb2) (below_alloc w2 (.cells #[.bool (zneg y), .slice ay (zl y).length cy, .int .i64 (m : Int)] 42))
  have zR := ((zR0.below hb1).below hb2).below (below_alloc w2 (.cells #[.bool (zneg y), .slice ay (zl y).length cy, .int .i64 (m : Int)] 42))
  obtain ⟨W1, hW1⟩ : ∃ W, W = w2.alloc (.cells #[.bool (zneg y), .slice ay (zl y).length cy, .int .i64 (m : Int)] 42) := ⟨_, rfl⟩
  obtain ⟨gq, hgq⟩ : ∃ g, g = w2.heap.size := ⟨_, rfl⟩
  rw [← hW1, ← hgq] at zQ ⊢
  rw [← hW1] at hNy1 yb zR
  have HQ := hid (fun w' (hb : Below W1.heap.size W1 w') => (show QD 3 w' (nrm (N : Int) (-1200)) 1200 1100 (.agg #[.bool (zneg y), .slice ay (zl y).length cy, .int .i64 (m : Int)]) from ⟨y, m, ay, cy, rfl, hNy1.below hb, hDy, hAy, hTy⟩))
  have hgw : w.heap.size < W1.heap.size := zR.lt
  clear hW1 hgq hNy hNy1 hDy hAy hTy hv1 hb1 hb2 zR0 yb0 QV QAb
  go_wp2_with fail
  go_loopw [6] (fun s6 wr => ∃ (k : Int) (j : Nat), s6 = .int .i64 k ∧ (j : Int) = k + 1200 ∧ -1074 ≤ k ∧ k ≤ 1024 ∧ N < 2 ^ (j + 1) ∧ Below W1.heap.size W1 wr) (fun s6 _ => (intOf s6 + 1100).toNat)
  case atStart => exact ⟨1024, j0, rfl, HJ0.out.2, by omega, by omega, HJ0.out.1, Below.refl _ _⟩
  case round =>
    obtain ⟨k, j, rfl, hj, hk1, hk2, hNj, hb⟩ := hrel
    have HNJ := hid hNj
    have hqb := QCk.out k j hj
    rw [cmp_pow N k j hj] at hqb
    have QC := hid hqb
    have hgt := cmpI_gt ((2 ^ j : Nat) : Int) (N : Int)
    obtain ⟨c, hc⟩ : ∃ c, c = cmpI ((2 ^ j : Nat) : Int) (N : Int) := ⟨_, rfl⟩
    rw [← hc] at QC hgt
    have HGT := hid hgt
    have QMk := hid (QM.out k ⟨by omega, by omega⟩)
    clear hqb hc hgt hNj
    have zQ1 := zQ.below hb
    have yc := hb
    by_cases hcp : 0 < c
    · have hlt : N < 2 ^ j := by have := HGT.out.1 hcp; omega
      have hj1 : 126 < j := by
        rcases Nat.lt_or_ge 126 j with h9 | h9
        · exact h9
        · have h8 := Nat.pow_le_pow_right (n := 2) (by omega) h9
          have h7 := HNL.out
          omega
      have HJ1 := hid hj1
      have HLT := hid hlt
      clear hlt hj1 hb
      go_upto_region 3 with fail
      refine wp_region_grow 6 [13, 14, 15, 16, 17, 18] [Fact.z 3 1, Fact.is (.int .i64 k), Fact.q 3 (nrm 1 k) (2 + 1300) 1300, Fact.is (.agg #[.bool (zneg y), .slice ay (zl y).length cy, .int .i64 (m : Int)]), Fact.is (.int .i64 c), Fact.is (.bool true)] (by kernel_rfl) (by kernel_rfl) ⟨?o0, ?o1, ?o2, ?o3, ?o4, ?o5, trivial⟩ ?after
      case o0 => (refine StepOK.plain rfl ?_; intro ρ w1 R hρ hb hp hR; have hcon := hρ.con; have hfn := hρ.fn; clear hρ hp; unfold OpRun; go_simp; (refine (ZN1.out _).mono ?_; rintro e wn ⟨az, cz, rfl, hz9, hbn⟩; exact ⟨_, rfl, hR _ _ hbn ⟨az, cz, rfl, hz9⟩⟩))
      case o1 => (refine StepOK.plain rfl ?_; intro ρ w1 R hρ hb hp hR; have e6 : ρ (.tmp 6) = .int .i64 k := hρ.tmp 6 rfl; have hcon := hρ.con; have hfn := hρ.fn; clear hρ hp; unfold OpRun; go_simp; exact hR _ _ (Below.refl _ _) rfl)
      case o2 => (refine StepOK.plain rfl ?_; intro ρ w1 R hρ hb hp hR; have f13 := hp 0 13 rfl rfl; have e14 : ρ (.tmp 14) = _ := hp 1 14 rfl rfl; obtain ⟨a13, c13, e13, hz13⟩ := f13; have hcon := hρ.con; have hfn := hρ.fn; clear hρ hp; unfold OpRun; go_simp; (skip; refine (QMk.out _ _ _ hz13).mono ?_; rintro e wn ⟨v9, rfl, hv9, hbn⟩; exact ⟨_, rfl, hR _ _ hbn hv9⟩))
      case o3 => (refine StepOK.plain rfl ?_; intro ρ w1 R hρ hb hp hR; have e5 : ρ (.tmp 5) = .pointer (some ⟨gq, 0, none⟩) := hρ.tmp 5 rfl; obtain ⟨⟨j0, j1, -, -, -⟩, j2, -⟩ := zQ1.below hb; have hcon := hρ.con; have hfn := hρ.fn; clear hρ hp; unfold OpRun; go_simp; exact hR _ _ (Below.refl _ _) rfl)
      case o4 => (refine StepOK.plain rfl ?_; intro ρ w1 R hρ hb hp hR; have f15 := hp 2 15 rfl rfl; have e16 : ρ (.tmp 16) = _ := hp 3 16 rfl rfl; have hcon := hρ.con; have hfn := hρ.fn; clear hρ hp; unfold OpRun; go_simp; (refine (QC.out _ _ _ f15 (HQ.out _ (below_trans yc hb))).mono ?_; rintro e wn ⟨rfl, hbn⟩; exact ⟨_, rfl, hR _ _ hbn rfl⟩))
      case o5 => (refine StepOK.plain rfl ?_; intro ρ w1 R hρ hb hp hR; have e17 : ρ (.tmp 17) = _ := hp 4 17 rfl rfl; have hcon := hρ.con; have hfn := hρ.fn; clear hρ hp; unfold OpRun; go_simp; exact hR _ _ (Below.refl _ _) rfl)
      case after =>
        intro u wn hb hf
        have e18 : u 18 = _ := hf 5 18 (by omega) rfl
        clear hf
        simp only [putAll, Act.put, List.setIfInBounds_toArray, List.set_cons_zero, List.set_cons_succ, List.drop_succ_cons, List.drop_zero, List.drop_nil]
        rw [e18]
        have yd := below_trans yc hb
        clear hb
        have hk3 : 0 ≤ k + 1100 := by omega
        go_wp2_with fail
        go_roundw
        case rel => exact ⟨k - 1, j - 1, by go_num, by have := HJ1.out; omega, by have := HJ1.out; omega, by omega, by have := HJ1.out; rw [show j - 1 + 1 = j by omega]; exact HLT.out, yd⟩
        case measure => simp [intOf]; omega
    · have hge : 2 ^ j ≤ N := by
        have h9 := HGT.out
        rcases Nat.lt_or_ge N (2 ^ j) with h8 | h8
        · exact absurd (h9.2 (by omega)) hcp
        · exact h8
      have hK := bl_top2 N j hge HNJ.out
      have HK := hid hK
      have HGE := hid hge
      clear hge hK hb
      go_upto_region 3 with fail
      refine wp_region_grow 6 [13, 14, 15, 16, 17, 18] [Fact.z 3 1, Fact.is (.int .i64 k), Fact.q 3 (nrm 1 k) (2 + 1300) 1300, Fact.is (.agg #[.bool (zneg y), .slice ay (zl y).length cy, .int .i64 (m : Int)]), Fact.is (.int .i64 c), Fact.is (.bool false)] (by kernel_rfl) (by kernel_rfl) ⟨?o0, ?o1, ?o2, ?o3, ?o4, ?o5, trivial⟩ ?after
      case o0 => (refine StepOK.plain rfl ?_; intro ρ w1 R hρ hb hp hR; have hcon := hρ.con; have hfn := hρ.fn; clear hρ hp; unfold OpRun; go_simp; (refine (ZN1.out _).mono ?_; rintro e wn ⟨az, cz, rfl, hz9, hbn⟩; exact ⟨_, rfl, hR _ _ hbn ⟨az, cz, rfl, hz9⟩⟩))
      case o1 => (refine StepOK.plain rfl ?_; intro ρ w1 R hρ hb hp hR; have e6 : ρ (.tmp 6) = .int .i64 k := hρ.tmp 6 rfl; have hcon := hρ.con; have hfn := hρ.fn; clear hρ hp; unfold OpRun; go_simp; exact hR _ _ (Below.refl _ _) rfl)
      case o2 => (refine StepOK.plain rfl ?_; intro ρ w1 R hρ hb hp hR; have f13 := hp 0 13 rfl rfl; have e14 : ρ (.tmp 14) = _ := hp 1 14 rfl rfl; obtain ⟨a13, c13, e13, hz13⟩ := f13; have hcon := hρ.con; have hfn := hρ.fn; clear hρ hp; unfold OpRun; go_simp; (skip; refine (QMk.out _ _ _ hz13).mono ?_; rintro e wn ⟨v9, rfl, hv9, hbn⟩; exact ⟨_, rfl, hR _ _ hbn hv9⟩))
      case o3 => (refine StepOK.plain rfl ?_; intro ρ w1 R hρ hb hp hR; have e5 : ρ (.tmp 5) = .pointer (some ⟨gq, 0, none⟩) := hρ.tmp 5 rfl; obtain ⟨⟨j0, j1, -, -, -⟩, j2, -⟩ := zQ1.below hb; have hcon := hρ.con; have hfn := hρ.fn; clear hρ hp; unfold OpRun; go_simp; exact hR _ _ (Below.refl _ _) rfl)
      case o4 => (refine StepOK.plain rfl ?_; intro ρ w1 R hρ hb hp hR; have f15 := hp 2 15 rfl rfl; have e16 : ρ (.tmp 16) = _ := hp 3 16 rfl rfl; have hcon := hρ.con; have hfn := hρ.fn; clear hρ hp; unfold OpRun; go_simp; (refine (QC.out _ _ _ f15 (HQ.out _ (below_trans yc hb))).mono ?_; rintro e wn ⟨rfl, hbn⟩; exact ⟨_, rfl, hR _ _ hbn rfl⟩))
      case o5 => (refine StepOK.plain rfl ?_; intro ρ w1 R hρ hb hp hR; have e17 : ρ (.tmp 17) = _ := hp 4 17 rfl rfl; have hcon := hρ.con; have hfn := hρ.fn; clear hρ hp; unfold OpRun; go_simp; exact hR _ _ (Below.refl _ _) rfl)
      case after =>
        intro u wn hb hf
        have e18 : u 18 = _ := hf 5 18 (by omega) rfl
        clear hf
        simp only [putAll, Act.put, List.setIfInBounds_toArray, List.set_cons_zero, List.set_cons_succ, List.drop_succ_cons, List.drop_zero, List.drop_nil]
        rw [e18]
        have yd := below_trans yc hb
        have zQ2 := zQ1.below hb
        have zR2 := (zR.below yc).below hb
        have ye := below_trans (below_trans yb yc) hb
        clear hb yc zQ1 zR zQ yb
        go_wp2_with fail
        have zS : QV 42 3 (wn.alloc (.cells #[.bool false, .slice none 0 0, .int .i64 0] 42)) wn.heap.size (nrm (((dn N (j + 1) : Nat)) : Int) (-1200)) (3000 + 2000 * 0) 1300 := by
          rw [dn_zero N (j + 1) HNJ.out, show (((0 : Nat)) : Int) = 0 from rfl, nrm_zero]
          exact QV.zero _ _
        have hn52 : n ≤ 52 := by omega
        have hj126 : 126 ≤ j := by
          rcases Nat.lt_or_ge j 126 with h9 | h9
          · exfalso
            have h8 := Nat.pow_le_pow_right (n := 2) (by omega) (show j + 1 ≤ 126 by omega)
            have h7 := HNL.out
            have h6 := HNJ.out
            omega
          · exact h9
        have ya := below_alloc wn (.cells #[.bool false, .slice none 0 0, .int .i64 0] 42)
        have zQ4 := zQ2.below ya
        have zR4 := zR2.below ya
        have hQ4 := HQ.out _ (below_trans yd ya)
        have ye4 := below_trans ye ya
        have hgs : w.heap.size < wn.heap.size := by have := yd.size; omega
        have hqs : gq ≠ wn.heap.size := by have := zQ2.lt; omega
        obtain ⟨W2, hW2⟩ : ∃ Y, Y = wn.alloc (.cells #[.bool false, .slice none 0 0, .int .i64 0] 42) := ⟨_, rfl⟩
        obtain ⟨gS, hgS⟩ : ∃ g, g = wn.heap.size := ⟨_, rfl⟩
        rw [← hW2, ← hgS] at zS ⊢
        rw [← hW2] at zQ4 zR4 hQ4 ye4
        rw [← hgS] at hgs hqs
        clear hW2 hgS ya ye zQ2 zR2 HQ QCk QMk HGT QC yd hgw
        go_loopw [8, 9, 23] (fun _ _ s23 wr => ∃ i : Nat, s23 = .int .i64 (i : Int) ∧ i ≤ n ∧ QV 42 3 wr gS (nrm ((dn N (j + 1 - i) : Nat) : Int) (-1200)) (3000 + 2000 * i) 1300 ∧ QL 42 wr gq (zneg y) (.slice ay (zl y).length cy) (m : Int) ∧ QL 42 wr w.heap.size false (.slice none 0 0) 0 ∧ QD 3 wr (nrm (N : Int) (-1200)) 1200 1100 (.agg #[.bool (zneg y), .slice ay (zl y).length cy, .int .i64 (m : Int)]) ∧ Below w.heap.size w wr) (fun _ _ s23 _ => (n - (intOf s23).toNat))
        case atStart => exact ⟨0, rfl, by omega, zS, zQ4, zR4, hQ4, ye4⟩
        case round =>
          obtain ⟨i, rfl, hi, hS, zQ5, zR5, hQ5, yf⟩ := hrel
          have HSS := hid hS
          have HQ5 := hid hQ5
          clear hS hQ5 zS zQ4 zR4 hQ4 ye4
          by_cases hin : (i : Int) < (n : Int)
          · have hst := dn_step N (j - i)
            rw [show j - i + 1 = j + 1 - i by omega] at hst
            have hnx : j + 1 - (i + 1) = j - i := by omega
            have hpf := pow_form (k - (i : Int)) (j - i) (by omega)
            have QMi := hid (show ∀ a c w, Nz 3 w a c (zl 1) → Calls Tryd.prog 30 #[.agg #[.bool (zneg 1), .slice a (zl 1).length c], .int .i64 (k - (i : Int))] w fun e w' => RetQD 3 w (nrm ((2 ^ (j - i) : Nat) : Int) (-1200)) (2 + 1300) 1300 e w' from fun a c w h => by
              rw [← hpf]; exact QM.out (k - (i : Int)) ⟨by omega, by omega⟩ a c w h)
            obtain ⟨T, hT⟩ : ∃ T, T = dn N (j + 1 - i) := ⟨_, rfl⟩
            obtain ⟨p, hp⟩ : ∃ p, p = 2 ^ (j - i) := ⟨_, rfl⟩
            rw [← hT] at HSS hst
            rw [← hp] at QMi hst
            have QA := hid (fun v u w h0 h1 => (qadd_any v u (nrm (T : Int) (-1200)) (nrm (p : Int) (-1200)) (3000 + 2000 * i) 1300 (2 + 1300) 1300 w h0 h1 (by omega) (by omega) (by omega) (by omega)).mono fun _ _ h => RetQD.weak h (show max (3000 + 2000 * i) (2 + 1300) + max 1300 1300 + 1 ≤ 3000 + 2000 * (i + 1) by omega) (show max 1300 1300 ≤ 1300 by omega))
            rw [addD_lev', ← Int.natCast_add] at QA
            have QC2 := hid (fun v u w k0 k1 => qcmp_any v u (nrm ((T + p : Nat) : Int) (-1200)) (nrm (N : Int) (-1200)) (3000 + 2000 * (i + 1)) 1300 1200 1100 w k0 k1 (by omega) (by omega) (by omega) (by omega))
            rw [cmp_lev] at QC2
            have hle := cmpI_le ((T + p : Nat) : Int) (N : Int)
            obtain ⟨c2, hc2⟩ : ∃ c, c = cmpI ((T + p : Nat) : Int) (N : Int) := ⟨_, rfl⟩
            rw [← hc2] at QC2 hle
            have HLE := hid hle
            have HST := hid hst
            obtain ⟨TP, hTP⟩ : ∃ D, D = nrm ((T + p : Nat) : Int) (-1200) := ⟨_, rfl⟩
            rw [← hTP] at QA QC2
            have HTP := hid hTP
            have HTT := hid hT
            have HNX := hid hnx
            have hw1 : IntKind.i64.wrap (k - (i : Int)) = k - (i : Int) := IntWalk.i64_in _ (by omega)
            clear hst hpf hT hp hc2 hle hTP hnx
            go_upto_region 10 with (first
              | (go_at_call 66; (with_reducible refine (ZN1.out _).mono ?_); rintro en w3 ⟨a3, c3, rfl, hN3, hb3⟩)
              | (go_at_call 30; (with_reducible refine (QMi.out _ _ _ hN3).mono ?_); rintro en w4 ⟨v4, rfl, ⟨xp, np, ap, cp, rfl, hNp, hDp, hAp, hTp⟩, hb4⟩))
            have zP : QL 42 (w4.alloc (.cells #[.bool (zneg xp), .slice ap (zl xp).length cp, .int .i64 (np : Int)] 42)) w4.heap.size (zneg xp) (.slice ap (zl xp).length cp) (np : Int) := QL.made rfl
            have yg := below_trans (below_trans hb3 hb4) (below_alloc w4 (.cells #[.bool (zneg xp), .slice ap (zl xp).length cp, .int .i64 (np : Int)] 42))
            have hNp1 := hNp.below (below_alloc w4 (.cells #[.bool (zneg xp), .slice ap (zl xp).length cp, .int .i64 (np : Int)] 42))
            obtain ⟨xs, ns, as1, cs1, zS1, hNs, hDs, hAs, hTs⟩ := HSS.out
            have zS3 := zS1.below yg
            have zQ3 := zQ5.below yg
            have zR3 := zR5.below yg
            have hNs1 := hNs.below yg
            have hQ3 := HQ5.out.below yg
            have yh := below_trans yf yg
            have hps : gS ≠ w4.heap.size := by have h1 := zS1.lt; have h2 := hb3.size; have h3 := hb4.size; omega
            obtain ⟨W3, hW3⟩ : ∃ Y, Y = w4.alloc (.cells #[.bool (zneg xp), .slice ap (zl xp).length cp, .int .i64 (np : Int)] 42) := ⟨_, rfl⟩
            obtain ⟨gP, hgP⟩ : ∃ g, g = w4.heap.size := ⟨_, rfl⟩
            rw [← hW3, ← hgP] at zP ⊢
            rw [← hW3] at hNp1 hNs1 zS3 zQ3 zR3 hQ3 yh
            have zP3 := zP
            have HS3 := hid (fun w' (hb : Below W3.heap.size W3 w') => (show QD 3 w' (nrm (T : Int) (-1200)) (3000 + 2000 * i) 1300 (.agg #[.bool (zneg xs), .slice as1 (zl xs).length cs1, .int .i64 (ns : Int)]) from ⟨xs, ns, as1, cs1, rfl, hNs1.below hb, hDs, hAs, hTs⟩))
            have HP3 := hid (fun w' (hb : Below W3.heap.size W3 w') => (show QD 3 w' (nrm (p : Int) (-1200)) (2 + 1300) 1300 (.agg #[.bool (zneg xp), .slice ap (zl xp).length cp, .int .i64 (np : Int)]) from ⟨xp, np, ap, cp, rfl, hNp1.below hb, hDp, hAp, hTp⟩))
            have HQ3 := hid (fun w' (hb : Below W3.heap.size W3 w') => hQ3.below hb)
            have HSV := hid (show nrm xs (-(ns : Int)) = nrm (T : Int) (-1200) ∧ xs.natAbs < 2 ^ (3000 + 2000 * i) ∧ ns ≤ 1300 from ⟨hDs, hAs, hTs⟩)
            clear hW3 hgP hps zP hNp hNp1 hDp hAp hTp hNs hDs hAs hTs zS1 hb3 hb4 hN3 yg yf zQ5 zR5 HSS HQ5 hQ3 QMi QM hw1
            by_cases hcc : c2 ≤ 0
            · have hst2 := HST.out
              have hTN : T + p ≤ N := by have := HLE.out.1 hcc; omega
              rw [if_pos hTN] at hst2
              have HS2 := hid hst2
              clear hst2 hTN
              refine wp_region_grow 6 [31, 32, 33, 34, 35, 36] [Fact.is (.agg #[.bool (zneg xs), .slice as1 (zl xs).length cs1, .int .i64 (ns : Int)]), Fact.is (.agg #[.bool (zneg xp), .slice ap (zl xp).length cp, .int .i64 (np : Int)]), Fact.q 3 TP (3000 + 2000 * (i + 1)) 1300, Fact.is (.agg #[.bool (zneg y), .slice ay (zl y).length cy, .int .i64 (m : Int)]), Fact.is (.int .i64 c2), Fact.is (.bool true)] (by kernel_rfl) (by kernel_rfl) ⟨?o0, ?o1, ?o2, ?o3, ?o4, ?o5, trivial⟩ ?after
              case o0 => (refine StepOK.plain rfl ?_; intro ρ w1 R hρ hb hp hR; have e7 : ρ (.tmp 7) = .pointer (some ⟨gS, 0, none⟩) := hρ.tmp 7 rfl; obtain ⟨⟨j0, j1, -, -, -⟩, j2, -⟩ := zS3.below hb; have hcon := hρ.con; have hfn := hρ.fn; clear hρ hp; unfold OpRun; go_simp; exact hR _ _ (Below.refl _ _) rfl)
              case o1 => (refine StepOK.plain rfl ?_; intro ρ w1 R hρ hb hp hR; have e9 : ρ (.tmp 9) = .pointer (some ⟨gP, 0, none⟩) := hρ.tmp 9 rfl; obtain ⟨⟨j0, j1, -, -, -⟩, j2, -⟩ := zP3.below hb; have hcon := hρ.con; have hfn := hρ.fn; clear hρ hp; unfold OpRun; go_simp; exact hR _ _ (Below.refl _ _) rfl)
              case o2 => (refine StepOK.plain rfl ?_; intro ρ w1 R hρ hb hp hR; have e31 : ρ (.tmp 31) = _ := hp 0 31 rfl rfl; have e32 : ρ (.tmp 32) = _ := hp 1 32 rfl rfl; have hcon := hρ.con; have hfn := hρ.fn; clear hρ hp; unfold OpRun; go_simp; (refine (QA.out _ _ _ (HS3.out _ hb) (HP3.out _ hb)).mono ?_; rintro e wn ⟨v9, rfl, hv9, hbn⟩; exact ⟨_, rfl, hR _ _ hbn hv9⟩))
              case o3 => (refine StepOK.plain rfl ?_; intro ρ w1 R hρ hb hp hR; have e5 : ρ (.tmp 5) = .pointer (some ⟨gq, 0, none⟩) := hρ.tmp 5 rfl; obtain ⟨⟨j0, j1, -, -, -⟩, j2, -⟩ := zQ3.below hb; have hcon := hρ.con; have hfn := hρ.fn; clear hρ hp; unfold OpRun; go_simp; exact hR _ _ (Below.refl _ _) rfl)
              case o4 => (refine StepOK.plain rfl ?_; intro ρ w1 R hρ hb hp hR; have f33 := hp 2 33 rfl rfl; have e34 : ρ (.tmp 34) = _ := hp 3 34 rfl rfl; have hcon := hρ.con; have hfn := hρ.fn; clear hρ hp; unfold OpRun; go_simp; (refine (QC2.out _ _ _ f33 (HQ3.out _ hb)).mono ?_; rintro e wn ⟨rfl, hbn⟩; exact ⟨_, rfl, hR _ _ hbn rfl⟩))
              case o5 => (refine StepOK.plain rfl ?_; intro ρ w1 R hρ hb hp hR; have e35 : ρ (.tmp 35) = _ := hp 4 35 rfl rfl; have hcon := hρ.con; have hfn := hρ.fn; clear hρ hp; unfold OpRun; go_simp; exact hR _ _ (Below.refl _ _) rfl)
              case after =>
                intro u wn hb hf
                have e36 : u 36 = _ := hf 5 36 (by omega) rfl
                clear hf
                simp only [putAll, Act.put, List.setIfInBounds_toArray, List.set_cons_zero, List.set_cons_succ, List.drop_succ_cons, List.drop_zero, List.drop_nil]
                rw [e36]
                obtain ⟨⟨a0, a1, e0, e1, as9⟩, a2, e2⟩ := zS3.below hb
                obtain ⟨⟨p0, p1, -, -, -⟩, p2, -⟩ := zP3.below hb
                go_upto_region 12 with (go_at_call 38; (with_reducible refine (QA.out _ _ _ (HS3.out _ hb) (HP3.out _ hb)).mono ?_); rintro en w5 ⟨v5, rfl, ⟨x5, n5, a5, c5, rfl, hN5, hD5, hA5, hT5⟩, hb5⟩; have zS5 := (zS3.below hb).below hb5; obtain ⟨⟨b0, b1, g0, g1, bs9⟩, b2, g2⟩ := id zS5)
                have yk := below_trans hb hb5
                have hgR : w.heap.size ≠ gS := by omega
                have zQ6 := (zQ3.below yk).far3 hqs (.bool (zneg x5)) (.slice a5 (zl x5).length c5) (.int .i64 (n5 : Int))
                have zR6 := (zR3.below yk).far3 hgR (.bool (zneg x5)) (.slice a5 (zl x5).length c5) (.int .i64 (n5 : Int))
                obtain ⟨yy, mm, ayy, cyy, eyy, hNyy, hDyy, hAyy, hTyy⟩ := HQ3.out _ yk
                have hQ6 : QD 3 (((w5.setCell ⟨gS, 0, none⟩ (.bool (zneg x5))).setCell ⟨gS, 1, none⟩ (.slice a5 (zl x5).length c5)).setCell ⟨gS, 2, none⟩ (.int .i64 (n5 : Int))) (nrm (N : Int) (-1200)) 1200 1100 (.agg #[.bool (zneg y), .slice ay (zl y).length cy, .int .i64 (m : Int)]) := ⟨yy, mm, ayy, cyy, eyy, hNyy.set3Q zS5 (by decide) _ _ _, hDyy, hAyy, hTyy⟩
                have HS6 := hid (show QV 42 3 (((w5.setCell ⟨gS, 0, none⟩ (.bool (zneg x5))).setCell ⟨gS, 1, none⟩ (.slice a5 (zl x5).length c5)).setCell ⟨gS, 2, none⟩ (.int .i64 (n5 : Int))) gS (nrm ((dn N (j - i) : Nat) : Int) (-1200)) (3000 + 2000 * (i + 1)) 1300 from ⟨x5, n5, a5, c5, zS5.put _ _ _, hN5.set3Q zS5 (by decide) _ _ _, by rw [HS2.out, ← HTP.out]; exact hD5, hA5, hT5⟩)
                have yl := Go.Ulp.Below.put3 (below_trans yh yk) (g := gS) (by omega) (.bool (zneg x5)) (.slice a5 (zl x5).length c5) (.int .i64 (n5 : Int))
                have HZ6 := hid (And.intro zQ6 (And.intro zR6 (And.intro hQ6 yl)))
                clear zQ6 zR6 hQ6 yl hNyy hDyy hAyy hTyy hN5 hD5 hA5 hT5
                go_wp2_with fail
                go_roundw
                case rel => exact ⟨i + 1, by go_num, by omega, by rw [HNX.out]; exact HS6.out, HZ6.out.1, HZ6.out.2.1, HZ6.out.2.2.1, HZ6.out.2.2.2⟩
                case measure => simp [intOf]; omega
            · have hst2 := HST.out
              have hTN : ¬ T + p ≤ N := by
                intro h9
                exact hcc (HLE.out.2 (by omega))
              rw [if_neg hTN] at hst2
              have HS2 := hid hst2
              clear hst2 hTN
              refine wp_region_grow 6 [31, 32, 33, 34, 35, 36] [Fact.is (.agg #[.bool (zneg xs), .slice as1 (zl xs).length cs1, .int .i64 (ns : Int)]), Fact.is (.agg #[.bool (zneg xp), .slice ap (zl xp).length cp, .int .i64 (np : Int)]), Fact.q 3 TP (3000 + 2000 * (i + 1)) 1300, Fact.is (.agg #[.bool (zneg y), .slice ay (zl y).length cy, .int .i64 (m : Int)]), Fact.is (.int .i64 c2), Fact.is (.bool false)] (by kernel_rfl) (by kernel_rfl) ⟨?o0, ?o1, ?o2, ?o3, ?o4, ?o5, trivial⟩ ?after
              case o0 => (refine StepOK.plain rfl ?_; intro ρ w1 R hρ hb hp hR; have e7 : ρ (.tmp 7) = .pointer (some ⟨gS, 0, none⟩) := hρ.tmp 7 rfl; obtain ⟨⟨j0, j1, -, -, -⟩, j2, -⟩ := zS3.below hb; have hcon := hρ.con; have hfn := hρ.fn; clear hρ hp; unfold OpRun; go_simp; exact hR _ _ (Below.refl _ _) rfl)
              case o1 => (refine StepOK.plain rfl ?_; intro ρ w1 R hρ hb hp hR; have e9 : ρ (.tmp 9) = .pointer (some ⟨gP, 0, none⟩) := hρ.tmp 9 rfl; obtain ⟨⟨j0, j1, -, -, -⟩, j2, -⟩ := zP3.below hb; have hcon := hρ.con; have hfn := hρ.fn; clear hρ hp; unfold OpRun; go_simp; exact hR _ _ (Below.refl _ _) rfl)
              case o2 => (refine StepOK.plain rfl ?_; intro ρ w1 R hρ hb hp hR; have e31 : ρ (.tmp 31) = _ := hp 0 31 rfl rfl; have e32 : ρ (.tmp 32) = _ := hp 1 32 rfl rfl; have hcon := hρ.con; have hfn := hρ.fn; clear hρ hp; unfold OpRun; go_simp; (refine (QA.out _ _ _ (HS3.out _ hb) (HP3.out _ hb)).mono ?_; rintro e wn ⟨v9, rfl, hv9, hbn⟩; exact ⟨_, rfl, hR _ _ hbn hv9⟩))
              case o3 => (refine StepOK.plain rfl ?_; intro ρ w1 R hρ hb hp hR; have e5 : ρ (.tmp 5) = .pointer (some ⟨gq, 0, none⟩) := hρ.tmp 5 rfl; obtain ⟨⟨j0, j1, -, -, -⟩, j2, -⟩ := zQ3.below hb; have hcon := hρ.con; have hfn := hρ.fn; clear hρ hp; unfold OpRun; go_simp; exact hR _ _ (Below.refl _ _) rfl)
              case o4 => (refine StepOK.plain rfl ?_; intro ρ w1 R hρ hb hp hR; have f33 := hp 2 33 rfl rfl; have e34 : ρ (.tmp 34) = _ := hp 3 34 rfl rfl; have hcon := hρ.con; have hfn := hρ.fn; clear hρ hp; unfold OpRun; go_simp; (refine (QC2.out _ _ _ f33 (HQ3.out _ hb)).mono ?_; rintro e wn ⟨rfl, hbn⟩; exact ⟨_, rfl, hR _ _ hbn rfl⟩))
              case o5 => (refine StepOK.plain rfl ?_; intro ρ w1 R hρ hb hp hR; have e35 : ρ (.tmp 35) = _ := hp 4 35 rfl rfl; have hcon := hρ.con; have hfn := hρ.fn; clear hρ hp; unfold OpRun; go_simp; exact hR _ _ (Below.refl _ _) rfl)
              case after =>
                intro u wn hb hf
                have e36 : u 36 = _ := hf 5 36 (by omega) rfl
                clear hf
                simp only [putAll, Act.put, List.setIfInBounds_toArray, List.set_cons_zero, List.set_cons_succ, List.drop_succ_cons, List.drop_zero, List.drop_nil]
                rw [e36]
                have zS6 := zS3.below hb
                have HS6 := hid (show QV 42 3 wn gS (nrm ((dn N (j - i) : Nat) : Int) (-1200)) (3000 + 2000 * (i + 1)) 1300 from by
                  rw [HS2.out]
                  obtain ⟨x9, n9, a9, c9, e9, hN9, -⟩ := HS3.out _ hb
                  injection e9 with e9
                  have q9 : xs = x9 ∨ True := .inr trivial
                  exact QV.weak (A := 3000 + 2000 * i) (T := 1300) ⟨xs, ns, as1, cs1, zS6, hNs1.below hb, HSV.out.1, HSV.out.2.1, HSV.out.2.2⟩ (by omega) (by omega))
                go_wp2_with fail
                go_roundw
                case rel => exact ⟨i + 1, by go_num, by omega, by rw [HNX.out]; exact HS6.out, zQ3.below hb, zR3.below hb, HQ3.out _ hb, below_trans yh hb⟩
                case measure => simp [intOf]; omega
          · have hin2 : i = n := by omega
            have hfin := SPF.out (j + 1 - i) (by have h1 := HSP.out; rw [HK.out] at h1; omega)
            obtain ⟨xs, ns, as1, cs1, zS1, hNs, hDs, hAs, hTs⟩ := HSS.out
            have NG := hid (fun v w h => qneg_any v (nrm ((dn N (j + 1 - i) : Nat) : Int) (-1200)) (3000 + 2000 * i) 1300 w h (by omega) (by omega))
            have HQS := hid (show QD 3 wr (nrm ((dn N (j + 1 - i) : Nat) : Int) (-1200)) (3000 + 2000 * i) 1300 (.agg #[.bool (zneg xs), .slice as1 (zl xs).length cs1, .int .i64 (ns : Int)]) from ⟨xs, ns, as1, cs1, rfl, hNs, hDs, hAs, hTs⟩)
            rw [← nrm_neg] at NG
            generalize dn N (j + 1 - i) = T at *
            have HF := hid hfin
            have HV := hid (show nrm xs (-(ns : Int)) = nrm (T : Int) (-1200) ∧ xs.natAbs < 2 ^ (3000 + 2000 * i) ∧ ns ≤ 1300 from ⟨hDs, hAs, hTs⟩)
            have HNs := hid hNs
            obtain ⟨⟨a0, a1, -, -, -⟩, a2, -⟩ := id zS1
            obtain ⟨⟨k0, k1, f0, f1, hs9⟩, k2, f2⟩ := id zR5
            clear hin2 hfin hNs hDs hAs hTs HSS HQ5 SPF HSP HK QM HNJ HNL HGE
            cases sx
            · go_wp2_with (go_at_call 63; (with_reducible refine (MI.out _).mono ?_); rintro en w6 ⟨rfl, rfl⟩)
              refine bodyPost_ret (by simp [results, Tryd.results76, go_sem, k0, k1, k2]; try rfl) rfl ?_
              exact ⟨_, rfl, QD.weak (A := 3000 + 2000 * i) (T := 1300) ⟨xs, ns, as1, cs1, rfl, HNs.out.set3Q zR5 (by decide) _ _ _, by rw [HV.out.1]; exact HF.out, HV.out.2.1, HV.out.2.2⟩ (by omega) (by omega), Go.Ulp.Below.put3 yf (Nat.le_refl _) _ _ _⟩
            · go_wp2_with (first
                | (go_at_call 63; (with_reducible refine (MI.out _).mono ?_); rintro en w6 ⟨rfl, rfl⟩)
                | (go_at_call 39; (with_reducible refine (NG.out _ _ HQS.out).mono ?_); rintro en w7 ⟨v7, rfl, ⟨x7, n7, a7, c7, rfl, hN7, hD7, hA7, hT7⟩, hb7⟩; have zR7 := zR5.below hb7; obtain ⟨⟨l0, l1, r0, r1, hs7⟩, l2, r2⟩ := id zR7))
              refine bodyPost_ret (by simp [results, Tryd.results76, go_sem, l0, l1, l2]; try rfl) rfl ?_
              exact ⟨_, rfl, QD.weak (A := 3000 + 2000 * i) (T := 1300) ⟨x7, n7, a7, c7, rfl, hN7.set3Q zR7 (by decide) _ _ _, by rw [hD7]; exact HF.out, hA7, hT7⟩ (by omega) (by omega), Go.Ulp.Below.put3 (below_trans yf hb7) (Nat.le_refl _) _ _ _⟩

end Go.Proofs.YteaakbeemhmciaaDoor
