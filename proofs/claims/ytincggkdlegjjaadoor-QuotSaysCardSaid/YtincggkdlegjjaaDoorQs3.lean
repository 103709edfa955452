/- Div. -/
import Derived.Test.YtincggkdlegjjaaDoorQs0
import Derived.Test.YtincggkdlegjjaaDoorQr1
set_option linter.unusedVariables false
set_option linter.unusedSimpArgs false
namespace Go.Ulp
open Go.RowKit
end Go.Ulp
namespace Go.Proofs.YtincggkdlegjjaaDoor
open Go.RowKit Go.Ulp
set_option linter.unusedVariables false
set_option linter.unusedSimpArgs false
set_option maxHeartbeats 4000000
set_option maxRecDepth 100000
theorem sticky_any (neg lost : Bool) (a0 : Option Addr) (c0 q : Nat) (x : Int) (w : World) (h0 : Ns .u32 w a0 c0 (limbs q)) (hq : (limbs q).length ≤ 100000) (hx : -1000000 ≤ x ∧ x ≤ 1000000) :
    Calls Tryd.prog 135 #[.bool neg, .slice a0 (limbs q).length c0, .bool lost, .int .i64 x] w (RetDy w neg (4 * q + if lost = true then 1 else 0) (x - 2)) := by
  have l4 := limbs_len_mul q 4 100000 100000 hq (Nat.le_trans (limbs_short 3 2 (by omega) 4 (by decide)) (by omega))
  have LE := hid (show ∀ w, Ns .u32 w a0 c0 (limbs q) → Calls Tryd.prog 111 #[.slice a0 (limbs q).length c0, .int .i64 2] w fun e w' => RetN w (4 * q) e w' from fun w h => by
    have h9 := leftN_any a0 c0 q 2 w h (by omega) (by omega)
    rw [show q * 2 ^ 2 = 4 * q by omega] at h9
    exact h9)
  rw [Nat.mul_comm q 4] at l4
  have OF := hid (show ∀ w, Calls Tryd.prog 82 #[.int .u64 1] w fun e w' => RetN w 1 e w' from fun w => natOf_any 1 (by omega) w)
  have PL := hid (fun a0 a1 c0 c1 w h0 h1 => plus_any a0 a1 c0 c1 (4 * q) 1 w h0 h1 (by omega) (Nat.le_trans (limbs_short 3 2 (by omega) 1 (by decide)) (by omega)))
  have hw : IntKind.i64.wrap (x - 2) = x - 2 := IntWalk.i64_in _ (by omega)
  have H0 := hid h0
  have hcap := h0.1
  have hcap2 := h0.2.1
  unfold maxLen at hcap2
  have zR0 : QL 35 (w.alloc (.cells #[.bool false, .slice none 0 0, .int .i64 0] 35)) w.heap.size false (.slice none 0 0) 0 := QL.made rfl
  have yb0 := below_alloc w (.cells #[.bool false, .slice none 0 0, .int .i64 0] 35)
  obtain ⟨M4, hM4⟩ : ∃ M, M = 4 * q := ⟨_, rfl⟩
  rw [← hM4] at LE PL l4 ⊢
  clear hM4 h0
  cases lost
  · go_enter Tryd.func135, Tryd.ntmps135
    go_upto_region 2 with (go_at_call 111; (with_reducible refine (LE.out _ (H0.out.below yb0)).mono ?_); rintro en w1 ⟨a1, rfl, hN1, hb1⟩)
    have zR := zR0.below hb1
    obtain ⟨⟨k0, k1, f0, f1, hs2⟩, k2, f2⟩ := id zR
    have yb1 := below_trans yb0 hb1
    go_wp2_with fail
    refine bodyPost_ret (by simp [results, Tryd.results135, go_sem, k0, k1, k2]; try rfl) rfl ?_
    exact ⟨a1, _, rfl, hN1.set3 zR (by intro x h; cases h) _ _ _, ((yb1.setCell (by first | omega | (simp; done) | (simp; omega)) _).setCell (by first | omega | (simp; done) | (simp; omega)) _).setCell (by first | omega | (simp; done) | (simp; omega)) _⟩
  · go_enter Tryd.func135, Tryd.ntmps135
    go_upto_region 2 with (go_at_call 111; (with_reducible refine (LE.out _ (H0.out.below yb0)).mono ?_); rintro en w1 ⟨a1, rfl, hN1, hb1⟩)
    have HN1 := hid hN1
    go_upto_region 4 with (first
      | (go_at_call 82; (with_reducible refine (OF.out _).mono ?_); rintro en w2 ⟨a2, rfl, hN2, hb2⟩)
      | (go_at_call 145; (with_reducible refine (PL.out _ _ _ _ _ (HN1.out.below hb2) hN2).mono ?_); rintro en w3 ⟨a3, rfl, hN3, hb3⟩))
    have yb1 := below_trans (below_trans (below_trans yb0 hb1) hb2) hb3
    have zR := ((zR0.below hb1).below hb2).below hb3
    obtain ⟨⟨k0, k1, f0, f1, hs2⟩, k2, f2⟩ := id zR
    go_wp2_with fail
    refine bodyPost_ret (by simp [results, Tryd.results135, go_sem, k0, k1, k2]; try rfl) rfl ?_
    exact ⟨a3, _, rfl, hN3.set3 zR (by intro x h; cases h) _ _ _, ((yb1.setCell (by first | omega | (simp; done) | (simp; omega)) _).setCell (by first | omega | (simp; done) | (simp; omega)) _).setCell (by first | omega | (simp; done) | (simp; omega)) _⟩
end Go.Proofs.YtincggkdlegjjaaDoor
set_option linter.unusedVariables false
set_option linter.unusedSimpArgs false
namespace Go.Ulp
open Go.RowKit
def Fact.nn (q r : Nat) : Fact := ⟨fun v w => ∃ ao c bo d, v = .tuple #[.slice ao (limbs q).length c, .slice bo (limbs r).length d] ∧ Ns .u32 w ao c (limbs q) ∧ Ns .u32 w bo d (limbs r), fun _ _ _ h hb => by
  obtain ⟨ao, c, bo, d, h1, h2, h3⟩ := h
  exact ⟨ao, c, bo, d, h1, h2.below hb, h3.below hb⟩⟩
/-- by how much the program shifts -/
def rK (M N : Nat) : Nat := (max (0 : Int) (80 + bl N - bl M)).toNat
theorem rK_max (M N : Nat) : max (0 : Int) (80 + bl N - bl M) = (rK M N : Int) := by unfold rK; omega
end Go.Ulp
namespace Go.Proofs.YtincggkdlegjjaaDoor
open Go.RowKit Go.Ulp
set_option linter.unusedVariables false
set_option linter.unusedSimpArgs false
set_option maxHeartbeats 4000000
set_option maxRecDepth 100000
theorem ratio_any (n0 n1 : Bool) (am bm : Option Addr) (cm dm M N : Nat) (e0 e1 : Int) (w : World) (hN : Ns .u32 w am cm (limbs M)) (hM : Ns .u32 w bm dm (limbs N)) (m1 : M < 2 ^ 53) (m2 : N < 2 ^ 53) (m3 : 0 < N) (he0 : -10000 ≤ e0 ∧ e0 ≤ 10000) (he1 : -10000 ≤ e1 ∧ e1 ≤ 10000) :
    Calls Tryd.prog 62 #[.agg #[.bool n0, .slice am (limbs M).length cm, .int .i64 e0], .agg #[.bool n1, .slice bm (limbs N).length dm, .int .i64 e1]] w (RetDy w (n0 != n1) (qst M N (rK M N)) (e0 - e1 - (rK M N : Int) - 2)) := by
  have HN := hid hN
  have HM := hid hM
  have hcap := hN.1
  have hcap2 := hN.2.1
  have hdap := hM.1
  have hdap2 := hM.2.1
  unfold maxLen at hcap2 hdap2
  have lM := limbs_short 53 2 (by omega) M m1
  have lN := limbs_short 53 2 (by omega) N m2
  have b1 := (bl_le M 53).2 m1
  have b2 := (bl_le N 53).2 m2
  have LM := hid (fun w h => natLen_any am cm M w h (by omega))
  have LN := hid (fun w h => natLen_any bm dm N w h (by omega))
  obtain ⟨K, hK⟩ : ∃ K, K = rK M N := ⟨_, rfl⟩
  have hmx := rK_max M N
  rw [← hK] at hmx ⊢
  have hKb : K ≤ 133 := by omega
  obtain ⟨A, hA⟩ : ∃ A, A = M * 2 ^ K := ⟨_, rfl⟩
  have hAb : A < 2 ^ 200 := by
    rw [hA]
    have h := Nat.mul_lt_mul_of_pos_right m1 (Nat.two_pow_pos K)
    rw [← Nat.pow_add] at h
    exact Nat.lt_of_lt_of_le h (Nat.pow_le_pow_right (by omega) (by omega))
  have lA := limbs_short 200 10 (by omega) A hAb
  have LE := hid (show ∀ w, Ns .u32 w am cm (limbs M) → Calls Tryd.prog 111 #[.slice am (limbs M).length cm, .int .i64 (K : Int)] w fun e w' => RetN w A e w' from fun w h => by
    rw [hA]; exact leftN_any am cm M K w h (by omega) (by omega))
  obtain ⟨q, hq⟩ : ∃ q, q = A / N := ⟨_, rfl⟩
  obtain ⟨r, hr⟩ : ∃ r, r = A % N := ⟨_, rfl⟩
  have hqA : q ≤ A := by rw [hq]; exact Nat.div_le_self _ _
  have lq := limbs_short 200 10 (by omega) q (by omega)
  have OV := hid (show ∀ a c w, Ns .u32 w a c (limbs A) → Ns .u32 w bm dm (limbs N) → Calls Tryd.prog 134 #[.slice a (limbs A).length c, .slice bm (limbs N).length dm] w fun e w' => RetNN w q r e w' from fun a c w h0 h1 => by
    rw [hq, hr]; exact over_any a bm c dm A N w h0 h1 (by omega) m3)
  have hQ9 : (4 * q + if decide (0 < (limbs r).length) = true then 1 else 0) = qst M N K := by
    unfold qst
    rw [← hA, ← hq, ← hr]
    congr 1
    by_cases h : r = 0
    · rw [if_pos h, h, limbs_zero]; rfl
    · have h2 : 0 < (limbs r).length := by
        rcases Nat.eq_zero_or_pos (limbs r).length with h9 | h9
        · exact absurd ((limbs_nil r).1 (List.length_eq_zero_iff.1 h9)) h
        · exact h9
      rw [if_neg h, decide_eq_true h2, if_pos rfl]
  have ST := hid (show ∀ a c w, Ns .u32 w a c (limbs q) → Calls Tryd.prog 135 #[.bool (!(n0 == n1)), .slice a (limbs q).length c, .bool (decide (0 < (limbs r).length)), .int .i64 (e0 - e1 - (K : Int))] w (RetDy w (n0 != n1) (qst M N K) (e0 - e1 - (K : Int) - 2)) from fun a c w h => by
    have h9 := sticky_any (!(n0 == n1)) (decide (0 < (limbs r).length)) a c q (e0 - e1 - (K : Int)) w h (by omega) (by omega)
    rw [hQ9] at h9; exact h9)
  obtain ⟨X, hX⟩ : ∃ X, X = qst M N K := ⟨_, rfl⟩
  rw [← hX] at ST ⊢
  have lr : (limbs r).length ≤ 10 := limbs_short 200 10 (by omega) r (by have := Nat.mod_le A N; omega)
  have w1 : IntKind.i64.wrap (80 + (bl N : Int)) = 80 + (bl N : Int) := IntWalk.i64_in _ (by omega)
  have w2 : IntKind.i64.wrap (80 + (bl N : Int) - (bl M : Int)) = 80 + (bl N : Int) - (bl M : Int) := IntWalk.i64_in _ (by omega)
  have w3 : IntKind.i64.wrap (e0 - e1) = e0 - e1 := IntWalk.i64_in _ (by omega)
  have w4 : IntKind.i64.wrap (e0 - e1 - (K : Int)) = e0 - e1 - (K : Int) := IntWalk.i64_in _ (by omega)
  generalize bl M = bM at *
  generalize bl N = bN at *
  clear hN hM hK hA hq hr hqA hAb m1 m2 m3 hQ9 hX
  have zA : QL 35 (((w.alloc (.cells #[.bool n0, .slice am (limbs M).length cm, .int .i64 e0] 35)).alloc (.cells #[.bool n1, .slice bm (limbs N).length dm, .int .i64 e1] 35)).alloc (.cells #[.bool false, .slice none 0 0, .int .i64 0] 35)) w.heap.size n0 (.slice am (limbs M).length cm) e0 := ((QL.made rfl).alloc _).alloc _
  have zB : QL 35 (((w.alloc (.cells #[.bool n0, .slice am (limbs M).length cm, .int .i64 e0] 35)).alloc (.cells #[.bool n1, .slice bm (limbs N).length dm, .int .i64 e1] 35)).alloc (.cells #[.bool false, .slice none 0 0, .int .i64 0] 35)) (w.heap.size + 1) n1 (.slice bm (limbs N).length dm) e1 := (QL.made (by first | omega | (simp; done) | (simp; omega))).alloc _
  have zR0 : QL 35 (((w.alloc (.cells #[.bool n0, .slice am (limbs M).length cm, .int .i64 e0] 35)).alloc (.cells #[.bool n1, .slice bm (limbs N).length dm, .int .i64 e1] 35)).alloc (.cells #[.bool false, .slice none 0 0, .int .i64 0] 35)) (w.heap.size + 1 + 1) false (.slice none 0 0) 0 := QL.made (by first | omega | (simp; done) | (simp; omega))
  have yb0 : Below w.heap.size w (((w.alloc (.cells #[.bool n0, .slice am (limbs M).length cm, .int .i64 e0] 35)).alloc (.cells #[.bool n1, .slice bm (limbs N).length dm, .int .i64 e1] 35)).alloc (.cells #[.bool false, .slice none 0 0, .int .i64 0] 35)) := by (repeat' (first | (with_reducible assumption) | (with_reducible exact Below.refl _ _) | (with_reducible refine below_al ?_ _) | (with_reducible refine below_drewN ?_ _) | (with_reducible refine Below.drew ?_) | (with_reducible refine Below.alloc ?_ ?_ _) | (with_reducible refine Below.setCell ?_ ?_ _) | (refine below_trans ?_ (by assumption)) | go_size))
  go_enter Tryd.func62, Tryd.ntmps62
  go_upto_region 1 with fail
  refine wp_region_grow 10 [8, 9, 10, 11, 12, 13, 14, 15, 16, 5] [Fact.is (.pointer (some ⟨w.heap.size + 1, 1, none⟩)), Fact.is (.slice bm (limbs N).length dm), Fact.is (.int .i64 (bN : Int)), Fact.is (.int .i64 (80 + (bN : Int))), Fact.is (.pointer (some ⟨w.heap.size, 1, none⟩)), Fact.is (.slice am (limbs M).length cm), Fact.is (.int .i64 (bM : Int)), Fact.is (.int .i64 (80 + (bN : Int) - (bM : Int))), Fact.is (.int .i64 (K : Int)), Fact.is (.int .i64 (K : Int))] (by kernel_rfl) (by kernel_rfl) ⟨?o0, ?o1, ?o2, ?o3, ?o4, ?o5, ?o6, ?o7, ?o8, ?o9, trivial⟩ ?after
  case o0 => (refine StepOK.plain rfl ?_; intro ρ w1 R hρ hb hp hR; have e3 : ρ (.tmp 3) = .pointer (some ⟨w.heap.size + 1, 0, none⟩) := hρ.tmp 3 rfl; have hcon := hρ.con; have hfn := hρ.fn; clear hρ hp; unfold OpRun; go_simp; exact hR _ _ (Below.refl _ _) rfl)
  case o1 => (refine StepOK.plain rfl ?_; intro ρ w1 R hρ hb hp hR; have e8 : ρ (.tmp 8) = _ := hp 0 8 rfl rfl; obtain ⟨⟨j0, j1, -, -, -⟩, j2, -⟩ := zB.below hb; have hcon := hρ.con; have hfn := hρ.fn; clear hρ hp; unfold OpRun; go_simp; exact hR _ _ (Below.refl _ _) rfl)
  case o2 => (refine StepOK.plain rfl ?_; intro ρ w1 R hρ hb hp hR; have e9 : ρ (.tmp 9) = _ := hp 1 9 rfl rfl; have hcon := hρ.con; have hfn := hρ.fn; clear hρ hp; unfold OpRun; go_simp; (refine (LN.out _ (HM.out.below (below_trans yb0 hb))).mono ?_; rintro e wn ⟨rfl, rfl⟩; exact ⟨_, rfl, hR _ _ (Below.refl _ _) rfl⟩))
  case o3 => (refine StepOK.plain rfl ?_; intro ρ w1 R hρ hb hp hR; have e10 : ρ (.tmp 10) = _ := hp 2 10 rfl rfl; have hcon := hρ.con; have hfn := hρ.fn; clear hρ hp; unfold OpRun; go_simp; exact hR _ _ (Below.refl _ _) rfl)
  case o4 => (refine StepOK.plain rfl ?_; intro ρ w1 R hρ hb hp hR; have e2 : ρ (.tmp 2) = .pointer (some ⟨w.heap.size, 0, none⟩) := hρ.tmp 2 rfl; have hcon := hρ.con; have hfn := hρ.fn; clear hρ hp; unfold OpRun; go_simp; exact hR _ _ (Below.refl _ _) rfl)
  case o5 => (refine StepOK.plain rfl ?_; intro ρ w1 R hρ hb hp hR; have e12 : ρ (.tmp 12) = _ := hp 4 12 rfl rfl; obtain ⟨⟨j0, j1, -, -, -⟩, j2, -⟩ := zA.below hb; have hcon := hρ.con; have hfn := hρ.fn; clear hρ hp; unfold OpRun; go_simp; exact hR _ _ (Below.refl _ _) rfl)
  case o6 => (refine StepOK.plain rfl ?_; intro ρ w1 R hρ hb hp hR; have e13 : ρ (.tmp 13) = _ := hp 5 13 rfl rfl; have hcon := hρ.con; have hfn := hρ.fn; clear hρ hp; unfold OpRun; go_simp; (refine (LM.out _ (HN.out.below (below_trans yb0 hb))).mono ?_; rintro e wn ⟨rfl, rfl⟩; exact ⟨_, rfl, hR _ _ (Below.refl _ _) rfl⟩))
  case o7 => (refine StepOK.plain rfl ?_; intro ρ w1 R hρ hb hp hR; have e11 : ρ (.tmp 11) = _ := hp 3 11 rfl rfl; have e14 : ρ (.tmp 14) = _ := hp 6 14 rfl rfl; have hcon := hρ.con; have hfn := hρ.fn; clear hρ hp; unfold OpRun; go_simp; exact hR _ _ (Below.refl _ _) rfl)
  case o8 => (refine StepOK.plain rfl ?_; intro ρ w1 R hρ hb hp hR; have e15 : ρ (.tmp 15) = _ := hp 7 15 rfl rfl; have hcon := hρ.con; have hfn := hρ.fn; clear hρ hp; unfold OpRun; go_simp; exact hR _ _ (Below.refl _ _) rfl)
  case o9 => (refine StepOK.plain rfl ?_; intro ρ w1 R hρ hb hp hR; have e16 : ρ (.tmp 16) = _ := hp 8 16 rfl rfl; have hcon := hρ.con; have hfn := hρ.fn; clear hρ hp; unfold OpRun; go_simp; exact hR _ _ (Below.refl _ _) rfl)
  case after =>
    intro u wn hb hf
    have e5 : u 5 = _ := hf 9 5 (by omega) rfl
    clear hf
    simp only [putAll, Act.put, List.setIfInBounds_toArray, List.set_cons_zero, List.set_cons_succ, List.drop_succ_cons, List.drop_zero, List.drop_nil]
    rw [e5]
    have zA1 := zA.below hb
    have zB1 := zB.below hb
    have zR1 := zR0.below hb
    have yb1 := below_trans yb0 hb
    have HN1 := hid (HN.out.below yb1)
    have HM1 := hid (HM.out.below yb1)
    obtain ⟨W1, hW1⟩ : ∃ W, W = wn := ⟨_, rfl⟩
    subst hW1
    clear zA zB zR0 yb0 hb HN HM LM LN w1 w2 hmx
    go_upto_region 2 with fail
    refine wp_region_grow 12 [18, 19, 20, 21, 22, 23, 24, 17, 25, 26, 6, 7] [Fact.is (.pointer (some ⟨w.heap.size, 1, none⟩)), Fact.is (.slice am (limbs M).length cm), Fact.is (.int .i64 (K : Int)), Fact.li A, Fact.is (.pointer (some ⟨w.heap.size + 1, 1, none⟩)), Fact.is (.slice bm (limbs N).length dm), Fact.nn q r, Fact.nn q r, Fact.li q, Fact.li r, Fact.li q, Fact.li r] (by kernel_rfl) (by kernel_rfl) ⟨?o0, ?o1, ?o2, ?o3, ?o4, ?o5, ?o6, ?o7, ?o8, ?o9, ?o10, ?o11, trivial⟩ ?after
    case o0 => (refine StepOK.plain rfl ?_; intro ρ w1 R hρ hb hp hR; have e2 : ρ (.tmp 2) = .pointer (some ⟨w.heap.size, 0, none⟩) := hρ.tmp 2 rfl; have hcon := hρ.con; have hfn := hρ.fn; clear hρ hp; unfold OpRun; go_simp; exact hR _ _ (Below.refl _ _) rfl)
    case o1 => (refine StepOK.plain rfl ?_; intro ρ w1 R hρ hb hp hR; have e18 : ρ (.tmp 18) = _ := hp 0 18 rfl rfl; obtain ⟨⟨j0, j1, -, -, -⟩, j2, -⟩ := zA1.below hb; have hcon := hρ.con; have hfn := hρ.fn; clear hρ hp; unfold OpRun; go_simp; exact hR _ _ (Below.refl _ _) rfl)
    case o2 => (refine StepOK.plain rfl ?_; intro ρ w1 R hρ hb hp hR; have e5 : ρ (.tmp 5) = .int .i64 (K : Int) := hρ.tmp 5 rfl; have hcon := hρ.con; have hfn := hρ.fn; clear hρ hp; unfold OpRun; go_simp; exact hR _ _ (Below.refl _ _) rfl)
    case o3 => (refine StepOK.plain rfl ?_; intro ρ w1 R hρ hb hp hR; have e19 : ρ (.tmp 19) = _ := hp 1 19 rfl rfl; have e20 : ρ (.tmp 20) = _ := hp 2 20 rfl rfl; have hcon := hρ.con; have hfn := hρ.fn; clear hρ hp; unfold OpRun; go_simp; (refine (LE.out _ (HN1.out.below hb)).mono ?_; rintro e wn ⟨a9, rfl, hn9, hbn⟩; exact ⟨_, rfl, hR _ _ hbn ⟨a9, _, rfl, hn9⟩⟩))
    case o4 => (refine StepOK.plain rfl ?_; intro ρ w1 R hρ hb hp hR; have e3 : ρ (.tmp 3) = .pointer (some ⟨w.heap.size + 1, 0, none⟩) := hρ.tmp 3 rfl; have hcon := hρ.con; have hfn := hρ.fn; clear hρ hp; unfold OpRun; go_simp; exact hR _ _ (Below.refl _ _) rfl)
    case o5 => (refine StepOK.plain rfl ?_; intro ρ w1 R hρ hb hp hR; have e22 : ρ (.tmp 22) = _ := hp 4 22 rfl rfl; obtain ⟨⟨j0, j1, -, -, -⟩, j2, -⟩ := zB1.below hb; have hcon := hρ.con; have hfn := hρ.fn; clear hρ hp; unfold OpRun; go_simp; exact hR _ _ (Below.refl _ _) rfl)
    case o6 => (refine StepOK.plain rfl ?_; intro ρ w1 R hρ hb hp hR; have f21 := hp 3 21 rfl rfl; have e23 : ρ (.tmp 23) = _ := hp 5 23 rfl rfl; obtain ⟨a9, c9, e21, hn9⟩ := f21; have hcon := hρ.con; have hfn := hρ.fn; clear hρ hp; unfold OpRun; go_simp; (skip; refine (OV.out _ _ _ hn9 (HM1.out.below hb)).mono ?_; rintro e wn ⟨ao, cap, bo, cbp, rfl, hq, hr, hbn⟩; exact ⟨_, rfl, hR _ _ hbn ⟨ao, cap, bo, cbp, rfl, hq, hr⟩⟩))
    case o7 => (refine StepOK.plain rfl ?_; intro ρ w1 R hρ hb hp hR; have f24 := hp 6 24 rfl rfl; have hcon := hρ.con; have hfn := hρ.fn; clear hρ hp; unfold OpRun; go_simp; exact hR _ _ (Below.refl _ _) f24)
    case o8 => (refine StepOK.plain rfl ?_; intro ρ w1 R hρ hb hp hR; have f17 := hp 7 17 rfl rfl; have hcon := hρ.con; have hfn := hρ.fn; clear hρ hp; unfold OpRun; go_simp; (obtain ⟨ao, cap, bo, cbp, e12, hq, hr⟩ := f17; rw [e12]; exact hR _ _ (Below.refl _ _) ⟨_, _, rfl, hq⟩))
    case o9 => (refine StepOK.plain rfl ?_; intro ρ w1 R hρ hb hp hR; have f17 := hp 7 17 rfl rfl; have hcon := hρ.con; have hfn := hρ.fn; clear hρ hp; unfold OpRun; go_simp; (obtain ⟨ao, cap, bo, cbp, e12, hq, hr⟩ := f17; rw [e12]; exact hR _ _ (Below.refl _ _) ⟨_, _, rfl, hr⟩))
    case o10 => (refine StepOK.plain rfl ?_; intro ρ w1 R hρ hb hp hR; have f25 := hp 8 25 rfl rfl; have hcon := hρ.con; have hfn := hρ.fn; clear hρ hp; unfold OpRun; go_simp; exact hR _ _ (Below.refl _ _) f25)
    case o11 => (refine StepOK.plain rfl ?_; intro ρ w1 R hρ hb hp hR; have f26 := hp 9 26 rfl rfl; have hcon := hρ.con; have hfn := hρ.fn; clear hρ hp; unfold OpRun; go_simp; exact hR _ _ (Below.refl _ _) f26)
    case after =>
      intro u wn hb hf
      have f6 := hf 10 6 (by omega) rfl
      have f7 := hf 11 7 (by omega) rfl
      clear hf
      simp only [putAll, Act.put, List.setIfInBounds_toArray, List.set_cons_zero, List.set_cons_succ, List.drop_succ_cons, List.drop_zero, List.drop_nil]
      obtain ⟨a6, c6, e6, h6⟩ := f6
      obtain ⟨a7, c7, e7, h7⟩ := f7
      rw [e6, e7]
      have zA2 := zA1.below hb
      have zB2 := zB1.below hb
      have zR2 := zR1.below hb
      have yb2 := below_trans yb1 hb
      obtain ⟨W2, hW2⟩ : ∃ W, W = wn := ⟨_, rfl⟩
      subst hW2
      have H6 := hid h6
      have hc7 := h7.1
      have hc7b := h7.2.1
      unfold maxLen at hc7b
      clear zA1 zB1 zR1 yb1 hb HN1 HM1 h6 h7 e6 e7 LE OV
      go_upto_region 3 with fail
      obtain ⟨⟨j0, j1, -, -, -⟩, j2, -⟩ := id zA2
      obtain ⟨⟨l0, l1, -, -, -⟩, l2, -⟩ := id zB2
      go_wp2_with (go_at_call 135; (with_reducible refine (ST.out _ _ _ H6.out).mono ?_); rintro en w3 ⟨a3, c3, rfl, hN3, hb3⟩; have zR3 := zR2.below hb3; obtain ⟨⟨k0, k1, f0, f1, hs2⟩, k2, f2⟩ := id zR3; have yb3 := below_trans yb2 hb3)
      refine bodyPost_ret (by simp [results, Tryd.results62, go_sem, k0, k1, k2]; try rfl) rfl ?_
      exact ⟨a3, c3, rfl, hN3.set3 zR3 (by intro x h; cases h) _ _ _, ((yb3.setCell (by first | omega | (simp; done) | (simp; omega)) _).setCell (by first | omega | (simp; done) | (simp; omega)) _).setCell (by first | omega | (simp; done) | (simp; omega)) _⟩
end Go.Proofs.YtincggkdlegjjaaDoor
set_option linter.unusedVariables false
set_option linter.unusedSimpArgs false
namespace Go.Ulp
open Go.RowKit
/-- which kind of quotient: 0 none, 1 infinite, 2 zero, 3 a value -/
def kQ (nx ny ix iy zx zy : Bool) : Nat := if (nx || ny || (ix && iy) || (zx && zy)) = true then 0 else if (ix || zy) = true then 1 else if (zx || iy) = true then 2 else 3
def kindQ (x y : Int) : Nat := kQ (isNan x) (isNan y) (isInf x) (isInf y) (isZer x) (isZer y)
theorem kQ_le (a b c d e f : Bool) : kQ a b c d e f ≤ 3 := by unfold kQ; split; omega; split; omega; split <;> omega
/-- the marked quotient -/
def quM (x y : Int) : Nat := qst (fv x).1.natAbs (fv y).1.natAbs (rK (fv x).1.natAbs (fv y).1.natAbs)
def quE (x y : Int) : Int := (fv x).2 - (fv y).2 - (rK (fv x).1.natAbs (fv y).1.natAbs : Int) - 2
def dX (k : Nat) (s : Bool) (M : Nat) (e mode : Int) : Int := if k = 0 then 9221120237041090560 else if k = 1 then infX s else if k = 2 then sgb s else numX s M e mode
def dC (k : Nat) (s : Bool) (M : Nat) (e mode : Int) : Bool := if k = 3 then numC s M e mode else false
theorem kindQ_three {x y : Int} (h : kindQ x y = 3) : classOf x < 4 ∧ classOf x ≠ 1 ∧ classOf y < 4 ∧ classOf y ≠ 1 := by
  have b1 := class_bd x
  have b2 := class_bd y
  unfold kindQ kQ at h
  split at h
  · omega
  · rename_i h1
    split at h
    · omega
    · rename_i h2
      split at h
      · omega
      · rename_i h3
        simp only [Bool.or_eq_true, not_or, isNan, isInf, isZer, beq_iff_eq] at h1 h2 h3
        omega
/-- the quotient has places enough -/
theorem qfloor_big (M N : Nat) (hM : 0 < M) (hN : 0 < N) : 2 ^ 79 ≤ M * 2 ^ rK M N / N := by
  have h1 := pow_bl M hM
  have h2 := lt_bl N
  have h3 := (bl_pos M).2 hM
  have hk : 80 + bl N ≤ rK M N + bl M := by unfold rK; omega
  rw [Nat.le_div_iff_mul_le hN]
  have h4 : 2 ^ (bl M - 1) * 2 ^ rK M N ≤ M * 2 ^ rK M N := Nat.mul_le_mul_right _ h1
  rw [← Nat.pow_add] at h4
  have h5 : 2 ^ 79 * N ≤ 2 ^ 79 * 2 ^ bl N := Nat.mul_le_mul_left _ (by omega)
  rw [← Nat.pow_add] at h5
  have h6 : 2 ^ (79 + bl N) ≤ 2 ^ (bl M - 1 + rK M N) := Nat.pow_le_pow_right (by omega) (by omega)
  omega
theorem qst_bd (M N : Nat) (m1 : M < 2 ^ 53) (m2 : N < 2 ^ 53) (hM : 0 < M) (hN : 0 < N) : 0 < qst M N (rK M N) ∧ qst M N (rK M N) < 2 ^ 200 ∧ rK M N ≤ 133 := by
  have h := qfloor_big M N hM hN
  have b1 := (bl_le M 53).2 m1
  have b2 := (bl_le N 53).2 m2
  have b3 := (bl_pos M).2 hM
  have hk : rK M N ≤ 133 := by unfold rK; omega
  have hA : M * 2 ^ rK M N < 2 ^ 186 := by
    have h := Nat.mul_lt_mul_of_pos_right m1 (Nat.two_pow_pos (rK M N))
    rw [← Nat.pow_add] at h
    exact Nat.lt_of_lt_of_le h (Nat.pow_le_pow_right (by omega) (by omega))
  have hd := Nat.div_le_self (M * 2 ^ rK M N) N
  unfold qst
  refine ⟨?_, ?_, hk⟩
  · have : (0 : Nat) < 2 ^ 79 := by decide
    split <;> omega
  · have : (2 : Nat) ^ 200 = 16384 * 2 ^ 186 := by decide
    split <;> omega
end Go.Ulp
namespace Go.Proofs.YtincggkdlegjjaaDoor
open Go.RowKit Go.Ulp
set_option linter.unusedVariables false
set_option linter.unusedSimpArgs false
set_option maxHeartbeats 4000000
set_option maxRecDepth 100000
theorem div_any (x y : Int) (hx : 0 ≤ x ∧ x < 18446744073709551616) (hy : 0 ≤ y ∧ y < 18446744073709551616) (mode : Int) (w : World) (hT : Tab 0 w) :
    Calls Tryd.prog 10 #[.int .u64 x, .int .u64 y, .int .i64 mode] w (RetX3 w (mdX mode (dX (kindQ x y) (sgx x y) (quM x y) (quE x y) mode)) (mdC mode (dC (kindQ x y) (sgx x y) (quM x y) (quE x y) mode)) (mdE mode)) := by
  have KN := hid (fun w => known_any mode w)
  have CX := hid (fun w => class_any x hx.1 hx.2 w)
  have CY := hid (fun w => class_any y hy.1 hy.2 w)
  have SG := hid (fun w => pSign_any x y hx hy w)
  have VX := hid (fun w t => value_any x hx.1 hx.2 w t)
  have VY := hid (fun w t => value_any y hy.1 hy.2 w t)
  have HT := hid hT
  have DV := hid (show kindQ x y = 3 → (∀ v u w, VD w (fv x) v → VD w (fv y) u → Calls Tryd.prog 62 #[v, u] w (RetDy w (sgx x y) (quM x y) (quE x y))) ∧ (∀ a c w, Ns .u32 w a c (limbs (quM x y)) → Calls Tryd.prog 61 #[.agg #[.bool (sgx x y), .slice a (limbs (quM x y)).length c, .int .i64 (quE x y)], .int .i64 mode] w (RetX w (numX (sgx x y) (quM x y) (quE x y) mode) (numC (sgx x y) (quM x y) (quE x y) mode))) from fun h3 => by
    obtain ⟨cx, dx, cy, dy⟩ := kindQ_three h3
    have fx := fv_nz x hx.1 hx.2 cx dx
    have fy := fv_nz y hy.1 hy.2 cy dy
    obtain ⟨-, b1, b2, b3⟩ := fv_bd x hx.1 hx.2
    obtain ⟨-, d1, d2, d3⟩ := fv_bd y hy.1 hy.2
    have sx := fv_sign x (by omega)
    have sy := fv_sign y (by omega)
    obtain ⟨q1, q2, q3⟩ := qst_bd _ _ b1 d1 (by omega) (by omega)
    refine ⟨fun v u w hv hu => ?_, fun a c w h => ?_⟩
    · obtain ⟨am, cm, rfl, hN⟩ := hv
      obtain ⟨bm, dm, rfl, hM⟩ := hu
      have h9 := ratio_any (decide ((fv x).1 < 0)) (decide ((fv y).1 < 0)) am bm cm dm _ _ (fv x).2 (fv y).2 w hN hM b1 d1 (by omega) (by omega) (by omega)
      rw [sx, sy] at h9
      rw [sx, sy]
      exact h9
    · exact number_any (sgx x y) a c (quM x y) (quE x y) mode w h (Nat.le_trans (limbs_short 200 10 (by omega) _ q2) (by omega)) (by unfold quE; omega) (fun h9 => by unfold quM at h9; omega))
  have hk3 : kindQ x y ≤ 3 := kQ_le _ _ _ _ _ _
  have HK := hid (show kindQ x y = kQ (classOf x == 5) (classOf y == 5) (classOf x == 4) (classOf y == 4) (classOf x == 1) (classOf y == 1) from rfl)
  generalize quM x y = QM at *
  generalize quE x y = QE at *
  generalize sgx x y = s at *
  have OI := hid (show bits .or .u64 9218868437227405312 (sgb s) = infX s by rw [infX_eq]; exact or_sgb s _ _ rfl (by omega) (by omega))
  generalize kindQ x y = k at *
  generalize classOf x = a at *
  generalize classOf y = b at *
  generalize fv x = X at *
  generalize fv y = Y at *
  obtain ⟨x0, x1⟩ := hx
  obtain ⟨y0, y1⟩ := hy
  clear hT hk3
  cases hk : knownB mode
  · obtain ⟨e1, e2, e3⟩ := md_no hk (dX k s QM QE mode) (dC k s QM QE mode)
    rw [e1, e2, e3]
    rw [hk] at KN
    clear e1 e2 e3 hk
    go_enter Tryd.func10, Tryd.ntmps10
    go_wp2_with (go_at_call 58; (with_reducible refine (KN.out _).mono ?_); rintro en w1 ⟨rfl, rfl⟩)
    refine bodyPost_ret (by simp [results, Tryd.results10, go_sem]; try rfl) rfl ?_
    exact ⟨rfl, Below.refl _ _⟩
  · obtain ⟨e1, e2, e3⟩ := md_yes hk (dX k s QM QE mode) (dC k s QM QE mode)
    rw [e1, e2, e3]
    rw [hk] at KN
    clear e1 e2 e3 hk
    go_enter Tryd.func10, Tryd.ntmps10
    cases n0 : (a == 5)
    · cases n1 : (b == 5)
      · cases i0 : (a == 4)
        · cases z0 : (a == 1)
          · cases z1 : (b == 1)
            · cases i1 : (b == 4)
              · have hk3 : k = 3 := by
                  rw [HK.out]
                  simp only [n0, kQ, Bool.true_or, Bool.or_true, Bool.false_or, Bool.or_false, Bool.true_and, Bool.and_true, Bool.false_and, Bool.and_false, if_true, if_false, *]
                  try rfl
                have DR := hid (DV.out hk3).1
                have DN := hid (DV.out hk3).2
                clear DV
                subst hk3
                rw [show dX 3 s QM QE mode = numX s QM QE mode from rfl, show dC 3 s QM QE mode = numC s QM QE mode from rfl]
                clear HK OI
                go_upto_region 10 with (first
                  | (go_at_call 58; (with_reducible refine (KN.out _).mono ?_); rintro en w1 ⟨rfl, rfl⟩)
                  | (go_at_call 59; (with_reducible refine (CX.out _).mono ?_); rintro en w1 ⟨rfl, rfl⟩)
                  | (go_at_call 59; (with_reducible refine (CY.out _).mono ?_); rintro en w1 ⟨rfl, rfl⟩)
                  | (go_at_call 60; (with_reducible refine (SG.out _).mono ?_); rintro en w1 ⟨rfl, rfl⟩))
                go_wp2_with (first
                  | (go_at_call 63; (with_reducible refine (VX.out _ HT.out).mono ?_); rintro en w2 ⟨v2, rfl, hv2, hb2⟩)
                  | (go_at_call 63; (with_reducible refine (VY.out _ (HT.out.below hb2)).mono ?_); rintro en w3 ⟨v3, rfl, hv3, hb3⟩)
                  | (go_at_call 62; (with_reducible refine (DR.out _ _ _ (hv2.below hb3) hv3).mono ?_); rintro en w4 ⟨a4, c4, rfl, hN4, hb4⟩)
                  | (go_at_call 61; (with_reducible refine (DN.out _ _ _ hN4).mono ?_); rintro en w5 ⟨rfl, hb5⟩))
                refine bodyPost_ret (by simp [results, Tryd.results10, go_sem]; try rfl) rfl ?_
                exact ⟨rfl, below_trans (below_trans (below_trans hb2 hb3) hb4) hb5⟩
              · go_wp2_with (first
                  | (go_at_call 58; (with_reducible refine (KN.out _).mono ?_); rintro en w1 ⟨rfl, rfl⟩)
                  | (go_at_call 59; (with_reducible refine (CX.out _).mono ?_); rintro en w1 ⟨rfl, rfl⟩)
                  | (go_at_call 59; (with_reducible refine (CY.out _).mono ?_); rintro en w1 ⟨rfl, rfl⟩)
                  | (go_at_call 60; (with_reducible refine (SG.out _).mono ?_); rintro en w1 ⟨rfl, rfl⟩))
                refine bodyPost_ret (by simp [results, Tryd.results10, go_sem]; try rfl) rfl ?_
                refine ⟨ret3 ?_ ?_ rfl, Below.refl _ _⟩
                · rw [HK.out]
                  simp only [n0, kQ, dX, Bool.true_or, Bool.or_true, Bool.false_or, Bool.or_false, Bool.true_and, Bool.and_true, Bool.false_and, Bool.and_false, if_true, if_false, *]
                  try (first | exact OI.out | rfl | simp [OI.out])
                · rw [HK.out]
                  simp only [n0, kQ, dC, Bool.true_or, Bool.or_true, Bool.false_or, Bool.or_false, Bool.true_and, Bool.and_true, Bool.false_and, Bool.and_false, if_true, if_false, *]
                  try (first | rfl | simp)
            · have i1 : (b == 4) = false := by have := beq_iff_eq.1 z1; rw [beq_eq_false_iff_ne]; omega
              go_wp2_with (first
                | (go_at_call 58; (with_reducible refine (KN.out _).mono ?_); rintro en w1 ⟨rfl, rfl⟩)
                | (go_at_call 59; (with_reducible refine (CX.out _).mono ?_); rintro en w1 ⟨rfl, rfl⟩)
                | (go_at_call 59; (with_reducible refine (CY.out _).mono ?_); rintro en w1 ⟨rfl, rfl⟩)
                | (go_at_call 60; (with_reducible refine (SG.out _).mono ?_); rintro en w1 ⟨rfl, rfl⟩))
              refine bodyPost_ret (by simp [results, Tryd.results10, go_sem]; try rfl) rfl ?_
              refine ⟨ret3 ?_ ?_ rfl, Below.refl _ _⟩
              · rw [HK.out]
                simp only [n0, kQ, dX, Bool.true_or, Bool.or_true, Bool.false_or, Bool.or_false, Bool.true_and, Bool.and_true, Bool.false_and, Bool.and_false, if_true, if_false, *]
                try (first | exact OI.out | rfl | simp [OI.out])
              · rw [HK.out]
                simp only [n0, kQ, dC, Bool.true_or, Bool.or_true, Bool.false_or, Bool.or_false, Bool.true_and, Bool.and_true, Bool.false_and, Bool.and_false, if_true, if_false, *]
                try (first | rfl | simp)
          · cases z1 : (b == 1)
            · cases i1 : (b == 4)
              · go_wp2_with (first
                  | (go_at_call 58; (with_reducible refine (KN.out _).mono ?_); rintro en w1 ⟨rfl, rfl⟩)
                  | (go_at_call 59; (with_reducible refine (CX.out _).mono ?_); rintro en w1 ⟨rfl, rfl⟩)
                  | (go_at_call 59; (with_reducible refine (CY.out _).mono ?_); rintro en w1 ⟨rfl, rfl⟩)
                  | (go_at_call 60; (with_reducible refine (SG.out _).mono ?_); rintro en w1 ⟨rfl, rfl⟩))
                refine bodyPost_ret (by simp [results, Tryd.results10, go_sem]; try rfl) rfl ?_
                refine ⟨ret3 ?_ ?_ rfl, Below.refl _ _⟩
                · rw [HK.out]
                  simp only [n0, kQ, dX, Bool.true_or, Bool.or_true, Bool.false_or, Bool.or_false, Bool.true_and, Bool.and_true, Bool.false_and, Bool.and_false, if_true, if_false, *]
                  try (first | exact OI.out | rfl | simp [OI.out])
                · rw [HK.out]
                  simp only [n0, kQ, dC, Bool.true_or, Bool.or_true, Bool.false_or, Bool.or_false, Bool.true_and, Bool.and_true, Bool.false_and, Bool.and_false, if_true, if_false, *]
                  try (first | rfl | simp)
              · go_wp2_with (first
                  | (go_at_call 58; (with_reducible refine (KN.out _).mono ?_); rintro en w1 ⟨rfl, rfl⟩)
                  | (go_at_call 59; (with_reducible refine (CX.out _).mono ?_); rintro en w1 ⟨rfl, rfl⟩)
                  | (go_at_call 59; (with_reducible refine (CY.out _).mono ?_); rintro en w1 ⟨rfl, rfl⟩)
                  | (go_at_call 60; (with_reducible refine (SG.out _).mono ?_); rintro en w1 ⟨rfl, rfl⟩))
                refine bodyPost_ret (by simp [results, Tryd.results10, go_sem]; try rfl) rfl ?_
                refine ⟨ret3 ?_ ?_ rfl, Below.refl _ _⟩
                · rw [HK.out]
                  simp only [n0, kQ, dX, Bool.true_or, Bool.or_true, Bool.false_or, Bool.or_false, Bool.true_and, Bool.and_true, Bool.false_and, Bool.and_false, if_true, if_false, *]
                  try (first | exact OI.out | rfl | simp [OI.out])
                · rw [HK.out]
                  simp only [n0, kQ, dC, Bool.true_or, Bool.or_true, Bool.false_or, Bool.or_false, Bool.true_and, Bool.and_true, Bool.false_and, Bool.and_false, if_true, if_false, *]
                  try (first | rfl | simp)
            · go_wp2_with (first
                | (go_at_call 58; (with_reducible refine (KN.out _).mono ?_); rintro en w1 ⟨rfl, rfl⟩)
                | (go_at_call 59; (with_reducible refine (CX.out _).mono ?_); rintro en w1 ⟨rfl, rfl⟩)
                | (go_at_call 59; (with_reducible refine (CY.out _).mono ?_); rintro en w1 ⟨rfl, rfl⟩)
                | (go_at_call 60; (with_reducible refine (SG.out _).mono ?_); rintro en w1 ⟨rfl, rfl⟩))
              refine bodyPost_ret (by simp [results, Tryd.results10, go_sem]; try rfl) rfl ?_
              refine ⟨ret3 ?_ ?_ rfl, Below.refl _ _⟩
              · rw [HK.out]
                simp only [n0, kQ, dX, Bool.true_or, Bool.or_true, Bool.false_or, Bool.or_false, Bool.true_and, Bool.and_true, Bool.false_and, Bool.and_false, if_true, if_false, *]
                try (first | exact OI.out | rfl | simp [OI.out])
              · rw [HK.out]
                simp only [n0, kQ, dC, Bool.true_or, Bool.or_true, Bool.false_or, Bool.or_false, Bool.true_and, Bool.and_true, Bool.false_and, Bool.and_false, if_true, if_false, *]
                try (first | rfl | simp)
        · have z0 : (a == 1) = false := by have := beq_iff_eq.1 i0; rw [beq_eq_false_iff_ne]; omega
          cases i1 : (b == 4)
          · cases z1 : (b == 1)
            · go_wp2_with (first
                | (go_at_call 58; (with_reducible refine (KN.out _).mono ?_); rintro en w1 ⟨rfl, rfl⟩)
                | (go_at_call 59; (with_reducible refine (CX.out _).mono ?_); rintro en w1 ⟨rfl, rfl⟩)
                | (go_at_call 59; (with_reducible refine (CY.out _).mono ?_); rintro en w1 ⟨rfl, rfl⟩)
                | (go_at_call 60; (with_reducible refine (SG.out _).mono ?_); rintro en w1 ⟨rfl, rfl⟩))
              refine bodyPost_ret (by simp [results, Tryd.results10, go_sem]; try rfl) rfl ?_
              refine ⟨ret3 ?_ ?_ rfl, Below.refl _ _⟩
              · rw [HK.out]
                simp only [n0, kQ, dX, Bool.true_or, Bool.or_true, Bool.false_or, Bool.or_false, Bool.true_and, Bool.and_true, Bool.false_and, Bool.and_false, if_true, if_false, *]
                try (first | exact OI.out | rfl | simp [OI.out])
              · rw [HK.out]
                simp only [n0, kQ, dC, Bool.true_or, Bool.or_true, Bool.false_or, Bool.or_false, Bool.true_and, Bool.and_true, Bool.false_and, Bool.and_false, if_true, if_false, *]
                try (first | rfl | simp)
            · go_wp2_with (first
                | (go_at_call 58; (with_reducible refine (KN.out _).mono ?_); rintro en w1 ⟨rfl, rfl⟩)
                | (go_at_call 59; (with_reducible refine (CX.out _).mono ?_); rintro en w1 ⟨rfl, rfl⟩)
                | (go_at_call 59; (with_reducible refine (CY.out _).mono ?_); rintro en w1 ⟨rfl, rfl⟩)
                | (go_at_call 60; (with_reducible refine (SG.out _).mono ?_); rintro en w1 ⟨rfl, rfl⟩))
              refine bodyPost_ret (by simp [results, Tryd.results10, go_sem]; try rfl) rfl ?_
              refine ⟨ret3 ?_ ?_ rfl, Below.refl _ _⟩
              · rw [HK.out]
                simp only [n0, kQ, dX, Bool.true_or, Bool.or_true, Bool.false_or, Bool.or_false, Bool.true_and, Bool.and_true, Bool.false_and, Bool.and_false, if_true, if_false, *]
                try (first | exact OI.out | rfl | simp [OI.out])
              · rw [HK.out]
                simp only [n0, kQ, dC, Bool.true_or, Bool.or_true, Bool.false_or, Bool.or_false, Bool.true_and, Bool.and_true, Bool.false_and, Bool.and_false, if_true, if_false, *]
                try (first | rfl | simp)
          · go_wp2_with (first
              | (go_at_call 58; (with_reducible refine (KN.out _).mono ?_); rintro en w1 ⟨rfl, rfl⟩)
              | (go_at_call 59; (with_reducible refine (CX.out _).mono ?_); rintro en w1 ⟨rfl, rfl⟩)
              | (go_at_call 59; (with_reducible refine (CY.out _).mono ?_); rintro en w1 ⟨rfl, rfl⟩)
              | (go_at_call 60; (with_reducible refine (SG.out _).mono ?_); rintro en w1 ⟨rfl, rfl⟩))
            refine bodyPost_ret (by simp [results, Tryd.results10, go_sem]; try rfl) rfl ?_
            refine ⟨ret3 ?_ ?_ rfl, Below.refl _ _⟩
            · rw [HK.out]
              simp only [n0, kQ, dX, Bool.true_or, Bool.or_true, Bool.false_or, Bool.or_false, Bool.true_and, Bool.and_true, Bool.false_and, Bool.and_false, if_true, if_false, *]
              try (first | exact OI.out | rfl | simp [OI.out])
            · rw [HK.out]
              simp only [n0, kQ, dC, Bool.true_or, Bool.or_true, Bool.false_or, Bool.or_false, Bool.true_and, Bool.and_true, Bool.false_and, Bool.and_false, if_true, if_false, *]
              try (first | rfl | simp)
      · go_wp2_with (first
          | (go_at_call 58; (with_reducible refine (KN.out _).mono ?_); rintro en w1 ⟨rfl, rfl⟩)
          | (go_at_call 59; (with_reducible refine (CX.out _).mono ?_); rintro en w1 ⟨rfl, rfl⟩)
          | (go_at_call 59; (with_reducible refine (CY.out _).mono ?_); rintro en w1 ⟨rfl, rfl⟩)
          | (go_at_call 60; (with_reducible refine (SG.out _).mono ?_); rintro en w1 ⟨rfl, rfl⟩))
        refine bodyPost_ret (by simp [results, Tryd.results10, go_sem]; try rfl) rfl ?_
        refine ⟨ret3 ?_ ?_ rfl, Below.refl _ _⟩
        · rw [HK.out]
          simp only [n0, kQ, dX, Bool.true_or, Bool.or_true, Bool.false_or, Bool.or_false, Bool.true_and, Bool.and_true, Bool.false_and, Bool.and_false, if_true, if_false, *]
          try (first | exact OI.out | rfl | simp [OI.out])
        · rw [HK.out]
          simp only [n0, kQ, dC, Bool.true_or, Bool.or_true, Bool.false_or, Bool.or_false, Bool.true_and, Bool.and_true, Bool.false_and, Bool.and_false, if_true, if_false, *]
          try (first | rfl | simp)
    · go_wp2_with (first
        | (go_at_call 58; (with_reducible refine (KN.out _).mono ?_); rintro en w1 ⟨rfl, rfl⟩)
        | (go_at_call 59; (with_reducible refine (CX.out _).mono ?_); rintro en w1 ⟨rfl, rfl⟩)
        | (go_at_call 59; (with_reducible refine (CY.out _).mono ?_); rintro en w1 ⟨rfl, rfl⟩)
        | (go_at_call 60; (with_reducible refine (SG.out _).mono ?_); rintro en w1 ⟨rfl, rfl⟩))
      refine bodyPost_ret (by simp [results, Tryd.results10, go_sem]; try rfl) rfl ?_
      refine ⟨ret3 ?_ ?_ rfl, Below.refl _ _⟩
      · rw [HK.out]
        simp only [n0, kQ, dX, Bool.true_or, Bool.or_true, Bool.false_or, Bool.or_false, Bool.true_and, Bool.and_true, Bool.false_and, Bool.and_false, if_true, if_false, *]
        try (first | exact OI.out | rfl | simp [OI.out])
      · rw [HK.out]
        simp only [n0, kQ, dC, Bool.true_or, Bool.or_true, Bool.false_or, Bool.or_false, Bool.true_and, Bool.and_true, Bool.false_and, Bool.and_false, if_true, if_false, *]
        try (first | rfl | simp)
end Go.Proofs.YtincggkdlegjjaaDoor
