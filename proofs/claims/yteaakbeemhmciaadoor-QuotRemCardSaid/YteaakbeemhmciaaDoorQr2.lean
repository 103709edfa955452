/- RemainderOf. -/
import Derived.Test.YteaakbeemhmciaaDoorQr1
set_option linter.unusedVariables false
set_option linter.unusedSimpArgs false
namespace Go.Ulp
open Go.RowKit
theorem lev_nrm (X : Int) (ta K : Nat) (h : ta ≤ K) : nrm (X * pw (K - ta)) (-(K : Int)) = nrm X (-(ta : Int)) := by
  rw [nrm_scale]; congr 1; omega
theorem rem_zero (b : Int) (h : b ≠ 0) : remI 0 b = 0 := by
  unfold remI
  rw [Int.zero_emod]
  rw [if_neg (by omega)]
end Go.Ulp
namespace Go.Proofs.YteaakbeemhmciaaDoor
open Go.RowKit Go.Ulp
set_option linter.unusedVariables false
set_option linter.unusedSimpArgs false
set_option maxHeartbeats 4000000
set_option maxRecDepth 100000
theorem remOf_main (x y : Int) (hx : 0 ≤ x ∧ x < 18446744073709551616) (hy : 0 ≤ y ∧ y < 18446744073709551616) (cx : classOf x < 4) (cy : classOf y < 4) (dy : classOf y ≠ 1) (F : Int) (w : World)
    (hF : ∀ (a b : Int) (K : Nat), nrm a (-(K : Int)) = fv x → nrm b (-(K : Int)) = fv y → b ≠ 0 → F = if remI a b = 0 then sgb (negB x) else rX (nrm (remI a b) (-(K : Int))) 0) :
    Calls Tryd.prog 78 #[.int .u64 x, .int .u64 y] w fun e w' => e = .returned (.int .u64 F) ∧ Below w.heap.size w w' := by
  have NX := hid (show ∀ w, Calls Tryd.prog 49 #[.int .u64 x] w fun e w' => e = .returned (.bool false) ∧ w = w' from fun w => by
    have h := rIsNan_any x hx.1 hx.2 w
    rw [show isNan x = false from beq_eq_false_iff_ne.2 (by omega)] at h; exact h)
  have NY := hid (show ∀ w, Calls Tryd.prog 49 #[.int .u64 y] w fun e w' => e = .returned (.bool false) ∧ w = w' from fun w => by
    have h := rIsNan_any y hy.1 hy.2 w
    rw [show isNan y = false from beq_eq_false_iff_ne.2 (by omega)] at h; exact h)
  have IX := hid (show ∀ w, Calls Tryd.prog 50 #[.int .u64 x] w fun e w' => e = .returned (.bool false) ∧ w = w' from fun w => by
    have h := rIsInf_any x hx.1 hx.2 w
    rw [show isInf x = false from beq_eq_false_iff_ne.2 (by omega)] at h; exact h)
  have IY := hid (show ∀ w, Calls Tryd.prog 50 #[.int .u64 y] w fun e w' => e = .returned (.bool false) ∧ w = w' from fun w => by
    have h := rIsInf_any y hy.1 hy.2 w
    rw [show isInf y = false from beq_eq_false_iff_ne.2 (by omega)] at h; exact h)
  have ZY := hid (show ∀ w, Calls Tryd.prog 75 #[.int .u64 y] w fun e w' => e = .returned (.bool false) ∧ w = w' from fun w => by
    have h := rIsZero_any y hy.1 hy.2 w
    rw [show isZer y = false from beq_eq_false_iff_ne.2 dy] at h; exact h)
  have MX := hid (fun w => rMinus_any x hx.1 hx.2 w)
  have S0 := hid (show ∀ b w, Calls Tryd.prog 62 #[.int .u64 0, .bool b] w fun e w' => e = .returned (.int .u64 (sgb b)) ∧ w = w' from fun b w => by
    rw [← Int.zero_add (sgb b)]; exact rSigned_any 0 (by omega) (by omega) _ w)
  have QX := hid (fun w => qval_any x hx.1 hx.2 w)
  have QY := hid (fun w => qval_any y hy.1 hy.2 w)
  have hfy := fv_nz y hy.1 hy.2 cy dy
  obtain ⟨B, hB⟩ : ∃ B : Nat, B = 2300 := ⟨_, rfl⟩
  obtain ⟨A0, hA0⟩ : ∃ A : Nat, A = 1200 := ⟨_, rfl⟩
  rw [← hA0] at QX QY
  have ZN2 := hid (show ∀ w, Calls Tryd.prog 66 #[.int .i64 2] w fun e w' => RetZ 3 w 2 e w' from fun w => zN_any 2 (by omega) w)
  have HF := hid hF
  have HFY := hid hfy
  generalize fv x = DX at *
  generalize fv y = DY at *
  generalize negB x = sx at *
  obtain ⟨hx0, hx1⟩ := hx
  obtain ⟨hy0, hy1⟩ := hy
  clear hF hfy cx cy dy
  go_enter Tryd.func78, Tryd.ntmps78
  go_upto_region 6 with (first
    | (go_at_call 49; (with_reducible refine (NX.out _).mono ?_); rintro en w1 ⟨rfl, rfl⟩)
    | (go_at_call 49; (with_reducible refine (NY.out _).mono ?_); rintro en w1 ⟨rfl, rfl⟩)
    | (go_at_call 50; (with_reducible refine (IX.out _).mono ?_); rintro en w1 ⟨rfl, rfl⟩)
    | (go_at_call 50; (with_reducible refine (IY.out _).mono ?_); rintro en w1 ⟨rfl, rfl⟩)
    | (go_at_call 75; (with_reducible refine (ZY.out _).mono ?_); rintro en w1 ⟨rfl, rfl⟩)
    | (go_at_call 25; (with_reducible refine (QX.out _).mono ?_); rintro en w2 ⟨v2, rfl, ⟨X, ta, ax, cx, rfl, hNX, hDX, hAX, hTX⟩, hb2⟩; have lX := zl_len_bits X A0 hAX)
    | (go_at_call 25; (with_reducible refine (QY.out _).mono ?_); rintro en w3 ⟨v3, rfl, ⟨Y, tb, ay, cy, rfl, hNY, hDY, hAY, hTY⟩, hb3⟩; have lY := zl_len_bits Y A0 hAY)
    | (go_at_call 122; (with_reducible refine (level_any ax ay cx cy X Y ta tb _ (hNX.below hb3) hNY (by omega) (by omega) (by omega) (by omega)).mono ?_); rintro en w4 ⟨ao, ac, bo, bc, rfl, hA4, hB4, hb4⟩))
  obtain ⟨K, hK⟩ : ∃ K, K = max ta tb := ⟨_, rfl⟩
  have ea := lev_nrm X ta (max ta tb) (by omega)
  have eb := lev_nrm Y tb (max ta tb) (by omega)
  have hKb : K ≤ 1100 := by omega
  have ba := abs_weak (abs_mul_pw_lt (k := max ta tb - ta) hAX) (show A0 + (max ta tb - ta) ≤ B by omega)
  have bb := abs_weak (abs_mul_pw_lt (k := max ta tb - tb) hAY) (show A0 + (max ta tb - tb) ≤ B by omega)
  rw [hDX] at ea
  rw [hDY] at eb
  obtain ⟨a, ha⟩ : ∃ a, a = X * pw (max ta tb - ta) := ⟨_, rfl⟩
  obtain ⟨b, hb⟩ : ∃ b, b = Y * pw (max ta tb - tb) := ⟨_, rfl⟩
  rw [← ha, ← hK] at ea
  rw [← hb, ← hK] at eb
  rw [← ha] at hA4 ba
  rw [← hb] at hB4 bb
  rw [← ha, ← hb, ← hK]
  have hb0 : b ≠ 0 := by
    intro h
    rw [h, nrm_zero] at eb
    exact HFY.out (by rw [← eb])
  have HFF := hid (HF.out a b K ea eb hb0)
  have la := zl_len_bits a B ba
  have lb2 := zl_len_bits b B bb
  clear HF HFY ha hb hK lX lY hAX hAY hTX hTY hDX hDY hNX hNY NX NY IX IY ZY QX QY ea eb
  have z5 : ZL 40 ((w4.alloc (.cells #[.bool (zneg a), .slice ao (zl a).length ac] 40)).alloc (.cells #[.bool (zneg b), .slice bo (zl b).length bc] 40)) w4.heap.size (zneg a) (.slice ao (zl a).length ac) := (ZL.made rfl).alloc _
  have z6 : ZL 40 ((w4.alloc (.cells #[.bool (zneg a), .slice ao (zl a).length ac] 40)).alloc (.cells #[.bool (zneg b), .slice bo (zl b).length bc] 40)) (w4.heap.size + 1) (zneg b) (.slice bo (zl b).length bc) := ZL.made (by simp)
  have ya := below_trans (below_alloc w4 (.cells #[.bool (zneg a), .slice ao (zl a).length ac] 40)) (below_alloc _ (.cells #[.bool (zneg b), .slice bo (zl b).length bc] 40))
  have hA5 := hA4.below ya
  have hB5 := hB4.below ya
  have yb := below_trans (below_trans (below_trans hb2 hb3) hb4) ya
  obtain ⟨W1, hW1⟩ : ∃ Y, Y = (w4.alloc (.cells #[.bool (zneg a), .slice ao (zl a).length ac] 40)).alloc (.cells #[.bool (zneg b), .slice bo (zl b).length bc] 40) := ⟨_, rfl⟩
  obtain ⟨g5, hg5⟩ : ∃ g, g = w4.heap.size := ⟨_, rfl⟩
  obtain ⟨g6, hg6⟩ : ∃ g, g = w4.heap.size + 1 := ⟨_, rfl⟩
  rw [← hW1, ← hg5] at z5
  rw [← hW1, ← hg6] at z6
  rw [← hW1] at hA5 hB5 yb
  rw [← hW1, ← hg6, ← hg5]
  have HA5 := hid hA5
  have HB5 := hid hB5
  have hq9 : ∃ q, q = a / b := ⟨_, rfl⟩
  obtain ⟨q, hq9⟩ := hq9
  obtain ⟨r, hr9⟩ : ∃ r, r = a % b := ⟨_, rfl⟩
  have hrlo : 0 ≤ r := by rw [hr9]; exact Int.emod_nonneg _ hb0
  have hrhi : r < b.natAbs := by rw [hr9]; exact Int.emod_lt _ hb0
  have hqb : q.natAbs ≤ a.natAbs := by rw [hq9]; exact Int.natAbs_ediv_le_natAbs _ _
  have hqB : q.natAbs < 2 ^ B := by omega
  have lq := zl_len_bits q B hqB
  have lr : (zl r).length ≤ B := zl_len_bits r B (by omega)
  have lab : (zl (b.natAbs : Int)).length ≤ B := zl_len_bits _ B (by rw [Int.natAbs_natCast]; exact bb)
  have ZD := hid (show ∀ w, Nz 3 w ao ac (zl a) → Nz 3 w bo bc (zl b) → Calls Tryd.prog 110 #[.agg #[.bool (zneg a), .slice ao (zl a).length ac], .agg #[.bool (zneg b), .slice bo (zl b).length bc]] w fun e w' => RetZ2 3 w q r e w' from fun w h0 h1 => by
    rw [hq9, hr9]; exact zdiv_any ao bo ac bc a b w h0 h1 (by omega) (by omega) hb0)
  have hR9 := hid (And.intro hq9 hr9)
  clear hW1 hg5 hg6 ya hA4 hB4 hA5 hB5 hb2 hb3 hb4 la hq9 hr9
  obtain ⟨j0, j1, -, -, -⟩ := id z5
  obtain ⟨i0, i1, -, -, -⟩ := id z6
  go_upto_region 7 with (go_at_call 110; (with_reducible refine (ZD.out _ HA5.out HB5.out).mono ?_); rintro en w5 ⟨qa, qc, ra, rc, rfl, hQ5, hR5, hb5⟩)
  have z8 : ZL 40 ((w5.alloc (.cells #[.bool (zneg q), .slice qa (zl q).length qc] 40)).alloc (.cells #[.bool (zneg r), .slice ra (zl r).length rc] 40)) w5.heap.size (zneg q) (.slice qa (zl q).length qc) := (ZL.made rfl).alloc _
  have z9 : ZL 40 ((w5.alloc (.cells #[.bool (zneg q), .slice qa (zl q).length qc] 40)).alloc (.cells #[.bool (zneg r), .slice ra (zl r).length rc] 40)) (w5.heap.size + 1) (zneg r) (.slice ra (zl r).length rc) := ZL.made (by simp)
  have ya := below_trans (below_alloc w5 (.cells #[.bool (zneg q), .slice qa (zl q).length qc] 40)) (below_alloc _ (.cells #[.bool (zneg r), .slice ra (zl r).length rc] 40))
  have hQ6 := hQ5.below ya
  have hR6 := hR5.below ya
  have z6a := (z6.below hb5).below ya
  have hB6 := (HB5.out.below hb5).below ya
  have yb2 := below_trans (below_trans yb hb5) ya
  have hg9w0 : w.heap.size ≤ w5.heap.size + 1 := by have h1 := yb.size; have h2 := hb5.size; omega
  obtain ⟨W2, hW2⟩ : ∃ Y, Y = (w5.alloc (.cells #[.bool (zneg q), .slice qa (zl q).length qc] 40)).alloc (.cells #[.bool (zneg r), .slice ra (zl r).length rc] 40) := ⟨_, rfl⟩
  obtain ⟨g8, hg8⟩ : ∃ g, g = w5.heap.size := ⟨_, rfl⟩
  obtain ⟨g9, hg9⟩ : ∃ g, g = w5.heap.size + 1 := ⟨_, rfl⟩
  rw [← hW2, ← hg8] at z8
  rw [← hW2, ← hg9] at z9
  rw [← hW2] at hQ6 hR6 z6a hB6 yb2
  rw [← hg9] at hg9w0
  rw [← hW2, ← hg9, ← hg8]
  have HQ6 := hid hQ6
  have HR6 := hid hR6
  have HB6 := hid hB6
  have hg9w := hg9w0
  clear hW2 hg8 hg9 ya hQ5 hR5 hQ6 hR6 hB6 hb5 z5 z6 yb j0 j1 i0 i1 ZD HA5 HB5 hg9w0
  have ZA := hid (fun w h => zadd_any ra ra rc rc r r w h h (by omega) (by omega))
  have ZAb := hid (fun w h => zabs_any bo bc b w h)
  have hc9 : ∃ c, c = cmpI (r + r) (b.natAbs : Int) := ⟨_, rfl⟩
  obtain ⟨c, hc9⟩ := hc9
  have g1 := cmpI_gt (r + r) (b.natAbs : Int)
  have g2 := cmpI_eq_zero (r + r) (b.natAbs : Int)
  rw [← hc9] at g1 g2
  have G12 := hid (And.intro g1 g2)
  have ZC := hid (show ∀ a0 c0 a1 c1 w, Nz 3 w a0 c0 (zl (r + r)) → Nz 3 w a1 c1 (zl (b.natAbs : Int)) → Calls Tryd.prog 65 #[.agg #[.bool (zneg (r + r)), .slice a0 (zl (r + r)).length c0], .agg #[.bool (zneg (b.natAbs : Int)), .slice a1 (zl (b.natAbs : Int)).length c1]] w fun e w' => e = .returned (.int .i64 c) ∧ Below w.heap.size w w' from fun a0 c0 a1 c1 w h0 h1 => by
    rw [hc9]; exact zcmp_any a0 a1 c0 c1 (r + r) (b.natAbs : Int) w h0 h1)
  have ZSu := hid (fun a1 c1 w h0 h1 => zsub_any ra a1 rc c1 r (b.natAbs : Int) w h0 h1 (by omega) (by omega))
  have DV2 := hid (fun v w h0 h1 => zdiv_v qa qc q 2 v w h0 h1 (by omega) (by decide) (by omega))
  clear hc9 g1 g2
  refine wp_region_grow 7 [50, 51, 52, 53, 54, 55, 10] [Fact.is (.agg #[.bool (zneg r), .slice ra (zl r).length rc]), Fact.is (.agg #[.bool (zneg r), .slice ra (zl r).length rc]), Fact.z 3 (r + r), Fact.is (.agg #[.bool (zneg b), .slice bo (zl b).length bc]), Fact.z 3 (b.natAbs : Int), Fact.is (.int .i64 c), Fact.is (.int .i64 c)] (by kernel_rfl) (by kernel_rfl) ⟨?o0, ?o1, ?o2, ?o3, ?o4, ?o5, ?o6, trivial⟩ ?after
  case o0 => (refine StepOK.plain rfl ?_; intro ρ w1 R hρ hb hp hR; have e9 : ρ (.tmp 9) = .pointer (some ⟨g9, 0, none⟩) := hρ.tmp 9 rfl; obtain ⟨j0, j1, -, -, -⟩ := z9.below hb; have hcon := hρ.con; have hfn := hρ.fn; clear hρ hp; unfold OpRun; go_simp; exact hR _ _ (Below.refl _ _) rfl)
  case o1 => (refine StepOK.plain rfl ?_; intro ρ w1 R hρ hb hp hR; have e9 : ρ (.tmp 9) = .pointer (some ⟨g9, 0, none⟩) := hρ.tmp 9 rfl; obtain ⟨j0, j1, -, -, -⟩ := z9.below hb; have hcon := hρ.con; have hfn := hρ.fn; clear hρ hp; unfold OpRun; go_simp; exact hR _ _ (Below.refl _ _) rfl)
  case o2 => (refine StepOK.plain rfl ?_; intro ρ w1 R hρ hb hp hR; have e50 : ρ (.tmp 50) = _ := hp 0 50 rfl rfl; have e51 : ρ (.tmp 51) = _ := hp 1 51 rfl rfl; have hcon := hρ.con; have hfn := hρ.fn; clear hρ hp; unfold OpRun; go_simp; (refine (ZA.out _ (HR6.out.below hb)).mono ?_; rintro e wn ⟨az, cz, rfl, hz9, hbn⟩; exact ⟨_, rfl, hR _ _ hbn ⟨az, cz, rfl, hz9⟩⟩))
  case o3 => (refine StepOK.plain rfl ?_; intro ρ w1 R hρ hb hp hR; have e6 : ρ (.tmp 6) = .pointer (some ⟨g6, 0, none⟩) := hρ.tmp 6 rfl; obtain ⟨j0, j1, -, -, -⟩ := z6a.below hb; have hcon := hρ.con; have hfn := hρ.fn; clear hρ hp; unfold OpRun; go_simp; exact hR _ _ (Below.refl _ _) rfl)
  case o4 => (refine StepOK.plain rfl ?_; intro ρ w1 R hρ hb hp hR; have e53 : ρ (.tmp 53) = _ := hp 3 53 rfl rfl; have hcon := hρ.con; have hfn := hρ.fn; clear hρ hp; unfold OpRun; go_simp; (refine (ZAb.out _ (HB6.out.below hb)).mono ?_; rintro e wn ⟨az, cz, rfl, hz9, hbn⟩; exact ⟨_, rfl, hR _ _ hbn ⟨az, cz, rfl, hz9⟩⟩))
  case o5 => (refine StepOK.plain rfl ?_; intro ρ w1 R hρ hb hp hR; have f52 := hp 2 52 rfl rfl; have f54 := hp 4 54 rfl rfl; (obtain ⟨a52, c52, e52, hz52⟩ := f52; obtain ⟨a54, c54, e54, hz54⟩ := f54); have hcon := hρ.con; have hfn := hρ.fn; clear hρ hp; unfold OpRun; go_simp; (refine (ZC.out _ _ _ _ _ hz52 hz54).mono ?_; rintro e wn ⟨rfl, hbn⟩; exact ⟨_, rfl, hR _ _ hbn rfl⟩))
  case o6 => (refine StepOK.plain rfl ?_; intro ρ w1 R hρ hb hp hR; have e55 : ρ (.tmp 55) = _ := hp 5 55 rfl rfl; have hcon := hρ.con; have hfn := hρ.fn; clear hρ hp; unfold OpRun; go_simp; exact hR _ _ (Below.refl _ _) rfl)
  case after =>
    intro u wn hb hf
    have e10 : u 10 = _ := hf 6 10 (by omega) rfl
    clear hf
    simp only [putAll, Act.put, List.setIfInBounds_toArray, List.set_cons_zero, List.set_cons_succ, List.drop_succ_cons, List.drop_zero, List.drop_nil]
    rw [e10]
    have z6b := z6a.below hb
    have z9b := z9.below hb
    have z8b := z8.below hb
    have hQb := HQ6.out.below hb
    have hRb := HR6.out.below hb
    have hBb := HB6.out.below hb
    have yb3 := below_trans yb2 hb
    obtain ⟨W4, hW4⟩ : ∃ W, W = wn := ⟨_, rfl⟩
    subst hW4
    clear z6a z9 z8 HQ6 HR6 HB6 yb2 hb ZA ZC
    have HQb := hid hQb
    go_upto_region 8 with fail
    refine wp_region_growL 8 5 [57, 58, 59, 56, 60, 61, 11, 12] [Fact.is (.agg #[.bool (zneg q), .slice qa (zl q).length qc]), Fact.z 3 2, Fact.z2 3 (q / 2) (q % 2), Fact.z2 3 (q / 2) (q % 2), Fact.z 3 (q / 2), Fact.z 3 (q % 2), Fact.z0 W4.heap.size 40, Fact.z0 W4.heap.size 40] [6, 7] (by kernel_rfl) (by kernel_rfl) rfl ⟨?o0, ?o1, ?o2, ?o3, ?o4, ?o5, ?o6, ?o7, trivial⟩ ?late (fun d _ _ _ _ h => by cases d <;> exact h) ?after
    case o0 => (refine StepOKF.plain rfl ?_; intro ρ w1 R hρ hb hp hR; have e8 : ρ (.tmp 8) = .pointer (some ⟨g8, 0, none⟩) := hρ.tmp 8 rfl; obtain ⟨j0, j1, -, -, -⟩ := z8b.below hb; replace hR := fun v w2 h1 h2 => hR v w2 h1 h2 (fun h => absurd h (by decide)); have hcon := hρ.con; have hfn := hρ.fn; clear hρ hp; unfold OpRun; go_simp; exact hR _ _ (Below.refl _ _) rfl)
    case o1 => (refine StepOKF.plain rfl ?_; intro ρ w1 R hρ hb hp hR; replace hR := fun v w2 h1 h2 => hR v w2 h1 h2 (fun h => absurd h (by decide)); have hcon := hρ.con; have hfn := hρ.fn; clear hρ hp; unfold OpRun; go_simp; (refine (ZN2.out _).mono ?_; rintro e wn ⟨az, cz, rfl, hz9, hbn⟩; exact ⟨_, rfl, hR _ _ hbn ⟨az, cz, rfl, hz9⟩⟩))
    case o2 => (refine StepOKF.plain rfl ?_; intro ρ w1 R hρ hb hp hR; have e57 : ρ (.tmp 57) = _ := hp 0 57 rfl rfl; have f58 := hp 1 58 rfl rfl; replace hR := fun v w2 h1 h2 => hR v w2 h1 h2 (fun h => absurd h (by decide)); have hcon := hρ.con; have hfn := hρ.fn; clear hρ hp; unfold OpRun; go_simp; (refine (DV2.out _ _ (HQb.out.below hb) f58).mono ?_; rintro e wn ⟨ao, cap, bo, cbp, rfl, hq, hr, hbn⟩; exact ⟨_, rfl, hR _ _ hbn ⟨ao, cap, bo, cbp, rfl, hq, hr⟩⟩))
    case o3 => (refine StepOKF.plain rfl ?_; intro ρ w1 R hρ hb hp hR; have f59 := hp 2 59 rfl rfl; replace hR := fun v w2 h1 h2 => hR v w2 h1 h2 (fun h => absurd h (by decide)); have hcon := hρ.con; have hfn := hρ.fn; clear hρ hp; unfold OpRun; go_simp; exact hR _ _ (Below.refl _ _) f59)
    case o4 => (refine StepOKF.plain rfl ?_; intro ρ w1 R hρ hb hp hR; have f56 := hp 3 56 rfl rfl; replace hR := fun v w2 h1 h2 => hR v w2 h1 h2 (fun h => absurd h (by decide)); have hcon := hρ.con; have hfn := hρ.fn; clear hρ hp; unfold OpRun; go_simp; (obtain ⟨ao, cap, bo, cbp, e12, hq, hr⟩ := f56; rw [e12]; exact hR _ _ (Below.refl _ _) ⟨_, _, rfl, hq⟩))
    case o5 => (refine StepOKF.plain rfl ?_; intro ρ w1 R hρ hb hp hR; have f56 := hp 3 56 rfl rfl; replace hR := fun v w2 h1 h2 => hR v w2 h1 h2 (fun h => absurd h (by decide)); have hcon := hρ.con; have hfn := hρ.fn; clear hρ hp; unfold OpRun; go_simp; (obtain ⟨ao, cap, bo, cbp, e12, hq, hr⟩ := f56; rw [e12]; exact hR _ _ (Below.refl _ _) ⟨_, _, rfl, hr⟩))
    case o6 => (refine StepOKF.plain rfl ?_; intro ρ w1 R hρ hb hp hR; have hcon := hρ.con; have hfn := hρ.fn; clear hρ hp; unfold OpRun; go_simp; exact hR _ _ (below_alloc _ _) ⟨_, rfl, hb.size, ZL.made rfl⟩ (fun _ => ⟨_, rfl, Nat.le_refl _, by simp⟩))
    case o7 => (refine StepOKF.plain rfl ?_; intro ρ w1 R hρ hb hp hR; have hcon := hρ.con; have hfn := hρ.fn; clear hρ hp; unfold OpRun; go_simp; exact hR _ _ (below_alloc _ _) ⟨_, rfl, hb.size, ZL.made rfl⟩ (fun _ => ⟨_, rfl, Nat.le_refl _, by simp⟩))
    case late =>
      intro o ho
      simp only [List.getElem?_cons_succ, List.getElem?_cons_zero, Option.some.injEq] at ho
      subst ho
      refine ⟨rfl, ?_⟩
      intro ρ w1 hρ hb hp
      have f56 := hp 3 56 rfl rfl
      obtain ⟨ao, cap, bo, cbp, e56, hq, hr⟩ := f56
      refine ⟨_, ?_, ⟨_, _, rfl, hr⟩⟩
      intro w2
      have hcon := hρ.con
      go_simp
      try rfl
    case after =>
      intro u wn hb hf hd
      have f60 := hf 4 60 (by omega) rfl
      have f61 := hf 5 61 (by omega) rfl
      have f11 := hf 6 11 (by omega) rfl
      have f12 := hf 7 12 (by omega) rfl
      have d11_12 : u 11 ≠ u 12 := hd 6 7 11 12 (by omega) (by omega) (by omega) rfl rfl rfl rfl
      clear hf hd
      simp only [putAll, Act.put, List.setIfInBounds_toArray, List.set_cons_zero, List.set_cons_succ, List.drop_succ_cons, List.drop_zero, List.drop_nil]
      obtain ⟨ma, mc, e60, hmq⟩ := f60
      obtain ⟨oa, oc, e61, ho⟩ := f61
      obtain ⟨g11, e11, hg11, z11⟩ := f11
      obtain ⟨g12, e12, hg12, z12⟩ := f12
      have h34 : g11 ≠ g12 := by intro h; apply d11_12; rw [e11, e12, h]
      have h43 := h34.symm
      rw [e60, e61, e11, e12]
      clear e60 e61 e11 e12 d11_12
      obtain ⟨a60, a61, af0, af1, as6⟩ := id z11
      obtain ⟨b70, b71, bf0, bf1, bs7⟩ := id z12
      go_upto_region 9 with fail
      have zO := (((z12.far ⟨g11, 0, none⟩ (.bool (zneg (q / 2))) h43).far ⟨g11, 1, none⟩ (.slice ma (zl (q / 2)).length mc) h43).set0 (zneg (q % 2))).set1 (.slice oa (zl (q % 2)).length oc)
      have ho2 := (ho.st2 as6 (by decide) (.bool (zneg (q / 2))) (.slice ma (zl (q / 2)).length mc)).st2 ((bs7.setCell _ _).setCell _ _) (by decide) (.bool (zneg (q % 2))) (.slice oa (zl (q % 2)).length oc)
      have hbS := (((hb.setCell (p := ⟨g11, 0, none⟩) hg11 (.bool (zneg (q / 2)))).setCell (p := ⟨g11, 1, none⟩) hg11 (.slice ma (zl (q / 2)).length mc)).setCell (p := ⟨g12, 0, none⟩) hg12 (.bool (zneg (q % 2)))).setCell (p := ⟨g12, 1, none⟩) hg12 (.slice oa (zl (q % 2)).length oc)
      obtain ⟨W5, hW5⟩ : ∃ W, W = ((((wn.setCell ⟨g11, 0, none⟩ (.bool (zneg (q / 2)))).setCell ⟨g11, 1, none⟩ (.slice ma (zl (q / 2)).length mc)).setCell ⟨g12, 0, none⟩ (.bool (zneg (q % 2)))).setCell ⟨g12, 1, none⟩ (.slice oa (zl (q % 2)).length oc)) := ⟨_, rfl⟩
      rw [← hW5] at zO ho2 hbS ⊢
      replace z6b := z6b.below hbS
      replace z9b := z9b.below hbS
      replace hRb := hRb.below hbS
      replace hBb := hBb.below hbS
      replace yb3 := below_trans yb3 hbS
      have HRb := hid hRb
      have HBb := hid hBb
      have HO := hid ho2
      clear hW5 a60 a61 af0 af1 as6 b70 b71 bf0 bf1 bs7 z11 z12 hmq ho hb hbS DV2 ZN2 hRb hBb ho2 HQb hQb z8b h34 h43
      obtain ⟨l0, l1, -, -, -⟩ := id zO
      obtain ⟨G1, G2⟩ := G12.out
      have hodd : q % 2 = 0 ∨ q % 2 = 1 := by omega
      have HD := hid hodd
      clear G12 hodd
      rcases Int.lt_trichotomy c 0 with hc | hc | hc
      · have hcond : ¬ ((b.natAbs : Int) < r + r ∨ (r + r = (b.natAbs : Int) ∧ q % 2 = 1)) := by omega
        have HC := hid hcond
        clear G1 G2 hcond HD
        go_upto_if 72 with fail
        have hcond := HC.out
        clear HC hc l0 l1 zO HO
        obtain ⟨hq9, hr9⟩ := hR9.out
        have hrm : remI a b = r := by
          unfold remI; rw [← hq9, ← hr9, if_neg hcond]
        have HFE := hid (show F = if r = 0 then sgb sx else rX (nrm r (-(K : Int))) 0 by rw [← hrm]; exact HFF.out)
        have hr2b : r.natAbs < 2 ^ (B + 1) := by
          have h8 := Nat.pow_succ (n := 2) (m := B)
          omega
        clear hrm hcond hq9 hr9 HFF hR9
        go_upto_region 11 with fail
        obtain ⟨WE, hWE⟩ : ∃ Y, Y = W5 := ⟨_, rfl⟩
        have zE := z9b.below (Below.refl _ _)
        have HE9 := hid (HRb.out.below (Below.refl _ _))
        have yE := below_trans yb3 (Below.refl _ _)
        subst hWE
        obtain ⟨ea9, hea⟩ : ∃ z, z = ra := ⟨_, rfl⟩
        obtain ⟨ec9, hec⟩ : ∃ z, z = rc := ⟨_, rfl⟩
        obtain ⟨r2, hr2⟩ : ∃ z, z = r := ⟨_, rfl⟩
        rw [← hea, ← hec, ← hr2] at zE HE9
        rw [← hr2] at HFE hr2b
        clear hea hec hr2
        obtain ⟨k0, k1, -, -, -⟩ := id zE
        by_cases hz : r2 = 0
        · have HZ := hid (show F = sgb sx by rw [HFE.out, if_pos hz])
          have ZS9 := hid (show ∀ w, Nz 3 w ea9 ec9 (zl r2) → Calls Tryd.prog 111 #[.agg #[.bool (zneg r2), .slice ea9 (zl r2).length ec9]] w fun e w' => e = .returned (.int .i64 0) ∧ Below w.heap.size w w' from fun w h => by
            have h9 := zsign_any ea9 ec9 r2 w h
            rw [(cmpI_eq_zero r2 0).2 hz] at h9; exact h9)
          clear HFE hz
          go_wp2_with (first
            | (go_at_call 111; (with_reducible refine (ZS9.out _ HE9.out).mono ?_); rintro en w8 ⟨rfl, hb8⟩)
            | (go_at_call 63; (with_reducible refine (MX.out _).mono ?_); rintro en w9 ⟨rfl, rfl⟩)
            | (go_at_call 62; (with_reducible refine (S0.out _ _).mono ?_); rintro en w9 ⟨rfl, rfl⟩))
          go_ret
          exact ⟨ret_int HZ.out.symm, below_trans yE hb8⟩
        · have HZ := hid (show F = rX (nrm r2 (-(K : Int))) 0 by rw [HFE.out, if_neg hz])
          have hne9 := (fun h : cmpI r2 0 = 0 => hz ((cmpI_eq_zero r2 0).1 h))
          obtain ⟨u9, hu9⟩ : ∃ u, u = cmpI r2 0 := ⟨_, rfl⟩
          have ZS9 := hid (show ∀ w, Nz 3 w ea9 ec9 (zl r2) → Calls Tryd.prog 111 #[.agg #[.bool (zneg r2), .slice ea9 (zl r2).length ec9]] w fun e w' => e = .returned (.int .i64 u9) ∧ Below w.heap.size w w' from fun w h => by
            rw [hu9]; exact zsign_any ea9 ec9 r2 w h)
          rw [← hu9] at hne9
          have hub : (u9 == 0) = false := beq_eq_false_iff_ne.2 hne9
          have RD := hid (fun v w h => roundedD_any v (nrm r2 (-(K : Int))) (B + 1) 1100 0 w h (nrm_isN _ _) (by omega) (by omega) (by omega) (by omega))
          have HQ9 := hid (fun w' (hb : Below WE.heap.size WE w') => (show QD 3 w' (nrm r2 (-(K : Int))) (B + 1) 1100 (.agg #[.bool (zneg r2), .slice ea9 (zl r2).length ec9, .int .i64 (K : Int)]) from ⟨r2, K, ea9, ec9, rfl, HE9.out.below hb, rfl, hr2b, hKb⟩))
          clear HFE hz hu9 hne9
          go_wp2_with (first
            | (go_at_call 111; (with_reducible refine (ZS9.out _ HE9.out).mono ?_); rintro en w8 ⟨rfl, hb8⟩; have zE8 := zE.below hb8; obtain ⟨l0, l1, -, -, -⟩ := id zE8)
            | (go_at_call 51; (with_reducible refine (RD.out _ _ (HQ9.out _ hb8)).mono ?_); rintro en w9 ⟨rfl, hb9⟩))
          go_ret
          exact ⟨ret_int HZ.out.symm, below_trans (below_trans yE hb8) hb9⟩
      · have HC := hid (show r + r = (b.natAbs : Int) by omega)
        subst hc
        clear G1 G2
        by_cases ho : q % 2 = 1
        · have ZS := hid (show ∀ w, Nz 3 w oa oc (zl (q % 2)) → Calls Tryd.prog 111 #[.agg #[.bool (zneg (q % 2)), .slice oa (zl (q % 2)).length oc]] w fun e w' => e = .returned (.int .i64 1) ∧ Below w.heap.size w w' from fun w h => by
            have h9 := zsign_any oa oc (q % 2) w h
            rw [ho, show cmpI 1 0 = 1 from by decide] at h9; rw [ho]; exact h9)
          have HP := hid ho
          clear ho HD
          go_upto_if 72 with (go_at_call 111; (with_reducible refine (ZS.out _ HO.out).mono ?_); rintro en w6 ⟨rfl, hb6⟩)
          have hcond : (b.natAbs : Int) < r + r ∨ (r + r = (b.natAbs : Int) ∧ q % 2 = 1) := .inr ⟨HC.out, HP.out⟩
          clear HC HP ZS l0 l1 zO HO
          obtain ⟨hq9, hr9⟩ := hR9.out
          have hrm : remI a b = r - (b.natAbs : Int) := by
            unfold remI; rw [← hq9, ← hr9, if_pos hcond]
          have HFE := hid (show F = if r - (b.natAbs : Int) = 0 then sgb sx else rX (nrm (r - (b.natAbs : Int)) (-(K : Int))) 0 by rw [← hrm]; exact HFF.out)
          have hr2b : (r - (b.natAbs : Int)).natAbs < 2 ^ (B + 1) := by
            have h8 := Nat.pow_succ (n := 2) (m := B)
            omega
          clear hrm hcond hq9 hr9 HFF hR9
          go_upto_region 10 with fail
          obtain ⟨W5, hW5⟩ : ∃ Y, Y = w6 := ⟨_, rfl⟩
          have z6c := z6b.below hb6
          have z9c := z9b.below hb6
          have HRc := hid (HRb.out.below hb6)
          have HBc := hid (HBb.out.below hb6)
          have yc := below_trans yb3 hb6
          subst hW5
          refine wp_region_grow 4 [73, 74, 75, 76] [Fact.is (.agg #[.bool (zneg r), .slice ra (zl r).length rc]), Fact.is (.agg #[.bool (zneg b), .slice bo (zl b).length bc]), Fact.z 3 (b.natAbs : Int), Fact.z 3 (r - (b.natAbs : Int))] (by kernel_rfl) (by kernel_rfl) ⟨?o0, ?o1, ?o2, ?o3, trivial⟩ ?after
          case o0 => (refine StepOK.plain rfl ?_; intro ρ w1 R hρ hb hp hR; have e9 : ρ (.tmp 9) = .pointer (some ⟨g9, 0, none⟩) := hρ.tmp 9 rfl; obtain ⟨j0, j1, -, -, -⟩ := z9c.below hb; have hcon := hρ.con; have hfn := hρ.fn; clear hρ hp; unfold OpRun; go_simp; exact hR _ _ (Below.refl _ _) rfl)
          case o1 => (refine StepOK.plain rfl ?_; intro ρ w1 R hρ hb hp hR; have e6 : ρ (.tmp 6) = .pointer (some ⟨g6, 0, none⟩) := hρ.tmp 6 rfl; obtain ⟨j0, j1, -, -, -⟩ := z6c.below hb; have hcon := hρ.con; have hfn := hρ.fn; clear hρ hp; unfold OpRun; go_simp; exact hR _ _ (Below.refl _ _) rfl)
          case o2 => (refine StepOK.plain rfl ?_; intro ρ w1 R hρ hb hp hR; have e74 : ρ (.tmp 74) = _ := hp 1 74 rfl rfl; have hcon := hρ.con; have hfn := hρ.fn; clear hρ hp; unfold OpRun; go_simp; (refine (ZAb.out _ (HBc.out.below hb)).mono ?_; rintro e wn ⟨az, cz, rfl, hz9, hbn⟩; exact ⟨_, rfl, hR _ _ hbn ⟨az, cz, rfl, hz9⟩⟩))
          case o3 => (refine StepOK.plain rfl ?_; intro ρ w1 R hρ hb hp hR; have e73 : ρ (.tmp 73) = _ := hp 0 73 rfl rfl; have f75 := hp 2 75 rfl rfl; obtain ⟨a75, c75, e75, hz75⟩ := f75; have hcon := hρ.con; have hfn := hρ.fn; clear hρ hp; unfold OpRun; go_simp; (skip; refine (ZSu.out _ _ _ (HRc.out.below hb) hz75).mono ?_; rintro e wn ⟨az, cz, rfl, hz9, hbn⟩; exact ⟨_, rfl, hR _ _ hbn ⟨az, cz, rfl, hz9⟩⟩))
          case after =>
            intro u wn hb hf
            have f76 := hf 3 76 (by omega) rfl
            clear hf
            simp only [putAll, Act.put, List.setIfInBounds_toArray, List.set_cons_zero, List.set_cons_succ, List.drop_succ_cons, List.drop_zero, List.drop_nil]
            obtain ⟨ea9, ec9, e76, hE76⟩ := f76
            rw [e76]
            have z9d := z9c.below hb
            obtain ⟨k0, k1, f0, f1, hs9⟩ := id z9d
            have zE0 := (z9d.set0 (zneg (r - (b.natAbs : Int)))).set1 (.slice ea9 (zl (r - (b.natAbs : Int))).length ec9)
            have hE0 := hE76.st2 hs9 (by decide) (.bool (zneg (r - (b.natAbs : Int)))) (.slice ea9 (zl (r - (b.natAbs : Int))).length ec9)
            have yE0 := ((below_trans yc hb).setCell (p := ⟨g9, 0, none⟩) hg9w (.bool (zneg (r - (b.natAbs : Int))))).setCell (p := ⟨g9, 1, none⟩) hg9w (.slice ea9 (zl (r - (b.natAbs : Int))).length ec9)
            clear e76
            go_upto_region 11 with fail
            obtain ⟨WE, hWE⟩ : ∃ Y, Y = (wn.setCell ⟨g9, 0, none⟩ (.bool (zneg (r - (b.natAbs : Int))))).setCell ⟨g9, 1, none⟩ (.slice ea9 (zl (r - (b.natAbs : Int))).length ec9) := ⟨_, rfl⟩
            rw [← hWE] at zE0 hE0 yE0 ⊢
            have zE := zE0
            have yE := yE0
            have HE9 := hid hE0
            generalize r - (b.natAbs : Int) = r2 at *
            clear hWE zE0 yE0 hE0 k0 k1 f0 f1 hs9 z9d hb z6c z9c HRc HBc yc hE76
            obtain ⟨k0, k1, -, -, -⟩ := id zE
            by_cases hz : r2 = 0
            · have HZ := hid (show F = sgb sx by rw [HFE.out, if_pos hz])
              have ZS9 := hid (show ∀ w, Nz 3 w ea9 ec9 (zl r2) → Calls Tryd.prog 111 #[.agg #[.bool (zneg r2), .slice ea9 (zl r2).length ec9]] w fun e w' => e = .returned (.int .i64 0) ∧ Below w.heap.size w w' from fun w h => by
                have h9 := zsign_any ea9 ec9 r2 w h
                rw [(cmpI_eq_zero r2 0).2 hz] at h9; exact h9)
              clear HFE hz
              go_wp2_with (first
                | (go_at_call 111; (with_reducible refine (ZS9.out _ HE9.out).mono ?_); rintro en w8 ⟨rfl, hb8⟩)
                | (go_at_call 63; (with_reducible refine (MX.out _).mono ?_); rintro en w9 ⟨rfl, rfl⟩)
                | (go_at_call 62; (with_reducible refine (S0.out _ _).mono ?_); rintro en w9 ⟨rfl, rfl⟩))
              go_ret
              exact ⟨ret_int HZ.out.symm, below_trans yE hb8⟩
            · have HZ := hid (show F = rX (nrm r2 (-(K : Int))) 0 by rw [HFE.out, if_neg hz])
              have hne9 := (fun h : cmpI r2 0 = 0 => hz ((cmpI_eq_zero r2 0).1 h))
              obtain ⟨u9, hu9⟩ : ∃ u, u = cmpI r2 0 := ⟨_, rfl⟩
              have ZS9 := hid (show ∀ w, Nz 3 w ea9 ec9 (zl r2) → Calls Tryd.prog 111 #[.agg #[.bool (zneg r2), .slice ea9 (zl r2).length ec9]] w fun e w' => e = .returned (.int .i64 u9) ∧ Below w.heap.size w w' from fun w h => by
                rw [hu9]; exact zsign_any ea9 ec9 r2 w h)
              rw [← hu9] at hne9
              have hub : (u9 == 0) = false := beq_eq_false_iff_ne.2 hne9
              have RD := hid (fun v w h => roundedD_any v (nrm r2 (-(K : Int))) (B + 1) 1100 0 w h (nrm_isN _ _) (by omega) (by omega) (by omega) (by omega))
              have HQ9 := hid (fun w' (hb : Below WE.heap.size WE w') => (show QD 3 w' (nrm r2 (-(K : Int))) (B + 1) 1100 (.agg #[.bool (zneg r2), .slice ea9 (zl r2).length ec9, .int .i64 (K : Int)]) from ⟨r2, K, ea9, ec9, rfl, HE9.out.below hb, rfl, hr2b, hKb⟩))
              clear HFE hz hu9 hne9
              go_wp2_with (first
                | (go_at_call 111; (with_reducible refine (ZS9.out _ HE9.out).mono ?_); rintro en w8 ⟨rfl, hb8⟩; have zE8 := zE.below hb8; obtain ⟨l0, l1, -, -, -⟩ := id zE8)
                | (go_at_call 51; (with_reducible refine (RD.out _ _ (HQ9.out _ hb8)).mono ?_); rintro en w9 ⟨rfl, hb9⟩))
              go_ret
              exact ⟨ret_int HZ.out.symm, below_trans (below_trans yE hb8) hb9⟩
        · have ho0 : q % 2 = 0 := by have := HD.out; omega
          have ZS := hid (show ∀ w, Nz 3 w oa oc (zl (q % 2)) → Calls Tryd.prog 111 #[.agg #[.bool (zneg (q % 2)), .slice oa (zl (q % 2)).length oc]] w fun e w' => e = .returned (.int .i64 0) ∧ Below w.heap.size w w' from fun w h => by
            have h9 := zsign_any oa oc (q % 2) w h
            rw [ho0, show cmpI 0 0 = 0 from by decide] at h9; rw [ho0]; exact h9)
          have HP := hid ho
          clear ho ho0 HD
          go_upto_if 72 with (go_at_call 111; (with_reducible refine (ZS.out _ HO.out).mono ?_); rintro en w6 ⟨rfl, hb6⟩)
          have hcond : ¬ ((b.natAbs : Int) < r + r ∨ (r + r = (b.natAbs : Int) ∧ q % 2 = 1)) := by
            rintro (h | ⟨-, h⟩)
            · rw [HC.out] at h; exact absurd h (by omega)
            · exact HP.out h
          clear HC HP ZS l0 l1 zO HO
          obtain ⟨hq9, hr9⟩ := hR9.out
          have hrm : remI a b = r := by
            unfold remI; rw [← hq9, ← hr9, if_neg hcond]
          have HFE := hid (show F = if r = 0 then sgb sx else rX (nrm r (-(K : Int))) 0 by rw [← hrm]; exact HFF.out)
          have hr2b : r.natAbs < 2 ^ (B + 1) := by
            have h8 := Nat.pow_succ (n := 2) (m := B)
            omega
          clear hrm hcond hq9 hr9 HFF hR9
          go_upto_region 11 with fail
          obtain ⟨WE, hWE⟩ : ∃ Y, Y = w6 := ⟨_, rfl⟩
          have zE := z9b.below hb6
          have HE9 := hid (HRb.out.below hb6)
          have yE := below_trans yb3 hb6
          subst hWE
          obtain ⟨ea9, hea⟩ : ∃ z, z = ra := ⟨_, rfl⟩
          obtain ⟨ec9, hec⟩ : ∃ z, z = rc := ⟨_, rfl⟩
          obtain ⟨r2, hr2⟩ : ∃ z, z = r := ⟨_, rfl⟩
          rw [← hea, ← hec, ← hr2] at zE HE9
          rw [← hr2] at HFE hr2b
          clear hea hec hr2
          obtain ⟨k0, k1, -, -, -⟩ := id zE
          by_cases hz : r2 = 0
          · have HZ := hid (show F = sgb sx by rw [HFE.out, if_pos hz])
            have ZS9 := hid (show ∀ w, Nz 3 w ea9 ec9 (zl r2) → Calls Tryd.prog 111 #[.agg #[.bool (zneg r2), .slice ea9 (zl r2).length ec9]] w fun e w' => e = .returned (.int .i64 0) ∧ Below w.heap.size w w' from fun w h => by
              have h9 := zsign_any ea9 ec9 r2 w h
              rw [(cmpI_eq_zero r2 0).2 hz] at h9; exact h9)
            clear HFE hz
            go_wp2_with (first
              | (go_at_call 111; (with_reducible refine (ZS9.out _ HE9.out).mono ?_); rintro en w8 ⟨rfl, hb8⟩)
              | (go_at_call 63; (with_reducible refine (MX.out _).mono ?_); rintro en w9 ⟨rfl, rfl⟩)
              | (go_at_call 62; (with_reducible refine (S0.out _ _).mono ?_); rintro en w9 ⟨rfl, rfl⟩))
            go_ret
            exact ⟨ret_int HZ.out.symm, below_trans yE hb8⟩
          · have HZ := hid (show F = rX (nrm r2 (-(K : Int))) 0 by rw [HFE.out, if_neg hz])
            have hne9 := (fun h : cmpI r2 0 = 0 => hz ((cmpI_eq_zero r2 0).1 h))
            obtain ⟨u9, hu9⟩ : ∃ u, u = cmpI r2 0 := ⟨_, rfl⟩
            have ZS9 := hid (show ∀ w, Nz 3 w ea9 ec9 (zl r2) → Calls Tryd.prog 111 #[.agg #[.bool (zneg r2), .slice ea9 (zl r2).length ec9]] w fun e w' => e = .returned (.int .i64 u9) ∧ Below w.heap.size w w' from fun w h => by
              rw [hu9]; exact zsign_any ea9 ec9 r2 w h)
            rw [← hu9] at hne9
            have hub : (u9 == 0) = false := beq_eq_false_iff_ne.2 hne9
            have RD := hid (fun v w h => roundedD_any v (nrm r2 (-(K : Int))) (B + 1) 1100 0 w h (nrm_isN _ _) (by omega) (by omega) (by omega) (by omega))
            have HQ9 := hid (fun w' (hb : Below WE.heap.size WE w') => (show QD 3 w' (nrm r2 (-(K : Int))) (B + 1) 1100 (.agg #[.bool (zneg r2), .slice ea9 (zl r2).length ec9, .int .i64 (K : Int)]) from ⟨r2, K, ea9, ec9, rfl, HE9.out.below hb, rfl, hr2b, hKb⟩))
            clear HFE hz hu9 hne9
            go_wp2_with (first
              | (go_at_call 111; (with_reducible refine (ZS9.out _ HE9.out).mono ?_); rintro en w8 ⟨rfl, hb8⟩; have zE8 := zE.below hb8; obtain ⟨l0, l1, -, -, -⟩ := id zE8)
              | (go_at_call 51; (with_reducible refine (RD.out _ _ (HQ9.out _ hb8)).mono ?_); rintro en w9 ⟨rfl, hb9⟩))
            go_ret
            exact ⟨ret_int HZ.out.symm, below_trans (below_trans yE hb8) hb9⟩
      · have hcond : (b.natAbs : Int) < r + r ∨ (r + r = (b.natAbs : Int) ∧ q % 2 = 1) := .inl (by omega)
        have HC := hid hcond
        clear G1 G2 hcond HD
        go_upto_if 72 with fail
        have hcond := HC.out
        clear HC hc l0 l1 zO HO
        obtain ⟨hq9, hr9⟩ := hR9.out
        have hrm : remI a b = r - (b.natAbs : Int) := by
          unfold remI; rw [← hq9, ← hr9, if_pos hcond]
        have HFE := hid (show F = if r - (b.natAbs : Int) = 0 then sgb sx else rX (nrm (r - (b.natAbs : Int)) (-(K : Int))) 0 by rw [← hrm]; exact HFF.out)
        have hr2b : (r - (b.natAbs : Int)).natAbs < 2 ^ (B + 1) := by
          have h8 := Nat.pow_succ (n := 2) (m := B)
          omega
        clear hrm hcond hq9 hr9 HFF hR9
        go_upto_region 10 with fail
        obtain ⟨W5, hW5⟩ : ∃ Y, Y = W5 := ⟨_, rfl⟩
        have z6c := z6b.below (Below.refl _ _)
        have z9c := z9b.below (Below.refl _ _)
        have HRc := hid (HRb.out.below (Below.refl _ _))
        have HBc := hid (HBb.out.below (Below.refl _ _))
        have yc := below_trans yb3 (Below.refl _ _)
        subst hW5
        refine wp_region_grow 4 [73, 74, 75, 76] [Fact.is (.agg #[.bool (zneg r), .slice ra (zl r).length rc]), Fact.is (.agg #[.bool (zneg b), .slice bo (zl b).length bc]), Fact.z 3 (b.natAbs : Int), Fact.z 3 (r - (b.natAbs : Int))] (by kernel_rfl) (by kernel_rfl) ⟨?o0, ?o1, ?o2, ?o3, trivial⟩ ?after
        case o0 => (refine StepOK.plain rfl ?_; intro ρ w1 R hρ hb hp hR; have e9 : ρ (.tmp 9) = .pointer (some ⟨g9, 0, none⟩) := hρ.tmp 9 rfl; obtain ⟨j0, j1, -, -, -⟩ := z9c.below hb; have hcon := hρ.con; have hfn := hρ.fn; clear hρ hp; unfold OpRun; go_simp; exact hR _ _ (Below.refl _ _) rfl)
        case o1 => (refine StepOK.plain rfl ?_; intro ρ w1 R hρ hb hp hR; have e6 : ρ (.tmp 6) = .pointer (some ⟨g6, 0, none⟩) := hρ.tmp 6 rfl; obtain ⟨j0, j1, -, -, -⟩ := z6c.below hb; have hcon := hρ.con; have hfn := hρ.fn; clear hρ hp; unfold OpRun; go_simp; exact hR _ _ (Below.refl _ _) rfl)
        case o2 => (refine StepOK.plain rfl ?_; intro ρ w1 R hρ hb hp hR; have e74 : ρ (.tmp 74) = _ := hp 1 74 rfl rfl; have hcon := hρ.con; have hfn := hρ.fn; clear hρ hp; unfold OpRun; go_simp; (refine (ZAb.out _ (HBc.out.below hb)).mono ?_; rintro e wn ⟨az, cz, rfl, hz9, hbn⟩; exact ⟨_, rfl, hR _ _ hbn ⟨az, cz, rfl, hz9⟩⟩))
        case o3 => (refine StepOK.plain rfl ?_; intro ρ w1 R hρ hb hp hR; have e73 : ρ (.tmp 73) = _ := hp 0 73 rfl rfl; have f75 := hp 2 75 rfl rfl; obtain ⟨a75, c75, e75, hz75⟩ := f75; have hcon := hρ.con; have hfn := hρ.fn; clear hρ hp; unfold OpRun; go_simp; (skip; refine (ZSu.out _ _ _ (HRc.out.below hb) hz75).mono ?_; rintro e wn ⟨az, cz, rfl, hz9, hbn⟩; exact ⟨_, rfl, hR _ _ hbn ⟨az, cz, rfl, hz9⟩⟩))
        case after =>
          intro u wn hb hf
          have f76 := hf 3 76 (by omega) rfl
          clear hf
          simp only [putAll, Act.put, List.setIfInBounds_toArray, List.set_cons_zero, List.set_cons_succ, List.drop_succ_cons, List.drop_zero, List.drop_nil]
          obtain ⟨ea9, ec9, e76, hE76⟩ := f76
          rw [e76]
          have z9d := z9c.below hb
          obtain ⟨k0, k1, f0, f1, hs9⟩ := id z9d
          have zE0 := (z9d.set0 (zneg (r - (b.natAbs : Int)))).set1 (.slice ea9 (zl (r - (b.natAbs : Int))).length ec9)
          have hE0 := hE76.st2 hs9 (by decide) (.bool (zneg (r - (b.natAbs : Int)))) (.slice ea9 (zl (r - (b.natAbs : Int))).length ec9)
          have yE0 := ((below_trans yc hb).setCell (p := ⟨g9, 0, none⟩) hg9w (.bool (zneg (r - (b.natAbs : Int))))).setCell (p := ⟨g9, 1, none⟩) hg9w (.slice ea9 (zl (r - (b.natAbs : Int))).length ec9)
          clear e76
          go_upto_region 11 with fail
          obtain ⟨WE, hWE⟩ : ∃ Y, Y = (wn.setCell ⟨g9, 0, none⟩ (.bool (zneg (r - (b.natAbs : Int))))).setCell ⟨g9, 1, none⟩ (.slice ea9 (zl (r - (b.natAbs : Int))).length ec9) := ⟨_, rfl⟩
          rw [← hWE] at zE0 hE0 yE0 ⊢
          have zE := zE0
          have yE := yE0
          have HE9 := hid hE0
          generalize r - (b.natAbs : Int) = r2 at *
          clear hWE zE0 yE0 hE0 k0 k1 f0 f1 hs9 z9d hb z6c z9c HRc HBc yc hE76
          obtain ⟨k0, k1, -, -, -⟩ := id zE
          by_cases hz : r2 = 0
          · have HZ := hid (show F = sgb sx by rw [HFE.out, if_pos hz])
            have ZS9 := hid (show ∀ w, Nz 3 w ea9 ec9 (zl r2) → Calls Tryd.prog 111 #[.agg #[.bool (zneg r2), .slice ea9 (zl r2).length ec9]] w fun e w' => e = .returned (.int .i64 0) ∧ Below w.heap.size w w' from fun w h => by
              have h9 := zsign_any ea9 ec9 r2 w h
              rw [(cmpI_eq_zero r2 0).2 hz] at h9; exact h9)
            clear HFE hz
            go_wp2_with (first
              | (go_at_call 111; (with_reducible refine (ZS9.out _ HE9.out).mono ?_); rintro en w8 ⟨rfl, hb8⟩)
              | (go_at_call 63; (with_reducible refine (MX.out _).mono ?_); rintro en w9 ⟨rfl, rfl⟩)
              | (go_at_call 62; (with_reducible refine (S0.out _ _).mono ?_); rintro en w9 ⟨rfl, rfl⟩))
            go_ret
            exact ⟨ret_int HZ.out.symm, below_trans yE hb8⟩
          · have HZ := hid (show F = rX (nrm r2 (-(K : Int))) 0 by rw [HFE.out, if_neg hz])
            have hne9 := (fun h : cmpI r2 0 = 0 => hz ((cmpI_eq_zero r2 0).1 h))
            obtain ⟨u9, hu9⟩ : ∃ u, u = cmpI r2 0 := ⟨_, rfl⟩
            have ZS9 := hid (show ∀ w, Nz 3 w ea9 ec9 (zl r2) → Calls Tryd.prog 111 #[.agg #[.bool (zneg r2), .slice ea9 (zl r2).length ec9]] w fun e w' => e = .returned (.int .i64 u9) ∧ Below w.heap.size w w' from fun w h => by
              rw [hu9]; exact zsign_any ea9 ec9 r2 w h)
            rw [← hu9] at hne9
            have hub : (u9 == 0) = false := beq_eq_false_iff_ne.2 hne9
            have RD := hid (fun v w h => roundedD_any v (nrm r2 (-(K : Int))) (B + 1) 1100 0 w h (nrm_isN _ _) (by omega) (by omega) (by omega) (by omega))
            have HQ9 := hid (fun w' (hb : Below WE.heap.size WE w') => (show QD 3 w' (nrm r2 (-(K : Int))) (B + 1) 1100 (.agg #[.bool (zneg r2), .slice ea9 (zl r2).length ec9, .int .i64 (K : Int)]) from ⟨r2, K, ea9, ec9, rfl, HE9.out.below hb, rfl, hr2b, hKb⟩))
            clear HFE hz hu9 hne9
            go_wp2_with (first
              | (go_at_call 111; (with_reducible refine (ZS9.out _ HE9.out).mono ?_); rintro en w8 ⟨rfl, hb8⟩; have zE8 := zE.below hb8; obtain ⟨l0, l1, -, -, -⟩ := id zE8)
              | (go_at_call 51; (with_reducible refine (RD.out _ _ (HQ9.out _ hb8)).mono ?_); rintro en w9 ⟨rfl, hb9⟩))
            go_ret
            exact ⟨ret_int HZ.out.symm, below_trans (below_trans yE hb8) hb9⟩
end Go.Proofs.YteaakbeemhmciaaDoor
