/- prod.Fma and what is to be told of it. -/
import Derived.Test.YteaakbeemhmciaaDoorPr1
set_option linter.unusedVariables false
set_option linter.unusedSimpArgs false
namespace Go.Ulp
open Go.RowKit
def infN (s : Bool) : Nat := if s then 18442240474082181120 else 9218868437227405312
def sgN (s : Bool) : Nat := if s then 9223372036854775808 else 0
theorem infN_lt (s : Bool) : infN s < 18446744073709551616 := by cases s <;> decide
theorem sgN_lt (s : Bool) : sgN s < 18446744073709551616 := by cases s <;> decide
theorem infN_eq (s : Bool) : ((infN s : Nat) : Int) = infX s := by cases s <;> rfl
theorem infN_eq2 (s : Bool) : ((infN s : Nat) : Int) = 9218868437227405312 + sgb s := by cases s <;> rfl
theorem sgN_eq (s : Bool) : ((sgN s : Nat) : Int) = sgb s := by cases s <;> rfl
theorem infN_ne (s : Bool) : (((infN s : Nat) : Int) == 9221120237041090560) = false := by cases s <;> decide
/-- what is told of a product and a sum -/
def fX (k : Nat) (s nz iz : Bool) (D : Dy) (z : Nat) (mode : Int) : Int :=
  if nz then 9221120237041090560 else if k = 0 then 9221120237041090560 else if k = 1 then sumX [infN s, z] mode else if iz then (z : Int)
  else if (addD D (fv (z : Int))).1 ≠ 0 then rX (addD D (fv (z : Int))) mode else if D.1 = 0 then sumX [sgN s, z] mode else sgb (mode == 2)
def fC (k : Nat) (s nz iz : Bool) (D : Dy) (z : Nat) (mode : Int) : Bool :=
  if nz then false else if k = 0 then false else if k = 1 then sumC [infN s, z] mode else if iz then false
  else if (addD D (fv (z : Int))).1 ≠ 0 then rC (addD D (fv (z : Int))) mode else if D.1 = 0 then sumC [sgN s, z] mode else false
section
variable {k : Nat} {s nz iz : Bool} {D : Dy} {z : Nat} {mode : Int}
theorem f_nan (h : nz = true ∨ k = 0) : fX k s nz iz D z mode = 9221120237041090560 ∧ fC k s nz iz D z mode = false := by
  unfold fX fC
  cases nz
  · rcases h with h | h
    · cases h
    · rw [if_pos h, if_pos h]; exact ⟨rfl, rfl⟩
  · exact ⟨rfl, rfl⟩
theorem f_inf (h1 : k = 1) : fX k s false iz D z mode = sumX [infN s, z] mode ∧ fC k s false iz D z mode = sumC [infN s, z] mode := by
  subst h1; exact ⟨rfl, rfl⟩
theorem f_z (h1 : 2 ≤ k) : fX k s false true D z mode = (z : Int) ∧ fC k s false true D z mode = false := by
  unfold fX fC
  rw [if_neg (by simp), if_neg (by omega), if_neg (by omega), if_pos rfl, if_neg (by simp), if_neg (by omega), if_neg (by omega), if_pos rfl]
  exact ⟨rfl, rfl⟩
theorem f_num (h1 : 2 ≤ k) (h : (addD D (fv (z : Int))).1 ≠ 0) : fX k s false false D z mode = rX (addD D (fv (z : Int))) mode ∧ fC k s false false D z mode = rC (addD D (fv (z : Int))) mode := by
  unfold fX fC
  rw [if_neg (by simp), if_neg (by omega), if_neg (by omega), if_neg (by simp), if_pos h, if_neg (by simp), if_neg (by omega), if_neg (by omega), if_neg (by simp), if_pos h]
  exact ⟨rfl, rfl⟩
theorem f_both (h1 : 2 ≤ k) (h : (addD D (fv (z : Int))).1 = 0) (h2 : D.1 = 0) : fX k s false false D z mode = sumX [sgN s, z] mode ∧ fC k s false false D z mode = sumC [sgN s, z] mode := by
  unfold fX fC
  rw [if_neg (by simp), if_neg (by omega), if_neg (by omega), if_neg (by simp), if_neg (not_not_intro h), if_pos h2, if_neg (by simp), if_neg (by omega), if_neg (by omega), if_neg (by simp), if_neg (not_not_intro h), if_pos h2]
  exact ⟨rfl, rfl⟩
theorem f_gone (h1 : 2 ≤ k) (h : (addD D (fv (z : Int))).1 = 0) (h2 : D.1 ≠ 0) : fX k s false false D z mode = sgb (mode == 2) ∧ fC k s false false D z mode = false := by
  unfold fX fC
  rw [if_neg (by simp), if_neg (by omega), if_neg (by omega), if_neg (by simp), if_neg (not_not_intro h), if_neg h2, if_neg (by simp), if_neg (by omega), if_neg (by omega), if_neg (by simp), if_neg (not_not_intro h), if_neg h2]
  exact ⟨rfl, rfl⟩
end
theorem addD_isN (D E : Dy) : IsN (addD D E) := nrm_isN _ _
end Go.Ulp
namespace Go.Proofs.YteaakbeemhmciaaDoor
open Go.RowKit Go.Ulp
set_option linter.unusedVariables false
set_option linter.unusedSimpArgs false
set_option maxHeartbeats 2000000
set_option maxRecDepth 100000
theorem fma_any (x y : Int) (hx : 0 ≤ x ∧ x < 18446744073709551616) (hy : 0 ≤ y ∧ y < 18446744073709551616) (z : Nat) (hz : z < 18446744073709551616) (mode : Int) (w : World) (hT : Tab 0 w) :
    Calls Tryd.prog 80 #[.int .u64 x, .int .u64 y, .int .u64 (z : Int), .int .i64 mode] w (RetX3 w (mdX mode (fX (kindP x y) (sgx x y) (isNan (z : Int)) (isInf (z : Int)) (mulD (fv x) (fv y)) z mode)) (mdC mode (fC (kindP x y) (sgx x y) (isNan (z : Int)) (isInf (z : Int)) (mulD (fv x) (fv y)) z mode)) (mdE mode)) := by
  have hz0 : 0 ≤ (z : Int) := by omega
  have hz1 : (z : Int) < 18446744073709551616 := by omega
  have KN := hid (fun w => known_any mode w)
  have SP := hid (fun w => special_any x y hx hy w)
  have SG := hid (show ∀ w, Calls Tryd.prog 146 #[.int .u64 x, .int .u64 y] w fun e w' => e = .returned (.int .u64 ((sgN (sgx x y) : Nat) : Int)) ∧ w = w' from fun w => by rw [sgN_eq]; exact pSign_any x y hx hy w)
  have EX := hid (fun w t => exact_any x y hx hy w t)
  have CZ := hid (fun w => class_any (z : Int) hz0 hz1 w)
  have VZ := hid (fun w t => value_any (z : Int) hz0 hz1 w t)
  have SI := hid (fun w t => sumAdd_any (infN (sgx x y)) z (infN_lt _) hz mode w t)
  have SZ := hid (fun w t => sumAdd_any (sgN (sgx x y)) z (sgN_lt _) hz mode w t)
  have HT := hid hT
  have hk3 : kindP x y ≤ 3 := kP_le _ _ _ _ _ _
  obtain ⟨d1, d2, d3⟩ := mulD_fv x y hx hy
  obtain ⟨-, z1, z2, z3⟩ := fv_bd (z : Int) hz0 hz1
  obtain ⟨A, hA⟩ : ∃ A : Nat, A = 106 := ⟨_, rfl⟩
  have q1 := addD_gen A 5000 (-2148) (by omega) (by omega) (mulD (fv x) (fv y)) (fv (z : Int)) ⟨by rw [hA]; exact d1, d2, by omega⟩ ⟨Nat.lt_of_lt_of_le z1 (Nat.pow_le_pow_right (by omega) (by omega)), by omega, by omega⟩
  have l1 := limbs_short 106 4 (by omega) _ d1
  have l2 := limbs_short 53 2 (by omega) _ z1
  have l3 := limbs_short _ 200 (by omega) _ q1.1
  have PL := hid (fun v u w h0 h1 t => plusD_any v u (mulD (fv x) (fv y)) (fv (z : Int)) w h0 h1 (by omega) (by omega) ⟨by omega, by omega⟩ ⟨by omega, by omega⟩ t)
  have NU := hid (fun v w h => numberD_any v (addD (mulD (fv x) (fv y)) (fv (z : Int))) mode w h (by omega) ⟨by omega, by omega⟩ (addD_isN _ _))
  have FN := hid (fun s h => f_nan (k := kindP x y) (s := s) (nz := isNan (z : Int)) (iz := isInf (z : Int)) (D := mulD (fv x) (fv y)) (z := z) (mode := mode) h)
  have FI := hid (fun h => f_inf (k := kindP x y) (s := sgx x y) (iz := isInf (z : Int)) (D := mulD (fv x) (fv y)) (z := z) (mode := mode) h)
  have FZ := hid (fun h => f_z (k := kindP x y) (s := sgx x y) (D := mulD (fv x) (fv y)) (z := z) (mode := mode) h)
  have FV := hid (fun h h2 => f_num (k := kindP x y) (s := sgx x y) (D := mulD (fv x) (fv y)) (z := z) (mode := mode) h h2)
  have FB := hid (fun h h2 h3 => f_both (k := kindP x y) (s := sgx x y) (D := mulD (fv x) (fv y)) (z := z) (mode := mode) h h2 h3)
  have FG := hid (fun h h2 h3 => f_gone (k := kindP x y) (s := sgx x y) (D := mulD (fv x) (fv y)) (z := z) (mode := mode) h h2 h3)
  have I1 := infN_ne (sgx x y)
  have IE := hid (infN_eq (sgx x y))
  have e5 : (classOf (z : Int) == 5) = isNan (z : Int) := rfl
  have e4 : (classOf (z : Int) == 4) = isInf (z : Int) := rfl
  generalize kindP x y = k at *
  generalize sgx x y = s at *
  generalize mulD (fv x) (fv y) = D at *
  generalize addD D (fv (z : Int)) = S at *
  generalize fv (z : Int) = Z at *
  generalize infN s = nI at *
  generalize sgN s = nS at *
  generalize isNan (z : Int) = nz at *
  generalize isInf (z : Int) = iz at *
  generalize classOf (z : Int) = c at *
  obtain ⟨x0, x1⟩ := hx
  obtain ⟨y0, y1⟩ := hy
  clear hT d1 d2 d3 z1 z2 z3 q1 hA l1 l2 l3 hz
  cases hk : knownB mode
  · obtain ⟨e1, e2, e3⟩ := md_no hk (fX k s nz iz D z mode) (fC k s nz iz D z mode)
    rw [e1, e2, e3]
    rw [hk] at KN
    clear e1 e2 e3 hk
    go_enter Tryd.func80, Tryd.ntmps80
    go_wp2_with (go_at_call 108; (with_reducible refine (KN.out _).mono ?_); rintro en w1 ⟨rfl, rfl⟩)
    refine bodyPost_ret (by simp [results, Tryd.results80, go_sem]; try rfl) rfl ?_
    exact ⟨rfl, Below.refl _ _⟩
  · obtain ⟨e1, e2, e3⟩ := md_yes hk (fX k s nz iz D z mode) (fC k s nz iz D z mode)
    rw [e1, e2, e3]
    obtain ⟨i1, i2, i3⟩ := md_yes hk (sumX [nI, z] mode) (sumC [nI, z] mode)
    rw [i1, i2, i3] at SI
    obtain ⟨j1, j2, j3⟩ := md_yes hk (sumX [nS, z] mode) (sumC [nS, z] mode)
    rw [j1, j2, j3] at SZ
    rw [hk] at KN
    clear e1 e2 e3 hk i1 i2 i3 j1 j2 j3
    have hk4 : k = 0 ∨ k = 1 ∨ k = 2 ∨ k = 3 := by omega
    cases nz
    · rcases hk4 with rfl | rfl | hk23
      · have HP := hid (FN.out s (.inr rfl))
        rw [show spX 0 s = 9221120237041090560 from rfl, show decide (0 < 2) = true from rfl] at SP
        clear FN FI FZ FV FB FG NU PL SZ SI
        go_enter Tryd.func80, Tryd.ntmps80
        go_wp2_with (first
          | (go_at_call 108; (with_reducible refine (KN.out _).mono ?_); rintro en w1 ⟨rfl, rfl⟩)
          | (go_at_call 145; (with_reducible refine (SP.out _).mono ?_); rintro en w1 ⟨rfl, rfl⟩)
          | (go_at_call 131; (with_reducible refine (CZ.out _).mono ?_); rintro en w1 ⟨rfl, rfl⟩)
          | (go_at_call 67; (with_reducible refine (SI.out _ HT.out).mono ?_); rintro en w2 ⟨rfl, hb2⟩))
        refine bodyPost_ret (by simp [results, Tryd.results80, go_sem]; try rfl) rfl ?_
        exact ⟨ret3 HP.out.1.symm HP.out.2.symm rfl, Below.refl _ _⟩
      · have HP := hid (FI.out rfl)
        rw [show spX 1 s = infX s from rfl, ← IE.out, show decide (1 < 2) = true from rfl] at SP
        generalize sumX [nI, z] mode = sx at *
        generalize sumC [nI, z] mode = sc at *
        clear FN FI FZ FV FB FG NU PL SZ
        go_enter Tryd.func80, Tryd.ntmps80
        go_wp2_with (first
          | (go_at_call 108; (with_reducible refine (KN.out _).mono ?_); rintro en w1 ⟨rfl, rfl⟩)
          | (go_at_call 145; (with_reducible refine (SP.out _).mono ?_); rintro en w1 ⟨rfl, rfl⟩)
          | (go_at_call 131; (with_reducible refine (CZ.out _).mono ?_); rintro en w1 ⟨rfl, rfl⟩)
          | (go_at_call 67; (with_reducible refine (SI.out _ HT.out).mono ?_); rintro en w2 ⟨rfl, hb2⟩))
        refine bodyPost_ret (by simp [results, Tryd.results80, go_sem]; try rfl) rfl ?_
        exact ⟨ret3 HP.out.1.symm HP.out.2.symm rfl, hb2⟩
      · have hk2 : 2 ≤ k := by omega
        have hsp : spX k s = 0 := by rcases hk23 with h | h <;> rw [h] <;> rfl
        rw [hsp, show decide (k < 2) = false from decide_eq_false (by omega)] at SP
        cases iz
        · clear FN FI FZ hk23 hsp SI
          go_enter Tryd.func80, Tryd.ntmps80
          go_upto_region 11 with (first
            | (go_at_call 108; (with_reducible refine (KN.out _).mono ?_); rintro en w1 ⟨rfl, rfl⟩)
            | (go_at_call 145; (with_reducible refine (SP.out _).mono ?_); rintro en w1 ⟨rfl, rfl⟩)
            | (go_at_call 131; (with_reducible refine (CZ.out _).mono ?_); rintro en w1 ⟨rfl, rfl⟩)
            | (go_at_call 125; (with_reducible refine (EX.out _ HT.out).mono ?_); rintro en w2 ⟨v2, rfl, ⟨a2, c2, rfl, hN2⟩, hb2⟩))
          have zD : QL 25 (w2.alloc (.cells #[.bool (decide (D.1 < 0)), .slice a2 (limbs D.1.natAbs).length c2, .int .i64 D.2] 25)) w2.heap.size (decide (D.1 < 0)) (.slice a2 (limbs D.1.natAbs).length c2) D.2 := QL.made rfl
          have hND := hN2.below (below_alloc w2 (.cells #[.bool (decide (D.1 < 0)), .slice a2 (limbs D.1.natAbs).length c2, .int .i64 D.2] 25))
          have yb := below_trans hb2 (below_alloc w2 (.cells #[.bool (decide (D.1 < 0)), .slice a2 (limbs D.1.natAbs).length c2, .int .i64 D.2] 25))
          obtain ⟨W1, hW1⟩ : ∃ W, W = w2.alloc (.cells #[.bool (decide (D.1 < 0)), .slice a2 (limbs D.1.natAbs).length c2, .int .i64 D.2] 25) := ⟨_, rfl⟩
          obtain ⟨gD, hgD⟩ : ∃ g, g = w2.heap.size := ⟨_, rfl⟩
          rw [← hW1, ← hgD] at zD ⊢
          rw [← hW1] at hND yb
          clear hW1 hgD hN2 hb2
          refine wp_region_growF 5 [54, 55, 56, 57, 14] [Fact.is (.agg #[.bool (decide (D.1 < 0)), .slice a2 (limbs D.1.natAbs).length c2, .int .i64 D.2]), Fact.is (.int .u64 (z : Int)), Fact.vd Z, Fact.vd S, Fact.q0 W1.heap.size 25] [4] (by kernel_rfl) (by kernel_rfl) ⟨?o0, ?o1, ?o2, ?o3, ?o4, trivial⟩ ?after
          case o0 => (refine StepOKF.plain rfl ?_; intro ρ w1 R hρ hb hp hR; have e13 : ρ (.tmp 13) = .pointer (some ⟨gD, 0, none⟩) := hρ.tmp 13 rfl; obtain ⟨⟨j0, j1, -, -, -⟩, j2, -⟩ := zD.below hb; replace hR := fun v w2 h1 h2 => hR v w2 h1 h2 (fun h => absurd h (by decide)); have hcon := hρ.con; have hfn := hρ.fn; clear hρ hp; unfold OpRun; go_simp; exact hR _ _ (Below.refl _ _) rfl)
          case o1 => (refine StepOKF.plain rfl ?_; intro ρ w1 R hρ hb hp hR; have e2 : ρ (.tmp 2) = .int .u64 (z : Int) := hρ.tmp 2 rfl; replace hR := fun v w2 h1 h2 => hR v w2 h1 h2 (fun h => absurd h (by decide)); have hcon := hρ.con; have hfn := hρ.fn; clear hρ hp; unfold OpRun; go_simp; exact hR _ _ (Below.refl _ _) rfl)
          case o2 => (refine StepOKF.plain rfl ?_; intro ρ w1 R hρ hb hp hR; have e55 : ρ (.tmp 55) = _ := hp 1 55 rfl rfl; replace hR := fun v w2 h1 h2 => hR v w2 h1 h2 (fun h => absurd h (by decide)); have hcon := hρ.con; have hfn := hρ.fn; clear hρ hp; unfold OpRun; go_simp; (refine (VZ.out _ (HT.out.below (below_trans yb hb))).mono ?_; rintro e wn ⟨v9, rfl, hv9, hbn⟩; exact ⟨_, rfl, hR _ _ hbn hv9⟩))
          case o3 => (refine StepOKF.plain rfl ?_; intro ρ w1 R hρ hb hp hR; have e54 : ρ (.tmp 54) = _ := hp 0 54 rfl rfl; have f56 := hp 2 56 rfl rfl; replace hR := fun v w2 h1 h2 => hR v w2 h1 h2 (fun h => absurd h (by decide)); have hcon := hρ.con; have hfn := hρ.fn; clear hρ hp; unfold OpRun; go_simp; (refine (PL.out _ _ _ (VD.mk (hND.below hb)) f56 (HT.out.below (below_trans yb hb))).mono ?_; rintro e wn ⟨v9, rfl, hv9, hbn⟩; exact ⟨_, rfl, hR _ _ hbn hv9⟩))
          case o4 => (refine StepOKF.plain rfl ?_; intro ρ w1 R hρ hb hp hR; have hcon := hρ.con; have hfn := hρ.fn; clear hρ hp; unfold OpRun; go_simp; exact hR _ _ (below_alloc _ _) ⟨_, rfl, hb.size, QL.made rfl⟩ (fun _ => ⟨_, rfl, Nat.le_refl _, by simp⟩))
          case after =>
            intro u wn hb hf hd
            have f14 := hf 4 14 (by omega) rfl
            have f57 := hf 3 57 (by omega) rfl
            clear hf hd
            simp only [putAll, Act.put, List.setIfInBounds_toArray, List.set_cons_zero, List.set_cons_succ, List.drop_succ_cons, List.drop_zero, List.drop_nil]
            obtain ⟨gS, e14, hgS, zS⟩ := f14
            obtain ⟨aS, cS, e57, hNS⟩ := f57
            rw [e14, e57]
            clear e14 e57
            have hgd := zD.lt
            have zD2 := (zD.below hb).far3 (b := gS) (by omega) (.bool (decide (S.1 < 0))) (.slice aS (limbs S.1.natAbs).length cS) (.int .i64 S.2)
            have zS2 := zS.put (decide (S.1 < 0)) (.slice aS (limbs S.1.natAbs).length cS) S.2
            have hNS2 := hNS.set3 zS (by intro x h; cases h) (.bool (decide (S.1 < 0))) (.slice aS (limbs S.1.natAbs).length cS) (.int .i64 S.2)
            have yb2 := Go.Ulp.Below.put3 (below_trans yb hb) (g := gS) (by have := yb.size; omega) (.bool (decide (S.1 < 0))) (.slice aS (limbs S.1.natAbs).length cS) (.int .i64 S.2)
            obtain ⟨⟨k0, k1, f0, f1, hs2⟩, k2, f2⟩ := id zS
            go_upto_region 12 with fail
            obtain ⟨W2, hW2⟩ : ∃ W, W = ((wn.setCell ⟨gS, 0, none⟩ (.bool (decide (S.1 < 0)))).setCell ⟨gS, 1, none⟩ (.slice aS (limbs S.1.natAbs).length cS)).setCell ⟨gS, 2, none⟩ (.int .i64 S.2) := ⟨_, rfl⟩
            rw [← hW2] at zD2 zS2 hNS2 yb2 ⊢
            have HNS := hid hNS2
            have hlD := dy_len D
            have hlS := dy_len S
            clear hW2 k0 k1 f0 f1 hs2 k2 f2 zS hNS hNS2 zD hgd hgS hND yb hb
            obtain ⟨⟨k0, k1, -, -, -⟩, k2, -⟩ := id zS2
            obtain ⟨⟨j0, j1, -, -, -⟩, j2, -⟩ := id zD2
            by_cases hS : S.1 = 0
            · have hl0 := hlS.2 hS
              rw [hl0] at k1
              by_cases hD : D.1 = 0
              · have HP := hid (FB.out hk2 hS hD)
                rw [hlD.2 hD] at j1
                generalize sumX [nS, z] mode = sx at *
                generalize sumC [nS, z] mode = sc at *
                clear hS hD hlD hlS hl0 FV FB FG NU PL zS2 zD2
                go_wp2_with (first
                  | (go_at_call 146; (with_reducible refine (SG.out _).mono ?_); rintro en w1 ⟨rfl, rfl⟩)
                  | (go_at_call 67; (with_reducible refine (SZ.out _ (HT.out.below yb2)).mono ?_); rintro en w3 ⟨rfl, hb3⟩))
                refine bodyPost_ret (by simp [results, Tryd.results80, go_sem]; try rfl) rfl ?_
                exact ⟨ret3 HP.out.1.symm HP.out.2.symm rfl, below_trans yb2 hb3⟩
              · have HP := hid (FG.out hk2 hS hD)
                have hdb : (((limbs D.1.natAbs).length : Int) == 0) = false := beq_eq_false_iff_ne.2 (fun h => hD (hlD.1 (by omega)))
                clear hS hD hlD hlS hl0 FV FB FG NU PL zS2 zD2
                go_wp2_with (go_at_call 147; (with_reducible refine (zeroS_any _ _).mono ?_); rintro en w1 ⟨rfl, rfl⟩)
                refine bodyPost_ret (by simp [results, Tryd.results80, go_sem]; try rfl) rfl ?_
                exact ⟨ret3 HP.out.1.symm HP.out.2.symm rfl, yb2⟩
            · have HP := hid (FV.out hk2 hS)
              have hpos : 0 < (limbs S.1.natAbs).length := by
                rcases Nat.eq_zero_or_pos (limbs S.1.natAbs).length with h | h
                · exact absurd (hlS.1 h) hS
                · exact h
              clear hS hlD hlS FV FB FG PL zS2 zD2
              go_wp2_with (go_at_call 126; (with_reducible refine (NU.out _ _ (VD.mk HNS.out)).mono ?_); rintro en w3 ⟨rfl, hb3⟩)
              refine bodyPost_ret (by simp [results, Tryd.results80, go_sem]; try rfl) rfl ?_
              exact ⟨ret3 HP.out.1.symm HP.out.2.symm rfl, below_trans yb2 hb3⟩
        · have HP := hid (FZ.out hk2)
          clear FN FI FZ FV FB FG NU PL SZ SI hk23 hsp
          go_enter Tryd.func80, Tryd.ntmps80
          go_wp2_with (first
            | (go_at_call 108; (with_reducible refine (KN.out _).mono ?_); rintro en w1 ⟨rfl, rfl⟩)
            | (go_at_call 145; (with_reducible refine (SP.out _).mono ?_); rintro en w1 ⟨rfl, rfl⟩)
            | (go_at_call 131; (with_reducible refine (CZ.out _).mono ?_); rintro en w1 ⟨rfl, rfl⟩)
            | (go_at_call 67; (with_reducible refine (SI.out _ HT.out).mono ?_); rintro en w2 ⟨rfl, hb2⟩))
          refine bodyPost_ret (by simp [results, Tryd.results80, go_sem]; try rfl) rfl ?_
          exact ⟨ret3 HP.out.1.symm HP.out.2.symm rfl, Below.refl _ _⟩
    · have HP := hid (FN.out s (.inl rfl))
      clear FN FI FZ FV FB FG NU PL SZ SI hk4
      go_enter Tryd.func80, Tryd.ntmps80
      go_wp2_with (first
        | (go_at_call 108; (with_reducible refine (KN.out _).mono ?_); rintro en w1 ⟨rfl, rfl⟩)
        | (go_at_call 145; (with_reducible refine (SP.out _).mono ?_); rintro en w1 ⟨rfl, rfl⟩)
        | (go_at_call 131; (with_reducible refine (CZ.out _).mono ?_); rintro en w1 ⟨rfl, rfl⟩)
        | (go_at_call 67; (with_reducible refine (SI.out _ HT.out).mono ?_); rintro en w2 ⟨rfl, hb2⟩))
      refine bodyPost_ret (by simp [results, Tryd.results80, go_sem]; try rfl) rfl ?_
      exact ⟨ret3 HP.out.1.symm HP.out.2.symm rfl, Below.refl _ _⟩
end Go.Proofs.YteaakbeemhmciaaDoor
