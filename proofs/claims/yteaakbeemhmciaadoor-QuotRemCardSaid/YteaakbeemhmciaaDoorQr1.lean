/- quot.Rem. -/
import Derived.Test.YteaakbeemhmciaaDoorQr0
import Derived.Test.YteaakbeemhmciaaDoorWh0
set_option linter.unusedVariables false
set_option linter.unusedSimpArgs false
namespace Go.Ulp
open Go.RowKit
theorem alN_abs (D : Dy) (m : Int) : alN (absD D) m = D.1.natAbs * 2 ^ (D.2 - m).toNat := by
  unfold alN absD
  rw [show (((D.1.natAbs : Int), D.2) : Dy).1.natAbs = D.1.natAbs from Int.natAbs_natCast _]
theorem rm_short (A : Nat) (hA : A = 2300) (x y : Int) (hx : 0 ≤ x ∧ x < 18446744073709551616) (hy : 0 ≤ y ∧ y < 18446744073709551616) : rmM x y < 2 ^ A ∧ rmN x y < 2 ^ A ∧ -1074 ≤ rmE x y ∧ rmE x y ≤ 1024 := by
  obtain ⟨-, b1, b2, b3⟩ := fv_bd x hx.1 hx.2
  obtain ⟨-, c1, c2, c3⟩ := fv_bd y hy.1 hy.2
  have he : -1074 ≤ rmE x y ∧ rmE x y ≤ 1024 := by unfold rmE; omega
  refine ⟨?_, ?_, he.1, he.2⟩
  · unfold rmM
    have h := Nat.mul_lt_mul_of_pos_right b1 (Nat.two_pow_pos ((fv x).2 - rmE x y).toNat)
    rw [← Nat.pow_add] at h
    exact Nat.lt_of_lt_of_le h (Nat.pow_le_pow_right (by omega) (by omega))
  · unfold rmN
    have h := Nat.mul_lt_mul_of_pos_right c1 (Nat.two_pow_pos ((fv y).2 - rmE x y).toNat)
    rw [← Nat.pow_add] at h
    exact Nat.lt_of_lt_of_le h (Nat.pow_le_pow_right (by omega) (by omega))
theorem class_some {x : Int} (n : (classOf x == 5) = false) (i : (classOf x == 4) = false) (z : (classOf x == 1) = false) : classOf x < 4 ∧ classOf x ≠ 1 := by
  have h := class_bd x
  rw [beq_eq_false_iff_ne] at n i z
  omega
theorem fv_nz (x : Int) (h0 : 0 ≤ x) (h1 : x < 18446744073709551616) (h : classOf x < 4) (hz : classOf x ≠ 1) : (fv x).1 ≠ 0 := by
  have := (qN_fv x h0 h1 h hz).1
  omega
end Go.Ulp
namespace Go.Proofs.YteaakbeemhmciaaDoor
open Go.RowKit Go.Ulp
set_option linter.unusedVariables false
set_option linter.unusedSimpArgs false
set_option maxHeartbeats 2000000
set_option maxRecDepth 100000
theorem rem_main (x y : Int) (hx : 0 ≤ x ∧ x < 18446744073709551616) (hy : 0 ≤ y ∧ y < 18446744073709551616) (n0 : (classOf x == 5) = false) (n1 : (classOf y == 5) = false) (i0 : (classOf x == 4) = false) (i1 : (classOf y == 4) = false) (z0 : (classOf x == 1) = false) (z1 : (classOf y == 1) = false) (w : World) (hT : Tab 0 w) :
    Calls Tryd.prog 77 #[.int .u64 x, .int .u64 y] w fun e w' => e = .returned (.int .u64 (if rmR x y = 0 then sgb (negB x) else rX (nrm (rmR x y) (rmE x y)) 0)) ∧ Below w.heap.size w w' := by
  obtain ⟨cx, dx⟩ := class_some n0 i0 z0
  obtain ⟨cy, dy⟩ := class_some n1 i1 z1
  have CX := hid (fun w => class_any x hx.1 hx.2 w)
  have CY := hid (fun w => class_any y hy.1 hy.2 w)
  have AX := hid (fun w => abs_any x hx.1 hx.2 w)
  have AY := hid (fun w => abs_any y hy.1 hy.2 w)
  have bx : 0 ≤ absOf x ∧ absOf x < 18446744073709551616 := by unfold absOf; omega
  have by2 : 0 ≤ absOf y ∧ absOf y < 18446744073709551616 := by unfold absOf; omega
  have VX := hid (fun w t => value_any (absOf x) bx.1 bx.2 w t)
  have VY := hid (fun w t => value_any (absOf y) by2.1 by2.2 w t)
  rw [fv_abs x hx.1 hx.2 cx] at VX
  rw [fv_abs y hy.1 hy.2 cy] at VY
  obtain ⟨-, b1, b2, b3⟩ := fv_bd x hx.1 hx.2
  obtain ⟨-, d1, d2, d3⟩ := fv_bd y hy.1 hy.2
  have lx := limbs_short 53 2 (by omega) _ b1
  have ly := limbs_short 53 2 (by omega) _ d1
  have eax : (absD (fv x)).1.natAbs = (fv x).1.natAbs := Int.natAbs_natCast _
  have eay : (absD (fv y)).1.natAbs = (fv y).1.natAbs := Int.natAbs_natCast _
  have AL := hid (fun v u w h0 h1 => align_any v u (absD (fv x)) (absD (fv y)) w h0 h1 (by rw [eax]; omega) (by rw [eay]; omega) ⟨(by show -1000000 ≤ (fv x).2; omega), (by show (fv x).2 ≤ 1000000; omega)⟩ ⟨(by show -1000000 ≤ (fv y).2; omega), (by show (fv y).2 ≤ 1000000; omega)⟩)
  have emn : min (absD (fv x)).2 (absD (fv y)).2 = rmE x y := rfl
  rw [emn, alN_abs, alN_abs, show (fv x).1.natAbs * 2 ^ ((fv x).2 - rmE x y).toNat = rmM x y from rfl, show (fv y).1.natAbs * 2 ^ ((fv y).2 - rmE x y).toNat = rmN x y from rfl] at AL
  obtain ⟨A, hA⟩ : ∃ A : Nat, A = 2300 := ⟨_, rfl⟩
  obtain ⟨m1, m2, m3, m4⟩ := rm_short A hA x y hx hy
  have hfx := fv_nz x hx.1 hx.2 cx dx
  have hfy := fv_nz y hy.1 hy.2 cy dy
  have hN0 : 0 < rmN x y := Nat.mul_pos (by omega) (Nat.two_pow_pos _)
  have lM := limbs_short A 100 (by omega) _ m1
  have lN := limbs_short A 100 (by omega) _ m2
  have OV := hid (fun a0 a1 c0 c1 w h0 h1 => over_any a0 a1 c0 c1 (rmM x y) (rmN x y) w h0 h1 (by omega) hN0)
  have hr := Nat.mod_lt (rmM x y) hN0
  have hR : rmR x y = sg (remS (negB x) (rmM x y) (rmN x y)) (remN (rmM x y) (rmN x y) : Int) := rfl
  unfold remS remN remB at hR
  have AS := hid (and_sign x hx.1 hx.2)
  have hsh : x / 9223372036854775808 = (if negB x = true then 1 else 0) := by
    unfold negB
    by_cases h : 9223372036854775808 ≤ x
    · rw [decide_eq_true h, if_pos rfl]; omega
    · rw [decide_eq_false h, if_neg (by simp)]; omega
  obtain ⟨M, hM⟩ : ∃ M, M = rmM x y := ⟨_, rfl⟩
  obtain ⟨N, hN⟩ : ∃ N, N = rmN x y := ⟨_, rfl⟩
  obtain ⟨q, hq⟩ : ∃ q, q = M / N := ⟨_, rfl⟩
  obtain ⟨r, hrr⟩ : ∃ r, r = M % N := ⟨_, rfl⟩
  rw [← hM, ← hN] at OV AL hR hr
  rw [← hM] at lM
  rw [← hN] at lN
  rw [← hq, ← hrr] at OV hR
  rw [← hrr] at hr
  obtain ⟨s, hs⟩ : ∃ s, s = negB x := ⟨_, rfl⟩
  rw [← hs] at hR AS hsh ⊢
  have HTR := hid (show (N < r * 2 ∨ (r * 2 = N ∧ q % 2 = 1)) → rmR x y = sg (!s) ((N - r : Nat) : Int) ∧ 0 < N - r from fun h => by
    rw [hR, decide_eq_true h]; exact ⟨rfl, by omega⟩)
  have HFR := hid (show ¬ (N < r * 2 ∨ (r * 2 = N ∧ q % 2 = 1)) → rmR x y = sg s (r : Int) from fun h => by
    rw [hR, decide_eq_false h]; rfl)
  have lr : (limbs r).length ≤ 100 := by have := digs_len_mono 4294967296 (by omega) (show r ≤ N by omega); unfold limbs at *; omega
  have LE := hid (show ∀ a c w, Ns .u32 w a c (limbs r) → Calls Tryd.prog 132 #[.slice a (limbs r).length c, .int .i64 1] w fun e w' => RetN w (r * 2) e w' from fun a c w h => by
    have h9 := leftN_any a c r 1 w h (by omega) (by omega)
    rw [Nat.pow_one] at h9; exact h9)
  have CP := hid (fun a b c d w h0 h1 => compare_any a b c d (r * 2) N w h0 h1)
  have MI := hid (fun a b c d w h0 h1 => minus_any a b c d N r w h0 h1 (by omega) (by omega))
  have LO := hid (limbs_odd q)
  have NU := hid (show ∀ (b : Bool) (k : Nat), k ≤ N → ∀ v w, VD w (nrm (sg b (k : Int)) (rmE x y)) v → Calls Tryd.prog 126 #[v, .int .i64 0] w (RetX w (rX (nrm (sg b (k : Int)) (rmE x y)) 0) (rC (nrm (sg b (k : Int)) (rmE x y)) 0)) from fun b k hk v w h => by
    obtain ⟨k1, k2⟩ := nrm_bd (sg b (k : Int)) (rmE x y) A (by rw [sg_abs, Int.natAbs_natCast]; rw [← hN] at m2; omega)
    have lk := limbs_short A 100 (by omega) _ k1
    exact numberD_any v _ 0 w h (by omega) ⟨by rcases k2 with k2 | k2 <;> omega, by rcases k2 with k2 | k2 <;> omega⟩ (nrm_isN _ _))
  have NO := hid (show ∀ (b : Bool) (k : Nat), k ≤ N → ∀ a c w, Ns .u32 w a c (limbs k) → Tab 0 w → Calls Tryd.prog 99 #[.bool b, .slice a (limbs k).length c, .int .i64 (rmE x y)] w (RetVD w (nrm (sg b (k : Int)) (rmE x y))) from fun b k hk a c w h t => by
    have lk : (limbs k).length ≤ 100 := by have := digs_len_mono 4294967296 (by omega) hk; unfold limbs at *; omega
    exact normD_any b a c k (rmE x y) w h (by omega) ⟨by omega, by omega⟩ t)
  have HT := hid hT
  have hrN := hr
  have lqx : (limbs q).length ≤ 1000000000 ∨ True := .inr trivial
  generalize rmE x y = E at *
  generalize rmR x y = R at *
  generalize classOf x = a at *
  generalize classOf y = b at *
  generalize absD (fv x) = DX at *
  generalize absD (fv y) = DY at *
  generalize absOf x = xa at *
  generalize absOf y = ya at *
  obtain ⟨hx0, hx1⟩ := hx
  obtain ⟨hy0, hy1⟩ := hy
  clear hT bx by2 b1 b2 b3 d1 d2 d3 lx ly eax eay emn hA m1 m2 m3 m4 hfx hfy hN0 lM lN hr hR hM hN hq hrr hs cx dx cy dy lqx lr
  obtain ⟨F, hF⟩ : ∃ F, F = (if R = 0 then sgb s else rX (nrm R E) 0) := ⟨_, rfl⟩
  rw [← hF]
  have HF := hid hF
  clear hF
  go_enter Tryd.func77, Tryd.ntmps77
  go_upto_region 8 with (first
    | (go_at_call 131; (with_reducible refine (CX.out _).mono ?_); rintro en w1 ⟨rfl, rfl⟩)
    | (go_at_call 131; (with_reducible refine (CY.out _).mono ?_); rintro en w1 ⟨rfl, rfl⟩)
    | (go_at_call 115; (with_reducible refine (AX.out _).mono ?_); rintro en w1 ⟨rfl, rfl⟩)
    | (go_at_call 115; (with_reducible refine (AY.out _).mono ?_); rintro en w1 ⟨rfl, rfl⟩)
    | (go_at_call 96; (with_reducible refine (VX.out _ HT.out).mono ?_); rintro en w2 ⟨v2, rfl, hv2, hb2⟩)
    | (go_at_call 96; (with_reducible refine (VY.out _ (HT.out.below hb2)).mono ?_); rintro en w3 ⟨v3, rfl, hv3, hb3⟩)
    | (go_at_call 140; (with_reducible refine (AL.out _ _ _ (hv2.below hb3) hv3).mono ?_); rintro en w4 ⟨mo, mc, no, nc, rfl, hM4, hN4, hb4⟩)
    | (go_at_call 141; (with_reducible refine (OV.out _ _ _ _ _ hM4 hN4).mono ?_); rintro en w5 ⟨qo, qc, ro, rc, rfl, hq5, hr5, hb5⟩))
  have hN5 := hN4.below hb5
  have yb := below_trans (below_trans (below_trans hb2 hb3) hb4) hb5
  clear hb2 hb3 hb4 hb5 hv2 hv3 hM4 hN4 VX VY AX AY AL OV CX CY n0 n1 i0 i1 z0 z1
  have hqcap := hq5.1
  have hqmax := hq5.2.1
  have hrcap := hr5.1
  have hrmax := hr5.2.1
  unfold maxLen at hqmax hrmax
  have HN5 := hid hN5
  have HR5 := hid hr5
  have HQ5 := hid hq5
  clear hN5 hr5 hq5
  go_upto_region 9 with fail
  rw [show ((if s = true then (1 : Int) else 0) == 1) = s from by cases s <;> rfl]
  clear hsh
  cases s
  · have g1' := cmpI_gt ((r * 2 : Nat) : Int) (N : Int)
    have g2' := cmpI_eq_zero ((r * 2 : Nat) : Int) (N : Int)
    obtain ⟨c, hc⟩ : ∃ c, c = cmpI ((r * 2 : Nat) : Int) (N : Int) := ⟨_, rfl⟩
    rw [← hc] at g1' g2' CP
    have G12 := hid (And.intro g1' g2')
    clear hc g1' g2'
    go_upto_region 10 with (first
      | (go_at_call 132; (with_reducible refine (LE.out _ _ _ HR5.out).mono ?_); rintro en w6 ⟨a6, rfl, hN6, hb6⟩)
      | (go_at_call 142; (with_reducible refine (CP.out _ _ _ _ _ hN6 (HN5.out.below hb6)).mono ?_); rintro en w7 ⟨rfl, nq, rfl⟩))
    have yb6 := below_trans yb (below_drewN hb6 nq)
    have hbd := below_drewN hb6 nq
    have HN6 := hid (HN5.out.below hbd)
    have HR6 := hid (HR5.out.below hbd)
    have HQ6 := hid (HQ5.out.below hbd)
    clear hN6 HN5 HR5 HQ5 LE CP yb hb6 hbd
    have g1 := G12.out.1
    have g2 := G12.out.2
    have hlq : (limbs q).length = 0 → q = 0 := fun h => (limbs_nil q).1 (List.length_eq_zero_iff.1 h)
    by_cases c1 : 0 < c
    · have hBt : N < r * 2 ∨ (r * 2 = N ∧ q % 2 = 1) := .inl (by have := g1.1 c1; omega)
      clear g1 g2 hlq
      obtain ⟨hR9, hp9⟩ := HTR.out hBt
      have HR9 := hid hR9
      have NO9 := hid (fun b => NO.out b (N - r) (by omega))
      have NU9 := hid (fun b => NU.out b (N - r) (by omega))
      have hl9 : 0 < (limbs (N - r)).length := by
        rcases Nat.eq_zero_or_pos (limbs (N - r)).length with h | h
        · have := (limbs_nil (N - r)).1 (List.length_eq_zero_iff.1 h); omega
        · exact h
      have hb9z : (((limbs (N - r)).length : Int) == 0) = false := beq_eq_false_iff_ne.2 (by omega)
      generalize N - r = k9 at *
      clear HTR HFR hBt hR9 LO NO NU
      go_wp2_with (first
        | (go_at_call 143; (with_reducible refine (MI.out _ _ _ _ _ HN6.out HR6.out).mono ?_); rintro en w8 ⟨a8, rfl, hN8, hb8⟩)
        | (go_at_call 99; (with_reducible refine (NO9.out _ _ _ _ hN8 (HT.out.below (below_trans yb6 hb8))).mono ?_); rintro en w9 ⟨v9, rfl, hv9, hb9⟩)
        | (go_at_call 126; (with_reducible refine (NU9.out _ _ _ hv9).mono ?_); rintro en w10 ⟨rfl, hb10⟩))
      go_ret
      refine ⟨ret_int ?_, below_trans (below_trans (below_trans yb6 hb8) hb9) hb10⟩
      rw [HF.out, HR9.out, if_neg (by first | (show ¬ (k9 : Int) = 0; omega) | (show ¬ -(k9 : Int) = 0; omega))]
      try rfl
    · by_cases c2 : c = 0
      · have heq : r * 2 = N := by have := g2.1 c2; omega
        by_cases hl : (limbs q).length = 0
        · have hBf : ¬ (N < r * 2 ∨ (r * 2 = N ∧ q % 2 = 1)) := by have := hlq hl; omega
          subst c2
          rw [hl]
          clear g1 g2 hlq c1 hl heq
          have HR9 := hid (HFR.out hBf)
          by_cases hr0 : r = 0
          · have hl0 : (limbs r).length = 0 := by rw [hr0, limbs_zero]; rfl
            have HR0 := hid (show R = 0 by rw [HR9.out, hr0]; rfl)
            rw [hl0]
            clear HTR HFR hBf LO NO NU hr0 hl0
            go_wp2_with fail
            go_ret
            exact ⟨ret_int (by rw [HF.out, if_pos HR0.out]; exact AS.out), yb6⟩
          · have NO9 := hid (fun b => NO.out b r (by omega))
            have NU9 := hid (fun b => NU.out b r (by omega))
            have hl9 : 0 < (limbs r).length := by
              rcases Nat.eq_zero_or_pos (limbs r).length with h | h
              · exact absurd ((limbs_nil r).1 (List.length_eq_zero_iff.1 h)) hr0
              · exact h
            have hb9z : (((limbs r).length : Int) == 0) = false := beq_eq_false_iff_ne.2 (by omega)
            have HR0 := hid (show R ≠ 0 by rw [HR9.out]; first | (show (r : Int) ≠ 0; omega) | (show -(r : Int) ≠ 0; omega))
            clear HTR HFR hBf LO NO NU hr0
            go_wp2_with (first
              | (go_at_call 99; (with_reducible refine (NO9.out _ _ _ _ HR6.out (HT.out.below yb6)).mono ?_); rintro en w9 ⟨v9, rfl, hv9, hb9⟩)
              | (go_at_call 126; (with_reducible refine (NU9.out _ _ _ hv9).mono ?_); rintro en w10 ⟨rfl, hb10⟩))
            go_ret
            refine ⟨ret_int ?_, below_trans (below_trans yb6 hb9) hb10⟩
            rw [HF.out, if_neg HR0.out, HR9.out]
        · obtain ⟨b0, o0, e0, hc0⟩ := HQ6.out.2.2 (by omega)
          subst e0
          have k0 := hc0 0 (by omega)
          have hodd := LO.out (by omega)
          obtain ⟨d, hd⟩ : ∃ d, d = (limbs q).getD 0 0 := ⟨_, rfl⟩
          unfold lb at k0
          rw [← hd, Nat.add_zero] at k0
          rw [← hd] at hodd
          have hlp : 0 < (limbs q).length := by omega
          by_cases ho : q % 2 = 1
          · have hBt : N < r * 2 ∨ (r * 2 = N ∧ q % 2 = 1) := .inr ⟨heq, ho⟩
            have hdo : (d : Int) % 2 = 1 := by omega
            subst c2
            clear g1 g2 hlq c1 hl heq hc0 hodd hd ho
            obtain ⟨hR9, hp9⟩ := HTR.out hBt
            have HR9 := hid hR9
            have NO9 := hid (fun b => NO.out b (N - r) (by omega))
            have NU9 := hid (fun b => NU.out b (N - r) (by omega))
            have hl9 : 0 < (limbs (N - r)).length := by
              rcases Nat.eq_zero_or_pos (limbs (N - r)).length with h | h
              · have := (limbs_nil (N - r)).1 (List.length_eq_zero_iff.1 h); omega
              · exact h
            have hb9z : (((limbs (N - r)).length : Int) == 0) = false := beq_eq_false_iff_ne.2 (by omega)
            generalize N - r = k9 at *
            clear HTR HFR hBt hR9 LO NO NU
            go_wp2_with (first
              | (go_at_call 143; (with_reducible refine (MI.out _ _ _ _ _ HN6.out HR6.out).mono ?_); rintro en w8 ⟨a8, rfl, hN8, hb8⟩)
              | (go_at_call 99; (with_reducible refine (NO9.out _ _ _ _ hN8 (HT.out.below (below_trans yb6 hb8))).mono ?_); rintro en w9 ⟨v9, rfl, hv9, hb9⟩)
              | (go_at_call 126; (with_reducible refine (NU9.out _ _ _ hv9).mono ?_); rintro en w10 ⟨rfl, hb10⟩))
            go_ret
            refine ⟨ret_int ?_, below_trans (below_trans (below_trans yb6 hb8) hb9) hb10⟩
            rw [HF.out, HR9.out, if_neg (by first | (show ¬ (k9 : Int) = 0; omega) | (show ¬ -(k9 : Int) = 0; omega))]
            try rfl
          · have hBf : ¬ (N < r * 2 ∨ (r * 2 = N ∧ q % 2 = 1)) := by omega
            have hdo : (d : Int) % 2 = 0 := by omega
            subst c2
            clear g1 g2 hlq c1 hl heq hc0 hodd hd ho
            have HR9 := hid (HFR.out hBf)
            by_cases hr0 : r = 0
            · have hl0 : (limbs r).length = 0 := by rw [hr0, limbs_zero]; rfl
              have HR0 := hid (show R = 0 by rw [HR9.out, hr0]; rfl)
              rw [hl0]
              clear HTR HFR hBf LO NO NU hr0 hl0
              go_wp2_with fail
              go_ret
              exact ⟨ret_int (by rw [HF.out, if_pos HR0.out]; exact AS.out), yb6⟩
            · have NO9 := hid (fun b => NO.out b r (by omega))
              have NU9 := hid (fun b => NU.out b r (by omega))
              have hl9 : 0 < (limbs r).length := by
                rcases Nat.eq_zero_or_pos (limbs r).length with h | h
                · exact absurd ((limbs_nil r).1 (List.length_eq_zero_iff.1 h)) hr0
                · exact h
              have hb9z : (((limbs r).length : Int) == 0) = false := beq_eq_false_iff_ne.2 (by omega)
              have HR0 := hid (show R ≠ 0 by rw [HR9.out]; first | (show (r : Int) ≠ 0; omega) | (show -(r : Int) ≠ 0; omega))
              clear HTR HFR hBf LO NO NU hr0
              go_wp2_with (first
                | (go_at_call 99; (with_reducible refine (NO9.out _ _ _ _ HR6.out (HT.out.below yb6)).mono ?_); rintro en w9 ⟨v9, rfl, hv9, hb9⟩)
                | (go_at_call 126; (with_reducible refine (NU9.out _ _ _ hv9).mono ?_); rintro en w10 ⟨rfl, hb10⟩))
              go_ret
              refine ⟨ret_int ?_, below_trans (below_trans yb6 hb9) hb10⟩
              rw [HF.out, if_neg HR0.out, HR9.out]
      · have hBf : ¬ (N < r * 2 ∨ (r * 2 = N ∧ q % 2 = 1)) := by
          intro h
          rcases h with h | h
          · exact c1 (g1.2 (by omega))
          · exact c2 (g2.2 (by omega))
        have c3 : (c == 0) = false := beq_eq_false_iff_ne.2 c2
        clear g1 g2 hlq c2
        have HR9 := hid (HFR.out hBf)
        by_cases hr0 : r = 0
        · have hl0 : (limbs r).length = 0 := by rw [hr0, limbs_zero]; rfl
          have HR0 := hid (show R = 0 by rw [HR9.out, hr0]; rfl)
          rw [hl0]
          clear HTR HFR hBf LO NO NU hr0 hl0
          go_wp2_with fail
          go_ret
          exact ⟨ret_int (by rw [HF.out, if_pos HR0.out]; exact AS.out), yb6⟩
        · have NO9 := hid (fun b => NO.out b r (by omega))
          have NU9 := hid (fun b => NU.out b r (by omega))
          have hl9 : 0 < (limbs r).length := by
            rcases Nat.eq_zero_or_pos (limbs r).length with h | h
            · exact absurd ((limbs_nil r).1 (List.length_eq_zero_iff.1 h)) hr0
            · exact h
          have hb9z : (((limbs r).length : Int) == 0) = false := beq_eq_false_iff_ne.2 (by omega)
          have HR0 := hid (show R ≠ 0 by rw [HR9.out]; first | (show (r : Int) ≠ 0; omega) | (show -(r : Int) ≠ 0; omega))
          clear HTR HFR hBf LO NO NU hr0
          go_wp2_with (first
            | (go_at_call 99; (with_reducible refine (NO9.out _ _ _ _ HR6.out (HT.out.below yb6)).mono ?_); rintro en w9 ⟨v9, rfl, hv9, hb9⟩)
            | (go_at_call 126; (with_reducible refine (NU9.out _ _ _ hv9).mono ?_); rintro en w10 ⟨rfl, hb10⟩))
          go_ret
          refine ⟨ret_int ?_, below_trans (below_trans yb6 hb9) hb10⟩
          rw [HF.out, if_neg HR0.out, HR9.out]
  · have g1' := cmpI_gt ((r * 2 : Nat) : Int) (N : Int)
    have g2' := cmpI_eq_zero ((r * 2 : Nat) : Int) (N : Int)
    obtain ⟨c, hc⟩ : ∃ c, c = cmpI ((r * 2 : Nat) : Int) (N : Int) := ⟨_, rfl⟩
    rw [← hc] at g1' g2' CP
    have G12 := hid (And.intro g1' g2')
    clear hc g1' g2'
    go_upto_region 10 with (first
      | (go_at_call 132; (with_reducible refine (LE.out _ _ _ HR5.out).mono ?_); rintro en w6 ⟨a6, rfl, hN6, hb6⟩)
      | (go_at_call 142; (with_reducible refine (CP.out _ _ _ _ _ hN6 (HN5.out.below hb6)).mono ?_); rintro en w7 ⟨rfl, nq, rfl⟩))
    have yb6 := below_trans yb (below_drewN hb6 nq)
    have hbd := below_drewN hb6 nq
    have HN6 := hid (HN5.out.below hbd)
    have HR6 := hid (HR5.out.below hbd)
    have HQ6 := hid (HQ5.out.below hbd)
    clear hN6 HN5 HR5 HQ5 LE CP yb hb6 hbd
    have g1 := G12.out.1
    have g2 := G12.out.2
    have hlq : (limbs q).length = 0 → q = 0 := fun h => (limbs_nil q).1 (List.length_eq_zero_iff.1 h)
    by_cases c1 : 0 < c
    · have hBt : N < r * 2 ∨ (r * 2 = N ∧ q % 2 = 1) := .inl (by have := g1.1 c1; omega)
      clear g1 g2 hlq
      obtain ⟨hR9, hp9⟩ := HTR.out hBt
      have HR9 := hid hR9
      have NO9 := hid (fun b => NO.out b (N - r) (by omega))
      have NU9 := hid (fun b => NU.out b (N - r) (by omega))
      have hl9 : 0 < (limbs (N - r)).length := by
        rcases Nat.eq_zero_or_pos (limbs (N - r)).length with h | h
        · have := (limbs_nil (N - r)).1 (List.length_eq_zero_iff.1 h); omega
        · exact h
      have hb9z : (((limbs (N - r)).length : Int) == 0) = false := beq_eq_false_iff_ne.2 (by omega)
      generalize N - r = k9 at *
      clear HTR HFR hBt hR9 LO NO NU
      go_wp2_with (first
        | (go_at_call 143; (with_reducible refine (MI.out _ _ _ _ _ HN6.out HR6.out).mono ?_); rintro en w8 ⟨a8, rfl, hN8, hb8⟩)
        | (go_at_call 99; (with_reducible refine (NO9.out _ _ _ _ hN8 (HT.out.below (below_trans yb6 hb8))).mono ?_); rintro en w9 ⟨v9, rfl, hv9, hb9⟩)
        | (go_at_call 126; (with_reducible refine (NU9.out _ _ _ hv9).mono ?_); rintro en w10 ⟨rfl, hb10⟩))
      go_ret
      refine ⟨ret_int ?_, below_trans (below_trans (below_trans yb6 hb8) hb9) hb10⟩
      rw [HF.out, HR9.out, if_neg (by first | (show ¬ (k9 : Int) = 0; omega) | (show ¬ -(k9 : Int) = 0; omega))]
      try rfl
    · by_cases c2 : c = 0
      · have heq : r * 2 = N := by have := g2.1 c2; omega
        by_cases hl : (limbs q).length = 0
        · have hBf : ¬ (N < r * 2 ∨ (r * 2 = N ∧ q % 2 = 1)) := by have := hlq hl; omega
          subst c2
          rw [hl]
          clear g1 g2 hlq c1 hl heq
          have HR9 := hid (HFR.out hBf)
          by_cases hr0 : r = 0
          · have hl0 : (limbs r).length = 0 := by rw [hr0, limbs_zero]; rfl
            have HR0 := hid (show R = 0 by rw [HR9.out, hr0]; rfl)
            rw [hl0]
            clear HTR HFR hBf LO NO NU hr0 hl0
            go_wp2_with fail
            go_ret
            exact ⟨ret_int (by rw [HF.out, if_pos HR0.out]; exact AS.out), yb6⟩
          · have NO9 := hid (fun b => NO.out b r (by omega))
            have NU9 := hid (fun b => NU.out b r (by omega))
            have hl9 : 0 < (limbs r).length := by
              rcases Nat.eq_zero_or_pos (limbs r).length with h | h
              · exact absurd ((limbs_nil r).1 (List.length_eq_zero_iff.1 h)) hr0
              · exact h
            have hb9z : (((limbs r).length : Int) == 0) = false := beq_eq_false_iff_ne.2 (by omega)
            have HR0 := hid (show R ≠ 0 by rw [HR9.out]; first | (show (r : Int) ≠ 0; omega) | (show -(r : Int) ≠ 0; omega))
            clear HTR HFR hBf LO NO NU hr0
            go_wp2_with (first
              | (go_at_call 99; (with_reducible refine (NO9.out _ _ _ _ HR6.out (HT.out.below yb6)).mono ?_); rintro en w9 ⟨v9, rfl, hv9, hb9⟩)
              | (go_at_call 126; (with_reducible refine (NU9.out _ _ _ hv9).mono ?_); rintro en w10 ⟨rfl, hb10⟩))
            go_ret
            refine ⟨ret_int ?_, below_trans (below_trans yb6 hb9) hb10⟩
            rw [HF.out, if_neg HR0.out, HR9.out]
        · obtain ⟨b0, o0, e0, hc0⟩ := HQ6.out.2.2 (by omega)
          subst e0
          have k0 := hc0 0 (by omega)
          have hodd := LO.out (by omega)
          obtain ⟨d, hd⟩ : ∃ d, d = (limbs q).getD 0 0 := ⟨_, rfl⟩
          unfold lb at k0
          rw [← hd, Nat.add_zero] at k0
          rw [← hd] at hodd
          have hlp : 0 < (limbs q).length := by omega
          by_cases ho : q % 2 = 1
          · have hBt : N < r * 2 ∨ (r * 2 = N ∧ q % 2 = 1) := .inr ⟨heq, ho⟩
            have hdo : (d : Int) % 2 = 1 := by omega
            subst c2
            clear g1 g2 hlq c1 hl heq hc0 hodd hd ho
            obtain ⟨hR9, hp9⟩ := HTR.out hBt
            have HR9 := hid hR9
            have NO9 := hid (fun b => NO.out b (N - r) (by omega))
            have NU9 := hid (fun b => NU.out b (N - r) (by omega))
            have hl9 : 0 < (limbs (N - r)).length := by
              rcases Nat.eq_zero_or_pos (limbs (N - r)).length with h | h
              · have := (limbs_nil (N - r)).1 (List.length_eq_zero_iff.1 h); omega
              · exact h
            have hb9z : (((limbs (N - r)).length : Int) == 0) = false := beq_eq_false_iff_ne.2 (by omega)
            generalize N - r = k9 at *
            clear HTR HFR hBt hR9 LO NO NU
            go_wp2_with (first
              | (go_at_call 143; (with_reducible refine (MI.out _ _ _ _ _ HN6.out HR6.out).mono ?_); rintro en w8 ⟨a8, rfl, hN8, hb8⟩)
              | (go_at_call 99; (with_reducible refine (NO9.out _ _ _ _ hN8 (HT.out.below (below_trans yb6 hb8))).mono ?_); rintro en w9 ⟨v9, rfl, hv9, hb9⟩)
              | (go_at_call 126; (with_reducible refine (NU9.out _ _ _ hv9).mono ?_); rintro en w10 ⟨rfl, hb10⟩))
            go_ret
            refine ⟨ret_int ?_, below_trans (below_trans (below_trans yb6 hb8) hb9) hb10⟩
            rw [HF.out, HR9.out, if_neg (by first | (show ¬ (k9 : Int) = 0; omega) | (show ¬ -(k9 : Int) = 0; omega))]
            try rfl
          · have hBf : ¬ (N < r * 2 ∨ (r * 2 = N ∧ q % 2 = 1)) := by omega
            have hdo : (d : Int) % 2 = 0 := by omega
            subst c2
            clear g1 g2 hlq c1 hl heq hc0 hodd hd ho
            have HR9 := hid (HFR.out hBf)
            by_cases hr0 : r = 0
            · have hl0 : (limbs r).length = 0 := by rw [hr0, limbs_zero]; rfl
              have HR0 := hid (show R = 0 by rw [HR9.out, hr0]; rfl)
              rw [hl0]
              clear HTR HFR hBf LO NO NU hr0 hl0
              go_wp2_with fail
              go_ret
              exact ⟨ret_int (by rw [HF.out, if_pos HR0.out]; exact AS.out), yb6⟩
            · have NO9 := hid (fun b => NO.out b r (by omega))
              have NU9 := hid (fun b => NU.out b r (by omega))
              have hl9 : 0 < (limbs r).length := by
                rcases Nat.eq_zero_or_pos (limbs r).length with h | h
                · exact absurd ((limbs_nil r).1 (List.length_eq_zero_iff.1 h)) hr0
                · exact h
              have hb9z : (((limbs r).length : Int) == 0) = false := beq_eq_false_iff_ne.2 (by omega)
              have HR0 := hid (show R ≠ 0 by rw [HR9.out]; first | (show (r : Int) ≠ 0; omega) | (show -(r : Int) ≠ 0; omega))
              clear HTR HFR hBf LO NO NU hr0
              go_wp2_with (first
                | (go_at_call 99; (with_reducible refine (NO9.out _ _ _ _ HR6.out (HT.out.below yb6)).mono ?_); rintro en w9 ⟨v9, rfl, hv9, hb9⟩)
                | (go_at_call 126; (with_reducible refine (NU9.out _ _ _ hv9).mono ?_); rintro en w10 ⟨rfl, hb10⟩))
              go_ret
              refine ⟨ret_int ?_, below_trans (below_trans yb6 hb9) hb10⟩
              rw [HF.out, if_neg HR0.out, HR9.out]
      · have hBf : ¬ (N < r * 2 ∨ (r * 2 = N ∧ q % 2 = 1)) := by
          intro h
          rcases h with h | h
          · exact c1 (g1.2 (by omega))
          · exact c2 (g2.2 (by omega))
        have c3 : (c == 0) = false := beq_eq_false_iff_ne.2 c2
        clear g1 g2 hlq c2
        have HR9 := hid (HFR.out hBf)
        by_cases hr0 : r = 0
        · have hl0 : (limbs r).length = 0 := by rw [hr0, limbs_zero]; rfl
          have HR0 := hid (show R = 0 by rw [HR9.out, hr0]; rfl)
          rw [hl0]
          clear HTR HFR hBf LO NO NU hr0 hl0
          go_wp2_with fail
          go_ret
          exact ⟨ret_int (by rw [HF.out, if_pos HR0.out]; exact AS.out), yb6⟩
        · have NO9 := hid (fun b => NO.out b r (by omega))
          have NU9 := hid (fun b => NU.out b r (by omega))
          have hl9 : 0 < (limbs r).length := by
            rcases Nat.eq_zero_or_pos (limbs r).length with h | h
            · exact absurd ((limbs_nil r).1 (List.length_eq_zero_iff.1 h)) hr0
            · exact h
          have hb9z : (((limbs r).length : Int) == 0) = false := beq_eq_false_iff_ne.2 (by omega)
          have HR0 := hid (show R ≠ 0 by rw [HR9.out]; first | (show (r : Int) ≠ 0; omega) | (show -(r : Int) ≠ 0; omega))
          clear HTR HFR hBf LO NO NU hr0
          go_wp2_with (first
            | (go_at_call 99; (with_reducible refine (NO9.out _ _ _ _ HR6.out (HT.out.below yb6)).mono ?_); rintro en w9 ⟨v9, rfl, hv9, hb9⟩)
            | (go_at_call 126; (with_reducible refine (NU9.out _ _ _ hv9).mono ?_); rintro en w10 ⟨rfl, hb10⟩))
          go_ret
          refine ⟨ret_int ?_, below_trans (below_trans yb6 hb9) hb10⟩
          rw [HF.out, if_neg HR0.out, HR9.out]
end Go.Proofs.YteaakbeemhmciaaDoor
