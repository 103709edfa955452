/- prod.Mul and what is to be told of a product. -/
import Derived.Test.YthaelmnblgollaaGreatDoorPr0
set_option linter.unusedVariables false
set_option linter.unusedSimpArgs false
namespace Go.Ulp
open Go.RowKit
/-- the bounds of a sum, of what lies on one level -/
theorem addD_gen (A B : Nat) (lo : Int) (hlo : lo ≤ 0) (hB : -lo ≤ B) (D E : Dy) (hD : D.1.natAbs < 2 ^ A ∧ lo ≤ D.2 ∧ D.2 ≤ lo + B) (hE : E.1.natAbs < 2 ^ A ∧ lo ≤ E.2 ∧ E.2 ≤ lo + B) :
    (addD D E).1.natAbs < 2 ^ (A + B + 1) ∧ lo ≤ (addD D E).2 ∧ (addD D E).2 ≤ lo + B + (A + B + 1) := by
  have hm : lo ≤ min D.2 E.2 ∧ min D.2 E.2 ≤ lo + B := by omega
  have h1 : (sc D.1 D.2 (min D.2 E.2)).natAbs < 2 ^ (A + B) := by
    unfold sc
    exact abs_weak (abs_mul_pw_lt hD.1) (by omega)
  have h2 : (sc E.1 E.2 (min D.2 E.2)).natAbs < 2 ^ (A + B) := by
    unfold sc
    exact abs_weak (abs_mul_pw_lt hE.1) (by omega)
  obtain ⟨k1, k2⟩ := nrm_bd (sc D.1 D.2 (min D.2 E.2) + sc E.1 E.2 (min D.2 E.2)) (min D.2 E.2) (A + B + 1) (abs_add_lt h1 h2)
  refine ⟨k1, ?_, ?_⟩
  · show lo ≤ (nrm _ _).2; rcases k2 with k | k <;> omega
  · show (nrm _ _).2 ≤ lo + B + (A + B + 1); rcases k2 with k | k <;> omega
theorem mulD_fv (x y : Int) (hx : 0 ≤ x ∧ x < 18446744073709551616) (hy : 0 ≤ y ∧ y < 18446744073709551616) : (mulD (fv x) (fv y)).1.natAbs < 2 ^ 106 ∧ -2148 ≤ (mulD (fv x) (fv y)).2 ∧ (mulD (fv x) (fv y)).2 ≤ 2154 := by
  obtain ⟨-, a1, a2, a3⟩ := fv_bd x hx.1 hx.2
  obtain ⟨-, b1, b2, b3⟩ := fv_bd y hy.1 hy.2
  have h1 : ((fv x).1 * (fv y).1).natAbs < 2 ^ (53 + 53) := abs_mul_lt a1 b1
  obtain ⟨k1, k2⟩ := nrm_bd ((fv x).1 * (fv y).1) ((fv x).2 + (fv y).2) (53 + 53) h1
  refine ⟨k1, ?_, ?_⟩
  · show -2148 ≤ (nrm _ _).2; rcases k2 with k | k <;> omega
  · show (nrm _ _).2 ≤ 2154; rcases k2 with k | k <;> omega
theorem VD.mk {w : World} {D : Dy} {am : Option Addr} {cm : Nat} (h : Ns .u32 w am cm (limbs D.1.natAbs)) : VD w D (.agg #[.bool (decide (D.1 < 0)), .slice am (limbs D.1.natAbs).length cm, .int .i64 D.2]) := ⟨am, cm, rfl, h⟩
theorem inf_not_zer {x : Int} (h : isInf x = true) : isZer x = false := by
  unfold isInf at h
  unfold isZer
  rw [beq_iff_eq] at h
  rw [h]; rfl
theorem limbs_short (A n : Nat) (hn : A ≤ 32 * n) (M : Nat) (h : M < 2 ^ A) : (limbs M).length ≤ n :=
  (limbs_le_bits M n).2 (Nat.lt_of_lt_of_le h (Nat.pow_le_pow_right (by omega) hn))
end Go.Ulp
namespace Go.Proofs.YthaelmnblgollaaGreatDoor
open Go.RowKit Go.Ulp
set_option linter.unusedVariables false
set_option linter.unusedSimpArgs false
set_option maxHeartbeats 2000000
set_option maxRecDepth 100000
theorem exact_any (x y : Int) (hx : 0 ≤ x ∧ x < 18446744073709551616) (hy : 0 ≤ y ∧ y < 18446744073709551616) (w : World) (hT : Tab 0 w) :
    Calls Tryz.prog 177 #[.int .u64 x, .int .u64 y] w (RetVD w (mulD (fv x) (fv y))) := by
  have VX := hid (fun w t => value_any x hx.1 hx.2 w t)
  have VY := hid (fun w t => value_any y hy.1 hy.2 w t)
  have HT := hid hT
  obtain ⟨-, bx1, bx2, bx3⟩ := fv_bd x hx.1 hx.2
  obtain ⟨-, by1, by2, by3⟩ := fv_bd y hy.1 hy.2
  have lx := limbs_short 53 2 (by omega) _ bx1
  have ly := limbs_short 53 2 (by omega) _ by1
  have TI := hid (fun v u w h0 h1 t => timesD_any v u (fv x) (fv y) w h0 h1 (by omega) (by omega) ⟨by omega, by omega⟩ ⟨by omega, by omega⟩ t)
  have yb0 := below_alloc w (.cells #[.bool false, .slice none 0 0, .int .i64 0] 26)
  have zR0 : QL 26 (w.alloc (.cells #[.bool false, .slice none 0 0, .int .i64 0] 26)) w.heap.size false (.slice none 0 0) 0 := QL.made rfl
  generalize mulD (fv x) (fv y) = R at *
  generalize fv x = X at *
  generalize fv y = Y at *
  obtain ⟨x0, x1⟩ := hx
  obtain ⟨y0, y1⟩ := hy
  clear hT bx1 bx2 bx3 by1 by2 by3 lx ly
  go_enter Tryz.func177, Tryz.ntmps177
  go_wp2_with (first
    | (go_at_call 74; (with_reducible refine (VX.out _ (HT.out.below yb0)).mono ?_); rintro en w1 ⟨v1, rfl, hv1, hb1⟩; have yb1 := below_trans yb0 hb1)
    | (go_at_call 74; (with_reducible refine (VY.out _ (HT.out.below yb1)).mono ?_); rintro en w2 ⟨v2, rfl, hv2, hb2⟩; have yb2 := below_trans yb1 hb2)
    | (go_at_call 237; (with_reducible refine (TI.out _ _ _ (hv1.below hb2) hv2 (HT.out.below yb2)).mono ?_); rintro en w4 ⟨v4, rfl, ⟨a4, c4, rfl, hN4⟩, hb4⟩; have yb4 := below_trans yb2 hb4; have zR4 := ((zR0.below hb1).below hb2).below hb4; obtain ⟨⟨k0, k1, f0, f1, hs2⟩, k2, f2⟩ := id zR4))
  refine bodyPost_ret (by simp [results, Tryz.results177, go_sem, k0, k1, k2]; try rfl) rfl ?_
  exact ⟨_, rfl, ⟨a4, c4, rfl, hN4.set3 zR4 (by intro x h; cases h) _ _ _⟩, ((yb4.setCell (by first | omega | (simp; done) | (simp; omega)) _).setCell (by first | omega | (simp; done) | (simp; omega)) _).setCell (by first | omega | (simp; done) | (simp; omega)) _⟩
theorem prodMul_any (x y : Int) (hx : 0 ≤ x ∧ x < 18446744073709551616) (hy : 0 ≤ y ∧ y < 18446744073709551616) (mode : Int) (w : World) (hT : Tab 0 w) :
    Calls Tryz.prog 91 #[.int .u64 x, .int .u64 y, .int .i64 mode] w (RetX3 w (mdX mode (pX (kindP x y) (sgx x y) (mulD (fv x) (fv y)) mode)) (mdC mode (pC (kindP x y) (mulD (fv x) (fv y)) mode)) (mdE mode)) := by
  have KN := hid (fun w => known_any mode w)
  have SP := hid (fun w => special_any x y hx hy w)
  have SG := hid (fun w => pSign_any x y hx hy w)
  have EX := hid (fun w t => exact_any x y hx hy w t)
  have HT := hid hT
  have hk3 : kindP x y ≤ 3 := kP_le _ _ _ _ _ _
  have P2 := hid (fun h => prod_zero hx hy h)
  have P3 := hid (fun h => prod_some hx hy h)
  obtain ⟨b1, b2, b3⟩ := mulD_fv x y hx hy
  have l1 := limbs_short 106 4 (by omega) _ b1
  have NU := hid (fun v w h => numberD_any v (mulD (fv x) (fv y)) mode w h (by omega) ⟨by omega, by omega⟩ (nrm_isN _ _))
  generalize kindP x y = k at *
  generalize sgx x y = s at *
  generalize mulD (fv x) (fv y) = D at *
  obtain ⟨x0, x1⟩ := hx
  obtain ⟨y0, y1⟩ := hy
  clear hT b1 b2 b3 l1
  cases hk : knownB mode
  · obtain ⟨e1, e2, e3⟩ := md_no hk (pX k s D mode) (pC k D mode)
    rw [e1, e2, e3]
    rw [hk] at KN
    clear e1 e2 e3 hk
    go_enter Tryz.func91, Tryz.ntmps91
    go_wp2_with (go_at_call 106; (with_reducible refine (KN.out _).mono ?_); rintro en w1 ⟨rfl, rfl⟩)
    refine bodyPost_ret (by simp [results, Tryz.results91, go_sem]; try rfl) rfl ?_
    exact ⟨rfl, Below.refl _ _⟩
  · obtain ⟨e1, e2, e3⟩ := md_yes hk (pX k s D mode) (pC k D mode)
    rw [e1, e2, e3]
    rw [hk] at KN
    clear e1 e2 e3 hk
    obtain rfl | rfl | rfl | rfl : k = 0 ∨ k = 1 ∨ k = 2 ∨ k = 3 := by omega
    · rw [show pX 0 s D mode = 9221120237041090560 from rfl, show pC 0 D mode = false from rfl]
      rw [show spX 0 s = 9221120237041090560 from rfl, show decide (0 < 2) = true from rfl] at SP
      go_enter Tryz.func91, Tryz.ntmps91
      go_wp2_with (first
        | (go_at_call 106; (with_reducible refine (KN.out _).mono ?_); rintro en w1 ⟨rfl, rfl⟩)
        | (go_at_call 176; (with_reducible refine (SP.out _).mono ?_); rintro en w1 ⟨rfl, rfl⟩))
      refine bodyPost_ret (by simp [results, Tryz.results91, go_sem]; try rfl) rfl ?_
      exact ⟨rfl, Below.refl _ _⟩
    · rw [show pX 1 s D mode = infX s from rfl, show pC 1 D mode = false from rfl]
      rw [show spX 1 s = infX s from rfl, show decide (1 < 2) = true from rfl] at SP
      go_enter Tryz.func91, Tryz.ntmps91
      go_wp2_with (first
        | (go_at_call 106; (with_reducible refine (KN.out _).mono ?_); rintro en w1 ⟨rfl, rfl⟩)
        | (go_at_call 176; (with_reducible refine (SP.out _).mono ?_); rintro en w1 ⟨rfl, rfl⟩))
      refine bodyPost_ret (by simp [results, Tryz.results91, go_sem]; try rfl) rfl ?_
      exact ⟨rfl, Below.refl _ _⟩
    · rw [show pX 2 s D mode = sgb s from rfl, show pC 2 D mode = false from rfl]
      rw [show spX 2 s = 0 from rfl, show decide (2 < 2) = false from rfl] at SP
      have hl : (limbs D.1.natAbs).length = 0 := (dy_len D).2 (P2.out rfl)
      unfold RetVD VD at EX
      rw [hl] at EX
      clear hl P2 P3 NU
      go_enter Tryz.func91, Tryz.ntmps91
      go_wp2_with (first
        | (go_at_call 106; (with_reducible refine (KN.out _).mono ?_); rintro en w1 ⟨rfl, rfl⟩)
        | (go_at_call 176; (with_reducible refine (SP.out _).mono ?_); rintro en w1 ⟨rfl, rfl⟩)
        | (go_at_call 178; (with_reducible refine (SG.out _).mono ?_); rintro en w1 ⟨rfl, rfl⟩)
        | (go_at_call 177; (with_reducible refine (EX.out _ HT.out).mono ?_); rintro en w2 ⟨v2, rfl, ⟨a2, c2, rfl, hN2⟩, hb2⟩))
      refine bodyPost_ret (by simp [results, Tryz.results91, go_sem]; try rfl) rfl ?_
      exact ⟨rfl, below_trans hb2 (below_alloc _ _)⟩
    · rw [show pX 3 s D mode = rX D mode from rfl, show pC 3 D mode = rC D mode from rfl]
      rw [show spX 3 s = 0 from rfl, show decide (3 < 2) = false from rfl] at SP
      have hl : 0 < (limbs D.1.natAbs).length := by
        have h9 := (dy_len D).1
        have h8 := P3.out rfl
        rcases Nat.eq_zero_or_pos (limbs D.1.natAbs).length with h | h
        · exact absurd (h9 h) h8
        · exact h
      have hlb : (((limbs D.1.natAbs).length : Int) == 0) = false := beq_eq_false_iff_ne.2 (by omega)
      clear P2 P3
      go_enter Tryz.func91, Tryz.ntmps91
      go_wp2_with (first
        | (go_at_call 106; (with_reducible refine (KN.out _).mono ?_); rintro en w1 ⟨rfl, rfl⟩)
        | (go_at_call 176; (with_reducible refine (SP.out _).mono ?_); rintro en w1 ⟨rfl, rfl⟩)
        | (go_at_call 177; (with_reducible refine (EX.out _ HT.out).mono ?_); rintro en w2 ⟨v2, rfl, ⟨a2, c2, rfl, hN2⟩, hb2⟩)
        | (go_at_call 107; (with_reducible refine (NU.out _ _ (VD.mk (hN2.below (below_alloc _ _)))).mono ?_); rintro en w3 ⟨rfl, hb3⟩))
      refine bodyPost_ret (by simp [results, Tryz.results91, go_sem]; try rfl) rfl ?_
      exact ⟨rfl, below_trans (below_trans hb2 (below_alloc _ _)) hb3⟩
end Go.Proofs.YthaelmnblgollaaGreatDoor
