/- ulpref.SumOf: what is to be told of a list's sum. -/
import Derived.Test.YthaelmnblgollaaGreatDoorSu0
import Derived.Test.YthaelmnblgollaaGreatDoorSh
set_option linter.unusedVariables false
set_option linter.unusedSimpArgs false
namespace Go.Ulp
open Go.RowKit
/-- a variable of type Q -/
def QV (t e : TypeId) (w : World) (g : Nat) (D : Dy) (A T : Nat) : Prop :=
  ∃ (x : Int) (n : Nat) (ao : Option Addr) (cap : Nat), QL t w g (zneg x) (.slice ao (zl x).length cap) (n : Int) ∧ Nz e w ao cap (zl x) ∧ nrm x (-(n : Int)) = D ∧ x.natAbs < 2 ^ A ∧ n ≤ T
theorem QV.below {t e : TypeId} {w w' : World} {g : Nat} {D : Dy} {A T : Nat} (h : QV t e w g D A T) (hb : Below w.heap.size w w') : QV t e w' g D A T := by
  obtain ⟨x, n, ao, cap, h1, h2, h3⟩ := h
  exact ⟨x, n, ao, cap, h1.below hb, h2.below hb, h3⟩
theorem QV.weak {t e : TypeId} {w : World} {g : Nat} {D : Dy} {A T A' T' : Nat} (h : QV t e w g D A T) (hA : A ≤ A') (hT : T ≤ T') : QV t e w g D A' T' := by
  obtain ⟨x, n, ao, cap, h1, h2, h3, h4, h5⟩ := h
  exact ⟨x, n, ao, cap, h1, h2, h3, abs_weak h4 hA, by omega⟩
theorem QV.zero {t e : TypeId} {w : World} (A T : Nat) : QV t e (w.alloc (.cells #[.bool false, .slice none 0 0, .int .i64 0] t)) w.heap.size (0, 0) A T :=
  ⟨0, 0, none, 0, QL.made rfl, Nz.nil' none 0 (by unfold maxLen; omega), nrm_zero _, Nat.two_pow_pos A, Nat.zero_le _⟩
/-- what the loop holds -/
def BS (L : List Nat) (i : Nat) (pl mi nn : Bool) (zs sg : Nat) (S : Int) : Prop :=
  pl = anyTo pInf L i ∧ mi = anyTo mInf L i ∧ nn = anyTo isNan L i ∧ zs = cntTo isZer L i ∧ sg = cntTo mZer L i ∧ S = sumTo L i
theorem BS.start (L : List Nat) : BS L 0 false false false 0 0 0 := ⟨rfl, rfl, rfl, rfl, rfl, rfl⟩
theorem BS.step {L : List Nat} {i : Nat} {pl mi nn : Bool} {zs sg : Nat} {S : Int} (h : BS L i pl mi nn zs sg S) :
    BS L (i + 1) (pl || pInf (lb L i)) (mi || mInf (lb L i)) (nn || isNan (lb L i)) (zs + (if isZer (lb L i) then 1 else 0)) (sg + (if mZer (lb L i) then 1 else 0)) (S + uV (lb L i)) := by
  obtain ⟨a, b, c, d, e, f⟩ := h
  subst a b c d e f
  exact ⟨rfl, rfl, rfl, rfl, rfl, rfl⟩
section
variable {L : List Nat} {pl mi nn : Bool} {zs sg : Nat} {S : Int} {mode : Int}
theorem BS.ansNan (h : BS L L.length pl mi nn zs sg S) (hb : (nn || (pl && mi)) = true) : sumX L mode = 9221120237041090560 ∧ sumC L mode = false := by
  obtain ⟨a, b, c, d, e, f⟩ := h
  have k : sNan L = true := by unfold sNan; rw [← a, ← b, ← c]; exact hb
  unfold sumX sumC; rw [k]; exact ⟨rfl, rfl⟩
theorem BS.ansInf (h : BS L L.length pl mi nn zs sg S) (hb : (nn || (pl && mi)) = false) (hi : (pl || mi) = true) : sumX L mode = 9218868437227405312 + sgb mi ∧ sumC L mode = false := by
  obtain ⟨a, b, c, d, e, f⟩ := h
  have k : sNan L = false := by unfold sNan; rw [← a, ← b, ← c]; exact hb
  have k2 : sInf L = true := by unfold sInf; rw [← a, ← b]; exact hi
  unfold sumX sumC; rw [k, k2, ← b]
  refine ⟨?_, rfl⟩
  cases mi <;> rfl
theorem BS.none (h : BS L L.length pl mi nn zs sg S) (hb : (nn || (pl && mi)) = false) (hi : (pl || mi) = false) : sNan L = false ∧ sInf L = false := by
  obtain ⟨a, b, c, d, e, f⟩ := h
  exact ⟨by unfold sNan; rw [← a, ← b, ← c]; exact hb, by unfold sInf; rw [← a, ← b]; exact hi⟩
theorem BS.ansNum (h : BS L L.length pl mi nn zs sg S) (hb : (nn || (pl && mi)) = false) (hi : (pl || mi) = false) (hS : S ≠ 0) : sumX L mode = rX (nrm S (-1074)) mode ∧ sumC L mode = rC (nrm S (-1074)) mode := by
  obtain ⟨k, k2⟩ := h.none hb hi
  have e := h.2.2.2.2.2
  unfold sumX sumC sDy; rw [k, k2, ← e, if_pos hS, if_pos hS]; exact ⟨rfl, rfl⟩
theorem BS.ansSign (h : BS L L.length pl mi nn zs sg S) (hb : (nn || (pl && mi)) = false) (hi : (pl || mi) = false) (hS : S = 0) (h1 : zs = L.length) (h2 : sg = zs) (h3 : 0 < zs) : sumX L mode = 9223372036854775808 ∧ sumC L mode = false := by
  obtain ⟨k, k2⟩ := h.none hb hi
  obtain ⟨-, -, -, d, e, f⟩ := h
  have s := cnt_split L L.length
  have hp : ¬ cntTo pZer L L.length = L.length := by omega
  have hn : cntTo mZer L L.length = L.length := by omega
  unfold sumX sumC; rw [k, k2, ← f, if_neg (not_not_intro hS), if_neg (not_not_intro hS), if_neg hp, if_pos hn]; exact ⟨rfl, rfl⟩
theorem BS.ansZero (h : BS L L.length pl mi nn zs sg S) (hb : (nn || (pl && mi)) = false) (hi : (pl || mi) = false) (hS : S = 0) (h1 : zs = L.length) (h2 : sg = 0) : sumX L mode = 0 ∧ sumC L mode = false := by
  obtain ⟨k, k2⟩ := h.none hb hi
  obtain ⟨-, -, -, d, e, f⟩ := h
  have s := cnt_split L L.length
  have hp : cntTo pZer L L.length = L.length := by omega
  unfold sumX sumC; rw [k, k2, ← f, if_neg (not_not_intro hS), if_neg (not_not_intro hS), if_pos hp]; exact ⟨rfl, rfl⟩
theorem BS.ansElse (h : BS L L.length pl mi nn zs sg S) (hb : (nn || (pl && mi)) = false) (hi : (pl || mi) = false) (hS : S = 0) (h1 : zs ≠ L.length ∨ (sg ≠ zs ∧ sg ≠ 0)) : sumX L mode = sgb (mode == 2) ∧ sumC L mode = false := by
  obtain ⟨k, k2⟩ := h.none hb hi
  obtain ⟨-, -, -, d, e, f⟩ := h
  have s := cnt_split L L.length
  have c := cnt_le isZer L L.length
  have hp : ¬ cntTo pZer L L.length = L.length := by omega
  have hn : ¬ cntTo mZer L L.length = L.length := by omega
  unfold sumX sumC; rw [k, k2, ← f, if_neg (not_not_intro hS), if_neg (not_not_intro hS), if_neg hp, if_neg hn]
  refine ⟨?_, rfl⟩
  by_cases m : mode = 2
  · rw [if_neg (by simp), if_neg (by simp), if_pos m, beq_iff_eq.2 m]; rfl
  · rw [if_neg (by simp), if_neg (by simp), if_neg m, beq_eq_false_iff_ne.2 m]; rfl
end
theorem sgn_zero_iff (x : Int) : sgn x = 0 ↔ x = 0 := cmpI_eq_zero x 0
end Go.Ulp
namespace Go.Proofs.YthaelmnblgollaaGreatDoor
open Go.RowKit Go.Ulp
set_option linter.unusedVariables false
set_option linter.unusedSimpArgs false
set_option maxHeartbeats 2000000
set_option maxRecDepth 100000
theorem sumOf_any (ao : Option Addr) (cap : Nat) (L : List Nat) (mode : Int) (w : World) (h : Ns .u64 w ao cap L) (hL : ∀ j, lb L j < 18446744073709551616) (hlen : L.length ≤ 200) (m0 : 0 ≤ mode) (m1 : mode ≤ 4) :
    Calls Tryz.prog 233 #[.slice ao L.length cap, .int .i64 mode] w (RetX w (sumX L mode) (sumC L mode)) := by
  have hNL := h
  obtain ⟨h1, h2, h3⟩ := h
  unfold maxLen at h2
  have NA := hid (fun j w => rIsNan_any (lb L j) (lb_nonneg _ _) (hL j) w)
  have IN := hid (fun j w => rIsInf_any (lb L j) (lb_nonneg _ _) (hL j) w)
  have MI := hid (fun j w => rMinus_any (lb L j) (lb_nonneg _ _) (hL j) w)
  have QVa := hid (fun j w => qval_any (lb L j) (lb_nonneg _ _) (hL j) w)
  have FV := hid (fun j (h : classOf (lb L j) < 4) => fv_uV (lb L j) (lb_nonneg _ _) (hL j) h)
  have UZ := hid (fun j (h : classOf (lb L j) < 4) => uV_zero_iff (lb L j) (lb_nonneg _ _) (hL j) h)
  have CB := hid (fun j => class_bd (lb L j))
  have HNL := hid hNL
  have yb0 := below_alloc w (.cells #[.bool false, .slice none 0 0, .int .i64 0] 41)
  have zR0 : QV 41 3 (w.alloc (.cells #[.bool false, .slice none 0 0, .int .i64 0] 41)) w.heap.size (nrm 0 (-1074)) (2500 + 1200 * 0) 1100 := QV.zero _ _
  clear hL hNL
  go_enter Tryz.func233, Tryz.ntmps233
  go_wp2_with fail
  go_loopw [6, 7, 8, 9, 10, 13, 14, 18] (fun s6 s7 s8 s9 s10 _ _ s18 wr => ∃ (i : Nat) (pl mi nn : Bool) (zs sg : Nat) (S : Int), s18 = .int .i64 (i : Int) ∧ i ≤ L.length ∧ s6 = .bool pl ∧ s7 = .bool mi ∧ s8 = .bool nn ∧ s9 = .int .i64 (zs : Int) ∧ s10 = .int .i64 (sg : Int) ∧ BS L i pl mi nn zs sg S ∧ QV 41 3 wr w.heap.size (nrm S (-1074)) (2500 + 1200 * i) 1100 ∧ Below w.heap.size w wr) (fun _ _ _ _ _ _ _ s18 _ => (L.length - (intOf s18).toNat))
  case atStart => exact ⟨0, false, false, false, 0, 0, 0, rfl, by omega, rfl, rfl, rfl, rfl, rfl, BS.start L, zR0, yb0⟩
  case round =>
    obtain ⟨i, pl, mi, nn, zs, sg, S, rfl, hi, rfl, rfl, rfl, rfl, rfl, hBS, hQV, yb⟩ := hrel
    have HBS := hid hBS
    have HQV := hid hQV
    have c1 := cnt_le isZer L i
    have c2 := cnt_le mZer L i
    have n1 : zs ≤ i := by rw [hBS.2.2.2.1]; exact c1
    have n2 : sg ≤ i := by rw [hBS.2.2.2.2.1]; exact c2
    clear hBS hQV c1 c2 h3 zR0 yb0
    by_cases hi2 : (i : Int) < (L.length : Int)
    · obtain ⟨b0, o0, rfl, hc0⟩ := HNL.out.2.2 (by omega)
      have k0 := (yb.cell (p := ⟨b0, o0 + i, none⟩) (World.block_lt_of_cell? _ _ (hc0 i (by omega)))).trans (hc0 i (by omega))
      have N0 := hid (NA.out i)
      have I0 := hid (IN.out i)
      have M0 := hid (MI.out i)
      have V0 := hid (QVa.out i)
      have FV0 := hid (FV.out i)
      have UZ0 := hid (UZ.out i)
      have cb := CB.out i
      have HB1 := hid HBS.out.step
      obtain ⟨x, hx⟩ : ∃ x, x = lb L i := ⟨_, rfl⟩
      rw [← hx] at k0 N0 I0 M0 V0 FV0 UZ0 cb HB1
      clear hx hc0 NA IN MI QVa FV UZ CB
      by_cases h5 : classOf x = 5
      · have e5 : isNan x = true := by unfold isNan; rw [h5]; rfl
        have e4 : isInf x = false := by unfold isInf; rw [h5]; rfl
        have e1 : isZer x = false := by unfold isZer; rw [h5]; rfl
        have HB2 := hid (show BS L (i + 1) pl mi true zs sg S by
          have h := HB1.out
          unfold pInf mInf mZer uV at h
          rw [e5, e4, e1, h5] at h
          simpa using h)
        rw [e5] at N0
        clear h5 e5 e4 e1 cb HB1
        go_wp2_with (go_at_call 95; (with_reducible refine (N0.out _).mono ?_); rintro en w1 ⟨rfl, rfl⟩)
        go_roundw
        case rel => exact ⟨i + 1, pl, mi, true, zs, sg, S, by go_num, by omega, rfl, rfl, rfl, rfl, rfl, HB2.out, HQV.out.weak (by omega) (by omega), yb⟩
        case measure => simp [intOf]; omega
      have e5 : isNan x = false := beq_eq_false_iff_ne.2 h5
      rw [e5] at N0
      by_cases h4 : classOf x = 4
      · have e4 : isInf x = true := by unfold isInf; rw [h4]; rfl
        have e1 : isZer x = false := by unfold isZer; rw [h4]; rfl
        rw [e4] at I0
        cases hn : negB x
        · have HB2 := hid (show BS L (i + 1) true mi nn zs sg S by
            have h := HB1.out
            unfold pInf mInf mZer uV at h
            rw [e5, e4, e1, h4, hn] at h
            simpa using h)
          rw [hn] at M0
          clear h5 h4 e5 e4 e1 cb HB1 hn
          go_wp2_with (first
            | (go_at_call 95; (with_reducible refine (N0.out _).mono ?_); rintro en w1 ⟨rfl, rfl⟩)
            | (go_at_call 98; (with_reducible refine (I0.out _).mono ?_); rintro en w1 ⟨rfl, rfl⟩)
            | (go_at_call 96; (with_reducible refine (M0.out _).mono ?_); rintro en w1 ⟨rfl, rfl⟩))
          go_roundw
          case rel => exact ⟨i + 1, true, mi, nn, zs, sg, S, by go_num, by omega, rfl, rfl, rfl, rfl, rfl, HB2.out, HQV.out.weak (by omega) (by omega), yb⟩
          case measure => simp [intOf]; omega
        · have HB2 := hid (show BS L (i + 1) pl true nn zs sg S by
            have h := HB1.out
            unfold pInf mInf mZer uV at h
            rw [e5, e4, e1, h4, hn] at h
            simpa using h)
          rw [hn] at M0
          clear h5 h4 e5 e4 e1 cb HB1 hn
          go_wp2_with (first
            | (go_at_call 95; (with_reducible refine (N0.out _).mono ?_); rintro en w1 ⟨rfl, rfl⟩)
            | (go_at_call 98; (with_reducible refine (I0.out _).mono ?_); rintro en w1 ⟨rfl, rfl⟩)
            | (go_at_call 96; (with_reducible refine (M0.out _).mono ?_); rintro en w1 ⟨rfl, rfl⟩))
          go_roundw
          case rel => exact ⟨i + 1, pl, true, nn, zs, sg, S, by go_num, by omega, rfl, rfl, rfl, rfl, rfl, HB2.out, HQV.out.weak (by omega) (by omega), yb⟩
          case measure => simp [intOf]; omega
      · have e4 : isInf x = false := beq_eq_false_iff_ne.2 h4
        rw [e4] at I0
        have hlt : classOf x < 4 := by omega
        have hfv := FV0.out hlt
        have hzi := UZ0.out hlt
        have QA := hid (fun v u w h0 h1 => (qadd_any v u (nrm S (-1074)) (fv x) (2500 + 1200 * i) 1100 1200 1100 w h0 h1 (by omega) (by omega) (by omega) (by omega)).mono fun _ _ h => RetQD.weak h (show max (2500 + 1200 * i) 1200 + max 1100 1100 + 1 ≤ 2500 + 1200 * (i + 1) by omega) (show max 1100 1100 ≤ 1100 by omega))
        have HSD := hid (show addD (nrm S (-1074)) (fv x) = nrm (S + uV x) (-1074) by rw [hfv, addD_step])
        rw [HSD.out] at QA
        have QC := hid (fun v u w h0 h1 => qcmp_any v u (fv x) (0, 0) 1200 1100 1 0 w h0 h1 (by omega) (by omega) (by omega) (by omega))
        have hcm : cmpD (fv x) (0, 0) = 0 ↔ classOf x = 1 := by
          rw [cmpD_zero, sgn_zero_iff, hfv, nrm_zero_iff, hzi]
        obtain ⟨cv, hcv⟩ : ∃ cv, cv = cmpD (fv x) (0, 0) := ⟨_, rfl⟩
        rw [← hcv] at QC hcm
        obtain ⟨xq, nq, aq, cq, zq, hNq, hDq, hAq, hTq⟩ := HQV.out
        have HNq := hid hNq
        have HDq := hid hDq
        have HAq := hid hAq
        have HZC := hid (show (isZer x = true ↔ cv = 0) by unfold isZer; rw [beq_iff_eq]; exact hcm.symm)
        have e1p : pInf x = false := by unfold pInf; rw [e4]; rfl
        have e1m : mInf x = false := by unfold mInf; rw [e4]; rfl
        rw [e5, e1p, e1m, Bool.or_false, Bool.or_false, Bool.or_false] at HB1
        have hgw := zq.lt
        clear hcv hcm hfv hzi h5 h4 hlt cb FV0 UZ0 e5 e4 e1p e1m hNq hDq hAq HSD HQV HBS
        go_upto_region 8 with (first
          | (go_at_call 95; (with_reducible refine (N0.out _).mono ?_); rintro en w1 ⟨rfl, rfl⟩)
          | (go_at_call 98; (with_reducible refine (I0.out _).mono ?_); rintro en w1 ⟨rfl, rfl⟩)
          | (go_at_call 68; (with_reducible refine (V0.out _).mono ?_); rintro en w1 ⟨v1, rfl, ⟨xv, nv, av, cvp, rfl, hNv, hDv, hAv, hTv⟩, hb1⟩))
        have hb2 : Below wr.heap.size wr (w1.alloc (.cells #[.bool (zneg xv), .slice av (zl xv).length cvp, .int .i64 (nv : Int)] 41)) := by (repeat' (first | (with_reducible assumption) | (with_reducible exact Below.refl _ _) | (with_reducible refine below_al ?_ _) | (with_reducible refine below_drewN ?_ _) | (with_reducible refine Below.drew ?_) | (with_reducible refine Below.alloc ?_ ?_ _) | (with_reducible refine Below.setCell ?_ ?_ _) | (refine below_trans ?_ (by assumption)) | go_size))
        have zv : QL 41 (w1.alloc (.cells #[.bool (zneg xv), .slice av (zl xv).length cvp, .int .i64 (nv : Int)] 41)) w1.heap.size (zneg xv) (.slice av (zl xv).length cvp) (nv : Int) := QL.made rfl
        have hNv1 := hNv.below (below_alloc w1 (.cells #[.bool (zneg xv), .slice av (zl xv).length cvp, .int .i64 (nv : Int)] 41))
        have hgv : w.heap.size ≠ w1.heap.size := by have := hb1.size; omega
        have HDV := hid (show nrm xv (-(nv : Int)) = fv x ∧ xv.natAbs < 2 ^ 1200 ∧ nv ≤ 1100 from ⟨hDv, hAv, hTv⟩)
        obtain ⟨W1, hW1⟩ : ∃ W, W = w1.alloc (.cells #[.bool (zneg xv), .slice av (zl xv).length cvp, .int .i64 (nv : Int)] 41) := ⟨_, rfl⟩
        obtain ⟨gv, hg1⟩ : ∃ g, g = w1.heap.size := ⟨_, rfl⟩
        rw [← hW1, ← hg1] at zv ⊢
        rw [← hW1] at hb2 hNv1
        rw [← hg1] at hgv
        have zq1 := zq.below hb2
        have HQ1 := hid (show QD 3 W1 (nrm S (-1074)) (2500 + 1200 * i) 1100 (.agg #[.bool (zneg xq), .slice aq (zl xq).length cq, .int .i64 (nq : Int)]) from ⟨xq, nq, aq, cq, rfl, HNq.out.below hb2, HDq.out, HAq.out, hTq⟩)
        have HV1 := hid (show QD 3 W1 (fv x) 1200 1100 (.agg #[.bool (zneg xv), .slice av (zl xv).length cvp, .int .i64 (nv : Int)]) from ⟨xv, nv, av, cvp, rfl, hNv1, HDV.out.1, HDV.out.2.1, HDV.out.2.2⟩)
        have HNv1 := hid hNv1
        have yb1 := below_trans yb hb2
        clear hW1 hg1 hNv hDv hAv hTv hb1 hb2 hNv1 N0 I0 V0 zq yb
        obtain ⟨⟨j0, j1, -, -, -⟩, j2, -⟩ := id zq1
        obtain ⟨⟨i0, i1, -, -, -⟩, i2, -⟩ := id zv
        go_upto_region 9 with (go_at_call 76; (with_reducible refine (QA.out _ _ _ HQ1.out HV1.out).mono ?_); rintro en w2 ⟨v2, rfl, ⟨x2, n2, a2, c2, rfl, hN2, hD2, hA2, hT2⟩, hb3⟩; have zq2 := zq1.below hb3; obtain ⟨⟨k0, k1, g0, g1, hs2⟩, k2, g2⟩ := id zq2)
        have zq3 : QV 41 3 (((w2.setCell ⟨w.heap.size, 0, none⟩ (.bool (zneg x2))).setCell ⟨w.heap.size, 1, none⟩ (.slice a2 (zl x2).length c2)).setCell ⟨w.heap.size, 2, none⟩ (.int .i64 (n2 : Int))) w.heap.size (nrm (S + uV x) (-1074)) (2500 + 1200 * (i + 1)) 1100 := ⟨x2, n2, a2, c2, zq2.put _ _ _, hN2.set3Q zq2 (by decide) _ _ _, hD2, hA2, hT2⟩
        have zv3 := (zv.below hb3).far3 (Ne.symm hgv) (.bool (zneg x2)) (.slice a2 (zl x2).length c2) (.int .i64 (n2 : Int))
        have hN3 := (HNv1.out.below hb3).set3Q zq2 (by decide) (.bool (zneg x2)) (.slice a2 (zl x2).length c2) (.int .i64 (n2 : Int))
        have yb3 := Go.Ulp.Below.put3 (below_trans yb1 hb3) (Nat.le_refl _) (.bool (zneg x2)) (.slice a2 (zl x2).length c2) (.int .i64 (n2 : Int))
        obtain ⟨W3, hW3⟩ : ∃ W, W = ((w2.setCell ⟨w.heap.size, 0, none⟩ (.bool (zneg x2))).setCell ⟨w.heap.size, 1, none⟩ (.slice a2 (zl x2).length c2)).setCell ⟨w.heap.size, 2, none⟩ (.int .i64 (n2 : Int)) := ⟨_, rfl⟩
        rw [← hW3] at zq3 zv3 hN3 yb3 ⊢
        have HZ3 := hid zq3
        have HV3 := hid (show QD 3 W3 (fv x) 1200 1100 (.agg #[.bool (zneg xv), .slice av (zl xv).length cvp, .int .i64 (nv : Int)]) from ⟨xv, nv, av, cvp, rfl, hN3, HDV.out.1, HDV.out.2.1, HDV.out.2.2⟩)
        clear hW3 zq3 hN3 hN2 hD2 hA2 hT2 hb3 k0 k1 g0 g1 hs2 k2 g2 zq2 j0 j1 j2 i0 i1 i2 zq1 zv yb1 HQ1 HV1 HNv1 QA
        obtain ⟨⟨i0, i1, -, -, -⟩, i2, -⟩ := id zv3
        by_cases hc0 : cv = 0
        · subst hc0
          have hz := HZC.out.2 rfl
          cases hn : negB x
          · have HB2 := hid (show BS L (i + 1) pl mi nn (zs + 1) sg (S + uV x) by
              have h := HB1.out
              unfold mZer at h
              rw [hz, hn] at h
              simpa using h)
            rw [hn] at M0
            clear hn hz HB1
            go_wp2_with (first
              | (go_at_call 18; (with_reducible refine (QC.out _ _ _ HV3.out (QD.zero (by omega))).mono ?_); rintro en w4 ⟨rfl, hb4⟩)
              | (go_at_call 96; (with_reducible refine (M0.out _).mono ?_); rintro en w5 ⟨rfl, rfl⟩))
            go_roundw
            case rel => exact ⟨i + 1, pl, mi, nn, zs + 1, sg, S + uV x, by go_num, by omega, rfl, rfl, rfl, by go_num, rfl, HB2.out, HZ3.out.below hb4, below_trans yb3 hb4⟩
            case measure => simp [intOf]; omega
          · have HB2 := hid (show BS L (i + 1) pl mi nn (zs + 1) (sg + 1) (S + uV x) by
              have h := HB1.out
              unfold mZer at h
              rw [hz, hn] at h
              simpa using h)
            rw [hn] at M0
            clear hn hz HB1
            go_wp2_with (first
              | (go_at_call 18; (with_reducible refine (QC.out _ _ _ HV3.out (QD.zero (by omega))).mono ?_); rintro en w4 ⟨rfl, hb4⟩)
              | (go_at_call 96; (with_reducible refine (M0.out _).mono ?_); rintro en w5 ⟨rfl, rfl⟩))
            go_roundw
            case rel => exact ⟨i + 1, pl, mi, nn, zs + 1, sg + 1, S + uV x, by go_num, by omega, rfl, rfl, rfl, by go_num, by go_num, HB2.out, HZ3.out.below hb4, below_trans yb3 hb4⟩
            case measure => simp [intOf]; omega
        · have hz : isZer x = false := by
            cases h : isZer x
            · rfl
            · exact absurd (HZC.out.1 h) hc0
          have HB2 := hid (show BS L (i + 1) pl mi nn zs sg (S + uV x) by
            have h := HB1.out
            unfold mZer at h
            rw [hz] at h
            simpa using h)
          have hc1 : (cv == 0) = false := beq_eq_false_iff_ne.2 hc0
          clear hc0 hz HB1
          go_wp2_with (go_at_call 18; (with_reducible refine (QC.out _ _ _ HV3.out (QD.zero (by omega))).mono ?_); rintro en w4 ⟨rfl, hb4⟩)
          go_roundw
          case rel => exact ⟨i + 1, pl, mi, nn, zs, sg, S + uV x, by go_num, by omega, rfl, rfl, rfl, rfl, rfl, HB2.out, HZ3.out.below hb4, below_trans yb3 hb4⟩
          case measure => simp [intOf]; omega
    · have hie : i = L.length := by omega
      subst hie
      have HA1 := hid (fun hb => HBS.out.ansNan (mode := mode) hb)
      have HA2 := hid (fun hb hi => HBS.out.ansInf (mode := mode) hb hi)
      have HA3 := hid (fun hb hi hS => HBS.out.ansNum (mode := mode) hb hi hS)
      have HA4 := hid (fun hb hi hS h1 h2 h3 => HBS.out.ansSign (mode := mode) hb hi hS h1 h2 h3)
      have HA5 := hid (fun hb hi hS h1 h2 => HBS.out.ansZero (mode := mode) hb hi hS h1 h2)
      have HA6 := hid (fun hb hi hS h1 => HBS.out.ansElse (mode := mode) hb hi hS h1)
      have RD := hid (fun v w h => roundedD_any v (nrm S (-1074)) (2500 + 1200 * L.length) 1100 mode w h (nrm_isN _ _) (by omega) (by omega) m0 m1)
      have QC := hid (fun v u w h0 h1 => qcmp_any v u (nrm S (-1074)) (0, 0) (2500 + 1200 * L.length) 1100 1 0 w h0 h1 (by omega) (by omega) (by omega) (by omega))
      have HCV := hid (show cmpD (nrm S (-1074)) (0, 0) = 0 ↔ S = 0 by rw [cmpD_zero, sgn_zero_iff, nrm_zero_iff])
      obtain ⟨cv, hcv⟩ : ∃ cv, cv = cmpD (nrm S (-1074)) (0, 0) := ⟨_, rfl⟩
      rw [← hcv] at QC HCV
      obtain ⟨xq, nq, aq, cq, zq, hNq, hDq, hAq, hTq⟩ := HQV.out
      have HQ1 := hid (show ∀ w', Below wr.heap.size wr w' → QD 3 w' (nrm S (-1074)) (2500 + 1200 * L.length) 1100 (.agg #[.bool (zneg xq), .slice aq (zl xq).length cq, .int .i64 (nq : Int)]) from fun w' hb => ⟨xq, nq, aq, cq, rfl, hNq.below hb, hDq, hAq, hTq⟩)
      generalize nrm S (-1074) = DD at *
      clear hcv HBS NA IN MI QVa FV UZ CB HNL HQV hNq hDq hAq
      obtain ⟨⟨j0, j1, -, -, -⟩, j2, -⟩ := id zq
      have S1 := hid (fun b w => rSigned_any 9218868437227405312 (by omega) (by omega) b w)
      have S0 := hid (fun b w => rSigned_any 0 (by omega) (by omega) b w)
      cases nn
      · cases pl
        · cases mi
          · by_cases hc0 : cv = 0
            · have hS := HCV.out.1 hc0
              subst hc0
              by_cases h1 : zs = L.length
              · have q1 : ((zs : Int) == (L.length : Int)) = true := beq_iff_eq.2 (by omega)
                by_cases h2 : sg = zs
                · have q2 : ((sg : Int) == (zs : Int)) = true := beq_iff_eq.2 (by omega)
                  by_cases h3 : 0 < zs
                  · have q3 : (0 : Int) < (zs : Int) := by omega
                    have HP := hid (HA4.out rfl rfl hS h1 h2 h3)
                    clear HA1 HA2 HA3 HA4 HA5 HA6 hS h1 h2 h3
                    go_wp2_with (first
                      | (go_at_call 18; (with_reducible refine (QC.out _ _ _ (HQ1.out _ (Below.refl _ _)) (QD.zero (by omega))).mono ?_); rintro en w4 ⟨rfl, hb4⟩; have zq4 := zq.below hb4; obtain ⟨⟨k0, k1, -, -, -⟩, k2, -⟩ := id zq4)
                      | (go_at_call 42; (with_reducible refine (S0.out _ _).mono ?_); rintro en w5 ⟨rfl, rfl⟩)
                      | (go_at_call 49; (with_reducible refine (RD.out _ _ (HQ1.out _ hb4)).mono ?_); rintro en w5 ⟨rfl, hb5⟩))
                    go_ret2
                    exact ⟨ret2 (HP.out.1.symm) HP.out.2.symm, below_trans yb hb4⟩
                  · have q3 : ¬ (0 : Int) < (zs : Int) := by omega
                    have q4 : ((sg : Int) == 0) = true := beq_iff_eq.2 (by omega)
                    have HP := hid (HA5.out rfl rfl hS h1 (by omega))
                    clear HA1 HA2 HA3 HA4 HA5 HA6 hS h1 h2 h3
                    go_wp2_with (first
                      | (go_at_call 18; (with_reducible refine (QC.out _ _ _ (HQ1.out _ (Below.refl _ _)) (QD.zero (by omega))).mono ?_); rintro en w4 ⟨rfl, hb4⟩; have zq4 := zq.below hb4; obtain ⟨⟨k0, k1, -, -, -⟩, k2, -⟩ := id zq4)
                      | (go_at_call 42; (with_reducible refine (S0.out _ _).mono ?_); rintro en w5 ⟨rfl, rfl⟩)
                      | (go_at_call 49; (with_reducible refine (RD.out _ _ (HQ1.out _ hb4)).mono ?_); rintro en w5 ⟨rfl, hb5⟩))
                    go_ret2
                    exact ⟨ret2 (HP.out.1.symm) HP.out.2.symm, below_trans yb hb4⟩
                · have q2 : ((sg : Int) == (zs : Int)) = false := beq_eq_false_iff_ne.2 (by omega)
                  by_cases h3 : sg = 0
                  · have q4 : ((sg : Int) == 0) = true := beq_iff_eq.2 (by omega)
                    have HP := hid (HA5.out rfl rfl hS h1 h3)
                    clear HA1 HA2 HA3 HA4 HA5 HA6 hS h1 h2 h3
                    go_wp2_with (first
                      | (go_at_call 18; (with_reducible refine (QC.out _ _ _ (HQ1.out _ (Below.refl _ _)) (QD.zero (by omega))).mono ?_); rintro en w4 ⟨rfl, hb4⟩; have zq4 := zq.below hb4; obtain ⟨⟨k0, k1, -, -, -⟩, k2, -⟩ := id zq4)
                      | (go_at_call 42; (with_reducible refine (S0.out _ _).mono ?_); rintro en w5 ⟨rfl, rfl⟩)
                      | (go_at_call 49; (with_reducible refine (RD.out _ _ (HQ1.out _ hb4)).mono ?_); rintro en w5 ⟨rfl, hb5⟩))
                    go_ret2
                    exact ⟨ret2 (HP.out.1.symm) HP.out.2.symm, below_trans yb hb4⟩
                  · have q4 : ((sg : Int) == 0) = false := beq_eq_false_iff_ne.2 (by omega)
                    have HP := hid (HA6.out rfl rfl hS (.inr ⟨h2, h3⟩))
                    clear HA1 HA2 HA3 HA4 HA5 HA6 hS h1 h2 h3
                    go_wp2_with (first
                      | (go_at_call 18; (with_reducible refine (QC.out _ _ _ (HQ1.out _ (Below.refl _ _)) (QD.zero (by omega))).mono ?_); rintro en w4 ⟨rfl, hb4⟩; have zq4 := zq.below hb4; obtain ⟨⟨k0, k1, -, -, -⟩, k2, -⟩ := id zq4)
                      | (go_at_call 42; (with_reducible refine (S0.out _ _).mono ?_); rintro en w5 ⟨rfl, rfl⟩)
                      | (go_at_call 49; (with_reducible refine (RD.out _ _ (HQ1.out _ hb4)).mono ?_); rintro en w5 ⟨rfl, hb5⟩))
                    go_ret2
                    exact ⟨ret2 (HP.out.1.symm) HP.out.2.symm, below_trans yb hb4⟩
              · have q1 : ((zs : Int) == (L.length : Int)) = false := beq_eq_false_iff_ne.2 (by omega)
                have HP := hid (HA6.out rfl rfl hS (.inl h1))
                clear HA1 HA2 HA3 HA4 HA5 HA6 hS h1
                go_wp2_with (first
                  | (go_at_call 18; (with_reducible refine (QC.out _ _ _ (HQ1.out _ (Below.refl _ _)) (QD.zero (by omega))).mono ?_); rintro en w4 ⟨rfl, hb4⟩; have zq4 := zq.below hb4; obtain ⟨⟨k0, k1, -, -, -⟩, k2, -⟩ := id zq4)
                  | (go_at_call 42; (with_reducible refine (S0.out _ _).mono ?_); rintro en w5 ⟨rfl, rfl⟩)
                  | (go_at_call 49; (with_reducible refine (RD.out _ _ (HQ1.out _ hb4)).mono ?_); rintro en w5 ⟨rfl, hb5⟩))
                go_ret2
                exact ⟨ret2 (HP.out.1.symm) HP.out.2.symm, below_trans yb hb4⟩
            · have hc1 : (cv != 0) = true := bne_iff_ne.2 hc0
              have HP := hid (HA3.out rfl rfl (fun h => hc0 (HCV.out.2 h)))
              clear HA1 HA2 HA3 HA4 HA5 HA6 hc0
              go_wp2_with (first
                | (go_at_call 18; (with_reducible refine (QC.out _ _ _ (HQ1.out _ (Below.refl _ _)) (QD.zero (by omega))).mono ?_); rintro en w4 ⟨rfl, hb4⟩; have zq4 := zq.below hb4; obtain ⟨⟨k0, k1, -, -, -⟩, k2, -⟩ := id zq4)
                | (go_at_call 42; (with_reducible refine (S0.out _ _).mono ?_); rintro en w5 ⟨rfl, rfl⟩)
                | (go_at_call 49; (with_reducible refine (RD.out _ _ (HQ1.out _ hb4)).mono ?_); rintro en w5 ⟨rfl, hb5⟩))
              go_ret2
              exact ⟨ret2 (HP.out.1.symm) HP.out.2.symm, below_trans yb (below_trans hb4 hb5)⟩
          · have HP := hid (HA2.out rfl rfl)
            clear HA1 HA2 HA3 HA4 HA5 HA6
            go_wp2_with (first
              | (go_at_call 41; (with_reducible refine (rInfBits_any _).mono ?_); rintro en w5 ⟨rfl, rfl⟩)
              | (go_at_call 43; (with_reducible refine (rQuiet_any _).mono ?_); rintro en w5 ⟨rfl, rfl⟩)
              | (go_at_call 42; (with_reducible refine (S1.out _ _).mono ?_); rintro en w6 ⟨rfl, rfl⟩))
            go_ret2
            exact ⟨ret2 HP.out.1.symm HP.out.2.symm, yb⟩
        · cases mi
          · have HP := hid (HA2.out rfl rfl)
            clear HA1 HA2 HA3 HA4 HA5 HA6
            go_wp2_with (first
              | (go_at_call 41; (with_reducible refine (rInfBits_any _).mono ?_); rintro en w5 ⟨rfl, rfl⟩)
              | (go_at_call 43; (with_reducible refine (rQuiet_any _).mono ?_); rintro en w5 ⟨rfl, rfl⟩)
              | (go_at_call 42; (with_reducible refine (S1.out _ _).mono ?_); rintro en w6 ⟨rfl, rfl⟩))
            go_ret2
            exact ⟨ret2 HP.out.1.symm HP.out.2.symm, yb⟩
          · have HP := hid (HA1.out rfl)
            clear HA1 HA2 HA3 HA4 HA5 HA6
            go_wp2_with (first
              | (go_at_call 41; (with_reducible refine (rInfBits_any _).mono ?_); rintro en w5 ⟨rfl, rfl⟩)
              | (go_at_call 43; (with_reducible refine (rQuiet_any _).mono ?_); rintro en w5 ⟨rfl, rfl⟩)
              | (go_at_call 42; (with_reducible refine (S1.out _ _).mono ?_); rintro en w6 ⟨rfl, rfl⟩))
            go_ret2
            exact ⟨ret2 HP.out.1.symm HP.out.2.symm, yb⟩
      · have HP := hid (HA1.out rfl)
        clear HA1 HA2 HA3 HA4 HA5 HA6
        go_wp2_with (first
          | (go_at_call 41; (with_reducible refine (rInfBits_any _).mono ?_); rintro en w5 ⟨rfl, rfl⟩)
          | (go_at_call 43; (with_reducible refine (rQuiet_any _).mono ?_); rintro en w5 ⟨rfl, rfl⟩)
          | (go_at_call 42; (with_reducible refine (S1.out _ _).mono ?_); rintro en w6 ⟨rfl, rfl⟩))
        go_ret2
        exact ⟨ret2 HP.out.1.symm HP.out.2.symm, yb⟩
end Go.Proofs.YthaelmnblgollaaGreatDoor
