/- SpanSums: what the proof leans on, part 22 (Rm Pr2 Su4 Pr3 Ex0 Es0 Es1 Qr0 Wh0 Qr1 Qs3 Ss3). -/
import Derived.Test.YtfphmlmgjhebjaaGreatDoorKSpanSums11
import Derived.Test.YtfphmlmgjhebjaaGreatDoorKSpanSums13
import Derived.Test.YtfphmlmgjhebjaaGreatDoorKSpanSums17
import Derived.Test.YtfphmlmgjhebjaaGreatDoorKSpanSums18
import Derived.Test.YtfphmlmgjhebjaaGreatDoorKSpanSums19
import Derived.Test.YtfphmlmgjhebjaaGreatDoorKSpanSums20
import Derived.Test.YtfphmlmgjhebjaaGreatDoorKSpanSums21
namespace Go.Ulp
open Go.RowKit
end Go.Ulp
namespace Go.Proofs.YtfphmlmgjhebjaaGreatDoor
open Go.RowKit Go.Ulp
set_option linter.unusedVariables false
set_option linter.unusedSimpArgs false
set_option maxHeartbeats 1000000
set_option maxRecDepth 100000
end Go.Proofs.YtfphmlmgjhebjaaGreatDoor
set_option linter.unusedVariables false
set_option linter.unusedSimpArgs false
namespace Go.Ulp
open Go.RowKit
end Go.Ulp
set_option linter.unusedVariables false
set_option linter.unusedSimpArgs false
namespace Go.Ulp
open Go.RowKit
end Go.Ulp
namespace Go.Proofs.YtfphmlmgjhebjaaGreatDoor
open Go.RowKit Go.Ulp
set_option linter.unusedVariables false
set_option linter.unusedSimpArgs false
set_option maxHeartbeats 2000000
set_option maxRecDepth 100000
theorem zsign_any (a0 : Option Addr) (c0 : Nat) (x : Int) (w : World) (h0 : Nz 3 w a0 c0 (zl x)) :
    Calls Tryz.prog 121 #[.agg #[.bool (zneg x), .slice a0 (zl x).length c0]] w fun e w' => e = .returned (.int .i64 (cmpI x 0)) ∧ Below w.heap.size w w' := by
  have yb0 := below_alloc w (.cells #[.bool (zneg x), .slice a0 (zl x).length c0] 31)
  have h1 := h0.below yb0
  have ZC := hid (show ∀ w, Nz 3 w a0 c0 (zl x) → Calls Tryz.prog 117 #[.agg #[.bool (zneg x), .slice a0 (zl x).length c0], .agg #[.bool false, .slice none 0 0]] w fun e w' => e = .returned (.int .i64 (cmpI x 0)) ∧ Below w.heap.size w w' from fun w h => zcmp_any a0 none c0 0 x 0 w h (Nz.nil' none 0 (by decide)))
  have zA : ZL 31 (w.alloc (.cells #[.bool (zneg x), .slice a0 (zl x).length c0] 31)) w.heap.size (zneg x) (.slice a0 (zl x).length c0) := ZL.made rfl
  obtain ⟨j0, j1, -, -, -⟩ := id zA
  clear h0
  go_enter Tryz.func121, Tryz.ntmps121
  go_wp2_with (go_at_call 117; (with_reducible refine (ZC.out _ h1).mono ?_); rintro en w1 ⟨rfl, hb1⟩)
  refine bodyPost_ret (by simp [results, Tryz.results121, go_sem]; try rfl) rfl ?_
  exact ⟨rfl, below_trans yb0 hb1⟩
end Go.Proofs.YtfphmlmgjhebjaaGreatDoor
set_option linter.unusedVariables false
set_option linter.unusedSimpArgs false


set_option linter.unusedVariables false
set_option linter.unusedSimpArgs false
namespace Go.Ulp
open Go.RowKit
/-- a fresh cell -/
def Fact.cv (B : Nat) (v : Value) : Fact := ⟨fun p w => ∃ g, p = .pointer (some ⟨g, 0, none⟩) ∧ B ≤ g ∧ CV w g v, fun _ _ _ h hb => by
  obtain ⟨g, h1, h2, h3⟩ := h; exact ⟨g, h1, h2, h3.below hb⟩⟩
theorem CV.put {w : World} {g : Nat} {v u : Value} (h : CV w g v) : CV (w.setCell ⟨g, 0, none⟩ u) g u :=
  ⟨World.cell?_setCell_same _ _ _ h.1, by rw [frozen_setCell]; exact h.2⟩
theorem CV.far {w : World} {g b : Nat} {v u : Value} (h : CV w g v) (hne : g ≠ b) : CV (w.setCell ⟨b, 0, none⟩ u) g v :=
  ⟨by rw [World.cell?_setCell_other (h := fun e => hne (congrArg Addr.block e).symm)]; exact h.1, by rw [frozen_setCell]; exact h.2⟩
end Go.Ulp
namespace Go.Proofs.YtfphmlmgjhebjaaGreatDoor
open Go.RowKit Go.Ulp
set_option linter.unusedVariables false
set_option linter.unusedSimpArgs false
set_option maxHeartbeats 2000000
set_option maxRecDepth 100000
end Go.Proofs.YtfphmlmgjhebjaaGreatDoor


set_option linter.unusedVariables false
set_option linter.unusedSimpArgs false
namespace Go.Ulp
open Go.RowKit
theorem capX_bd (neg : Bool) (mode R : Int) (h : 0 ≤ R) : 0 ≤ capX neg mode R ∧ capX neg mode R < 18446744073709551616 := by
  unfold capX sgb
  split <;> split <;> (try split) <;> omega
theorem numR_nonneg (neg : Bool) (m : Nat) (e mode : Int) : 0 ≤ numR neg m e mode := by
  unfold numR
  split
  · omega
  · have : -1074 ≤ numK m e := by unfold numK; omega
    have h2 : 0 ≤ (numK m e + 1074) * 4503599627370496 := Int.mul_nonneg (by omega) (by omega)
    omega
theorem rX_bd (D : Dy) (mode : Int) : 0 ≤ rX D mode ∧ rX D mode < 18446744073709551616 := capX_bd _ _ _ (numR_nonneg _ _ _ _)
/-- both have values; the first answer has one -/
def pk (v h : Bool) (x : Int) : Int := if v then (if h then x else 0) else 0
end Go.Ulp
namespace Go.Proofs.YtfphmlmgjhebjaaGreatDoor
open Go.RowKit Go.Ulp
set_option linter.unusedVariables false
set_option linter.unusedSimpArgs false
set_option maxHeartbeats 2000000
set_option maxRecDepth 100000
end Go.Proofs.YtfphmlmgjhebjaaGreatDoor

set_option linter.unusedVariables false
set_option linter.unusedSimpArgs false
namespace Go.Ulp
open Go.RowKit
/-- a number's size over 2^1200 -/
def qN (x : Int) : Nat := (uV x).natAbs * 2 ^ 126
theorem qN_fv (x : Int) (h0 : 0 ≤ x) (h1 : x < 18446744073709551616) (h : classOf x < 4) (hz : classOf x ≠ 1) : 0 < (fv x).1.natAbs ∧ qN x = (fv x).1.natAbs * 2 ^ ((fv x).2 + 1200).toNat := by
  have hu : uV x ≠ 0 := fun e => hz ((uV_zero_iff x h0 h1 h).1 e)
  obtain ⟨k, e1, e2⟩ := nrm_rep (uV x) (-1074)
  rw [← fv_uV x h0 h1 h] at e1 e2
  have e3 := e2 hu
  have hn : (uV x).natAbs = (fv x).1.natAbs * 2 ^ k := by
    conv => lhs; rw [e1]
    rw [natAbs_mul_pw]
  refine ⟨?_, ?_⟩
  · rcases Nat.eq_zero_or_pos (fv x).1.natAbs with h9 | h9
    · rw [h9, Nat.zero_mul] at hn; omega
    · exact h9
  · unfold qN
    rw [hn, Nat.mul_assoc, ← Nat.pow_add]
    congr 2
    omega
end Go.Ulp

set_option linter.unusedVariables false
set_option linter.unusedSimpArgs false
namespace Go.Ulp
open Go.RowKit
theorem fv_sign (x : Int) (h : 0 < (fv x).1.natAbs) : decide ((fv x).1 < 0) = negB x := by
  have hs := sgn_nrm (sg (negB x) (mantOf x)) (dexp x)
  have hm := (mantOf_bd x).1
  have e : (nrm (sg (negB x) (mantOf x)) (dexp x)).1 = (fv x).1 := rfl
  rw [e] at hs
  by_cases hm0 : mantOf x = 0
  · have : (fv x).1 = 0 := by
      show (nrm _ _).1 = 0
      rw [nrm_zero_iff, hm0]; cases negB x <;> rfl
    omega
  · cases hb : negB x
    · rw [hb] at hs
      rw [show sg false (mantOf x) = mantOf x from rfl, show sgn (mantOf x) = 1 from cmpI_g (by omega)] at hs
      refine decide_eq_false (fun h9 => ?_)
      rw [show sgn (fv x).1 = -1 from cmpI_l h9] at hs
      omega
    · rw [hb] at hs
      rw [show sg true (mantOf x) = -mantOf x from rfl, show sgn (-mantOf x) = -1 from cmpI_l (by omega)] at hs
      refine decide_eq_true ?_
      rcases Int.lt_trichotomy (fv x).1 0 with h9 | h9 | h9
      · exact h9
      · omega
      · rw [show sgn (fv x).1 = 1 from cmpI_g h9] at hs; omega
end Go.Ulp
namespace Go.Proofs.YtfphmlmgjhebjaaGreatDoor
open Go.RowKit Go.Ulp
set_option linter.unusedVariables false
set_option linter.unusedSimpArgs false
set_option maxHeartbeats 4000000
set_option maxRecDepth 100000
end Go.Proofs.YtfphmlmgjhebjaaGreatDoor


set_option linter.unusedVariables false
set_option linter.unusedSimpArgs false
namespace Go.Ulp
open Go.RowKit
/-- what a Dyad without places behind the point is worth -/
def whole (D : Dy) : Int := D.1 * pw D.2.toNat
end Go.Ulp
namespace Go.Ulp
open Go.RowKit
end Go.Ulp

set_option linter.unusedVariables false
set_option linter.unusedSimpArgs false
namespace Go.Ulp
open Go.RowKit
theorem fv_nz (x : Int) (h0 : 0 ≤ x) (h1 : x < 18446744073709551616) (h : classOf x < 4) (hz : classOf x ≠ 1) : (fv x).1 ≠ 0 := by
  have := (qN_fv x h0 h1 h hz).1
  omega
end Go.Ulp
namespace Go.Proofs.YtfphmlmgjhebjaaGreatDoor
open Go.RowKit Go.Ulp
set_option linter.unusedVariables false
set_option linter.unusedSimpArgs false
set_option maxHeartbeats 2000000
set_option maxRecDepth 100000
end Go.Proofs.YtfphmlmgjhebjaaGreatDoor

set_option linter.unusedVariables false
set_option linter.unusedSimpArgs false
namespace Go.Ulp
open Go.RowKit
/-- which kind of quotient: 0 none, 1 infinite, 2 zero, 3 a value -/
def kQ (nx ny ix iy zx zy : Bool) : Nat := if (nx || ny || (ix && iy) || (zx && zy)) = true then 0 else if (ix || zy) = true then 1 else if (zx || iy) = true then 2 else 3
def kindQ (x y : Int) : Nat := kQ (isNan x) (isNan y) (isInf x) (isInf y) (isZer x) (isZer y)
theorem kQ_le (a b c d e f : Bool) : kQ a b c d e f ≤ 3 := by unfold kQ; split; omega; split; omega; split <;> omega
/-- the marked quotient -/
def quM (x y : Int) : Nat := qst (fv x).1.natAbs (fv y).1.natAbs (rK (fv x).1.natAbs (fv y).1.natAbs)
def quE (x y : Int) : Int := (fv x).2 - (fv y).2 - (rK (fv x).1.natAbs (fv y).1.natAbs : Int) - 2
def dX (k : Nat) (s : Bool) (M : Nat) (e mode : Int) : Int := if k = 0 then 9221120237041090560 else if k = 1 then infX s else if k = 2 then sgb s else numX s M e mode
def dC (k : Nat) (s : Bool) (M : Nat) (e mode : Int) : Bool := if k = 3 then numC s M e mode else false
theorem kindQ_three {x y : Int} (h : kindQ x y = 3) : classOf x < 4 ∧ classOf x ≠ 1 ∧ classOf y < 4 ∧ classOf y ≠ 1 := by
  have b1 := class_bd x
  have b2 := class_bd y
  unfold kindQ kQ at h
  split at h
  · omega
  · rename_i h1
    split at h
    · omega
    · rename_i h2
      split at h
      · omega
      · rename_i h3
        simp only [Bool.or_eq_true, not_or, isNan, isInf, isZer, beq_iff_eq] at h1 h2 h3
        omega
end Go.Ulp
namespace Go.Proofs.YtfphmlmgjhebjaaGreatDoor
open Go.RowKit Go.Ulp
set_option linter.unusedVariables false
set_option linter.unusedSimpArgs false
set_option maxHeartbeats 4000000
set_option maxRecDepth 100000
theorem div_any (x y : Int) (hx : 0 ≤ x ∧ x < 18446744073709551616) (hy : 0 ≤ y ∧ y < 18446744073709551616) (mode : Int) (w : World) (hT : Tab 1 w) :
    Calls Tryz.prog 48 #[.int .u64 x, .int .u64 y, .int .i64 mode] w (RetX3 w (mdX mode (dX (kindQ x y) (sgx x y) (quM x y) (quE x y) mode)) (mdC mode (dC (kindQ x y) (sgx x y) (quM x y) (quE x y) mode)) (mdE mode)) := by
  have KN := hid (fun w => known_any mode w)
  have CX := hid (fun w => class_any x hx.1 hx.2 w)
  have CY := hid (fun w => class_any y hy.1 hy.2 w)
  have SG := hid (fun w => pSign_any x y hx hy w)
  have VX := hid (fun w t => value_any x hx.1 hx.2 w t)
  have VY := hid (fun w t => value_any y hy.1 hy.2 w t)
  have HT := hid hT
  have DV := hid (show kindQ x y = 3 → (∀ v u w, VD w (fv x) v → VD w (fv y) u → Calls Tryz.prog 103 #[v, u] w (RetDy w (sgx x y) (quM x y) (quE x y))) ∧ (∀ a c w, Ns .u32 w a c (limbs (quM x y)) → Calls Tryz.prog 86 #[.agg #[.bool (sgx x y), .slice a (limbs (quM x y)).length c, .int .i64 (quE x y)], .int .i64 mode] w (RetX w (numX (sgx x y) (quM x y) (quE x y) mode) (numC (sgx x y) (quM x y) (quE x y) mode))) from fun h3 => by
    obtain ⟨cx, dx, cy, dy⟩ := kindQ_three h3
    have fx := fv_nz x hx.1 hx.2 cx dx
    have fy := fv_nz y hy.1 hy.2 cy dy
    obtain ⟨-, b1, b2, b3⟩ := fv_bd x hx.1 hx.2
    obtain ⟨-, d1, d2, d3⟩ := fv_bd y hy.1 hy.2
    have sx := fv_sign x (by omega)
    have sy := fv_sign y (by omega)
    obtain ⟨q1, q2, q3⟩ := qst_bd _ _ b1 d1 (by omega) (by omega)
    refine ⟨fun v u w hv hu => ?_, fun a c w h => ?_⟩
    · obtain ⟨am, cm, rfl, hN⟩ := hv
      obtain ⟨bm, dm, rfl, hM⟩ := hu
      have h9 := ratio_any (decide ((fv x).1 < 0)) (decide ((fv y).1 < 0)) am bm cm dm _ _ (fv x).2 (fv y).2 w hN hM b1 d1 (by omega) (by omega) (by omega)
      rw [sx, sy] at h9
      rw [sx, sy]
      exact h9
    · exact number_any (sgx x y) a c (quM x y) (quE x y) mode w h (Nat.le_trans (limbs_short 200 10 (by omega) _ q2) (by omega)) (by unfold quE; omega) (fun h9 => by unfold quM at h9; omega))
  have hk3 : kindQ x y ≤ 3 := kQ_le _ _ _ _ _ _
  have HK := hid (show kindQ x y = kQ (classOf x == 5) (classOf y == 5) (classOf x == 4) (classOf y == 4) (classOf x == 1) (classOf y == 1) from rfl)
  generalize quM x y = QM at *
  generalize quE x y = QE at *
  generalize sgx x y = s at *
  have OI := hid (show bits .or .u64 9218868437227405312 (sgb s) = infX s by rw [infX_eq]; exact or_sgb s _ _ rfl (by omega) (by omega))
  generalize kindQ x y = k at *
  generalize classOf x = a at *
  generalize classOf y = b at *
  generalize fv x = X at *
  generalize fv y = Y at *
  obtain ⟨x0, x1⟩ := hx
  obtain ⟨y0, y1⟩ := hy
  clear hT hk3
  cases hk : knownB mode
  · obtain ⟨e1, e2, e3⟩ := md_no hk (dX k s QM QE mode) (dC k s QM QE mode)
    rw [e1, e2, e3]
    rw [hk] at KN
    clear e1 e2 e3 hk
    go_enter Tryz.func48, Tryz.ntmps48
    go_wp2_with (go_at_call 78; (with_reducible refine (KN.out _).mono ?_); rintro en w1 ⟨rfl, rfl⟩)
    refine bodyPost_ret (by simp [results, Tryz.results48, go_sem]; try rfl) rfl ?_
    exact ⟨rfl, Below.refl _ _⟩
  · obtain ⟨e1, e2, e3⟩ := md_yes hk (dX k s QM QE mode) (dC k s QM QE mode)
    rw [e1, e2, e3]
    rw [hk] at KN
    clear e1 e2 e3 hk
    go_enter Tryz.func48, Tryz.ntmps48
    cases n0 : (a == 5)
    · cases n1 : (b == 5)
      · cases i0 : (a == 4)
        · cases z0 : (a == 1)
          · cases z1 : (b == 1)
            · cases i1 : (b == 4)
              · have hk3 : k = 3 := by
                  rw [HK.out]
                  simp only [n0, kQ, Bool.true_or, Bool.or_true, Bool.false_or, Bool.or_false, Bool.true_and, Bool.and_true, Bool.false_and, Bool.and_false, if_true, if_false, *]
                  try rfl
                have DR := hid (DV.out hk3).1
                have DN := hid (DV.out hk3).2
                clear DV
                subst hk3
                rw [show dX 3 s QM QE mode = numX s QM QE mode from rfl, show dC 3 s QM QE mode = numC s QM QE mode from rfl]
                clear HK OI
                go_upto_region 10 with (first
                  | (go_at_call 78; (with_reducible refine (KN.out _).mono ?_); rintro en w1 ⟨rfl, rfl⟩)
                  | (go_at_call 33; (with_reducible refine (CX.out _).mono ?_); rintro en w1 ⟨rfl, rfl⟩)
                  | (go_at_call 33; (with_reducible refine (CY.out _).mono ?_); rintro en w1 ⟨rfl, rfl⟩)
                  | (go_at_call 102; (with_reducible refine (SG.out _).mono ?_); rintro en w1 ⟨rfl, rfl⟩))
                go_wp2_with (first
                  | (go_at_call 96; (with_reducible refine (VX.out _ HT.out).mono ?_); rintro en w2 ⟨v2, rfl, hv2, hb2⟩)
                  | (go_at_call 96; (with_reducible refine (VY.out _ (HT.out.below hb2)).mono ?_); rintro en w3 ⟨v3, rfl, hv3, hb3⟩)
                  | (go_at_call 103; (with_reducible refine (DR.out _ _ _ (hv2.below hb3) hv3).mono ?_); rintro en w4 ⟨a4, c4, rfl, hN4, hb4⟩)
                  | (go_at_call 86; (with_reducible refine (DN.out _ _ _ hN4).mono ?_); rintro en w5 ⟨rfl, hb5⟩))
                refine bodyPost_ret (by simp [results, Tryz.results48, go_sem]; try rfl) rfl ?_
                exact ⟨rfl, below_trans (below_trans (below_trans hb2 hb3) hb4) hb5⟩
              · go_wp2_with (first
                  | (go_at_call 78; (with_reducible refine (KN.out _).mono ?_); rintro en w1 ⟨rfl, rfl⟩)
                  | (go_at_call 33; (with_reducible refine (CX.out _).mono ?_); rintro en w1 ⟨rfl, rfl⟩)
                  | (go_at_call 33; (with_reducible refine (CY.out _).mono ?_); rintro en w1 ⟨rfl, rfl⟩)
                  | (go_at_call 102; (with_reducible refine (SG.out _).mono ?_); rintro en w1 ⟨rfl, rfl⟩))
                refine bodyPost_ret (by simp [results, Tryz.results48, go_sem]; try rfl) rfl ?_
                refine ⟨ret3 ?_ ?_ rfl, Below.refl _ _⟩
                · rw [HK.out]
                  simp only [n0, kQ, dX, Bool.true_or, Bool.or_true, Bool.false_or, Bool.or_false, Bool.true_and, Bool.and_true, Bool.false_and, Bool.and_false, if_true, if_false, *]
                  try (first | exact OI.out | rfl | simp [OI.out])
                · rw [HK.out]
                  simp only [n0, kQ, dC, Bool.true_or, Bool.or_true, Bool.false_or, Bool.or_false, Bool.true_and, Bool.and_true, Bool.false_and, Bool.and_false, if_true, if_false, *]
                  try (first | rfl | simp)
            · have i1 : (b == 4) = false := by have := beq_iff_eq.1 z1; rw [beq_eq_false_iff_ne]; omega
              go_wp2_with (first
                | (go_at_call 78; (with_reducible refine (KN.out _).mono ?_); rintro en w1 ⟨rfl, rfl⟩)
                | (go_at_call 33; (with_reducible refine (CX.out _).mono ?_); rintro en w1 ⟨rfl, rfl⟩)
                | (go_at_call 33; (with_reducible refine (CY.out _).mono ?_); rintro en w1 ⟨rfl, rfl⟩)
                | (go_at_call 102; (with_reducible refine (SG.out _).mono ?_); rintro en w1 ⟨rfl, rfl⟩))
              refine bodyPost_ret (by simp [results, Tryz.results48, go_sem]; try rfl) rfl ?_
              refine ⟨ret3 ?_ ?_ rfl, Below.refl _ _⟩
              · rw [HK.out]
                simp only [n0, kQ, dX, Bool.true_or, Bool.or_true, Bool.false_or, Bool.or_false, Bool.true_and, Bool.and_true, Bool.false_and, Bool.and_false, if_true, if_false, *]
                try (first | exact OI.out | rfl | simp [OI.out])
              · rw [HK.out]
                simp only [n0, kQ, dC, Bool.true_or, Bool.or_true, Bool.false_or, Bool.or_false, Bool.true_and, Bool.and_true, Bool.false_and, Bool.and_false, if_true, if_false, *]
                try (first | rfl | simp)
          · cases z1 : (b == 1)
            · cases i1 : (b == 4)
              · go_wp2_with (first
                  | (go_at_call 78; (with_reducible refine (KN.out _).mono ?_); rintro en w1 ⟨rfl, rfl⟩)
                  | (go_at_call 33; (with_reducible refine (CX.out _).mono ?_); rintro en w1 ⟨rfl, rfl⟩)
                  | (go_at_call 33; (with_reducible refine (CY.out _).mono ?_); rintro en w1 ⟨rfl, rfl⟩)
                  | (go_at_call 102; (with_reducible refine (SG.out _).mono ?_); rintro en w1 ⟨rfl, rfl⟩))
                refine bodyPost_ret (by simp [results, Tryz.results48, go_sem]; try rfl) rfl ?_
                refine ⟨ret3 ?_ ?_ rfl, Below.refl _ _⟩
                · rw [HK.out]
                  simp only [n0, kQ, dX, Bool.true_or, Bool.or_true, Bool.false_or, Bool.or_false, Bool.true_and, Bool.and_true, Bool.false_and, Bool.and_false, if_true, if_false, *]
                  try (first | exact OI.out | rfl | simp [OI.out])
                · rw [HK.out]
                  simp only [n0, kQ, dC, Bool.true_or, Bool.or_true, Bool.false_or, Bool.or_false, Bool.true_and, Bool.and_true, Bool.false_and, Bool.and_false, if_true, if_false, *]
                  try (first | rfl | simp)
              · go_wp2_with (first
                  | (go_at_call 78; (with_reducible refine (KN.out _).mono ?_); rintro en w1 ⟨rfl, rfl⟩)
                  | (go_at_call 33; (with_reducible refine (CX.out _).mono ?_); rintro en w1 ⟨rfl, rfl⟩)
                  | (go_at_call 33; (with_reducible refine (CY.out _).mono ?_); rintro en w1 ⟨rfl, rfl⟩)
                  | (go_at_call 102; (with_reducible refine (SG.out _).mono ?_); rintro en w1 ⟨rfl, rfl⟩))
                refine bodyPost_ret (by simp [results, Tryz.results48, go_sem]; try rfl) rfl ?_
                refine ⟨ret3 ?_ ?_ rfl, Below.refl _ _⟩
                · rw [HK.out]
                  simp only [n0, kQ, dX, Bool.true_or, Bool.or_true, Bool.false_or, Bool.or_false, Bool.true_and, Bool.and_true, Bool.false_and, Bool.and_false, if_true, if_false, *]
                  try (first | exact OI.out | rfl | simp [OI.out])
                · rw [HK.out]
                  simp only [n0, kQ, dC, Bool.true_or, Bool.or_true, Bool.false_or, Bool.or_false, Bool.true_and, Bool.and_true, Bool.false_and, Bool.and_false, if_true, if_false, *]
                  try (first | rfl | simp)
            · go_wp2_with (first
                | (go_at_call 78; (with_reducible refine (KN.out _).mono ?_); rintro en w1 ⟨rfl, rfl⟩)
                | (go_at_call 33; (with_reducible refine (CX.out _).mono ?_); rintro en w1 ⟨rfl, rfl⟩)
                | (go_at_call 33; (with_reducible refine (CY.out _).mono ?_); rintro en w1 ⟨rfl, rfl⟩)
                | (go_at_call 102; (with_reducible refine (SG.out _).mono ?_); rintro en w1 ⟨rfl, rfl⟩))
              refine bodyPost_ret (by simp [results, Tryz.results48, go_sem]; try rfl) rfl ?_
              refine ⟨ret3 ?_ ?_ rfl, Below.refl _ _⟩
              · rw [HK.out]
                simp only [n0, kQ, dX, Bool.true_or, Bool.or_true, Bool.false_or, Bool.or_false, Bool.true_and, Bool.and_true, Bool.false_and, Bool.and_false, if_true, if_false, *]
                try (first | exact OI.out | rfl | simp [OI.out])
              · rw [HK.out]
                simp only [n0, kQ, dC, Bool.true_or, Bool.or_true, Bool.false_or, Bool.or_false, Bool.true_and, Bool.and_true, Bool.false_and, Bool.and_false, if_true, if_false, *]
                try (first | rfl | simp)
        · have z0 : (a == 1) = false := by have := beq_iff_eq.1 i0; rw [beq_eq_false_iff_ne]; omega
          cases i1 : (b == 4)
          · cases z1 : (b == 1)
            · go_wp2_with (first
                | (go_at_call 78; (with_reducible refine (KN.out _).mono ?_); rintro en w1 ⟨rfl, rfl⟩)
                | (go_at_call 33; (with_reducible refine (CX.out _).mono ?_); rintro en w1 ⟨rfl, rfl⟩)
                | (go_at_call 33; (with_reducible refine (CY.out _).mono ?_); rintro en w1 ⟨rfl, rfl⟩)
                | (go_at_call 102; (with_reducible refine (SG.out _).mono ?_); rintro en w1 ⟨rfl, rfl⟩))
              refine bodyPost_ret (by simp [results, Tryz.results48, go_sem]; try rfl) rfl ?_
              refine ⟨ret3 ?_ ?_ rfl, Below.refl _ _⟩
              · rw [HK.out]
                simp only [n0, kQ, dX, Bool.true_or, Bool.or_true, Bool.false_or, Bool.or_false, Bool.true_and, Bool.and_true, Bool.false_and, Bool.and_false, if_true, if_false, *]
                try (first | exact OI.out | rfl | simp [OI.out])
              · rw [HK.out]
                simp only [n0, kQ, dC, Bool.true_or, Bool.or_true, Bool.false_or, Bool.or_false, Bool.true_and, Bool.and_true, Bool.false_and, Bool.and_false, if_true, if_false, *]
                try (first | rfl | simp)
            · go_wp2_with (first
                | (go_at_call 78; (with_reducible refine (KN.out _).mono ?_); rintro en w1 ⟨rfl, rfl⟩)
                | (go_at_call 33; (with_reducible refine (CX.out _).mono ?_); rintro en w1 ⟨rfl, rfl⟩)
                | (go_at_call 33; (with_reducible refine (CY.out _).mono ?_); rintro en w1 ⟨rfl, rfl⟩)
                | (go_at_call 102; (with_reducible refine (SG.out _).mono ?_); rintro en w1 ⟨rfl, rfl⟩))
              refine bodyPost_ret (by simp [results, Tryz.results48, go_sem]; try rfl) rfl ?_
              refine ⟨ret3 ?_ ?_ rfl, Below.refl _ _⟩
              · rw [HK.out]
                simp only [n0, kQ, dX, Bool.true_or, Bool.or_true, Bool.false_or, Bool.or_false, Bool.true_and, Bool.and_true, Bool.false_and, Bool.and_false, if_true, if_false, *]
                try (first | exact OI.out | rfl | simp [OI.out])
              · rw [HK.out]
                simp only [n0, kQ, dC, Bool.true_or, Bool.or_true, Bool.false_or, Bool.or_false, Bool.true_and, Bool.and_true, Bool.false_and, Bool.and_false, if_true, if_false, *]
                try (first | rfl | simp)
          · go_wp2_with (first
              | (go_at_call 78; (with_reducible refine (KN.out _).mono ?_); rintro en w1 ⟨rfl, rfl⟩)
              | (go_at_call 33; (with_reducible refine (CX.out _).mono ?_); rintro en w1 ⟨rfl, rfl⟩)
              | (go_at_call 33; (with_reducible refine (CY.out _).mono ?_); rintro en w1 ⟨rfl, rfl⟩)
              | (go_at_call 102; (with_reducible refine (SG.out _).mono ?_); rintro en w1 ⟨rfl, rfl⟩))
            refine bodyPost_ret (by simp [results, Tryz.results48, go_sem]; try rfl) rfl ?_
            refine ⟨ret3 ?_ ?_ rfl, Below.refl _ _⟩
            · rw [HK.out]
              simp only [n0, kQ, dX, Bool.true_or, Bool.or_true, Bool.false_or, Bool.or_false, Bool.true_and, Bool.and_true, Bool.false_and, Bool.and_false, if_true, if_false, *]
              try (first | exact OI.out | rfl | simp [OI.out])
            · rw [HK.out]
              simp only [n0, kQ, dC, Bool.true_or, Bool.or_true, Bool.false_or, Bool.or_false, Bool.true_and, Bool.and_true, Bool.false_and, Bool.and_false, if_true, if_false, *]
              try (first | rfl | simp)
      · go_wp2_with (first
          | (go_at_call 78; (with_reducible refine (KN.out _).mono ?_); rintro en w1 ⟨rfl, rfl⟩)
          | (go_at_call 33; (with_reducible refine (CX.out _).mono ?_); rintro en w1 ⟨rfl, rfl⟩)
          | (go_at_call 33; (with_reducible refine (CY.out _).mono ?_); rintro en w1 ⟨rfl, rfl⟩)
          | (go_at_call 102; (with_reducible refine (SG.out _).mono ?_); rintro en w1 ⟨rfl, rfl⟩))
        refine bodyPost_ret (by simp [results, Tryz.results48, go_sem]; try rfl) rfl ?_
        refine ⟨ret3 ?_ ?_ rfl, Below.refl _ _⟩
        · rw [HK.out]
          simp only [n0, kQ, dX, Bool.true_or, Bool.or_true, Bool.false_or, Bool.or_false, Bool.true_and, Bool.and_true, Bool.false_and, Bool.and_false, if_true, if_false, *]
          try (first | exact OI.out | rfl | simp [OI.out])
        · rw [HK.out]
          simp only [n0, kQ, dC, Bool.true_or, Bool.or_true, Bool.false_or, Bool.or_false, Bool.true_and, Bool.and_true, Bool.false_and, Bool.and_false, if_true, if_false, *]
          try (first | rfl | simp)
    · go_wp2_with (first
        | (go_at_call 78; (with_reducible refine (KN.out _).mono ?_); rintro en w1 ⟨rfl, rfl⟩)
        | (go_at_call 33; (with_reducible refine (CX.out _).mono ?_); rintro en w1 ⟨rfl, rfl⟩)
        | (go_at_call 33; (with_reducible refine (CY.out _).mono ?_); rintro en w1 ⟨rfl, rfl⟩)
        | (go_at_call 102; (with_reducible refine (SG.out _).mono ?_); rintro en w1 ⟨rfl, rfl⟩))
      refine bodyPost_ret (by simp [results, Tryz.results48, go_sem]; try rfl) rfl ?_
      refine ⟨ret3 ?_ ?_ rfl, Below.refl _ _⟩
      · rw [HK.out]
        simp only [n0, kQ, dX, Bool.true_or, Bool.or_true, Bool.false_or, Bool.or_false, Bool.true_and, Bool.and_true, Bool.false_and, Bool.and_false, if_true, if_false, *]
        try (first | exact OI.out | rfl | simp [OI.out])
      · rw [HK.out]
        simp only [n0, kQ, dC, Bool.true_or, Bool.or_true, Bool.false_or, Bool.or_false, Bool.true_and, Bool.and_true, Bool.false_and, Bool.and_false, if_true, if_false, *]
        try (first | rfl | simp)
end Go.Proofs.YtfphmlmgjhebjaaGreatDoor

set_option linter.unusedVariables false
set_option linter.unusedSimpArgs false
namespace Go.Proofs.YtfphmlmgjhebjaaGreatDoor
open Go.RowKit Go.Ulp
set_option linter.unusedVariables false
set_option linter.unusedSimpArgs false
set_option maxHeartbeats 2000000
set_option maxRecDepth 100000
/-- a corner of a product -/
def mulR (x y : Nat) (mode : Int) : Int := if x = 0 ∨ y = 0 then 0 else pX (kindP (x : Int) (y : Int)) (sgx (x : Int) (y : Int)) (mulD (fv (x : Int)) (fv (y : Int))) mode
/-- a corner of a quotient -/
def divO (x y : Nat) : Bool := hasVal (x : Int) || hasVal (y : Int)
def divR (x y : Nat) (mode : Int) : Int := if divO x y = true then dX (kindQ (x : Int) (y : Int)) (sgx (x : Int) (y : Int)) (quM (x : Int) (y : Int)) (quE (x : Int) (y : Int)) mode else 0
theorem mulC_any (x y : Nat) (hx : x < 18446744073709551616) (hy : y < 18446744073709551616) (mode : Int) (hm : mode = 1 ∨ mode = 2) (w : World) (hT : Tab 1 w) :
    Calls Tryz.prog 43 #[.int .u64 (x : Int), .int .u64 (y : Int), .int .i64 mode] w fun e w' => e = .returned (.tuple #[.int .u64 (mulR x y mode), .bool true]) ∧ Below w.heap.size w w' := by
  have PM := hid (fun w t => prodMul_any (x : Int) (y : Int) ⟨by omega, by omega⟩ ⟨by omega, by omega⟩ mode w t)
  have hk : knownB mode = true := by unfold knownB; rcases hm with h | h <;> subst h <;> rfl
  rw [(md_yes hk (pX (kindP (x : Int) (y : Int)) (sgx (x : Int) (y : Int)) (mulD (fv (x : Int)) (fv (y : Int))) mode) (pC (kindP (x : Int) (y : Int)) (mulD (fv (x : Int)) (fv (y : Int))) mode)).1] at PM
  have HR : (x = 0 ∨ y = 0 → mulR x y mode = 0) ∧ (¬ (x = 0 ∨ y = 0) → mulR x y mode = pX (kindP (x : Int) (y : Int)) (sgx (x : Int) (y : Int)) (mulD (fv (x : Int)) (fv (y : Int))) mode) := ⟨fun h => by unfold mulR; rw [if_pos h], fun h => by unfold mulR; rw [if_neg h]⟩
  generalize pX (kindP (x : Int) (y : Int)) (sgx (x : Int) (y : Int)) (mulD (fv (x : Int)) (fv (y : Int))) mode = X at *
  generalize mdC mode (pC (kindP (x : Int) (y : Int)) (mulD (fv (x : Int)) (fv (y : Int))) mode) = C at *
  generalize mdE mode = F at *
  generalize mulR x y mode = R at *
  have HT := hid hT
  clear hT hk hm
  by_cases hx0 : x = 0
  · obtain rfl := HR.1 (.inl hx0)
    have b1 : ((x : Int) == 0) = true := by rw [beq_iff_eq]; omega
    clear HR PM
    go_enter Tryz.func43, Tryz.ntmps43
    go_wp2_with fail
    go_ret2
    exact ⟨rfl, Below.refl _ _⟩
  · have b1 : ((x : Int) == 0) = false := by rw [beq_eq_false_iff_ne]; omega
    by_cases hy0 : y = 0
    · obtain rfl := HR.1 (.inr hy0)
      have b2 : ((y : Int) == 0) = true := by rw [beq_iff_eq]; omega
      clear HR PM
      go_enter Tryz.func43, Tryz.ntmps43
      go_wp2_with fail
      go_ret2
      exact ⟨rfl, Below.refl _ _⟩
    · obtain rfl := HR.2 (fun h => h.elim hx0 hy0)
      have b2 : ((y : Int) == 0) = false := by rw [beq_eq_false_iff_ne]; omega
      clear HR
      go_enter Tryz.func43, Tryz.ntmps43
      go_wp2_with (go_at_call 44; (with_reducible refine (PM.out _ HT.out).mono ?_); rintro en w2 ⟨rfl, hb2⟩)
      go_ret2
      exact ⟨rfl, hb2⟩
theorem divC_any (x y : Nat) (hx : x < 18446744073709551616) (hy : y < 18446744073709551616) (mode : Int) (hm : mode = 1 ∨ mode = 2) (w : World) (hT : Tab 1 w) :
    Calls Tryz.prog 46 #[.int .u64 (x : Int), .int .u64 (y : Int), .int .i64 mode] w fun e w' => e = .returned (.tuple #[.int .u64 (divR x y mode), .bool (divO x y)]) ∧ Below w.heap.size w w' := by
  have DV := hid (fun w t => div_any (x : Int) (y : Int) ⟨by omega, by omega⟩ ⟨by omega, by omega⟩ mode w t)
  have HX := hid (fun w => hasValue_any (x : Int) (by omega) (by omega) w)
  have HY := hid (fun w => hasValue_any (y : Int) (by omega) (by omega) w)
  have hk : knownB mode = true := by unfold knownB; rcases hm with h | h <;> subst h <;> rfl
  rw [(md_yes hk (dX (kindQ (x : Int) (y : Int)) (sgx (x : Int) (y : Int)) (quM (x : Int) (y : Int)) (quE (x : Int) (y : Int)) mode) false).1] at DV
  have HR : (divO x y = false → divR x y mode = 0) ∧ (divO x y = true → divR x y mode = dX (kindQ (x : Int) (y : Int)) (sgx (x : Int) (y : Int)) (quM (x : Int) (y : Int)) (quE (x : Int) (y : Int)) mode) := ⟨fun h => by unfold divR; rw [h]; rfl, fun h => by unfold divR; rw [if_pos h]⟩
  have HO : divO x y = (hasVal (x : Int) || hasVal (y : Int)) := rfl
  generalize dX (kindQ (x : Int) (y : Int)) (sgx (x : Int) (y : Int)) (quM (x : Int) (y : Int)) (quE (x : Int) (y : Int)) mode = X at *
  generalize divR x y mode = R at *
  generalize divO x y = O at *
  generalize hasVal (x : Int) = vx at *
  generalize hasVal (y : Int) = vy at *
  have HT := hid hT
  clear hT hk hm
  cases vx
  · cases vy
    · have hO : O = false := HO
      subst hO
      obtain rfl := HR.1 rfl
      clear HR DV HO
      go_enter Tryz.func46, Tryz.ntmps46
      go_wp2_with (go_at_call 47; first | ((with_reducible refine (HX.out _).mono ?_); rintro en w1 ⟨rfl, rfl⟩) | ((with_reducible refine (HY.out _).mono ?_); rintro en w1 ⟨rfl, rfl⟩))
      go_ret2
      exact ⟨rfl, Below.refl _ _⟩
    · have hO : O = true := HO
      subst hO
      obtain rfl := HR.2 rfl
      clear HR HO
      go_enter Tryz.func46, Tryz.ntmps46
      go_wp2_with (first
        | (go_at_call 47; first | ((with_reducible refine (HX.out _).mono ?_); rintro en w1 ⟨rfl, rfl⟩) | ((with_reducible refine (HY.out _).mono ?_); rintro en w1 ⟨rfl, rfl⟩))
        | (go_at_call 48; (with_reducible refine (DV.out _ HT.out).mono ?_); rintro en w2 ⟨rfl, hb2⟩))
      go_ret2
      exact ⟨rfl, hb2⟩
  · have hO : O = true := by rw [HO]; rfl
    subst hO
    obtain rfl := HR.2 rfl
    clear HR HO
    go_enter Tryz.func46, Tryz.ntmps46
    go_wp2_with (first
      | (go_at_call 47; first | ((with_reducible refine (HX.out _).mono ?_); rintro en w1 ⟨rfl, rfl⟩) | ((with_reducible refine (HY.out _).mono ?_); rintro en w1 ⟨rfl, rfl⟩))
      | (go_at_call 48; (with_reducible refine (DV.out _ HT.out).mono ?_); rintro en w2 ⟨rfl, hb2⟩))
    go_ret2
    exact ⟨rfl, hb2⟩
theorem sgb_bd (s : Bool) : 0 ≤ sgb s ∧ sgb s < 18446744073709551616 := by cases s <;> decide
theorem infX_bd (s : Bool) : 0 ≤ infX s ∧ infX s < 18446744073709551616 := by cases s <;> decide
theorem pX_u64 (k : Nat) (s : Bool) (D : Dy) (mode : Int) : U64 (pX k s D mode) := by
  unfold pX
  split
  · exact ⟨by omega, by omega⟩
  · split
    · exact infX_bd s
    · split
      · exact sgb_bd s
      · exact rX_bd D mode
theorem dX_u64 (k : Nat) (s : Bool) (M : Nat) (e mode : Int) : U64 (dX k s M e mode) := by
  unfold dX
  split
  · exact ⟨by omega, by omega⟩
  · split
    · exact infX_bd s
    · split
      · exact sgb_bd s
      · exact capX_bd _ _ _ (numR_nonneg _ _ _ _)
theorem mulR_u64 (x y : Nat) (mode : Int) : U64 (mulR x y mode) := by
  unfold mulR; split
  · exact ⟨by omega, by omega⟩
  · exact pX_u64 _ _ _ _
theorem divR_u64 (x y : Nat) (mode : Int) : U64 (divR x y mode) := by
  unfold divR; split
  · exact dX_u64 _ _ _ _ _
  · exact ⟨by omega, by omega⟩
theorem ent_mul1 (args : Array Value) (w : World) : Sem.run Tryz.prog (callFunc 43 args) w = .ok (.enter 43 args) w := by simp [callFunc, go_sem, Tryz.func43, Tryz.f43]
theorem ent_div1 (args : Array Value) (w : World) : Sem.run Tryz.prog (callFunc 46 args) w = .ok (.enter 46 args) w := by simp [callFunc, go_sem, Tryz.func46, Tryz.f46]
def mulT (l h m i : Nat) : Bool × Int × Int := cstN (fun _ _ => true) mulR l h m i 4
def divT (l h m i : Nat) : Bool × Int × Int := cstN divO divR l h m i 4
def mulV (l h m i : Nat) : Array Value := if checkE l h m i = 0 then #[.int .u64 (plainOf (mulT l h m i).2.1), .int .u64 (plainOf (mulT l h m i).2.2)] else #[.int .u64 0, .int .u64 0]
def hasZ (m i : Nat) : Bool := leB (m : Int) 0 && leB 0 (i : Int)
def divE (l h m i : Nat) : Int := if checkE l h m i = 0 then (if hasZ m i = true then 1 else 0) else checkE l h m i
def divV (l h m i : Nat) : Array Value := if divE l h m i = 0 then #[.int .u64 (plainOf (divT l h m i).2.1), .int .u64 (plainOf (divT l h m i).2.2)] else #[.int .u64 0, .int .u64 0]
theorem spanMul_any (l h m i : Nat) (hl : l < 18446744073709551616) (hh : h < 18446744073709551616) (hm : m < 18446744073709551616) (hi : i < 18446744073709551616) (w : World) (hT : Tab 1 w) :
    Calls Tryz.prog 9 #[.agg #[.int .u64 (l : Int), .int .u64 (h : Int)], .agg #[.int .u64 (m : Int), .int .u64 (i : Int)]] w fun e w' => e = .returned (.tuple #[.agg (mulV l h m i), .int .i64 (checkE l h m i)]) ∧ Below w.heap.size w w' := by
  have A := hid (fun w => spanCheck2_any l h m i (u64N hl) (u64N hh) (u64N hm) (u64N hi) w)
  have CO := hid (fun w t => corners_any 43 (fun _ _ => true) mulR l h m i hl hh hm hi w t ent_mul1 mulR_u64 (fun x y hx hy mode hmd w' t' => mulC_any x y hx hy mode hmd w' t'))
  have HT := hid hT
  obtain ⟨E, hE⟩ : ∃ E, E = checkE l h m i := ⟨_, rfl⟩
  have hV : mulV l h m i = if E = 0 then #[.int .u64 (plainOf (mulT l h m i).2.1), .int .u64 (plainOf (mulT l h m i).2.2)] else #[.int .u64 0, .int .u64 0] := by rw [hE]; rfl
  rw [show cstN (fun _ _ => true) mulR l h m i 4 = mulT l h m i from rfl] at CO
  rw [hV, ← hE]
  rw [← hE] at A
  generalize plainOf (mulT l h m i).2.1 = X at *
  generalize plainOf (mulT l h m i).2.2 = Y at *
  clear hT hV hl hh hm hi
  by_cases h0 : E = 0
  · subst h0
    clear hE
    go_enter Tryz.func9, Tryz.ntmps9
    go_wp2_with fail
    have yA : SV (((w.alloc (.cells #[.int .u64 l, .int .u64 h] 24)).alloc (.cells #[.int .u64 m, .int .u64 i] 24)).alloc (.cells #[.int .u64 0, .int .u64 0] 24)) w.heap.size l h := ((SV.made rfl).alloc _).alloc _
    have yB : SV (((w.alloc (.cells #[.int .u64 l, .int .u64 h] 24)).alloc (.cells #[.int .u64 m, .int .u64 i] 24)).alloc (.cells #[.int .u64 0, .int .u64 0] 24)) (w.heap.size + 1) m i := (SV.made (by first | omega | (simp; done) | (simp; omega))).alloc _
    have yC : SV (((w.alloc (.cells #[.int .u64 l, .int .u64 h] 24)).alloc (.cells #[.int .u64 m, .int .u64 i] 24)).alloc (.cells #[.int .u64 0, .int .u64 0] 24)) (w.heap.size + 1 + 1) 0 0 := SV.made (by first | omega | (simp; done) | (simp; omega))
    refine (A.out _).mono ?_
    rintro e w1 ⟨rfl, hb1⟩
    have yb : Below w.heap.size w w1 := by (repeat' (first | (with_reducible assumption) | (with_reducible exact Below.refl _ _) | (with_reducible refine below_al ?_ _) | (with_reducible refine below_drewN ?_ _) | (with_reducible refine Below.drew ?_) | (with_reducible refine Below.alloc ?_ ?_ _) | (with_reducible refine Below.setCell ?_ ?_ _) | (refine below_trans ?_ (by assumption)) | go_size))
    have zA := yA.below hb1
    have zB := yB.below hb1
    have zC := yC.below hb1
    clear yA yB yC hb1 A
    obtain ⟨a0, a1, -, -⟩ := id zA
    obtain ⟨b0, b1, -, -⟩ := id zB
    go_wp2_with (go_at_call 42; (with_reducible refine (CO.out _ (HT.out.below yb)).mono ?_); rintro en w2 ⟨rfl, hb2⟩; obtain ⟨k0, k1, f0, f1⟩ := zC.below hb2)
    have yb2 := below_trans yb hb2
    refine bodyPost_ret (by simp [results, Tryz.results9, go_sem, k0, k1]; try rfl) rfl ?_
    exact ⟨by first | rfl | simp, by (repeat' (first | (with_reducible assumption) | (with_reducible exact Below.refl _ _) | (with_reducible refine below_al ?_ _) | (with_reducible refine below_drewN ?_ _) | (with_reducible refine Below.drew ?_) | (with_reducible refine Below.alloc ?_ ?_ _) | (with_reducible refine Below.setCell ?_ ?_ _) | (refine below_trans ?_ (by assumption)) | go_size))⟩
  · have hb0 : (E == 0) = false := by simpa using h0
    have hb1 : (E != 0) = true := by simpa using h0
    clear hE
    go_enter Tryz.func9, Tryz.ntmps9
    go_wp2_with fail
    have yA : SV (((w.alloc (.cells #[.int .u64 l, .int .u64 h] 24)).alloc (.cells #[.int .u64 m, .int .u64 i] 24)).alloc (.cells #[.int .u64 0, .int .u64 0] 24)) w.heap.size l h := ((SV.made rfl).alloc _).alloc _
    have yB : SV (((w.alloc (.cells #[.int .u64 l, .int .u64 h] 24)).alloc (.cells #[.int .u64 m, .int .u64 i] 24)).alloc (.cells #[.int .u64 0, .int .u64 0] 24)) (w.heap.size + 1) m i := (SV.made (by first | omega | (simp; done) | (simp; omega))).alloc _
    have yC : SV (((w.alloc (.cells #[.int .u64 l, .int .u64 h] 24)).alloc (.cells #[.int .u64 m, .int .u64 i] 24)).alloc (.cells #[.int .u64 0, .int .u64 0] 24)) (w.heap.size + 1 + 1) 0 0 := SV.made (by first | omega | (simp; done) | (simp; omega))
    refine (A.out _).mono ?_
    rintro e w1 ⟨rfl, hb1⟩
    have yb : Below w.heap.size w w1 := by (repeat' (first | (with_reducible assumption) | (with_reducible exact Below.refl _ _) | (with_reducible refine below_al ?_ _) | (with_reducible refine below_drewN ?_ _) | (with_reducible refine Below.drew ?_) | (with_reducible refine Below.alloc ?_ ?_ _) | (with_reducible refine Below.setCell ?_ ?_ _) | (refine below_trans ?_ (by assumption)) | go_size))
    have zA := yA.below hb1
    have zB := yB.below hb1
    have zC := yC.below hb1
    clear yA yB yC hb1 A
    obtain ⟨k0, k1, f0, f1⟩ := id zC
    go_wp2_with fail
    refine bodyPost_ret (by simp [results, Tryz.results9, go_sem, k0, k1]; try rfl) rfl ?_
    exact ⟨by simp [h0], by (repeat' (first | (with_reducible assumption) | (with_reducible exact Below.refl _ _) | (with_reducible refine below_al ?_ _) | (with_reducible refine below_drewN ?_ _) | (with_reducible refine Below.drew ?_) | (with_reducible refine Below.alloc ?_ ?_ _) | (with_reducible refine Below.setCell ?_ ?_ _) | (refine below_trans ?_ (by assumption)) | go_size))⟩
theorem spanDiv_any (l h m i : Nat) (hl : l < 18446744073709551616) (hh : h < 18446744073709551616) (hm : m < 18446744073709551616) (hi : i < 18446744073709551616) (w : World) (hT : Tab 1 w) :
    Calls Tryz.prog 10 #[.agg #[.int .u64 (l : Int), .int .u64 (h : Int)], .agg #[.int .u64 (m : Int), .int .u64 (i : Int)]] w fun e w' => e = .returned (.tuple #[.agg (divV l h m i), .int .i64 (divE l h m i)]) ∧ Below w.heap.size w w' := by
  have A := hid (fun w => spanCheck2_any l h m i (u64N hl) (u64N hh) (u64N hm) (u64N hi) w)
  have CO := hid (fun w t => corners_any 46 divO divR l h m i hl hh hm hi w t ent_div1 divR_u64 (fun x y hx hy mode hmd w' t' => divC_any x y hx hy mode hmd w' t'))
  have HA := hid (show ∀ w, Calls Tryz.prog 45 #[.agg #[.int .u64 (m : Int), .int .u64 (i : Int)], .int .u64 0] w fun e w' => e = .returned (.bool (hasZ m i)) ∧ Below w.heap.size w w' from fun w => spanHasIn_any m i 0 (u64N hm) (u64N hi) ⟨by omega, by omega⟩ w)
  have HT := hid hT
  obtain ⟨E, hE⟩ : ∃ E, E = checkE l h m i := ⟨_, rfl⟩
  obtain ⟨Z, hZ⟩ : ∃ Z, Z = hasZ m i := ⟨_, rfl⟩
  have hW : divE l h m i = if E = 0 then (if Z = true then 1 else 0) else E := by rw [hE, hZ]; rfl
  have hV : divV l h m i = if (if E = 0 then (if Z = true then 1 else 0) else E) = 0 then #[.int .u64 (plainOf (divT l h m i).2.1), .int .u64 (plainOf (divT l h m i).2.2)] else #[.int .u64 0, .int .u64 0] := by rw [← hW]; rfl
  rw [show cstN divO divR l h m i 4 = divT l h m i from rfl] at CO
  rw [hV, hW]
  rw [← hE] at A
  rw [← hZ] at HA
  generalize plainOf (divT l h m i).2.1 = X at *
  generalize plainOf (divT l h m i).2.2 = Y at *
  clear hT hV hW hZ hl hh hm hi
  by_cases h0 : E = 0
  · subst h0
    clear hE
    cases Z
    · go_enter Tryz.func10, Tryz.ntmps10
      go_wp2_with fail
      have yA : SV (((w.alloc (.cells #[.int .u64 l, .int .u64 h] 24)).alloc (.cells #[.int .u64 m, .int .u64 i] 24)).alloc (.cells #[.int .u64 0, .int .u64 0] 24)) w.heap.size l h := ((SV.made rfl).alloc _).alloc _
      have yB : SV (((w.alloc (.cells #[.int .u64 l, .int .u64 h] 24)).alloc (.cells #[.int .u64 m, .int .u64 i] 24)).alloc (.cells #[.int .u64 0, .int .u64 0] 24)) (w.heap.size + 1) m i := (SV.made (by first | omega | (simp; done) | (simp; omega))).alloc _
      have yC : SV (((w.alloc (.cells #[.int .u64 l, .int .u64 h] 24)).alloc (.cells #[.int .u64 m, .int .u64 i] 24)).alloc (.cells #[.int .u64 0, .int .u64 0] 24)) (w.heap.size + 1 + 1) 0 0 := SV.made (by first | omega | (simp; done) | (simp; omega))
      refine (A.out _).mono ?_
      rintro e w1 ⟨rfl, hb1⟩
      have yb : Below w.heap.size w w1 := by (repeat' (first | (with_reducible assumption) | (with_reducible exact Below.refl _ _) | (with_reducible refine below_al ?_ _) | (with_reducible refine below_drewN ?_ _) | (with_reducible refine Below.drew ?_) | (with_reducible refine Below.alloc ?_ ?_ _) | (with_reducible refine Below.setCell ?_ ?_ _) | (refine below_trans ?_ (by assumption)) | go_size))
      have zA := yA.below hb1
      have zB := yB.below hb1
      have zC := yC.below hb1
      clear yA yB yC hb1 A
      obtain ⟨b0, b1, -, -⟩ := id zB
      go_wp2_with (first
        | (go_at_call 45; (with_reducible refine (HA.out _).mono ?_); rintro en w2 ⟨rfl, hb2⟩; obtain ⟨a2, a3, -, -⟩ := zA.below hb2; obtain ⟨b2, b3, -, -⟩ := zB.below hb2)
        | (go_at_call 42; (with_reducible refine (CO.out _ (HT.out.below (below_trans yb hb2))).mono ?_); rintro en w3 ⟨rfl, hb3⟩; obtain ⟨k0, k1, f0, f1⟩ := (zC.below hb2).below hb3))
      have yb3 := below_trans (below_trans yb hb2) hb3
      refine bodyPost_ret (by simp [results, Tryz.results10, go_sem, k0, k1]; try rfl) rfl ?_
      exact ⟨by first | rfl | simp, by (repeat' (first | (with_reducible assumption) | (with_reducible exact Below.refl _ _) | (with_reducible refine below_al ?_ _) | (with_reducible refine below_drewN ?_ _) | (with_reducible refine Below.drew ?_) | (with_reducible refine Below.alloc ?_ ?_ _) | (with_reducible refine Below.setCell ?_ ?_ _) | (refine below_trans ?_ (by assumption)) | go_size))⟩
    · go_enter Tryz.func10, Tryz.ntmps10
      go_wp2_with fail
      have yA : SV (((w.alloc (.cells #[.int .u64 l, .int .u64 h] 24)).alloc (.cells #[.int .u64 m, .int .u64 i] 24)).alloc (.cells #[.int .u64 0, .int .u64 0] 24)) w.heap.size l h := ((SV.made rfl).alloc _).alloc _
      have yB : SV (((w.alloc (.cells #[.int .u64 l, .int .u64 h] 24)).alloc (.cells #[.int .u64 m, .int .u64 i] 24)).alloc (.cells #[.int .u64 0, .int .u64 0] 24)) (w.heap.size + 1) m i := (SV.made (by first | omega | (simp; done) | (simp; omega))).alloc _
      have yC : SV (((w.alloc (.cells #[.int .u64 l, .int .u64 h] 24)).alloc (.cells #[.int .u64 m, .int .u64 i] 24)).alloc (.cells #[.int .u64 0, .int .u64 0] 24)) (w.heap.size + 1 + 1) 0 0 := SV.made (by first | omega | (simp; done) | (simp; omega))
      refine (A.out _).mono ?_
      rintro e w1 ⟨rfl, hb1⟩
      have yb : Below w.heap.size w w1 := by (repeat' (first | (with_reducible assumption) | (with_reducible exact Below.refl _ _) | (with_reducible refine below_al ?_ _) | (with_reducible refine below_drewN ?_ _) | (with_reducible refine Below.drew ?_) | (with_reducible refine Below.alloc ?_ ?_ _) | (with_reducible refine Below.setCell ?_ ?_ _) | (refine below_trans ?_ (by assumption)) | go_size))
      have zA := yA.below hb1
      have zB := yB.below hb1
      have zC := yC.below hb1
      clear yA yB yC hb1 A
      obtain ⟨b0, b1, -, -⟩ := id zB
      go_wp2_with (go_at_call 45; (with_reducible refine (HA.out _).mono ?_); rintro en w2 ⟨rfl, hb2⟩; obtain ⟨k0, k1, f0, f1⟩ := zC.below hb2)
      have yb3 := below_trans yb hb2
      refine bodyPost_ret (by simp [results, Tryz.results10, go_sem, k0, k1]; try rfl) rfl ?_
      exact ⟨by first | rfl | simp, by (repeat' (first | (with_reducible assumption) | (with_reducible exact Below.refl _ _) | (with_reducible refine below_al ?_ _) | (with_reducible refine below_drewN ?_ _) | (with_reducible refine Below.drew ?_) | (with_reducible refine Below.alloc ?_ ?_ _) | (with_reducible refine Below.setCell ?_ ?_ _) | (refine below_trans ?_ (by assumption)) | go_size))⟩
  · have hb0 : (E == 0) = false := by simpa using h0
    have hb1 : (E != 0) = true := by simpa using h0
    clear hE
    go_enter Tryz.func10, Tryz.ntmps10
    go_wp2_with fail
    have yA : SV (((w.alloc (.cells #[.int .u64 l, .int .u64 h] 24)).alloc (.cells #[.int .u64 m, .int .u64 i] 24)).alloc (.cells #[.int .u64 0, .int .u64 0] 24)) w.heap.size l h := ((SV.made rfl).alloc _).alloc _
    have yB : SV (((w.alloc (.cells #[.int .u64 l, .int .u64 h] 24)).alloc (.cells #[.int .u64 m, .int .u64 i] 24)).alloc (.cells #[.int .u64 0, .int .u64 0] 24)) (w.heap.size + 1) m i := (SV.made (by first | omega | (simp; done) | (simp; omega))).alloc _
    have yC : SV (((w.alloc (.cells #[.int .u64 l, .int .u64 h] 24)).alloc (.cells #[.int .u64 m, .int .u64 i] 24)).alloc (.cells #[.int .u64 0, .int .u64 0] 24)) (w.heap.size + 1 + 1) 0 0 := SV.made (by first | omega | (simp; done) | (simp; omega))
    refine (A.out _).mono ?_
    rintro e w1 ⟨rfl, hb1⟩
    have yb : Below w.heap.size w w1 := by (repeat' (first | (with_reducible assumption) | (with_reducible exact Below.refl _ _) | (with_reducible refine below_al ?_ _) | (with_reducible refine below_drewN ?_ _) | (with_reducible refine Below.drew ?_) | (with_reducible refine Below.alloc ?_ ?_ _) | (with_reducible refine Below.setCell ?_ ?_ _) | (refine below_trans ?_ (by assumption)) | go_size))
    have zA := yA.below hb1
    have zB := yB.below hb1
    have zC := yC.below hb1
    clear yA yB yC hb1 A
    obtain ⟨k0, k1, f0, f1⟩ := id zC
    go_wp2_with fail
    refine bodyPost_ret (by simp [results, Tryz.results10, go_sem, k0, k1]; try rfl) rfl ?_
    exact ⟨by simp [h0], by (repeat' (first | (with_reducible assumption) | (with_reducible exact Below.refl _ _) | (with_reducible refine below_al ?_ _) | (with_reducible refine below_drewN ?_ _) | (with_reducible refine Below.drew ?_) | (with_reducible refine Below.alloc ?_ ?_ _) | (with_reducible refine Below.setCell ?_ ?_ _) | (refine below_trans ?_ (by assumption)) | go_size))⟩
end Go.Proofs.YtfphmlmgjhebjaaGreatDoor
