/- RatioMode; the decimal texts' parts of the reference. -/
import Derived.Test.YtincggkdlegjjaaDoorTx5
set_option linter.unusedVariables false
set_option linter.unusedSimpArgs false
namespace Go.Ulp
open Go.RowKit
def RetZB (t : TypeId) (w : World) (x : Int) (c : Bool) (e : Ending) (w' : World) : Prop := ∃ v, e = .returned (.tuple #[v, .bool c]) ∧ ZD t w' x v ∧ Below w.heap.size w w'
theorem rm_start (tz ti : TypeId) (x y : Int) (a b : Option Addr) (c d : Nat) (w : World) (h0 : Nz ti w a c (zl x)) (h1 : Nz ti w b d (zl y)) :
    Below w.heap.size w (((w.alloc (.cells #[.bool (zneg x), .slice a (zl x).length c] tz)).alloc (.cells #[.bool (zneg y), .slice b (zl y).length d] tz)).alloc (.cells #[.bool false, .slice none 0 0] tz)) ∧ ZV tz ti (((w.alloc (.cells #[.bool (zneg x), .slice a (zl x).length c] tz)).alloc (.cells #[.bool (zneg y), .slice b (zl y).length d] tz)).alloc (.cells #[.bool false, .slice none 0 0] tz)) w.heap.size x ∧ ZV tz ti (((w.alloc (.cells #[.bool (zneg x), .slice a (zl x).length c] tz)).alloc (.cells #[.bool (zneg y), .slice b (zl y).length d] tz)).alloc (.cells #[.bool false, .slice none 0 0] tz)) (w.heap.size + 1) y ∧ ZL tz (((w.alloc (.cells #[.bool (zneg x), .slice a (zl x).length c] tz)).alloc (.cells #[.bool (zneg y), .slice b (zl y).length d] tz)).alloc (.cells #[.bool false, .slice none 0 0] tz)) (w.heap.size + 1 + 1) false (.slice none 0 0) := by
  obtain ⟨z1, z2, z3⟩ := zv_made2 (tz := tz) h0 h1
  exact ⟨below_trans z1 (below_alloc _ _), z2.below (below_alloc _ _), z3.below (below_alloc _ _), ZL.made (by simp)⟩
end Go.Ulp
namespace Go.Proofs.YtincggkdlegjjaaDoor
open Go.RowKit Go.Ulp
set_option linter.unusedVariables false
set_option linter.unusedSimpArgs false
set_option maxHeartbeats 2000000
set_option maxRecDepth 100000
theorem ratioMode_any (v u : Value) (a b : Nat) (neg : Bool) (mode : Int) (w : World) (hv : ZD 3 w (a : Int) v) (hu : ZD 3 w (b : Int) u) (ha : (zl (a : Int)).length ≤ 900000) (hb : (zl (b : Int)).length ≤ 900000) (hb0 : 0 < b) (m0 : 0 ≤ mode) (m1 : mode ≤ 4) :
    Calls Tryd.prog 129 #[v, u, .bool neg, .int .i64 mode] w (RetZB 3 w (rtN neg a b mode : Int) (rtC a b)) := by
  obtain ⟨av, cv, rfl, hN0⟩ := hv
  obtain ⟨au, cu, rfl, hN1⟩ := hu
  obtain ⟨q, hq⟩ : ∃ q, q = a / b := ⟨_, rfl⟩
  obtain ⟨r, hr⟩ : ∃ r, r = a % b := ⟨_, rfl⟩
  have hrb : r < b := by rw [hr]; exact Nat.mod_lt _ hb0
  have hqa : q ≤ a := by rw [hq]; exact Nat.div_le_self _ _
  have lq : (zl (q : Int)).length ≤ 900000 := Nat.le_trans (zl_len_le (by omega)) ha
  have lr : (zl (r : Int)).length ≤ 900000 := Nat.le_trans (zl_len_le (show (r : Int).natAbs ≤ (b : Int).natAbs by omega)) hb
  obtain ⟨half, hhalf⟩ : ∃ x, x = cmpI ((2 * r : Nat) : Int) (b : Int) := ⟨_, rfl⟩
  obtain ⟨up, hup⟩ : ∃ x, x = upN neg (decide (q % 2 = 1)) half mode := ⟨_, rfl⟩
  obtain ⟨NN, hNN⟩ : ∃ N : Nat, N = rtN neg a b mode := ⟨_, rfl⟩
  obtain ⟨CC, hCC⟩ : ∃ C, C = rtC a b := ⟨_, rfl⟩
  have HNN := hid (show NN = if r ≠ 0 ∧ up = true then q + 1 else q by rw [hNN]; unfold rtN; rw [← hq, ← hr, ← hhalf, ← hup])
  have HCC := hid (show CC = decide (r ≠ 0) by rw [hCC]; unfold rtC; rw [← hr])
  rw [← hNN, ← hCC]
  have DV := hid (show ∀ a0 a1 c0 c1 w, Nz 3 w a0 c0 (zl (a : Int)) → Nz 3 w a1 c1 (zl (b : Int)) → Calls Tryd.prog 50 #[.agg #[.bool (zneg (a : Int)), .slice a0 (zl (a : Int)).length c0], .agg #[.bool (zneg (b : Int)), .slice a1 (zl (b : Int)).length c1]] w fun e w' => RetZ2 3 w (q : Int) (r : Int) e w' from fun a0 a1 c0 c1 w h0 h1 => by
    have h9 := zdiv_any a0 a1 c0 c1 (a : Int) (b : Int) w h0 h1 (by omega) (by omega) (by omega)
    rw [← Int.natCast_ediv, ← Int.natCast_emod, ← hq, ← hr] at h9
    exact h9)
  have ZS := hid (fun a0 c0 w h => zsign_any a0 c0 (r : Int) w h)
  have H0 := hid hN0
  have H1 := hid hN1
  have HUP := hid hup
  have HHF := hid hhalf
  clear hN0 hN1 hNN hCC hup hhalf hq hr ha hqa
  go_enter Tryd.func129, Tryd.ntmps129
  go_upto_region 1 with fail
  refine wp_worldZ (fun WW => Below w.heap.size w WW ∧ ZV 42 3 WW w.heap.size (a : Int) ∧ ZV 42 3 WW (w.heap.size + 1) (b : Int) ∧ ZL 42 WW (w.heap.size + 1 + 1) false (.slice none 0 0)) (rm_start 42 3 (a : Int) (b : Int) av au cv cu w H0.out H1.out) ?_
  intro W1 ⟨yb1, z4, z5, z8⟩
  obtain ⟨g8, hg8⟩ : ∃ g, g = w.heap.size + 1 + 1 := ⟨_, rfl⟩
  obtain ⟨g5, hg5⟩ : ∃ g, g = w.heap.size + 1 := ⟨_, rfl⟩
  obtain ⟨g4, hg4⟩ : ∃ g, g = w.heap.size := ⟨_, rfl⟩
  have b8 : w.heap.size ≤ g8 := by omega
  rw [← hg8] at z8 ⊢
  rw [← hg5] at z5 ⊢
  rw [← hg4] at z4
  rw [← hg4]
  clear hg8 hg5 hg4 H0 H1
  have HZ5 := hid z5
  obtain ⟨a4, c4, zl4, n4⟩ := z4
  obtain ⟨a5, c5, zl5, n5⟩ := z5
  have N4 := hid n4
  have N5 := hid n5
  obtain ⟨j0, j1, -⟩ := zl4
  obtain ⟨j2, j3, -⟩ := zl5
  clear n4 n5
  go_upto_region 2 with (go_at_call 50; (with_reducible refine (DV.out _ _ _ _ _ N4.out N5.out).mono ?_); rintro en w1 ⟨ao, ac, bo, bc, rfl, hq1, hr1, hb1⟩)
  refine wp_worldZ (fun WW => Below w1.heap.size w1 WW ∧ ZV 42 3 WW w1.heap.size (q : Int) ∧ ZV 42 3 WW (w1.heap.size + 1) (r : Int)) (zv_made2 hq1 hr1) ?_
  intro W2 ⟨yb2, z10, z11⟩
  obtain ⟨g11, hg11⟩ : ∃ g, g = w1.heap.size + 1 := ⟨_, rfl⟩
  obtain ⟨g10, hg10⟩ : ∃ g, g = w1.heap.size := ⟨_, rfl⟩
  have n810 : g8 ≠ g10 := by have := z8.lt; have := hb1.size; omega
  have b10 : w.heap.size ≤ g10 := by have := yb1.size; have := hb1.size; omega
  rw [← hg11] at z11 ⊢
  rw [← hg10] at z10
  rw [← hg10]
  have z8' := (z8.below hb1).below yb2
  have z5' := (HZ5.out.below hb1).below yb2
  have y2 := below_trans (below_trans yb1 hb1) yb2
  clear hg11 hg10 j0 j1 j2 j3 hq1 hr1 hb1 yb2 yb1 N4 N5 DV z8 HZ5
  by_cases hr0 : r = 0
  · have HC : CC = false := HCC.out.trans (decide_eq_false (fun h => h hr0))
    have HQ := hid (show NN = q from HNN.out.trans (if_neg (fun h => h.1 hr0)))
    have ZS0 := hid (show ∀ a0 c0 w, Nz 3 w a0 c0 (zl (r : Int)) → Calls Tryd.prog 51 #[.agg #[.bool (zneg (r : Int)), .slice a0 (zl (r : Int)).length c0]] w fun e w' => e = .returned (.int .i64 0) ∧ Below w.heap.size w w' from fun a0 c0 w h => by
      have h9 := ZS.out a0 c0 w h
      rw [hr0] at h9 ⊢
      exact h9)
    clear HNN HCC HUP HHF ZS hr0
    subst HC
    obtain ⟨a10, c10, zl10, n10⟩ := z10
    obtain ⟨a11, c11, zl11, n11⟩ := z11
    have N10 := hid n10
    have N11 := hid n11
    have HY := hid y2
    have H8 := hid z8'
    have H10 := hid zl10
    obtain ⟨j0, j1, -⟩ := zl11
    clear n10 n11 z5' z8' y2 zl10
    go_upto_region 3 with (go_at_call 51; (with_reducible refine (ZS0.out _ _ _ N11.out).mono ?_); rintro en w3 ⟨rfl, hb3⟩)
    have z8 := H8.out.below hb3
    obtain ⟨j2, j3, -⟩ := H10.out.below hb3
    obtain ⟨k0, k1, kf0, kf1, -⟩ := id z8
    have zst := zv_store1 (by decide) (below_trans HY.out hb3) b8 z8 (N10.out.below hb3)
    go_wp2_with fail
    obtain ⟨hbw, ⟨a8, c8, zl8, n8⟩⟩ := zst
    obtain ⟨m0, m1, -⟩ := zl8
    refine bodyPost_ret (by simp [results, Tryd.results129, go_sem, m0, m1]; try rfl) rfl ?_
    exact ⟨_, rfl, ⟨_, _, by rw [HQ.out], by rw [HQ.out]; exact n8⟩, hbw⟩
  · have HC : CC = true := HCC.out.trans (decide_eq_true hr0)
    have HQ := hid (show (up = true → NN = q + 1) ∧ (up = false → NN = q) from ⟨fun hu => HNN.out.trans (if_pos ⟨hr0, hu⟩), fun hu => HNN.out.trans (if_neg (fun h => by rw [hu] at h; exact absurd h.2 (by simp)))⟩)
    have ZS1 := hid (show ∀ a0 c0 w, Nz 3 w a0 c0 (zl (r : Int)) → Calls Tryd.prog 51 #[.agg #[.bool (zneg (r : Int)), .slice a0 (zl (r : Int)).length c0]] w fun e w' => e = .returned (.int .i64 1) ∧ Below w.heap.size w w' from fun a0 c0 w h => by
      have h9 := ZS.out a0 c0 w h
      rwa [cmpI_g (show (0 : Int) < (r : Int) by omega)] at h9)
    clear HNN HCC ZS hr0
    subst HC
    have HZ10 := hid z10
    have HZ11 := hid z11
    obtain ⟨a11, c11, zl11, n11⟩ := z11
    have N11 := hid n11
    obtain ⟨j0, j1, -⟩ := zl11
    have HY := hid y2
    have H8 := hid z8'
    have H5 := hid z5'
    clear n11 z5' z8' y2 z10
    go_upto_region 4 with (go_at_call 51; (with_reducible refine (ZS1.out _ _ _ N11.out).mono ?_); rintro en w3 ⟨rfl, hb3⟩)
    have z10 := HZ10.out.below hb3
    have z11 := HZ11.out.below hb3
    have z5 := H5.out.below hb3
    have z8 := H8.out.below hb3
    have y3 := below_trans HY.out hb3
    clear HZ10 HZ11 H5 H8 HY N11 j0 j1 hb3 ZS1
    have HHF2 := hid (show cmpI ((r : Int) + (r : Int)) (b : Int) = half by rw [HHF.out]; congr 1; omega)
    refine wp_region_grow 6 [26, 27, 28, 29, 30, 12] [Fact.z 3 ((r : Int)), Fact.z 3 ((r : Int)), Fact.z 3 (((r : Int)) + ((r : Int))), Fact.z 3 ((b : Int)), Fact.is (.int .i64 (half)), Fact.is (.int .i64 (half))] (by kernel_rfl) (by kernel_rfl) ⟨?o0, ?o1, ?o2, ?o3, ?o4, ?o5, trivial⟩ ?after
    case o0 => (refine StepOK.plain rfl ?_; intro ρ w1 R hρ hb hp hR; have e11 : ρ (.tmp 11) = .pointer (some ⟨g11, 0, none⟩) := hρ.tmp 11 rfl; obtain ⟨ya9, yc9, yj9, yn9⟩ := ZV.below z11 hb; obtain ⟨j90, j91, -⟩ := yj9; have hcon := hρ.con; have hfn := hρ.fn; clear hρ hp; unfold OpRun; go_simp; exact hR _ _ (Below.refl _ _) ⟨ya9, yc9, rfl, yn9⟩)
    case o1 => (refine StepOK.plain rfl ?_; intro ρ w1 R hρ hb hp hR; have e11 : ρ (.tmp 11) = .pointer (some ⟨g11, 0, none⟩) := hρ.tmp 11 rfl; obtain ⟨ya9, yc9, yj9, yn9⟩ := ZV.below z11 hb; obtain ⟨j90, j91, -⟩ := yj9; have hcon := hρ.con; have hfn := hρ.fn; clear hρ hp; unfold OpRun; go_simp; exact hR _ _ (Below.refl _ _) ⟨ya9, yc9, rfl, yn9⟩)
    case o2 => (refine StepOK.plain rfl ?_; intro ρ w1 R hρ hb hp hR; have f26 := hp 0 26 rfl rfl; have f27 := hp 1 27 rfl rfl; have hcon := hρ.con; have hfn := hρ.fn; clear hρ hp; unfold OpRun; go_simp; (refine (zaddD _ _ _ _ _ f26 f27 (by first | assumption | omega) (by first | assumption | omega)).mono ?_; rintro e wn ⟨v9, rfl, hz9, hbn⟩; exact ⟨_, rfl, hR _ _ hbn hz9⟩))
    case o3 => (refine StepOK.plain rfl ?_; intro ρ w1 R hρ hb hp hR; have e5 : ρ (.tmp 5) = .pointer (some ⟨g5, 0, none⟩) := hρ.tmp 5 rfl; obtain ⟨ya9, yc9, yj9, yn9⟩ := ZV.below z5 hb; obtain ⟨j90, j91, -⟩ := yj9; have hcon := hρ.con; have hfn := hρ.fn; clear hρ hp; unfold OpRun; go_simp; exact hR _ _ (Below.refl _ _) ⟨ya9, yc9, rfl, yn9⟩)
    case o4 => (refine StepOK.plain rfl ?_; intro ρ w1 R hρ hb hp hR; have f28 := hp 2 28 rfl rfl; have f29 := hp 3 29 rfl rfl; have h99 := zcmpD _ _ _ _ _ f28 f29; rw [HHF2.out] at h99; have hcon := hρ.con; have hfn := hρ.fn; clear hρ hp; unfold OpRun; go_simp; (refine (h99).mono ?_; rintro e wn ⟨rfl, hbn⟩; exact ⟨_, rfl, hR _ _ hbn rfl⟩))
    case o5 => (refine StepOK.plain rfl ?_; intro ρ w1 R hρ hb hp hR; have e30 : ρ (.tmp 30) = _ := hp 4 30 rfl rfl; have hcon := hρ.con; have hfn := hρ.fn; clear hρ hp; unfold OpRun; go_simp; exact hR _ _ (Below.refl _ _) rfl)
    case after =>
      intro u wn hb hf
      have e12 : u 12 = _ := hf 5 12 (by omega) rfl
      clear hf
      simp only [putAll, Act.put, List.setIfInBounds_toArray, List.set_cons_zero, List.set_cons_succ, List.drop_succ_cons, List.drop_zero, List.drop_nil]
      rw [e12]
      go_upto_region 5 with fail
      have y4 := below_trans y3 hb
      have z10a := z10.below hb
      have z8a := z8.below hb
      obtain ⟨W4, hW4⟩ : ∃ W, W = wn := ⟨_, rfl⟩
      subst hW4
      clear z10 z11 z5 z8 y3 hb HHF HHF2
      have l2 : (zl 2).length ≤ 900000 := by decide
      refine wp_region_growL 8 5 [32, 33, 34, 31, 35, 36, 13, 14] [Fact.z 3 ((q : Int)), Fact.z 3 (2), Fact.z2 3 (((q : Int)) / (2)) (((q : Int)) % (2)), Fact.z2 3 (((q : Int)) / (2)) (((q : Int)) % (2)), Fact.z 3 (((q : Int)) / (2)), Fact.z 3 (((q : Int)) % (2)), Fact.z0 W4.heap.size 42, Fact.z0 W4.heap.size 42] [6, 7] (by kernel_rfl) (by kernel_rfl) rfl ⟨?o0, ?o1, ?o2, ?o3, ?o4, ?o5, ?o6, ?o7, trivial⟩ ?late (fun d _ _ _ _ h => by cases d <;> exact h) ?after
      case o0 => (refine StepOKF.plain rfl ?_; intro ρ w1 R hρ hb hp hR; have e10 : ρ (.tmp 10) = .pointer (some ⟨g10, 0, none⟩) := hρ.tmp 10 rfl; obtain ⟨ya9, yc9, yj9, yn9⟩ := ZV.below z10a hb; obtain ⟨j90, j91, -⟩ := yj9; replace hR := fun v w2 h1 h2 => hR v w2 h1 h2 (fun h => absurd h (by decide)); have hcon := hρ.con; have hfn := hρ.fn; clear hρ hp; unfold OpRun; go_simp; exact hR _ _ (Below.refl _ _) ⟨ya9, yc9, rfl, yn9⟩)
      case o1 => (refine StepOKF.plain rfl ?_; intro ρ w1 R hρ hb hp hR; replace hR := fun v w2 h1 h2 => hR v w2 h1 h2 (fun h => absurd h (by decide)); have hcon := hρ.con; have hfn := hρ.fn; clear hρ hp; unfold OpRun; go_simp; (refine (zND _ (by omega) (by omega) _).mono ?_; rintro e wn ⟨v9, rfl, hz9, hbn⟩; exact ⟨_, rfl, hR _ _ hbn hz9⟩))
      case o2 => (refine StepOKF.plain rfl ?_; intro ρ w1 R hρ hb hp hR; have f32 := hp 0 32 rfl rfl; have f33 := hp 1 33 rfl rfl; replace hR := fun v w2 h1 h2 => hR v w2 h1 h2 (fun h => absurd h (by decide)); have hcon := hρ.con; have hfn := hρ.fn; clear hρ hp; unfold OpRun; go_simp; (refine (zdivD _ _ _ _ _ f32 f33 (by first | assumption | omega) (by first | assumption | omega) (by first | assumption | omega)).mono ?_; rintro e wn ⟨v9, rfl, hz9, hbn⟩; exact ⟨_, rfl, hR _ _ hbn hz9⟩))
      case o3 => (refine StepOKF.plain rfl ?_; intro ρ w1 R hρ hb hp hR; have f34 := hp 2 34 rfl rfl; replace hR := fun v w2 h1 h2 => hR v w2 h1 h2 (fun h => absurd h (by decide)); have hcon := hρ.con; have hfn := hρ.fn; clear hρ hp; unfold OpRun; go_simp; exact hR _ _ (Below.refl _ _) f34)
      case o4 => (refine StepOKF.plain rfl ?_; intro ρ w1 R hρ hb hp hR; have f31 := hp 3 31 rfl rfl; replace hR := fun v w2 h1 h2 => hR v w2 h1 h2 (fun h => absurd h (by decide)); have hcon := hρ.con; have hfn := hρ.fn; clear hρ hp; unfold OpRun; go_simp; (obtain ⟨a97, b97, e97, h97, k97⟩ := ZD2.parts f31; rw [e97]; exact hR _ _ (Below.refl _ _) h97))
      case o5 => (refine StepOKF.plain rfl ?_; intro ρ w1 R hρ hb hp hR; have f31 := hp 3 31 rfl rfl; replace hR := fun v w2 h1 h2 => hR v w2 h1 h2 (fun h => absurd h (by decide)); have hcon := hρ.con; have hfn := hρ.fn; clear hρ hp; unfold OpRun; go_simp; (obtain ⟨a97, b97, e97, h97, k97⟩ := ZD2.parts f31; rw [e97]; exact hR _ _ (Below.refl _ _) k97))
      case o6 => (refine StepOKF.plain rfl ?_; intro ρ w1 R hρ hb hp hR; have hcon := hρ.con; have hfn := hρ.fn; clear hρ hp; unfold OpRun; go_simp; exact hR _ _ (below_alloc _ _) ⟨_, rfl, hb.size, ZL.made rfl⟩ (fun _ => ⟨_, rfl, Nat.le_refl _, by simp⟩))
      case o7 => (refine StepOKF.plain rfl ?_; intro ρ w1 R hρ hb hp hR; have hcon := hρ.con; have hfn := hρ.fn; clear hρ hp; unfold OpRun; go_simp; exact hR _ _ (below_alloc _ _) ⟨_, rfl, hb.size, ZL.made rfl⟩ (fun _ => ⟨_, rfl, Nat.le_refl _, by simp⟩))
      case late =>
        intro o ho
        simp only [List.getElem?_cons_succ, List.getElem?_cons_zero, Option.some.injEq] at ho
        subst ho
        refine ⟨rfl, ?_⟩
        intro ρ w1 hρ hb hp
        have f31 := hp 3 31 rfl rfl
        obtain ⟨a97, b97, e97, h97, k97⟩ := ZD2.parts f31
        refine ⟨_, ?_, k97⟩
        intro w2
        have hcon := hρ.con
        go_simp
        try rfl
      case after =>
        intro u wn hb hf hd
        have f35 := hf 4 35 (by omega) rfl
        have f36 := hf 5 36 (by omega) rfl
        have f13 := hf 6 13 (by omega) rfl
        have f14 := hf 7 14 (by omega) rfl
        have d13_14 : u 13 ≠ u 14 := hd 6 7 13 14 (by omega) (by omega) (by omega) rfl rfl rfl rfl
        clear hf hd
        simp only [putAll, Act.put, List.setIfInBounds_toArray, List.set_cons_zero, List.set_cons_succ, List.drop_succ_cons, List.drop_zero, List.drop_nil]
        obtain ⟨xa1, xc1, xe1, xn1⟩ := f35
        obtain ⟨xa2, xc2, xe2, xn2⟩ := f36
        obtain ⟨gv13, eg1, hg1, zz1⟩ := f13
        obtain ⟨gv14, eg2, hg2, zz2⟩ := f14
        have gne : gv13 ≠ gv14 := by intro h; apply d13_14; rw [eg1, eg2, h]
        rw [xe1, xe2, eg1, eg2]
        clear xe1 xe2 eg1 eg2 d13_14
        have zst := zv_store2 (by decide) hb hg1 hg2 gne zz1 zz2 xn1 xn2
        obtain ⟨k0, k1, kf0, kf1, -⟩ := id zz1
        obtain ⟨l0, l1, lf0, lf1, -⟩ := id zz2
        go_upto_region 6 with fail
        clear k0 k1 kf0 kf1 l0 l1 lf0 lf1 zz1 zz2 xn1 xn2 hb
        refine wp_worldZ (fun WW => Below _ _ WW ∧ ZV _ _ WW _ _ ∧ ZV _ _ WW _ _) zst ?_
        clear zst
        intro W5 ⟨y5, z13, z14⟩
        have y6 := below_trans y4 y5
        have z10b := z10a.below y5
        have z8b := z8a.below y5
        clear z10a z8a z13 y4 hg1 hg2 gne
        have HY6 := hid y6
        have H10 := hid z10b
        have H8 := hid z8b
        clear y6 z10b z8b y5
        obtain ⟨a14, c14, zl14, n14⟩ := z14
        have N14 := hid n14
        clear n14
        have ZQ := hid (fun a0 c0 w h => zsign_any a0 c0 ((q : Int) % 2) w h)
        obtain ⟨j0, j1, -⟩ := zl14
        go_cut [15] (fun s15 wx => s15 = .bool up ∧ Below W5.heap.size W5 wx)
        case first => as_aux_lemma =>
          clear HQ H10 H8 HY6
          rcases (show mode = 0 ∨ mode = 1 ∨ mode = 2 ∨ mode = 3 ∨ mode = 4 by omega) with rfl | rfl | rfl | rfl | rfl
          · by_cases h1 : 0 < half
            · have HE := hid (show up = true by rw [HUP.out]; simp [upN, h1])
              clear HUP
              go_wp2_with fail
              go_meet
              exact ⟨by rw [HE.out], Below.refl _ _⟩
            · by_cases h2 : half = 0
              · subst h2
                by_cases ho : q % 2 = 1
                · have HE := hid (show up = true by rw [HUP.out]; simp [upN, ho])
                  have ZQ1 := hid (show ∀ w, Nz 3 w a14 c14 (zl ((q : Int) % 2)) → Calls Tryd.prog 51 #[.agg #[.bool (zneg ((q : Int) % 2)), .slice a14 (zl ((q : Int) % 2)).length c14]] w fun e w' => e = .returned (.int .i64 1) ∧ Below w.heap.size w w' from fun w h => by
                    have h9 := ZQ.out a14 c14 w h
                    rwa [cmpI_g (show (0 : Int) < (q : Int) % 2 by omega)] at h9)
                  clear HUP ho ZQ
                  go_wp2_with (go_at_call 51; (with_reducible refine (ZQ1.out _ N14.out).mono ?_); rintro en w6 ⟨rfl, hb6⟩)
                  go_meet
                  exact ⟨by rw [HE.out], hb6⟩
                · have HE := hid (show up = false by rw [HUP.out]; simp [upN, ho])
                  have ZQ1 := hid (show ∀ w, Nz 3 w a14 c14 (zl ((q : Int) % 2)) → Calls Tryd.prog 51 #[.agg #[.bool (zneg ((q : Int) % 2)), .slice a14 (zl ((q : Int) % 2)).length c14]] w fun e w' => e = .returned (.int .i64 0) ∧ Below w.heap.size w w' from fun w h => by
                    have h9 := ZQ.out a14 c14 w h
                    rwa [cmpI_e (show (q : Int) % 2 = 0 by omega)] at h9)
                  clear HUP ho ZQ
                  go_wp2_with (go_at_call 51; (with_reducible refine (ZQ1.out _ N14.out).mono ?_); rintro en w6 ⟨rfl, hb6⟩)
                  go_meet
                  exact ⟨by rw [HE.out], hb6⟩
              · have HE := hid (show up = false by rw [HUP.out]; simp [upN, h1, h2])
                have h3 : (half == 0) = false := beq_eq_false_iff_ne.2 h2
                have h4 : decide (0 < half) = false := decide_eq_false h1
                clear HUP h1 h2
                go_wp2_with fail
                go_meet
                exact ⟨by rw [HE.out], Below.refl _ _⟩
          · cases neg
            · have HE := hid (show up = true by rw [HUP.out]; simp [upN])
              clear HUP
              go_wp2_with fail
              go_meet
              exact ⟨by rw [HE.out], Below.refl _ _⟩
            · have HE := hid (show up = false by rw [HUP.out]; simp [upN])
              clear HUP
              go_wp2_with fail
              go_meet
              exact ⟨by rw [HE.out], Below.refl _ _⟩
          · cases neg
            · have HE := hid (show up = false by rw [HUP.out]; simp [upN])
              clear HUP
              go_wp2_with fail
              go_meet
              exact ⟨by rw [HE.out], Below.refl _ _⟩
            · have HE := hid (show up = true by rw [HUP.out]; simp [upN])
              clear HUP
              go_wp2_with fail
              go_meet
              exact ⟨by rw [HE.out], Below.refl _ _⟩
          · have HE := hid (show up = false by rw [HUP.out]; simp [upN])
            clear HUP
            go_wp2_with fail
            go_meet
            exact ⟨by rw [HE.out], Below.refl _ _⟩
          · have HE := hid (show up = decide (0 ≤ half) by rw [HUP.out]; simp [upN])
            clear HUP
            go_wp2_with fail
            go_meet
            exact ⟨by rw [HE.out], Below.refl _ _⟩
        case rest =>
          obtain ⟨rfl, y7⟩ := hcut
          obtain ⟨W7, hW7⟩ : ∃ W, W = wc := ⟨_, rfl⟩
          subst hW7
          have z10 := H10.out.below y7
          have z8 := H8.out.below y7
          have y8 := below_trans HY6.out y7
          clear H10 H8 HY6 y7 N14 ZQ j0 j1 HUP
          cases up
          · have HN := HQ.out.2 rfl
            rw [← HN] at z10
            clear HQ HN
            obtain ⟨a10, c10, zl10, n10⟩ := z10
            obtain ⟨j2, j3, -⟩ := zl10
            have zst := zv_store1 (by decide) y8 b8 z8 n10
            obtain ⟨k0, k1, kf0, kf1, -⟩ := id z8
            clear n10 y8
            go_wp2_with fail
            obtain ⟨hbw, ⟨a8, c8, zl8, n8⟩⟩ := zst
            obtain ⟨m0, m1, -⟩ := zl8
            refine bodyPost_ret (by simp [results, Tryd.results129, go_sem, m0, m1]; try rfl) rfl ?_
            exact ⟨_, rfl, ⟨_, _, rfl, n8⟩, hbw⟩
          · have HN := HQ.out.1 rfl
            clear HQ
            have HEQ := hid (show (q : Int) + 1 = (NN : Int) by rw [HN]; omega)
            clear HN
            go_upto_region 8 with fail
            have l1 : (zl 1).length ≤ 900000 := by decide
            refine wp_region_grow 3 [76, 77, 78] [Fact.z 3 ((q : Int)), Fact.z 3 (1), Fact.z 3 ((NN : Int))] (by kernel_rfl) (by kernel_rfl) ⟨?o0, ?o1, ?o2, trivial⟩ ?after
            case o0 => (refine StepOK.plain rfl ?_; intro ρ w1 R hρ hb hp hR; have e10 : ρ (.tmp 10) = .pointer (some ⟨g10, 0, none⟩) := hρ.tmp 10 rfl; obtain ⟨ya9, yc9, yj9, yn9⟩ := ZV.below z10 hb; obtain ⟨j90, j91, -⟩ := yj9; have hcon := hρ.con; have hfn := hρ.fn; clear hρ hp; unfold OpRun; go_simp; exact hR _ _ (Below.refl _ _) ⟨ya9, yc9, rfl, yn9⟩)
            case o1 => (refine StepOK.plain rfl ?_; intro ρ w1 R hρ hb hp hR; have hcon := hρ.con; have hfn := hρ.fn; clear hρ hp; unfold OpRun; go_simp; (refine (zND _ (by omega) (by omega) _).mono ?_; rintro e wn ⟨v9, rfl, hz9, hbn⟩; exact ⟨_, rfl, hR _ _ hbn hz9⟩))
            case o2 => (refine StepOK.plain rfl ?_; intro ρ w1 R hρ hb hp hR; have f76 := hp 0 76 rfl rfl; have f77 := hp 1 77 rfl rfl; have hcon := hρ.con; have hfn := hρ.fn; clear hρ hp; unfold OpRun; go_simp; (refine (zaddD _ _ _ _ _ f76 f77 (by first | assumption | omega) (by first | assumption | omega)).mono ?_; rintro e wn ⟨v9, rfl, hz9, hbn⟩; exact ⟨_, rfl, hR _ _ hbn (ZD.cast hz9 HEQ.out)⟩))
            case after =>
              intro u wn hb hf
              have f78 := hf 2 78 (by omega) rfl
              clear hf
              simp only [putAll, Act.put, List.setIfInBounds_toArray, List.set_cons_zero, List.set_cons_succ, List.drop_succ_cons, List.drop_zero, List.drop_nil]
              obtain ⟨a78, c78, e78, n78⟩ := f78
              rw [e78]
              clear e78
              have z10a := z10.below hb
              have z8a := z8.below hb
              have y9 := below_trans y8 hb
              obtain ⟨x10, d10, zl10, -⟩ := z10a
              have zs := zv_store1 (by decide) y9 b10 zl10 n78
              have z8b := (z8a.far ⟨g10, 0, none⟩ (.bool (zneg (NN : Int))) n810).far ⟨g10, 1, none⟩ (.slice a78 (zl (NN : Int)).length c78) n810
              obtain ⟨k0, k1, kf0, kf1, -⟩ := id zl10
              clear hb z10 z8 z8a y8 y9 n78
              go_upto_region 9 with fail
              refine wp_worldZ (fun WW => (Below w.heap.size w WW ∧ ZV 42 3 WW g10 (NN : Int)) ∧ ZL 42 WW g8 false (.slice none 0 0)) ⟨zs, z8b⟩ ?_
              intro W9 ⟨⟨y9, z10⟩, z8⟩
              clear zs z8b k0 k1 kf0 kf1
              obtain ⟨a10, c10, zl10, n10⟩ := z10
              obtain ⟨j2, j3, -⟩ := zl10
              have zst := zv_store1 (by decide) y9 b8 z8 n10
              obtain ⟨k0, k1, kf0, kf1, -⟩ := id z8
              clear n10 y9
              go_wp2_with fail
              obtain ⟨hbw, ⟨a8, c8, zl8, n8⟩⟩ := zst
              obtain ⟨m0, m1, -⟩ := zl8
              refine bodyPost_ret (by simp [results, Tryd.results129, go_sem, m0, m1]; try rfl) rfl ?_
              exact ⟨_, rfl, ⟨_, _, rfl, n8⟩, hbw⟩
end Go.Proofs.YtincggkdlegjjaaDoor
