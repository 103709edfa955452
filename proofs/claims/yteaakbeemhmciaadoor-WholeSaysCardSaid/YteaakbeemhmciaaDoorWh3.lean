/- CutWhole, and what is to be told of whole numbers. -/
import Derived.Test.YteaakbeemhmciaaDoorWh2
import Derived.Test.YteaakbeemhmciaaDoorZn
import Derived.Test.YteaakbeemhmciaaDoorSu4
set_option linter.unusedVariables false
set_option linter.unusedSimpArgs false
namespace Go.Ulp
open Go.RowKit
/-- a whole number, and whether something is lost -/
def RetCw (t : TypeId) (w : World) (x : Int) (lost : Bool) (e : Ending) (w' : World) : Prop :=
  ∃ ao cap, e = .returned (.tuple #[.agg #[.bool (zneg x), .slice ao (zl x).length cap], .bool lost]) ∧ Nz t w' ao cap (zl x) ∧ Below w.heap.size w w'
end Go.Ulp
namespace Go.Proofs.YteaakbeemhmciaaDoor
open Go.RowKit Go.Ulp
set_option linter.unusedVariables false
set_option linter.unusedSimpArgs false
set_option maxHeartbeats 2000000
set_option maxRecDepth 100000
theorem cutWhole_any (x mode : Int) (h0 : 0 ≤ x) (h1 : x < 18446744073709551616) (m0 : 0 ≤ mode) (m1 : mode ≤ 4) (w : World) :
    Calls Tryd.prog 60 #[.int .u64 x, .int .i64 mode] w (RetCw 3 w (whole (whD x mode)) (whC x)) := by
  have QV := hid (fun w => qval_any x h0 h1 w)
  have CT := hid (fun v w h => cutTo_any v (fv x) 1200 1100 0 mode w h (by omega) (by omega) (by omega) (by omega) m0 m1)
  obtain ⟨f1, f2, f3, f4⟩ := whD_form x mode h0 h1
  have HDIV := hid (fun X S h => whole_div (whD x mode) f2 X S h)
  have e1 : mplD (fv x) 0 mode = whD x mode := rfl
  have e2 : mplC (fv x) 0 = whC x := rfl
  rw [e1, e2] at CT
  generalize whole (whD x mode) = W at *
  generalize whD x mode = D at *
  generalize whC x = wc at *
  generalize fv x = FX at *
  have zR0 : ZL 40 (w.alloc (.cells #[.bool false, .slice none 0 0] 40)) w.heap.size false (.slice none 0 0) := ZL.made rfl
  have yb0 := below_alloc w (.cells #[.bool false, .slice none 0 0] 40)
  clear e1 e2 f1 f2 f3 f4
  go_enter Tryd.func60, Tryd.ntmps60
  go_upto_region 2 with (first
    | (go_at_call 25; (with_reducible refine (QV.out _).mono ?_); rintro en w1 ⟨v1, rfl, hv1, hb1⟩)
    | (go_at_call 32; (with_reducible refine (CT.out _ _ hv1).mono ?_); rintro en w2 ⟨v2, rfl, ⟨X, S, ax, cx, rfl, hNX, hXD, hXA, hS⟩, hb2⟩))
  have zX : QL 42 (w2.alloc (.cells #[.bool (zneg X), .slice ax (zl X).length cx, .int .i64 (S : Int)] 42)) w2.heap.size (zneg X) (.slice ax (zl X).length cx) (S : Int) := QL.made rfl
  have hNX1 := hNX.below (below_alloc w2 (.cells #[.bool (zneg X), .slice ax (zl X).length cx, .int .i64 (S : Int)] 42))
  have yb := below_trans (below_trans (below_trans yb0 hb1) hb2) (below_alloc w2 (.cells #[.bool (zneg X), .slice ax (zl X).length cx, .int .i64 (S : Int)] 42))
  have zR := ((zR0.below hb1).below hb2).below (below_alloc w2 (.cells #[.bool (zneg X), .slice ax (zl X).length cx, .int .i64 (S : Int)] 42))
  obtain ⟨W1, hW1⟩ : ∃ W, W = w2.alloc (.cells #[.bool (zneg X), .slice ax (zl X).length cx, .int .i64 (S : Int)] 42) := ⟨_, rfl⟩
  obtain ⟨gx, hgx⟩ : ∃ g, g = w2.heap.size := ⟨_, rfl⟩
  rw [← hW1, ← hgx] at zX ⊢
  rw [← hW1] at hNX1 yb zR
  have HNX := hid hNX1
  have hlX := zl_len_bits X _ hXA
  have hlp := zl_len_pw S
  have DV := hid (fun v w h0 h1 => zdiv_v ax cx X (pw S) v w h0 h1 (by omega) (by omega) (by have := pw_pos S; omega))
  have ZP := hid (fun w => zpow_any S w (by omega))
  rw [HDIV.out X S hXD] at DV
  clear hW1 hgx hNX hNX1 hXD hXA hlX hlp hv1 hb1 hb2 zR0 yb0 QV CT HDIV
  refine wp_region_growL 11 8 [18, 19, 20, 21, 22, 23, 17, 24, 25, 8, 9] [Fact.is (.pointer (some ⟨gx, 0, none⟩)), Fact.is (.agg #[.bool (zneg X), .slice ax (zl X).length cx]), Fact.is (.pointer (some ⟨gx, 2, none⟩)), Fact.is (.int .i64 (S : Int)), Fact.z 3 (pw S), Fact.z2 3 W (X % pw S), Fact.z2 3 W (X % pw S), Fact.z 3 W, Fact.z 3 (X % pw S), Fact.z0 W1.heap.size 40, Fact.z0 W1.heap.size 40] [9, 10] (by kernel_rfl) (by kernel_rfl) rfl ⟨?o0, ?o1, ?o2, ?o3, ?o4, ?o5, ?o6, ?o7, ?o8, ?o9, ?o10, trivial⟩ ?late (fun d _ _ _ _ h => by cases d <;> exact h) ?after
  case o0 => (refine StepOKF.plain rfl ?_; intro ρ w1 R hρ hb hp hR; have e6 : ρ (.tmp 6) = .pointer (some ⟨gx, 0, none⟩) := hρ.tmp 6 rfl; replace hR := fun v w2 h1 h2 => hR v w2 h1 h2 (fun h => absurd h (by decide)); have hcon := hρ.con; have hfn := hρ.fn; clear hρ hp; unfold OpRun; go_simp; exact hR _ _ (Below.refl _ _) rfl)
  case o1 => (refine StepOKF.plain rfl ?_; intro ρ w1 R hρ hb hp hR; have e18 : ρ (.tmp 18) = _ := hp 0 18 rfl rfl; obtain ⟨⟨j0, j1, -, -, -⟩, j2, -⟩ := zX.below hb; replace hR := fun v w2 h1 h2 => hR v w2 h1 h2 (fun h => absurd h (by decide)); have hcon := hρ.con; have hfn := hρ.fn; clear hρ hp; unfold OpRun; go_simp; exact hR _ _ (Below.refl _ _) rfl)
  case o2 => (refine StepOKF.plain rfl ?_; intro ρ w1 R hρ hb hp hR; have e6 : ρ (.tmp 6) = .pointer (some ⟨gx, 0, none⟩) := hρ.tmp 6 rfl; replace hR := fun v w2 h1 h2 => hR v w2 h1 h2 (fun h => absurd h (by decide)); have hcon := hρ.con; have hfn := hρ.fn; clear hρ hp; unfold OpRun; go_simp; exact hR _ _ (Below.refl _ _) rfl)
  case o3 => (refine StepOKF.plain rfl ?_; intro ρ w1 R hρ hb hp hR; have e20 : ρ (.tmp 20) = _ := hp 2 20 rfl rfl; obtain ⟨⟨j0, j1, -, -, -⟩, j2, -⟩ := zX.below hb; replace hR := fun v w2 h1 h2 => hR v w2 h1 h2 (fun h => absurd h (by decide)); have hcon := hρ.con; have hfn := hρ.fn; clear hρ hp; unfold OpRun; go_simp; exact hR _ _ (Below.refl _ _) rfl)
  case o4 => (refine StepOKF.plain rfl ?_; intro ρ w1 R hρ hb hp hR; have e21 : ρ (.tmp 21) = _ := hp 3 21 rfl rfl; replace hR := fun v w2 h1 h2 => hR v w2 h1 h2 (fun h => absurd h (by decide)); have hcon := hρ.con; have hfn := hρ.fn; clear hρ hp; unfold OpRun; go_simp; (refine (ZP.out _).mono ?_; rintro e wn ⟨az, cz, rfl, hz9, hbn⟩; exact ⟨_, rfl, hR _ _ hbn ⟨az, cz, rfl, hz9⟩⟩))
  case o5 => (refine StepOKF.plain rfl ?_; intro ρ w1 R hρ hb hp hR; have e19 : ρ (.tmp 19) = _ := hp 1 19 rfl rfl; have f22 := hp 4 22 rfl rfl; replace hR := fun v w2 h1 h2 => hR v w2 h1 h2 (fun h => absurd h (by decide)); have hcon := hρ.con; have hfn := hρ.fn; clear hρ hp; unfold OpRun; go_simp; (refine (DV.out _ _ (HNX.out.below hb) f22).mono ?_; rintro e wn ⟨ao, cap, bo, cbp, rfl, hq, hr, hbn⟩; exact ⟨_, rfl, hR _ _ hbn ⟨ao, cap, bo, cbp, rfl, hq, hr⟩⟩))
  case o6 => (refine StepOKF.plain rfl ?_; intro ρ w1 R hρ hb hp hR; have f23 := hp 5 23 rfl rfl; replace hR := fun v w2 h1 h2 => hR v w2 h1 h2 (fun h => absurd h (by decide)); have hcon := hρ.con; have hfn := hρ.fn; clear hρ hp; unfold OpRun; go_simp; exact hR _ _ (Below.refl _ _) f23)
  case o7 => (refine StepOKF.plain rfl ?_; intro ρ w1 R hρ hb hp hR; have f17 := hp 6 17 rfl rfl; replace hR := fun v w2 h1 h2 => hR v w2 h1 h2 (fun h => absurd h (by decide)); have hcon := hρ.con; have hfn := hρ.fn; clear hρ hp; unfold OpRun; go_simp; (obtain ⟨ao, cap, bo, cbp, e12, hq, hr⟩ := f17; rw [e12]; exact hR _ _ (Below.refl _ _) ⟨_, _, rfl, hq⟩))
  case o8 => (refine StepOKF.plain rfl ?_; intro ρ w1 R hρ hb hp hR; have f17 := hp 6 17 rfl rfl; replace hR := fun v w2 h1 h2 => hR v w2 h1 h2 (fun h => absurd h (by decide)); have hcon := hρ.con; have hfn := hρ.fn; clear hρ hp; unfold OpRun; go_simp; (obtain ⟨ao, cap, bo, cbp, e12, hq, hr⟩ := f17; rw [e12]; exact hR _ _ (Below.refl _ _) ⟨_, _, rfl, hr⟩))
  case o9 => (refine StepOKF.plain rfl ?_; intro ρ w1 R hρ hb hp hR; have hcon := hρ.con; have hfn := hρ.fn; clear hρ hp; unfold OpRun; go_simp; exact hR _ _ (below_alloc _ _) ⟨_, rfl, hb.size, ZL.made rfl⟩ (fun _ => ⟨_, rfl, Nat.le_refl _, by simp⟩))
  case o10 => (refine StepOKF.plain rfl ?_; intro ρ w1 R hρ hb hp hR; have hcon := hρ.con; have hfn := hρ.fn; clear hρ hp; unfold OpRun; go_simp; exact hR _ _ (below_alloc _ _) ⟨_, rfl, hb.size, ZL.made rfl⟩ (fun _ => ⟨_, rfl, Nat.le_refl _, by simp⟩))
  case late =>
    intro o ho
    simp only [List.getElem?_cons_succ, List.getElem?_cons_zero, Option.some.injEq] at ho
    subst ho
    refine ⟨rfl, ?_⟩
    intro ρ w1 hρ hb hp
    have f17 := hp 6 17 rfl rfl
    obtain ⟨ao, cap, bo, cbp, e17, hq, hr⟩ := f17
    refine ⟨_, ?_, ⟨_, _, rfl, hr⟩⟩
    intro w2
    have hcon := hρ.con
    go_simp
    try rfl
  case after =>
    intro u wn hb hf hd
    have f24 := hf 7 24 (by omega) rfl
    have f25 := hf 8 25 (by omega) rfl
    have f8 := hf 9 8 (by omega) rfl
    have f9 := hf 10 9 (by omega) rfl
    have d8_9 : u 8 ≠ u 9 := hd 9 10 8 9 (by omega) (by omega) (by omega) rfl rfl rfl rfl
    clear hf hd
    simp only [putAll, Act.put, List.setIfInBounds_toArray, List.set_cons_zero, List.set_cons_succ, List.drop_succ_cons, List.drop_zero, List.drop_nil]
    obtain ⟨qa, qc, e24, hq⟩ := f24
    obtain ⟨ra, rc, e25, hr⟩ := f25
    obtain ⟨g8, e8, hg8, z8⟩ := f8
    obtain ⟨g9, e9, hg9, z9⟩ := f9
    have h89 : g8 ≠ g9 := by intro h; apply d8_9; rw [e8, e9, h]
    have h98 := h89.symm
    rw [e24, e25, e8, e9]
    clear e24 e25 e8 e9 d8_9
    obtain ⟨a60, a61, af0, af1, as6⟩ := id z8
    obtain ⟨b70, b71, bf0, bf1, bs7⟩ := id z9
    go_upto_region 3 with fail
    have zL := ((((z8.set0 (zneg W)).set1 (.slice qa (zl W).length qc)).far ⟨g9, 0, none⟩ (.bool (zneg (X % pw S))) h89).far ⟨g9, 1, none⟩ (.slice ra (zl (X % pw S)).length rc) h89)
    have hq2 := (hq.st2 as6 (by decide) (.bool (zneg W)) (.slice qa (zl W).length qc)).st2 ((bs7.setCell _ _).setCell _ _) (by decide) (.bool (zneg (X % pw S))) (.slice ra (zl (X % pw S)).length rc)
    have hbS := (((hb.setCell (p := ⟨g8, 0, none⟩) hg8 (.bool (zneg W))).setCell (p := ⟨g8, 1, none⟩) hg8 (.slice qa (zl W).length qc)).setCell (p := ⟨g9, 0, none⟩) hg9 (.bool (zneg (X % pw S)))).setCell (p := ⟨g9, 1, none⟩) hg9 (.slice ra (zl (X % pw S)).length rc)
    obtain ⟨W2, hW2⟩ : ∃ Y, Y = ((((wn.setCell ⟨g8, 0, none⟩ (.bool (zneg W))).setCell ⟨g8, 1, none⟩ (.slice qa (zl W).length qc)).setCell ⟨g9, 0, none⟩ (.bool (zneg (X % pw S)))).setCell ⟨g9, 1, none⟩ (.slice ra (zl (X % pw S)).length rc)) := ⟨_, rfl⟩
    rw [← hW2] at zL hq2 hbS ⊢
    replace zR := zR.below hbS
    replace yb := below_trans yb hbS
    clear hW2 a60 a61 af0 af1 as6 b70 b71 bf0 bf1 bs7 z8 z9 hq hr hb hbS DV ZP HNX zX
    obtain ⟨l0, l1, -, -, -⟩ := id zL
    obtain ⟨k0, k1, f0, f1, hs2⟩ := id zR
    go_wp2_with fail
    refine bodyPost_ret (by simp [results, Tryd.results60, go_sem, k0, k1]; try rfl) rfl ?_
    exact ⟨_, _, rfl, (hq2.setCell hs2 (by decide) _ _).setCell (hs2.setCell _ _) (by decide) _ _, (yb.setCell (by first | omega | (simp; done) | (simp; omega)) _).setCell (by first | omega | (simp; done) | (simp; omega)) _⟩
theorem zOfInt_any (n : Int) (h0 : -9223372036854775808 ≤ n) (h1 : n ≤ 9223372036854775807) (w : World) :
    Calls Tryd.prog 57 #[.int .i64 n] w fun e w' => RetZ 3 w n e w' := by
  have ZN := hid (fun w => zNint_any n h0 h1 w)
  have zR0 : ZL 40 (w.alloc (.cells #[.bool false, .slice none 0 0] 40)) w.heap.size false (.slice none 0 0) := ZL.made rfl
  have yb0 := below_alloc w (.cells #[.bool false, .slice none 0 0] 40)
  go_enter Tryd.func57, Tryd.ntmps57
  go_wp2_with (go_at_call 66; (with_reducible refine (ZN.out _).mono ?_); rintro en w1 ⟨ao, cap, rfl, hN, hb1⟩; have zR := zR0.below hb1; have yb := below_trans yb0 hb1; obtain ⟨k0, k1, f0, f1, hs2⟩ := id zR)
  refine bodyPost_ret (by simp [results, Tryd.results57, go_sem, k0, k1]; try rfl) rfl ?_
  exact ⟨_, _, rfl, (hN.setCell hs2 (by decide) _ _).setCell (hs2.setCell _ _) (by decide) _ _, (yb.setCell (by first | omega | (simp; done) | (simp; omega)) _).setCell (by first | omega | (simp; done) | (simp; omega)) _⟩
end Go.Proofs.YteaakbeemhmciaaDoor
