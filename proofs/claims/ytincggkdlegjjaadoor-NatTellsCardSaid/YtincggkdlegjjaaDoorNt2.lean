/- NatTells: the law's walk. -/
import Derived.Test.YtincggkdlegjjaaDoorNt1
import Derived.Test.YtincggkdlegjjaaDoorZv
import Derived.Test.YtincggkdlegjjaaDoorSh
set_option linter.unusedVariables false
set_option linter.unusedSimpArgs false
namespace Go.Ulp
open Go.RowKit
/-- what Shift hands out -/
def shfF (n : Int) : Int := if n < -20000 ∨ 20000 < n then 1 else 0
def shfV (m : Nat) (n : Int) : Nat := if n < -20000 ∨ 20000 < n then 0 else if 0 ≤ n then m * 2 ^ n.toNat else m / 2 ^ (-n).toNat
def shfL (m : Nat) (n : Int) : Bool := if n < -20000 ∨ 20000 < n then false else if 0 ≤ n then false else lostB m (-n).toNat
theorem limbs_short2' (A n : Nat) (hn : A ≤ 32 * n) (M : Nat) (h : M < 2 ^ A) : (limbs M).length ≤ n :=
  (limbs_le_bits M n).2 (Nat.lt_of_lt_of_le h (Nat.pow_le_pow_right (by omega) hn))
theorem bl_low (m k : Nat) (h : bl m = k + 1) : 2 ^ k ≤ m := by
  have := (bl_le m k)
  rcases Nat.lt_or_ge m (2 ^ k) with h1 | h1
  · have := this.2 h1; omega
  · exact h1
end Go.Ulp
namespace Go.Proofs.YtincggkdlegjjaaDoor
open Go.RowKit Go.Ulp
set_option linter.unusedVariables false
set_option linter.unusedSimpArgs false
set_option maxHeartbeats 16000000
set_option maxRecDepth 100000
theorem natShift_ok (ao : Option Addr) (cap m : Nat) (n : Int) (w : World) (hN : Ns .u32 w ao cap (limbs m)) (hE : limbE (limbs m) = 0) (hl : (limbs m).length ≤ 400) :
    Calls Tryd.prog 39 #[.slice ao (limbs m).length cap, .int .i64 n] w fun e w' => ∃ a c, e = .returned (.tuple #[.slice a (limbs (shfV m n)).length c, .bool (shfL m n), .int .i64 (shfF n)]) ∧ Ns .u32 w' a c (limbs (shfV m n)) ∧ Below w.heap.size w w' := by
  unfold shfV shfL shfF
  by_cases h : n < -20000 ∨ 20000 < n
  · rw [if_pos h, if_pos h, if_pos h]
    exact (natShift_far ao cap m n w hN hE h).mono fun e w' ⟨h1, h2⟩ => ⟨none, 0, h1, Ns.nil, by rw [h2]; exact Below.refl _ _⟩
  · rw [if_neg h, if_neg h, if_neg h]
    by_cases h0 : 0 ≤ n
    · rw [if_pos h0, if_pos h0]
      obtain ⟨k, rfl⟩ := Int.eq_ofNat_of_zero_le h0
      rw [Int.toNat_natCast]
      exact (natShift_up ao cap m k w hN hE hl (by omega)).mono fun e w' ⟨a, h1, h2, h3⟩ => ⟨a, _, h1, h2, h3⟩
    · rw [if_neg h0, if_neg h0]
      obtain ⟨k, hk⟩ : ∃ k : Nat, n = -(k : Int) := ⟨(-n).toNat, by omega⟩
      subst hk
      rw [show (- -(k : Int)).toNat = k by omega]
      exact (natShift_down ao cap m k w hN hE hl (by omega) (by omega)).mono fun e w' ⟨a, h1, h2, h3⟩ => ⟨a, _, h1, h2, h3⟩
theorem natTells_bad (L : List Nat) (ao : Option Addr) (ca : Nat) (n : Int) (W : World) (hN : Ns .u32 W ao ca L) (hE : limbE L ≠ 0) :
    Calls Tryd.prog 7 #[.slice ao L.length ca, .int .i64 n] W fun e w' => e = .returned (.bool true) ∧ Below W.heap.size W w' := by
  have B1 := hid (fun w h => natBits_bad ao ca L w h hE)
  have B2 := hid (fun w h => natShift_bad ao ca L n w h hE)
  have B3 := hid (fun w h => natRoot_bad ao ca L w h hE)
  have B4 := hid (fun w h => natText_bad ao ca L w h hE)
  have LR := hid (fun g w k0 h0 => limbsRight1_any g ao ca L w k0 h0)
  have HN := hid hN
  have hne : (limbE L == 0) = false := beq_eq_false_iff_ne.2 hE
  generalize limbE L = E at *
  clear hN hE
  have yb := below_alloc W (.cells #[.slice ao L.length ca] 33)
  go_enter Tryd.func7, Tryd.ntmps7
  go_wp2_with (first
    | (go_at_call 38; (with_reducible refine (B1.out _ HN.out).mono ?_); rintro en w1 ⟨rfl, rfl⟩)
    | (go_at_call 39; (with_reducible refine (B2.out _ HN.out).mono ?_); rintro en w1 ⟨rfl, rfl⟩)
    | (go_at_call 40; (with_reducible refine (B3.out _ HN.out).mono ?_); rintro en w1 ⟨rfl, rfl⟩)
    | (go_at_call 41; (with_reducible refine (B4.out _ HN.out).mono ?_); rintro en w1 ⟨rfl, rfl⟩)
    | (go_at_call 42; (with_reducible refine (LR.out _ _ ls_made (HN.out.below yb)).mono ?_); rintro en w1 ⟨rfl, rfl⟩))
  go_ret
  exact ⟨rfl, yb⟩
theorem natTells_ok (m : Nat) (ao : Option Addr) (ca : Nat) (n : Int) (hn : -9223372036854775808 ≤ n ∧ n ≤ 9223372036854775807) (W : World) (hN : Ns .u32 W ao ca (limbs m)) (hE : limbE (limbs m) = 0) (hl : (limbs m).length ≤ 400) (hT : Tab10 W) :
    Calls Tryd.prog 7 #[.slice ao (limbs m).length ca, .int .i64 n] W fun e w' => e = .returned (.bool true) ∧ Below W.heap.size W w' := by
  have B1 := hid (fun w h => natBits_ok ao ca m w h hE hl)
  have B2 := hid (fun w h => natShift_ok ao ca m n w h hE hl)
  have B3 := hid (fun w h => natRoot_ok ao ca m w h hE hl)
  have B4 := hid (fun w h t => natText_ok ao ca m w h hE hl t)
  have LR := hid (show ∀ g w, w.cell? ⟨g, 0, none⟩ = some (.slice ao (limbs m).length ca) → Ns .u32 w ao ca (limbs m) → Calls Tryd.prog 42 #[.slice (some ⟨g, 0, none⟩) 1 1] w fun e w' => e = .returned (.int .i64 0) ∧ w = w' from fun g w k0 h0 => by
    have h9 := limbsRight1_any g ao ca (limbs m) w k0 h0
    rwa [hE] at h9)
  have ZL1 := hid (fun w h => by have := zlimbs_any (limbs m) ao ca w (limbs_lim m) h (by omega); rwa [lval_limbs] at this)
  obtain ⟨r, hr⟩ : ∃ r, r = isq m := ⟨_, rfl⟩
  rw [← hr] at B3
  obtain ⟨r1, r2⟩ := isq_spec m
  rw [← hr] at r1 r2
  have hrm : r ≤ m := by rw [hr]; exact isq_le m
  have hrl : (limbs r).length ≤ 400 := Nat.le_trans (limbs_len_mono hrm) hl
  have ZL2 := hid (fun a c w h => by have := zlimbs_any (limbs r) a c w (limbs_lim r) h (by omega); rwa [lval_limbs] at this)
  have zm := zlen_of_limbs m 400 hl
  have zr := zlen_of_limbs r 400 hrl
  have HN := hid hN
  have HT := hid hT
  have hbl : bl m ≤ 12800 := Nat.le_trans (bl_len2 m 400 hl) (by omega)
  obtain ⟨bm, hbm⟩ : ∃ b, b = bl m := ⟨_, rfl⟩
  have hlt := lt_bl m
  rw [← hbm] at B1 hbl hlt
  obtain ⟨sv, hsv⟩ : ∃ s, s = shfV m n := ⟨_, rfl⟩
  obtain ⟨sl, hsl⟩ : ∃ s, s = shfL m n := ⟨_, rfl⟩
  obtain ⟨sf, hsf⟩ : ∃ s, s = shfF n := ⟨_, rfl⟩
  rw [← hsv, ← hsl, ← hsf] at B2
  obtain ⟨D, hD⟩ : ∃ D, D = decD m := ⟨_, rfl⟩
  rw [← hD] at B4
  obtain ⟨lf, hlf⟩ : ∃ b, b = decide (r * r ≠ m) := ⟨_, rfl⟩
  rw [← hlf] at B3
  have yb := below_alloc W (.cells #[.slice ao (limbs m).length ca] 33)
  have HBM := hid hbm
  have HLT := hid hlt
  have HSV := hid hsv
  have HSL := hid hsl
  have HSF := hid hsf
  have HD := hid hD
  have HLF := hid hlf
  have HR1 := hid r1
  have HR2 := hid r2
  clear hN hE hr hbm hlt hsv hsl hsf hD hlf r1 r2 hT
  go_enter Tryd.func7, Tryd.ntmps7
  go_upto_region 9 with (first
    | (go_at_call 38; (with_reducible refine (B1.out _ HN.out).mono ?_); rintro en w1 ⟨rfl, rfl⟩)
    | (go_at_call 39; (with_reducible refine (B2.out _ HN.out).mono ?_); rintro en w2 ⟨ax, cx, rfl, hNx, hbx⟩)
    | (go_at_call 40; (with_reducible refine (B3.out _ (HN.out.below hbx)).mono ?_); rintro en w3 ⟨ar, cr, rfl, hNr, hbr⟩; have y3 := below_trans hbx hbr)
    | (go_at_call 41; (with_reducible refine (B4.out _ (HN.out.below y3) (HT.out.below y3)).mono ?_); rintro en w4 ⟨rfl, hb4⟩; have y4 := below_trans y3 hb4; have y5 := below_trans y4 (below_alloc w4 (.cells #[.slice ao (limbs m).length ca] 33)))
    | (go_at_call 42; (with_reducible refine (LR.out _ _ ls_made (HN.out.below y5)).mono ?_); rintro en w1 ⟨rfl, rfl⟩)
    | (go_at_call 43; (with_reducible refine (ZL1.out _ (HN.out.below y5)).mono ?_); rintro en w6 ⟨am, cm, rfl, hNm, hb6⟩; have y6 := below_trans y5 hb6))
  refine wp_worldZ (fun WW => Below W.heap.size W WW ∧ ZV 42 3 WW w6.heap.size (m : Int) ∧ Ns .u32 WW ar cr (limbs r) ∧ Ns .u32 WW ax cx (limbs sv)) ⟨below_trans y6 (below_alloc _ _), zv_made hNm _ rfl, ((((hNr.below hb4).below (below_alloc _ _)).below hb6).below (below_alloc _ _)), (((((hNx.below hbr).below hb4).below (below_alloc _ _)).below hb6).below (below_alloc _ _))⟩ ?_
  intro W9 ⟨y9, z16, hNr9, hNx9⟩
  obtain ⟨g16, hg16⟩ : ∃ g, g = w6.heap.size := ⟨_, rfl⟩
  rw [← hg16] at z16 ⊢
  have HNR := hid hNr9
  have HNX := hid hNx9
  clear hg16 hNm hNr hNx hb6 hb4 hbr hbx y3 y4 y5 y6 yb hNr9 hNx9 B1 B2 B3 B4 LR ZL1 HN HT
  go_cut [128] (fun s128 wx => s128 = .bool false ∧ Below W9.heap.size W9 wx)
  case first => as_aux_lemma =>
    have HC1 := hid (show cmpI (m : Int) (pw bm) = -1 from cmpI_l (by unfold pw; have := HLT.out; omega))
    have HDD := hid (show bsOf (zTx (m : Int)) = bsOf D by rw [HD.out]; unfold zTx; rw [if_neg (by omega), Int.natAbs_natCast])
    clear HNR HNX HSV HSL HSF HLF HR1 HR2 ZL2 hrl zr hrm
    by_cases hb0 : bm = 0
    · have hbp : ¬ 0 < (bm : Int) := by omega
      clear hb0 HBM HLT HD
      refine wp_region_grow 35 [94, 95, 96, 97, 98, 99, 100, 101, 102, 103, 104, 105, 106, 107, 108, 109, 110, 111, 112, 113, 114, 115, 116, 117, 118, 119, 120, 121, 122, 123, 124, 125, 126, 127, 128] [Fact.is (.int .i64 0), Fact.is (.bool false), Fact.is (.bool false), Fact.is (.int .i64 (bm : Int)), Fact.is (.bool false), Fact.is (.bool false), Fact.is (.bool false), Fact.z 3 ((m : Int)), Fact.is (.int .i64 (bm : Int)), Fact.z 3 (pw bm), Fact.is (.int .i64 (-1)), Fact.is (.bool false), Fact.is (.bool false), Fact.is (.bool false), Fact.is (.int .i64 (bm : Int)), Fact.is (.bool false), Fact.is (.bool false), Fact.any, Fact.any, Fact.any, Fact.any, Fact.any, Fact.any, Fact.is (.bool false), Fact.is (.bool false), Fact.is (.bool false), Fact.is (.string (bsOf D)), Fact.z 3 ((m : Int)), Fact.is (.string (bsOf D)), Fact.is (.bool false), Fact.is (.bool false), Fact.is (.bool false), Fact.is (.int .i64 0), Fact.is (.bool false), Fact.is (.bool false)] (by kernel_rfl) (by kernel_rfl) ⟨?o0, ?o1, ?o2, ?o3, ?o4, ?o5, ?o6, ?o7, ?o8, ?o9, ?o10, ?o11, ?o12, ?o13, ?o14, ?o15, ?o16, ?o17, ?o18, ?o19, ?o20, ?o21, ?o22, ?o23, ?o24, ?o25, ?o26, ?o27, ?o28, ?o29, ?o30, ?o31, ?o32, ?o33, ?o34, trivial⟩ ?after
      case o0 => (refine StepOK.plain rfl ?_; intro ρ w1 R hρ hb hp hR; have e6 : ρ (.tmp 6) = .int .i64 0 := hρ.tmp 6 rfl; have hcon := hρ.con; have hfn := hρ.fn; clear hρ hp; unfold OpRun; go_simp; exact hR _ _ (Below.refl _ _) rfl)
      case o1 => (refine StepOK.plain rfl ?_; intro ρ w1 R hρ hb hp hR; have e94 : ρ (.tmp 94) = _ := hp 0 94 rfl rfl; have hcon := hρ.con; have hfn := hρ.fn; clear hρ hp; unfold OpRun; go_simp; exact hR _ _ (Below.refl _ _) rfl)
      case o2 => (refine StepOK.plain rfl ?_; intro ρ w1 R hρ hb hp hR; have e95 : ρ (.tmp 95) = _ := hp 1 95 rfl rfl; have hcon := hρ.con; have hfn := hρ.fn; clear hρ hp; unfold OpRun; go_simp; exact hR _ _ (Below.refl _ _) rfl)
      case o3 => (intro ρ w1 R hρ hb hp hR; have eg : ρ (.tmp 96) = .bool false := hp 2 96 rfl rfl; refine ⟨fun _ => ?_, fun hg => absurd hg (by simp [guardOf, eg])⟩; clear eg; have e5 : ρ (.tmp 5) = .int .i64 (bm : Int) := hρ.tmp 5 rfl; have hcon := hρ.con; have hfn := hρ.fn; clear hρ hp; unfold OpRun; go_simp; exact hR _ _ (Below.refl _ _) rfl)
      case o4 => (intro ρ w1 R hρ hb hp hR; have eg : ρ (.tmp 96) = .bool false := hp 2 96 rfl rfl; refine ⟨fun _ => ?_, fun hg => absurd hg (by simp [guardOf, eg])⟩; clear eg; have e97 : ρ (.tmp 97) = _ := hp 3 97 rfl rfl; have hcon := hρ.con; have hfn := hρ.fn; clear hρ hp; unfold OpRun; go_simp; exact hR _ _ (Below.refl _ _) rfl)
      case o5 => (refine StepOK.plain rfl ?_; intro ρ w1 R hρ hb hp hR; have e96 : ρ (.tmp 96) = _ := hp 2 96 rfl rfl; have e98 : ρ (.tmp 98) = _ := hp 4 98 rfl rfl; have hcon := hρ.con; have hfn := hρ.fn; clear hρ hp; unfold OpRun; go_simp; exact hR _ _ (Below.refl _ _) rfl)
      case o6 => (refine StepOK.plain rfl ?_; intro ρ w1 R hρ hb hp hR; have e99 : ρ (.tmp 99) = _ := hp 5 99 rfl rfl; have hcon := hρ.con; have hfn := hρ.fn; clear hρ hp; unfold OpRun; go_simp; exact hR _ _ (Below.refl _ _) rfl)
      case o7 => (intro ρ w1 R hρ hb hp hR; have eg : ρ (.tmp 100) = .bool false := hp 6 100 rfl rfl; refine ⟨fun _ => ?_, fun hg => absurd hg (by simp [guardOf, eg])⟩; clear eg; have e16 : ρ (.tmp 16) = .pointer (some ⟨g16, 0, none⟩) := hρ.tmp 16 rfl; obtain ⟨ya9, yc9, yj9, yn9⟩ := ZV.below z16 hb; obtain ⟨j90, j91, -⟩ := yj9; have hcon := hρ.con; have hfn := hρ.fn; clear hρ hp; unfold OpRun; go_simp; exact hR _ _ (Below.refl _ _) ⟨ya9, yc9, rfl, yn9⟩)
      case o8 => (intro ρ w1 R hρ hb hp hR; have eg : ρ (.tmp 100) = .bool false := hp 6 100 rfl rfl; refine ⟨fun _ => ?_, fun hg => absurd hg (by simp [guardOf, eg])⟩; clear eg; have e5 : ρ (.tmp 5) = .int .i64 (bm : Int) := hρ.tmp 5 rfl; have hcon := hρ.con; have hfn := hρ.fn; clear hρ hp; unfold OpRun; go_simp; exact hR _ _ (Below.refl _ _) rfl)
      case o9 => (intro ρ w1 R hρ hb hp hR; have eg : ρ (.tmp 100) = .bool false := hp 6 100 rfl rfl; refine ⟨fun _ => ?_, fun hg => absurd hg (by simp [guardOf, eg])⟩; clear eg; have e102 : ρ (.tmp 102) = _ := hp 8 102 rfl rfl; have hcon := hρ.con; have hfn := hρ.fn; clear hρ hp; unfold OpRun; go_simp; (refine (zpowD bm _ (by first | assumption | omega)).mono ?_; rintro e wn ⟨v9, rfl, hz9, hbn⟩; exact ⟨_, rfl, hR _ _ hbn hz9⟩))
      case o10 => (intro ρ w1 R hρ hb hp hR; have eg : ρ (.tmp 100) = .bool false := hp 6 100 rfl rfl; refine ⟨fun _ => ?_, fun hg => absurd hg (by simp [guardOf, eg])⟩; clear eg; have f101 := hp 7 101 rfl rfl; have f103 := hp 9 103 rfl rfl; have h99 := zcmpD _ _ _ _ _ f101 f103; rw [HC1.out] at h99; have hcon := hρ.con; have hfn := hρ.fn; clear hρ hp; unfold OpRun; go_simp; (refine (h99).mono ?_; rintro e wn ⟨rfl, hbn⟩; exact ⟨_, rfl, hR _ _ hbn rfl⟩))
      case o11 => (intro ρ w1 R hρ hb hp hR; have eg : ρ (.tmp 100) = .bool false := hp 6 100 rfl rfl; refine ⟨fun _ => ?_, fun hg => absurd hg (by simp [guardOf, eg])⟩; clear eg; have e104 : ρ (.tmp 104) = _ := hp 10 104 rfl rfl; have hcon := hρ.con; have hfn := hρ.fn; clear hρ hp; unfold OpRun; go_simp; exact hR _ _ (Below.refl _ _) rfl)
      case o12 => (refine StepOK.plain rfl ?_; intro ρ w1 R hρ hb hp hR; have e100 : ρ (.tmp 100) = _ := hp 6 100 rfl rfl; have e105 : ρ (.tmp 105) = _ := hp 11 105 rfl rfl; have hcon := hρ.con; have hfn := hρ.fn; clear hρ hp; unfold OpRun; go_simp; exact hR _ _ (Below.refl _ _) rfl)
      case o13 => (refine StepOK.plain rfl ?_; intro ρ w1 R hρ hb hp hR; have e106 : ρ (.tmp 106) = _ := hp 12 106 rfl rfl; have hcon := hρ.con; have hfn := hρ.fn; clear hρ hp; unfold OpRun; go_simp; exact hR _ _ (Below.refl _ _) rfl)
      case o14 => (intro ρ w1 R hρ hb hp hR; have eg : ρ (.tmp 107) = .bool false := hp 13 107 rfl rfl; refine ⟨fun _ => ?_, fun hg => absurd hg (by simp [guardOf, eg])⟩; clear eg; have e5 : ρ (.tmp 5) = .int .i64 (bm : Int) := hρ.tmp 5 rfl; have hcon := hρ.con; have hfn := hρ.fn; clear hρ hp; unfold OpRun; go_simp; exact hR _ _ (Below.refl _ _) rfl)
      case o15 => (intro ρ w1 R hρ hb hp hR; have eg : ρ (.tmp 107) = .bool false := hp 13 107 rfl rfl; refine ⟨fun _ => ?_, fun hg => absurd hg (by simp [guardOf, eg])⟩; clear eg; have e108 : ρ (.tmp 108) = _ := hp 14 108 rfl rfl; have hx9 : decide (0 < bm) = false := decide_eq_false (by omega); have hcon := hρ.con; have hfn := hρ.fn; clear hρ hp; unfold OpRun; go_simp; exact hR _ _ (Below.refl _ _) rfl)
      case o16 => (intro ρ w1 R hρ hb hp hR; have eg : ρ (.tmp 107) = .bool false := hp 13 107 rfl rfl; refine ⟨fun _ => ?_, fun hg => absurd hg (by simp [guardOf, eg])⟩; clear eg; have e109 : ρ (.tmp 109) = _ := hp 15 109 rfl rfl; have hcon := hρ.con; have hfn := hρ.fn; clear hρ hp; unfold OpRun; go_simp; exact hR _ _ (Below.refl _ _) rfl)
      case o17 => (intro ρ w1 R hρ hb hp hR; have eg : ρ (.tmp 110) = .bool false := hp 16 110 rfl rfl; exact ⟨fun hg => absurd hg (by simp [guardOf, eg]), fun _ => trivial⟩)
      case o18 => (intro ρ w1 R hρ hb hp hR; have eg : ρ (.tmp 110) = .bool false := hp 16 110 rfl rfl; exact ⟨fun hg => absurd hg (by simp [guardOf, eg]), fun _ => trivial⟩)
      case o19 => (intro ρ w1 R hρ hb hp hR; have eg : ρ (.tmp 110) = .bool false := hp 16 110 rfl rfl; exact ⟨fun hg => absurd hg (by simp [guardOf, eg]), fun _ => trivial⟩)
      case o20 => (intro ρ w1 R hρ hb hp hR; have eg : ρ (.tmp 110) = .bool false := hp 16 110 rfl rfl; exact ⟨fun hg => absurd hg (by simp [guardOf, eg]), fun _ => trivial⟩)
      case o21 => (intro ρ w1 R hρ hb hp hR; have eg : ρ (.tmp 110) = .bool false := hp 16 110 rfl rfl; exact ⟨fun hg => absurd hg (by simp [guardOf, eg]), fun _ => trivial⟩)
      case o22 => (intro ρ w1 R hρ hb hp hR; have eg : ρ (.tmp 110) = .bool false := hp 16 110 rfl rfl; exact ⟨fun hg => absurd hg (by simp [guardOf, eg]), fun _ => trivial⟩)
      case o23 => (intro ρ w1 R hρ hb hp hR; have eg : ρ (.tmp 107) = .bool false := hp 13 107 rfl rfl; refine ⟨fun _ => ?_, fun hg => absurd hg (by simp [guardOf, eg])⟩; clear eg; have e110 : ρ (.tmp 110) = _ := hp 16 110 rfl rfl; have f116 := hp 22 116 rfl rfl; have hcon := hρ.con; have hfn := hρ.fn; clear hρ hp; unfold OpRun; go_simp; exact hR _ _ (Below.refl _ _) rfl)
      case o24 => (refine StepOK.plain rfl ?_; intro ρ w1 R hρ hb hp hR; have e107 : ρ (.tmp 107) = _ := hp 13 107 rfl rfl; have e117 : ρ (.tmp 117) = _ := hp 23 117 rfl rfl; have hcon := hρ.con; have hfn := hρ.fn; clear hρ hp; unfold OpRun; go_simp; exact hR _ _ (Below.refl _ _) rfl)
      case o25 => (refine StepOK.plain rfl ?_; intro ρ w1 R hρ hb hp hR; have e118 : ρ (.tmp 118) = _ := hp 24 118 rfl rfl; have hcon := hρ.con; have hfn := hρ.fn; clear hρ hp; unfold OpRun; go_simp; exact hR _ _ (Below.refl _ _) rfl)
      case o26 => (intro ρ w1 R hρ hb hp hR; have eg : ρ (.tmp 119) = .bool false := hp 25 119 rfl rfl; refine ⟨fun _ => ?_, fun hg => absurd hg (by simp [guardOf, eg])⟩; clear eg; have e13 : ρ (.tmp 13) = .string (bsOf D) := hρ.tmp 13 rfl; have hcon := hρ.con; have hfn := hρ.fn; clear hρ hp; unfold OpRun; go_simp; exact hR _ _ (Below.refl _ _) rfl)
      case o27 => (intro ρ w1 R hρ hb hp hR; have eg : ρ (.tmp 119) = .bool false := hp 25 119 rfl rfl; refine ⟨fun _ => ?_, fun hg => absurd hg (by simp [guardOf, eg])⟩; clear eg; have e16 : ρ (.tmp 16) = .pointer (some ⟨g16, 0, none⟩) := hρ.tmp 16 rfl; obtain ⟨ya9, yc9, yj9, yn9⟩ := ZV.below z16 hb; obtain ⟨j90, j91, -⟩ := yj9; have hcon := hρ.con; have hfn := hρ.fn; clear hρ hp; unfold OpRun; go_simp; exact hR _ _ (Below.refl _ _) ⟨ya9, yc9, rfl, yn9⟩)
      case o28 => (intro ρ w1 R hρ hb hp hR; have eg : ρ (.tmp 119) = .bool false := hp 25 119 rfl rfl; refine ⟨fun _ => ?_, fun hg => absurd hg (by simp [guardOf, eg])⟩; clear eg; have f121 := hp 27 121 rfl rfl; have h99 := zTextD _ _ _ f121 (by first | assumption | omega); rw [HDD.out] at h99; have hcon := hρ.con; have hfn := hρ.fn; clear hρ hp; unfold OpRun; go_simp; (refine (h99).mono ?_; rintro e wn ⟨rfl, hbn⟩; exact ⟨_, rfl, hR _ _ hbn rfl⟩))
      case o29 => (intro ρ w1 R hρ hb hp hR; have eg : ρ (.tmp 119) = .bool false := hp 25 119 rfl rfl; refine ⟨fun _ => ?_, fun hg => absurd hg (by simp [guardOf, eg])⟩; clear eg; have e120 : ρ (.tmp 120) = _ := hp 26 120 rfl rfl; have e122 : ρ (.tmp 122) = _ := hp 28 122 rfl rfl; have hcon := hρ.con; have hfn := hρ.fn; clear hρ hp; unfold OpRun; go_simp; exact hR _ _ (Below.refl _ _) rfl)
      case o30 => (refine StepOK.plain rfl ?_; intro ρ w1 R hρ hb hp hR; have e119 : ρ (.tmp 119) = _ := hp 25 119 rfl rfl; have e123 : ρ (.tmp 123) = _ := hp 29 123 rfl rfl; have hcon := hρ.con; have hfn := hρ.fn; clear hρ hp; unfold OpRun; go_simp; exact hR _ _ (Below.refl _ _) rfl)
      case o31 => (refine StepOK.plain rfl ?_; intro ρ w1 R hρ hb hp hR; have e124 : ρ (.tmp 124) = _ := hp 30 124 rfl rfl; have hcon := hρ.con; have hfn := hρ.fn; clear hρ hp; unfold OpRun; go_simp; exact hR _ _ (Below.refl _ _) rfl)
      case o32 => (intro ρ w1 R hρ hb hp hR; have eg : ρ (.tmp 125) = .bool false := hp 31 125 rfl rfl; refine ⟨fun _ => ?_, fun hg => absurd hg (by simp [guardOf, eg])⟩; clear eg; have e14 : ρ (.tmp 14) = .int .i64 0 := hρ.tmp 14 rfl; have hcon := hρ.con; have hfn := hρ.fn; clear hρ hp; unfold OpRun; go_simp; exact hR _ _ (Below.refl _ _) rfl)
      case o33 => (intro ρ w1 R hρ hb hp hR; have eg : ρ (.tmp 125) = .bool false := hp 31 125 rfl rfl; refine ⟨fun _ => ?_, fun hg => absurd hg (by simp [guardOf, eg])⟩; clear eg; have e126 : ρ (.tmp 126) = _ := hp 32 126 rfl rfl; have hcon := hρ.con; have hfn := hρ.fn; clear hρ hp; unfold OpRun; go_simp; exact hR _ _ (Below.refl _ _) rfl)
      case o34 => (refine StepOK.plain rfl ?_; intro ρ w1 R hρ hb hp hR; have e125 : ρ (.tmp 125) = _ := hp 31 125 rfl rfl; have e127 : ρ (.tmp 127) = _ := hp 33 127 rfl rfl; have hcon := hρ.con; have hfn := hρ.fn; clear hρ hp; unfold OpRun; go_simp; exact hR _ _ (Below.refl _ _) rfl)
      case after =>
        intro u wn hb hf
        have e128 : u 128 = _ := hf 34 128 (by omega) rfl
        clear hf
        simp only [putAll, Act.put, List.setIfInBounds_toArray, List.set_cons_zero, List.set_cons_succ, List.drop_succ_cons, List.drop_zero, List.drop_nil]
        rw [e128]
        go_wp2_with fail
        go_meet
        exact ⟨rfl, hb⟩
    · obtain ⟨k1, hk1⟩ : ∃ k, k = bm - 1 := ⟨_, rfl⟩
      have e1 : (bm : Int) - 1 = (k1 : Int) := by omega
      have hbp : 0 < (bm : Int) := by omega
      have hk2 : k1 ≤ 12800 := by omega
      have h115 : ¬ cmpI (m : Int) (pw k1) < 0 := by
        rw [cmpI_lt]; unfold pw
        have := bl_low m k1 (by rw [← HBM.out]; omega)
        omega
      clear hb0 HBM HLT HD hk1
      refine wp_region_grow 35 [94, 95, 96, 97, 98, 99, 100, 101, 102, 103, 104, 105, 106, 107, 108, 109, 110, 111, 112, 113, 114, 115, 116, 117, 118, 119, 120, 121, 122, 123, 124, 125, 126, 127, 128] [Fact.is (.int .i64 0), Fact.is (.bool false), Fact.is (.bool false), Fact.is (.int .i64 (bm : Int)), Fact.is (.bool false), Fact.is (.bool false), Fact.is (.bool false), Fact.z 3 ((m : Int)), Fact.is (.int .i64 (bm : Int)), Fact.z 3 (pw bm), Fact.is (.int .i64 (-1)), Fact.is (.bool false), Fact.is (.bool false), Fact.is (.bool false), Fact.is (.int .i64 (bm : Int)), Fact.is (.bool true), Fact.is (.bool true), Fact.z 3 ((m : Int)), Fact.is (.int .i64 (bm : Int)), Fact.is (.int .i64 (k1 : Int)), Fact.z 3 (pw k1), Fact.is (.int .i64 (cmpI ((m : Int)) (pw k1))), Fact.is (.bool false), Fact.is (.bool false), Fact.is (.bool false), Fact.is (.bool false), Fact.is (.string (bsOf D)), Fact.z 3 ((m : Int)), Fact.is (.string (bsOf D)), Fact.is (.bool false), Fact.is (.bool false), Fact.is (.bool false), Fact.is (.int .i64 0), Fact.is (.bool false), Fact.is (.bool false)] (by kernel_rfl) (by kernel_rfl) ⟨?o0, ?o1, ?o2, ?o3, ?o4, ?o5, ?o6, ?o7, ?o8, ?o9, ?o10, ?o11, ?o12, ?o13, ?o14, ?o15, ?o16, ?o17, ?o18, ?o19, ?o20, ?o21, ?o22, ?o23, ?o24, ?o25, ?o26, ?o27, ?o28, ?o29, ?o30, ?o31, ?o32, ?o33, ?o34, trivial⟩ ?after
      case o0 => (refine StepOK.plain rfl ?_; intro ρ w1 R hρ hb hp hR; have e6 : ρ (.tmp 6) = .int .i64 0 := hρ.tmp 6 rfl; have hcon := hρ.con; have hfn := hρ.fn; clear hρ hp; unfold OpRun; go_simp; exact hR _ _ (Below.refl _ _) rfl)
      case o1 => (refine StepOK.plain rfl ?_; intro ρ w1 R hρ hb hp hR; have e94 : ρ (.tmp 94) = _ := hp 0 94 rfl rfl; have hcon := hρ.con; have hfn := hρ.fn; clear hρ hp; unfold OpRun; go_simp; exact hR _ _ (Below.refl _ _) rfl)
      case o2 => (refine StepOK.plain rfl ?_; intro ρ w1 R hρ hb hp hR; have e95 : ρ (.tmp 95) = _ := hp 1 95 rfl rfl; have hcon := hρ.con; have hfn := hρ.fn; clear hρ hp; unfold OpRun; go_simp; exact hR _ _ (Below.refl _ _) rfl)
      case o3 => (intro ρ w1 R hρ hb hp hR; have eg : ρ (.tmp 96) = .bool false := hp 2 96 rfl rfl; refine ⟨fun _ => ?_, fun hg => absurd hg (by simp [guardOf, eg])⟩; clear eg; have e5 : ρ (.tmp 5) = .int .i64 (bm : Int) := hρ.tmp 5 rfl; have hcon := hρ.con; have hfn := hρ.fn; clear hρ hp; unfold OpRun; go_simp; exact hR _ _ (Below.refl _ _) rfl)
      case o4 => (intro ρ w1 R hρ hb hp hR; have eg : ρ (.tmp 96) = .bool false := hp 2 96 rfl rfl; refine ⟨fun _ => ?_, fun hg => absurd hg (by simp [guardOf, eg])⟩; clear eg; have e97 : ρ (.tmp 97) = _ := hp 3 97 rfl rfl; have hcon := hρ.con; have hfn := hρ.fn; clear hρ hp; unfold OpRun; go_simp; exact hR _ _ (Below.refl _ _) rfl)
      case o5 => (refine StepOK.plain rfl ?_; intro ρ w1 R hρ hb hp hR; have e96 : ρ (.tmp 96) = _ := hp 2 96 rfl rfl; have e98 : ρ (.tmp 98) = _ := hp 4 98 rfl rfl; have hcon := hρ.con; have hfn := hρ.fn; clear hρ hp; unfold OpRun; go_simp; exact hR _ _ (Below.refl _ _) rfl)
      case o6 => (refine StepOK.plain rfl ?_; intro ρ w1 R hρ hb hp hR; have e99 : ρ (.tmp 99) = _ := hp 5 99 rfl rfl; have hcon := hρ.con; have hfn := hρ.fn; clear hρ hp; unfold OpRun; go_simp; exact hR _ _ (Below.refl _ _) rfl)
      case o7 => (intro ρ w1 R hρ hb hp hR; have eg : ρ (.tmp 100) = .bool false := hp 6 100 rfl rfl; refine ⟨fun _ => ?_, fun hg => absurd hg (by simp [guardOf, eg])⟩; clear eg; have e16 : ρ (.tmp 16) = .pointer (some ⟨g16, 0, none⟩) := hρ.tmp 16 rfl; obtain ⟨ya9, yc9, yj9, yn9⟩ := ZV.below z16 hb; obtain ⟨j90, j91, -⟩ := yj9; have hcon := hρ.con; have hfn := hρ.fn; clear hρ hp; unfold OpRun; go_simp; exact hR _ _ (Below.refl _ _) ⟨ya9, yc9, rfl, yn9⟩)
      case o8 => (intro ρ w1 R hρ hb hp hR; have eg : ρ (.tmp 100) = .bool false := hp 6 100 rfl rfl; refine ⟨fun _ => ?_, fun hg => absurd hg (by simp [guardOf, eg])⟩; clear eg; have e5 : ρ (.tmp 5) = .int .i64 (bm : Int) := hρ.tmp 5 rfl; have hcon := hρ.con; have hfn := hρ.fn; clear hρ hp; unfold OpRun; go_simp; exact hR _ _ (Below.refl _ _) rfl)
      case o9 => (intro ρ w1 R hρ hb hp hR; have eg : ρ (.tmp 100) = .bool false := hp 6 100 rfl rfl; refine ⟨fun _ => ?_, fun hg => absurd hg (by simp [guardOf, eg])⟩; clear eg; have e102 : ρ (.tmp 102) = _ := hp 8 102 rfl rfl; have hcon := hρ.con; have hfn := hρ.fn; clear hρ hp; unfold OpRun; go_simp; (refine (zpowD bm _ (by first | assumption | omega)).mono ?_; rintro e wn ⟨v9, rfl, hz9, hbn⟩; exact ⟨_, rfl, hR _ _ hbn hz9⟩))
      case o10 => (intro ρ w1 R hρ hb hp hR; have eg : ρ (.tmp 100) = .bool false := hp 6 100 rfl rfl; refine ⟨fun _ => ?_, fun hg => absurd hg (by simp [guardOf, eg])⟩; clear eg; have f101 := hp 7 101 rfl rfl; have f103 := hp 9 103 rfl rfl; have h99 := zcmpD _ _ _ _ _ f101 f103; rw [HC1.out] at h99; have hcon := hρ.con; have hfn := hρ.fn; clear hρ hp; unfold OpRun; go_simp; (refine (h99).mono ?_; rintro e wn ⟨rfl, hbn⟩; exact ⟨_, rfl, hR _ _ hbn rfl⟩))
      case o11 => (intro ρ w1 R hρ hb hp hR; have eg : ρ (.tmp 100) = .bool false := hp 6 100 rfl rfl; refine ⟨fun _ => ?_, fun hg => absurd hg (by simp [guardOf, eg])⟩; clear eg; have e104 : ρ (.tmp 104) = _ := hp 10 104 rfl rfl; have hcon := hρ.con; have hfn := hρ.fn; clear hρ hp; unfold OpRun; go_simp; exact hR _ _ (Below.refl _ _) rfl)
      case o12 => (refine StepOK.plain rfl ?_; intro ρ w1 R hρ hb hp hR; have e100 : ρ (.tmp 100) = _ := hp 6 100 rfl rfl; have e105 : ρ (.tmp 105) = _ := hp 11 105 rfl rfl; have hcon := hρ.con; have hfn := hρ.fn; clear hρ hp; unfold OpRun; go_simp; exact hR _ _ (Below.refl _ _) rfl)
      case o13 => (refine StepOK.plain rfl ?_; intro ρ w1 R hρ hb hp hR; have e106 : ρ (.tmp 106) = _ := hp 12 106 rfl rfl; have hcon := hρ.con; have hfn := hρ.fn; clear hρ hp; unfold OpRun; go_simp; exact hR _ _ (Below.refl _ _) rfl)
      case o14 => (intro ρ w1 R hρ hb hp hR; have eg : ρ (.tmp 107) = .bool false := hp 13 107 rfl rfl; refine ⟨fun _ => ?_, fun hg => absurd hg (by simp [guardOf, eg])⟩; clear eg; have e5 : ρ (.tmp 5) = .int .i64 (bm : Int) := hρ.tmp 5 rfl; have hcon := hρ.con; have hfn := hρ.fn; clear hρ hp; unfold OpRun; go_simp; exact hR _ _ (Below.refl _ _) rfl)
      case o15 => (intro ρ w1 R hρ hb hp hR; have eg : ρ (.tmp 107) = .bool false := hp 13 107 rfl rfl; refine ⟨fun _ => ?_, fun hg => absurd hg (by simp [guardOf, eg])⟩; clear eg; have e108 : ρ (.tmp 108) = _ := hp 14 108 rfl rfl; have hx9 : decide (0 < bm) = true := decide_eq_true (by omega); have hcon := hρ.con; have hfn := hρ.fn; clear hρ hp; unfold OpRun; go_simp; exact hR _ _ (Below.refl _ _) rfl)
      case o16 => (intro ρ w1 R hρ hb hp hR; have eg : ρ (.tmp 107) = .bool false := hp 13 107 rfl rfl; refine ⟨fun _ => ?_, fun hg => absurd hg (by simp [guardOf, eg])⟩; clear eg; have e109 : ρ (.tmp 109) = _ := hp 15 109 rfl rfl; have hcon := hρ.con; have hfn := hρ.fn; clear hρ hp; unfold OpRun; go_simp; exact hR _ _ (Below.refl _ _) rfl)
      case o17 => (intro ρ w1 R hρ hb hp hR; have eg : ρ (.tmp 110) = .bool true := hp 16 110 rfl rfl; refine ⟨fun _ => ?_, fun hg => absurd hg (by simp [guardOf, eg])⟩; clear eg; have e16 : ρ (.tmp 16) = .pointer (some ⟨g16, 0, none⟩) := hρ.tmp 16 rfl; obtain ⟨ya9, yc9, yj9, yn9⟩ := ZV.below z16 hb; obtain ⟨j90, j91, -⟩ := yj9; have hcon := hρ.con; have hfn := hρ.fn; clear hρ hp; unfold OpRun; go_simp; exact hR _ _ (Below.refl _ _) ⟨ya9, yc9, rfl, yn9⟩)
      case o18 => (intro ρ w1 R hρ hb hp hR; have eg : ρ (.tmp 110) = .bool true := hp 16 110 rfl rfl; refine ⟨fun _ => ?_, fun hg => absurd hg (by simp [guardOf, eg])⟩; clear eg; have e5 : ρ (.tmp 5) = .int .i64 (bm : Int) := hρ.tmp 5 rfl; have hcon := hρ.con; have hfn := hρ.fn; clear hρ hp; unfold OpRun; go_simp; exact hR _ _ (Below.refl _ _) rfl)
      case o19 => (intro ρ w1 R hρ hb hp hR; have eg : ρ (.tmp 110) = .bool true := hp 16 110 rfl rfl; refine ⟨fun _ => ?_, fun hg => absurd hg (by simp [guardOf, eg])⟩; clear eg; have e112 : ρ (.tmp 112) = _ := hp 18 112 rfl rfl; have hwp : IntKind.i64.wrap (k1 : Int) = (k1 : Int) := IntWalk.i64_in _ (by omega); have hcon := hρ.con; have hfn := hρ.fn; clear hρ hp; unfold OpRun; go_simp; exact hR _ _ (Below.refl _ _) rfl)
      case o20 => (intro ρ w1 R hρ hb hp hR; have eg : ρ (.tmp 110) = .bool true := hp 16 110 rfl rfl; refine ⟨fun _ => ?_, fun hg => absurd hg (by simp [guardOf, eg])⟩; clear eg; have e113 : ρ (.tmp 113) = _ := hp 19 113 rfl rfl; have hcon := hρ.con; have hfn := hρ.fn; clear hρ hp; unfold OpRun; go_simp; (refine (zpowD k1 _ (by first | assumption | omega)).mono ?_; rintro e wn ⟨v9, rfl, hz9, hbn⟩; exact ⟨_, rfl, hR _ _ hbn hz9⟩))
      case o21 => (intro ρ w1 R hρ hb hp hR; have eg : ρ (.tmp 110) = .bool true := hp 16 110 rfl rfl; refine ⟨fun _ => ?_, fun hg => absurd hg (by simp [guardOf, eg])⟩; clear eg; have f111 := hp 17 111 rfl rfl; have f114 := hp 20 114 rfl rfl; have hcon := hρ.con; have hfn := hρ.fn; clear hρ hp; unfold OpRun; go_simp; (refine (zcmpD _ _ _ _ _ f111 f114).mono ?_; rintro e wn ⟨rfl, hbn⟩; exact ⟨_, rfl, hR _ _ hbn rfl⟩))
      case o22 => (intro ρ w1 R hρ hb hp hR; have eg : ρ (.tmp 110) = .bool true := hp 16 110 rfl rfl; refine ⟨fun _ => ?_, fun hg => absurd hg (by simp [guardOf, eg])⟩; clear eg; have e115 : ρ (.tmp 115) = _ := hp 21 115 rfl rfl; have hcon := hρ.con; have hfn := hρ.fn; clear hρ hp; unfold OpRun; go_simp; exact hR _ _ (Below.refl _ _) rfl)
      case o23 => (intro ρ w1 R hρ hb hp hR; have eg : ρ (.tmp 107) = .bool false := hp 13 107 rfl rfl; refine ⟨fun _ => ?_, fun hg => absurd hg (by simp [guardOf, eg])⟩; clear eg; have e110 : ρ (.tmp 110) = _ := hp 16 110 rfl rfl; have e116 : ρ (.tmp 116) = _ := hp 22 116 rfl rfl; have hcon := hρ.con; have hfn := hρ.fn; clear hρ hp; unfold OpRun; go_simp; exact hR _ _ (Below.refl _ _) rfl)
      case o24 => (refine StepOK.plain rfl ?_; intro ρ w1 R hρ hb hp hR; have e107 : ρ (.tmp 107) = _ := hp 13 107 rfl rfl; have e117 : ρ (.tmp 117) = _ := hp 23 117 rfl rfl; have hcon := hρ.con; have hfn := hρ.fn; clear hρ hp; unfold OpRun; go_simp; exact hR _ _ (Below.refl _ _) rfl)
      case o25 => (refine StepOK.plain rfl ?_; intro ρ w1 R hρ hb hp hR; have e118 : ρ (.tmp 118) = _ := hp 24 118 rfl rfl; have hcon := hρ.con; have hfn := hρ.fn; clear hρ hp; unfold OpRun; go_simp; exact hR _ _ (Below.refl _ _) rfl)
      case o26 => (intro ρ w1 R hρ hb hp hR; have eg : ρ (.tmp 119) = .bool false := hp 25 119 rfl rfl; refine ⟨fun _ => ?_, fun hg => absurd hg (by simp [guardOf, eg])⟩; clear eg; have e13 : ρ (.tmp 13) = .string (bsOf D) := hρ.tmp 13 rfl; have hcon := hρ.con; have hfn := hρ.fn; clear hρ hp; unfold OpRun; go_simp; exact hR _ _ (Below.refl _ _) rfl)
      case o27 => (intro ρ w1 R hρ hb hp hR; have eg : ρ (.tmp 119) = .bool false := hp 25 119 rfl rfl; refine ⟨fun _ => ?_, fun hg => absurd hg (by simp [guardOf, eg])⟩; clear eg; have e16 : ρ (.tmp 16) = .pointer (some ⟨g16, 0, none⟩) := hρ.tmp 16 rfl; obtain ⟨ya9, yc9, yj9, yn9⟩ := ZV.below z16 hb; obtain ⟨j90, j91, -⟩ := yj9; have hcon := hρ.con; have hfn := hρ.fn; clear hρ hp; unfold OpRun; go_simp; exact hR _ _ (Below.refl _ _) ⟨ya9, yc9, rfl, yn9⟩)
      case o28 => (intro ρ w1 R hρ hb hp hR; have eg : ρ (.tmp 119) = .bool false := hp 25 119 rfl rfl; refine ⟨fun _ => ?_, fun hg => absurd hg (by simp [guardOf, eg])⟩; clear eg; have f121 := hp 27 121 rfl rfl; have h99 := zTextD _ _ _ f121 (by first | assumption | omega); rw [HDD.out] at h99; have hcon := hρ.con; have hfn := hρ.fn; clear hρ hp; unfold OpRun; go_simp; (refine (h99).mono ?_; rintro e wn ⟨rfl, hbn⟩; exact ⟨_, rfl, hR _ _ hbn rfl⟩))
      case o29 => (intro ρ w1 R hρ hb hp hR; have eg : ρ (.tmp 119) = .bool false := hp 25 119 rfl rfl; refine ⟨fun _ => ?_, fun hg => absurd hg (by simp [guardOf, eg])⟩; clear eg; have e120 : ρ (.tmp 120) = _ := hp 26 120 rfl rfl; have e122 : ρ (.tmp 122) = _ := hp 28 122 rfl rfl; have hcon := hρ.con; have hfn := hρ.fn; clear hρ hp; unfold OpRun; go_simp; exact hR _ _ (Below.refl _ _) rfl)
      case o30 => (refine StepOK.plain rfl ?_; intro ρ w1 R hρ hb hp hR; have e119 : ρ (.tmp 119) = _ := hp 25 119 rfl rfl; have e123 : ρ (.tmp 123) = _ := hp 29 123 rfl rfl; have hcon := hρ.con; have hfn := hρ.fn; clear hρ hp; unfold OpRun; go_simp; exact hR _ _ (Below.refl _ _) rfl)
      case o31 => (refine StepOK.plain rfl ?_; intro ρ w1 R hρ hb hp hR; have e124 : ρ (.tmp 124) = _ := hp 30 124 rfl rfl; have hcon := hρ.con; have hfn := hρ.fn; clear hρ hp; unfold OpRun; go_simp; exact hR _ _ (Below.refl _ _) rfl)
      case o32 => (intro ρ w1 R hρ hb hp hR; have eg : ρ (.tmp 125) = .bool false := hp 31 125 rfl rfl; refine ⟨fun _ => ?_, fun hg => absurd hg (by simp [guardOf, eg])⟩; clear eg; have e14 : ρ (.tmp 14) = .int .i64 0 := hρ.tmp 14 rfl; have hcon := hρ.con; have hfn := hρ.fn; clear hρ hp; unfold OpRun; go_simp; exact hR _ _ (Below.refl _ _) rfl)
      case o33 => (intro ρ w1 R hρ hb hp hR; have eg : ρ (.tmp 125) = .bool false := hp 31 125 rfl rfl; refine ⟨fun _ => ?_, fun hg => absurd hg (by simp [guardOf, eg])⟩; clear eg; have e126 : ρ (.tmp 126) = _ := hp 32 126 rfl rfl; have hcon := hρ.con; have hfn := hρ.fn; clear hρ hp; unfold OpRun; go_simp; exact hR _ _ (Below.refl _ _) rfl)
      case o34 => (refine StepOK.plain rfl ?_; intro ρ w1 R hρ hb hp hR; have e125 : ρ (.tmp 125) = _ := hp 31 125 rfl rfl; have e127 : ρ (.tmp 127) = _ := hp 33 127 rfl rfl; have hcon := hρ.con; have hfn := hρ.fn; clear hρ hp; unfold OpRun; go_simp; exact hR _ _ (Below.refl _ _) rfl)
      case after =>
        intro u wn hb hf
        have e128 : u 128 = _ := hf 34 128 (by omega) rfl
        clear hf
        simp only [putAll, Act.put, List.setIfInBounds_toArray, List.set_cons_zero, List.set_cons_succ, List.drop_succ_cons, List.drop_zero, List.drop_nil]
        rw [e128]
        go_wp2_with fail
        go_meet
        exact ⟨rfl, hb⟩
  case rest =>
    obtain ⟨rfl, y10⟩ := hcut
    obtain ⟨WA, hWA⟩ : ∃ W, W = wc := ⟨_, rfl⟩
    subst hWA
    have yA := below_trans y9 y10
    have z16A := z16.below y10
    have HNR2 := hid (HNR.out.below y10)
    have HNX2 := hid (HNX.out.below y10)
    clear z16 HNR HNX y9 y10 HBM HLT hbl
    go_upto_region 12 with (go_at_call 43; (with_reducible refine (ZL2.out _ _ _ HNR2.out).mono ?_); rintro en w7 ⟨a17, c17, rfl, hN17, hb7⟩)
    refine wp_worldZ (fun WW => Below W.heap.size W WW ∧ ZV 42 3 WW g16 (m : Int) ∧ ZV 42 3 WW w7.heap.size (r : Int) ∧ Ns .u32 WW ar cr (limbs r) ∧ Ns .u32 WW ax cx (limbs sv)) ⟨below_trans (below_trans yA hb7) (below_alloc _ _), (z16A.below hb7).below (below_alloc _ _), zv_made hN17 _ rfl, (HNR2.out.below hb7).below (below_alloc _ _), (HNX2.out.below hb7).below (below_alloc _ _)⟩ ?_
    intro WB ⟨yB, z16, z17, hNrB, hNxB⟩
    obtain ⟨g17, hg17⟩ : ∃ g, g = w7.heap.size := ⟨_, rfl⟩
    rw [← hg17] at z17 ⊢
    have HNX := hid hNxB
    clear hg17 hN17 hb7 yA z16A HNR2 HNX2 hNxB ZL2
    have HRM := hid hrm
    have lr1 : (zl ((r : Int) + 1)).length ≤ 100000 := by
      have h1 := zl_len_bits ((r : Int) + 1) (bl r + 1) (by
        have := lt_bl r
        rw [Nat.pow_succ]; omega)
      have := bl_len2 r 400 hrl
      omega
    have l1 : (zl 1).length ≤ 100000 := by decide
    have h144 := hid (show ¬ 0 < cmpI ((r : Int) * (r : Int)) (m : Int) by rw [cmpI_gt, ← Int.natCast_mul]; have := HR1.out; omega)
    have h156 := hid (show ¬ cmpI (((r : Int) + 1) * ((r : Int) + 1)) (m : Int) ≤ 0 by
      rw [cmpI_le, show ((r : Int) + 1) * ((r : Int) + 1) = (((r + 1) * (r + 1) : Nat) : Int) by rw [Int.natCast_mul]; rfl]
      have := HR2.out; omega)
    have h166 := hid (show (cmpI ((r : Int) * (r : Int)) (m : Int) != 0) = lf by
      rw [HLF.out, Bool.eq_iff_iff, bne_iff_ne, decide_eq_true_eq, Ne, cmpI_eq_zero, ← Int.natCast_mul]
      omega)
    have LBr := hid (fun a1 c1 w h0 h1 => limbed_any ar a1 cr c1 r (r : Int) w h0 h1 rfl (by omega))
    have HNr := hid hNrB
    go_cut [168] (fun s168 wx => s168 = .bool false ∧ Below WB.heap.size WB wx)
    case first => as_aux_lemma =>
      clear HSV HSL HSF HLF HR1 HR2 hNrB yB HNX HRM hn
      refine wp_region_grow 38 [131, 132, 133, 134, 135, 136, 137, 138, 139, 140, 141, 142, 143, 144, 145, 146, 147, 148, 149, 150, 151, 152, 153, 154, 155, 156, 157, 158, 159, 160, 161, 162, 163, 164, 165, 166, 167, 168] [Fact.is (.int .i64 0), Fact.is (.bool false), Fact.is (.bool false), Fact.is (.slice ar (limbs r).length cr), Fact.z 3 ((r : Int)), Fact.is (.bool true), Fact.is (.bool false), Fact.is (.bool false), Fact.is (.bool false), Fact.z 3 ((r : Int)), Fact.z 3 ((r : Int)), Fact.z 3 (((r : Int)) * ((r : Int))), Fact.z 3 ((m : Int)), Fact.is (.int .i64 (cmpI (((r : Int)) * ((r : Int))) ((m : Int)))), Fact.is (.bool false), Fact.is (.bool false), Fact.is (.bool false), Fact.z 3 ((r : Int)), Fact.z 3 (1), Fact.z 3 (((r : Int)) + (1)), Fact.z 3 ((r : Int)), Fact.z 3 (1), Fact.z 3 (((r : Int)) + (1)), Fact.z 3 ((((r : Int)) + (1)) * (((r : Int)) + (1))), Fact.z 3 ((m : Int)), Fact.is (.int .i64 (cmpI ((((r : Int)) + (1)) * (((r : Int)) + (1))) ((m : Int)))), Fact.is (.bool false), Fact.is (.bool false), Fact.is (.bool false), Fact.is (.bool lf), Fact.z 3 ((r : Int)), Fact.z 3 ((r : Int)), Fact.z 3 (((r : Int)) * ((r : Int))), Fact.z 3 ((m : Int)), Fact.is (.int .i64 (cmpI (((r : Int)) * ((r : Int))) ((m : Int)))), Fact.is (.bool lf), Fact.is (.bool false), Fact.is (.bool false)] (by kernel_rfl) (by kernel_rfl) ⟨?o0, ?o1, ?o2, ?o3, ?o4, ?o5, ?o6, ?o7, ?o8, ?o9, ?o10, ?o11, ?o12, ?o13, ?o14, ?o15, ?o16, ?o17, ?o18, ?o19, ?o20, ?o21, ?o22, ?o23, ?o24, ?o25, ?o26, ?o27, ?o28, ?o29, ?o30, ?o31, ?o32, ?o33, ?o34, ?o35, ?o36, ?o37, trivial⟩ ?after
      case o0 => (refine StepOK.plain rfl ?_; intro ρ w1 R hρ hb hp hR; have e12 : ρ (.tmp 12) = .int .i64 0 := hρ.tmp 12 rfl; have hcon := hρ.con; have hfn := hρ.fn; clear hρ hp; unfold OpRun; go_simp; exact hR _ _ (Below.refl _ _) rfl)
      case o1 => (refine StepOK.plain rfl ?_; intro ρ w1 R hρ hb hp hR; have e131 : ρ (.tmp 131) = _ := hp 0 131 rfl rfl; have hcon := hρ.con; have hfn := hρ.fn; clear hρ hp; unfold OpRun; go_simp; exact hR _ _ (Below.refl _ _) rfl)
      case o2 => (refine StepOK.plain rfl ?_; intro ρ w1 R hρ hb hp hR; have e132 : ρ (.tmp 132) = _ := hp 1 132 rfl rfl; have hcon := hρ.con; have hfn := hρ.fn; clear hρ hp; unfold OpRun; go_simp; exact hR _ _ (Below.refl _ _) rfl)
      case o3 => (intro ρ w1 R hρ hb hp hR; have eg : ρ (.tmp 133) = .bool false := hp 2 133 rfl rfl; refine ⟨fun _ => ?_, fun hg => absurd hg (by simp [guardOf, eg])⟩; clear eg; have e10 : ρ (.tmp 10) = .slice ar (limbs r).length cr := hρ.tmp 10 rfl; have hcon := hρ.con; have hfn := hρ.fn; clear hρ hp; unfold OpRun; go_simp; exact hR _ _ (Below.refl _ _) rfl)
      case o4 => (intro ρ w1 R hρ hb hp hR; have eg : ρ (.tmp 133) = .bool false := hp 2 133 rfl rfl; refine ⟨fun _ => ?_, fun hg => absurd hg (by simp [guardOf, eg])⟩; clear eg; have e17 : ρ (.tmp 17) = .pointer (some ⟨g17, 0, none⟩) := hρ.tmp 17 rfl; obtain ⟨ya9, yc9, yj9, yn9⟩ := ZV.below z17 hb; obtain ⟨j90, j91, -⟩ := yj9; have hcon := hρ.con; have hfn := hρ.fn; clear hρ hp; unfold OpRun; go_simp; exact hR _ _ (Below.refl _ _) ⟨ya9, yc9, rfl, yn9⟩)
      case o5 => (intro ρ w1 R hρ hb hp hR; have eg : ρ (.tmp 133) = .bool false := hp 2 133 rfl rfl; refine ⟨fun _ => ?_, fun hg => absurd hg (by simp [guardOf, eg])⟩; clear eg; have e134 : ρ (.tmp 134) = _ := hp 3 134 rfl rfl; have f135 := hp 4 135 rfl rfl; obtain ⟨a135, c135, e135, hz135⟩ := f135; have hcon := hρ.con; have hfn := hρ.fn; clear hρ hp; unfold OpRun; go_simp; (refine (LBr.out _ _ _ (HNr.out.below hb) hz135).mono ?_; rintro e wn ⟨rfl, hbn⟩; exact ⟨_, rfl, hR _ _ hbn rfl⟩))
      case o6 => (intro ρ w1 R hρ hb hp hR; have eg : ρ (.tmp 133) = .bool false := hp 2 133 rfl rfl; refine ⟨fun _ => ?_, fun hg => absurd hg (by simp [guardOf, eg])⟩; clear eg; have e136 : ρ (.tmp 136) = _ := hp 5 136 rfl rfl; have hcon := hρ.con; have hfn := hρ.fn; clear hρ hp; unfold OpRun; go_simp; exact hR _ _ (Below.refl _ _) rfl)
      case o7 => (refine StepOK.plain rfl ?_; intro ρ w1 R hρ hb hp hR; have e133 : ρ (.tmp 133) = _ := hp 2 133 rfl rfl; have e137 : ρ (.tmp 137) = _ := hp 6 137 rfl rfl; have hcon := hρ.con; have hfn := hρ.fn; clear hρ hp; unfold OpRun; go_simp; exact hR _ _ (Below.refl _ _) rfl)
      case o8 => (refine StepOK.plain rfl ?_; intro ρ w1 R hρ hb hp hR; have e138 : ρ (.tmp 138) = _ := hp 7 138 rfl rfl; have hcon := hρ.con; have hfn := hρ.fn; clear hρ hp; unfold OpRun; go_simp; exact hR _ _ (Below.refl _ _) rfl)
      case o9 => (intro ρ w1 R hρ hb hp hR; have eg : ρ (.tmp 139) = .bool false := hp 8 139 rfl rfl; refine ⟨fun _ => ?_, fun hg => absurd hg (by simp [guardOf, eg])⟩; clear eg; have e17 : ρ (.tmp 17) = .pointer (some ⟨g17, 0, none⟩) := hρ.tmp 17 rfl; obtain ⟨ya9, yc9, yj9, yn9⟩ := ZV.below z17 hb; obtain ⟨j90, j91, -⟩ := yj9; have hcon := hρ.con; have hfn := hρ.fn; clear hρ hp; unfold OpRun; go_simp; exact hR _ _ (Below.refl _ _) ⟨ya9, yc9, rfl, yn9⟩)
      case o10 => (intro ρ w1 R hρ hb hp hR; have eg : ρ (.tmp 139) = .bool false := hp 8 139 rfl rfl; refine ⟨fun _ => ?_, fun hg => absurd hg (by simp [guardOf, eg])⟩; clear eg; have e17 : ρ (.tmp 17) = .pointer (some ⟨g17, 0, none⟩) := hρ.tmp 17 rfl; obtain ⟨ya9, yc9, yj9, yn9⟩ := ZV.below z17 hb; obtain ⟨j90, j91, -⟩ := yj9; have hcon := hρ.con; have hfn := hρ.fn; clear hρ hp; unfold OpRun; go_simp; exact hR _ _ (Below.refl _ _) ⟨ya9, yc9, rfl, yn9⟩)
      case o11 => (intro ρ w1 R hρ hb hp hR; have eg : ρ (.tmp 139) = .bool false := hp 8 139 rfl rfl; refine ⟨fun _ => ?_, fun hg => absurd hg (by simp [guardOf, eg])⟩; clear eg; have f140 := hp 9 140 rfl rfl; have f141 := hp 10 141 rfl rfl; have hcon := hρ.con; have hfn := hρ.fn; clear hρ hp; unfold OpRun; go_simp; (refine (zmulD _ _ _ _ _ f140 f141 (by first | assumption | omega) (by first | assumption | omega)).mono ?_; rintro e wn ⟨v9, rfl, hz9, hbn⟩; exact ⟨_, rfl, hR _ _ hbn hz9⟩))
      case o12 => (intro ρ w1 R hρ hb hp hR; have eg : ρ (.tmp 139) = .bool false := hp 8 139 rfl rfl; refine ⟨fun _ => ?_, fun hg => absurd hg (by simp [guardOf, eg])⟩; clear eg; have e16 : ρ (.tmp 16) = .pointer (some ⟨g16, 0, none⟩) := hρ.tmp 16 rfl; obtain ⟨ya9, yc9, yj9, yn9⟩ := ZV.below z16 hb; obtain ⟨j90, j91, -⟩ := yj9; have hcon := hρ.con; have hfn := hρ.fn; clear hρ hp; unfold OpRun; go_simp; exact hR _ _ (Below.refl _ _) ⟨ya9, yc9, rfl, yn9⟩)
      case o13 => (intro ρ w1 R hρ hb hp hR; have eg : ρ (.tmp 139) = .bool false := hp 8 139 rfl rfl; refine ⟨fun _ => ?_, fun hg => absurd hg (by simp [guardOf, eg])⟩; clear eg; have f142 := hp 11 142 rfl rfl; have f143 := hp 12 143 rfl rfl; have hcon := hρ.con; have hfn := hρ.fn; clear hρ hp; unfold OpRun; go_simp; (refine (zcmpD _ _ _ _ _ f142 f143).mono ?_; rintro e wn ⟨rfl, hbn⟩; exact ⟨_, rfl, hR _ _ hbn rfl⟩))
      case o14 => (intro ρ w1 R hρ hb hp hR; have eg : ρ (.tmp 139) = .bool false := hp 8 139 rfl rfl; refine ⟨fun _ => ?_, fun hg => absurd hg (by simp [guardOf, eg])⟩; clear eg; have e144 : ρ (.tmp 144) = _ := hp 13 144 rfl rfl; have hx9 := h144.out; have hcon := hρ.con; have hfn := hρ.fn; clear hρ hp; unfold OpRun; go_simp; exact hR _ _ (Below.refl _ _) rfl)
      case o15 => (refine StepOK.plain rfl ?_; intro ρ w1 R hρ hb hp hR; have e139 : ρ (.tmp 139) = _ := hp 8 139 rfl rfl; have e145 : ρ (.tmp 145) = _ := hp 14 145 rfl rfl; have hcon := hρ.con; have hfn := hρ.fn; clear hρ hp; unfold OpRun; go_simp; exact hR _ _ (Below.refl _ _) rfl)
      case o16 => (refine StepOK.plain rfl ?_; intro ρ w1 R hρ hb hp hR; have e146 : ρ (.tmp 146) = _ := hp 15 146 rfl rfl; have hcon := hρ.con; have hfn := hρ.fn; clear hρ hp; unfold OpRun; go_simp; exact hR _ _ (Below.refl _ _) rfl)
      case o17 => (intro ρ w1 R hρ hb hp hR; have eg : ρ (.tmp 147) = .bool false := hp 16 147 rfl rfl; refine ⟨fun _ => ?_, fun hg => absurd hg (by simp [guardOf, eg])⟩; clear eg; have e17 : ρ (.tmp 17) = .pointer (some ⟨g17, 0, none⟩) := hρ.tmp 17 rfl; obtain ⟨ya9, yc9, yj9, yn9⟩ := ZV.below z17 hb; obtain ⟨j90, j91, -⟩ := yj9; have hcon := hρ.con; have hfn := hρ.fn; clear hρ hp; unfold OpRun; go_simp; exact hR _ _ (Below.refl _ _) ⟨ya9, yc9, rfl, yn9⟩)
      case o18 => (intro ρ w1 R hρ hb hp hR; have eg : ρ (.tmp 147) = .bool false := hp 16 147 rfl rfl; refine ⟨fun _ => ?_, fun hg => absurd hg (by simp [guardOf, eg])⟩; clear eg; skip; have hcon := hρ.con; have hfn := hρ.fn; clear hρ hp; unfold OpRun; go_simp; (refine (zND _ (by omega) (by omega) _).mono ?_; rintro e wn ⟨v9, rfl, hz9, hbn⟩; exact ⟨_, rfl, hR _ _ hbn hz9⟩))
      case o19 => (intro ρ w1 R hρ hb hp hR; have eg : ρ (.tmp 147) = .bool false := hp 16 147 rfl rfl; refine ⟨fun _ => ?_, fun hg => absurd hg (by simp [guardOf, eg])⟩; clear eg; have f148 := hp 17 148 rfl rfl; have f149 := hp 18 149 rfl rfl; have hcon := hρ.con; have hfn := hρ.fn; clear hρ hp; unfold OpRun; go_simp; (refine (zaddD _ _ _ _ _ f148 f149 (by first | assumption | omega) (by first | assumption | omega)).mono ?_; rintro e wn ⟨v9, rfl, hz9, hbn⟩; exact ⟨_, rfl, hR _ _ hbn hz9⟩))
      case o20 => (intro ρ w1 R hρ hb hp hR; have eg : ρ (.tmp 147) = .bool false := hp 16 147 rfl rfl; refine ⟨fun _ => ?_, fun hg => absurd hg (by simp [guardOf, eg])⟩; clear eg; have e17 : ρ (.tmp 17) = .pointer (some ⟨g17, 0, none⟩) := hρ.tmp 17 rfl; obtain ⟨ya9, yc9, yj9, yn9⟩ := ZV.below z17 hb; obtain ⟨j90, j91, -⟩ := yj9; have hcon := hρ.con; have hfn := hρ.fn; clear hρ hp; unfold OpRun; go_simp; exact hR _ _ (Below.refl _ _) ⟨ya9, yc9, rfl, yn9⟩)
      case o21 => (intro ρ w1 R hρ hb hp hR; have eg : ρ (.tmp 147) = .bool false := hp 16 147 rfl rfl; refine ⟨fun _ => ?_, fun hg => absurd hg (by simp [guardOf, eg])⟩; clear eg; skip; have hcon := hρ.con; have hfn := hρ.fn; clear hρ hp; unfold OpRun; go_simp; (refine (zND _ (by omega) (by omega) _).mono ?_; rintro e wn ⟨v9, rfl, hz9, hbn⟩; exact ⟨_, rfl, hR _ _ hbn hz9⟩))
      case o22 => (intro ρ w1 R hρ hb hp hR; have eg : ρ (.tmp 147) = .bool false := hp 16 147 rfl rfl; refine ⟨fun _ => ?_, fun hg => absurd hg (by simp [guardOf, eg])⟩; clear eg; have f151 := hp 20 151 rfl rfl; have f152 := hp 21 152 rfl rfl; have hcon := hρ.con; have hfn := hρ.fn; clear hρ hp; unfold OpRun; go_simp; (refine (zaddD _ _ _ _ _ f151 f152 (by first | assumption | omega) (by first | assumption | omega)).mono ?_; rintro e wn ⟨v9, rfl, hz9, hbn⟩; exact ⟨_, rfl, hR _ _ hbn hz9⟩))
      case o23 => (intro ρ w1 R hρ hb hp hR; have eg : ρ (.tmp 147) = .bool false := hp 16 147 rfl rfl; refine ⟨fun _ => ?_, fun hg => absurd hg (by simp [guardOf, eg])⟩; clear eg; have f150 := hp 19 150 rfl rfl; have f153 := hp 22 153 rfl rfl; have hcon := hρ.con; have hfn := hρ.fn; clear hρ hp; unfold OpRun; go_simp; (refine (zmulD _ _ _ _ _ f150 f153 (by first | assumption | omega) (by first | assumption | omega)).mono ?_; rintro e wn ⟨v9, rfl, hz9, hbn⟩; exact ⟨_, rfl, hR _ _ hbn hz9⟩))
      case o24 => (intro ρ w1 R hρ hb hp hR; have eg : ρ (.tmp 147) = .bool false := hp 16 147 rfl rfl; refine ⟨fun _ => ?_, fun hg => absurd hg (by simp [guardOf, eg])⟩; clear eg; have e16 : ρ (.tmp 16) = .pointer (some ⟨g16, 0, none⟩) := hρ.tmp 16 rfl; obtain ⟨ya9, yc9, yj9, yn9⟩ := ZV.below z16 hb; obtain ⟨j90, j91, -⟩ := yj9; have hcon := hρ.con; have hfn := hρ.fn; clear hρ hp; unfold OpRun; go_simp; exact hR _ _ (Below.refl _ _) ⟨ya9, yc9, rfl, yn9⟩)
      case o25 => (intro ρ w1 R hρ hb hp hR; have eg : ρ (.tmp 147) = .bool false := hp 16 147 rfl rfl; refine ⟨fun _ => ?_, fun hg => absurd hg (by simp [guardOf, eg])⟩; clear eg; have f154 := hp 23 154 rfl rfl; have f155 := hp 24 155 rfl rfl; have hcon := hρ.con; have hfn := hρ.fn; clear hρ hp; unfold OpRun; go_simp; (refine (zcmpD _ _ _ _ _ f154 f155).mono ?_; rintro e wn ⟨rfl, hbn⟩; exact ⟨_, rfl, hR _ _ hbn rfl⟩))
      case o26 => (intro ρ w1 R hρ hb hp hR; have eg : ρ (.tmp 147) = .bool false := hp 16 147 rfl rfl; refine ⟨fun _ => ?_, fun hg => absurd hg (by simp [guardOf, eg])⟩; clear eg; have e156 : ρ (.tmp 156) = _ := hp 25 156 rfl rfl; have hx9 := h156.out; have hcon := hρ.con; have hfn := hρ.fn; clear hρ hp; unfold OpRun; go_simp; exact hR _ _ (Below.refl _ _) rfl)
      case o27 => (refine StepOK.plain rfl ?_; intro ρ w1 R hρ hb hp hR; have e147 : ρ (.tmp 147) = _ := hp 16 147 rfl rfl; have e157 : ρ (.tmp 157) = _ := hp 26 157 rfl rfl; have hcon := hρ.con; have hfn := hρ.fn; clear hρ hp; unfold OpRun; go_simp; exact hR _ _ (Below.refl _ _) rfl)
      case o28 => (refine StepOK.plain rfl ?_; intro ρ w1 R hρ hb hp hR; have e158 : ρ (.tmp 158) = _ := hp 27 158 rfl rfl; have hcon := hρ.con; have hfn := hρ.fn; clear hρ hp; unfold OpRun; go_simp; exact hR _ _ (Below.refl _ _) rfl)
      case o29 => (intro ρ w1 R hρ hb hp hR; have eg : ρ (.tmp 159) = .bool false := hp 28 159 rfl rfl; refine ⟨fun _ => ?_, fun hg => absurd hg (by simp [guardOf, eg])⟩; clear eg; have e11 : ρ (.tmp 11) = .bool lf := hρ.tmp 11 rfl; have hcon := hρ.con; have hfn := hρ.fn; clear hρ hp; unfold OpRun; go_simp; exact hR _ _ (Below.refl _ _) rfl)
      case o30 => (intro ρ w1 R hρ hb hp hR; have eg : ρ (.tmp 159) = .bool false := hp 28 159 rfl rfl; refine ⟨fun _ => ?_, fun hg => absurd hg (by simp [guardOf, eg])⟩; clear eg; have e17 : ρ (.tmp 17) = .pointer (some ⟨g17, 0, none⟩) := hρ.tmp 17 rfl; obtain ⟨ya9, yc9, yj9, yn9⟩ := ZV.below z17 hb; obtain ⟨j90, j91, -⟩ := yj9; have hcon := hρ.con; have hfn := hρ.fn; clear hρ hp; unfold OpRun; go_simp; exact hR _ _ (Below.refl _ _) ⟨ya9, yc9, rfl, yn9⟩)
      case o31 => (intro ρ w1 R hρ hb hp hR; have eg : ρ (.tmp 159) = .bool false := hp 28 159 rfl rfl; refine ⟨fun _ => ?_, fun hg => absurd hg (by simp [guardOf, eg])⟩; clear eg; have e17 : ρ (.tmp 17) = .pointer (some ⟨g17, 0, none⟩) := hρ.tmp 17 rfl; obtain ⟨ya9, yc9, yj9, yn9⟩ := ZV.below z17 hb; obtain ⟨j90, j91, -⟩ := yj9; have hcon := hρ.con; have hfn := hρ.fn; clear hρ hp; unfold OpRun; go_simp; exact hR _ _ (Below.refl _ _) ⟨ya9, yc9, rfl, yn9⟩)
      case o32 => (intro ρ w1 R hρ hb hp hR; have eg : ρ (.tmp 159) = .bool false := hp 28 159 rfl rfl; refine ⟨fun _ => ?_, fun hg => absurd hg (by simp [guardOf, eg])⟩; clear eg; have f161 := hp 30 161 rfl rfl; have f162 := hp 31 162 rfl rfl; have hcon := hρ.con; have hfn := hρ.fn; clear hρ hp; unfold OpRun; go_simp; (refine (zmulD _ _ _ _ _ f161 f162 (by first | assumption | omega) (by first | assumption | omega)).mono ?_; rintro e wn ⟨v9, rfl, hz9, hbn⟩; exact ⟨_, rfl, hR _ _ hbn hz9⟩))
      case o33 => (intro ρ w1 R hρ hb hp hR; have eg : ρ (.tmp 159) = .bool false := hp 28 159 rfl rfl; refine ⟨fun _ => ?_, fun hg => absurd hg (by simp [guardOf, eg])⟩; clear eg; have e16 : ρ (.tmp 16) = .pointer (some ⟨g16, 0, none⟩) := hρ.tmp 16 rfl; obtain ⟨ya9, yc9, yj9, yn9⟩ := ZV.below z16 hb; obtain ⟨j90, j91, -⟩ := yj9; have hcon := hρ.con; have hfn := hρ.fn; clear hρ hp; unfold OpRun; go_simp; exact hR _ _ (Below.refl _ _) ⟨ya9, yc9, rfl, yn9⟩)
      case o34 => (intro ρ w1 R hρ hb hp hR; have eg : ρ (.tmp 159) = .bool false := hp 28 159 rfl rfl; refine ⟨fun _ => ?_, fun hg => absurd hg (by simp [guardOf, eg])⟩; clear eg; have f163 := hp 32 163 rfl rfl; have f164 := hp 33 164 rfl rfl; have hcon := hρ.con; have hfn := hρ.fn; clear hρ hp; unfold OpRun; go_simp; (refine (zcmpD _ _ _ _ _ f163 f164).mono ?_; rintro e wn ⟨rfl, hbn⟩; exact ⟨_, rfl, hR _ _ hbn rfl⟩))
      case o35 => (intro ρ w1 R hρ hb hp hR; have eg : ρ (.tmp 159) = .bool false := hp 28 159 rfl rfl; refine ⟨fun _ => ?_, fun hg => absurd hg (by simp [guardOf, eg])⟩; clear eg; have e165 : ρ (.tmp 165) = _ := hp 34 165 rfl rfl; have hx9 := h166.out; have hcon := hρ.con; have hfn := hρ.fn; clear hρ hp; unfold OpRun; go_simp; exact hR _ _ (Below.refl _ _) rfl)
      case o36 => (intro ρ w1 R hρ hb hp hR; have eg : ρ (.tmp 159) = .bool false := hp 28 159 rfl rfl; refine ⟨fun _ => ?_, fun hg => absurd hg (by simp [guardOf, eg])⟩; clear eg; have e160 : ρ (.tmp 160) = _ := hp 29 160 rfl rfl; have e166 : ρ (.tmp 166) = _ := hp 35 166 rfl rfl; have hcon := hρ.con; have hfn := hρ.fn; clear hρ hp; unfold OpRun; go_simp; exact hR _ _ (Below.refl _ _) rfl)
      case o37 => (refine StepOK.plain rfl ?_; intro ρ w1 R hρ hb hp hR; have e159 : ρ (.tmp 159) = _ := hp 28 159 rfl rfl; have e167 : ρ (.tmp 167) = _ := hp 36 167 rfl rfl; have hcon := hρ.con; have hfn := hρ.fn; clear hρ hp; unfold OpRun; go_simp; exact hR _ _ (Below.refl _ _) rfl)
      case after =>
        intro u wn hb hf
        have e168 : u 168 = _ := hf 37 168 (by omega) rfl
        clear hf
        simp only [putAll, Act.put, List.setIfInBounds_toArray, List.set_cons_zero, List.set_cons_succ, List.drop_succ_cons, List.drop_zero, List.drop_nil]
        rw [e168]
        go_wp2_with fail
        go_meet
        exact ⟨rfl, hb⟩
    case rest =>
      obtain ⟨rfl, yC⟩ := hcut
      obtain ⟨WC, hWC⟩ : ∃ W, W = wc := ⟨_, rfl⟩
      subst hWC
      have yW := below_trans yB yC
      have z16C := z16.below yC
      have HNX2 := hid (HNX.out.below yC)
      clear z16 z17 yB yC HNX HNr hNrB h144 h156 h166 LBr HR1 HR2 HLF lr1
      have BT := hid (fun w => between_any n (-20000) 20000 w)
      by_cases hfar : n < -20000 ∨ 20000 < n
      · as_aux_lemma =>
          have e1 : sv = 0 := by rw [HSV.out]; unfold shfV; rw [if_pos hfar]
          have e2 : sl = false := by rw [HSL.out]; unfold shfL; rw [if_pos hfar]
          have e3 : sf = 1 := by rw [HSF.out]; unfold shfF; rw [if_pos hfar]
          have BF := hid (show ∀ w, Calls Tryd.prog 28 #[.int .i64 n, .int .i64 (-20000), .int .i64 20000] w fun e w' => e = .returned (.bool false) ∧ w = w' from fun w => by
            have h9 := BT.out w
            rwa [decide_eq_false (show ¬ (-20000 ≤ n ∧ n ≤ 20000) by omega)] at h9)
          clear HSV HSL HSF BT HNX2 hfar
          subst e1 e2 e3
          have h0 : (limbs 0).length = 0 := rfl
          go_wp2_with (go_at_call 28; (with_reducible refine (BF.out _).mono ?_); rintro en w8 ⟨rfl, rfl⟩)
          go_ret
          exact ⟨rfl, yW⟩
      · have BF := hid (show ∀ w, Calls Tryd.prog 28 #[.int .i64 n, .int .i64 (-20000), .int .i64 20000] w fun e w' => e = .returned (.bool true) ∧ w = w' from fun w => by
          have h9 := BT.out w
          rwa [decide_eq_true (show (-20000 ≤ n ∧ n ≤ 20000) by omega)] at h9)
        have e3 : sf = 0 := by rw [HSF.out]; unfold shfF; rw [if_neg hfar]
        clear BT HSF
        subst e3
        by_cases h0 : 0 ≤ n
        · as_aux_lemma =>
          obtain ⟨k, rfl⟩ := Int.eq_ofNat_of_zero_le h0
          have hk : k ≤ 20000 := by omega
          have e1 : sv = m * 2 ^ k := by rw [HSV.out]; unfold shfV; rw [if_neg hfar, if_pos h0, Int.toNat_natCast]
          have e2 : sl = false := by rw [HSL.out]; unfold shfL; rw [if_neg hfar, if_pos h0]
          subst e2
          have hvl : (limbs sv).length ≤ 1000000 := by
            rw [e1]
            have hb := bl_len2 m 400 hl
            have := lt_bl m
            refine Nat.le_trans (limbs_short2' (bl m + k) 1100 (by omega) _ ?_) (by omega)
            rw [Nat.pow_add]
            exact Nat.mul_lt_mul_of_pos_right this (Nat.two_pow_pos k)
          have HE := hid (show (m : Int) * pw k = (sv : Int) by rw [e1, Int.natCast_mul]; rfl)
          have LBx := hid (fun a1 c1 w h0 h1 => limbed_any ax a1 cx c1 sv (sv : Int) w h0 h1 rfl hvl)
          have lpk := zl_len_pw k
          have hk0 : 0 ≤ (k : Int) := by omega
          clear HSV HSL hfar h0 e1
          go_upto_region 17 with (go_at_call 28; (with_reducible refine (BF.out _).mono ?_); rintro en w8 ⟨rfl, rfl⟩)
          refine wp_region_grow 15 [185, 186, 187, 188, 189, 190, 191, 192, 193, 194, 195, 196, 197, 198, 4] [Fact.is (.slice ax (limbs sv).length cx), Fact.z 3 ((m : Int)), Fact.is (.int .i64 (k : Int)), Fact.z 3 (pw k), Fact.z 3 ((sv : Int)), Fact.is (.bool true), Fact.is (.bool true), Fact.is (.bool false), Fact.is (.bool true), Fact.is (.bool true), Fact.is (.bool true), Fact.is (.int .i64 0), Fact.is (.bool true), Fact.is (.bool true), Fact.is (.bool true)] (by kernel_rfl) (by kernel_rfl) ⟨?o0, ?o1, ?o2, ?o3, ?o4, ?o5, ?o6, ?o7, ?o8, ?o9, ?o10, ?o11, ?o12, ?o13, ?o14, trivial⟩ ?after
          case o0 => (refine StepOK.plain rfl ?_; intro ρ w1 R hρ hb hp hR; have e7 : ρ (.tmp 7) = .slice ax (limbs sv).length cx := hρ.tmp 7 rfl; have hcon := hρ.con; have hfn := hρ.fn; clear hρ hp; unfold OpRun; go_simp; exact hR _ _ (Below.refl _ _) rfl)
          case o1 => (refine StepOK.plain rfl ?_; intro ρ w1 R hρ hb hp hR; have e16 : ρ (.tmp 16) = .pointer (some ⟨g16, 0, none⟩) := hρ.tmp 16 rfl; obtain ⟨ya9, yc9, yj9, yn9⟩ := ZV.below z16C hb; obtain ⟨j90, j91, -⟩ := yj9; have hcon := hρ.con; have hfn := hρ.fn; clear hρ hp; unfold OpRun; go_simp; exact hR _ _ (Below.refl _ _) ⟨ya9, yc9, rfl, yn9⟩)
          case o2 => (refine StepOK.plain rfl ?_; intro ρ w1 R hρ hb hp hR; have e1 : ρ (.tmp 1) = .int .i64 (k : Int) := hρ.tmp 1 rfl; have hcon := hρ.con; have hfn := hρ.fn; clear hρ hp; unfold OpRun; go_simp; exact hR _ _ (Below.refl _ _) rfl)
          case o3 => (refine StepOK.plain rfl ?_; intro ρ w1 R hρ hb hp hR; have e187 : ρ (.tmp 187) = _ := hp 2 187 rfl rfl; have hcon := hρ.con; have hfn := hρ.fn; clear hρ hp; unfold OpRun; go_simp; (refine (zpowD k _ (by first | assumption | omega)).mono ?_; rintro e wn ⟨v9, rfl, hz9, hbn⟩; exact ⟨_, rfl, hR _ _ hbn hz9⟩))
          case o4 => (refine StepOK.plain rfl ?_; intro ρ w1 R hρ hb hp hR; have f186 := hp 1 186 rfl rfl; have f188 := hp 3 188 rfl rfl; have hcon := hρ.con; have hfn := hρ.fn; clear hρ hp; unfold OpRun; go_simp; (refine (zmulD _ _ _ _ _ f186 f188 (by first | assumption | omega) (by first | assumption | omega)).mono ?_; rintro e wn ⟨v9, rfl, hz9, hbn⟩; exact ⟨_, rfl, hR _ _ hbn (ZD.cast hz9 HE.out)⟩))
          case o5 => (refine StepOK.plain rfl ?_; intro ρ w1 R hρ hb hp hR; have e185 : ρ (.tmp 185) = _ := hp 0 185 rfl rfl; have f189 := hp 4 189 rfl rfl; obtain ⟨a189, c189, e189, hz189⟩ := f189; have hcon := hρ.con; have hfn := hρ.fn; clear hρ hp; unfold OpRun; go_simp; (refine (LBx.out _ _ _ (HNX2.out.below hb) hz189).mono ?_; rintro e wn ⟨rfl, hbn⟩; exact ⟨_, rfl, hR _ _ hbn rfl⟩))
          case o6 => (refine StepOK.plain rfl ?_; intro ρ w1 R hρ hb hp hR; have e190 : ρ (.tmp 190) = _ := hp 5 190 rfl rfl; have hcon := hρ.con; have hfn := hρ.fn; clear hρ hp; unfold OpRun; go_simp; exact hR _ _ (Below.refl _ _) rfl)
          case o7 => (intro ρ w1 R hρ hb hp hR; have eg : ρ (.tmp 191) = .bool true := hp 6 191 rfl rfl; refine ⟨fun _ => ?_, fun hg => absurd hg (by simp [guardOf, eg])⟩; clear eg; have e8 : ρ (.tmp 8) = .bool false := hρ.tmp 8 rfl; have hcon := hρ.con; have hfn := hρ.fn; clear hρ hp; unfold OpRun; go_simp; exact hR _ _ (Below.refl _ _) rfl)
          case o8 => (intro ρ w1 R hρ hb hp hR; have eg : ρ (.tmp 191) = .bool true := hp 6 191 rfl rfl; refine ⟨fun _ => ?_, fun hg => absurd hg (by simp [guardOf, eg])⟩; clear eg; have e192 : ρ (.tmp 192) = _ := hp 7 192 rfl rfl; have hcon := hρ.con; have hfn := hρ.fn; clear hρ hp; unfold OpRun; go_simp; exact hR _ _ (Below.refl _ _) rfl)
          case o9 => (refine StepOK.plain rfl ?_; intro ρ w1 R hρ hb hp hR; have e191 : ρ (.tmp 191) = _ := hp 6 191 rfl rfl; have e193 : ρ (.tmp 193) = _ := hp 8 193 rfl rfl; have hcon := hρ.con; have hfn := hρ.fn; clear hρ hp; unfold OpRun; go_simp; exact hR _ _ (Below.refl _ _) rfl)
          case o10 => (refine StepOK.plain rfl ?_; intro ρ w1 R hρ hb hp hR; have e194 : ρ (.tmp 194) = _ := hp 9 194 rfl rfl; have hcon := hρ.con; have hfn := hρ.fn; clear hρ hp; unfold OpRun; go_simp; exact hR _ _ (Below.refl _ _) rfl)
          case o11 => (intro ρ w1 R hρ hb hp hR; have eg : ρ (.tmp 195) = .bool true := hp 10 195 rfl rfl; refine ⟨fun _ => ?_, fun hg => absurd hg (by simp [guardOf, eg])⟩; clear eg; have e9 : ρ (.tmp 9) = .int .i64 0 := hρ.tmp 9 rfl; have hcon := hρ.con; have hfn := hρ.fn; clear hρ hp; unfold OpRun; go_simp; exact hR _ _ (Below.refl _ _) rfl)
          case o12 => (intro ρ w1 R hρ hb hp hR; have eg : ρ (.tmp 195) = .bool true := hp 10 195 rfl rfl; refine ⟨fun _ => ?_, fun hg => absurd hg (by simp [guardOf, eg])⟩; clear eg; have e196 : ρ (.tmp 196) = _ := hp 11 196 rfl rfl; have hcon := hρ.con; have hfn := hρ.fn; clear hρ hp; unfold OpRun; go_simp; exact hR _ _ (Below.refl _ _) rfl)
          case o13 => (refine StepOK.plain rfl ?_; intro ρ w1 R hρ hb hp hR; have e195 : ρ (.tmp 195) = _ := hp 10 195 rfl rfl; have e197 : ρ (.tmp 197) = _ := hp 12 197 rfl rfl; have hcon := hρ.con; have hfn := hρ.fn; clear hρ hp; unfold OpRun; go_simp; exact hR _ _ (Below.refl _ _) rfl)
          case o14 => (refine StepOK.plain rfl ?_; intro ρ w1 R hρ hb hp hR; have e198 : ρ (.tmp 198) = _ := hp 13 198 rfl rfl; have hcon := hρ.con; have hfn := hρ.fn; clear hρ hp; unfold OpRun; go_simp; exact hR _ _ (Below.refl _ _) rfl)
          case after =>
            intro u wn hb hf
            have e4 : u 4 = _ := hf 14 4 (by omega) rfl
            clear hf
            simp only [putAll, Act.put, List.setIfInBounds_toArray, List.set_cons_zero, List.set_cons_succ, List.drop_succ_cons, List.drop_zero, List.drop_nil]
            rw [e4]
            go_wp2_with fail
            go_ret
            exact ⟨rfl, below_trans yW hb⟩
        · obtain ⟨k, hk⟩ : ∃ k : Nat, n = -(k : Int) := ⟨(-n).toNat, by omega⟩
          subst hk
          have hk : k ≤ 20000 := by omega
          have e1 : sv = m / 2 ^ k := by rw [HSV.out]; unfold shfV; rw [if_neg hfar, if_neg h0, show (- -(k : Int)).toNat = k by omega]
          have e2 : sl = lostB m k := by rw [HSL.out]; unfold shfL; rw [if_neg hfar, if_neg h0, show (- -(k : Int)).toNat = k by omega]
          have hvl : (limbs sv).length ≤ 1000000 := Nat.le_trans (limbs_len_mono (by rw [e1]; exact Nat.div_le_self _ _)) (Nat.le_trans hl (by omega))
          obtain ⟨d, hd⟩ : ∃ d, d = m % 2 ^ k := ⟨_, rfl⟩
          have HQ := hid (show (m : Int) / pw k = (sv : Int) by rw [e1, Int.natCast_ediv]; rfl)
          have HD2 := hid (show (m : Int) % pw k = (d : Int) by rw [hd, Int.natCast_emod]; rfl)
          have HSL2 := hid (show sl = decide (d ≠ 0) by rw [e2, hd]; rfl)
          have LBx := hid (fun a1 c1 w h0 h1 => limbed_any ax a1 cx c1 sv (sv : Int) w h0 h1 rfl hvl)
          have lpk := zl_len_pw k
          have hpk := pw_pos k
          have hpk0 : pw k ≠ 0 := by omega
          have hk0 : ¬ 0 ≤ -(k : Int) := by omega
          clear HSV HSL hfar h0 e1 e2 hd hpk
          go_upto_region 18 with (go_at_call 28; (with_reducible refine (BF.out _).mono ?_); rintro en w8 ⟨rfl, rfl⟩)
          refine wp_region_growL 10 7 [200, 201, 202, 203, 204, 199, 205, 206, 18, 19] [Fact.z 3 ((m : Int)), Fact.is (.int .i64 (-(k : Int))), Fact.is (.int .i64 (k : Int)), Fact.z 3 (pw k), Fact.z2 3 ((sv : Int)) ((d : Int)), Fact.z2 3 ((sv : Int)) ((d : Int)), Fact.z 3 ((sv : Int)), Fact.z 3 ((d : Int)), Fact.z0 WC.heap.size 42, Fact.z0 WC.heap.size 42] [8, 9] (by kernel_rfl) (by kernel_rfl) rfl ⟨?o0, ?o1, ?o2, ?o3, ?o4, ?o5, ?o6, ?o7, ?o8, ?o9, trivial⟩ ?late (fun d _ _ _ _ h => by cases d <;> exact h) ?after
          case o0 => (refine StepOKF.plain rfl ?_; intro ρ w1 R hρ hb hp hR; have e16 : ρ (.tmp 16) = .pointer (some ⟨g16, 0, none⟩) := hρ.tmp 16 rfl; obtain ⟨ya9, yc9, yj9, yn9⟩ := ZV.below z16C hb; obtain ⟨j90, j91, -⟩ := yj9; replace hR := fun v w2 h1 h2 => hR v w2 h1 h2 (fun h => absurd h (by decide)); have hcon := hρ.con; have hfn := hρ.fn; clear hρ hp; unfold OpRun; go_simp; exact hR _ _ (Below.refl _ _) ⟨ya9, yc9, rfl, yn9⟩)
          case o1 => (refine StepOKF.plain rfl ?_; intro ρ w1 R hρ hb hp hR; have e1 : ρ (.tmp 1) = .int .i64 (-(k : Int)) := hρ.tmp 1 rfl; replace hR := fun v w2 h1 h2 => hR v w2 h1 h2 (fun h => absurd h (by decide)); have hcon := hρ.con; have hfn := hρ.fn; clear hρ hp; unfold OpRun; go_simp; exact hR _ _ (Below.refl _ _) rfl)
          case o2 => (refine StepOKF.plain rfl ?_; intro ρ w1 R hρ hb hp hR; have e201 : ρ (.tmp 201) = _ := hp 1 201 rfl rfl; have hwp : IntKind.i64.wrap (k : Int) = (k : Int) := IntWalk.i64_in _ (by omega); replace hR := fun v w2 h1 h2 => hR v w2 h1 h2 (fun h => absurd h (by decide)); have hcon := hρ.con; have hfn := hρ.fn; clear hρ hp; unfold OpRun; go_simp; exact hR _ _ (Below.refl _ _) rfl)
          case o3 => (refine StepOKF.plain rfl ?_; intro ρ w1 R hρ hb hp hR; have e202 : ρ (.tmp 202) = _ := hp 2 202 rfl rfl; replace hR := fun v w2 h1 h2 => hR v w2 h1 h2 (fun h => absurd h (by decide)); have hcon := hρ.con; have hfn := hρ.fn; clear hρ hp; unfold OpRun; go_simp; (refine (zpowD k _ (by first | assumption | omega)).mono ?_; rintro e wn ⟨v9, rfl, hz9, hbn⟩; exact ⟨_, rfl, hR _ _ hbn hz9⟩))
          case o4 => (refine StepOKF.plain rfl ?_; intro ρ w1 R hρ hb hp hR; have f200 := hp 0 200 rfl rfl; have f203 := hp 3 203 rfl rfl; replace hR := fun v w2 h1 h2 => hR v w2 h1 h2 (fun h => absurd h (by decide)); have hcon := hρ.con; have hfn := hρ.fn; clear hρ hp; unfold OpRun; go_simp; (refine (zdivD _ _ _ _ _ f200 f203 (by first | assumption | omega) (by first | assumption | omega) (by first | assumption | omega)).mono ?_; rintro e wn ⟨v9, rfl, hz9, hbn⟩; exact ⟨_, rfl, hR _ _ hbn (by rw [← HQ.out, ← HD2.out]; exact hz9)⟩))
          case o5 => (refine StepOKF.plain rfl ?_; intro ρ w1 R hρ hb hp hR; have f204 := hp 4 204 rfl rfl; replace hR := fun v w2 h1 h2 => hR v w2 h1 h2 (fun h => absurd h (by decide)); have hcon := hρ.con; have hfn := hρ.fn; clear hρ hp; unfold OpRun; go_simp; exact hR _ _ (Below.refl _ _) f204)
          case o6 => (refine StepOKF.plain rfl ?_; intro ρ w1 R hρ hb hp hR; have f199 := hp 5 199 rfl rfl; replace hR := fun v w2 h1 h2 => hR v w2 h1 h2 (fun h => absurd h (by decide)); have hcon := hρ.con; have hfn := hρ.fn; clear hρ hp; unfold OpRun; go_simp; (obtain ⟨a97, b97, e97, h97, k97⟩ := ZD2.parts f199; rw [e97]; exact hR _ _ (Below.refl _ _) h97))
          case o7 => (refine StepOKF.plain rfl ?_; intro ρ w1 R hρ hb hp hR; have f199 := hp 5 199 rfl rfl; replace hR := fun v w2 h1 h2 => hR v w2 h1 h2 (fun h => absurd h (by decide)); have hcon := hρ.con; have hfn := hρ.fn; clear hρ hp; unfold OpRun; go_simp; (obtain ⟨a97, b97, e97, h97, k97⟩ := ZD2.parts f199; rw [e97]; exact hR _ _ (Below.refl _ _) k97))
          case o8 => (refine StepOKF.plain rfl ?_; intro ρ w1 R hρ hb hp hR; have hcon := hρ.con; have hfn := hρ.fn; clear hρ hp; unfold OpRun; go_simp; exact hR _ _ (below_alloc _ _) ⟨_, rfl, hb.size, ZL.made rfl⟩ (fun _ => ⟨_, rfl, Nat.le_refl _, by simp⟩))
          case o9 => (refine StepOKF.plain rfl ?_; intro ρ w1 R hρ hb hp hR; have hcon := hρ.con; have hfn := hρ.fn; clear hρ hp; unfold OpRun; go_simp; exact hR _ _ (below_alloc _ _) ⟨_, rfl, hb.size, ZL.made rfl⟩ (fun _ => ⟨_, rfl, Nat.le_refl _, by simp⟩))
          case late =>
            intro o ho
            simp only [List.getElem?_cons_succ, List.getElem?_cons_zero, Option.some.injEq] at ho
            subst ho
            refine ⟨rfl, ?_⟩
            intro ρ w1 hρ hb hp
            have f199 := hp 5 199 rfl rfl
            obtain ⟨a97, b97, e97, h97, k97⟩ := ZD2.parts f199
            refine ⟨_, ?_, k97⟩
            intro w2
            have hcon := hρ.con
            go_simp
            try rfl
          case after =>
            intro u wn hb hf hd
            have f205 := hf 6 205 (by omega) rfl
            have f206 := hf 7 206 (by omega) rfl
            have f18 := hf 8 18 (by omega) rfl
            have f19 := hf 9 19 (by omega) rfl
            have d18_19 : u 18 ≠ u 19 := hd 8 9 18 19 (by omega) (by omega) (by omega) rfl rfl rfl rfl
            clear hf hd
            simp only [putAll, Act.put, List.setIfInBounds_toArray, List.set_cons_zero, List.set_cons_succ, List.drop_succ_cons, List.drop_zero, List.drop_nil]
            obtain ⟨xa1, xc1, xe1, xn1⟩ := f205
            obtain ⟨xa2, xc2, xe2, xn2⟩ := f206
            obtain ⟨gv18, eg1, hg1, zz1⟩ := f18
            obtain ⟨gv19, eg2, hg2, zz2⟩ := f19
            have gne : gv18 ≠ gv19 := by intro h; apply d18_19; rw [eg1, eg2, h]
            rw [xe1, xe2, eg1, eg2]
            clear xe1 xe2 eg1 eg2 d18_19
            have zst := zv_store2 (by decide) hb hg1 hg2 gne zz1 zz2 xn1 xn2
            obtain ⟨k0, k1, kf0, kf1, -⟩ := id zz1
            obtain ⟨l0, l1, lf0, lf1, -⟩ := id zz2
            go_upto_region 19 with fail
            clear k0 k1 kf0 kf1 l0 l1 lf0 lf1 zz1 zz2 xn1 xn2 hb
            refine wp_worldZ (fun WW => Below _ _ WW ∧ ZV _ _ WW _ _ ∧ ZV _ _ WW _ _) zst ?_
            clear zst
            intro WD ⟨yD, z18, z19⟩
            have yE := below_trans yW yD
            have HNX3 := hid (HNX2.out.below yD)
            obtain ⟨a18, c18, zl18, n18⟩ := z18
            obtain ⟨a19, c19, zl19, n19⟩ := z19
            have N18 := hid n18
            have N19 := hid n19
            obtain ⟨j0, j1, -⟩ := zl18
            have HL19 := hid zl19
            clear n18 n19 zl19 z16C yW yD HNX2 HQ HD2 BF hpk0 lpk
            have ZS := hid (fun w h => zsign_any a19 c19 (d : Int) w h)
            by_cases hd0 : d = 0
            · as_aux_lemma =>
              have e4 : sl = false := HSL2.out.trans (decide_eq_false (fun h => h hd0))
              have ZS1 := hid (show ∀ w, Nz 3 w a19 c19 (zl (d : Int)) → Calls Tryd.prog 51 #[.agg #[.bool (zneg (d : Int)), .slice a19 (zl (d : Int)).length c19]] w fun e w' => e = .returned (.int .i64 0) ∧ Below w.heap.size w w' from fun w h => by
                have h9 := ZS.out w h
                rwa [cmpI_e (show (d : Int) = 0 by omega)] at h9)
              clear HSL2 ZS hd0
              subst e4
              go_wp2_with (first
                | (go_at_call 47; (with_reducible refine (LBx.out _ _ _ HNX3.out N18.out).mono ?_); rintro en w8 ⟨rfl, hb8⟩; obtain ⟨j2, j3, -⟩ := HL19.out.below hb8)
                | (go_at_call 51; (with_reducible refine (ZS1.out _ (N19.out.below hb8)).mono ?_); rintro en w9 ⟨rfl, hb9⟩))
              go_ret
              exact ⟨rfl, below_trans (below_trans yE hb8) hb9⟩
            · as_aux_lemma =>
              have e4 : sl = true := HSL2.out.trans (decide_eq_true hd0)
              have ZS1 := hid (show ∀ w, Nz 3 w a19 c19 (zl (d : Int)) → Calls Tryd.prog 51 #[.agg #[.bool (zneg (d : Int)), .slice a19 (zl (d : Int)).length c19]] w fun e w' => e = .returned (.int .i64 1) ∧ Below w.heap.size w w' from fun w h => by
                have h9 := ZS.out w h
                rwa [cmpI_g (show (0 : Int) < (d : Int) by omega)] at h9)
              clear HSL2 ZS hd0
              subst e4
              go_wp2_with (first
                | (go_at_call 47; (with_reducible refine (LBx.out _ _ _ HNX3.out N18.out).mono ?_); rintro en w8 ⟨rfl, hb8⟩; obtain ⟨j2, j3, -⟩ := HL19.out.below hb8)
                | (go_at_call 51; (with_reducible refine (ZS1.out _ (N19.out.below hb8)).mono ?_); rintro en w9 ⟨rfl, hb9⟩))
              go_ret
              exact ⟨rfl, below_trans (below_trans yE hb8) hb9⟩
theorem natTells_walk (L : List Nat) (ao : Option Addr) (ca : Nat) (n : Int) (W : World) (hN : Ns .u32 W ao ca L) (hl : Lim L) (hn : -9223372036854775808 ≤ n ∧ n ≤ 9223372036854775807) (_h32 : Tab 0 W) (hT : Tab10 W) :
    Calls Tryd.prog 7 #[.slice ao L.length ca, .int .i64 n] W fun e w' => e = .returned (.bool true) ∧ Below W.heap.size W w' := by
  by_cases hE : limbE L = 0
  · obtain ⟨l1, t1⟩ := limbE_zero hE
    have s1 := limbs_self hl t1
    obtain ⟨m, hm⟩ : ∃ m, L = limbs m := ⟨_, s1.symm⟩
    clear s1 t1
    subst hm
    exact natTells_ok m ao ca n hn W hN hE l1 hT
  · exact natTells_bad L ao ca n W hN hE
end Go.Proofs.YtincggkdlegjjaaDoor
