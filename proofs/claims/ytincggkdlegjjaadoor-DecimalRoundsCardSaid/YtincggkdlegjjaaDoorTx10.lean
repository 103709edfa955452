/- decimal's Log10, Digits, Power. -/
import Derived.Test.YtincggkdlegjjaaDoorTx6
import Derived.Test.YtincggkdlegjjaaDoorTx8
set_option linter.unusedVariables false
set_option linter.unusedSimpArgs false
namespace Go.Ulp
open Go.RowKit
theorem less_dec {a b : Nat} {p : Int} (h : IsDec a b p) (c : Int) : lessT a b c = decide (p < c) := by
  by_cases h1 : p < c
  · rw [decide_eq_true h1]
    have := lessT_le a b (p + 1) (c - (p + 1)).toNat h.2
    rwa [show p + 1 + ((c - (p + 1)).toNat : Int) = c by omega] at this
  · rw [decide_eq_false h1]
    cases hh : lessT a b c with
    | false => rfl
    | true =>
      have := lessT_le a b c (p - c).toNat hh
      rw [show c + ((p - c).toNat : Int) = p by omega, h.1] at this
      cases this
theorem less_low (a b : Nat) (N : Nat) (ha : 0 < a) (hb : b < 2 ^ N) (p : Int) (hp : p ≤ -(N : Int)) : lessT a b p = false := by
  refine decide_eq_false ?_
  unfold tnN
  rw [show p.toNat = 0 by omega, Nat.pow_zero, Nat.mul_one]
  have h1 : (2 : Nat) ^ N ≤ 10 ^ N := Nat.pow_le_pow_left (by omega) N
  have h2 : (10 : Nat) ^ N ≤ 10 ^ (-p).toNat := Nat.pow_le_pow_right (by omega) (by omega)
  have h3 : 10 ^ (-p).toNat ≤ a * 10 ^ (-p).toNat := Nat.le_mul_of_pos_left _ ha
  omega
theorem less_high (a b : Nat) (N : Nat) (hb : 0 < b) (ha : a < 2 ^ N) (p : Int) (hp : (N : Int) ≤ p) : lessT a b p = true := by
  refine decide_eq_true ?_
  unfold tnN
  rw [show (-p).toNat = 0 by omega, Nat.pow_zero, Nat.mul_one]
  have h1 : (2 : Nat) ^ N ≤ 10 ^ N := Nat.pow_le_pow_left (by omega) N
  have h2 : (10 : Nat) ^ N ≤ 10 ^ p.toNat := Nat.pow_le_pow_right (by omega) (by omega)
  have h3 : 10 ^ p.toNat ≤ b * 10 ^ p.toNat := Nat.le_mul_of_pos_left _ hb
  omega
theorem dec_exists (a b N : Nat) (h0 : 0 < a) (h1 : 0 < b) (ha : a < 2 ^ N) (hb : b < 2 ^ N) : ∃ p : Int, IsDec a b p ∧ -(N : Int) ≤ p ∧ p < N := by
  have key : ∀ k : Nat, lessT a b (-(N : Int) + k) = false ∨ ∃ p : Int, IsDec a b p ∧ -(N : Int) ≤ p ∧ p < -(N : Int) + k := by
    intro k
    induction k with
    | zero => left; exact less_low a b N h0 hb _ (by omega)
    | succ k ih =>
      rcases ih with h | ⟨p, h2, h3, h4⟩
      · cases hh : lessT a b (-(N : Int) + ((k + 1 : Nat) : Int)) with
        | false => left; rfl
        | true =>
          right
          refine ⟨-(N : Int) + k, ⟨h, ?_⟩, by omega, by omega⟩
          rwa [show -(N : Int) + (k : Int) + 1 = -(N : Int) + ((k + 1 : Nat) : Int) by omega]
      · exact .inr ⟨p, h2, h3, by omega⟩
  rcases key (2 * N) with h | ⟨p, h2, h3, h4⟩
  · have := less_high a b N h1 ha (-(N : Int) + ((2 * N : Nat) : Int)) (by omega)
    rw [h] at this; cases this
  · exact ⟨p, h2, h3, by omega⟩
theorem tdiv_bd (a : Int) (h : -90309000 ≤ a ∧ a ≤ 90309000) : -904 ≤ a.tdiv 100000 ∧ a.tdiv 100000 ≤ 904 := by
  rcases Int.le_total 0 a with h0 | h0
  · rw [Int.tdiv_eq_ediv_of_nonneg h0]; omega
  · obtain ⟨c, rfl⟩ : ∃ c, a = -c := ⟨-a, by omega⟩
    rw [Int.neg_tdiv, Int.tdiv_eq_ediv_of_nonneg (by omega)]; omega
end Go.Ulp
namespace Go.Proofs.YtincggkdlegjjaaDoor
open Go.RowKit Go.Ulp
set_option linter.unusedVariables false
set_option linter.unusedSimpArgs false
set_option maxHeartbeats 2000000
set_option maxRecDepth 100000
theorem less1_any (g : Nat) (D : Dy) (am : Option Addr) (cm : Nat) (pd c : Int) (w : World) (hz : QL 35 w g (decide (D.1 < 0)) (.slice am (limbs D.1.natAbs).length cm) D.2) (hN : Ns .u32 w am cm (limbs D.1.natAbs)) (hl : (limbs D.1.natAbs).length ≤ 1000) (he : -20000 ≤ D.2 ∧ D.2 ≤ 20000) (hc : -10000 ≤ c ∧ c ≤ 10000) (hp : IsDec (dA D) (dB D) pd) :
    Calls Tryd.prog 192 #[.int .i64 c, .pointer (some ⟨g, 0, none⟩)] w fun e w' => e = .returned (.bool (decide (pd < c))) ∧ Below w.heap.size w w' := by
  have SC := hid (show ∀ w, Ns .u32 w am cm (limbs D.1.natAbs) → Calls Tryd.prog 121 #[.agg #[.bool (decide (D.1 < 0)), .slice am (limbs D.1.natAbs).length cm, .int .i64 D.2], .int .i64 (-c)] w (RetRat w (decide (D.1 < 0)) (dA D * tnN (-c)) (dB D * tnN c)) from fun w h => by
    have h9 := scaled_any _ D (-c) w ⟨am, cm, rfl, h⟩ hl he (by omega)
    rwa [show - -c = c by omega] at h9)
  obtain ⟨A, hA⟩ : ∃ A, A = dA D * tnN (-c) := ⟨_, rfl⟩
  obtain ⟨B, hB⟩ : ∃ B, B = dB D * tnN c := ⟨_, rfl⟩
  have HL := hid (show decide (cmpI (A : Int) (B : Int) < 0) = decide (pd < c) by
    rw [← less_dec hp c]
    unfold lessT
    rw [decide_eq_decide, cmpI_lt, hA, hB]
    omega)
  rw [← hA, ← hB] at SC
  have CM := hid (show ∀ a0 a1 c0 c1 w, Ns .u32 w a0 c0 (limbs A) → Ns .u32 w a1 c1 (limbs B) → Calls Tryd.prog 114 #[.slice a0 (limbs A).length c0, .slice a1 (limbs B).length c1] w fun e w' => e = .returned (.int .i64 (cmpI A B)) ∧ Below w.heap.size w w' from fun a0 a1 c0 c1 w h0 h1 => (compare_any a0 a1 c0 c1 A B w h0 h1).mono fun e w' ⟨k1, nq, k2⟩ => ⟨k1, by rw [k2]; exact below_drewN (Below.refl _ _) nq⟩)
  have hwc : IntKind.i64.wrap (-c) = -c := IntWalk.i64_in _ (by omega)
  have HN := hid hN
  obtain ⟨⟨j0, j1, -⟩, j2, -⟩ := id hz
  generalize decide (D.1 < 0) = neg at *
  generalize decide (pd < c) = bb at *
  clear hA hB hN hz hl he hp
  go_enter Tryd.func192, Tryd.ntmps192
  go_upto_region 2 with (go_at_call 121; (with_reducible refine (SC.out _ HN.out).mono ?_); rintro en w1 ⟨g4, rfl, ⟨an, cn, bn, dn, k0, k3, k4, hNa, hNb⟩, hb1⟩)
  have NA := hid hNa
  have NB := hid hNb
  refine wp_region_grow 11 [9, 10, 11, 12, 13, 14, 15, 16, 17, 18, 3] [Fact.is (.pointer (some ⟨g4, 0, none⟩)), Fact.is (.pointer (some ⟨g4, 0, none⟩)), Fact.is (.pointer (some ⟨g4, 3, none⟩)), Fact.is (.slice an (limbs A).length cn), Fact.is (.pointer (some ⟨g4, 0, none⟩)), Fact.is (.pointer (some ⟨g4, 0, none⟩)), Fact.is (.pointer (some ⟨g4, 4, none⟩)), Fact.is (.slice bn (limbs B).length dn), Fact.is (.int .i64 (cmpI A B)), Fact.is (.bool bb), Fact.is (.bool bb)] (by kernel_rfl) (by kernel_rfl) ⟨?o0, ?o1, ?o2, ?o3, ?o4, ?o5, ?o6, ?o7, ?o8, ?o9, ?o10, trivial⟩ ?after
  case o0 => (refine StepOK.plain rfl ?_; intro ρ w1 R hρ hb hp hR; have e4 : ρ (.tmp 4) = .pointer (some ⟨g4, 0, none⟩) := hρ.tmp 4 rfl; have hcon := hρ.con; have hfn := hρ.fn; clear hρ hp; unfold OpRun; go_simp; exact hR _ _ (Below.refl _ _) rfl)
  case o1 => (refine StepOK.plain rfl ?_; intro ρ w1 R hρ hb hp hR; have e9 : ρ (.tmp 9) = _ := hp 0 9 rfl rfl; have hcon := hρ.con; have hfn := hρ.fn; clear hρ hp; unfold OpRun; go_simp; exact hR _ _ (Below.refl _ _) rfl)
  case o2 => (refine StepOK.plain rfl ?_; intro ρ w1 R hρ hb hp hR; have e10 : ρ (.tmp 10) = _ := hp 1 10 rfl rfl; have hcon := hρ.con; have hfn := hρ.fn; clear hρ hp; unfold OpRun; go_simp; exact hR _ _ (Below.refl _ _) rfl)
  case o3 => (refine StepOK.plain rfl ?_; intro ρ w1 R hρ hb hp hR; have e11 : ρ (.tmp 11) = _ := hp 2 11 rfl rfl; have j3 := (hb.cell (World.block_lt_of_cell? _ _ k3)).trans k3; have hcon := hρ.con; have hfn := hρ.fn; clear hρ hp; unfold OpRun; go_simp; exact hR _ _ (Below.refl _ _) rfl)
  case o4 => (refine StepOK.plain rfl ?_; intro ρ w1 R hρ hb hp hR; have e4 : ρ (.tmp 4) = .pointer (some ⟨g4, 0, none⟩) := hρ.tmp 4 rfl; have hcon := hρ.con; have hfn := hρ.fn; clear hρ hp; unfold OpRun; go_simp; exact hR _ _ (Below.refl _ _) rfl)
  case o5 => (refine StepOK.plain rfl ?_; intro ρ w1 R hρ hb hp hR; have e13 : ρ (.tmp 13) = _ := hp 4 13 rfl rfl; have hcon := hρ.con; have hfn := hρ.fn; clear hρ hp; unfold OpRun; go_simp; exact hR _ _ (Below.refl _ _) rfl)
  case o6 => (refine StepOK.plain rfl ?_; intro ρ w1 R hρ hb hp hR; have e14 : ρ (.tmp 14) = _ := hp 5 14 rfl rfl; have hcon := hρ.con; have hfn := hρ.fn; clear hρ hp; unfold OpRun; go_simp; exact hR _ _ (Below.refl _ _) rfl)
  case o7 => (refine StepOK.plain rfl ?_; intro ρ w1 R hρ hb hp hR; have e15 : ρ (.tmp 15) = _ := hp 6 15 rfl rfl; have j4 := (hb.cell (World.block_lt_of_cell? _ _ k4)).trans k4; have hcon := hρ.con; have hfn := hρ.fn; clear hρ hp; unfold OpRun; go_simp; exact hR _ _ (Below.refl _ _) rfl)
  case o8 => (refine StepOK.plain rfl ?_; intro ρ w1 R hρ hb hp hR; have e12 : ρ (.tmp 12) = _ := hp 3 12 rfl rfl; have e16 : ρ (.tmp 16) = _ := hp 7 16 rfl rfl; have hcon := hρ.con; have hfn := hρ.fn; clear hρ hp; unfold OpRun; go_simp; (refine (CM.out _ _ _ _ _ (NA.out.below hb) (NB.out.below hb)).mono ?_; rintro e wn ⟨rfl, hbn⟩; exact ⟨_, rfl, hR _ _ hbn rfl⟩))
  case o9 => (refine StepOK.plain rfl ?_; intro ρ w1 R hρ hb hp hR; have e17 : ρ (.tmp 17) = _ := hp 8 17 rfl rfl; have hx9 := HL.out; have hcon := hρ.con; have hfn := hρ.fn; clear hρ hp; unfold OpRun; go_simp; exact hR _ _ (Below.refl _ _) rfl)
  case o10 => (refine StepOK.plain rfl ?_; intro ρ w1 R hρ hb hp hR; have e18 : ρ (.tmp 18) = _ := hp 9 18 rfl rfl; have hcon := hρ.con; have hfn := hρ.fn; clear hρ hp; unfold OpRun; go_simp; exact hR _ _ (Below.refl _ _) rfl)
  case after =>
    intro u wn hb hf
    have e3 : u 3 = _ := hf 10 3 (by omega) rfl
    clear hf
    simp only [putAll, Act.put, List.setIfInBounds_toArray, List.set_cons_zero, List.set_cons_succ, List.drop_succ_cons, List.drop_zero, List.drop_nil]
    rw [e3]
    go_wp2_with fail
    go_ret
    exact ⟨rfl, below_trans hb1 hb⟩
theorem log10_any (v : Value) (D : Dy) (pd : Int) (w : World) (hv : VD w D v) (hl : D.1.natAbs < 2 ^ 60) (he : -2000 ≤ D.2 ∧ D.2 ≤ 2000) (hp : IsDec (dA D) (dB D) pd) (hpb : -3000 ≤ pd ∧ pd ≤ 3000) :
    Calls Tryd.prog 170 #[v] w fun e w' => e = .returned (.int .i64 pd) ∧ Below w.heap.size w w' := by
  obtain ⟨am, cm, rfl, hN⟩ := hv
  have lM := limbs_short2 60 2 (by omega) _ hl
  have hbl : bl D.1.natAbs ≤ 60 := (bl_le _ 60).2 hl
  have LN := hid (fun w h => natLen_any am cm D.1.natAbs w h (by omega))
  have LE := hid (fun g c w z h hc => less1_any g D am cm pd c w z h (by omega) (by omega) hc hp)
  obtain ⟨l, hlb⟩ : ∃ l, l = bl D.1.natAbs := ⟨_, rfl⟩
  rw [← hlb] at LN hbl
  obtain ⟨x, hx⟩ : ∃ x, x = D.2 := ⟨_, rfl⟩
  rw [← hx] at LE he ⊢
  obtain ⟨p0, hp0⟩ : ∃ p0, p0 = (((l : Int) + x - 1) * 30103).tdiv 100000 := ⟨_, rfl⟩
  have hpb0 := tdiv_bd (((l : Int) + x - 1) * 30103) (by omega)
  rw [← hp0] at hpb0
  have HP0 := hid hp0.symm
  have HN := hid hN
  have hmf : ∀ fn first cap w, (Instr.makeFunc fn first cap).run Tryd.prog w = .ok (.func fn first cap) w := fun _ _ _ _ => rfl
  have zQ : QL 35 (w.alloc (.cells #[.bool (decide (D.1 < 0)), .slice am (limbs D.1.natAbs).length cm, .int .i64 x] 35)) w.heap.size (decide (D.1 < 0)) (.slice am (limbs D.1.natAbs).length cm) x := QL.made rfl
  have yb0 := below_alloc w (.cells #[.bool (decide (D.1 < 0)), .slice am (limbs D.1.natAbs).length cm, .int .i64 x] 35)
  clear hp0 hlb hx hN lM hp hl
  go_enter Tryd.func170, Tryd.ntmps170
  go_upto_region 1 with fail
  refine wp_worldZ (fun WW => Below w.heap.size w WW ∧ QL 35 WW w.heap.size (decide (D.1 < 0)) (.slice am (limbs D.1.natAbs).length cm) x ∧ Ns .u32 WW am cm (limbs D.1.natAbs)) ⟨yb0, zQ, HN.out.below yb0⟩ ?_
  intro W1 ⟨y1, z1, hN1⟩
  obtain ⟨g1, hg1⟩ : ∃ g, g = w.heap.size := ⟨_, rfl⟩
  rw [← hg1] at z1 ⊢
  have H1 := hid z1
  have HN1 := hid hN1
  clear hg1 zQ yb0 HN hN1 z1
  refine wp_region_grow 10 [5, 6, 7, 8, 9, 10, 11, 12, 13, 3] [Fact.is (.pointer (some ⟨g1, 1, none⟩)), Fact.is (.slice am (limbs D.1.natAbs).length cm), Fact.is (.int .i64 (l : Int)), Fact.is (.pointer (some ⟨g1, 2, none⟩)), Fact.is (.int .i64 x), Fact.is (.int .i64 ((l : Int) + x)), Fact.is (.int .i64 ((l : Int) + x - 1)), Fact.is (.int .i64 (((l : Int) + x - 1) * 30103)), Fact.is (.int .i64 p0), Fact.is (.int .i64 p0)] (by kernel_rfl) (by kernel_rfl) ⟨?o0, ?o1, ?o2, ?o3, ?o4, ?o5, ?o6, ?o7, ?o8, ?o9, trivial⟩ ?after
  case o0 => (refine StepOK.plain rfl ?_; intro ρ w1 R hρ hb hp hR; have e1 : ρ (.tmp 1) = .pointer (some ⟨g1, 0, none⟩) := hρ.tmp 1 rfl; have hcon := hρ.con; have hfn := hρ.fn; clear hρ hp; unfold OpRun; go_simp; exact hR _ _ (Below.refl _ _) rfl)
  case o1 => (refine StepOK.plain rfl ?_; intro ρ w1 R hρ hb hp hR; have e5 : ρ (.tmp 5) = _ := hp 0 5 rfl rfl; obtain ⟨⟨j0, j1, -⟩, j2, -⟩ := H1.out.below hb; have hcon := hρ.con; have hfn := hρ.fn; clear hρ hp; unfold OpRun; go_simp; exact hR _ _ (Below.refl _ _) rfl)
  case o2 => (refine StepOK.plain rfl ?_; intro ρ w1 R hρ hb hp hR; have e6 : ρ (.tmp 6) = _ := hp 1 6 rfl rfl; have hcon := hρ.con; have hfn := hρ.fn; clear hρ hp; unfold OpRun; go_simp; (refine (LN.out _ (HN1.out.below hb)).mono ?_; rintro e wn ⟨rfl, rfl⟩; exact ⟨_, rfl, hR _ _ (Below.refl _ _) rfl⟩))
  case o3 => (refine StepOK.plain rfl ?_; intro ρ w1 R hρ hb hp hR; have e1 : ρ (.tmp 1) = .pointer (some ⟨g1, 0, none⟩) := hρ.tmp 1 rfl; have hcon := hρ.con; have hfn := hρ.fn; clear hρ hp; unfold OpRun; go_simp; exact hR _ _ (Below.refl _ _) rfl)
  case o4 => (refine StepOK.plain rfl ?_; intro ρ w1 R hρ hb hp hR; have e8 : ρ (.tmp 8) = _ := hp 3 8 rfl rfl; obtain ⟨⟨j0, j1, -⟩, j2, -⟩ := H1.out.below hb; have hcon := hρ.con; have hfn := hρ.fn; clear hρ hp; unfold OpRun; go_simp; exact hR _ _ (Below.refl _ _) rfl)
  case o5 => (refine StepOK.plain rfl ?_; intro ρ w1 R hρ hb hp hR; have e7 : ρ (.tmp 7) = _ := hp 2 7 rfl rfl; have e9 : ρ (.tmp 9) = _ := hp 4 9 rfl rfl; have hw9 : IntKind.i64.wrap ((l : Int) + x) = (l : Int) + x := IntWalk.i64_in _ (by omega); have hcon := hρ.con; have hfn := hρ.fn; clear hρ hp; unfold OpRun; go_simp; exact hR _ _ (Below.refl _ _) rfl)
  case o6 => (refine StepOK.plain rfl ?_; intro ρ w1 R hρ hb hp hR; have e10 : ρ (.tmp 10) = _ := hp 5 10 rfl rfl; have hw9 : IntKind.i64.wrap ((l : Int) + x - 1) = (l : Int) + x - 1 := IntWalk.i64_in _ (by omega); have hcon := hρ.con; have hfn := hρ.fn; clear hρ hp; unfold OpRun; go_simp; exact hR _ _ (Below.refl _ _) rfl)
  case o7 => (refine StepOK.plain rfl ?_; intro ρ w1 R hρ hb hp hR; have e11 : ρ (.tmp 11) = _ := hp 6 11 rfl rfl; have hw9 : IntKind.i64.wrap (((l : Int) + x - 1) * 30103) = ((l : Int) + x - 1) * 30103 := IntWalk.i64_in _ (by omega); have hcon := hρ.con; have hfn := hρ.fn; clear hρ hp; unfold OpRun; go_simp; exact hR _ _ (Below.refl _ _) rfl)
  case o8 => (refine StepOK.plain rfl ?_; intro ρ w1 R hρ hb hp hR; have e12 : ρ (.tmp 12) = _ := hp 7 12 rfl rfl; have hx9 := HP0.out; have hw9 : IntKind.i64.wrap p0 = p0 := IntWalk.i64_in _ (by omega); have hcon := hρ.con; have hfn := hρ.fn; clear hρ hp; unfold OpRun; go_simp; exact hR _ _ (Below.refl _ _) rfl)
  case o9 => (refine StepOK.plain rfl ?_; intro ρ w1 R hρ hb hp hR; have e13 : ρ (.tmp 13) = _ := hp 8 13 rfl rfl; have hcon := hρ.con; have hfn := hρ.fn; clear hρ hp; unfold OpRun; go_simp; exact hR _ _ (Below.refl _ _) rfl)
  case after =>
    intro u wn hb hf
    have e3 : u 3 = _ := hf 9 3 (by omega) rfl
    clear hf
    simp only [putAll, Act.put, List.setIfInBounds_toArray, List.set_cons_zero, List.set_cons_succ, List.drop_succ_cons, List.drop_zero, List.drop_nil]
    rw [e3]
    have y2 := below_trans y1 hb
    have H2 := hid (H1.out.below hb)
    have HN2 := hid (HN1.out.below hb)
    obtain ⟨W2, hW2⟩ : ∃ W, W = wn := ⟨_, rfl⟩
    subst hW2
    clear H1 HN1 y1 hb HP0 LN
    go_wp2_with fail
    go_loopw [3] (fun s3 wr => ∃ c : Int, s3 = .int .i64 c ∧ -3000 ≤ c ∧ c ≤ 3000 ∧ Below W2.heap.size W2 wr) (fun s3 _ => (intOf s3 - pd).toNat)
    case atStart => exact ⟨p0, rfl, by omega, by omega, Below.refl _ _⟩
    case round =>
      obtain ⟨c, rfl, c1, c2, hbr⟩ := hrel
      have HLc := hid (LE.out g1 c wr (H2.out.below hbr) (HN2.out.below hbr) (by omega))
      by_cases hpc : pd < c
      · have hwc : IntKind.i64.wrap (c - 1) = c - 1 := IntWalk.i64_in _ (by omega)
        have HLd := hid (show Calls Tryd.prog 192 #[.int .i64 c, .pointer (some ⟨g1, 0, none⟩)] wr fun e w' => e = .returned (.bool true) ∧ Below wr.heap.size wr w' from by
          have h9 := HLc.out
          rwa [decide_eq_true hpc] at h9)
        clear HLc
        go_wp2_with (go_at_call 192; (with_reducible refine HLd.out.mono ?_); rintro en w3 ⟨rfl, hb3⟩)
        go_roundw
        case rel => exact ⟨c - 1, rfl, by omega, by omega, below_trans hbr hb3⟩
        case measure => simp [intOf]; omega
      · have HLd := hid (show Calls Tryd.prog 192 #[.int .i64 c, .pointer (some ⟨g1, 0, none⟩)] wr fun e w' => e = .returned (.bool false) ∧ Below wr.heap.size wr w' from by
          have h9 := HLc.out
          rwa [decide_eq_false hpc] at h9)
        clear HLc
        have HLE := hid (show c ≤ pd by omega)
        clear hpc
        go_wp2_with (go_at_call 192; (with_reducible refine HLd.out.mono ?_); rintro en w3 ⟨rfl, hb3⟩)
        have y3 := below_trans hbr hb3
        go_loopw [3] (fun s3 wq => ∃ d : Int, s3 = .int .i64 d ∧ -3000 ≤ d ∧ d ≤ pd ∧ Below W2.heap.size W2 wq) (fun s3 _ => (pd - intOf s3).toNat)
        case atStart => exact ⟨c, rfl, by omega, HLE.out, y3⟩
        case round =>
          obtain ⟨d, rfl, d1, d2, hbd⟩ := hrel
          have hwd : IntKind.i64.wrap (d + 1) = d + 1 := IntWalk.i64_in _ (by omega)
          have HLe := hid (LE.out g1 (d + 1) _ (H2.out.below hbd) (HN2.out.below hbd) (by omega))
          by_cases hpe : pd < d + 1
          · have HLf := hid (show Calls Tryd.prog 192 #[.int .i64 (d + 1), .pointer (some ⟨g1, 0, none⟩)] _ fun e w' => e = .returned (.bool true) ∧ Below _ _ w' from by
              have h9 := HLe.out
              rwa [decide_eq_true hpe] at h9)
            have hde := hid (show d = pd by omega)
            clear HLe hpe
            go_wp2_with (go_at_call 192; (with_reducible refine HLf.out.mono ?_); rintro en w4 ⟨rfl, hb4⟩)
            go_ret
            exact ⟨by rw [← hde.out]; rfl, below_trans (below_trans y2 hbd) hb4⟩
          · have HLf := hid (show Calls Tryd.prog 192 #[.int .i64 (d + 1), .pointer (some ⟨g1, 0, none⟩)] _ fun e w' => e = .returned (.bool false) ∧ Below _ _ w' from by
              have h9 := HLe.out
              rwa [decide_eq_false hpe] at h9)
            have HDD := hid (show d + 1 ≤ pd by omega)
            clear HLe hpe
            go_wp2_with (go_at_call 192; (with_reducible refine HLf.out.mono ?_); rintro en w4 ⟨rfl, hb4⟩)
            go_roundw
            case rel => exact ⟨d + 1, rfl, by omega, HDD.out, below_trans hbd hb4⟩
            case measure => have := HDD.out; simp [intOf]; omega
theorem digitsZ_any (v : Value) (D : Dy) (k : Nat) (mode : Int) (w : World) (hv : VD w D v) (hD : D.1 = 0) (hk : k ≤ 10000) :
    Calls Tryd.prog 127 #[v, .int .i64 (k : Int), .int .i64 mode] w fun e w' => e = .returned (.tuple #[.string (bsOf (List.replicate k 48)), .int .i64 0, .bool false]) ∧ Below w.heap.size w w' := by
  obtain ⟨am, cm, rfl, hN⟩ := hv
  have hl0 : (limbs D.1.natAbs).length = 0 := by rw [hD]; rfl
  rw [hl0]
  have RP := hid (fun w => repeat_any 48 k (by omega) w)
  have RP2 := hid (show ∀ w, Calls Tryd.prog 161 #[.string ⟨#[48]⟩, .int .i64 (k : Int)] w fun e w' => e = .returned (.string (bsOf (List.replicate k 48))) ∧ Below w.heap.size w w' from RP.out)
  have zQ : QL 35 (w.alloc (.cells #[.bool (decide (D.1 < 0)), .slice am 0 cm, .int .i64 D.2] 35)) w.heap.size (decide (D.1 < 0)) (.slice am 0 cm) D.2 := QL.made rfl
  have yb0 := below_alloc w (.cells #[.bool (decide (D.1 < 0)), .slice am 0 cm, .int .i64 D.2] 35)
  obtain ⟨⟨j0, j1, -⟩, j2, -⟩ := zQ
  clear hD hN RP
  generalize decide (D.1 < 0) = neg at *
  go_enter Tryd.func127, Tryd.ntmps127
  go_wp2_with (go_at_call 161; (with_reducible refine (RP2.out _).mono ?_); rintro en w1 ⟨rfl, hb1⟩)
  go_ret3
  exact ⟨rfl, below_trans yb0 hb1⟩
theorem digits10_any (v : Value) (D : Dy) (k : Nat) (mode pd : Int) (w : World) (hv : VD w D v) (hD : D.1 ≠ 0) (hl : D.1.natAbs < 2 ^ 60) (he : -2000 ≤ D.2 ∧ D.2 ≤ 2000) (hp : IsDec (dA D) (dB D) pd) (hpb : -3000 ≤ pd ∧ pd ≤ 3000) (hk : k ≤ 2000) (hT10 : Tab10 w) :
    Calls Tryd.prog 127 #[v, .int .i64 ((k : Int) + 1), .int .i64 mode] w fun e w' => e = .returned (.tuple #[.string (bsOf (sciD (sciQ (decide (D.1 < 0)) (dA D) (dB D) k pd mode) k)), .int .i64 (sciP (sciQ (decide (D.1 < 0)) (dA D) (dB D) k pd mode) k pd), .bool (sciC (dA D) (dB D) k pd)]) ∧ Below w.heap.size w w' := by
  obtain ⟨am, cm, rfl, hN⟩ := hv
  obtain ⟨q, hq⟩ : ∃ q, q = sciQ (decide (D.1 < 0)) (dA D) (dB D) k pd mode := ⟨_, rfl⟩
  obtain ⟨q1, q2⟩ := sciQ_bd (decide (D.1 < 0)) (dA D) (dB D) k pd mode (dB_pos D) hp
  rw [← hq] at q1 q2 ⊢
  have lM := limbs_short2 60 2 (by omega) _ hl
  obtain ⟨A, hA⟩ : ∃ A, A = dA D * tnN ((k : Int) - pd) := ⟨_, rfl⟩
  obtain ⟨B, hB⟩ : ∃ B, B = dB D * tnN (-((k : Int) - pd)) := ⟨_, rfl⟩
  have hB0 : 0 < B := by rw [hB]; exact Nat.mul_pos (dB_pos D) (tnN_pos _)
  have hAb : (limbs A).length ≤ 10000 := by
    obtain ⟨X, hX⟩ : ∃ X, X = D.2.toNat := ⟨_, rfl⟩
    obtain ⟨Y, hY⟩ : ∃ Y, Y = ((k : Int) - pd).toNat := ⟨_, rfl⟩
    have h10 : (10 : Nat) ^ Y ≤ (2 ^ 4) ^ Y := Nat.pow_le_pow_left (by decide) Y
    rw [← Nat.pow_mul] at h10
    refine limbs_short2 (60 + X + (4 * Y + 1)) 10000 (by omega) A ?_
    rw [hA]; unfold dA tnN
    rw [← hX, ← hY, Nat.pow_add, Nat.pow_add]
    refine Nat.mul_lt_mul'' (Nat.mul_lt_mul_of_pos_right hl (Nat.two_pow_pos _)) ?_
    rw [Nat.pow_succ]
    have := Nat.two_pow_pos (4 * Y)
    omega
  have hBb : (limbs B).length ≤ 10000 := by
    obtain ⟨X, hX⟩ : ∃ X, X = (-D.2).toNat := ⟨_, rfl⟩
    obtain ⟨Y, hY⟩ : ∃ Y, Y = (-((k : Int) - pd)).toNat := ⟨_, rfl⟩
    have h10 : (10 : Nat) ^ Y ≤ (2 ^ 4) ^ Y := Nat.pow_le_pow_left (by decide) Y
    rw [← Nat.pow_mul] at h10
    refine limbs_short2 (X + 1 + (4 * Y + 1)) 10000 (by omega) B ?_
    rw [hB]; unfold dB tnN
    rw [← hX, ← hY, Nat.pow_add]
    refine Nat.mul_lt_mul'' (Nat.pow_lt_pow_right (by omega) (by omega)) ?_
    rw [Nat.pow_succ]
    have := Nat.two_pow_pos (4 * Y)
    omega
  have hqs : q = rtN (decide (D.1 < 0)) A B mode := by rw [hq, hA, hB]; rfl
  have hcs : sciC (dA D) (dB D) k pd = rtC A B := by rw [hA, hB]; rfl
  have hql : (limbs q).length ≤ 30001 := by
    have h1 := (rtN_ge (decide (D.1 < 0)) A B mode).2
    have h2 := Nat.div_le_self A B
    have h3 : q ≤ A + 1 := by omega
    have h4 : (limbs 1).length ≤ 1 := (digs_len_le 4294967296 (by omega) 1 1).2 (by omega)
    have h5 := limbs_len_add A 1 10000 10000 hAb (by omega)
    exact Nat.le_trans (limbs_len_mono h3) (by omega)
  rw [hcs]
  have LG := hid (show ∀ w, Ns .u32 w am cm (limbs D.1.natAbs) → Calls Tryd.prog 170 #[.agg #[.bool (decide (D.1 < 0)), .slice am (limbs D.1.natAbs).length cm, .int .i64 D.2]] w fun e w' => e = .returned (.int .i64 pd) ∧ Below w.heap.size w w' from fun w h => log10_any _ D pd w ⟨am, cm, rfl, h⟩ hl he hp hpb)
  have SC := hid (show ∀ w, Ns .u32 w am cm (limbs D.1.natAbs) → Calls Tryd.prog 121 #[.agg #[.bool (decide (D.1 < 0)), .slice am (limbs D.1.natAbs).length cm, .int .i64 D.2], .int .i64 ((k : Int) - pd)] w (RetRat w (decide (D.1 < 0)) A B) from fun w h => by
    rw [hA, hB]
    exact scaled_any _ D ((k : Int) - pd) w ⟨am, cm, rfl, h⟩ (by omega) (by omega) (by omega))
  have RO := hid (fun g w h => by
    have h9 := ratioRound_any g (decide (D.1 < 0)) A B mode w h (by omega) hB0 (by omega)
    rwa [← hqs] at h9)
  have DE := hid (fun ao c w h t => decimal_any ao c q w h (by omega) t)
  have hov := sciD_over q k q1 q2
  have hdl : (decD q).length ≤ k + 2 := decD_len_lt q (k + 2) (Nat.lt_of_le_of_lt q2 (Nat.pow_lt_pow_right (by omega) (by omega))) (by omega)
  obtain ⟨l, hll⟩ : ∃ l, l = (decD q).length := ⟨_, rfl⟩
  have hsz : (bsOf (decD q)).size = l := by rw [bs_size, hll]
  have HN := hid hN
  have HT := hid hT10
  have zQ : QL 35 (w.alloc (.cells #[.bool (decide (D.1 < 0)), .slice am (limbs D.1.natAbs).length cm, .int .i64 D.2] 35)) w.heap.size (decide (D.1 < 0)) (.slice am (limbs D.1.natAbs).length cm) D.2 := QL.made rfl
  have yb0 := below_alloc w (.cells #[.bool (decide (D.1 < 0)), .slice am (limbs D.1.natAbs).length cm, .int .i64 D.2] 35)
  have hlm : ((limbs D.1.natAbs).length : Int) ≠ 0 := by
    intro h
    have := (limbs_nil D.1.natAbs).1 (List.length_eq_zero_iff.1 (by omega))
    omega
  have hlz : (((limbs D.1.natAbs).length : Int) == 0) = false := beq_eq_false_iff_ne.2 hlm
  have hw1 : (k : Int) + 1 - 1 = (k : Int) := by omega
  have hw2 : IntKind.i64.wrap ((k : Int) - pd) = (k : Int) - pd := IntWalk.i64_in _ (by omega)
  have hw3 : IntKind.i64.wrap (k : Int) = (k : Int) := IntWalk.i64_in _ (by omega)
  have hw4 : IntKind.i64.wrap (pd + 1) = pd + 1 := IntWalk.i64_in _ (by omega)
  have HR1 := hid (show (k + 1 < l) → sciD q k = (decD q).take (k + 1) ∧ sciP q k pd = pd + 1 from fun h => by
    have h2 : 10 ^ (k + 1) ≤ q := by rw [← hov, ← hll]; exact h
    unfold sciD sciP
    rw [if_pos h2, if_pos h2, (sciD_take q k q1 q2 h2).1]
    exact ⟨rfl, rfl⟩)
  have HR2 := hid (show ¬ (k + 1 < l) → sciD q k = decD q ∧ sciP q k pd = pd from fun h => by
    have h2 : ¬ 10 ^ (k + 1) ≤ q := by rw [← hov, ← hll]; exact h
    unfold sciD sciP
    rw [if_neg h2, if_neg h2]
    exact ⟨rfl, rfl⟩)
  have hS := fun h => slice_to (P := Tryd.prog) Tryd.underlying9 (decD q) ((k : Int) + 1) (by omega) h
  rw [show ((k : Int) + 1).toNat = k + 1 by omega, ← hll] at hS
  have hl2 : l ≤ k + 2 := by omega
  generalize sciD q k = RD at *
  generalize sciP q k pd = RP at *
  generalize decD q = T at *
  generalize rtC A B = CC at *
  clear hq hqs hcs hA hB hAb hBb hB0 hql q1 q2 hov hdl hN hT10 hp hD hl hll lM hlm
  go_enter Tryd.func127, Tryd.ntmps127
  go_upto_region 1 with fail
  refine wp_worldZ (fun WW => Below w.heap.size w WW ∧ QL 35 WW w.heap.size (decide (D.1 < 0)) (.slice am (limbs D.1.natAbs).length cm) D.2 ∧ Ns .u32 WW am cm (limbs D.1.natAbs)) ⟨yb0, zQ, HN.out.below yb0⟩ ?_
  intro W1 ⟨y1, z1, hN1⟩
  obtain ⟨g1, hg1⟩ : ∃ g, g = w.heap.size := ⟨_, rfl⟩
  rw [← hg1] at z1 ⊢
  have H1 := hid z1
  have HN1 := hid hN1
  obtain ⟨⟨j0, j1, -⟩, j2, -⟩ := id z1
  clear hg1 zQ yb0 HN hN1 z1
  generalize decide (D.1 < 0) = neg at *
  go_upto_if 37 with (first
    | (go_at_call 170; (with_reducible refine (LG.out _ HN1.out).mono ?_); rintro en w2 ⟨rfl, hb2⟩; obtain ⟨⟨i0, i1, -⟩, i2, -⟩ := H1.out.below hb2)
    | (go_at_call 121; (with_reducible refine (SC.out _ (HN1.out.below hb2)).mono ?_); rintro en w5 ⟨g5, rfl, hr5, hb5⟩)
    | (go_at_call 122; (with_reducible refine (RO.out _ _ hr5).mono ?_); rintro en w6 ⟨aq, cq, rfl, hNq, hb6⟩; have y6 := below_trans (below_trans (below_trans y1 hb2) hb5) hb6)
    | (go_at_call 116; (with_reducible refine (DE.out _ _ _ hNq (HT.out.below y6)).mono ?_); rintro en w8 ⟨rfl, hb8⟩))
  by_cases hkl : k + 1 < l
  · obtain ⟨r1, r2⟩ := HR1.out hkl
    have hS2 := hS (by omega)
    have hkl2 : (k : Int) + 1 < (l : Int) := by omega
    have R1 := hid r1
    have R2 := hid r2
    clear HR1 HR2 hS r1 r2
    go_wp2_with fail
    go_ret3
    exact ⟨by rw [R1.out, R2.out]; rfl, below_trans y6 hb8⟩
  · obtain ⟨r1, r2⟩ := HR2.out hkl
    have hkl2 : ¬ (k : Int) + 1 < (l : Int) := by omega
    have R1 := hid r1
    have R2 := hid r2
    clear HR1 HR2 hS r1 r2
    go_wp2_with fail
    go_ret3
    exact ⟨by rw [R1.out, R2.out]; rfl, below_trans y6 hb8⟩
theorem power_any (p : Int) (hp : -1000000 ≤ p ∧ p ≤ 1000000) (w : World) (hT10 : Tab10 w) :
    Calls Tryd.prog 128 #[.int .i64 p] w fun e w' => e = .returned (.string (bsOf (pwrT p))) ∧ Below w.heap.size w w' := by
  obtain ⟨n, hn⟩ : ∃ n, n = p.natAbs := ⟨_, rfl⟩
  have HP := hid (show pwrT p = (if p < 0 then 45 else 43) :: ((if n < 10 then [48] else []) ++ decD n) by unfold pwrT; rw [← hn])
  have IT := hid (show ∀ w, Tab10 w → Calls Tryd.prog 162 #[.int .i64 (n : Int)] w fun e w' => e = .returned (.string (bsOf (decD n))) ∧ Below w.heap.size w w' from fun w t => by
    have h9 := itoa_any (n : Int) (by omega) (by omega) w t
    rwa [itoa_nat] at h9)
  have lD : (decD n).length ≤ 8 := decD_len 7 n (by omega)
  have HT := hid hT10
  generalize decD n = T at *
  have a1 := add_bs (P := Tryd.prog) [43] [48] (by simp)
  have a2 := add_bs (P := Tryd.prog) [45] [48] (by simp)
  have a3 := add_bs (P := Tryd.prog) [43] T (by simp; omega)
  have a4 := add_bs (P := Tryd.prog) [45] T (by simp; omega)
  have a5 := add_bs (P := Tryd.prog) [43, 48] T (by simp; omega)
  have a6 := add_bs (P := Tryd.prog) [45, 48] T (by simp; omega)
  have b1 : (ByteArray.mk #[43]) = bsOf [43] := rfl
  have b2 : (ByteArray.mk #[45]) = bsOf [45] := rfl
  have b3 : (ByteArray.mk #[48]) = bsOf [48] := rfl
  simp only [List.cons_append, List.nil_append] at a1 a2 a3 a4 a5 a6
  clear hT10
  by_cases h0 : p < 0
  · have hpn : -p = (n : Int) := by omega
    have hwn : IntKind.i64.wrap (n : Int) = (n : Int) := IntWalk.i64_in _ (by omega)
    by_cases h1 : n < 10
    · have HR := hid (show pwrT p = 45 :: 48 :: T by rw [HP.out, if_pos h0, if_pos h1]; rfl)
      have h2 : (n : Int) < 10 := by omega
      clear HP hn
      go_enter Tryd.func128, Tryd.ntmps128
      go_wp2_with (go_at_call 162; (with_reducible refine (IT.out _ HT.out).mono ?_); rintro en w1 ⟨rfl, hb1⟩)
      go_ret
      exact ⟨by rw [HR.out]; rfl, hb1⟩
    · have HR := hid (show pwrT p = 45 :: T by rw [HP.out, if_pos h0, if_neg h1]; rfl)
      have h2 : ¬ (n : Int) < 10 := by omega
      clear HP hn
      go_enter Tryd.func128, Tryd.ntmps128
      go_wp2_with (go_at_call 162; (with_reducible refine (IT.out _ HT.out).mono ?_); rintro en w1 ⟨rfl, hb1⟩)
      go_ret
      exact ⟨by rw [HR.out]; rfl, hb1⟩
  · obtain ⟨m, rfl⟩ := Int.eq_ofNat_of_zero_le (show 0 ≤ p by omega)
    rw [Int.natAbs_natCast] at hn
    subst hn
    by_cases h1 : n < 10
    · have HR := hid (show pwrT (n : Int) = 43 :: 48 :: T by rw [HP.out, if_neg h0, if_pos h1]; rfl)
      have h2 : (n : Int) < 10 := by omega
      clear HP
      go_enter Tryd.func128, Tryd.ntmps128
      go_wp2_with (go_at_call 162; (with_reducible refine (IT.out _ HT.out).mono ?_); rintro en w1 ⟨rfl, hb1⟩)
      go_ret
      exact ⟨by rw [HR.out]; rfl, hb1⟩
    · have HR := hid (show pwrT (n : Int) = 43 :: T by rw [HP.out, if_neg h0, if_neg h1]; rfl)
      have h2 : ¬ (n : Int) < 10 := by omega
      clear HP
      go_enter Tryd.func128, Tryd.ntmps128
      go_wp2_with (go_at_call 162; (with_reducible refine (IT.out _ HT.out).mono ?_); rintro en w1 ⟨rfl, hb1⟩)
      go_ret
      exact ⟨by rw [HR.out]; rfl, hb1⟩
end Go.Proofs.YtincggkdlegjjaaDoor
