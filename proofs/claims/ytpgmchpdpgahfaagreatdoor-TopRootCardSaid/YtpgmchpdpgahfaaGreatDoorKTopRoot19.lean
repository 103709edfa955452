/- TopRoot: what the proof leans on, part 19 (Sy0 Tx6). -/
import Derived.Test.YtpgmchpdpgahfaaGreatDoorKTopRoot12
import Derived.Test.YtpgmchpdpgahfaaGreatDoorKTopRoot14
import Derived.Test.YtpgmchpdpgahfaaGreatDoorKTopRoot15
set_option linter.unusedVariables false
set_option linter.unusedSimpArgs false
namespace Go.Ulp
open Go.RowKit
theorem cmpI_ng (a b : Int) : cmpI a b < 0 ↔ a < b := by
  unfold cmpI
  by_cases h : a < b
  · rw [if_pos h]; omega
  · rw [if_neg h]; split <;> omega
theorem cmpI_ps (a b : Int) : 0 < cmpI a b ↔ b < a := by
  unfold cmpI
  by_cases h : a < b
  · rw [if_pos h]; omega
  · rw [if_neg h]; split <;> omega
/-- between the middles; at them, if it is even -/
def fitR (K A B r : Nat) : Prop := (rdM K A B ((r : Int) - 1) < 0 ∧ 0 < rdM K A B r) ∨ (r % 2 = 0 ∧ (rdM K A B ((r : Int) - 1) = 0 ∨ rdM K A B r = 0))
theorem rdM_nat (K A B l : Nat) : rdM K A B (l : Int) = cmpI ((rvi l * B + rvi (l + 1) * B : Nat) : Int) ((2 * (A * 2 ^ K) : Nat) : Int) := by
  unfold rdM
  rw [show (l : Int) + 1 = ((l + 1 : Nat) : Int) by omega, rvs_nat9, rvs_nat9, pw_nat, Int.natCast_mul 2, Int.natCast_mul A, Int.natCast_add, Int.natCast_mul, Int.natCast_mul, Int.add_mul]
  rfl
/-- what short.compare answers -/
def cmpT (n : Nat) (k : Int) (m : Nat) (ex : Int) : Int := cmpI ((n * 10 ^ k.toNat * 2 ^ (-ex).toNat : Nat) : Int) ((m * 2 ^ ex.toNat * 10 ^ (-k).toNat : Nat) : Int)
/-- a number's parts: its digits, its exponent and its limits -/
def lmM (E f : Nat) : Nat := if E = 0 then f else f + 4503599627370496
def lmH (E : Nat) : Nat := E - 1
def lmL (E f : Nat) : Nat := if f = 0 ∧ 1 < E then 4 * lmM E f - 1 else 4 * lmM E f - 2
def lmX (E : Nat) : Int := (lmH E : Int) - 1076
theorem rvi_lm (E f : Nat) (hf : f < 4503599627370496) : rvi (E * 4503599627370496 + f) = lmM E f * 2 ^ lmH E ∧ rvi (E * 4503599627370496 + f + 1) = (lmM E f + 1) * 2 ^ lmH E := by
  unfold lmM lmH
  by_cases h : E = 0
  · subst h
    have := rvi_parts 0 f (by omega) (.inl rfl)
    rw [if_pos rfl, Nat.zero_mul, Nat.zero_add, show 0 - 1 = 0 by omega]
    rw [Nat.zero_mul, Nat.zero_add] at this
    exact this
  · have := rvi_parts (E - 1) (f + 4503599627370496) (by omega) (.inr (by omega))
    rw [if_neg h]
    rw [show (E - 1) * 4503599627370496 + (f + 4503599627370496) = E * 4503599627370496 + f by omega] at this
    exact this
theorem lm_low (E f : Nat) (hf : f < 4503599627370496) (hr : 1 ≤ E * 4503599627370496 + f) : 2 * (rvi (E * 4503599627370496 + f - 1) + rvi (E * 4503599627370496 + f)) = lmL E f * 2 ^ lmH E := by
  have h0 := (rvi_lm E f hf).1
  by_cases h : f = 0 ∧ 1 < E
  · obtain ⟨rfl, hE⟩ := h
    have h1 := (rvi_lm (E - 1) 4503599627370495 (by omega)).1
    rw [show (E - 1) * 4503599627370496 + 4503599627370495 = E * 4503599627370496 + 0 - 1 by omega] at h1
    rw [h0, h1]
    unfold lmL lmM
    rw [if_pos (show (0 : Nat) = 0 ∧ 1 < E from ⟨rfl, hE⟩), if_neg (show ¬ E = 0 by omega), if_neg (show ¬ E - 1 = 0 by omega)]
    have h2 : lmH E = lmH (E - 1) + 1 := by unfold lmH; omega
    rw [h2, Nat.pow_succ]
    generalize 2 ^ lmH (E - 1) = P
    omega
  · unfold lmL
    rw [if_neg h]
    by_cases hf0 : f = 0
    · subst hf0
      have hE1 : E = 1 := by
        by_cases h3 : E = 1
        · exact h3
        · exact absurd (And.intro rfl (by omega : 1 < E)) h
      subst hE1
      have h1 := (rvi_lm 0 4503599627370495 (by omega)).1
      rw [show 1 * 4503599627370496 + 0 - 1 = 0 * 4503599627370496 + 4503599627370495 by omega, h1, h0]
      decide
    · have h1 := rvi_lm E (f - 1) (by omega)
      have h2 : lmM E (f - 1) = lmM E f - 1 := by unfold lmM; split <;> omega
      have h3 : 1 ≤ lmM E f := by unfold lmM; split <;> omega
      rw [show E * 4503599627370496 + f - 1 = E * 4503599627370496 + (f - 1) by omega, h1.1, h0, h2]
      obtain ⟨a, ha⟩ : ∃ a, lmM E f = a + 1 := ⟨lmM E f - 1, by omega⟩
      rw [ha, show a + 1 - 1 = a by omega, ← Nat.add_mul, ← Nat.mul_assoc]
      congr 1; omega
theorem lm_high (E f : Nat) (hf : f < 4503599627370496) : 2 * (rvi (E * 4503599627370496 + f) + rvi (E * 4503599627370496 + f + 1)) = (4 * lmM E f + 2) * 2 ^ lmH E := by
  obtain ⟨h0, h1⟩ := rvi_lm E f hf
  rw [h0, h1, ← Nat.add_mul, ← Nat.mul_assoc]
  congr 1; omega
theorem cmpT_at (n : Nat) (k : Int) (m h : Nat) (y A B : Nat) (hA : A = n * 10 ^ k.toNat) (hB : B = 10 ^ (-k).toNat) (hy : 2 * y = m * 2 ^ h) :
    cmpT n k m ((h : Int) - 1076) = -cmpI ((y * B : Nat) : Int) ((2 * (A * 2 ^ 1074) : Nat) : Int) := by
  rw [cmpI_swap, Int.neg_neg]
  unfold cmpT
  rw [← hA, ← hB]
  obtain ⟨K, hK⟩ : ∃ K : Nat, K = 1074 := ⟨_, rfl⟩
  obtain ⟨S, hS⟩ : ∃ S : Nat, S = K + 2 := ⟨_, rfl⟩
  rw [← hK, show (1076 : Int) = (S : Int) by omega]
  have e2 : (2 * (A * 2 ^ K)) * 2 = A * 2 ^ S := by
    rw [hS, Nat.pow_add, show (2 : Nat) ^ 2 = 4 from rfl]
    generalize (2 : Nat) ^ K = P
    rw [Nat.mul_assoc, Nat.mul_comm 2 (A * P * 2), ← Nat.mul_assoc A P 4]; omega
  have e3 : y * B * 2 = m * 2 ^ h * B := by rw [← hy, Nat.mul_right_comm, Nat.mul_comm y 2]
  rw [← cmpI_nat_scale (2 * (A * 2 ^ K)) (y * B) 2 (by omega), e2, e3]
  clear e2
  by_cases hc : S ≤ h
  · rw [show (-((h : Int) - (S : Int))).toNat = 0 by omega, show ((h : Int) - (S : Int)).toNat = h - S by omega, Nat.pow_zero, Nat.mul_one,
      ← cmpI_nat_scale A (m * 2 ^ (h - S) * B) (2 ^ S) (Nat.two_pow_pos _)]
    congr 2
    rw [Nat.mul_right_comm, Nat.mul_assoc m, ← Nat.pow_add, show h - S + S = h by omega]
  · rw [show (-((h : Int) - (S : Int))).toNat = S - h by omega, show ((h : Int) - (S : Int)).toNat = 0 by omega, Nat.pow_zero, Nat.mul_one,
      ← cmpI_nat_scale (A * 2 ^ (S - h)) (m * B) (2 ^ h) (Nat.two_pow_pos _)]
    congr 2
    · rw [Nat.mul_assoc A, ← Nat.pow_add, show S - h + h = S by omega]
    · rw [Nat.mul_right_comm]
/-- what fits answers -/
def fitP (E f n : Nat) (k : Int) : Bool := (decide (0 < cmpT n k (lmL E f) (lmX E)) && decide (cmpT n k (4 * lmM E f + 2) (lmX E) < 0)) || (decide (f % 2 = 0) && (decide (cmpT n k (lmL E f) (lmX E) = 0) || decide (cmpT n k (4 * lmM E f + 2) (lmX E) = 0)))
theorem fitP_iff (E f n : Nat) (k : Int) (hf : f < 4503599627370496) (hr : 1 ≤ E * 4503599627370496 + f) : fitP E f n k = true ↔ fitR 1074 (n * 10 ^ k.toNat) (10 ^ (-k).toNat) (E * 4503599627370496 + f) := by
  obtain ⟨r, hr2⟩ : ∃ r, r = E * 4503599627370496 + f := ⟨_, rfl⟩
  have h1 := cmpT_at n k (lmL E f) (lmH E) (rvi (r - 1) + rvi r) _ _ rfl rfl (by rw [hr2]; exact lm_low E f hf hr)
  have h2 := cmpT_at n k (4 * lmM E f + 2) (lmH E) (rvi r + rvi (r + 1)) _ _ rfl rfl (by rw [hr2]; exact lm_high E f hf)
  have g1 := rdM_nat 1074 (n * 10 ^ k.toNat) (10 ^ (-k).toNat) (r - 1)
  have g2 := rdM_nat 1074 (n * 10 ^ k.toNat) (10 ^ (-k).toNat) r
  rw [show ((r - 1 : Nat) : Int) = (r : Int) - 1 by omega, show r - 1 + 1 = r by omega, ← Nat.add_mul] at g1
  rw [← Nat.add_mul] at g2
  rw [← g1] at h1
  rw [← g2] at h2
  have hp : f % 2 = r % 2 := by omega
  unfold fitP fitR lmX
  rw [← hr2, h1, h2, hp]
  simp only [Bool.or_eq_true, Bool.and_eq_true, decide_eq_true_eq]
  omega
end Go.Ulp

set_option linter.unusedVariables false
set_option linter.unusedSimpArgs false
namespace Go.Ulp
open Go.RowKit
/-- a ratio in memory of the call's own -/
def RetRat (w : World) (neg : Bool) (a b : Nat) (e : Ending) (w' : World) : Prop := ∃ g, e = .returned (.pointer (some ⟨g, 0, none⟩)) ∧ RtAt w' g neg a b ∧ Below w.heap.size w w'
def Fact.rat (neg : Bool) (a b : Nat) : Fact := ⟨fun v w => ∃ g, v = .pointer (some ⟨g, 0, none⟩) ∧ RtAt w g neg a b, fun _ _ _ h hb => by
  obtain ⟨g, h1, h2⟩ := h; exact ⟨g, h1, h2.below hb⟩⟩
/-- a ratio's cells -/
def Fact.rtv (neg : Bool) (s : Value) (x : Int) (a b : Nat) : Fact := ⟨fun v w => ∃ an cn bn dn, v = .agg #[.bool neg, s, .int .i64 x, .slice an (limbs a).length cn, .slice bn (limbs b).length dn] ∧ Ns .u32 w an cn (limbs a) ∧ Ns .u32 w bn dn (limbs b), fun _ _ _ h hb => by
  obtain ⟨an, cn, bn, dn, h1, h2, h3⟩ := h; exact ⟨an, cn, bn, dn, h1, h2.below hb, h3.below hb⟩⟩
theorem rat_made (w : World) (neg : Bool) (s : Value) (x : Int) (a b : Nat) (an bn : Option Addr) (cn dn : Nat) (t : TypeId) (h : Ns .u32 w an cn (limbs a)) (k : Ns .u32 w bn dn (limbs b)) :
    RtAt (w.alloc (.cells #[.bool neg, s, .int .i64 x, .slice an (limbs a).length cn, .slice bn (limbs b).length dn] t)) w.heap.size neg a b := by
  refine ⟨an, cn, bn, dn, ?_, ?_, ?_, h.below (below_alloc _ _), k.below (below_alloc _ _)⟩
  · rw [World.cell?_alloc_at (hn := rfl)]; rfl
  · rw [World.cell?_alloc_at (hn := rfl)]; rfl
  · rw [World.cell?_alloc_at (hn := rfl)]; rfl
end Go.Ulp
namespace Go.Proofs.YtpgmchpdpgahfaaGreatDoor
open Go.RowKit Go.Ulp
set_option linter.unusedVariables false
set_option linter.unusedSimpArgs false
set_option maxHeartbeats 1000000
set_option maxRecDepth 100000
theorem scaled_any (v : Value) (D : Dy) (t : Int) (w : World) (hv : VD w D v) (hl : (limbs D.1.natAbs).length ≤ 1000) (he : -20000 ≤ D.2 ∧ D.2 ≤ 20000) (ht : -10000 ≤ t ∧ t ≤ 10000) :
    Calls Tryz.prog 85 #[v, .int .i64 t] w (RetRat w (decide (D.1 < 0)) (dA D * tnN t) (dB D * tnN (-t))) := by
  obtain ⟨am, cm, rfl, hN⟩ := hv
  obtain ⟨M, hM⟩ : ∃ M, M = D.1.natAbs := ⟨_, rfl⟩
  obtain ⟨x, hx⟩ : ∃ x, x = D.2 := ⟨_, rfl⟩
  obtain ⟨neg, hneg⟩ : ∃ n, n = decide (D.1 < 0) := ⟨_, rfl⟩
  obtain ⟨T, hT⟩ : ∃ T : Nat, T = t.toNat := ⟨_, rfl⟩
  obtain ⟨S, hS⟩ : ∃ T : Nat, T = (-t).toNat := ⟨_, rfl⟩
  obtain ⟨X, hX⟩ : ∃ T : Nat, T = x.toNat := ⟨_, rfl⟩
  obtain ⟨Y, hY⟩ : ∃ T : Nat, T = (-x).toNat := ⟨_, rfl⟩
  have EA : dA D * tnN t = M * 10 ^ T * 2 ^ X := by unfold dA tnN; rw [← hM, ← hx, ← hX, ← hT, Nat.mul_right_comm]
  have EB : dB D * tnN (-t) = 10 ^ S * 2 ^ Y := by unfold dB tnN; rw [← hx, ← hY, ← hS, Nat.mul_comm]
  rw [EA, EB]
  rw [← hM] at hN hl ⊢
  rw [← hx, ← hneg]
  rw [← hx] at he
  have m1 : max t 0 = (T : Int) := by omega
  have m2 : max (-t) 0 = (S : Int) := by omega
  have m3 : max x 0 = (X : Int) := by omega
  have m4 : max (-x) 0 = (Y : Int) := by omega
  clear EA EB hM hx hneg
  have lT := limbs_ten T (by omega)
  have lS := limbs_ten S (by omega)
  have lMT := limbs_len_mul M (10 ^ T) 1000 3002 hl lT
  have P1 := hid (fun w => pow10_any T (by omega) w)
  have P2 := hid (fun w => pow10_any S (by omega) w)
  have TI := hid (fun b d w h0 h1 => times_any am b cm d M (10 ^ T) w h0 h1 (by omega) (by omega))
  have L1 := hid (fun b d w h0 => leftN_any b d (M * 10 ^ T) X w h0 (by omega) (by omega))
  have L2 := hid (fun b d w h0 => leftN_any b d (10 ^ S) Y w h0 (by omega) (by omega))
  have HN := hid hN
  clear hN lT lS lMT hT hS hX hY
  have zQ : QL 43 (w.alloc (.cells #[.bool neg, .slice am (limbs M).length cm, .int .i64 x] 43)) w.heap.size neg (.slice am (limbs M).length cm) x := QL.made rfl
  have yb0 := below_alloc w (.cells #[.bool neg, .slice am (limbs M).length cm, .int .i64 x] 43)
  go_enter Tryz.func85, Tryz.ntmps85
  go_upto_region 1 with fail
  refine wp_worldZ (fun WW => Below w.heap.size w WW ∧ QL 43 WW w.heap.size neg (.slice am (limbs M).length cm) x ∧ Ns .u32 WW am cm (limbs M)) ⟨yb0, zQ, HN.out.below yb0⟩ ?_
  intro W1 ⟨yb1, zQ1, hN1⟩
  obtain ⟨g2, hg2⟩ : ∃ g, g = w.heap.size := ⟨_, rfl⟩
  rw [← hg2] at zQ1
  rw [← hg2]
  clear hg2 zQ yb0 HN
  refine wp_region_grow 23 [5, 6, 7, 8, 9, 10, 11, 12, 13, 14, 15, 16, 17, 18, 19, 20, 21, 22, 23, 24, 25, 26, 4] [Fact.is (.agg #[.bool neg, .slice am (limbs M).length cm, .int .i64 x]), Fact.is (.pointer (some ⟨g2, 1, none⟩)), Fact.is (.slice am (limbs M).length cm), Fact.is (.int .i64 t), Fact.is (.int .i64 (T : Int)), Fact.li (10 ^ T), Fact.li (M * 10 ^ T), Fact.is (.pointer (some ⟨g2, 2, none⟩)), Fact.is (.int .i64 x), Fact.is (.int .i64 (X : Int)), Fact.li (M * 10 ^ T * 2 ^ X), Fact.is (.int .i64 t), Fact.is (.int .i64 (-t)), Fact.is (.int .i64 (S : Int)), Fact.li (10 ^ S), Fact.is (.pointer (some ⟨g2, 2, none⟩)), Fact.is (.int .i64 x), Fact.is (.int .i64 (-x)), Fact.is (.int .i64 (Y : Int)), Fact.li (10 ^ S * 2 ^ Y), Fact.rtv neg (.slice am (limbs M).length cm) x (M * 10 ^ T * 2 ^ X) (10 ^ S * 2 ^ Y), Fact.rat neg (M * 10 ^ T * 2 ^ X) (10 ^ S * 2 ^ Y), Fact.rat neg (M * 10 ^ T * 2 ^ X) (10 ^ S * 2 ^ Y)] (by kernel_rfl) (by kernel_rfl) ⟨?o0, ?o1, ?o2, ?o3, ?o4, ?o5, ?o6, ?o7, ?o8, ?o9, ?o10, ?o11, ?o12, ?o13, ?o14, ?o15, ?o16, ?o17, ?o18, ?o19, ?o20, ?o21, ?o22, trivial⟩ ?after
  case o0 => (refine StepOK.plain rfl ?_; intro ρ w1 R hρ hb hp hR; have e2 : ρ (.tmp 2) = .pointer (some ⟨g2, 0, none⟩) := hρ.tmp 2 rfl; obtain ⟨⟨j0, j1, -⟩, j2, -⟩ := zQ1.below hb; have hcon := hρ.con; have hfn := hρ.fn; clear hρ hp; unfold OpRun; go_simp; exact hR _ _ (Below.refl _ _) rfl)
  case o1 => (refine StepOK.plain rfl ?_; intro ρ w1 R hρ hb hp hR; have e2 : ρ (.tmp 2) = .pointer (some ⟨g2, 0, none⟩) := hρ.tmp 2 rfl; have hcon := hρ.con; have hfn := hρ.fn; clear hρ hp; unfold OpRun; go_simp; exact hR _ _ (Below.refl _ _) rfl)
  case o2 => (refine StepOK.plain rfl ?_; intro ρ w1 R hρ hb hp hR; have e6 : ρ (.tmp 6) = _ := hp 1 6 rfl rfl; obtain ⟨⟨j0, j1, -⟩, j2, -⟩ := zQ1.below hb; have hcon := hρ.con; have hfn := hρ.fn; clear hρ hp; unfold OpRun; go_simp; exact hR _ _ (Below.refl _ _) rfl)
  case o3 => (refine StepOK.plain rfl ?_; intro ρ w1 R hρ hb hp hR; have e1 : ρ (.tmp 1) = .int .i64 t := hρ.tmp 1 rfl; have hcon := hρ.con; have hfn := hρ.fn; clear hρ hp; unfold OpRun; go_simp; exact hR _ _ (Below.refl _ _) rfl)
  case o4 => (refine StepOK.plain rfl ?_; intro ρ w1 R hρ hb hp hR; have e8 : ρ (.tmp 8) = _ := hp 3 8 rfl rfl; have hcon := hρ.con; have hfn := hρ.fn; clear hρ hp; unfold OpRun; go_simp; exact hR _ _ (Below.refl _ _) rfl)
  case o5 => (refine StepOK.plain rfl ?_; intro ρ w1 R hρ hb hp hR; have e9 : ρ (.tmp 9) = _ := hp 4 9 rfl rfl; have hcon := hρ.con; have hfn := hρ.fn; clear hρ hp; unfold OpRun; go_simp; (refine (P1.out _).mono ?_; rintro e wn ⟨b9, d9, rfl, hn9, hbn⟩; exact ⟨_, rfl, hR _ _ hbn ⟨b9, d9, rfl, hn9⟩⟩))
  case o6 => (refine StepOK.plain rfl ?_; intro ρ w1 R hρ hb hp hR; have e7 : ρ (.tmp 7) = _ := hp 2 7 rfl rfl; have f10 := hp 5 10 rfl rfl; obtain ⟨b10, d10, e10, hn10⟩ := f10; have hcon := hρ.con; have hfn := hρ.fn; clear hρ hp; unfold OpRun; go_simp; (skip; refine (TI.out _ _ _ (hN1.below hb) hn10).mono ?_; rintro e wn ⟨b9, rfl, hn9, hbn⟩; exact ⟨_, rfl, hR _ _ hbn ⟨b9, _, rfl, hn9⟩⟩))
  case o7 => (refine StepOK.plain rfl ?_; intro ρ w1 R hρ hb hp hR; have e2 : ρ (.tmp 2) = .pointer (some ⟨g2, 0, none⟩) := hρ.tmp 2 rfl; have hcon := hρ.con; have hfn := hρ.fn; clear hρ hp; unfold OpRun; go_simp; exact hR _ _ (Below.refl _ _) rfl)
  case o8 => (refine StepOK.plain rfl ?_; intro ρ w1 R hρ hb hp hR; have e12 : ρ (.tmp 12) = _ := hp 7 12 rfl rfl; obtain ⟨⟨j0, j1, -⟩, j2, -⟩ := zQ1.below hb; have hcon := hρ.con; have hfn := hρ.fn; clear hρ hp; unfold OpRun; go_simp; exact hR _ _ (Below.refl _ _) rfl)
  case o9 => (refine StepOK.plain rfl ?_; intro ρ w1 R hρ hb hp hR; have e13 : ρ (.tmp 13) = _ := hp 8 13 rfl rfl; have hcon := hρ.con; have hfn := hρ.fn; clear hρ hp; unfold OpRun; go_simp; exact hR _ _ (Below.refl _ _) rfl)
  case o10 => (refine StepOK.plain rfl ?_; intro ρ w1 R hρ hb hp hR; have f11 := hp 6 11 rfl rfl; have e14 : ρ (.tmp 14) = _ := hp 9 14 rfl rfl; obtain ⟨b11, d11, e11, hn11⟩ := f11; have hcon := hρ.con; have hfn := hρ.fn; clear hρ hp; unfold OpRun; go_simp; (skip; refine (L1.out _ _ _ hn11).mono ?_; rintro e wn ⟨b9, rfl, hn9, hbn⟩; exact ⟨_, rfl, hR _ _ hbn ⟨b9, _, rfl, hn9⟩⟩))
  case o11 => (refine StepOK.plain rfl ?_; intro ρ w1 R hρ hb hp hR; have e1 : ρ (.tmp 1) = .int .i64 t := hρ.tmp 1 rfl; have hcon := hρ.con; have hfn := hρ.fn; clear hρ hp; unfold OpRun; go_simp; exact hR _ _ (Below.refl _ _) rfl)
  case o12 => (refine StepOK.plain rfl ?_; intro ρ w1 R hρ hb hp hR; have e16 : ρ (.tmp 16) = _ := hp 11 16 rfl rfl; have hwp : IntKind.i64.wrap (-t) = -t := IntWalk.i64_in _ (by omega); have hcon := hρ.con; have hfn := hρ.fn; clear hρ hp; unfold OpRun; go_simp; exact hR _ _ (Below.refl _ _) rfl)
  case o13 => (refine StepOK.plain rfl ?_; intro ρ w1 R hρ hb hp hR; have e17 : ρ (.tmp 17) = _ := hp 12 17 rfl rfl; have hcon := hρ.con; have hfn := hρ.fn; clear hρ hp; unfold OpRun; go_simp; exact hR _ _ (Below.refl _ _) rfl)
  case o14 => (refine StepOK.plain rfl ?_; intro ρ w1 R hρ hb hp hR; have e18 : ρ (.tmp 18) = _ := hp 13 18 rfl rfl; have hcon := hρ.con; have hfn := hρ.fn; clear hρ hp; unfold OpRun; go_simp; (refine (P2.out _).mono ?_; rintro e wn ⟨b9, d9, rfl, hn9, hbn⟩; exact ⟨_, rfl, hR _ _ hbn ⟨b9, d9, rfl, hn9⟩⟩))
  case o15 => (refine StepOK.plain rfl ?_; intro ρ w1 R hρ hb hp hR; have e2 : ρ (.tmp 2) = .pointer (some ⟨g2, 0, none⟩) := hρ.tmp 2 rfl; have hcon := hρ.con; have hfn := hρ.fn; clear hρ hp; unfold OpRun; go_simp; exact hR _ _ (Below.refl _ _) rfl)
  case o16 => (refine StepOK.plain rfl ?_; intro ρ w1 R hρ hb hp hR; have e20 : ρ (.tmp 20) = _ := hp 15 20 rfl rfl; obtain ⟨⟨j0, j1, -⟩, j2, -⟩ := zQ1.below hb; have hcon := hρ.con; have hfn := hρ.fn; clear hρ hp; unfold OpRun; go_simp; exact hR _ _ (Below.refl _ _) rfl)
  case o17 => (refine StepOK.plain rfl ?_; intro ρ w1 R hρ hb hp hR; have e21 : ρ (.tmp 21) = _ := hp 16 21 rfl rfl; have hwp : IntKind.i64.wrap (-x) = -x := IntWalk.i64_in _ (by omega); have hcon := hρ.con; have hfn := hρ.fn; clear hρ hp; unfold OpRun; go_simp; exact hR _ _ (Below.refl _ _) rfl)
  case o18 => (refine StepOK.plain rfl ?_; intro ρ w1 R hρ hb hp hR; have e22 : ρ (.tmp 22) = _ := hp 17 22 rfl rfl; have hcon := hρ.con; have hfn := hρ.fn; clear hρ hp; unfold OpRun; go_simp; exact hR _ _ (Below.refl _ _) rfl)
  case o19 => (refine StepOK.plain rfl ?_; intro ρ w1 R hρ hb hp hR; have f19 := hp 14 19 rfl rfl; have e23 : ρ (.tmp 23) = _ := hp 18 23 rfl rfl; obtain ⟨b19, d19, e19, hn19⟩ := f19; have hcon := hρ.con; have hfn := hρ.fn; clear hρ hp; unfold OpRun; go_simp; (skip; refine (L2.out _ _ _ hn19).mono ?_; rintro e wn ⟨b9, rfl, hn9, hbn⟩; exact ⟨_, rfl, hR _ _ hbn ⟨b9, _, rfl, hn9⟩⟩))
  case o20 => (refine StepOK.plain rfl ?_; intro ρ w1 R hρ hb hp hR; have e5 : ρ (.tmp 5) = _ := hp 0 5 rfl rfl; have f15 := hp 10 15 rfl rfl; have f24 := hp 19 24 rfl rfl; obtain ⟨b15, d15, e15, hn15⟩ := f15; obtain ⟨b24, d24, e24, hn24⟩ := f24; have hcon := hρ.con; have hfn := hρ.fn; clear hρ hp; unfold OpRun; go_simp; exact hR _ _ (Below.refl _ _) ⟨b15, d15, b24, d24, rfl, hn15, hn24⟩)
  case o21 => (refine StepOK.plain rfl ?_; intro ρ w1 R hρ hb hp hR; have f25 := hp 20 25 rfl rfl; obtain ⟨b15, d15, b24, d24, e25, hn15, hn24⟩ := f25; have hcon := hρ.con; have hfn := hρ.fn; clear hρ hp; unfold OpRun; go_simp; exact hR _ _ (below_alloc _ _) ⟨_, rfl, rat_made _ _ _ _ _ _ _ _ _ _ _ hn15 hn24⟩)
  case o22 => (refine StepOK.plain rfl ?_; intro ρ w1 R hρ hb hp hR; have f26 := hp 21 26 rfl rfl; have hcon := hρ.con; have hfn := hρ.fn; clear hρ hp; unfold OpRun; go_simp; exact hR _ _ (Below.refl _ _) f26)
  case after =>
    intro u wn hb hf
    have f4 := hf 22 4 (by omega) rfl
    clear hf
    simp only [putAll, Act.put, List.setIfInBounds_toArray, List.set_cons_zero, List.set_cons_succ, List.drop_succ_cons, List.drop_zero, List.drop_nil]
    obtain ⟨g4, e4, hr4⟩ := f4
    rw [e4]
    go_wp2_with fail
    go_ret
    exact ⟨g4, rfl, hr4, below_trans yb1 hb⟩
end Go.Proofs.YtpgmchpdpgahfaaGreatDoor
