/- SpanSums: what the proof leans on, part 20 (Qs2 Pr1). -/
import Derived.Test.YtfphmlmgjhebjaaGreatDoorKSpanSums17
import Derived.Test.YtfphmlmgjhebjaaGreatDoorKSpanSums18
import Derived.Test.YtfphmlmgjhebjaaGreatDoorKSpanSums19
set_option linter.unusedVariables false
set_option linter.unusedSimpArgs false
namespace Go.Ulp
open Go.RowKit
theorem limbs_short (A n : Nat) (hn : A ≤ 32 * n) (M : Nat) (h : M < 2 ^ A) : (limbs M).length ≤ n :=
  (limbs_le_bits M n).2 (Nat.lt_of_lt_of_le h (Nat.pow_le_pow_right (by omega) hn))
/-- the mark -/
def stk (M t : Nat) : Nat := 4 * (M / 2 ^ t) + (if M % 2 ^ t = 0 then 0 else 1)
theorem grid_cmp (g Q P r1 r2 : Nat) (h1 : r1 < P) (h2 : r2 < P) (h0 : r1 = 0 ↔ r2 = 0) : cmpI ((g * P : Nat) : Int) ((Q * P + r1 : Nat) : Int) = cmpI ((g * P : Nat) : Int) ((Q * P + r2 : Nat) : Int) := by
  have hc : g < Q ∨ g = Q ∨ Q < g := by omega
  rcases hc with h | h | h
  · have : g * P + P ≤ Q * P := by rw [← Nat.succ_mul]; exact Nat.mul_le_mul_right P h
    rw [cmpI_l (by omega), cmpI_l (by omega)]
  · subst h
    by_cases hz : r1 = 0
    · rw [hz, h0.1 hz]
    · have : r2 ≠ 0 := fun h => hz (h0.2 h)
      rw [cmpI_l (by omega), cmpI_l (by omega)]
  · have : Q * P + P ≤ g * P := by rw [← Nat.succ_mul]; exact Nat.mul_le_mul_right P h
    rw [cmpI_g (by omega), cmpI_g (by omega)]
theorem low_cmp (b Q P r1 r2 : Nat) (h : b < Q * P) : cmpI (b : Int) ((Q * P + r1 : Nat) : Int) = cmpI (b : Int) ((Q * P + r2 : Nat) : Int) := by
  rw [cmpI_l (by omega), cmpI_l (by omega)]
/-- a number of few places against both -/
theorem stk_cmp (B f M t E F : Nat) (hB : B ≤ 18014398509481984) (hM : 1152921504606846976 ≤ M / 2 ^ t) (hF : F + 2 = E + t) :
    cmpI ((B * 2 ^ f : Nat) : Int) ((M * 2 ^ E : Nat) : Int) = cmpI ((B * 2 ^ f : Nat) : Int) ((stk M t * 2 ^ F : Nat) : Int) := by
  have hdm := Nat.div_add_mod M (2 ^ t)
  have hr := Nat.mod_lt M (Nat.two_pow_pos t)
  unfold stk
  obtain ⟨Q, hQ⟩ : ∃ Q, Q = M / 2 ^ t := ⟨_, rfl⟩
  obtain ⟨R, hR⟩ : ∃ R, R = M % 2 ^ t := ⟨_, rfl⟩
  rw [← hQ] at hM hdm ⊢
  rw [← hR] at hr hdm ⊢
  have hP : 2 ^ (E + t) = 2 ^ E * 2 ^ t := Nat.pow_add _ _ _
  have hP2 : 2 ^ (E + t) = 2 ^ F * 4 := by rw [← hF, Nat.pow_add]
  have e1 : M * 2 ^ E = Q * 2 ^ (E + t) + R * 2 ^ E := by
    rw [← hdm, Nat.add_mul, hP, Nat.mul_comm (2 ^ t) Q, Nat.mul_assoc, Nat.mul_comm (2 ^ t) (2 ^ E)]
  have e2 : (4 * Q + (if R = 0 then 0 else 1)) * 2 ^ F = Q * 2 ^ (E + t) + (if R = 0 then 0 else 1) * 2 ^ F := by
    rw [Nat.add_mul, hP2, Nat.mul_comm 4 Q, Nat.mul_assoc, Nat.mul_comm 4 (2 ^ F)]
  have p1 : 0 < 2 ^ E := Nat.two_pow_pos E
  have p2 : 0 < 2 ^ F := Nat.two_pow_pos F
  have r1 : R * 2 ^ E < 2 ^ (E + t) := by
    rw [hP, Nat.mul_comm (2 ^ E)]; exact Nat.mul_lt_mul_of_pos_right hr p1
  have r2 : (if R = 0 then 0 else 1) * 2 ^ F < 2 ^ (E + t) := by
    rw [hP2]; split <;> omega
  have r0 : R * 2 ^ E = 0 ↔ (if R = 0 then 0 else 1) * 2 ^ F = 0 := by
    by_cases h : R = 0
    · subst h; simp
    · have := Nat.mul_pos (Nat.pos_of_ne_zero h) p1
      rw [if_neg h]; omega
  rw [e1, e2]
  by_cases hf : E + t ≤ f
  · have e3 : B * 2 ^ f = B * 2 ^ (f - (E + t)) * 2 ^ (E + t) := by rw [Nat.mul_assoc, ← Nat.pow_add]; congr 2; omega
    rw [e3]
    exact grid_cmp _ _ _ _ _ r1 r2 r0
  · refine low_cmp _ _ _ _ _ ?_
    have h1 : 2 ^ f ≤ 2 ^ (E + t) := Nat.pow_le_pow_right (by omega) (by omega)
    have h2 : B * 2 ^ f ≤ 18014398509481984 * 2 ^ (E + t) := Nat.mul_le_mul hB h1
    have h3 : 1152921504606846976 * 2 ^ (E + t) ≤ Q * 2 ^ (E + t) := Nat.mul_le_mul_right _ hM
    have h4 : 0 < 2 ^ (E + t) := Nat.two_pow_pos _
    omega
theorem cmpI_mixed (a : Nat) (b : Nat) (n m : Bool) (hb : 0 < b) (h : n ≠ m) : cmpI (sg n (a : Int)) (sg m (b : Int)) = if m = true then 1 else -1 := by
  cases n <;> cases m
  · exact absurd rfl h
  · show cmpI (a : Int) (-(b : Int)) = 1
    exact cmpI_g (by omega)
  · show cmpI (-(a : Int)) (b : Int) = -1
    exact cmpI_l (by omega)
  · exact absurd rfl h
theorem sgn_cmp (a b c : Nat) (n m : Bool) (hb : 0 < b) (hc : 0 < c) (h : cmpI (a : Int) (b : Int) = cmpI (a : Int) (c : Int)) : cmpI (sg n (a : Int)) (sg m (b : Int)) = cmpI (sg n (a : Int)) (sg m (c : Int)) := by
  by_cases hn : n = m
  · subst hn
    cases n
    · exact h
    · show cmpI (-(a : Int)) (-(b : Int)) = cmpI (-(a : Int)) (-(c : Int))
      rw [cmpI_neg_neg, cmpI_neg_neg, h]
  · rw [cmpI_mixed a b n m hb hn, cmpI_mixed a c n m hc hn]
theorem stk_pos (M t : Nat) (h : 1152921504606846976 ≤ M / 2 ^ t) : 0 < stk M t ∧ 0 < M := by
  have h1 := Nat.div_le_self M (2 ^ t)
  unfold stk; omega
theorem sg_dbl (n : Bool) (a : Nat) (E : Nat) : 2 * sg n ((a * 2 ^ E : Nat) : Int) = sg n ((a * 2 ^ (E + 1) : Nat) : Int) := by
  rw [Nat.pow_succ, ← Nat.mul_assoc]
  cases n
  · show 2 * ((a * 2 ^ E : Nat) : Int) = ((a * 2 ^ E * 2 : Nat) : Int); omega
  · show 2 * -((a * 2 ^ E : Nat) : Int) = -((a * 2 ^ E * 2 : Nat) : Int); omega
/-- with the mark it is rounded as without -/
theorem stk_num (neg : Bool) (M t : Nat) (x mode : Int) (m0 : 0 ≤ mode) (m1 : mode ≤ 4) (hM : 1152921504606846976 ≤ M / 2 ^ t) :
    numX neg (stk M t) (x + t - 2) mode = numX neg M x mode ∧ numC neg (stk M t) (x + t - 2) mode = numC neg M x mode := by
  obtain ⟨p1, p2⟩ := stk_pos M t hM
  obtain ⟨s, hs⟩ : ∃ s : Nat, (s : Int) = max 0 (2 - x) := ⟨(max 0 (2 - x)).toNat, by omega⟩
  have a := number_rnd neg M x mode s m0 m1 (fun h => by omega) (by omega)
  have b := number_rnd neg (stk M t) (x + t - 2) mode s m0 m1 (fun h => by omega) (by omega)
  obtain ⟨E, hE⟩ : ∃ E, E = (x + 1074 + s).toNat := ⟨_, rfl⟩
  obtain ⟨F, hF⟩ : ∃ F, F = (x + t - 2 + 1074 + s).toNat := ⟨_, rfl⟩
  have hEF : F + 2 = E + t := by omega
  rw [← hE] at a
  rw [← hF] at b
  have q1 : 0 < M * 2 ^ E := Nat.mul_pos p2 (Nat.two_pow_pos _)
  have q2 : 0 < stk M t * 2 ^ F := Nat.mul_pos p1 (Nat.two_pow_pos _)
  have q3 : 0 < M * 2 ^ (E + 1) := Nat.mul_pos p2 (Nat.two_pow_pos _)
  have q4 : 0 < stk M t * 2 ^ (F + 1) := Nat.mul_pos p1 (Nat.two_pow_pos _)
  have a2 : Rnd s (sg neg ((stk M t * 2 ^ F : Nat) : Int)) mode (numX neg M x mode) (numC neg M x mode) := by
    refine a.same (fun r => ?_) (fun r => ?_) ?_
    · obtain ⟨q, h, n, hq, hb⟩ := rT_rep s r
      unfold cR
      rw [hq]
      exact sgn_cmp _ _ _ n neg q1 q2 (stk_cmp q (h + s) M t E F (by omega) hM hEF)
    · obtain ⟨q, h, n, hq, hb⟩ := rT_mid_rep s r
      unfold cM
      rw [hq, sg_dbl, sg_dbl, cmpI_swap, cmpI_swap (sg neg ((stk M t * 2 ^ (F + 1) : Nat) : Int))]
      congr 1
      exact sgn_cmp _ _ _ n neg q3 q4 (stk_cmp (2 * q + 1) (h + s) M t (E + 1) (F + 1) (by omega) hM (by omega))
    · cases neg
      · rw [cmpI_g (show (0 : Int) < sg false ((M * 2 ^ E : Nat) : Int) by show (0 : Int) < ((M * 2 ^ E : Nat) : Int); omega), cmpI_g (show (0 : Int) < sg false ((stk M t * 2 ^ F : Nat) : Int) by show (0 : Int) < ((stk M t * 2 ^ F : Nat) : Int); omega)]
      · rw [cmpI_l (show sg true ((M * 2 ^ E : Nat) : Int) < (0 : Int) by show -((M * 2 ^ E : Nat) : Int) < 0; omega), cmpI_l (show sg true ((stk M t * 2 ^ F : Nat) : Int) < (0 : Int) by show -((stk M t * 2 ^ F : Nat) : Int) < 0; omega)]
  exact b.uniq a2
/-- the quotient's two floors -/
theorem floor_two (m d K : Nat) (t : Nat) (hd : 0 < d) : m * 2 ^ K / d = m * 2 ^ (K + t) / d / 2 ^ t := by
  rw [Nat.div_div_eq_div_mul, Nat.pow_add, ← Nat.mul_assoc, Nat.mul_div_mul_right _ _ (Nat.two_pow_pos t)]
/-- the program's mark and the reference's: what a division leaves -/
def qst (m d K : Nat) : Nat := 4 * (m * 2 ^ K / d) + (if m * 2 ^ K % d = 0 then 0 else 1)
theorem qst_two (m d K t : Nat) (hd : 0 < d) : qst m d K = stk (qst m d (K + t)) (t + 2) := by
  obtain ⟨A, hA⟩ : ∃ A, A = m * 2 ^ K := ⟨_, rfl⟩
  have hA2 : m * 2 ^ (K + t) = A * 2 ^ t := by rw [hA, Nat.pow_add, Nat.mul_assoc]
  unfold qst stk
  rw [← hA, hA2]
  obtain ⟨l, hl⟩ : ∃ l, l = (if A * 2 ^ t % d = 0 then 0 else 1) := ⟨_, rfl⟩
  rw [← hl]
  obtain ⟨H, hH⟩ : ∃ H, H = A * 2 ^ t / d := ⟨_, rfl⟩
  have hdm := Nat.div_add_mod (A * 2 ^ t) d
  rw [← hH] at hdm ⊢
  have hl2 : l ≤ 1 := by rw [hl]; split <;> omega
  have e1 : (4 * H + l) / 2 ^ (t + 2) = A / d := by
    rw [show 2 ^ (t + 2) = 4 * 2 ^ t by rw [Nat.pow_add]; omega, ← Nat.div_div_eq_div_mul, show (4 * H + l) / 4 = H by omega, hH, Nat.div_div_eq_div_mul, Nat.mul_div_mul_right _ _ (Nat.two_pow_pos t)]
  have p := Nat.two_pow_pos t
  have e2 : (4 * H + l) % 2 ^ (t + 2) = 0 ↔ A % d = 0 := by
    rw [show 2 ^ (t + 2) = 4 * 2 ^ t by rw [Nat.pow_add]; omega]
    constructor
    · intro h
      have h1 : (4 * H + l) % 4 = 0 := by
        have := Nat.mod_mul_right_mod (4 * H + l) 4 (2 ^ t)
        rw [h] at this; omega
      have l0 : l = 0 := by omega
      have hz : A * 2 ^ t % d = 0 := by
        rw [hl] at l0
        by_cases hh : A * 2 ^ t % d = 0
        · exact hh
        · rw [if_neg hh] at l0; omega
      rw [l0, Nat.add_zero, Nat.mul_mod_mul_left] at h
      have h2 : H % 2 ^ t = 0 := by omega
      have h3 := Nat.div_add_mod H (2 ^ t)
      rw [h2, Nat.add_zero] at h3
      have h4 : A * 2 ^ t = d * (H / 2 ^ t) * 2 ^ t := by
        rw [Nat.mul_assoc, Nat.mul_comm (H / 2 ^ t), h3]; omega
      have h5 : A = d * (H / 2 ^ t) := Nat.eq_of_mul_eq_mul_right p h4
      rw [h5, Nat.mul_mod_right]
    · intro h
      have h1 := Nat.div_add_mod A d
      rw [h, Nat.add_zero] at h1
      have h2 : A * 2 ^ t = d * (A / d * 2 ^ t) := by rw [← Nat.mul_assoc, h1]
      have h3 : A * 2 ^ t % d = 0 := by rw [h2, Nat.mul_mod_right]
      rw [hl, if_pos h3, hH, h2, Nat.mul_div_cancel_left _ hd, Nat.add_zero, Nat.mul_mod_mul_left, Nat.mul_mod_left]
  rw [e1]
  congr 1
  by_cases h : A % d = 0
  · rw [if_pos h, if_pos (e2.2 h)]
  · rw [if_neg h, if_neg (fun h9 => h (e2.1 h9))]
end Go.Ulp
set_option linter.unusedVariables false
set_option linter.unusedSimpArgs false
namespace Go.Ulp
open Go.RowKit
end Go.Ulp
namespace Go.Proofs.YtfphmlmgjhebjaaGreatDoor
open Go.RowKit Go.Ulp
set_option linter.unusedVariables false
set_option linter.unusedSimpArgs false
set_option maxHeartbeats 4000000
set_option maxRecDepth 100000
theorem sticky_any (neg lost : Bool) (a0 : Option Addr) (c0 q : Nat) (x : Int) (w : World) (h0 : Ns .u32 w a0 c0 (limbs q)) (hq : (limbs q).length ≤ 100000) (hx : -1000000 ≤ x ∧ x ≤ 1000000) :
    Calls Tryz.prog 178 #[.bool neg, .slice a0 (limbs q).length c0, .bool lost, .int .i64 x] w (RetDy w neg (4 * q + if lost = true then 1 else 0) (x - 2)) := by
  have l4 := limbs_len_mul q 4 100000 100000 hq (Nat.le_trans (limbs_short 3 2 (by omega) 4 (by decide)) (by omega))
  have LE := hid (show ∀ w, Ns .u32 w a0 c0 (limbs q) → Calls Tryz.prog 172 #[.slice a0 (limbs q).length c0, .int .i64 2] w fun e w' => RetN w (4 * q) e w' from fun w h => by
    have h9 := leftN_any a0 c0 q 2 w h (by omega) (by omega)
    rw [show q * 2 ^ 2 = 4 * q by omega] at h9
    exact h9)
  rw [Nat.mul_comm q 4] at l4
  have OF := hid (show ∀ w, Calls Tryz.prog 95 #[.int .u64 1] w fun e w' => RetN w 1 e w' from fun w => natOf_any 1 (by omega) w)
  have PL := hid (fun a0 a1 c0 c1 w h0 h1 => plus_any a0 a1 c0 c1 (4 * q) 1 w h0 h1 (by omega) (Nat.le_trans (limbs_short 3 2 (by omega) 1 (by decide)) (by omega)))
  have hw : IntKind.i64.wrap (x - 2) = x - 2 := IntWalk.i64_in _ (by omega)
  have H0 := hid h0
  have hcap := h0.1
  have hcap2 := h0.2.1
  unfold maxLen at hcap2
  have zR0 : QL 67 (w.alloc (.cells #[.bool false, .slice none 0 0, .int .i64 0] 67)) w.heap.size false (.slice none 0 0) 0 := QL.made rfl
  have yb0 := below_alloc w (.cells #[.bool false, .slice none 0 0, .int .i64 0] 67)
  obtain ⟨M4, hM4⟩ : ∃ M, M = 4 * q := ⟨_, rfl⟩
  rw [← hM4] at LE PL l4 ⊢
  clear hM4 h0
  cases lost
  · go_enter Tryz.func178, Tryz.ntmps178
    go_upto_region 2 with (go_at_call 172; (with_reducible refine (LE.out _ (H0.out.below yb0)).mono ?_); rintro en w1 ⟨a1, rfl, hN1, hb1⟩)
    have zR := zR0.below hb1
    obtain ⟨⟨k0, k1, f0, f1, hs2⟩, k2, f2⟩ := id zR
    have yb1 := below_trans yb0 hb1
    go_wp2_with fail
    refine bodyPost_ret (by simp [results, Tryz.results178, go_sem, k0, k1, k2]; try rfl) rfl ?_
    exact ⟨a1, _, rfl, hN1.set3 zR (by intro x h; cases h) _ _ _, ((yb1.setCell (by first | omega | (simp; done) | (simp; omega)) _).setCell (by first | omega | (simp; done) | (simp; omega)) _).setCell (by first | omega | (simp; done) | (simp; omega)) _⟩
  · go_enter Tryz.func178, Tryz.ntmps178
    go_upto_region 2 with (go_at_call 172; (with_reducible refine (LE.out _ (H0.out.below yb0)).mono ?_); rintro en w1 ⟨a1, rfl, hN1, hb1⟩)
    have HN1 := hid hN1
    go_upto_region 4 with (first
      | (go_at_call 95; (with_reducible refine (OF.out _).mono ?_); rintro en w2 ⟨a2, rfl, hN2, hb2⟩)
      | (go_at_call 163; (with_reducible refine (PL.out _ _ _ _ _ (HN1.out.below hb2) hN2).mono ?_); rintro en w3 ⟨a3, rfl, hN3, hb3⟩))
    have yb1 := below_trans (below_trans (below_trans yb0 hb1) hb2) hb3
    have zR := ((zR0.below hb1).below hb2).below hb3
    obtain ⟨⟨k0, k1, f0, f1, hs2⟩, k2, f2⟩ := id zR
    go_wp2_with fail
    refine bodyPost_ret (by simp [results, Tryz.results178, go_sem, k0, k1, k2]; try rfl) rfl ?_
    exact ⟨a3, _, rfl, hN3.set3 zR (by intro x h; cases h) _ _ _, ((yb1.setCell (by first | omega | (simp; done) | (simp; omega)) _).setCell (by first | omega | (simp; done) | (simp; omega)) _).setCell (by first | omega | (simp; done) | (simp; omega)) _⟩
end Go.Proofs.YtfphmlmgjhebjaaGreatDoor
set_option linter.unusedVariables false
set_option linter.unusedSimpArgs false
namespace Go.Ulp
open Go.RowKit
def Fact.nn (q r : Nat) : Fact := ⟨fun v w => ∃ ao c bo d, v = .tuple #[.slice ao (limbs q).length c, .slice bo (limbs r).length d] ∧ Ns .u32 w ao c (limbs q) ∧ Ns .u32 w bo d (limbs r), fun _ _ _ h hb => by
  obtain ⟨ao, c, bo, d, h1, h2, h3⟩ := h
  exact ⟨ao, c, bo, d, h1, h2.below hb, h3.below hb⟩⟩
/-- by how much the program shifts -/
def rK (M N : Nat) : Nat := (max (0 : Int) (80 + bl N - bl M)).toNat
theorem rK_max (M N : Nat) : max (0 : Int) (80 + bl N - bl M) = (rK M N : Int) := by unfold rK; omega
end Go.Ulp
namespace Go.Proofs.YtfphmlmgjhebjaaGreatDoor
open Go.RowKit Go.Ulp
set_option linter.unusedVariables false
set_option linter.unusedSimpArgs false
set_option maxHeartbeats 4000000
set_option maxRecDepth 100000
theorem ratio_any (n0 n1 : Bool) (am bm : Option Addr) (cm dm M N : Nat) (e0 e1 : Int) (w : World) (hN : Ns .u32 w am cm (limbs M)) (hM : Ns .u32 w bm dm (limbs N)) (m1 : M < 2 ^ 53) (m2 : N < 2 ^ 53) (m3 : 0 < N) (he0 : -10000 ≤ e0 ∧ e0 ≤ 10000) (he1 : -10000 ≤ e1 ∧ e1 ≤ 10000) :
    Calls Tryz.prog 103 #[.agg #[.bool n0, .slice am (limbs M).length cm, .int .i64 e0], .agg #[.bool n1, .slice bm (limbs N).length dm, .int .i64 e1]] w (RetDy w (n0 != n1) (qst M N (rK M N)) (e0 - e1 - (rK M N : Int) - 2)) := by
  have HN := hid hN
  have HM := hid hM
  have hcap := hN.1
  have hcap2 := hN.2.1
  have hdap := hM.1
  have hdap2 := hM.2.1
  unfold maxLen at hcap2 hdap2
  have lM := limbs_short 53 2 (by omega) M m1
  have lN := limbs_short 53 2 (by omega) N m2
  have b1 := (bl_le M 53).2 m1
  have b2 := (bl_le N 53).2 m2
  have LM := hid (fun w h => natLen_any am cm M w h (by omega))
  have LN := hid (fun w h => natLen_any bm dm N w h (by omega))
  obtain ⟨K, hK⟩ : ∃ K, K = rK M N := ⟨_, rfl⟩
  have hmx := rK_max M N
  rw [← hK] at hmx ⊢
  have hKb : K ≤ 133 := by omega
  obtain ⟨A, hA⟩ : ∃ A, A = M * 2 ^ K := ⟨_, rfl⟩
  have hAb : A < 2 ^ 200 := by
    rw [hA]
    have h := Nat.mul_lt_mul_of_pos_right m1 (Nat.two_pow_pos K)
    rw [← Nat.pow_add] at h
    exact Nat.lt_of_lt_of_le h (Nat.pow_le_pow_right (by omega) (by omega))
  have lA := limbs_short 200 10 (by omega) A hAb
  have LE := hid (show ∀ w, Ns .u32 w am cm (limbs M) → Calls Tryz.prog 172 #[.slice am (limbs M).length cm, .int .i64 (K : Int)] w fun e w' => RetN w A e w' from fun w h => by
    rw [hA]; exact leftN_any am cm M K w h (by omega) (by omega))
  obtain ⟨q, hq⟩ : ∃ q, q = A / N := ⟨_, rfl⟩
  obtain ⟨r, hr⟩ : ∃ r, r = A % N := ⟨_, rfl⟩
  have hqA : q ≤ A := by rw [hq]; exact Nat.div_le_self _ _
  have lq := limbs_short 200 10 (by omega) q (by omega)
  have OV := hid (show ∀ a c w, Ns .u32 w a c (limbs A) → Ns .u32 w bm dm (limbs N) → Calls Tryz.prog 177 #[.slice a (limbs A).length c, .slice bm (limbs N).length dm] w fun e w' => RetNN w q r e w' from fun a c w h0 h1 => by
    rw [hq, hr]; exact over_any a bm c dm A N w h0 h1 (by omega) m3)
  have hQ9 : (4 * q + if decide (0 < (limbs r).length) = true then 1 else 0) = qst M N K := by
    unfold qst
    rw [← hA, ← hq, ← hr]
    congr 1
    by_cases h : r = 0
    · rw [if_pos h, h, limbs_zero]; rfl
    · have h2 : 0 < (limbs r).length := by
        rcases Nat.eq_zero_or_pos (limbs r).length with h9 | h9
        · exact absurd ((limbs_nil r).1 (List.length_eq_zero_iff.1 h9)) h
        · exact h9
      rw [if_neg h, decide_eq_true h2, if_pos rfl]
  have ST := hid (show ∀ a c w, Ns .u32 w a c (limbs q) → Calls Tryz.prog 178 #[.bool (!(n0 == n1)), .slice a (limbs q).length c, .bool (decide (0 < (limbs r).length)), .int .i64 (e0 - e1 - (K : Int))] w (RetDy w (n0 != n1) (qst M N K) (e0 - e1 - (K : Int) - 2)) from fun a c w h => by
    have h9 := sticky_any (!(n0 == n1)) (decide (0 < (limbs r).length)) a c q (e0 - e1 - (K : Int)) w h (by omega) (by omega)
    rw [hQ9] at h9; exact h9)
  obtain ⟨X, hX⟩ : ∃ X, X = qst M N K := ⟨_, rfl⟩
  rw [← hX] at ST ⊢
  have lr : (limbs r).length ≤ 10 := limbs_short 200 10 (by omega) r (by have := Nat.mod_le A N; omega)
  have w1 : IntKind.i64.wrap (80 + (bl N : Int)) = 80 + (bl N : Int) := IntWalk.i64_in _ (by omega)
  have w2 : IntKind.i64.wrap (80 + (bl N : Int) - (bl M : Int)) = 80 + (bl N : Int) - (bl M : Int) := IntWalk.i64_in _ (by omega)
  have w3 : IntKind.i64.wrap (e0 - e1) = e0 - e1 := IntWalk.i64_in _ (by omega)
  have w4 : IntKind.i64.wrap (e0 - e1 - (K : Int)) = e0 - e1 - (K : Int) := IntWalk.i64_in _ (by omega)
  generalize bl M = bM at *
  generalize bl N = bN at *
  clear hN hM hK hA hq hr hqA hAb m1 m2 m3 hQ9 hX
  have zA : QL 67 (((w.alloc (.cells #[.bool n0, .slice am (limbs M).length cm, .int .i64 e0] 67)).alloc (.cells #[.bool n1, .slice bm (limbs N).length dm, .int .i64 e1] 67)).alloc (.cells #[.bool false, .slice none 0 0, .int .i64 0] 67)) w.heap.size n0 (.slice am (limbs M).length cm) e0 := ((QL.made rfl).alloc _).alloc _
  have zB : QL 67 (((w.alloc (.cells #[.bool n0, .slice am (limbs M).length cm, .int .i64 e0] 67)).alloc (.cells #[.bool n1, .slice bm (limbs N).length dm, .int .i64 e1] 67)).alloc (.cells #[.bool false, .slice none 0 0, .int .i64 0] 67)) (w.heap.size + 1) n1 (.slice bm (limbs N).length dm) e1 := (QL.made (by first | omega | (simp; done) | (simp; omega))).alloc _
  have zR0 : QL 67 (((w.alloc (.cells #[.bool n0, .slice am (limbs M).length cm, .int .i64 e0] 67)).alloc (.cells #[.bool n1, .slice bm (limbs N).length dm, .int .i64 e1] 67)).alloc (.cells #[.bool false, .slice none 0 0, .int .i64 0] 67)) (w.heap.size + 1 + 1) false (.slice none 0 0) 0 := QL.made (by first | omega | (simp; done) | (simp; omega))
  have yb0 : Below w.heap.size w (((w.alloc (.cells #[.bool n0, .slice am (limbs M).length cm, .int .i64 e0] 67)).alloc (.cells #[.bool n1, .slice bm (limbs N).length dm, .int .i64 e1] 67)).alloc (.cells #[.bool false, .slice none 0 0, .int .i64 0] 67)) := by (repeat' (first | (with_reducible assumption) | (with_reducible exact Below.refl _ _) | (with_reducible refine below_al ?_ _) | (with_reducible refine below_drewN ?_ _) | (with_reducible refine Below.drew ?_) | (with_reducible refine Below.alloc ?_ ?_ _) | (with_reducible refine Below.setCell ?_ ?_ _) | (refine below_trans ?_ (by assumption)) | go_size))
  go_enter Tryz.func103, Tryz.ntmps103
  go_upto_region 1 with fail
  refine wp_region_grow 10 [8, 9, 10, 11, 12, 13, 14, 15, 16, 5] [Fact.is (.pointer (some ⟨w.heap.size + 1, 1, none⟩)), Fact.is (.slice bm (limbs N).length dm), Fact.is (.int .i64 (bN : Int)), Fact.is (.int .i64 (80 + (bN : Int))), Fact.is (.pointer (some ⟨w.heap.size, 1, none⟩)), Fact.is (.slice am (limbs M).length cm), Fact.is (.int .i64 (bM : Int)), Fact.is (.int .i64 (80 + (bN : Int) - (bM : Int))), Fact.is (.int .i64 (K : Int)), Fact.is (.int .i64 (K : Int))] (by kernel_rfl) (by kernel_rfl) ⟨?o0, ?o1, ?o2, ?o3, ?o4, ?o5, ?o6, ?o7, ?o8, ?o9, trivial⟩ ?after
  case o0 => (refine StepOK.plain rfl ?_; intro ρ w1 R hρ hb hp hR; have e3 : ρ (.tmp 3) = .pointer (some ⟨w.heap.size + 1, 0, none⟩) := hρ.tmp 3 rfl; have hcon := hρ.con; have hfn := hρ.fn; clear hρ hp; unfold OpRun; go_simp; exact hR _ _ (Below.refl _ _) rfl)
  case o1 => (refine StepOK.plain rfl ?_; intro ρ w1 R hρ hb hp hR; have e8 : ρ (.tmp 8) = _ := hp 0 8 rfl rfl; obtain ⟨⟨j0, j1, -, -, -⟩, j2, -⟩ := zB.below hb; have hcon := hρ.con; have hfn := hρ.fn; clear hρ hp; unfold OpRun; go_simp; exact hR _ _ (Below.refl _ _) rfl)
  case o2 => (refine StepOK.plain rfl ?_; intro ρ w1 R hρ hb hp hR; have e9 : ρ (.tmp 9) = _ := hp 1 9 rfl rfl; have hcon := hρ.con; have hfn := hρ.fn; clear hρ hp; unfold OpRun; go_simp; (refine (LN.out _ (HM.out.below (below_trans yb0 hb))).mono ?_; rintro e wn ⟨rfl, rfl⟩; exact ⟨_, rfl, hR _ _ (Below.refl _ _) rfl⟩))
  case o3 => (refine StepOK.plain rfl ?_; intro ρ w1 R hρ hb hp hR; have e10 : ρ (.tmp 10) = _ := hp 2 10 rfl rfl; have hcon := hρ.con; have hfn := hρ.fn; clear hρ hp; unfold OpRun; go_simp; exact hR _ _ (Below.refl _ _) rfl)
  case o4 => (refine StepOK.plain rfl ?_; intro ρ w1 R hρ hb hp hR; have e2 : ρ (.tmp 2) = .pointer (some ⟨w.heap.size, 0, none⟩) := hρ.tmp 2 rfl; have hcon := hρ.con; have hfn := hρ.fn; clear hρ hp; unfold OpRun; go_simp; exact hR _ _ (Below.refl _ _) rfl)
  case o5 => (refine StepOK.plain rfl ?_; intro ρ w1 R hρ hb hp hR; have e12 : ρ (.tmp 12) = _ := hp 4 12 rfl rfl; obtain ⟨⟨j0, j1, -, -, -⟩, j2, -⟩ := zA.below hb; have hcon := hρ.con; have hfn := hρ.fn; clear hρ hp; unfold OpRun; go_simp; exact hR _ _ (Below.refl _ _) rfl)
  case o6 => (refine StepOK.plain rfl ?_; intro ρ w1 R hρ hb hp hR; have e13 : ρ (.tmp 13) = _ := hp 5 13 rfl rfl; have hcon := hρ.con; have hfn := hρ.fn; clear hρ hp; unfold OpRun; go_simp; (refine (LM.out _ (HN.out.below (below_trans yb0 hb))).mono ?_; rintro e wn ⟨rfl, rfl⟩; exact ⟨_, rfl, hR _ _ (Below.refl _ _) rfl⟩))
  case o7 => (refine StepOK.plain rfl ?_; intro ρ w1 R hρ hb hp hR; have e11 : ρ (.tmp 11) = _ := hp 3 11 rfl rfl; have e14 : ρ (.tmp 14) = _ := hp 6 14 rfl rfl; have hcon := hρ.con; have hfn := hρ.fn; clear hρ hp; unfold OpRun; go_simp; exact hR _ _ (Below.refl _ _) rfl)
  case o8 => (refine StepOK.plain rfl ?_; intro ρ w1 R hρ hb hp hR; have e15 : ρ (.tmp 15) = _ := hp 7 15 rfl rfl; have hcon := hρ.con; have hfn := hρ.fn; clear hρ hp; unfold OpRun; go_simp; exact hR _ _ (Below.refl _ _) rfl)
  case o9 => (refine StepOK.plain rfl ?_; intro ρ w1 R hρ hb hp hR; have e16 : ρ (.tmp 16) = _ := hp 8 16 rfl rfl; have hcon := hρ.con; have hfn := hρ.fn; clear hρ hp; unfold OpRun; go_simp; exact hR _ _ (Below.refl _ _) rfl)
  case after =>
    intro u wn hb hf
    have e5 : u 5 = _ := hf 9 5 (by omega) rfl
    clear hf
    simp only [putAll, Act.put, List.setIfInBounds_toArray, List.set_cons_zero, List.set_cons_succ, List.drop_succ_cons, List.drop_zero, List.drop_nil]
    rw [e5]
    have zA1 := zA.below hb
    have zB1 := zB.below hb
    have zR1 := zR0.below hb
    have yb1 := below_trans yb0 hb
    have HN1 := hid (HN.out.below yb1)
    have HM1 := hid (HM.out.below yb1)
    obtain ⟨W1, hW1⟩ : ∃ W, W = wn := ⟨_, rfl⟩
    subst hW1
    clear zA zB zR0 yb0 hb HN HM LM LN w1 w2 hmx
    go_upto_region 2 with fail
    refine wp_region_grow 12 [18, 19, 20, 21, 22, 23, 24, 17, 25, 26, 6, 7] [Fact.is (.pointer (some ⟨w.heap.size, 1, none⟩)), Fact.is (.slice am (limbs M).length cm), Fact.is (.int .i64 (K : Int)), Fact.li A, Fact.is (.pointer (some ⟨w.heap.size + 1, 1, none⟩)), Fact.is (.slice bm (limbs N).length dm), Fact.nn q r, Fact.nn q r, Fact.li q, Fact.li r, Fact.li q, Fact.li r] (by kernel_rfl) (by kernel_rfl) ⟨?o0, ?o1, ?o2, ?o3, ?o4, ?o5, ?o6, ?o7, ?o8, ?o9, ?o10, ?o11, trivial⟩ ?after
    case o0 => (refine StepOK.plain rfl ?_; intro ρ w1 R hρ hb hp hR; have e2 : ρ (.tmp 2) = .pointer (some ⟨w.heap.size, 0, none⟩) := hρ.tmp 2 rfl; have hcon := hρ.con; have hfn := hρ.fn; clear hρ hp; unfold OpRun; go_simp; exact hR _ _ (Below.refl _ _) rfl)
    case o1 => (refine StepOK.plain rfl ?_; intro ρ w1 R hρ hb hp hR; have e18 : ρ (.tmp 18) = _ := hp 0 18 rfl rfl; obtain ⟨⟨j0, j1, -, -, -⟩, j2, -⟩ := zA1.below hb; have hcon := hρ.con; have hfn := hρ.fn; clear hρ hp; unfold OpRun; go_simp; exact hR _ _ (Below.refl _ _) rfl)
    case o2 => (refine StepOK.plain rfl ?_; intro ρ w1 R hρ hb hp hR; have e5 : ρ (.tmp 5) = .int .i64 (K : Int) := hρ.tmp 5 rfl; have hcon := hρ.con; have hfn := hρ.fn; clear hρ hp; unfold OpRun; go_simp; exact hR _ _ (Below.refl _ _) rfl)
    case o3 => (refine StepOK.plain rfl ?_; intro ρ w1 R hρ hb hp hR; have e19 : ρ (.tmp 19) = _ := hp 1 19 rfl rfl; have e20 : ρ (.tmp 20) = _ := hp 2 20 rfl rfl; have hcon := hρ.con; have hfn := hρ.fn; clear hρ hp; unfold OpRun; go_simp; (refine (LE.out _ (HN1.out.below hb)).mono ?_; rintro e wn ⟨a9, rfl, hn9, hbn⟩; exact ⟨_, rfl, hR _ _ hbn ⟨a9, _, rfl, hn9⟩⟩))
    case o4 => (refine StepOK.plain rfl ?_; intro ρ w1 R hρ hb hp hR; have e3 : ρ (.tmp 3) = .pointer (some ⟨w.heap.size + 1, 0, none⟩) := hρ.tmp 3 rfl; have hcon := hρ.con; have hfn := hρ.fn; clear hρ hp; unfold OpRun; go_simp; exact hR _ _ (Below.refl _ _) rfl)
    case o5 => (refine StepOK.plain rfl ?_; intro ρ w1 R hρ hb hp hR; have e22 : ρ (.tmp 22) = _ := hp 4 22 rfl rfl; obtain ⟨⟨j0, j1, -, -, -⟩, j2, -⟩ := zB1.below hb; have hcon := hρ.con; have hfn := hρ.fn; clear hρ hp; unfold OpRun; go_simp; exact hR _ _ (Below.refl _ _) rfl)
    case o6 => (refine StepOK.plain rfl ?_; intro ρ w1 R hρ hb hp hR; have f21 := hp 3 21 rfl rfl; have e23 : ρ (.tmp 23) = _ := hp 5 23 rfl rfl; obtain ⟨a9, c9, e21, hn9⟩ := f21; have hcon := hρ.con; have hfn := hρ.fn; clear hρ hp; unfold OpRun; go_simp; (skip; refine (OV.out _ _ _ hn9 (HM1.out.below hb)).mono ?_; rintro e wn ⟨ao, cap, bo, cbp, rfl, hq, hr, hbn⟩; exact ⟨_, rfl, hR _ _ hbn ⟨ao, cap, bo, cbp, rfl, hq, hr⟩⟩))
    case o7 => (refine StepOK.plain rfl ?_; intro ρ w1 R hρ hb hp hR; have f24 := hp 6 24 rfl rfl; have hcon := hρ.con; have hfn := hρ.fn; clear hρ hp; unfold OpRun; go_simp; exact hR _ _ (Below.refl _ _) f24)
    case o8 => (refine StepOK.plain rfl ?_; intro ρ w1 R hρ hb hp hR; have f17 := hp 7 17 rfl rfl; have hcon := hρ.con; have hfn := hρ.fn; clear hρ hp; unfold OpRun; go_simp; (obtain ⟨ao, cap, bo, cbp, e12, hq, hr⟩ := f17; rw [e12]; exact hR _ _ (Below.refl _ _) ⟨_, _, rfl, hq⟩))
    case o9 => (refine StepOK.plain rfl ?_; intro ρ w1 R hρ hb hp hR; have f17 := hp 7 17 rfl rfl; have hcon := hρ.con; have hfn := hρ.fn; clear hρ hp; unfold OpRun; go_simp; (obtain ⟨ao, cap, bo, cbp, e12, hq, hr⟩ := f17; rw [e12]; exact hR _ _ (Below.refl _ _) ⟨_, _, rfl, hr⟩))
    case o10 => (refine StepOK.plain rfl ?_; intro ρ w1 R hρ hb hp hR; have f25 := hp 8 25 rfl rfl; have hcon := hρ.con; have hfn := hρ.fn; clear hρ hp; unfold OpRun; go_simp; exact hR _ _ (Below.refl _ _) f25)
    case o11 => (refine StepOK.plain rfl ?_; intro ρ w1 R hρ hb hp hR; have f26 := hp 9 26 rfl rfl; have hcon := hρ.con; have hfn := hρ.fn; clear hρ hp; unfold OpRun; go_simp; exact hR _ _ (Below.refl _ _) f26)
    case after =>
      intro u wn hb hf
      have f6 := hf 10 6 (by omega) rfl
      have f7 := hf 11 7 (by omega) rfl
      clear hf
      simp only [putAll, Act.put, List.setIfInBounds_toArray, List.set_cons_zero, List.set_cons_succ, List.drop_succ_cons, List.drop_zero, List.drop_nil]
      obtain ⟨a6, c6, e6, h6⟩ := f6
      obtain ⟨a7, c7, e7, h7⟩ := f7
      rw [e6, e7]
      have zA2 := zA1.below hb
      have zB2 := zB1.below hb
      have zR2 := zR1.below hb
      have yb2 := below_trans yb1 hb
      obtain ⟨W2, hW2⟩ : ∃ W, W = wn := ⟨_, rfl⟩
      subst hW2
      have H6 := hid h6
      have hc7 := h7.1
      have hc7b := h7.2.1
      unfold maxLen at hc7b
      clear zA1 zB1 zR1 yb1 hb HN1 HM1 h6 h7 e6 e7 LE OV
      go_upto_region 3 with fail
      obtain ⟨⟨j0, j1, -, -, -⟩, j2, -⟩ := id zA2
      obtain ⟨⟨l0, l1, -, -, -⟩, l2, -⟩ := id zB2
      go_wp2_with (go_at_call 178; (with_reducible refine (ST.out _ _ _ H6.out).mono ?_); rintro en w3 ⟨a3, c3, rfl, hN3, hb3⟩; have zR3 := zR2.below hb3; obtain ⟨⟨k0, k1, f0, f1, hs2⟩, k2, f2⟩ := id zR3; have yb3 := below_trans yb2 hb3)
      refine bodyPost_ret (by simp [results, Tryz.results103, go_sem, k0, k1, k2]; try rfl) rfl ?_
      exact ⟨a3, c3, rfl, hN3.set3 zR3 (by intro x h; cases h) _ _ _, ((yb3.setCell (by first | omega | (simp; done) | (simp; omega)) _).setCell (by first | omega | (simp; done) | (simp; omega)) _).setCell (by first | omega | (simp; done) | (simp; omega)) _⟩
end Go.Proofs.YtfphmlmgjhebjaaGreatDoor
namespace Go.Ulp
open Go.RowKit
/-- the quotient has places enough -/
theorem qfloor_big (M N : Nat) (hM : 0 < M) (hN : 0 < N) : 2 ^ 79 ≤ M * 2 ^ rK M N / N := by
  have h1 := pow_bl M hM
  have h2 := lt_bl N
  have h3 := (bl_pos M).2 hM
  have hk : 80 + bl N ≤ rK M N + bl M := by unfold rK; omega
  rw [Nat.le_div_iff_mul_le hN]
  have h4 : 2 ^ (bl M - 1) * 2 ^ rK M N ≤ M * 2 ^ rK M N := Nat.mul_le_mul_right _ h1
  rw [← Nat.pow_add] at h4
  have h5 : 2 ^ 79 * N ≤ 2 ^ 79 * 2 ^ bl N := Nat.mul_le_mul_left _ (by omega)
  rw [← Nat.pow_add] at h5
  have h6 : 2 ^ (79 + bl N) ≤ 2 ^ (bl M - 1 + rK M N) := Nat.pow_le_pow_right (by omega) (by omega)
  omega
theorem qst_bd (M N : Nat) (m1 : M < 2 ^ 53) (m2 : N < 2 ^ 53) (hM : 0 < M) (hN : 0 < N) : 0 < qst M N (rK M N) ∧ qst M N (rK M N) < 2 ^ 200 ∧ rK M N ≤ 133 := by
  have h := qfloor_big M N hM hN
  have b1 := (bl_le M 53).2 m1
  have b2 := (bl_le N 53).2 m2
  have b3 := (bl_pos M).2 hM
  have hk : rK M N ≤ 133 := by unfold rK; omega
  have hA : M * 2 ^ rK M N < 2 ^ 186 := by
    have h := Nat.mul_lt_mul_of_pos_right m1 (Nat.two_pow_pos (rK M N))
    rw [← Nat.pow_add] at h
    exact Nat.lt_of_lt_of_le h (Nat.pow_le_pow_right (by omega) (by omega))
  have hd := Nat.div_le_self (M * 2 ^ rK M N) N
  unfold qst
  refine ⟨?_, ?_, hk⟩
  · have : (0 : Nat) < 2 ^ 79 := by decide
    split <;> omega
  · have : (2 : Nat) ^ 200 = 16384 * 2 ^ 186 := by decide
    split <;> omega
end Go.Ulp

set_option linter.unusedVariables false
set_option linter.unusedSimpArgs false
namespace Go.Ulp
open Go.RowKit
theorem mulD_fv (x y : Int) (hx : 0 ≤ x ∧ x < 18446744073709551616) (hy : 0 ≤ y ∧ y < 18446744073709551616) : (mulD (fv x) (fv y)).1.natAbs < 2 ^ 106 ∧ -2148 ≤ (mulD (fv x) (fv y)).2 ∧ (mulD (fv x) (fv y)).2 ≤ 2154 := by
  obtain ⟨-, a1, a2, a3⟩ := fv_bd x hx.1 hx.2
  obtain ⟨-, b1, b2, b3⟩ := fv_bd y hy.1 hy.2
  have h1 : ((fv x).1 * (fv y).1).natAbs < 2 ^ (53 + 53) := abs_mul_lt a1 b1
  obtain ⟨k1, k2⟩ := nrm_bd ((fv x).1 * (fv y).1) ((fv x).2 + (fv y).2) (53 + 53) h1
  refine ⟨k1, ?_, ?_⟩
  · show -2148 ≤ (nrm _ _).2; rcases k2 with k | k <;> omega
  · show (nrm _ _).2 ≤ 2154; rcases k2 with k | k <;> omega
theorem VD.mk {w : World} {D : Dy} {am : Option Addr} {cm : Nat} (h : Ns .u32 w am cm (limbs D.1.natAbs)) : VD w D (.agg #[.bool (decide (D.1 < 0)), .slice am (limbs D.1.natAbs).length cm, .int .i64 D.2]) := ⟨am, cm, rfl, h⟩
end Go.Ulp
namespace Go.Proofs.YtfphmlmgjhebjaaGreatDoor
open Go.RowKit Go.Ulp
set_option linter.unusedVariables false
set_option linter.unusedSimpArgs false
set_option maxHeartbeats 2000000
set_option maxRecDepth 100000
theorem exact_any (x y : Int) (hx : 0 ≤ x ∧ x < 18446744073709551616) (hy : 0 ≤ y ∧ y < 18446744073709551616) (w : World) (hT : Tab 1 w) :
    Calls Tryz.prog 101 #[.int .u64 x, .int .u64 y] w (RetVD w (mulD (fv x) (fv y))) := by
  have VX := hid (fun w t => value_any x hx.1 hx.2 w t)
  have VY := hid (fun w t => value_any y hy.1 hy.2 w t)
  have HT := hid hT
  obtain ⟨-, bx1, bx2, bx3⟩ := fv_bd x hx.1 hx.2
  obtain ⟨-, by1, by2, by3⟩ := fv_bd y hy.1 hy.2
  have lx := limbs_short 53 2 (by omega) _ bx1
  have ly := limbs_short 53 2 (by omega) _ by1
  have TI := hid (fun v u w h0 h1 t => timesD_any v u (fv x) (fv y) w h0 h1 (by omega) (by omega) ⟨by omega, by omega⟩ ⟨by omega, by omega⟩ t)
  have yb0 := below_alloc w (.cells #[.bool false, .slice none 0 0, .int .i64 0] 67)
  have zR0 : QL 67 (w.alloc (.cells #[.bool false, .slice none 0 0, .int .i64 0] 67)) w.heap.size false (.slice none 0 0) 0 := QL.made rfl
  generalize mulD (fv x) (fv y) = R at *
  generalize fv x = X at *
  generalize fv y = Y at *
  obtain ⟨x0, x1⟩ := hx
  obtain ⟨y0, y1⟩ := hy
  clear hT bx1 bx2 bx3 by1 by2 by3 lx ly
  go_enter Tryz.func101, Tryz.ntmps101
  go_wp2_with (first
    | (go_at_call 96; (with_reducible refine (VX.out _ (HT.out.below yb0)).mono ?_); rintro en w1 ⟨v1, rfl, hv1, hb1⟩; have yb1 := below_trans yb0 hb1)
    | (go_at_call 96; (with_reducible refine (VY.out _ (HT.out.below yb1)).mono ?_); rintro en w2 ⟨v2, rfl, hv2, hb2⟩; have yb2 := below_trans yb1 hb2)
    | (go_at_call 176; (with_reducible refine (TI.out _ _ _ (hv1.below hb2) hv2 (HT.out.below yb2)).mono ?_); rintro en w4 ⟨v4, rfl, ⟨a4, c4, rfl, hN4⟩, hb4⟩; have yb4 := below_trans yb2 hb4; have zR4 := ((zR0.below hb1).below hb2).below hb4; obtain ⟨⟨k0, k1, f0, f1, hs2⟩, k2, f2⟩ := id zR4))
  refine bodyPost_ret (by simp [results, Tryz.results101, go_sem, k0, k1, k2]; try rfl) rfl ?_
  exact ⟨_, rfl, ⟨a4, c4, rfl, hN4.set3 zR4 (by intro x h; cases h) _ _ _⟩, ((yb4.setCell (by first | omega | (simp; done) | (simp; omega)) _).setCell (by first | omega | (simp; done) | (simp; omega)) _).setCell (by first | omega | (simp; done) | (simp; omega)) _⟩
theorem prodMul_any (x y : Int) (hx : 0 ≤ x ∧ x < 18446744073709551616) (hy : 0 ≤ y ∧ y < 18446744073709551616) (mode : Int) (w : World) (hT : Tab 1 w) :
    Calls Tryz.prog 44 #[.int .u64 x, .int .u64 y, .int .i64 mode] w (RetX3 w (mdX mode (pX (kindP x y) (sgx x y) (mulD (fv x) (fv y)) mode)) (mdC mode (pC (kindP x y) (mulD (fv x) (fv y)) mode)) (mdE mode)) := by
  have KN := hid (fun w => known_any mode w)
  have SP := hid (fun w => special_any x y hx hy w)
  have SG := hid (fun w => pSign_any x y hx hy w)
  have EX := hid (fun w t => exact_any x y hx hy w t)
  have HT := hid hT
  have hk3 : kindP x y ≤ 3 := kP_le _ _ _ _ _ _
  have P2 := hid (fun h => prod_zero hx hy h)
  have P3 := hid (fun h => prod_some hx hy h)
  obtain ⟨b1, b2, b3⟩ := mulD_fv x y hx hy
  have l1 := limbs_short 106 4 (by omega) _ b1
  have NU := hid (fun v w h => numberD_any v (mulD (fv x) (fv y)) mode w h (by omega) ⟨by omega, by omega⟩ (nrm_isN _ _))
  generalize kindP x y = k at *
  generalize sgx x y = s at *
  generalize mulD (fv x) (fv y) = D at *
  obtain ⟨x0, x1⟩ := hx
  obtain ⟨y0, y1⟩ := hy
  clear hT b1 b2 b3 l1
  cases hk : knownB mode
  · obtain ⟨e1, e2, e3⟩ := md_no hk (pX k s D mode) (pC k D mode)
    rw [e1, e2, e3]
    rw [hk] at KN
    clear e1 e2 e3 hk
    go_enter Tryz.func44, Tryz.ntmps44
    go_wp2_with (go_at_call 78; (with_reducible refine (KN.out _).mono ?_); rintro en w1 ⟨rfl, rfl⟩)
    refine bodyPost_ret (by simp [results, Tryz.results44, go_sem]; try rfl) rfl ?_
    exact ⟨rfl, Below.refl _ _⟩
  · obtain ⟨e1, e2, e3⟩ := md_yes hk (pX k s D mode) (pC k D mode)
    rw [e1, e2, e3]
    rw [hk] at KN
    clear e1 e2 e3 hk
    obtain rfl | rfl | rfl | rfl : k = 0 ∨ k = 1 ∨ k = 2 ∨ k = 3 := by omega
    · rw [show pX 0 s D mode = 9221120237041090560 from rfl, show pC 0 D mode = false from rfl]
      rw [show spX 0 s = 9221120237041090560 from rfl, show decide (0 < 2) = true from rfl] at SP
      go_enter Tryz.func44, Tryz.ntmps44
      go_wp2_with (first
        | (go_at_call 78; (with_reducible refine (KN.out _).mono ?_); rintro en w1 ⟨rfl, rfl⟩)
        | (go_at_call 100; (with_reducible refine (SP.out _).mono ?_); rintro en w1 ⟨rfl, rfl⟩))
      refine bodyPost_ret (by simp [results, Tryz.results44, go_sem]; try rfl) rfl ?_
      exact ⟨rfl, Below.refl _ _⟩
    · rw [show pX 1 s D mode = infX s from rfl, show pC 1 D mode = false from rfl]
      rw [show spX 1 s = infX s from rfl, show decide (1 < 2) = true from rfl] at SP
      go_enter Tryz.func44, Tryz.ntmps44
      go_wp2_with (first
        | (go_at_call 78; (with_reducible refine (KN.out _).mono ?_); rintro en w1 ⟨rfl, rfl⟩)
        | (go_at_call 100; (with_reducible refine (SP.out _).mono ?_); rintro en w1 ⟨rfl, rfl⟩))
      refine bodyPost_ret (by simp [results, Tryz.results44, go_sem]; try rfl) rfl ?_
      exact ⟨rfl, Below.refl _ _⟩
    · rw [show pX 2 s D mode = sgb s from rfl, show pC 2 D mode = false from rfl]
      rw [show spX 2 s = 0 from rfl, show decide (2 < 2) = false from rfl] at SP
      have hl : (limbs D.1.natAbs).length = 0 := (dy_len D).2 (P2.out rfl)
      unfold RetVD VD at EX
      rw [hl] at EX
      clear hl P2 P3 NU
      go_enter Tryz.func44, Tryz.ntmps44
      go_wp2_with (first
        | (go_at_call 78; (with_reducible refine (KN.out _).mono ?_); rintro en w1 ⟨rfl, rfl⟩)
        | (go_at_call 100; (with_reducible refine (SP.out _).mono ?_); rintro en w1 ⟨rfl, rfl⟩)
        | (go_at_call 102; (with_reducible refine (SG.out _).mono ?_); rintro en w1 ⟨rfl, rfl⟩)
        | (go_at_call 101; (with_reducible refine (EX.out _ HT.out).mono ?_); rintro en w2 ⟨v2, rfl, ⟨a2, c2, rfl, hN2⟩, hb2⟩))
      refine bodyPost_ret (by simp [results, Tryz.results44, go_sem]; try rfl) rfl ?_
      exact ⟨rfl, below_trans hb2 (below_alloc _ _)⟩
    · rw [show pX 3 s D mode = rX D mode from rfl, show pC 3 D mode = rC D mode from rfl]
      rw [show spX 3 s = 0 from rfl, show decide (3 < 2) = false from rfl] at SP
      have hl : 0 < (limbs D.1.natAbs).length := by
        have h9 := (dy_len D).1
        have h8 := P3.out rfl
        rcases Nat.eq_zero_or_pos (limbs D.1.natAbs).length with h | h
        · exact absurd (h9 h) h8
        · exact h
      have hlb : (((limbs D.1.natAbs).length : Int) == 0) = false := beq_eq_false_iff_ne.2 (by omega)
      clear P2 P3
      go_enter Tryz.func44, Tryz.ntmps44
      go_wp2_with (first
        | (go_at_call 78; (with_reducible refine (KN.out _).mono ?_); rintro en w1 ⟨rfl, rfl⟩)
        | (go_at_call 100; (with_reducible refine (SP.out _).mono ?_); rintro en w1 ⟨rfl, rfl⟩)
        | (go_at_call 101; (with_reducible refine (EX.out _ HT.out).mono ?_); rintro en w2 ⟨v2, rfl, ⟨a2, c2, rfl, hN2⟩, hb2⟩)
        | (go_at_call 86; (with_reducible refine (NU.out _ _ (VD.mk (hN2.below (below_alloc _ _)))).mono ?_); rintro en w3 ⟨rfl, hb3⟩))
      refine bodyPost_ret (by simp [results, Tryz.results44, go_sem]; try rfl) rfl ?_
      exact ⟨rfl, below_trans (below_trans hb2 (below_alloc _ _)) hb3⟩
end Go.Proofs.YtfphmlmgjhebjaaGreatDoor
