/- A number rounded down with a mark of what is lost: it is rounded as the whole one. Plain. -/
import Derived.Test.YtincggkdlegjjaaDoorSu0
set_option linter.unusedVariables false
set_option linter.unusedSimpArgs false
namespace Go.Ulp
open Go.RowKit
/-- the mark -/
def stk (M t : Nat) : Nat := 4 * (M / 2 ^ t) + (if M % 2 ^ t = 0 then 0 else 1)
theorem grid_cmp (g Q P r1 r2 : Nat) (h1 : r1 < P) (h2 : r2 < P) (h0 : r1 = 0 ↔ r2 = 0) : cmpI ((g * P : Nat) : Int) ((Q * P + r1 : Nat) : Int) = cmpI ((g * P : Nat) : Int) ((Q * P + r2 : Nat) : Int) := by
  have hc : g < Q ∨ g = Q ∨ Q < g := by omega
  rcases hc with h | h | h
  · have : g * P + P ≤ Q * P := by rw [← Nat.succ_mul]; exact Nat.mul_le_mul_right P h
    rw [cmpI_l (by omega), cmpI_l (by omega)]
  · subst h
    by_cases hz : r1 = 0
    · rw [hz, h0.1 hz]
    · have : r2 ≠ 0 := fun h => hz (h0.2 h)
      rw [cmpI_l (by omega), cmpI_l (by omega)]
  · have : Q * P + P ≤ g * P := by rw [← Nat.succ_mul]; exact Nat.mul_le_mul_right P h
    rw [cmpI_g (by omega), cmpI_g (by omega)]
theorem low_cmp (b Q P r1 r2 : Nat) (h : b < Q * P) : cmpI (b : Int) ((Q * P + r1 : Nat) : Int) = cmpI (b : Int) ((Q * P + r2 : Nat) : Int) := by
  rw [cmpI_l (by omega), cmpI_l (by omega)]
/-- a number of few places against both -/
theorem stk_cmp (B f M t E F : Nat) (hB : B ≤ 18014398509481984) (hM : 1152921504606846976 ≤ M / 2 ^ t) (hF : F + 2 = E + t) :
    cmpI ((B * 2 ^ f : Nat) : Int) ((M * 2 ^ E : Nat) : Int) = cmpI ((B * 2 ^ f : Nat) : Int) ((stk M t * 2 ^ F : Nat) : Int) := by
  have hdm := Nat.div_add_mod M (2 ^ t)
  have hr := Nat.mod_lt M (Nat.two_pow_pos t)
  unfold stk
  obtain ⟨Q, hQ⟩ : ∃ Q, Q = M / 2 ^ t := ⟨_, rfl⟩
  obtain ⟨R, hR⟩ : ∃ R, R = M % 2 ^ t := ⟨_, rfl⟩
  rw [← hQ] at hM hdm ⊢
  rw [← hR] at hr hdm ⊢
  have hP : 2 ^ (E + t) = 2 ^ E * 2 ^ t := Nat.pow_add _ _ _
  have hP2 : 2 ^ (E + t) = 2 ^ F * 4 := by rw [← hF, Nat.pow_add]
  have e1 : M * 2 ^ E = Q * 2 ^ (E + t) + R * 2 ^ E := by
    rw [← hdm, Nat.add_mul, hP, Nat.mul_comm (2 ^ t) Q, Nat.mul_assoc, Nat.mul_comm (2 ^ t) (2 ^ E)]
  have e2 : (4 * Q + (if R = 0 then 0 else 1)) * 2 ^ F = Q * 2 ^ (E + t) + (if R = 0 then 0 else 1) * 2 ^ F := by
    rw [Nat.add_mul, hP2, Nat.mul_comm 4 Q, Nat.mul_assoc, Nat.mul_comm 4 (2 ^ F)]
  have p1 : 0 < 2 ^ E := Nat.two_pow_pos E
  have p2 : 0 < 2 ^ F := Nat.two_pow_pos F
  have r1 : R * 2 ^ E < 2 ^ (E + t) := by
    rw [hP, Nat.mul_comm (2 ^ E)]; exact Nat.mul_lt_mul_of_pos_right hr p1
  have r2 : (if R = 0 then 0 else 1) * 2 ^ F < 2 ^ (E + t) := by
    rw [hP2]; split <;> omega
  have r0 : R * 2 ^ E = 0 ↔ (if R = 0 then 0 else 1) * 2 ^ F = 0 := by
    by_cases h : R = 0
    · subst h; simp
    · have := Nat.mul_pos (Nat.pos_of_ne_zero h) p1
      rw [if_neg h]; omega
  rw [e1, e2]
  by_cases hf : E + t ≤ f
  · have e3 : B * 2 ^ f = B * 2 ^ (f - (E + t)) * 2 ^ (E + t) := by rw [Nat.mul_assoc, ← Nat.pow_add]; congr 2; omega
    rw [e3]
    exact grid_cmp _ _ _ _ _ r1 r2 r0
  · refine low_cmp _ _ _ _ _ ?_
    have h1 : 2 ^ f ≤ 2 ^ (E + t) := Nat.pow_le_pow_right (by omega) (by omega)
    have h2 : B * 2 ^ f ≤ 18014398509481984 * 2 ^ (E + t) := Nat.mul_le_mul hB h1
    have h3 : 1152921504606846976 * 2 ^ (E + t) ≤ Q * 2 ^ (E + t) := Nat.mul_le_mul_right _ hM
    have h4 : 0 < 2 ^ (E + t) := Nat.two_pow_pos _
    omega
theorem cmpI_mixed (a : Nat) (b : Nat) (n m : Bool) (hb : 0 < b) (h : n ≠ m) : cmpI (sg n (a : Int)) (sg m (b : Int)) = if m = true then 1 else -1 := by
  cases n <;> cases m
  · exact absurd rfl h
  · show cmpI (a : Int) (-(b : Int)) = 1
    exact cmpI_g (by omega)
  · show cmpI (-(a : Int)) (b : Int) = -1
    exact cmpI_l (by omega)
  · exact absurd rfl h
theorem sgn_cmp (a b c : Nat) (n m : Bool) (hb : 0 < b) (hc : 0 < c) (h : cmpI (a : Int) (b : Int) = cmpI (a : Int) (c : Int)) : cmpI (sg n (a : Int)) (sg m (b : Int)) = cmpI (sg n (a : Int)) (sg m (c : Int)) := by
  by_cases hn : n = m
  · subst hn
    cases n
    · exact h
    · show cmpI (-(a : Int)) (-(b : Int)) = cmpI (-(a : Int)) (-(c : Int))
      rw [cmpI_neg_neg, cmpI_neg_neg, h]
  · rw [cmpI_mixed a b n m hb hn, cmpI_mixed a c n m hc hn]
theorem stk_pos (M t : Nat) (h : 1152921504606846976 ≤ M / 2 ^ t) : 0 < stk M t ∧ 0 < M := by
  have h1 := Nat.div_le_self M (2 ^ t)
  unfold stk; omega
theorem sg_dbl (n : Bool) (a : Nat) (E : Nat) : 2 * sg n ((a * 2 ^ E : Nat) : Int) = sg n ((a * 2 ^ (E + 1) : Nat) : Int) := by
  rw [Nat.pow_succ, ← Nat.mul_assoc]
  cases n
  · show 2 * ((a * 2 ^ E : Nat) : Int) = ((a * 2 ^ E * 2 : Nat) : Int); omega
  · show 2 * -((a * 2 ^ E : Nat) : Int) = -((a * 2 ^ E * 2 : Nat) : Int); omega
/-- with the mark it is rounded as without -/
theorem stk_num (neg : Bool) (M t : Nat) (x mode : Int) (m0 : 0 ≤ mode) (m1 : mode ≤ 4) (hM : 1152921504606846976 ≤ M / 2 ^ t) :
    numX neg (stk M t) (x + t - 2) mode = numX neg M x mode ∧ numC neg (stk M t) (x + t - 2) mode = numC neg M x mode := by
  obtain ⟨p1, p2⟩ := stk_pos M t hM
  obtain ⟨s, hs⟩ : ∃ s : Nat, (s : Int) = max 0 (2 - x) := ⟨(max 0 (2 - x)).toNat, by omega⟩
  have a := number_rnd neg M x mode s m0 m1 (fun h => by omega) (by omega)
  have b := number_rnd neg (stk M t) (x + t - 2) mode s m0 m1 (fun h => by omega) (by omega)
  obtain ⟨E, hE⟩ : ∃ E, E = (x + 1074 + s).toNat := ⟨_, rfl⟩
  obtain ⟨F, hF⟩ : ∃ F, F = (x + t - 2 + 1074 + s).toNat := ⟨_, rfl⟩
  have hEF : F + 2 = E + t := by omega
  rw [← hE] at a
  rw [← hF] at b
  have q1 : 0 < M * 2 ^ E := Nat.mul_pos p2 (Nat.two_pow_pos _)
  have q2 : 0 < stk M t * 2 ^ F := Nat.mul_pos p1 (Nat.two_pow_pos _)
  have q3 : 0 < M * 2 ^ (E + 1) := Nat.mul_pos p2 (Nat.two_pow_pos _)
  have q4 : 0 < stk M t * 2 ^ (F + 1) := Nat.mul_pos p1 (Nat.two_pow_pos _)
  have a2 : Rnd s (sg neg ((stk M t * 2 ^ F : Nat) : Int)) mode (numX neg M x mode) (numC neg M x mode) := by
    refine a.same (fun r => ?_) (fun r => ?_) ?_
    · obtain ⟨q, h, n, hq, hb⟩ := rT_rep s r
      unfold cR
      rw [hq]
      exact sgn_cmp _ _ _ n neg q1 q2 (stk_cmp q (h + s) M t E F (by omega) hM hEF)
    · obtain ⟨q, h, n, hq, hb⟩ := rT_mid_rep s r
      unfold cM
      rw [hq, sg_dbl, sg_dbl, cmpI_swap, cmpI_swap (sg neg ((stk M t * 2 ^ (F + 1) : Nat) : Int))]
      congr 1
      exact sgn_cmp _ _ _ n neg q3 q4 (stk_cmp (2 * q + 1) (h + s) M t (E + 1) (F + 1) (by omega) hM (by omega))
    · cases neg
      · rw [cmpI_g (show (0 : Int) < sg false ((M * 2 ^ E : Nat) : Int) by show (0 : Int) < ((M * 2 ^ E : Nat) : Int); omega), cmpI_g (show (0 : Int) < sg false ((stk M t * 2 ^ F : Nat) : Int) by show (0 : Int) < ((stk M t * 2 ^ F : Nat) : Int); omega)]
      · rw [cmpI_l (show sg true ((M * 2 ^ E : Nat) : Int) < (0 : Int) by show -((M * 2 ^ E : Nat) : Int) < 0; omega), cmpI_l (show sg true ((stk M t * 2 ^ F : Nat) : Int) < (0 : Int) by show -((stk M t * 2 ^ F : Nat) : Int) < 0; omega)]
  exact b.uniq a2
/-- the quotient's two floors -/
theorem floor_two (m d K : Nat) (t : Nat) (hd : 0 < d) : m * 2 ^ K / d = m * 2 ^ (K + t) / d / 2 ^ t := by
  rw [Nat.div_div_eq_div_mul, Nat.pow_add, ← Nat.mul_assoc, Nat.mul_div_mul_right _ _ (Nat.two_pow_pos t)]
/-- the program's mark and the reference's: what a division leaves -/
def qst (m d K : Nat) : Nat := 4 * (m * 2 ^ K / d) + (if m * 2 ^ K % d = 0 then 0 else 1)
theorem qst_two (m d K t : Nat) (hd : 0 < d) : qst m d K = stk (qst m d (K + t)) (t + 2) := by
  obtain ⟨A, hA⟩ : ∃ A, A = m * 2 ^ K := ⟨_, rfl⟩
  have hA2 : m * 2 ^ (K + t) = A * 2 ^ t := by rw [hA, Nat.pow_add, Nat.mul_assoc]
  unfold qst stk
  rw [← hA, hA2]
  obtain ⟨l, hl⟩ : ∃ l, l = (if A * 2 ^ t % d = 0 then 0 else 1) := ⟨_, rfl⟩
  rw [← hl]
  obtain ⟨H, hH⟩ : ∃ H, H = A * 2 ^ t / d := ⟨_, rfl⟩
  have hdm := Nat.div_add_mod (A * 2 ^ t) d
  rw [← hH] at hdm ⊢
  have hl2 : l ≤ 1 := by rw [hl]; split <;> omega
  have e1 : (4 * H + l) / 2 ^ (t + 2) = A / d := by
    rw [show 2 ^ (t + 2) = 4 * 2 ^ t by rw [Nat.pow_add]; omega, ← Nat.div_div_eq_div_mul, show (4 * H + l) / 4 = H by omega, hH, Nat.div_div_eq_div_mul, Nat.mul_div_mul_right _ _ (Nat.two_pow_pos t)]
  have p := Nat.two_pow_pos t
  have e2 : (4 * H + l) % 2 ^ (t + 2) = 0 ↔ A % d = 0 := by
    rw [show 2 ^ (t + 2) = 4 * 2 ^ t by rw [Nat.pow_add]; omega]
    constructor
    · intro h
      have h1 : (4 * H + l) % 4 = 0 := by
        have := Nat.mod_mul_right_mod (4 * H + l) 4 (2 ^ t)
        rw [h] at this; omega
      have l0 : l = 0 := by omega
      have hz : A * 2 ^ t % d = 0 := by
        rw [hl] at l0
        by_cases hh : A * 2 ^ t % d = 0
        · exact hh
        · rw [if_neg hh] at l0; omega
      rw [l0, Nat.add_zero, Nat.mul_mod_mul_left] at h
      have h2 : H % 2 ^ t = 0 := by omega
      have h3 := Nat.div_add_mod H (2 ^ t)
      rw [h2, Nat.add_zero] at h3
      have h4 : A * 2 ^ t = d * (H / 2 ^ t) * 2 ^ t := by
        rw [Nat.mul_assoc, Nat.mul_comm (H / 2 ^ t), h3]; omega
      have h5 : A = d * (H / 2 ^ t) := Nat.eq_of_mul_eq_mul_right p h4
      rw [h5, Nat.mul_mod_right]
    · intro h
      have h1 := Nat.div_add_mod A d
      rw [h, Nat.add_zero] at h1
      have h2 : A * 2 ^ t = d * (A / d * 2 ^ t) := by rw [← Nat.mul_assoc, h1]
      have h3 : A * 2 ^ t % d = 0 := by rw [h2, Nat.mul_mod_right]
      rw [hl, if_pos h3, hH, h2, Nat.mul_div_cancel_left _ hd, Nat.add_zero, Nat.mul_mod_mul_left, Nat.mul_mod_left]
  rw [e1]
  congr 1
  by_cases h : A % d = 0
  · rw [if_pos h, if_pos (e2.2 h)]
  · rw [if_neg h, if_neg (fun h9 => h (e2.1 h9))]
end Go.Ulp
