/- Numbers in sixteens: what is told, plain. -/
import Derived.Test.YthaelmnblgollaaDoorHx1
import Derived.Test.YthaelmnblgollaaDoorRm
set_option linter.unusedVariables false
set_option linter.unusedSimpArgs false
namespace Go.Ulp
open Go.RowKit
/-- the power of two at the top of a number -/
def hfK (D : Dy) : Int := (bl D.1.natAbs : Int) + D.2 - 1
def hfD (D : Dy) (n : Nat) (mode : Int) : Dy := mplD D (hfK D - 4 * (n : Int)) mode
def hfM (E : Dy) (n : Nat) : Nat := E.1.natAbs * 2 ^ (E.2 - hfK E + 4 * (n : Int)).toNat
def hfT (x : Int) (n : Nat) (mode : Int) : List UInt8 := hxT (negB x) n (hfM (hfD (fv x) n mode) n) (hfK (hfD (fv x) n mode))
def hfC (x : Int) (n : Nat) : Bool := mplC (fv x) (hfK (fv x) - 4 * (n : Int))
theorem hfK_nrm (y e : Int) (h : y ≠ 0) : hfK (nrm y e) = (bl y.natAbs : Int) + e - 1 := by
  obtain ⟨k, h1, h2⟩ := nrm_rep y e
  have h2 := h2 h
  have h3 : y.natAbs = (nrm y e).1.natAbs * 2 ^ k := by conv => lhs; rw [h1]
                                                        exact natAbs_mul_pw _ _
  have h4 : 0 < (nrm y e).1.natAbs := by
    rcases Nat.eq_zero_or_pos (nrm y e).1.natAbs with h | h
    · rw [h] at h3; omega
    · exact h
  unfold hfK
  rw [h3, bl_mul _ _ h4, h2]
  omega
theorem top_le (M a b : Nat) (h : 0 < M) : 2 ^ b ≤ M * 2 ^ a ↔ b < bl M + a := by
  have h1 := bl_le (M * 2 ^ a) b
  rw [bl_mul M a h] at h1
  omega
theorem one_isN (t : Int) : nrm 1 t = (1, t) := nrm_of_isN (1, t) (.inr rfl)
theorem sc_nat (M : Nat) (e m : Int) : sc (M : Int) e m = ((M * 2 ^ (e - m).toNat : Nat) : Int) := by
  unfold sc; rw [pw_nat, ← Int.natCast_mul]
theorem cmp_top (E : Dy) (t : Int) (h : E.1 ≠ 0) : 0 ≤ cmpD (absD E) (nrm 1 t) ↔ t ≤ hfK E := by
  rw [one_isN]
  unfold cmpD absD
  show 0 ≤ cmpI (sc ((E.1.natAbs : Nat) : Int) E.2 (min E.2 t)) (sc ((1 : Nat) : Int) t (min E.2 t)) ↔ _
  rw [sc_nat, sc_nat, Nat.one_mul]
  have h1 := top_le E.1.natAbs (E.2 - min E.2 t).toNat (t - min E.2 t).toNat (by omega)
  unfold hfK
  have h2 : 0 ≤ cmpI ((E.1.natAbs * 2 ^ (E.2 - min E.2 t).toNat : Nat) : Int) ((2 ^ (t - min E.2 t).toNat : Nat) : Int) ↔ 2 ^ (t - min E.2 t).toNat ≤ E.1.natAbs * 2 ^ (E.2 - min E.2 t).toNat := by
    generalize E.1.natAbs * 2 ^ (E.2 - min E.2 t).toNat = a
    generalize 2 ^ (t - min E.2 t).toNat = b
    unfold cmpI; split
    · omega
    · split <;> omega
  rw [h2, h1]
  omega
theorem cmpI_flip (a b : Int) : 0 < cmpI a b ↔ ¬ 0 ≤ cmpI b a := by
  unfold cmpI; split <;> split <;> (try split) <;> (try split) <;> omega
theorem cmpD_swap (D E : Dy) : 0 < cmpD D E ↔ ¬ 0 ≤ cmpD E D := by
  unfold cmpD
  rw [Int.min_comm E.2 D.2]
  exact cmpI_flip _ _
theorem cmp_top2 (E : Dy) (t : Int) (h : E.1 ≠ 0) : 0 < cmpD (nrm 1 t) (absD E) ↔ hfK E < t := by
  rw [cmpD_swap, cmp_top E t h]; omega
theorem nrm_inj {x y e : Int} (h : nrm x e = nrm y e) : x = y := by
  obtain ⟨k, a1, a2⟩ := nrm_rep x e
  obtain ⟨l, b1, b2⟩ := nrm_rep y e
  by_cases hx : x = 0
  · have h3 : (nrm y e).1 = 0 := by rw [← h, hx]; rfl
    rw [hx, (nrm_zero_iff _ _).1 h3]
  · have hy : y ≠ 0 := fun hy => hx ((nrm_zero_iff x e).1 (by rw [h, hy]; rfl))
    have a2 := a2 hx
    have b2 := b2 hy
    rw [h] at a1 a2
    have : k = l := by omega
    rw [this] at a1
    exact a1.trans b1.symm
/-- a number that has been rounded to so many places -/
theorem hf_main (D : Dy) (n : Nat) (mode : Int) (hI : IsN D) (h : D.1 ≠ 0) :
    (hfD D n mode).1 ≠ 0 ∧ IsN (hfD D n mode) ∧ (hfK (hfD D n mode) = hfK D ∨ hfK (hfD D n mode) = hfK D + 1) ∧ hfK (hfD D n mode) - 4 * (n : Int) ≤ (hfD D n mode).2 ∧ (hfD D n mode).1.natAbs ≤ D.1.natAbs + 1 := by
  unfold hfD mplD
  obtain ⟨L, hL⟩ : ∃ L, bl D.1.natAbs = L + 1 := ⟨bl D.1.natAbs - 1, by have := (bl_pos D.1.natAbs).2 (by omega); omega⟩
  have hKD : hfK D = (L : Int) + D.2 := by unfold hfK; rw [hL]; omega
  by_cases hk : mulK D (hfK D - 4 * (n : Int)) = true
  · rw [if_pos hk, nrm_of_isN D hI]
    have hk2 := of_decide_eq_true hk
    exact ⟨h, hI, .inl rfl, by rcases hk2 with h2 | h2 <;> omega, by omega⟩
  · rw [if_neg hk]
    have hk2 : ¬ (hfK D - 4 * (n : Int) ≤ D.2 ∨ D.1 = 0) := fun hh => hk (decide_eq_true hh)
    have hlt : D.2 < hfK D - 4 * (n : Int) := by omega
    obtain ⟨p, hp⟩ : ∃ p, p = hfK D - 4 * (n : Int) := ⟨_, rfl⟩
    rw [← hp] at hlt ⊢
    obtain ⟨j, hj⟩ : ∃ j : Nat, p - D.2 = ((j + 1 : Nat) : Int) := ⟨(p - D.2).toNat - 1, by omega⟩
    rw [hj, cut_pos]
    have hLj : L = 4 * n + (j + 1) := by omega
    have lo : 2 ^ L ≤ D.1.natAbs := by
      have := bl_le D.1.natAbs L
      omega
    have hi : D.1.natAbs < 2 ^ (L + 1) := by rw [← hL]; exact lt_bl _
    have q0 : 2 ^ (4 * n) ≤ D.1.natAbs / 2 ^ (j + 1) := by
      rw [Nat.le_div_iff_mul_le (Nat.two_pow_pos _), ← Nat.pow_add, ← hLj]; exact lo
    have q1 : D.1.natAbs / 2 ^ (j + 1) < 2 ^ (4 * n + 1) := by
      rw [Nat.div_lt_iff_lt_mul (Nat.two_pow_pos _), ← Nat.pow_add, show 4 * n + 1 + (j + 1) = L + 1 by omega]; exact hi
    obtain ⟨q, hq⟩ : ∃ q, q = (if D.1.natAbs % 2 ^ (j + 1) ≠ 0 ∧ upN (decide (D.1 < 0)) (decide (((D.1.natAbs / 2 ^ (j + 1) : Nat) : Int) % 2 = 1)) (cmpI ((D.1.natAbs % 2 ^ (j + 1) : Nat) : Int) ((2 ^ j : Nat) : Int)) mode = true then D.1.natAbs / 2 ^ (j + 1) + 1 else D.1.natAbs / 2 ^ (j + 1)) := ⟨_, rfl⟩
    rw [← hq]
    have hqq : q = D.1.natAbs / 2 ^ (j + 1) ∨ q = D.1.natAbs / 2 ^ (j + 1) + 1 := by rw [hq]; split <;> simp
    have hdl := Nat.div_le_self D.1.natAbs (2 ^ (j + 1))
    have hq0 : 0 < q := by have := Nat.two_pow_pos (4 * n); omega
    have hs0 : sg (decide (D.1 < 0)) (q : Int) ≠ 0 := by unfold sg; split <;> omega
    have hsa : (sg (decide (D.1 < 0)) (q : Int)).natAbs = q := by rw [sg_abs]; omega
    have hKE := hfK_nrm (sg (decide (D.1 < 0)) (q : Int)) p hs0
    rw [hsa] at hKE
    have hb := nrm_bd (sg (decide (D.1 < 0)) (q : Int)) p (bl q) (by rw [hsa]; exact lt_bl q)
    have hle : (nrm (sg (decide (D.1 < 0)) (q : Int)) p).1.natAbs ≤ q := by
      obtain ⟨k, h1, -⟩ := nrm_rep (sg (decide (D.1 < 0)) (q : Int)) p
      have h3 : q = (nrm (sg (decide (D.1 < 0)) (q : Int)) p).1.natAbs * 2 ^ k := by
        conv => lhs; rw [← hsa, h1]
        exact natAbs_mul_pw _ _
      have := Nat.le_mul_of_pos_right (nrm (sg (decide (D.1 < 0)) (q : Int)) p).1.natAbs (Nat.two_pow_pos k)
      omega
    have hne : (nrm (sg (decide (D.1 < 0)) (q : Int)) p).1 ≠ 0 := fun h => hs0 ((nrm_zero_iff _ _).1 h)
    have h3 := hb.2
    refine ⟨hne, nrm_isN _ _, ?_, ?_, by omega⟩
    · rw [hKE]
      have b0 : 4 * n < bl q := by have := bl_le q (4 * n); omega
      have b1 : bl q ≤ 4 * n + 2 := by
        rw [bl_le, Nat.pow_succ]; omega
      omega
    · rcases h3 with ⟨h4, -⟩ | ⟨h4, -⟩
      · exact absurd h4 hne
      · rw [hKE]
        -- the exponent is at least p, and the top is no more than p and 4 n and 1; at the end it is a power
        have b1 : bl q ≤ 4 * n + 2 := by
          rw [bl_le, Nat.pow_succ]; omega
        rcases Nat.lt_or_ge (bl q) (4 * n + 2) with hb2 | hb2
        · omega
        · have hq2 : q = 2 ^ (4 * n + 1) := by
            have := bl_le q (4 * n + 1)
            omega
          have e1 : sg (decide (D.1 < 0)) (q : Int) = sg (decide (D.1 < 0)) 1 * pw (4 * n + 1) := by
            rw [hq2, sg_mul, Int.one_mul]; rfl
          have hs1 : (sg (decide (D.1 < 0)) 1).natAbs = 1 := by rw [sg_abs]; rfl
          rw [e1, nrm_scale, nrm_of_isN (sg (decide (D.1 < 0)) 1, p + ((4 * n + 1 : Nat) : Int)) (.inr (by show (sg (decide (D.1 < 0)) 1).natAbs % 2 = 1; omega))]
          show _ ≤ p + ((4 * n + 1 : Nat) : Int)
          omega
/-- what is behind the point, as the reference tells it -/
theorem hf_rest (E : Dy) (n : Nat) (X : Int) (S : Nat) (hI : IsN E) (h : E.1 ≠ 0) (hg : hfK E - 4 * (n : Int) ≤ E.2)
    (hX : nrm X (-(S : Int)) = shD (addD (absD E) (negD (nrm 1 (hfK E)))) (4 * (n : Int) - hfK E)) : X / pw S = ((hfM E n - 16 ^ n : Nat) : Int) ∧ 16 ^ n ≤ hfM E n ∧ hfM E n < 2 * 16 ^ n := by
  have e16 : (16 : Nat) ^ n = 2 ^ (4 * n) := by rw [Nat.pow_mul]
  obtain ⟨s, hs⟩ : ∃ s, s = (E.2 - hfK E + 4 * (n : Int)).toNat := ⟨_, rfl⟩
  have hM : hfM E n = E.1.natAbs * 2 ^ s := by unfold hfM; rw [← hs]
  have hbl : bl (hfM E n) = 4 * n + 1 := by
    rw [hM, bl_mul _ _ (by omega)]
    have : hfK E = (bl E.1.natAbs : Int) + E.2 - 1 := rfl
    omega
  have k1 : 2 ^ (4 * n) ≤ hfM E n := by have := bl_le (hfM E n) (4 * n); omega
  have k2 : hfM E n < 2 ^ (4 * n + 1) := by rw [← hbl]; exact lt_bl _
  rw [Nat.pow_succ] at k2
  rw [e16]
  refine ⟨?_, k1, by omega⟩
  have a1 : absD E = nrm ((E.1.natAbs : Nat) : Int) E.2 := by
    rw [nrm_natAbs, nrm_of_isN E hI]
  have a2 : negD (nrm 1 (hfK E)) = nrm (-1) (hfK E) := (nrm_neg 1 _).symm
  rw [a1, a2, ← nrm_add _ _ _ _ (hfK E - 4 * (n : Int)) (.inl hg) (.inl (by omega)), ← nrm_shift] at hX
  have e1 : sc ((E.1.natAbs : Nat) : Int) E.2 (hfK E - 4 * (n : Int)) = (hfM E n : Int) := by
    rw [sc_nat, hM]; congr 3; omega
  have e2 : sc (-1) (hfK E) (hfK E - 4 * (n : Int)) = -((2 ^ (4 * n) : Nat) : Int) := by
    unfold sc
    rw [Int.neg_mul, Int.one_mul, pw_nat, show (hfK E - (hfK E - 4 * (n : Int))).toNat = 4 * n by omega]
  rw [e1, e2, show hfK E - 4 * (n : Int) + (4 * (n : Int) - hfK E) = -(S : Int) + S by omega, ← nrm_scale] at hX
  have hX := nrm_inj hX
  have hp := pw_pos S
  rw [hX, Int.mul_ediv_cancel _ (by omega)]
  omega
theorem hfC_iff (D : Dy) (n : Nat) (hI : IsN D) (h : D.1 ≠ 0) : mplC D (hfK D - 4 * (n : Int)) = decide (4 * n + 1 < bl D.1.natAbs) := by
  have hodd : D.1.natAbs % 2 = 1 := by rcases hI with ⟨h0, -⟩ | h0; exact absurd h0 h; exact h0
  have hbp := (bl_pos D.1.natAbs).2 (by omega)
  unfold mplC mulK
  have hKD : hfK D = (bl D.1.natAbs : Int) + D.2 - 1 := rfl
  by_cases h1 : 4 * n + 1 < bl D.1.natAbs
  · rw [decide_eq_true h1, if_neg (by rw [decide_eq_true_eq]; omega)]
    unfold cutC
    rw [if_neg (by omega)]
    refine decide_eq_true ?_
    obtain ⟨j, hj⟩ : ∃ j, (hfK D - 4 * (n : Int) - D.2).toNat = j + 1 := ⟨(hfK D - 4 * (n : Int) - D.2).toNat - 1, by omega⟩
    rw [hj]
    intro h2
    have h3 := Nat.div_add_mod D.1.natAbs (2 ^ (j + 1))
    rw [h2, Nat.pow_succ, Nat.mul_assoc, Nat.add_zero] at h3
    have : D.1.natAbs = 2 * (2 ^ j * (D.1.natAbs / (2 ^ j * 2))) := by rw [Nat.mul_left_comm]; exact h3.symm
    omega
  · rw [decide_eq_false h1, if_pos (by rw [decide_eq_true_eq]; omega)]
/-- as many digits as there have to be -/
def hfN (D : Dy) : Nat := (bl D.1.natAbs - 1 + 3) / 4
theorem hfD_self (D : Dy) (n : Nat) (mode : Int) (hI : IsN D) (hn : hfN D ≤ n) : hfD D n mode = D := by
  have hKD : hfK D = (bl D.1.natAbs : Int) + D.2 - 1 := rfl
  unfold hfN at hn
  unfold hfD mplD mulK
  rw [if_pos (by rw [decide_eq_true_eq]; omega), nrm_of_isN D hI]
theorem hxc_digit (n m : Nat) (h0 : 16 ^ n ≤ m) : hxD n (m - 16 ^ n) = hxD n m := by
  obtain ⟨z, rfl⟩ : ∃ z, m = z + 16 ^ n := ⟨m - 16 ^ n, by omega⟩
  rw [Nat.add_sub_cancel]
  exact (hxD_add n z n (Nat.le_refl _)).symm
end Go.Ulp
