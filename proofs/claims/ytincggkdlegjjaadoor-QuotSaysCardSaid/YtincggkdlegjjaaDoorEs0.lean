/- The highest bits of a number. -/
import Derived.Test.YtincggkdlegjjaaDoorRm
import Derived.Test.YtincggkdlegjjaaDoorEx0
set_option linter.unusedVariables false
set_option linter.unusedSimpArgs false
namespace Go.Ulp
open Go.RowKit
/-- a number's size over 2^1200 -/
def qN (x : Int) : Nat := (uV x).natAbs * 2 ^ 126
theorem qN_form (x : Int) (h0 : 0 ≤ x) (h1 : x < 18446744073709551616) (h : classOf x < 4) : absD (fv x) = nrm (qN x : Int) (-1200) := by
  rw [fv_uV x h0 h1 h, ← nrm_natAbs]
  unfold qN
  rw [Int.natCast_mul, show (((2 ^ 126 : Nat) : Int)) = pw 126 from rfl, nrm_scale]
  rfl
theorem cmp_pow (N : Nat) (k : Int) (j : Nat) (hj : (j : Int) = k + 1200) : cmpD (nrm 1 k) (nrm (N : Int) (-1200)) = cmpI ((2 ^ j : Nat) : Int) (N : Int) := by
  rw [← cmp_nrm 1 k (N : Int) (-1200) (-1200) (.inl (by omega)) (.inl (by omega)), sc_self]
  unfold sc
  rw [show (k - -1200).toNat = j by omega, Int.one_mul]
  rfl
theorem pow_form (k : Int) (j : Nat) (hj : (j : Int) = k + 1200) : nrm 1 k = nrm ((2 ^ j : Nat) : Int) (-1200) := by
  have h := nrm_scale 1 (-1200) j
  rw [Int.one_mul] at h
  rw [show ((2 ^ j : Nat) : Int) = pw j from rfl, h]
  congr 1; omega
/-- the bits of a number down to one place -/
def dn (N j : Nat) : Nat := N / 2 ^ j * 2 ^ j
theorem dn_step (N j : Nat) : dn N j = if dn N (j + 1) + 2 ^ j ≤ N then dn N (j + 1) + 2 ^ j else dn N (j + 1) := by
  unfold dn
  obtain ⟨b, hb⟩ : ∃ b, b = 2 ^ j := ⟨_, rfl⟩
  have hp := Nat.two_pow_pos j
  rw [Nat.pow_succ, ← hb, Nat.mul_comm b 2]
  rw [← hb] at hp
  have e1 := Nat.div_add_mod N b
  have e2 : N / (2 * b) = N / b / 2 := by rw [Nat.mul_comm, Nat.div_div_eq_div_mul]
  have m1 := Nat.mod_lt N hp
  rw [e2]
  obtain ⟨q, hq⟩ : ∃ q, q = N / b := ⟨_, rfl⟩
  obtain ⟨r, hr⟩ : ∃ r, r = N % b := ⟨_, rfl⟩
  rw [← hq, ← hr] at e1
  rw [← hr] at m1
  rw [← hq]
  have e3 := Nat.div_add_mod q 2
  have m2 := Nat.mod_lt q (show 0 < 2 by omega)
  obtain ⟨t, ht⟩ : ∃ t, t = q / 2 := ⟨_, rfl⟩
  rw [← ht] at e3 ⊢
  have hm : q % 2 = 0 ∨ q % 2 = 1 := by omega
  have e4 : t * (2 * b) = 2 * t * b := by rw [← Nat.mul_assoc, Nat.mul_comm t 2]
  rw [e4]
  rcases hm with hm | hm
  · rw [hm, Nat.add_zero] at e3
    rw [← e3] at e1 ⊢
    rw [Nat.mul_comm b (2 * t)] at e1
    rw [if_neg (by omega)]
  · rw [hm] at e3
    rw [← e3] at e1 ⊢
    rw [Nat.mul_comm b (2 * t + 1), Nat.add_mul, Nat.one_mul] at e1
    rw [if_pos (by omega), Nat.add_mul, Nat.one_mul]
theorem dn_zero (N K : Nat) (h : N < 2 ^ K) : dn N K = 0 := by unfold dn; rw [Nat.div_eq_of_lt h, Nat.zero_mul]
theorem dn_le (N j : Nat) : dn N j ≤ N := Nat.div_mul_le_self _ _
theorem cmp_lev (a b g : Int) : cmpD (nrm a g) (nrm b g) = cmpI a b := by
  rw [← cmp_nrm a g b g g (.inl (by omega)) (.inl (by omega)), sc_self, sc_self]
theorem addD_lev' (x y g : Int) : addD (nrm x g) (nrm y g) = nrm (x + y) g := by
  have h := nrm_add x g y g g (.inl (by omega)) (.inl (by omega))
  rw [sc_self, sc_self] at h
  exact h.symm
/-- the places that are cut off -/
def spP (x bits : Int) : Int := (bl (fv x).1.natAbs : Int) + (fv x).2 - bits
def spD (x bits : Int) : Dy := mplD (fv x) (spP x bits) 3
theorem qN_fv (x : Int) (h0 : 0 ≤ x) (h1 : x < 18446744073709551616) (h : classOf x < 4) (hz : classOf x ≠ 1) : 0 < (fv x).1.natAbs ∧ qN x = (fv x).1.natAbs * 2 ^ ((fv x).2 + 1200).toNat := by
  have hu : uV x ≠ 0 := fun e => hz ((uV_zero_iff x h0 h1 h).1 e)
  obtain ⟨k, e1, e2⟩ := nrm_rep (uV x) (-1074)
  rw [← fv_uV x h0 h1 h] at e1 e2
  have e3 := e2 hu
  have hn : (uV x).natAbs = (fv x).1.natAbs * 2 ^ k := by
    conv => lhs; rw [e1]
    rw [natAbs_mul_pw]
  refine ⟨?_, ?_⟩
  · rcases Nat.eq_zero_or_pos (fv x).1.natAbs with h9 | h9
    · rw [h9, Nat.zero_mul] at hn; omega
    · exact h9
  · unfold qN
    rw [hn, Nat.mul_assoc, ← Nat.pow_add]
    congr 2
    omega
/-- the bits that are kept, with the sign -/
theorem spD_form (x bits : Int) (h0 : 0 ≤ x) (h1 : x < 18446744073709551616) (h : classOf x < 4) (hz : classOf x ≠ 1) (b1 : 1 ≤ bits) (b2 : bits ≤ 52) (j : Nat) (hj : (j : Int) = spP x bits + 1200) :
    nrm (sg (decide ((fv x).1 < 0)) (dn (qN x) j : Int)) (-1200) = spD x bits := by
  obtain ⟨hp, hq⟩ := qN_fv x h0 h1 h hz
  obtain ⟨-, c1, c2, c3⟩ := fv_bd x h0 h1
  have hI : IsN (fv x) := nrm_isN _ _
  unfold spD mplD
  obtain ⟨s, hs⟩ : ∃ s : Nat, s = ((fv x).2 + 1200).toNat := ⟨_, rfl⟩
  rw [← hs] at hq
  have hs2 : (s : Int) = (fv x).2 + 1200 := by omega
  split
  · rename_i hk
    have hle : spP x bits ≤ (fv x).2 := by
      unfold mulK at hk
      rcases of_decide_eq_true hk with h9 | h9
      · exact h9
      · omega
    have hjs : j ≤ s := by omega
    have hd : dn (qN x) j = qN x := by
      unfold dn
      rw [hq, show s = (s - j) + j by omega, Nat.pow_add, ← Nat.mul_assoc, Nat.mul_div_cancel _ (Nat.two_pow_pos j)]
    rw [hd, hq, Int.natCast_mul, ← sg_mul, show (((2 ^ s : Nat) : Int)) = pw s from rfl, nrm_scale, sg_self]
    congr 1
    omega
  · rename_i hk
    have hlt : (fv x).2 < spP x bits := by
      unfold mulK at hk
      have := of_decide_eq_false (Bool.not_eq_true _ ▸ hk)
      omega
    obtain ⟨t, ht⟩ : ∃ t : Nat, spP x bits - (fv x).2 = ((t + 1 : Nat) : Int) := ⟨(spP x bits - (fv x).2).toNat - 1, by omega⟩
    have hjs : j = s + (t + 1) := by omega
    have hc : cutN (decide ((fv x).1 < 0)) (fv x).1.natAbs (spP x bits - (fv x).2) 3 = (fv x).1.natAbs / 2 ^ (t + 1) := by
      rw [ht, cut_pos]
      have hu : upN (decide ((fv x).1 < 0)) (decide ((((fv x).1.natAbs / 2 ^ (t + 1) : Nat) : Int) % 2 = 1)) (cmpI (((fv x).1.natAbs % 2 ^ (t + 1) : Nat) : Int) ((2 ^ t : Nat) : Int)) 3 = false := by
        unfold upN; rw [if_neg (by omega), if_neg (by omega), if_pos rfl]
      rw [hu, if_neg (by simp)]
    rw [hc]
    have hd : dn (qN x) j = (fv x).1.natAbs / 2 ^ (t + 1) * 2 ^ j := by
      unfold dn
      rw [hq, hjs, Nat.pow_add, ← Nat.div_div_eq_div_mul, Nat.mul_div_cancel _ (Nat.two_pow_pos s)]
    rw [hd, Int.natCast_mul, ← sg_mul, show (((2 ^ j : Nat) : Int)) = pw j from rfl, nrm_scale]
    congr 1
    omega
end Go.Ulp
