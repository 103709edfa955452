/- TopRoot: what the proof leans on, part 25 (Wh0 Qr1 Qs3 Qr2 Qs6 Qt4). -/
import Derived.Test.YtpgmchpdpgahfaaGreatDoorKTopRoot11
import Derived.Test.YtpgmchpdpgahfaaGreatDoorKTopRoot12
import Derived.Test.YtpgmchpdpgahfaaGreatDoorKTopRoot16
import Derived.Test.YtpgmchpdpgahfaaGreatDoorKTopRoot18
import Derived.Test.YtpgmchpdpgahfaaGreatDoorKTopRoot24
set_option linter.unusedVariables false
set_option linter.unusedSimpArgs false
namespace Go.Ulp
open Go.RowKit
/-- what a Dyad without places behind the point is worth -/
def whole (D : Dy) : Int := D.1 * pw D.2.toNat
theorem fv_isN (x : Int) : IsN (fv x) := nrm_isN _ _
end Go.Ulp
namespace Go.Ulp
open Go.RowKit
end Go.Ulp

set_option linter.unusedVariables false
set_option linter.unusedSimpArgs false
namespace Go.Ulp
open Go.RowKit
theorem fv_nz (x : Int) (h0 : 0 ≤ x) (h1 : x < 18446744073709551616) (h : classOf x < 4) (hz : classOf x ≠ 1) : (fv x).1 ≠ 0 := by
  have := (qN_fv x h0 h1 h hz).1
  omega
end Go.Ulp
namespace Go.Proofs.YtpgmchpdpgahfaaGreatDoor
open Go.RowKit Go.Ulp
set_option linter.unusedVariables false
set_option linter.unusedSimpArgs false
set_option maxHeartbeats 2000000
set_option maxRecDepth 100000
end Go.Proofs.YtpgmchpdpgahfaaGreatDoor




set_option linter.unusedVariables false
set_option linter.unusedSimpArgs false
namespace Go.Ulp
open Go.RowKit
/-- the marked root -/
def rst (r m : Nat) : Nat := 4 * r + (if r * r = m then 0 else 1)
/-- a number of few places against it -/
theorem root_cmp (B f r m F : Nat) (hB : B ≤ 18014398509481984) (hr : 1152921504606846976 ≤ r) (h1 : r * r ≤ m) (h2 : m < (r + 1) * (r + 1)) :
    cmpI ((B * 2 ^ f : Nat) : Int) ((rst r m * 2 ^ F : Nat) : Int) = cmpI ((B * 2 ^ f * (B * 2 ^ f) : Nat) : Int) ((m * 2 ^ (2 * (F + 2)) : Nat) : Int) := by
  obtain ⟨P, hP⟩ : ∃ P, P = 2 ^ (F + 2) := ⟨_, rfl⟩
  have p0 : 0 < P := by rw [hP]; exact Nat.two_pow_pos _
  have hPP : 2 ^ (2 * (F + 2)) = P * P := by rw [hP, ← Nat.pow_add]; congr 1; omega
  have hPPp : 0 < P * P := Nat.mul_pos p0 p0
  obtain ⟨c, hc⟩ : ∃ c, c = (if r * r = m then 0 else 1) * 2 ^ F := ⟨_, rfl⟩
  have e1 : rst r m * 2 ^ F = r * P + c := by
    unfold rst
    rw [Nat.add_mul, ← hc, Nat.mul_comm 4 r, Nat.mul_assoc, hP, Nat.pow_add, Nat.mul_comm 4]
  have c1 : c < P := by
    have : P = 2 ^ F * 4 := by rw [hP, Nat.pow_add]
    have := Nat.two_pow_pos F
    rw [hc]; split <;> omega
  have c0 : r * r ≠ m → 0 < c := fun h => by rw [hc, if_neg h, Nat.one_mul]; exact Nat.two_pow_pos F
  have c2 : r * r = m → c = 0 := fun h => by rw [hc, if_pos h, Nat.zero_mul]
  clear hc
  rw [e1, hPP]
  by_cases hf : F + 2 ≤ f
  · have e3 : B * 2 ^ f = B * 2 ^ (f - (F + 2)) * P := by rw [hP, Nat.mul_assoc, ← Nat.pow_add]; congr 2; omega
    obtain ⟨G, hG⟩ : ∃ G, G = B * 2 ^ (f - (F + 2)) := ⟨_, rfl⟩
    rw [← hG] at e3
    have e4 : G * P * (G * P) = G * G * (P * P) := Nat.mul_mul_mul_comm _ _ _ _
    rw [e3, e4]
    rcases Nat.lt_trichotomy G r with h | h | h
    · have h3 : G * P + P ≤ r * P := by rw [← Nat.succ_mul]; exact Nat.mul_le_mul_right P h
      have h4 : G * G < m := Nat.lt_of_lt_of_le (Nat.mul_self_lt_mul_self h) h1
      have h5 := Nat.mul_lt_mul_of_pos_right h4 hPPp
      rw [cmpI_l (by omega), cmpI_l (by omega)]
    · subst h
      by_cases hz : G * G = m
      · rw [c2 hz, hz, cmpI_e (by omega), cmpI_e rfl]
      · have h4 : G * G < m := by omega
        have h5 := Nat.mul_lt_mul_of_pos_right h4 hPPp
        have := c0 hz
        rw [cmpI_l (by omega), cmpI_l (by omega)]
    · have h3 : r * P + P ≤ G * P := by rw [← Nat.succ_mul]; exact Nat.mul_le_mul_right P h
      have h4 : m < G * G := Nat.lt_of_lt_of_le h2 (Nat.mul_self_le_mul_self (show r + 1 ≤ G from h))
      have h5 := Nat.mul_lt_mul_of_pos_right h4 hPPp
      rw [cmpI_g (by omega), cmpI_g (by omega)]
  · have h3 : 2 ^ f ≤ P := by rw [hP]; exact Nat.pow_le_pow_right (by omega) (by omega)
    have h4 : B * 2 ^ f ≤ 18014398509481984 * P := Nat.mul_le_mul hB h3
    have h5 : 1152921504606846976 * P ≤ r * P := Nat.mul_le_mul_right _ hr
    have h6 : B * 2 ^ f < r * P := by omega
    have h7 := Nat.mul_self_lt_mul_self h6
    have h8 : r * P * (r * P) = r * r * (P * P) := Nat.mul_mul_mul_comm _ _ _ _
    have h9 := Nat.mul_le_mul_right (P * P) h1
    rw [cmpI_l (by omega), cmpI_l (by omega)]
theorem rvi_rep2 (n : Nat) : ∃ q h, rvi n = q * 2 ^ h ∧ rvi (n + 1) = (q + 1) * 2 ^ h ∧ q < 9007199254740992 ∧ (h = 0 ∨ 4503599627370496 ≤ q) := by
  by_cases hn : n < 4503599627370496
  · have := rvi_parts 0 n (by omega) (.inl rfl)
    rw [Nat.zero_mul, Nat.zero_add] at this
    exact ⟨n, 0, this.1, this.2, by omega, .inl rfl⟩
  · have := rvi_parts (n / 4503599627370496 - 1) (n % 4503599627370496 + 4503599627370496) (by omega) (.inr (by omega))
    rw [show (n / 4503599627370496 - 1) * 4503599627370496 + (n % 4503599627370496 + 4503599627370496) = n by omega] at this
    exact ⟨_, _, this.1, this.2, by omega, .inr (by omega)⟩
/-- the square of a rank's value against a number -/
def sqC (D : Dy) (r : Int) : Int := cmpD (mulD (rkD r) (rkD r)) D
def sqM (D : Dy) (r : Int) : Int := cmpD (shD D 2) (mulD (addD (rkD r) (rkD (r + 1))) (addD (rkD r) (rkD (r + 1))))
theorem sqC_nat (M : Nat) (e : Int) (he : -1074 ≤ e) (hI : IsN ((M : Int), e)) (l : Nat) : sqC ((M : Int), e) (l : Int) = cmpI ((rvi l * rvi l : Nat) : Int) ((M * 2 ^ (e + 2148).toNat : Nat) : Int) := by
  unfold sqC rkD
  rw [← nrm_mul, ← nrm_of_isN ((M : Int), e) hI, rvs_nat, ← Int.natCast_mul]
  rw [← cmp_nrm _ _ _ _ (-1074 + -1074) (.inl (Int.le_refl _)) (.inl (by show -1074 + -1074 ≤ e; omega)), sc_self]
  have e1 : (e - (-1074 + -1074)).toNat = (e + 2148).toNat := by omega
  show cmpI _ ((M : Int) * pw (e - (-1074 + -1074)).toNat) = _
  rw [e1, pw_nat, ← Int.natCast_mul]
theorem sqM_nat (M : Nat) (e : Int) (he : -1074 ≤ e) (hI : IsN ((M : Int), e)) (l : Nat) : sqM ((M : Int), e) (l : Int) = cmpI ((M * 2 ^ (e + 2150).toNat : Nat) : Int) (((rvi l + rvi (l + 1)) * (rvi l + rvi (l + 1)) : Nat) : Int) := by
  unfold sqM rkD
  rw [show (l : Int) + 1 = ((l + 1 : Nat) : Int) by omega, rvs_nat, rvs_nat]
  rw [← nrm_add ((rvi l : Nat) : Int) (-1074) ((rvi (l + 1) : Nat) : Int) (-1074) (-1074) (.inl (Int.le_refl _)) (.inl (Int.le_refl _)), sc_self, sc_self, ← Int.natCast_add, ← nrm_mul, ← Int.natCast_mul]
  rw [← nrm_of_isN ((M : Int), e) hI, ← nrm_shift]
  rw [← cmp_nrm _ _ _ _ (-1074 + -1074) (.inl (by show -1074 + -1074 ≤ e + 2; omega)) (.inl (Int.le_refl _)), sc_self]
  have e1 : (e + 2 - (-1074 + -1074)).toNat = (e + 2150).toNat := by omega
  show cmpI ((M : Int) * pw (e + 2 - (-1074 + -1074)).toNat) _ = _
  rw [e1, pw_nat, ← Int.natCast_mul]
/-- what the reference answers -/
def rootA (D : Dy) (mode l : Int) : Int × Bool :=
  if sqC D l = 0 then (l, false) else if mode = 1 ∨ (mode = 0 ∨ mode = 4) ∧ 0 < sqM D l then (l + 1, true) else (l, true)
theorem odd_sq (a : Nat) (h : a % 2 = 1) : a * a % 2 = 1 := by rw [Nat.mul_mod, h]
theorem root_plain (M : Nat) (e E : Int) (k r m : Nat) (mode : Int) (l : Nat) (m0 : 0 ≤ mode) (m1 : mode ≤ 4) (hM : 0 < M) (hMb : M < 9007199254740992) (he : -1074 ≤ e) (hI : IsN ((M : Int), e))
    (hk : 160 ≤ k) (hE : e - k = 2 * E) (hk2 : k ≤ 161) (hm : m = M * 2 ^ k) (h1 : r * r ≤ m) (h2 : m < (r + 1) * (r + 1))
    (l1 : (l : Int) < 9218868437227405312) (l2 : sqC ((M : Int), e) l ≤ 0) (l3 : (l : Int) + 1 = 9218868437227405312 ∨ 0 < sqC ((M : Int), e) (l + 1)) :
    (numX false (rst r m) (E - 2) mode, numC false (rst r m) (E - 2) mode) = rootA ((M : Int), e) mode l := by
  have hrb : 1152921504606846976 ≤ r := by
    rcases Nat.lt_or_ge r 1152921504606846976 with h | h
    · have h3 := Nat.mul_le_mul (show r + 1 ≤ 1152921504606846976 from h) (show r + 1 ≤ 1152921504606846976 from h)
      have h4 : 2 ^ 160 ≤ 2 ^ k := Nat.pow_le_pow_right (by omega) hk
      have h5 : 1 * 2 ^ k ≤ M * 2 ^ k := Nat.mul_le_mul_right _ hM
      have h6 : (1152921504606846976 * 1152921504606846976 : Nat) < 2 ^ 160 := by decide
      omega
    · exact h
  obtain ⟨F, hF⟩ : ∃ F : Nat, (F : Int) = E + 1072 := ⟨(E + 1072).toNat, by omega⟩
  have a := number_rnd false (rst r m) (E - 2) mode 0 m0 m1 (fun h => rfl) (by omega)
  rw [show (E - 2 + 1074 + ((0 : Nat) : Int)).toNat = F by omega] at a
  obtain ⟨V, hV⟩ : ∃ V : Nat, V = rst r m * 2 ^ F := ⟨_, rfl⟩
  rw [← hV] at a
  have w1 : M * 2 ^ (e + 2148).toNat = m * 2 ^ (2 * (F + 2)) := by
    rw [hm, Nat.mul_assoc, ← Nat.pow_add]; congr 2; omega
  have w2 : M * 2 ^ (e + 2150).toNat = m * 2 ^ (2 * (F + 1 + 2)) := by
    rw [hm, Nat.mul_assoc, ← Nat.pow_add]; congr 2; omega
  obtain ⟨q, h, q1, q2, q3, q4⟩ := rvi_rep2 l
  have cl : cR 0 (sg false (V : Int)) l = sqC ((M : Int), e) l := by
    rw [sqC_nat M e he hI, w1]
    show cmpI (rT 0 l) (V : Int) = _
    rw [rT_nat, q1, Nat.pow_zero, Nat.mul_one, hV]
    exact root_cmp q h r m F (by omega) hrb h1 h2
  have cl1 : cR 0 (sg false (V : Int)) ((l : Int) + 1) = sqC ((M : Int), e) ((l : Int) + 1) := by
    rw [show (l : Int) + 1 = ((l + 1 : Nat) : Int) by omega]
    rw [sqC_nat M e he hI, w1]
    show cmpI (rT 0 ((l + 1 : Nat) : Int)) (V : Int) = _
    rw [rT_nat, q2, Nat.pow_zero, Nat.mul_one, hV]
    exact root_cmp (q + 1) h r m F (by omega) hrb h1 h2
  have qs : rvi l + rvi (l + 1) = (2 * q + 1) * 2 ^ h := by rw [q1, q2, ← Nat.add_mul]; congr 1; omega
  have cm : cM 0 (sg false (V : Int)) l = sqM ((M : Int), e) l := by
    rw [sqM_nat M e he hI, w2, qs]
    show cmpI (2 * (V : Int)) (rT 0 l + rT 0 (l + 1)) = _
    rw [show (l : Int) + 1 = ((l + 1 : Nat) : Int) by omega, rT_nat, rT_nat, Nat.pow_zero, Nat.mul_one, Nat.mul_one, ← Int.natCast_add, qs, cmpI_swap, cmpI_swap ((m * 2 ^ (2 * (F + 1 + 2)) : Nat) : Int)]
    congr 1
    have := root_cmp (2 * q + 1) h r m (F + 1) (by omega) hrb h1 h2
    rw [← this, hV]
    congr 1
    rw [Nat.pow_succ, ← Nat.mul_assoc]; omega
  have low : IsLow (cR 0 (sg false (V : Int))) l := ⟨by omega, l1, .inr (by rw [cl]; exact l2), by rw [cl1]; exact l3⟩
  obtain ⟨l', lw, an⟩ := a
  have hl := low_uniq lw low
  subst hl
  have hVp : 0 < V := by
    rw [hV]
    refine Nat.mul_pos ?_ (Nat.two_pow_pos _)
    unfold rst; omega
  have hcz : cmpI (sg false (V : Int)) 0 = 1 := cmpI_g (by show (0 : Int) < (V : Int); omega)
  rw [an, hcz]
  unfold ansR rootA
  rw [cl, cm, show decide ((1 : Int) < 0) = false from rfl, tell_pos _ (by omega), tell_pos _ (by omega), ranked_pos _ (by omega)]
  by_cases hz : sqC ((M : Int), e) l = 0
  · rw [if_pos ⟨by omega, hz⟩, if_pos hz]
  · rw [if_neg (fun h => hz h.2), if_neg hz]
    have hn : sqM ((M : Int), e) l ≠ 0 := by
      intro hs
      rw [sqM_nat M e he hI, qs, cmpI_eq_zero] at hs
      have hs2 : M * 2 ^ (e + 2150).toNat = (2 * q + 1) * (2 * q + 1) * 2 ^ (2 * h) := by
        have h9 := Int.ofNat.inj hs
        rw [h9, Nat.mul_mul_mul_comm, ← Nat.pow_add]; congr 2; omega
      have ho := odd_sq (2 * q + 1) (by omega)
      obtain ⟨j, hj⟩ : ∃ j, j = (e + 2150).toNat := ⟨_, rfl⟩
      rw [← hj] at hs2
      rcases Nat.lt_or_ge (2 * h) j with h5 | h5
      · have h6 : M * 2 ^ j = M * 2 ^ (j - 2 * h) * 2 ^ (2 * h) := by rw [Nat.mul_assoc, ← Nat.pow_add]; congr 2; omega
        rw [h6] at hs2
        have h7 := Nat.eq_of_mul_eq_mul_right (Nat.two_pow_pos _) hs2
        have h8 : 2 ^ (j - 2 * h) = 2 * 2 ^ (j - 2 * h - 1) := by
          obtain ⟨i, hi⟩ : ∃ i, j - 2 * h = i + 1 := ⟨j - 2 * h - 1, by omega⟩
          rw [hi, Nat.pow_succ, Nat.add_sub_cancel, Nat.mul_comm]
        rw [h8, Nat.mul_left_comm] at h7
        omega
      · have h6 : (2 * q + 1) * (2 * q + 1) * 2 ^ (2 * h) = (2 * q + 1) * (2 * q + 1) * 2 ^ (2 * h - j) * 2 ^ j := by
          have h5' : 2 ^ (2 * h) = 2 ^ (2 * h - j) * 2 ^ j := by rw [← Nat.pow_add]; congr 1; omega
          rw [h5', ← Nat.mul_assoc]
        rw [h6] at hs2
        have h7 := Nat.eq_of_mul_eq_mul_right (Nat.two_pow_pos _) hs2
        have h8 := Nat.mul_le_mul_left ((2 * q + 1) * (2 * q + 1)) (Nat.two_pow_pos (2 * h - j))
        have h9 : 4503599627370496 ≤ q := by omega
        have h10 := Nat.mul_le_mul (show 4503599627370496 ≤ 2 * q + 1 by omega) (show 4503599627370496 ≤ 2 * q + 1 by omega)
        omega
    have hu : upR false mode (sqM ((M : Int), e) l) ((l : Int) + 1) = decide (mode = 1 ∨ (mode = 0 ∨ mode = 4) ∧ 0 < sqM ((M : Int), e) l) := by
      unfold upR
      rw [if_neg (fun h => hn h.1), if_neg (fun h => hn h.1)]
      rw [Bool.eq_iff_iff, decide_eq_true_eq, decide_eq_true_eq]
      constructor
      · rintro (h | h | h)
        · exact .inl h
        · exact absurd h.2 (by decide)
        · exact .inr h
      · rintro (h | h)
        · exact .inl h
        · exact .inr (.inr h)
    rw [hu]
    by_cases hp : mode = 1 ∨ (mode = 0 ∨ mode = 4) ∧ 0 < sqM ((M : Int), e) l
    · rw [if_pos hp, if_pos (decide_eq_true hp)]
    · rw [if_neg hp, if_neg (fun h => hp (of_decide_eq_true h))]
end Go.Ulp
set_option linter.unusedVariables false
set_option linter.unusedSimpArgs false
namespace Go.Ulp
open Go.RowKit
/-- by how much the program shifts, what it takes the root of, what it hands on -/
def rtK (e : Int) : Nat := if (e - 160) % 2 = 0 then 160 else 161
def rtm (M : Nat) (e : Int) : Nat := M * 2 ^ rtK e
def rtM (M : Nat) (e : Int) : Nat := rst (isq (rtm M e)) (rtm M e)
def rtE (e : Int) : Int := (e - rtK e) / 2 - 2
theorem rtK_bd (e : Int) : 160 ≤ rtK e ∧ rtK e ≤ 161 ∧ e - rtK e = 2 * ((e - rtK e) / 2) := by
  unfold rtK; split <;> omega
theorem rtm_bd (M : Nat) (e : Int) (m1 : M < 2 ^ 53) : rtm M e < 2 ^ 220 := by
  obtain ⟨k1, k2, -⟩ := rtK_bd e
  unfold rtm
  have h := Nat.mul_lt_mul_of_pos_right m1 (Nat.two_pow_pos (rtK e))
  rw [← Nat.pow_add] at h
  exact Nat.lt_of_lt_of_le h (Nat.pow_le_pow_right (by omega) (by omega))
end Go.Ulp
namespace Go.Proofs.YtpgmchpdpgahfaaGreatDoor
open Go.RowKit Go.Ulp
set_option linter.unusedVariables false
set_option linter.unusedSimpArgs false
set_option maxHeartbeats 4000000
set_option maxRecDepth 100000
theorem root_any (n0 : Bool) (am : Option Addr) (cm M : Nat) (e0 : Int) (w : World) (hN : Ns .u32 w am cm (limbs M)) (m1 : M < 2 ^ 53) (m0 : 0 < M) (he0 : -10000 ≤ e0 ∧ e0 ≤ 10000) :
    Calls Tryz.prog 17 #[.agg #[.bool n0, .slice am (limbs M).length cm, .int .i64 e0]] w (RetDy w false (rtM M e0) (rtE e0)) := by
  have HN := hid hN
  have hcap := hN.1
  have hcap2 := hN.2.1
  unfold maxLen at hcap2
  have lM := limbs_short 53 2 (by omega) M m1
  obtain ⟨k1, k2, k3⟩ := rtK_bd e0
  have mb := rtm_bd M e0 m1
  have mp : 0 < rtm M e0 := Nat.mul_pos m0 (Nat.two_pow_pos _)
  have lm := limbs_short 220 10 (by omega) (rtm M e0) mb
  have lr := limbs_short 220 10 (by omega) (isq (rtm M e0)) (by have := isq_le (rtm M e0); omega)
  have LE := hid (show ∀ w, Ns .u32 w am cm (limbs M) → Calls Tryz.prog 33 #[.slice am (limbs M).length cm, .int .i64 (rtK e0 : Int)] w fun e w' => RetN w (rtm M e0) e w' from fun w h => leftN_any am cm M (rtK e0) w h (by omega) (by omega))
  have SQ := hid (show ∀ a c w, Ns .u32 w a c (limbs (rtm M e0)) → Calls Tryz.prog 34 #[.slice a (limbs (rtm M e0)).length c] w (RetNc w (isq (rtm M e0))) from fun a c w h => by
    obtain ⟨A, hA⟩ : ∃ A, A = 7000 := ⟨_, rfl⟩
    refine (natSqrt_any a c (rtm M e0) w h mp A (by omega) (Nat.lt_of_lt_of_le mb (Nat.pow_le_pow_right (by omega) (by omega)))).mono fun e w' ⟨r, h1, h2, h3⟩ => ?_
    obtain ⟨s1, s2⟩ := isq_spec (rtm M e0)
    rw [root_uniq _ _ _ s1 s2 h1 h2]
    exact h3)
  have TI := hid (fun a c w h => times_any a a c c (isq (rtm M e0)) (isq (rtm M e0)) w h h (by omega) (by omega))
  have CM := hid (fun a0 a1 c0 c1 w h0 h1 => (compare_any a0 a1 c0 c1 (isq (rtm M e0) * isq (rtm M e0)) (rtm M e0) w h0 h1).mono (fun e w' ⟨h1, nq, h2⟩ => (show e = Ending.returned (.int .i64 (cmpI ((isq (rtm M e0) * isq (rtm M e0) : Nat) : Int) ((rtm M e0 : Nat) : Int))) ∧ Below w.heap.size w w' from ⟨h1, by rw [h2]; exact below_drewN (Below.refl _ _) nq⟩)))
  obtain ⟨c9, hc9⟩ : ∃ c, c = cmpI ((isq (rtm M e0) * isq (rtm M e0) : Nat) : Int) ((rtm M e0 : Nat) : Int) := ⟨_, rfl⟩
  have hst : 4 * isq (rtm M e0) + (if (!(c9 == 0)) = true then 1 else 0) = rtM M e0 := by
    unfold rtM rst
    congr 1
    by_cases h : isq (rtm M e0) * isq (rtm M e0) = rtm M e0
    · rw [if_pos h, hc9, (cmpI_eq_zero _ _).2 (by rw [h])]; rfl
    · have h2 : c9 ≠ 0 := by
        rw [hc9]; intro h3; exact h (Int.ofNat.inj ((cmpI_eq_zero _ _).1 h3))
      rw [if_neg h, beq_eq_false_iff_ne.2 h2]; rfl
  have ST := hid (show ∀ a c w, Ns .u32 w a c (limbs (isq (rtm M e0))) → Calls Tryz.prog 35 #[.bool false, .slice a (limbs (isq (rtm M e0))).length c, .bool (!(c9 == 0)), .int .i64 ((e0 - rtK e0) / 2)] w (RetDy w false (rtM M e0) (rtE e0)) from fun a c w h => by
    have h9 := sticky_any false (!(c9 == 0)) a c (isq (rtm M e0)) ((e0 - rtK e0) / 2) w h (by omega) (by omega)
    rw [hst] at h9; exact h9)
  rw [← hc9] at CM
  clear hst hc9 mp mb
  obtain ⟨ta, tc, e1, e2, e3, e4, e5⟩ := tdiv2 (e0 - 160)
  have HK := hid (show rtK e0 = if tc = 0 then 160 else 161 by
    unfold rtK
    by_cases h : tc = 0
    · rw [if_pos h, if_pos (by omega)]
    · rw [if_neg h, if_neg (by omega)])
  obtain ⟨r, hr⟩ : ∃ r, r = isq (rtm M e0) := ⟨_, rfl⟩
  rw [← hr] at SQ TI CM ST lr
  obtain ⟨m, hm⟩ : ∃ m, m = rtm M e0 := ⟨_, rfl⟩
  rw [← hm] at LE SQ CM lm
  obtain ⟨X, hX⟩ : ∃ X, X = rtM M e0 := ⟨_, rfl⟩
  rw [← hX] at ST ⊢
  obtain ⟨x, hx⟩ : ∃ x, x = rtE e0 := ⟨_, rfl⟩
  rw [← hx] at ST ⊢
  obtain ⟨K, hK⟩ : ∃ K, K = rtK e0 := ⟨_, rfl⟩
  rw [← hK] at LE ST HK k1 k2 k3
  obtain ⟨E, hE⟩ : ∃ E, E = (e0 - (K : Int)) / 2 := ⟨_, rfl⟩
  rw [← hE] at ST k3
  have q1 : (e0 - (K : Int)).tdiv 2 = E := by rw [k3]; exact Int.mul_tdiv_cancel_left _ (by decide)
  have E1 : -10000 ≤ E := by omega
  have E2 : E ≤ 10000 := by omega
  have w1 : IntKind.i64.wrap (e0 - 160) = e0 - 160 := IntWalk.i64_in _ (by omega)
  have w2 : IntKind.i64.wrap (e0 - (K : Int)) = e0 - (K : Int) := IntWalk.i64_in _ (by omega)
  have HQ := hid q1
  clear hN hr hm hX hx hK hE k3 e1 e3 q1
  have zA0 : QL 43 ((w.alloc (.cells #[.bool n0, .slice am (limbs M).length cm, .int .i64 e0] 43)).alloc (.cells #[.bool false, .slice none 0 0, .int .i64 0] 43)) w.heap.size n0 (.slice am (limbs M).length cm) e0 := (QL.made rfl).alloc _
  have zR0 : QL 43 ((w.alloc (.cells #[.bool n0, .slice am (limbs M).length cm, .int .i64 e0] 43)).alloc (.cells #[.bool false, .slice none 0 0, .int .i64 0] 43)) (w.heap.size + 1) false (.slice none 0 0) 0 := QL.made (by first | omega | (simp; done) | (simp; omega))
  have yb0 : Below w.heap.size w ((w.alloc (.cells #[.bool n0, .slice am (limbs M).length cm, .int .i64 e0] 43)).alloc (.cells #[.bool false, .slice none 0 0, .int .i64 0] 43)) := by (repeat' (first | (with_reducible assumption) | (with_reducible exact Below.refl _ _) | (with_reducible refine below_al ?_ _) | (with_reducible refine below_drewN ?_ _) | (with_reducible refine Below.drew ?_) | (with_reducible refine Below.alloc ?_ ?_ _) | (with_reducible refine Below.setCell ?_ ?_ _) | (refine below_trans ?_ (by assumption)) | go_size))
  obtain ⟨W0, hW0⟩ : ∃ W, W = (w.alloc (.cells #[.bool n0, .slice am (limbs M).length cm, .int .i64 e0] 43)).alloc (.cells #[.bool false, .slice none 0 0, .int .i64 0] 43) := ⟨_, rfl⟩
  rw [← hW0] at zA0 zR0 yb0
  go_enter Tryz.func17, Tryz.ntmps17
  go_upto_region 1 with fail
  rw [← hW0]
  clear hW0
  have jA := id zA0
  obtain ⟨⟨j0, j1, -, -, -⟩, j2, -⟩ := jA
  go_upto_if 11 with fail
  go_cut [3] (fun s3 wx => s3 = .int .i64 (K : Int) ∧ wx = W0)
  case first =>
    by_cases hz : tc = 0
    · have H5 := hid (show K = 160 by rw [HK.out, if_pos hz])
      subst hz
      go_wp2_with fail
      go_meet
      exact ⟨by rw [H5.out]; rfl, rfl⟩
    · have H5 := hid (show K = 161 by rw [HK.out, if_neg hz])
      have hz2 : (tc == 0) = false := beq_eq_false_iff_ne.2 hz
      clear hz
      go_wp2_with fail
      go_meet
      exact ⟨by rw [H5.out]; rfl, rfl⟩
  case rest =>
    obtain ⟨rfl, rfl⟩ := hcut
    clear HK e2 e4 e5 w1 ta tc
    obtain ⟨⟨j0, j1, -, -, -⟩, j2, -⟩ := id zA0
    go_upto_region 6 with (first
      | (go_at_call 33; (with_reducible refine (LE.out _ (HN.out.below yb0)).mono ?_); rintro en w1 ⟨a1, rfl, hN1, hb1⟩)
      | (go_at_call 34; (with_reducible refine (SQ.out _ _ _ hN1).mono ?_); rintro en w2 ⟨a2, c2, rfl, hN2, hb2⟩))
    have HM := hid (hN1.below hb2)
    have HR := hid hN2
    have zA := (zA0.below hb1).below hb2
    have zR := (zR0.below hb1).below hb2
    have yb := below_trans (below_trans yb0 hb1) hb2
    have hw2 := HQ.out
    have hwE : IntKind.i64.wrap E = E := IntWalk.i64_in _ (by omega)
    obtain ⟨W2, hW2⟩ : ∃ W, W = w2 := ⟨_, rfl⟩
    subst hW2
    clear hN1 hN2 hb1 hb2 zA0 zR0 yb0 LE SQ j0 j1 j2
    refine wp_region_grow 13 [20, 21, 22, 23, 24, 25, 26, 27, 28, 29, 30, 31, 32] [Fact.is (.slice a2 (limbs r).length c2), Fact.is (.slice a2 (limbs r).length c2), Fact.is (.slice a2 (limbs r).length c2), Fact.li (r * r), Fact.is (.slice a1 (limbs m).length (limbs m).length), Fact.is (.int .i64 c9), Fact.is (.bool (!(c9 == 0))), Fact.is (.pointer (some ⟨w.heap.size, 2, none⟩)), Fact.is (.int .i64 e0), Fact.is (.int .i64 (K : Int)), Fact.is (.int .i64 (e0 - (K : Int))), Fact.is (.int .i64 E), Fact.dy false X x] (by kernel_rfl) (by kernel_rfl) ⟨?o0, ?o1, ?o2, ?o3, ?o4, ?o5, ?o6, ?o7, ?o8, ?o9, ?o10, ?o11, ?o12, trivial⟩ ?after
    case o0 => (refine StepOK.plain rfl ?_; intro ρ w1 R hρ hb hp hR; have e5 : ρ (.tmp 5) = .slice a2 (limbs r).length c2 := hρ.tmp 5 rfl; have hcon := hρ.con; have hfn := hρ.fn; clear hρ hp; unfold OpRun; go_simp; exact hR _ _ (Below.refl _ _) rfl)
    case o1 => (refine StepOK.plain rfl ?_; intro ρ w1 R hρ hb hp hR; have e5 : ρ (.tmp 5) = .slice a2 (limbs r).length c2 := hρ.tmp 5 rfl; have hcon := hρ.con; have hfn := hρ.fn; clear hρ hp; unfold OpRun; go_simp; exact hR _ _ (Below.refl _ _) rfl)
    case o2 => (refine StepOK.plain rfl ?_; intro ρ w1 R hρ hb hp hR; have e5 : ρ (.tmp 5) = .slice a2 (limbs r).length c2 := hρ.tmp 5 rfl; have hcon := hρ.con; have hfn := hρ.fn; clear hρ hp; unfold OpRun; go_simp; exact hR _ _ (Below.refl _ _) rfl)
    case o3 => (refine StepOK.plain rfl ?_; intro ρ w1 R hρ hb hp hR; have e21 : ρ (.tmp 21) = _ := hp 1 21 rfl rfl; have e22 : ρ (.tmp 22) = _ := hp 2 22 rfl rfl; have hcon := hρ.con; have hfn := hρ.fn; clear hρ hp; unfold OpRun; go_simp; (refine (TI.out _ _ _ (HR.out.below hb)).mono ?_; rintro e wn ⟨a9, rfl, hn9, hbn⟩; exact ⟨_, rfl, hR _ _ hbn ⟨a9, _, rfl, hn9⟩⟩))
    case o4 => (refine StepOK.plain rfl ?_; intro ρ w1 R hρ hb hp hR; have e4 : ρ (.tmp 4) = .slice a1 (limbs m).length (limbs m).length := hρ.tmp 4 rfl; have hcon := hρ.con; have hfn := hρ.fn; clear hρ hp; unfold OpRun; go_simp; exact hR _ _ (Below.refl _ _) rfl)
    case o5 => (refine StepOK.plain rfl ?_; intro ρ w1 R hρ hb hp hR; have f23 := hp 3 23 rfl rfl; have e24 : ρ (.tmp 24) = _ := hp 4 24 rfl rfl; obtain ⟨a9, c8, e23, hn9⟩ := f23; have hcon := hρ.con; have hfn := hρ.fn; clear hρ hp; unfold OpRun; go_simp; (refine (CM.out _ _ _ _ _ hn9 (HM.out.below hb)).mono ?_; rintro e wn ⟨rfl, hbn⟩; exact ⟨_, rfl, hR _ _ hbn rfl⟩))
    case o6 => (refine StepOK.plain rfl ?_; intro ρ w1 R hρ hb hp hR; have e25 : ρ (.tmp 25) = _ := hp 5 25 rfl rfl; have hcon := hρ.con; have hfn := hρ.fn; clear hρ hp; unfold OpRun; go_simp; exact hR _ _ (Below.refl _ _) rfl)
    case o7 => (refine StepOK.plain rfl ?_; intro ρ w1 R hρ hb hp hR; have e1 : ρ (.tmp 1) = .pointer (some ⟨w.heap.size, 0, none⟩) := hρ.tmp 1 rfl; have hcon := hρ.con; have hfn := hρ.fn; clear hρ hp; unfold OpRun; go_simp; exact hR _ _ (Below.refl _ _) rfl)
    case o8 => (refine StepOK.plain rfl ?_; intro ρ w1 R hρ hb hp hR; have e27 : ρ (.tmp 27) = _ := hp 7 27 rfl rfl; obtain ⟨⟨j0, j1, -, -, -⟩, j2, -⟩ := zA.below hb; have hcon := hρ.con; have hfn := hρ.fn; clear hρ hp; unfold OpRun; go_simp; exact hR _ _ (Below.refl _ _) rfl)
    case o9 => (refine StepOK.plain rfl ?_; intro ρ w1 R hρ hb hp hR; have e3 : ρ (.tmp 3) = .int .i64 (K : Int) := hρ.tmp 3 rfl; have hcon := hρ.con; have hfn := hρ.fn; clear hρ hp; unfold OpRun; go_simp; exact hR _ _ (Below.refl _ _) rfl)
    case o10 => (refine StepOK.plain rfl ?_; intro ρ w1 R hρ hb hp hR; have e28 : ρ (.tmp 28) = _ := hp 8 28 rfl rfl; have e29 : ρ (.tmp 29) = _ := hp 9 29 rfl rfl; have hcon := hρ.con; have hfn := hρ.fn; clear hρ hp; unfold OpRun; go_simp; exact hR _ _ (Below.refl _ _) rfl)
    case o11 => (refine StepOK.plain rfl ?_; intro ρ w1 R hρ hb hp hR; have e30 : ρ (.tmp 30) = _ := hp 10 30 rfl rfl; have hcon := hρ.con; have hfn := hρ.fn; clear hρ hp; unfold OpRun; go_simp; exact hR _ _ (Below.refl _ _) rfl)
    case o12 => (refine StepOK.plain rfl ?_; intro ρ w1 R hρ hb hp hR; have e20 : ρ (.tmp 20) = _ := hp 0 20 rfl rfl; have e26 : ρ (.tmp 26) = _ := hp 6 26 rfl rfl; have e31 : ρ (.tmp 31) = _ := hp 11 31 rfl rfl; have hcon := hρ.con; have hfn := hρ.fn; clear hρ hp; unfold OpRun; go_simp; (refine (ST.out _ _ _ (HR.out.below hb)).mono ?_; rintro e wn ⟨a9, c8, rfl, hn9, hbn⟩; exact ⟨_, rfl, hR _ _ hbn ⟨a9, c8, rfl, hn9⟩⟩))
    case after =>
      intro u wn hb hf
      have f32 := hf 12 32 (by omega) rfl
      clear hf
      simp only [putAll, Act.put, List.setIfInBounds_toArray, List.set_cons_zero, List.set_cons_succ, List.drop_succ_cons, List.drop_zero, List.drop_nil]
      obtain ⟨a3, c3, e32, hN3⟩ := f32
      rw [e32]
      have zR3 := zR.below hb
      have yb3 := below_trans yb hb
      obtain ⟨⟨k0, k1, f0, f1, hs2⟩, k2, f2⟩ := id zR3
      clear e32
      go_wp2_with fail
      refine bodyPost_ret (by simp [results, Tryz.results17, go_sem, k0, k1, k2]; try rfl) rfl ?_
      exact ⟨a3, c3, rfl, hN3.set3 zR3 (by intro x h; cases h) _ _ _, ((yb3.setCell (by first | omega | (simp; done) | (simp; omega)) _).setCell (by first | omega | (simp; done) | (simp; omega)) _).setCell (by first | omega | (simp; done) | (simp; omega)) _⟩
end Go.Proofs.YtpgmchpdpgahfaaGreatDoor
set_option linter.unusedVariables false
set_option linter.unusedSimpArgs false
namespace Go.Ulp
open Go.RowKit
/-- which kind of root: 0 none, 1 the number itself, 2 a value -/
def kR (n m i z : Bool) : Nat := if (n || (m && !z)) = true then 0 else if (z || i) = true then 1 else 2
def kindR (x : Int) : Nat := kR (isNan x) (negB x) (isInf x) (isZer x)
def roM (x : Int) : Nat := rtM (fv x).1.natAbs (fv x).2
def roE (x : Int) : Int := rtE (fv x).2
def sqX (k : Nat) (x : Int) (M : Nat) (e mode : Int) : Int := if k = 0 then 9221120237041090560 else if k = 1 then x else numX false M e mode
def sqB (k : Nat) (M : Nat) (e mode : Int) : Bool := if k = 2 then numC false M e mode else false
theorem kindR_two {x : Int} (h : kindR x = 2) : classOf x < 4 ∧ classOf x ≠ 1 ∧ negB x = false := by
  have b1 := class_bd x
  unfold kindR kR at h
  split at h
  · omega
  · rename_i h1
    split at h
    · omega
    · rename_i h2
      simp only [Bool.or_eq_true, Bool.and_eq_true, not_or, isNan, isInf, isZer, beq_iff_eq] at h1 h2
      have h3 : (classOf x == 1) = false := beq_eq_false_iff_ne.2 h2.1
      refine ⟨by omega, h2.1, ?_⟩
      cases hb : negB x
      · rfl
      · exact absurd ⟨hb, by rw [h3]; rfl⟩ h1.2
theorem rtM_bd (M : Nat) (e : Int) (m1 : M < 2 ^ 53) (m0 : 0 < M) : 0 < rtM M e ∧ rtM M e < 2 ^ 230 := by
  have mb := rtm_bd M e m1
  have hl := isq_le (rtm M e)
  obtain ⟨s1, s2⟩ := isq_spec (rtm M e)
  have hm : 0 < rtm M e := Nat.mul_pos m0 (Nat.two_pow_pos _)
  have e1 : (2 : Nat) ^ 230 = 1024 * 2 ^ 220 := by decide
  have hr : 0 < isq (rtm M e) := by
    rcases Nat.eq_zero_or_pos (isq (rtm M e)) with h | h
    · rw [h] at s2; omega
    · exact h
  unfold rtM rst
  constructor
  · omega
  · split <;> omega
theorem rtE_bd (e : Int) (h0 : -1074 ≤ e) (h1 : e ≤ 1024) : -1000 ≤ rtE e ∧ rtE e ≤ 1000 := by
  obtain ⟨k1, k2, k3⟩ := rtK_bd e
  unfold rtE; omega
end Go.Ulp
namespace Go.Proofs.YtpgmchpdpgahfaaGreatDoor
open Go.RowKit Go.Ulp
set_option linter.unusedVariables false
set_option linter.unusedSimpArgs false
set_option maxHeartbeats 4000000
set_option maxRecDepth 100000
theorem sqrt_any (x : Int) (hx : 0 ≤ x ∧ x < 18446744073709551616) (mode : Int) (w : World) (hT : Tab 0 w) :
    Calls Tryz.prog 6 #[.int .u64 x, .int .i64 mode] w (RetX3 w (mdX mode (sqX (kindR x) x (roM x) (roE x) mode)) (mdC mode (sqB (kindR x) (roM x) (roE x) mode)) (mdE mode)) := by
  have KN := hid (fun w => known_any mode w)
  have CX := hid (fun w => class_any x hx.1 hx.2 w)
  have VX := hid (fun w t => value_any x hx.1 hx.2 w t)
  have HT := hid hT
  have DV := hid (show kindR x = 2 → (∀ v w, VD w (fv x) v → Calls Tryz.prog 17 #[v] w (RetDy w false (roM x) (roE x))) ∧ (∀ a c w, Ns .u32 w a c (limbs (roM x)) → Calls Tryz.prog 16 #[.agg #[.bool false, .slice a (limbs (roM x)).length c, .int .i64 (roE x)], .int .i64 mode] w (RetX w (numX false (roM x) (roE x) mode) (numC false (roM x) (roE x) mode))) from fun h3 => by
    obtain ⟨cx, dx, sx⟩ := kindR_two h3
    have fx := fv_nz x hx.1 hx.2 cx dx
    obtain ⟨-, b1, b2, b3⟩ := fv_bd x hx.1 hx.2
    obtain ⟨q1, q2⟩ := rtM_bd (fv x).1.natAbs (fv x).2 b1 (by omega)
    have q3 := rtE_bd (fv x).2 (by omega) (by omega)
    refine ⟨fun v w hv => ?_, fun a c w h => ?_⟩
    · obtain ⟨am, cm, rfl, hN⟩ := hv
      exact root_any (decide ((fv x).1 < 0)) am cm (fv x).1.natAbs (fv x).2 w hN b1 (by omega) (by omega)
    · exact number_any false a c (roM x) (roE x) mode w h (Nat.le_trans (limbs_short 230 10 (by omega) _ q2) (by omega)) (by unfold roE; omega) (fun h9 => by unfold roM at h9; omega))
  have HK := hid (show kindR x = kR (classOf x == 5) (negB x) (classOf x == 4) (classOf x == 1) from rfl)
  have hb : (x / 9223372036854775808 == 1) = negB x := by
    unfold negB
    rw [Bool.eq_iff_iff, beq_iff_eq, decide_eq_true_eq]
    omega
  generalize roM x = QM at *
  generalize roE x = QE at *
  generalize kindR x = k at *
  generalize classOf x = a at *
  generalize negB x = s at *
  generalize fv x = X at *
  obtain ⟨x0, x1⟩ := hx
  clear hT
  cases hk : knownB mode
  · obtain ⟨e1, e2, e3⟩ := md_no hk (sqX k x QM QE mode) (sqB k QM QE mode)
    rw [e1, e2, e3]
    rw [hk] at KN
    clear e1 e2 e3 hk hb
    go_enter Tryz.func6, Tryz.ntmps6
    go_wp2_with (go_at_call 15; (with_reducible refine (KN.out _).mono ?_); rintro en w1 ⟨rfl, rfl⟩)
    refine bodyPost_ret (by simp [results, Tryz.results6, go_sem]; try rfl) rfl ?_
    exact ⟨rfl, Below.refl _ _⟩
  · obtain ⟨e1, e2, e3⟩ := md_yes hk (sqX k x QM QE mode) (sqB k QM QE mode)
    rw [e1, e2, e3]
    rw [hk] at KN
    clear e1 e2 e3 hk
    go_enter Tryz.func6, Tryz.ntmps6
    cases n0 : (a == 5)
    · cases z0 : (a == 1)
      · cases s
        · cases i0 : (a == 4)
          · have hk3 : k = 2 := by
              rw [HK.out]
              simp only [n0, kR, Bool.true_or, Bool.or_true, Bool.false_or, Bool.or_false, Bool.true_and, Bool.and_true, Bool.false_and, Bool.and_false, Bool.not_true, Bool.not_false, if_true, if_false, *]
              try rfl
            have DR := hid (DV.out hk3).1
            have DN := hid (DV.out hk3).2
            clear DV
            subst hk3
            rw [show sqX 2 x QM QE mode = numX false QM QE mode from rfl, show sqB 2 QM QE mode = numC false QM QE mode from rfl]
            clear HK
            go_upto_region 8 with (first
              | (go_at_call 15; (with_reducible refine (KN.out _).mono ?_); rintro en w1 ⟨rfl, rfl⟩)
              | (go_at_call 5; (with_reducible refine (CX.out _).mono ?_); rintro en w1 ⟨rfl, rfl⟩))
            go_wp2_with (first
              | (go_at_call 18; (with_reducible refine (VX.out _ HT.out).mono ?_); rintro en w2 ⟨v2, rfl, hv2, hb2⟩)
              | (go_at_call 17; (with_reducible refine (DR.out _ _ hv2).mono ?_); rintro en w4 ⟨a4, c4, rfl, hN4, hb4⟩)
              | (go_at_call 16; (with_reducible refine (DN.out _ _ _ hN4).mono ?_); rintro en w5 ⟨rfl, hb5⟩))
            refine bodyPost_ret (by simp [results, Tryz.results6, go_sem]; try rfl) rfl ?_
            exact ⟨rfl, below_trans (below_trans hb2 hb4) hb5⟩
          · go_wp2_with (first
              | (go_at_call 15; (with_reducible refine (KN.out _).mono ?_); rintro en w1 ⟨rfl, rfl⟩)
              | (go_at_call 5; (with_reducible refine (CX.out _).mono ?_); rintro en w1 ⟨rfl, rfl⟩))
            refine bodyPost_ret (by simp [results, Tryz.results6, go_sem]; try rfl) rfl ?_
            refine ⟨ret3 ?_ ?_ rfl, Below.refl _ _⟩
            · rw [HK.out]
              simp only [n0, kR, sqX, Bool.true_or, Bool.or_true, Bool.false_or, Bool.or_false, Bool.true_and, Bool.and_true, Bool.false_and, Bool.and_false, Bool.not_true, Bool.not_false, if_true, if_false, *]
              try (first | rfl | simp)
            · rw [HK.out]
              simp only [n0, kR, sqB, Bool.true_or, Bool.or_true, Bool.false_or, Bool.or_false, Bool.true_and, Bool.and_true, Bool.false_and, Bool.and_false, Bool.not_true, Bool.not_false, if_true, if_false, *]
              try (first | rfl | simp)
        · go_wp2_with (first
            | (go_at_call 15; (with_reducible refine (KN.out _).mono ?_); rintro en w1 ⟨rfl, rfl⟩)
            | (go_at_call 5; (with_reducible refine (CX.out _).mono ?_); rintro en w1 ⟨rfl, rfl⟩))
          refine bodyPost_ret (by simp [results, Tryz.results6, go_sem]; try rfl) rfl ?_
          refine ⟨ret3 ?_ ?_ rfl, Below.refl _ _⟩
          · rw [HK.out]
            simp only [n0, kR, sqX, Bool.true_or, Bool.or_true, Bool.false_or, Bool.or_false, Bool.true_and, Bool.and_true, Bool.false_and, Bool.and_false, Bool.not_true, Bool.not_false, if_true, if_false, *]
            try (first | rfl | simp)
          · rw [HK.out]
            simp only [n0, kR, sqB, Bool.true_or, Bool.or_true, Bool.false_or, Bool.or_false, Bool.true_and, Bool.and_true, Bool.false_and, Bool.and_false, Bool.not_true, Bool.not_false, if_true, if_false, *]
            try (first | rfl | simp)
      · have i0 : (a == 4) = false := by have := beq_iff_eq.1 z0; rw [beq_eq_false_iff_ne]; omega
        cases s
        · go_wp2_with (first
            | (go_at_call 15; (with_reducible refine (KN.out _).mono ?_); rintro en w1 ⟨rfl, rfl⟩)
            | (go_at_call 5; (with_reducible refine (CX.out _).mono ?_); rintro en w1 ⟨rfl, rfl⟩))
          refine bodyPost_ret (by simp [results, Tryz.results6, go_sem]; try rfl) rfl ?_
          refine ⟨ret3 ?_ ?_ rfl, Below.refl _ _⟩
          · rw [HK.out]
            simp only [n0, kR, sqX, Bool.true_or, Bool.or_true, Bool.false_or, Bool.or_false, Bool.true_and, Bool.and_true, Bool.false_and, Bool.and_false, Bool.not_true, Bool.not_false, if_true, if_false, *]
            try (first | rfl | simp)
          · rw [HK.out]
            simp only [n0, kR, sqB, Bool.true_or, Bool.or_true, Bool.false_or, Bool.or_false, Bool.true_and, Bool.and_true, Bool.false_and, Bool.and_false, Bool.not_true, Bool.not_false, if_true, if_false, *]
            try (first | rfl | simp)
        · go_wp2_with (first
            | (go_at_call 15; (with_reducible refine (KN.out _).mono ?_); rintro en w1 ⟨rfl, rfl⟩)
            | (go_at_call 5; (with_reducible refine (CX.out _).mono ?_); rintro en w1 ⟨rfl, rfl⟩))
          refine bodyPost_ret (by simp [results, Tryz.results6, go_sem]; try rfl) rfl ?_
          refine ⟨ret3 ?_ ?_ rfl, Below.refl _ _⟩
          · rw [HK.out]
            simp only [n0, kR, sqX, Bool.true_or, Bool.or_true, Bool.false_or, Bool.or_false, Bool.true_and, Bool.and_true, Bool.false_and, Bool.and_false, Bool.not_true, Bool.not_false, if_true, if_false, *]
            try (first | rfl | simp)
          · rw [HK.out]
            simp only [n0, kR, sqB, Bool.true_or, Bool.or_true, Bool.false_or, Bool.or_false, Bool.true_and, Bool.and_true, Bool.false_and, Bool.and_false, Bool.not_true, Bool.not_false, if_true, if_false, *]
            try (first | rfl | simp)
    · go_wp2_with (first
        | (go_at_call 15; (with_reducible refine (KN.out _).mono ?_); rintro en w1 ⟨rfl, rfl⟩)
        | (go_at_call 5; (with_reducible refine (CX.out _).mono ?_); rintro en w1 ⟨rfl, rfl⟩))
      refine bodyPost_ret (by simp [results, Tryz.results6, go_sem]; try rfl) rfl ?_
      refine ⟨ret3 ?_ ?_ rfl, Below.refl _ _⟩
      · rw [HK.out]
        simp only [n0, kR, sqX, Bool.true_or, Bool.or_true, Bool.false_or, Bool.or_false, Bool.true_and, Bool.and_true, Bool.false_and, Bool.and_false, Bool.not_true, Bool.not_false, if_true, if_false, *]
        try (first | rfl | simp)
      · rw [HK.out]
        simp only [n0, kR, sqB, Bool.true_or, Bool.or_true, Bool.false_or, Bool.or_false, Bool.true_and, Bool.and_true, Bool.false_and, Bool.and_false, Bool.not_true, Bool.not_false, if_true, if_false, *]
        try (first | rfl | simp)
end Go.Proofs.YtpgmchpdpgahfaaGreatDoor
