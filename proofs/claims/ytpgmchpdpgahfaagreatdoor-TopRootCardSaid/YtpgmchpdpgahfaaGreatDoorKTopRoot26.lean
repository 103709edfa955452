/- TopRoot: what the proof leans on, part 26 (Tp1 Sp1 Tp2 Frame2 Tb Tb7). -/
import Derived.WalkKit
import Derived.ReadAgain
import Derived.ChangeReads
import Derived.Lib.SmallJoins
import Derived.ChangeSlices
import Derived.OpenShut
import Derived.Test.YtpgmchpdpgahfaaGreatDoorRows
import Derived.LaidMore
import Derived.Lib.LaidTab
import Derived.LaidLaws
import Derived.SevenTiedAt
import Derived.Stop.Joined
import Derived.Stop.LaidErr
import Derived.Lay
import Derived.Test.YtpgmchpdpgahfaaGreatDoorKTopRoot2
import Derived.Test.YtpgmchpdpgahfaaGreatDoorKTopRoot3
import Derived.Test.YtpgmchpdpgahfaaGreatDoorKTopRoot9
import Derived.Test.YtpgmchpdpgahfaaGreatDoorKTopRoot12
import Derived.Test.YtpgmchpdpgahfaaGreatDoorKTopRoot24
import Derived.Test.YtpgmchpdpgahfaaGreatDoorKTopRoot25
set_option linter.unusedVariables false
set_option linter.unusedSimpArgs false
namespace Go.Ulp
open Go.RowKit
theorem rvi_inj_le {m n : Nat} (h : rvi m ≤ rvi n) : m ≤ n := by
  rcases Nat.lt_or_ge n m with h9 | h9
  · have := rvi_mono h9; omega
  · exact h9
/-- a number from 0 on, rounded down or up, by ranks -/
theorem num_dir (M : Nat) (e : Int) (s V : Nat) (hs : 0 ≤ e + 1074 + s) (hV : V = M * 2 ^ (e + 1074 + s).toNat) :
    (∃ r : Nat, numX false M e 2 = (r : Int) ∧ (r : Int) < 9218868437227405312 ∧ rvi r * 2 ^ s ≤ V) ∧
    (∃ r : Nat, numX false M e 1 = (r : Int) ∧ (r : Int) ≤ 9218868437227405312 ∧ ((r : Int) = 9218868437227405312 ∨ V ≤ rvi r * 2 ^ s)) := by
  have key : ∀ mode, 0 ≤ mode → mode ≤ 4 → ∃ l : Nat, (l : Int) < 9218868437227405312 ∧ rvi l * 2 ^ s ≤ V ∧ ((l : Int) + 1 = 9218868437227405312 ∨ V < rvi (l + 1) * 2 ^ s) ∧ (numX false M e mode = (if cmpI ((rvi l * 2 ^ s : Nat) : Int) (V : Int) = 0 then (l : Int) else if upR false mode (cM s (V : Int) l) ((l : Int) + 1) = true then (l : Int) + 1 else (l : Int))) := by
    intro mode m0 m1
    obtain ⟨l, ⟨l1, l2, l3, l4⟩, ha⟩ := number_rnd false M e mode s m0 m1 (fun _ => rfl) hs
    rw [← hV, show sg false ((V : Nat) : Int) = (V : Int) from rfl] at l3 l4 ha
    have r0 : ∀ r : Nat, rT s (r : Int) = ((rvi r * 2 ^ s : Nat) : Int) := fun r => by
      unfold rT; rw [rvs_nat, pw_nat, ← Int.natCast_mul]
    have hl0 : 0 ≤ l := by
      rcases Int.lt_or_le l 0 with h9 | h9
      · exfalso
        rcases l4 with h8 | h8
        · omega
        · have h7 := rT_le s (show l + 1 ≤ 0 by omega)
          have h6 : rT s 0 = 0 := by unfold rT; rw [rvs_zero, Int.zero_mul]
          have h5 : (V : Int) < rT s (l + 1) := by
            have := h8; unfold cR at this; exact (cmpI_gt _ _).1 this
          omega
      · exact h9
    obtain ⟨n, rfl⟩ := Int.eq_ofNat_of_zero_le hl0
    refine ⟨n, l2, ?_, ?_, ?_⟩
    · rcases l3 with h9 | h9
      · omega
      · unfold cR at h9
        have := (cmpI_le _ _).1 h9
        rw [r0] at this
        omega
    · rcases l4 with h9 | h9
      · exact .inl h9
      · unfold cR at h9
        have := (cmpI_gt _ _).1 h9
        rw [show (n : Int) + 1 = ((n + 1 : Nat) : Int) by omega, r0] at this
        exact .inr (by omega)
    · have h9 := congrArg Prod.fst ha
      simp only at h9
      rw [h9]
      unfold ansR
      have hz : decide (cmpI (V : Int) 0 < 0) = false := by
        rw [decide_eq_false_iff_not, cmpI_lt]; omega
      rw [hz]
      unfold cR
      rw [r0]
      have t0 : ∀ r : Int, 0 ≤ r → tellR false r = r := fun r hr => by
        unfold tellR; rw [if_neg (by simp), ranked_pos r hr]
      by_cases hc : cmpI ((rvi n * 2 ^ s : Nat) : Int) (V : Int) = 0
      · rw [if_pos hc, if_pos ⟨by omega, hc⟩]
        exact ranked_pos _ (by omega)
      · rw [if_neg hc, if_neg (fun h => hc h.2)]
        by_cases hu : upR false mode (cM s (V : Int) n) ((n : Int) + 1) = true
        · rw [if_pos hu, if_pos hu]; exact t0 ((n : Int) + 1) (by omega)
        · rw [if_neg hu, if_neg hu]; exact t0 (n : Int) (by omega)
  constructor
  · obtain ⟨l, l1, l2, l3, l4⟩ := key 2 (by omega) (by omega)
    refine ⟨l, ?_, l1, l2⟩
    rw [l4]
    split
    · rfl
    · rw [if_neg]; unfold upR; simp
  · obtain ⟨l, l1, l2, l3, l4⟩ := key 1 (by omega) (by omega)
    by_cases hc : cmpI ((rvi l * 2 ^ s : Nat) : Int) (V : Int) = 0
    · refine ⟨l, by rw [l4, if_pos hc], by omega, .inr ?_⟩
      have := (cmpI_eq_zero _ _).1 hc
      omega
    · refine ⟨l + 1, ?_, by omega, ?_⟩
      · rw [l4, if_neg hc, if_pos (by unfold upR; simp)]; rfl
      · rcases l3 with h | h
        · exact .inl (by omega)
        · exact .inr (by omega)
theorem zer_iff9 (x : Int) (h0 : 0 ≤ x) (h1 : x < 18446744073709551616) : classOf x = 1 ↔ absOf x = 0 := by
  have b1 := expOf_bd x
  have b2 := fracOf_bd x
  unfold classOf absOf
  have e : expOf x * 4503599627370496 + fracOf x = x % 9223372036854775808 := by unfold expOf fracOf; omega
  split
  · split <;> omega
  · split
    · omega
    · split <;> omega
theorem nat_facts (n : Nat) (h1 : (n : Int) ≤ 9218868437227405312) : negB (n : Int) = false ∧ rankOf (n : Int) = n ∧ isNan (n : Int) = false ∧ isInf (n : Int) = decide ((n : Int) = 9218868437227405312) ∧ isZer (n : Int) = decide ((n : Int) = 0) ∧ classOf (n : Int) ≠ 5 := by
  have a0 : absOf (n : Int) = n := by unfold absOf; omega
  have a := class_nan (n : Int) (by omega) (by omega)
  have b := class_inf (n : Int) (by omega) (by omega)
  have c := zer_iff9 (n : Int) (by omega) (by omega)
  rw [a0] at a b c
  have n5 : classOf (n : Int) ≠ 5 := fun h => by have := a.1 h; omega
  refine ⟨?_, ?_, ?_, ?_, ?_, n5⟩
  · unfold negB; exact decide_eq_false (by omega)
  · unfold rankOf; rw [if_neg (by omega)]; omega
  · unfold isNan; exact beq_eq_false_iff_ne.2 n5
  · unfold isInf
    rw [Bool.eq_iff_iff, beq_iff_eq, decide_eq_true_iff]; exact b
  · unfold isZer
    rw [Bool.eq_iff_iff, beq_iff_eq, decide_eq_true_iff]; exact c
theorem kindR_nat (n : Nat) (h0 : 0 < n) (h1 : (n : Int) < 9218868437227405312) : kindR (n : Int) = 2 := by
  obtain ⟨a, -, b, c, d, -⟩ := nat_facts n (by omega)
  unfold kindR
  rw [a, b, c, d, decide_eq_false (by omega), decide_eq_false (by omega)]; rfl
theorem nrm_back (X : Nat) (e : Int) (h : 0 < X) : 0 < (nrm (X : Int) e).1 ∧ e ≤ (nrm (X : Int) e).2 ∧ (nrm (X : Int) e).1.natAbs * 2 ^ ((nrm (X : Int) e).2 - e).toNat = X := by
  have h9 := div_pw_tw (X : Int)
  unfold nrm
  rw [if_neg (by omega)]
  simp only [Int.natAbs_natCast] at h9 ⊢
  have hp := pw_pos (tw X)
  have hq : 0 < (X : Int) / pw (tw X) := by
    rcases Int.lt_or_le 0 ((X : Int) / pw (tw X)) with h8 | h8
    · exact h8
    · exfalso
      have := Int.mul_le_mul_of_nonneg_right h8 (Int.le_of_lt hp)
      rw [h9, Int.zero_mul] at this
      omega
  refine ⟨hq, by omega, ?_⟩
  rw [show (e + (tw X : Int) - e).toNat = tw X by omega]
  have h7 : (((X : Int) / pw (tw X)).natAbs : Int) * ((2 ^ tw X : Nat) : Int) = (X : Int) := by
    rw [← pw_nat, Int.natAbs_of_nonneg (by omega), h9]
  rw [← Int.natCast_mul] at h7
  omega
theorem fv_nat (n : Nat) (h1 : (n : Int) ≤ 9218868437227405312) : fv (n : Int) = nrm ((rvi n : Nat) : Int) (-1074) := by
  rw [fv_rank (n : Int) (by omega) (by omega), (nat_facts n h1).2.1, rvs_nat]
theorem rvi_pos {n : Nat} (h : 0 < n) : 0 < rvi n := by have := rvi_mono h; rw [rvi_zero] at this; exact this
/-- the product of a number by itself -/
theorem top_mul (K : Nat) (hK : K = 1074) (l : Nat) (h1 : (l : Int) < 9218868437227405312) :
    (∃ r : Nat, pX (kindP (l : Int) (l : Int)) (sgx (l : Int) (l : Int)) (mulD (fv (l : Int)) (fv (l : Int))) 2 = (r : Int) ∧ (r : Int) < 9218868437227405312 ∧ rvi r * 2 ^ K ≤ rvi l * rvi l) ∧
    (∃ r : Nat, pX (kindP (l : Int) (l : Int)) (sgx (l : Int) (l : Int)) (mulD (fv (l : Int)) (fv (l : Int))) 1 = (r : Int) ∧ (r : Int) ≤ 9218868437227405312 ∧ ((r : Int) = 9218868437227405312 ∨ rvi l * rvi l ≤ rvi r * 2 ^ K)) := by
  obtain ⟨a, -, b, c, d, -⟩ := nat_facts l (by omega)
  have hs : sgx (l : Int) (l : Int) = false := by unfold sgx; rw [a]; rfl
  rw [hs]
  by_cases h0 : l = 0
  · subst h0
    have hk : kindP ((0 : Nat) : Int) ((0 : Nat) : Int) = 2 := by unfold kindP; rw [b, c, d]; rfl
    rw [hk]
    refine ⟨⟨0, rfl, by omega, ?_⟩, ⟨0, rfl, by omega, .inr ?_⟩⟩
    · rw [rvi_zero, Nat.zero_mul]; omega
    · rw [rvi_zero, Nat.zero_mul]; omega
  · have hk : kindP (l : Int) (l : Int) = 3 := by
      unfold kindP
      rw [b, c, d, decide_eq_false (show ¬ (l : Int) = 9218868437227405312 by omega), decide_eq_false (show ¬ (l : Int) = 0 by omega)]; rfl
    rw [hk]
    have hl := rvi_pos (Nat.pos_of_ne_zero h0)
    have hX : 0 < rvi l * rvi l := Nat.mul_pos hl hl
    rw [fv_nat l (by omega), ← nrm_mul, ← Int.natCast_mul]
    obtain ⟨X, hX2⟩ : ∃ X, X = rvi l * rvi l := ⟨_, rfl⟩
    rw [← hX2] at hX ⊢
    obtain ⟨n1, n2, n3⟩ := nrm_back X (-1074 + -1074) hX
    obtain ⟨D, hD⟩ : ∃ D, D = nrm (X : Int) (-1074 + -1074) := ⟨_, rfl⟩
    rw [← hD] at n1 n2 n3 ⊢
    have e1 : ∀ mode, pX 3 false D mode = numX false D.1.natAbs D.2 mode := fun mode => by
      show rX D mode = _
      unfold rX
      rw [decide_eq_false (by omega)]
    rw [e1, e1]
    exact num_dir D.1.natAbs D.2 K X (by omega) (by rw [← n3]; congr 2; omega)
theorem root_big (x : Int) (hx : 0 ≤ x ∧ x < 18446744073709551616) (h3 : kindR x = 2) (mode : Int) (m0 : 0 ≤ mode) (m1 : mode ≤ 4) : ∃ (M : Nat) (e : Int), fv x = ((M : Int), e) ∧ -1074 ≤ e ∧ IsN ((M : Int), e) ∧ ∀ l : Nat, (l : Int) < 9218868437227405312 → sqC ((M : Int), e) l ≤ 0 → ((l : Int) + 1 = 9218868437227405312 ∨ 0 < sqC ((M : Int), e) ((l : Int) + 1)) → numX false (roM x) (roE x) mode = (rootA ((M : Int), e) mode l).1 := by
  obtain ⟨cx, dx, sx⟩ := kindR_two h3
  have fx := fv_nz x hx.1 hx.2 cx dx
  obtain ⟨-, b1, b2, b3⟩ := fv_bd x hx.1 hx.2
  have sg := fv_sign x (by omega)
  rw [sx] at sg
  have pos : 0 < (fv x).1 := by have := of_decide_eq_false sg; omega
  have hI := fv_isN x
  obtain ⟨k1, k2, k3⟩ := rtK_bd (fv x).2
  have hM : (((fv x).1.natAbs : Nat) : Int) = (fv x).1 := by omega
  obtain ⟨M, hM2⟩ : ∃ M, M = (fv x).1.natAbs := ⟨_, rfl⟩
  obtain ⟨e, he⟩ : ∃ e, e = (fv x).2 := ⟨_, rfl⟩
  have hD : fv x = ((M : Int), e) := by rw [hM2, hM, he]
  refine ⟨M, e, hD, by omega, by rw [← hD]; exact hI, fun l l1 l2 l3 => ?_⟩
  obtain ⟨s1, s2⟩ := isq_spec (rtm M e)
  have h9 := root_plain M e ((e - rtK e) / 2) (rtK e) (isq (rtm M e)) (rtm M e) mode l m0 m1 (by omega) (by rw [hM2]; exact b1) (by omega) (by rw [← hD]; exact hI) (by rw [he]; exact k1) (by rw [he]; exact k3) (by rw [he]; exact k2) rfl s1 s2 l1 l2 l3
  have r1 : roM x = rst (isq (rtm M e)) (rtm M e) := by unfold roM; rw [← hM2, ← he]; rfl
  have r2 : roE x = (e - rtK e) / 2 - 2 := by unfold roE; rw [← he]; rfl
  rw [r1, r2, ← h9]
theorem sq_low (M : Nat) (e : Int) (he : -1074 ≤ e) (hI : IsN ((M : Int), e)) (T : Nat) (hT : 0 < T) : ∃ l : Nat, l < T ∧ sqC ((M : Int), e) l ≤ 0 ∧ (l + 1 = T ∨ 0 < sqC ((M : Int), e) ((l : Int) + 1)) := by
  have z : sqC ((M : Int), e) ((0 : Nat) : Int) ≤ 0 := by
    rw [sqC_nat M e he hI, cmpI_le, rvi_zero, Nat.zero_mul]; omega
  suffices H : ∀ n : Nat, n ≤ T - 1 → sqC ((M : Int), e) ((T - 1 - n : Nat) : Int) ≤ 0 → ∃ l : Nat, l < T ∧ sqC ((M : Int), e) l ≤ 0 ∧ (l + 1 = T ∨ 0 < sqC ((M : Int), e) ((l : Int) + 1)) from
    H (T - 1) (Nat.le_refl _) (by rw [Nat.sub_self]; exact z)
  intro n
  induction n with
  | zero => intro _ h; exact ⟨T - 1 - 0, by omega, h, .inl (by omega)⟩
  | succ n ih =>
    intro hn h
    by_cases h1 : 0 < sqC ((M : Int), e) (((T - 1 - (n + 1) : Nat) : Int) + 1)
    · exact ⟨T - 1 - (n + 1), by omega, h, .inr h1⟩
    · refine ih (by omega) ?_
      rw [show ((T - 1 - n : Nat) : Int) = ((T - 1 - (n + 1) : Nat) : Int) + 1 by omega]
      omega
/-- a root, down and up -/
theorem top_sqrt (K : Nat) (hK : K = 1074) (n : Nat) (h1 : (n : Int) < 9218868437227405312) :
    (∃ r : Nat, sqX (kindR (n : Int)) (n : Int) (roM (n : Int)) (roE (n : Int)) 2 = (r : Int) ∧ (r : Int) < 9218868437227405312 ∧ rvi r * rvi r ≤ rvi n * 2 ^ K) ∧
    (∃ r : Nat, sqX (kindR (n : Int)) (n : Int) (roM (n : Int)) (roE (n : Int)) 1 = (r : Int) ∧ (r : Int) ≤ 9218868437227405312 ∧ ((r : Int) = 9218868437227405312 ∨ rvi n * 2 ^ K ≤ rvi r * rvi r)) := by
  by_cases h0 : n = 0
  · subst h0
    obtain ⟨a, -, b, c, d, -⟩ := nat_facts 0 (by omega)
    have hk : kindR ((0 : Nat) : Int) = 1 := by unfold kindR; rw [a, b, c, d]; rfl
    rw [hk]
    refine ⟨⟨0, rfl, by omega, ?_⟩, ⟨0, rfl, by omega, .inr ?_⟩⟩
    · rw [rvi_zero, Nat.zero_mul]; omega
    · rw [rvi_zero, Nat.zero_mul]; omega
  · have hk := kindR_nat n (Nat.pos_of_ne_zero h0) h1
    rw [hk]
    have hn := rvi_pos (Nat.pos_of_ne_zero h0)
    have key : ∀ mode, 0 ≤ mode → mode ≤ 4 → ∃ l : Nat, (l : Int) < 9218868437227405312 ∧ rvi l * rvi l ≤ rvi n * 2 ^ K ∧ ((l : Int) + 1 = 9218868437227405312 ∨ rvi n * 2 ^ K < rvi (l + 1) * rvi (l + 1)) ∧ ∃ D, numX false (roM (n : Int)) (roE (n : Int)) mode = (rootA D mode l).1 ∧ (sqC D l = 0 → rvi n * 2 ^ K = rvi l * rvi l) := by
      intro mode m0 m1
      obtain ⟨M, e, hf, he, hI, AN⟩ := root_big (n : Int) ⟨by omega, by omega⟩ hk mode m0 m1
      obtain ⟨l, l1, l2, l3⟩ := sq_low M e he hI 9218868437227405312 (by omega)
      have l3' : (l : Int) + 1 = 9218868437227405312 ∨ 0 < sqC ((M : Int), e) ((l : Int) + 1) := l3.elim (fun h => .inl (by omega)) .inr
      have a := AN l (by omega) l2 l3'
      obtain ⟨n1, n2, n3⟩ := nrm_back (rvi n) (-1074) hn
      rw [← fv_nat n (by omega), hf] at n1 n2 n3
      simp only [Int.natAbs_natCast] at n3
      have w : M * 2 ^ (e + 2148).toNat = rvi n * 2 ^ K := by
        rw [← n3, Nat.mul_assoc, ← Nat.pow_add]; congr 2; omega
      have c0 := sqC_nat M e he hI l
      rw [w] at c0
      refine ⟨l, by omega, ?_, ?_, ((M : Int), e), a, ?_⟩
      · rw [c0, cmpI_le] at l2; omega
      · rcases l3' with h | h
        · exact .inl h
        · right
          rw [show (l : Int) + 1 = ((l + 1 : Nat) : Int) by omega, sqC_nat M e he hI, w, cmpI_gt] at h
          omega
      · intro h; rw [c0, cmpI_eq_zero] at h; omega
    constructor
    · obtain ⟨l, l1, l2, l3, D, l4, l5⟩ := key 2 (by omega) (by omega)
      refine ⟨l, ?_, l1, l2⟩
      show numX false (roM (n : Int)) (roE (n : Int)) 2 = _
      rw [l4]
      unfold rootA
      split
      · rfl
      · rw [if_neg (by omega)]
    · obtain ⟨l, l1, l2, l3, D, l4, l5⟩ := key 1 (by omega) (by omega)
      by_cases hc : sqC D l = 0
      · refine ⟨l, ?_, by omega, .inr (by have := l5 hc; omega)⟩
        show numX false (roM (n : Int)) (roE (n : Int)) 1 = _
        rw [l4]; unfold rootA; rw [if_pos hc]
      · refine ⟨l + 1, ?_, by omega, ?_⟩
        · show numX false (roM (n : Int)) (roE (n : Int)) 1 = _
          rw [l4]; unfold rootA; rw [if_neg hc, if_pos (.inl rfl)]; rfl
        · rcases l3 with h | h
          · exact .inl (by omega)
          · exact .inr (by omega)
/-- what the law says, plain -/
theorem top_root (n : Nat) (h1 : (n : Int) < 9218868437227405312) :
    ∃ a b c d : Nat, sqX (kindR (n : Int)) (n : Int) (roM (n : Int)) (roE (n : Int)) 2 = (a : Int) ∧ (a : Int) ≤ 9218868437227405312 ∧
      sqX (kindR (n : Int)) (n : Int) (roM (n : Int)) (roE (n : Int)) 1 = (c : Int) ∧ (c : Int) ≤ 9218868437227405312 ∧
      pX (kindP (a : Int) (a : Int)) (sgx (a : Int) (a : Int)) (mulD (fv (a : Int)) (fv (a : Int))) 2 = (b : Int) ∧ (b : Int) ≤ 9218868437227405312 ∧
      pX (kindP (c : Int) (c : Int)) (sgx (c : Int) (c : Int)) (mulD (fv (c : Int)) (fv (c : Int))) 1 = (d : Int) ∧ (d : Int) ≤ 9218868437227405312 ∧
      b ≤ n ∧ n ≤ d := by
  obtain ⟨K, hK⟩ : ∃ K : Nat, K = 1074 := ⟨_, rfl⟩
  obtain ⟨⟨a, a1, a2, a3⟩, ⟨c, c1, c2, c3⟩⟩ := top_sqrt K hK n h1
  have hp := Nat.two_pow_pos K
  obtain ⟨⟨b, b1, b2, b3⟩, -⟩ := top_mul K hK a a2
  have hb : b ≤ n := rvi_inj_le (Nat.le_of_mul_le_mul_right (Nat.le_trans b3 a3) hp)
  by_cases hc : (c : Int) = 9218868437227405312
  · have hc9 : c = 9218868437227405312 := by omega
    refine ⟨a, b, c, c, a1, by omega, c1, c2, b1, by omega, ?_, c2, hb, by omega⟩
    obtain ⟨x1, -, x2, x3, x4, -⟩ := nat_facts c c2
    have hk : kindP (c : Int) (c : Int) = 1 := by
      unfold kindP
      rw [x2, x3, x4, decide_eq_true hc, decide_eq_false (show ¬ (c : Int) = 0 by omega)]; rfl
    rw [hk, show sgx (c : Int) (c : Int) = false by unfold sgx; rw [x1]; rfl, hc]; rfl
  · obtain ⟨-, ⟨d, d1, d2, d3⟩⟩ := top_mul K hK c (by omega)
    refine ⟨a, b, c, d, a1, by omega, c1, c2, b1, by omega, d1, d2, hb, ?_⟩
    rcases c3 with h | h
    · exact absurd h hc
    · rcases d3 with h9 | h9
      · omega
      · exact rvi_inj_le (Nat.le_of_mul_le_mul_right (Nat.le_trans h h9) hp)
end Go.Ulp

namespace Go.Ulp
open Go.RowKit
def U64 (x : Int) : Prop := 0 ≤ x ∧ x < 18446744073709551616
theorem cmpI_leS (a b : Int) : cmpI a b ≤ 0 ↔ a ≤ b := by unfold cmpI; split <;> (try split) <;> omega
end Go.Ulp
namespace Go.Proofs.YtpgmchpdpgahfaaGreatDoor
open Go.RowKit Go.Ulp
set_option linter.unusedVariables false
set_option linter.unusedSimpArgs false
set_option maxHeartbeats 400000
theorem orderCmp_num (x y : Int) (hx : U64 x) (hy : U64 y) (nx : classOf x ≠ 5) (ny : classOf y ≠ 5) (w : World) :
    Calls Tryz.prog 8 #[.int .u64 x, .int .u64 y] w fun e w' => e = .returned (.tuple #[.int .i64 (cmpI (rankOf x) (rankOf y)), .bool true]) ∧ w = w' := by
  have R := hid (fun w => rank_num x hx.1 hx.2 nx w)
  have S := hid (fun w => rank_num y hy.1 hy.2 ny w)
  clear nx ny
  go_enter Tryz.func8, Tryz.ntmps8
  go_wp2_with (first | (go_at_call 22; (first | ((with_reducible refine (R.out _).mono ?_)) | ((with_reducible refine (S.out _).mono ?_))); rintro e w' ⟨rfl, rfl⟩) | (go_at_call 23; refine (cmpInt_any _ _ _).mono ?_; rintro e w' ⟨rfl, rfl⟩))
  go_ret2
  exact ⟨rfl, rfl⟩
end Go.Proofs.YtpgmchpdpgahfaaGreatDoor

set_option linter.unusedVariables false
set_option linter.unusedSimpArgs false
namespace Go.Ulp
open Go.RowKit
/-- n errors, none of them one -/
def ErrZ (w : World) (g n : Nat) : Prop := ∀ j, j < n → w.cell? ⟨g, j, none⟩ = some (.int .i64 0)
theorem ErrZ.below {w w' : World} {g n : Nat} (h : ErrZ w g n) (hb : Below w.heap.size w w') : ErrZ w' g n := fun j hj =>
  (hb.cell (p := ⟨g, j, none⟩) (World.block_lt_of_cell? w _ (h j hj))).trans (h j hj)
theorem ErrZ.made3 {w : World} {t : TypeId} : ErrZ (w.alloc (.cells #[.int .i64 0, .int .i64 0, .int .i64 0] t)) w.heap.size 3 := by
  intro j hj
  rcases (show j = 0 ∨ j = 1 ∨ j = 2 by omega) with e | e | e <;> subst e <;> (rw [World.cell?_alloc_at (hn := rfl)]; rfl)
theorem ErrZ.made4 {w : World} {t : TypeId} : ErrZ (w.alloc (.cells #[.int .i64 0, .int .i64 0, .int .i64 0, .int .i64 0] t)) w.heap.size 4 := by
  intro j hj
  rcases (show j = 0 ∨ j = 1 ∨ j = 2 ∨ j = 3 by omega) with e | e | e | e <;> subst e <;> (rw [World.cell?_alloc_at (hn := rfl)]; rfl)
end Go.Ulp
namespace Go.Proofs.YtpgmchpdpgahfaaGreatDoor
open Go.RowKit Go.Ulp
set_option linter.unusedVariables false
set_option linter.unusedSimpArgs false
set_option maxHeartbeats 2000000
set_option maxRecDepth 100000
theorem topOk_any (g n cap : Nat) (w : World) (h : ErrZ w g n) (hn : n ≤ 1000) :
    Calls Tryz.prog 9 #[.slice (some ⟨g, 0, none⟩) n cap] w fun e w' => e = .returned (.bool true) ∧ Below w.heap.size w w' := by
  have H := hid h
  clear h
  go_enter Tryz.func9, Tryz.ntmps9
  go_wp2_with fail
  go_loopw [7] (fun s7 wr => ∃ j : Nat, s7 = .int .i64 (j : Int) ∧ j ≤ n ∧ Below w.heap.size w wr) (fun s7 _ => n - (intOf s7).toNat)
  case atStart => exact ⟨0, rfl, by omega, Below.refl _ _⟩
  case round =>
    obtain ⟨j, rfl, hj, hb⟩ := hrel
    by_cases hjn : j < n
    · have hc := H.out.below hb j hjn
      have g1 : (j : Int) < (n : Int) := by omega
      have wI : IntKind.i64.wrap ((j : Int) + 1) = (j : Int) + 1 := IntWalk.i64_in _ (by omega)
      go_wp2_with fail
      go_roundw
      case rel => exact ⟨j + 1, by go_num, by omega, hb⟩
      case measure => simp [intOf]; omega
    · have g1 : ¬ (j : Int) < (n : Int) := by omega
      go_wp2_with fail
      go_ret
      exact ⟨rfl, hb⟩
theorem lives_any (w : World) (hT : Tab 0 w) (hT10 : Tab10 w) :
    Calls Tryz.prog 4 #[] w fun e w' => e = .returned (.bool true) ∧ Below w.heap.size w w' := by
  have LA := hid (fun w t => lv_a w t)
  have LB := hid (fun w t => lv_b w t)
  have LS := hid (fun w t => lv_s w t)
  have LT := hid (fun w t t10 => lv_t w t t10)
  have LH := hid (fun w t t10 => lv_h w t t10)
  have HT := hid hT
  have HT10 := hid hT10
  clear hT hT10
  have OK := hid (fun g w (h : ErrZ w g 3) => topOk_any g 3 3 w h (by omega))
  go_enter Tryz.func4, Tryz.ntmps4
  go_wp2_with (first
    | (go_at_call 10; first
        | ((with_reducible refine (LA.out _ HT.out).mono ?_); rintro en w1 ⟨rfl, hb1⟩)
        | ((with_reducible refine (LB.out _ (HT.out.below hb1)).mono ?_); rintro en w2 ⟨rfl, hb2⟩))
    | (go_at_call 11; (with_reducible refine (LS.out _ (HT.out.below (below_trans hb1 hb2))).mono ?_); rintro en w3 ⟨rfl, hb3⟩; have yb3 := below_trans (below_trans hb1 hb2) hb3)
    | (go_at_call 9; (with_reducible refine (OK.out _ _ ErrZ.made3).mono ?_); rintro en w4 ⟨rfl, hb4⟩; have yb4 := below_trans (below_trans yb3 (below_alloc _ _)) hb4)
    | (go_at_call 12; (with_reducible refine (LT.out _ (HT.out.below yb4) (HT10.out.below yb4)).mono ?_); rintro en w5 ⟨rfl, hb5⟩; have yb5 := below_trans yb4 hb5)
    | (go_at_call 13; (with_reducible refine (LH.out _ (HT.out.below yb5) (HT10.out.below yb5)).mono ?_); rintro en w6 ⟨rfl, hb6⟩))
  go_ret
  exact ⟨rfl, below_trans yb5 hb6⟩
theorem topRoot_walk (x : Int) (hx : 0 ≤ x ∧ x < 18446744073709551616) (w : World) (hT : Tab 0 w) (hT10 : Tab10 w) :
    Calls Tryz.prog 3 #[.int .u64 x] w fun e w' => e = .returned (.bool true) ∧ Below w.heap.size w w' := by
  have LV := hid (fun w t t10 => lives_any w t t10)
  have CL := hid (fun w => class_any x hx.1 hx.2 w)
  have HT := hid hT
  have HT10 := hid hT10
  clear hT hT10
  by_cases c4 : 4 ≤ classOf x
  · generalize classOf x = cx at *
    go_enter Tryz.func3, Tryz.ntmps3
    go_wp2_with (first | (go_at_call 4; first | ((with_reducible refine (LV.out _ HT.out HT10.out).mono ?_); rintro en w1 ⟨rfl, hb1⟩) | ((with_reducible refine (LV.out _ (HT.out.below hb1) (HT10.out.below hb1)).mono ?_); rintro en w2 ⟨rfl, hb2⟩)) | (go_at_call 5; (with_reducible refine (CL.out _).mono ?_); rintro en w3 ⟨rfl, rfl⟩))
    go_ret
    exact ⟨rfl, below_trans hb1 hb2⟩
  · by_cases c63 : 9223372036854775808 ≤ x
    · generalize classOf x = cx at *
      go_enter Tryz.func3, Tryz.ntmps3
      go_wp2_with (first | (go_at_call 4; first | ((with_reducible refine (LV.out _ HT.out HT10.out).mono ?_); rintro en w1 ⟨rfl, hb1⟩) | ((with_reducible refine (LV.out _ (HT.out.below hb1) (HT10.out.below hb1)).mono ?_); rintro en w2 ⟨rfl, hb2⟩)) | (go_at_call 5; (with_reducible refine (CL.out _).mono ?_); rintro en w3 ⟨rfl, rfl⟩))
      go_ret
      exact ⟨rfl, below_trans hb1 hb2⟩
    · obtain ⟨n, rfl⟩ := Int.eq_ofNat_of_zero_le hx.1
      have h1 : (n : Int) < 9218868437227405312 := by
        have h := class_val (n : Int) hx.1 hx.2
        unfold absOf at h
        omega
      obtain ⟨a, b, c, d, a1, a2, c1, c2, b1, b2, d1, d2, hbn, hnd⟩ := top_root n h1
      have S2 := hid (fun w t => sqrt_any (n : Int) hx 2 w t)
      have S1 := hid (fun w t => sqrt_any (n : Int) hx 1 w t)
      have M2 := hid (fun w t => prodMul_any (a : Int) (a : Int) ⟨by omega, by omega⟩ ⟨by omega, by omega⟩ 2 w t)
      have M1 := hid (fun w t => prodMul_any (c : Int) (c : Int) ⟨by omega, by omega⟩ ⟨by omega, by omega⟩ 1 w t)
      rw [show ∀ x, mdX 2 x = x from fun x => rfl, show ∀ x, mdC 2 x = x from fun x => rfl, show mdE 2 = 0 from rfl] at S2 M2
      rw [show ∀ x, mdX 1 x = x from fun x => rfl, show ∀ x, mdC 1 x = x from fun x => rfl, show mdE 1 = 0 from rfl] at S1 M1
      rw [a1] at S2
      rw [c1] at S1
      rw [b1] at M2
      rw [d1] at M1
      have fb := nat_facts b b2
      have fn := nat_facts n (by omega)
      have fd := nat_facts d d2
      have O1 := hid (fun w => orderCmp_num (b : Int) (n : Int) ⟨by omega, by omega⟩ ⟨by omega, by omega⟩ fb.2.2.2.2.2 fn.2.2.2.2.2 w)
      have O2 := hid (fun w => orderCmp_num (n : Int) (d : Int) ⟨by omega, by omega⟩ ⟨by omega, by omega⟩ fn.2.2.2.2.2 fd.2.2.2.2.2 w)
      rw [fb.2.1, fn.2.1] at O1
      rw [fn.2.1, fd.2.1] at O2
      obtain ⟨m1, hm1⟩ : ∃ m, m = cmpI (b : Int) (n : Int) := ⟨_, rfl⟩
      obtain ⟨m2, hm2⟩ : ∃ m, m = cmpI (n : Int) (d : Int) := ⟨_, rfl⟩
      have g1 : m1 ≤ 0 := by rw [hm1]; exact (cmpI_leS _ _).2 (by omega)
      have g2 : m2 ≤ 0 := by rw [hm2]; exact (cmpI_leS _ _).2 (by omega)
      rw [← hm1] at O1
      rw [← hm2] at O2
      have OK := hid (fun g w (h : ErrZ w g 4) => topOk_any g 4 4 w h (by omega))
      have hx3 := hx.2
      generalize sqB (kindR (n : Int)) (roM (n : Int)) (roE (n : Int)) 2 = C2 at *
      generalize sqB (kindR (n : Int)) (roM (n : Int)) (roE (n : Int)) 1 = C1 at *
      generalize pC (kindP (a : Int) (a : Int)) (mulD (fv (a : Int)) (fv (a : Int))) 2 = C4 at *
      generalize pC (kindP (c : Int) (c : Int)) (mulD (fv (c : Int)) (fv (c : Int))) 1 = C3 at *
      generalize classOf (n : Int) = cx at *
      clear a1 c1 b1 d1 fb fn fd hm1 hm2 hbn hnd hx h1 a2 c2 b2 d2 hx3
      obtain ⟨X, hX⟩ : ∃ X, X = (n : Int) := ⟨_, rfl⟩
      rw [← hX] at S2 S1 O1 O2 CL c63 ⊢
      clear hX
      go_enter Tryz.func3, Tryz.ntmps3
      go_wp2_with (first
        | (go_at_call 4; first | ((with_reducible refine (LV.out _ HT.out HT10.out).mono ?_); rintro en w1 ⟨rfl, hb1⟩) | ((with_reducible refine (LV.out _ (HT.out.below hb1) (HT10.out.below hb1)).mono ?_); rintro en w2 ⟨rfl, hb2⟩))
        | (go_at_call 5; (with_reducible refine (CL.out _).mono ?_); rintro en w3 ⟨rfl, rfl⟩)
        | (go_at_call 6; first
            | ((with_reducible refine (S2.out _ (HT.out.below hb1)).mono ?_); rintro en w4 ⟨rfl, hb4⟩; have y4 := below_trans hb1 hb4)
            | ((with_reducible refine (S1.out _ (HT.out.below y5)).mono ?_); rintro en w6 ⟨rfl, hb6⟩; have y6 := below_trans y5 hb6))
        | (go_at_call 7; first
            | ((with_reducible refine (M2.out _ (HT.out.below y4)).mono ?_); rintro en w5 ⟨rfl, hb5⟩; have y5 := below_trans y4 hb5)
            | ((with_reducible refine (M1.out _ (HT.out.below y6)).mono ?_); rintro en w7 ⟨rfl, hb7⟩; have y7 := below_trans y6 hb7))
        | (go_at_call 8; first | ((with_reducible refine (O1.out _).mono ?_); rintro en w8 ⟨rfl, rfl⟩) | ((with_reducible refine (O2.out _).mono ?_); rintro en w8 ⟨rfl, rfl⟩))
        | (go_at_call 9; (with_reducible refine (OK.out _ _ ErrZ.made4).mono ?_); rintro en w9 ⟨rfl, hb9⟩))
      go_ret
      exact ⟨rfl, below_trans (below_trans y7 (below_alloc _ _)) hb9⟩
end Go.Proofs.YtpgmchpdpgahfaaGreatDoor

set_option linter.unusedVariables false
set_option linter.unusedSimpArgs false
namespace Go.Ulp
open Go.RowKit Go.WideShapes Go.ChangeShapes Go.Joins Go.Deep
section
variable {H : Type} {enc : TypeId × Value → H} {P : Program} {w : World} {base : Nat} {spare : Nat → Bool} {held : Bool}
theorem trodAll_still {w' : World} : ∀ {ts : List TypeId} {vs : List Value} {ds : List (DataW H)} {ps : List MemPlace}, DataW.TrodAll enc P w base spare held ts vs ds ps → (∀ p ∈ ps, w.sameAt w' p) → DataW.TrodAll enc P w' base spare held ts vs ds ps
  | [], _, _, _, h, _ => by
    obtain ⟨rfl, rfl, rfl⟩ := trodAll_nil h
    exact trodAll_mk0
  | _ :: _, _, _, _, h, hs => by
    obtain ⟨v, vs, d, ds, p, q, rfl, rfl, rfl, ⟨n, h1⟩, h2⟩ := trodAll_cons h
    exact ⟨p, q, ⟨n, DataW.trod_carry n _ _ _ h1 (fun x hx => hs x (List.mem_append_left _ hx))⟩, trodAll_still h2 (fun x hx => hs x (List.mem_append_right _ hx)), rfl⟩
theorem post_reads {f : Func} {s : ChangeSpec} {apart fresh handsOn : Bool} {W W' : World} {args : Array Value} {v : Value} {ds : List (DataW H)} {p : List MemPlace}
    (hW : DataW.Whole enc P f.params.toList s.vars apart W args.toList ds [] (p ++ [])) (hA : DataW.TrodAll enc P W 0 (fun _ => true) true f.params.toList args.toList ds p)
    (K : Kids P (· < P.types.size)) (full : ∀ t e, t < P.types.size → P.underlying t = some (.slice e) → 0 < P.cellsOf e) (hts : ∀ t ∈ f.params.toList, t < P.types.size)
    (hres : ∀ b, DataW.TrodAll enc P W' b (fun _ => false) handsOn f.resultTypes.toList (v.resultList f.resultTypes.size) (s.fn H (ds ++ [])).results [])
    (hargs : (s.fn H (ds ++ [])).args = ds) (hvars : DataW.TrodVars enc P W' (fun b => decide (b < W.heap.size)) s.vars (s.fn H (ds ++ [])).vars [])
    (hb : Below W.heap.size W W') : s.post enc P f apart fresh handsOn false W args v W' := by
  have hlt : ∀ x ∈ p, x.block < W.heap.size := fun x hx => hW.lt x (List.mem_append_left _ hx)
  have h1 := DataW.TrodAll.respare (spare' := fun b => decide (b < W.heap.size)) K full hts hA (fun x hx => by simpa using hlt x hx)
  have h2 := trodAll_still (w' := W') h1 (fun x hx => hb.same (hlt x hx))
  refine ⟨ds, [], p ++ [], [], p, [], hW, hres _, ?_, hvars, hb.frame _, fun h => by cases h⟩
  rw [hargs]; exact h2
end
end Go.Ulp
set_option linter.unusedVariables false
set_option linter.unusedSimpArgs false
namespace Go.Ulp
open Go.RowKit Go.WideShapes Go.ChangeShapes Go.Joins Go.Deep
section
variable {H : Type} {enc : TypeId × Value → H} {P : Program} {w : World} {base : Nat} {spare : Nat → Bool} {held : Bool}
end
end Go.Ulp
set_option linter.unusedVariables false
set_option linter.unusedSimpArgs false
namespace Go.Ulp
open Go.RowKit Go.WideShapes Go.ChangeShapes Go.Joins Go.Deep
section
variable {H : Type} {enc : TypeId × Value → H} {P : Program} {w : World} {base : Nat} {spare : Nat → Bool} {held : Bool}
end
end Go.Ulp

set_option linter.unusedVariables false
set_option linter.unusedSimpArgs false
namespace Go.Proofs.YtpgmchpdpgahfaaGreatDoor
open Go Go.RowKit Go.Ulp Go.ChangeShapes Go.WideShapes Go.ChangeAt
theorem gTab : Tryz.prog.globalNamed "math/bits.deBruijn32tab" = some 0 := by kernel_rfl
def tabZ : List Int := Lib.deBruijn32tab.map fun n : Nat => (n : Int)
end Go.Proofs.YtpgmchpdpgahfaaGreatDoor

set_option linter.unusedVariables false
set_option linter.unusedSimpArgs false
namespace Go.Proofs.YtpgmchpdpgahfaaGreatDoor
open Go Go.RowKit Go.Ulp Go.ChangeShapes Go.WideShapes Go.ChangeAt
def laidV : List (String × DataW Unit) := [("math/bits.deBruijn32tab", Rows.laid_math_bits_deBruijn32tab), ("math/bits.deBruijn64tab", Rows.laid_math_bits_deBruijn64tab), ("internal/strconv.uint64pow10", Rows.laid_internal_strconv_uint64pow10), ("unicode/utf8.acceptRanges", Rows.laid_unicode_utf8_acceptRanges), ("strconv.ErrRange", Rows.laid_strconv_ErrRange), ("strconv.ErrSyntax", Rows.laid_strconv_ErrSyntax), ("unicode/utf8.first", Rows.laid_unicode_utf8_first)]
theorem gTenV : Tryz.prog.globalNamed "internal/strconv.uint64pow10" = some 6 := by kernel_rfl
theorem laid32V_eq : (("math/bits.deBruijn32tab", Rows.laid_math_bits_deBruijn32tab) : String × DataW Unit) = ("math/bits.deBruijn32tab", Lib.tabData .u8 tabZ) := by rfl
theorem laid10V_eq : (("internal/strconv.uint64pow10", Rows.laid_internal_strconv_uint64pow10) : String × DataW Unit) = ("internal/strconv.uint64pow10", Lib.tabData .u64 Lib.pow10Tab) := by rfl
theorem plainV {W : World} (h : laidMetH Tryz.prog laidV W) : laidMet Tryz.prog laidV W := by
  rwa [MakeChecks.laidMetH_plain _ _ _ (by kernel_rfl)] at h
theorem tabV {W : World} (h : laidMetH Tryz.prog laidV W) : Tab 0 W := by
  have h := plainV h
  unfold laidV at h
  rw [laid32V_eq] at h
  have h1 := Lib.tabIs_of_head gTab (by kernel_rfl) Tryz.underlying141 Tryz.underlying5 (by kernel_rfl) (by kernel_rfl) h
  intro j hj
  have h2 := h1.cell gTab j (by unfold tabZ; rw [List.length_map]; exact hj)
  rw [h2]
  unfold tabZ
  congr 2
  rw [List.getD_eq_getElem?_getD, List.getElem?_map, List.getElem?_eq_getElem hj, List.getD_eq_getElem?_getD, List.getElem?_eq_getElem hj]; rfl
theorem tenV {W : World} (h : laidMetH Tryz.prog laidV W) : Tab10 W := by
  have h := laidMet.tail (laidMet.tail (plainV h))
  rw [laid10V_eq] at h
  exact Lib.tabIs_of_head gTenV (by kernel_rfl) Tryz.underlying177 Tryz.underlying22 (by kernel_rfl) (by kernel_rfl) h
theorem doorV_met (os : Os) (args : Array Value) : laidMetH Tryz.prog laidV ((World.laidAll Tryz.prog os laidV).forCall (fun _ _ => 0) ⟨#[], args, []⟩).memory := by
  rw [MakeChecks.laidMetH_plain _ _ _ (by kernel_rfl)]; exact laidMet_laidAll _ (by kernel_rfl) (by kernel_rfl)
theorem shapedV (os : Os) : (World.laidAll Tryz.prog os laidV).Shaped Tryz.prog := World.shaped_of_ZipB (by kernel_rfl) (by kernel_rfl)
end Go.Proofs.YtpgmchpdpgahfaaGreatDoor
