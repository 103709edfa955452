/- ShortSays: what the proof leans on, part 21 (Su0 Qs2 Re7 Hp Re12). -/
import Derived.Lib.AtoiErrMem
import Derived.Test.YthaelmnblgollaaGreatDoorKShortSays12
import Derived.Test.YthaelmnblgollaaGreatDoorKShortSays15
import Derived.Test.YthaelmnblgollaaGreatDoorKShortSays17
import Derived.Test.YthaelmnblgollaaGreatDoorKShortSays18
import Derived.Test.YthaelmnblgollaaGreatDoorKShortSays19
import Derived.Test.YthaelmnblgollaaGreatDoorKShortSays20
set_option linter.unusedVariables false
set_option linter.unusedSimpArgs false
namespace Go.Ulp
open Go.RowKit
/-- a value, rounded -/
def rX (D : Dy) (mode : Int) : Int := numX (decide (D.1 < 0)) D.1.natAbs D.2 mode
def rC (D : Dy) (mode : Int) : Bool := numC (decide (D.1 < 0)) D.1.natAbs D.2 mode
def isNan (x : Int) : Bool := classOf x == 5
def isInf (x : Int) : Bool := classOf x == 4
def isZer (x : Int) : Bool := classOf x == 1
theorem class_inf (x : Int) (h0 : 0 ≤ x) (h1 : x < 18446744073709551616) : classOf x = 4 ↔ absOf x = 9218868437227405312 := by
  have a := class_nan x h0 h1
  have b := class_val x h0 h1
  have c := class_bd x
  have d : classOf x = 4 ↔ (4 ≤ classOf x ∧ ¬ classOf x = 5) := by omega
  rw [d, a, b]
  omega
theorem class_zer (x : Int) (h0 : 0 ≤ x) (h1 : x < 18446744073709551616) : classOf x = 1 ↔ absOf x = 0 := by
  unfold classOf absOf expOf fracOf
  split
  · split <;> omega
  · split
    · omega
    · split <;> omega
theorem inf_bits (x : Int) (h0 : 0 ≤ x) (h1 : x < 18446744073709551616) (h : classOf x = 4) : x = if negB x then 18442240474082181120 else 9218868437227405312 := by
  have a := (class_inf x h0 h1).1 h
  unfold absOf at a
  unfold negB
  by_cases c : 9223372036854775808 ≤ x
  · rw [decide_eq_true c, if_pos rfl]; omega
  · rw [decide_eq_false c, if_neg (by simp)]; omega
theorem zer_bits (x : Int) (h0 : 0 ≤ x) (h1 : x < 18446744073709551616) (h : classOf x = 1) : x = if negB x then 9223372036854775808 else 0 := by
  have a := (class_zer x h0 h1).1 h
  unfold absOf at a
  unfold negB
  by_cases c : 9223372036854775808 ≤ x
  · rw [decide_eq_true c, if_pos rfl]; omega
  · rw [decide_eq_false c, if_neg (by simp)]; omega
/-- the value of a number over 2^1074 -/
def uV (x : Int) : Int := if classOf x < 4 then rvs (rankOf x) else 0
theorem fv_uV (x : Int) (h0 : 0 ≤ x) (h1 : x < 18446744073709551616) (h : classOf x < 4) : fv x = nrm (uV x) (-1074) := by
  unfold uV; rw [if_pos h]; exact fv_rank x h0 h1
theorem rvi_bd (B : Nat) (hB : 2098 ≤ B) (n : Nat) (h : n < 9218868437227405312) : rvi n < 2 ^ B := by
  have a := rvi_mono h
  obtain ⟨k, hk⟩ : ∃ k : Nat, k = 2046 := ⟨_, rfl⟩
  have e : (9218868437227405312 : Nat) = k * 4503599627370496 + 4503599627370496 := by omega
  rw [e, rvi_pow] at a
  exact Nat.lt_of_lt_of_le a (Nat.pow_le_pow_right (by omega) (by omega))
theorem rvs_bd (B : Nat) (hB : 2098 ≤ B) (r : Int) (h : r.natAbs < 9218868437227405312) : (rvs r).natAbs < 2 ^ B := by
  have a := rvi_bd B hB _ h
  unfold rvs
  split <;> omega
theorem uV_bd (B : Nat) (hB : 2098 ≤ B) (x : Int) (h0 : 0 ≤ x) (h1 : x < 18446744073709551616) : (uV x).natAbs < 2 ^ B := by
  unfold uV
  split
  · rename_i h
    have a : ¬ 4 ≤ classOf x := by omega
    rw [class_val x h0 h1] at a
    refine rvs_bd B hB _ ?_
    rw [rank_abs x h0 h1]
    have b : 0 ≤ absOf x := by unfold absOf; omega
    split <;> omega
  · exact Nat.two_pow_pos B
theorem uV_zer (x : Int) (h0 : 0 ≤ x) (h1 : x < 18446744073709551616) (h : classOf x = 1) : uV x = 0 := by
  unfold uV
  have a := (class_zer x h0 h1).1 h
  rw [rank_abs x h0 h1, a]
  split
  · split <;> rfl
  · rfl
theorem uV_zero_iff (x : Int) (h0 : 0 ≤ x) (h1 : x < 18446744073709551616) (h : classOf x < 4) : uV x = 0 ↔ classOf x = 1 := by
  refine ⟨fun e => ?_, uV_zer x h0 h1⟩
  unfold uV at e
  rw [if_pos h] at e
  have c : cmpI (rvs (rankOf x)) (rvs 0) = 0 := by rw [e, rvs_zero]; rfl
  rw [rvs_cmp, cmpI_eq_zero, rank_abs x h0 h1] at c
  rw [class_zer x h0 h1]
  split at c <;> omega
/-- over the first i of a list: any, how many, the sum -/
def anyTo (p : Int → Bool) (L : List Nat) : Nat → Bool
  | 0 => false
  | i + 1 => anyTo p L i || p (lb L i)
def cntTo (p : Int → Bool) (L : List Nat) : Nat → Nat
  | 0 => 0
  | i + 1 => cntTo p L i + (if p (lb L i) then 1 else 0)
def sumTo (L : List Nat) : Nat → Int
  | 0 => 0
  | i + 1 => sumTo L i + uV (lb L i)
/-- the last infinite one; two that clash -/
def infTo (L : List Nat) : Nat → Int
  | 0 => 0
  | i + 1 => if isInf (lb L i) then lb L i else infTo L i
def clashTo (L : List Nat) : Nat → Bool
  | 0 => false
  | i + 1 => if isInf (lb L i) then clashTo L i || (decide (infTo L i ≠ 0) && decide (infTo L i ≠ lb L i)) else clashTo L i
def pInf (x : Int) : Bool := isInf x && !negB x
def mInf (x : Int) : Bool := isInf x && negB x
def pZer (x : Int) : Bool := isZer x && !negB x
def mZer (x : Int) : Bool := isZer x && negB x
theorem cnt_le (p : Int → Bool) (L : List Nat) : ∀ i, cntTo p L i ≤ i
  | 0 => Nat.le_refl _
  | i + 1 => by have := cnt_le p L i; unfold cntTo; split <;> omega
theorem cnt_split (L : List Nat) : ∀ i, cntTo isZer L i = cntTo pZer L i + cntTo mZer L i
  | 0 => rfl
  | i + 1 => by
    have h := cnt_split L i
    unfold cntTo
    rw [h]
    unfold pZer mZer
    cases isZer (lb L i) <;> cases negB (lb L i) <;> simp <;> omega
theorem sumTo_bd (B : Nat) (hB : 2098 ≤ B) (L : List Nat) (hL : ∀ j, lb L j < 18446744073709551616) : ∀ i, (sumTo L i).natAbs < 2 ^ (B + i)
  | 0 => Nat.two_pow_pos _
  | i + 1 => by
    have h := sumTo_bd B hB L hL i
    have h2 := uV_bd (B + i) (by omega) (lb L i) (lb_nonneg L i) (hL i)
    have := abs_add_lt h h2
    exact this
theorem inf_state (L : List Nat) (hL : ∀ j, lb L j < 18446744073709551616) : ∀ i,
    (infTo L i = 0 ∧ anyTo pInf L i = false ∧ anyTo mInf L i = false ∧ clashTo L i = false)
    ∨ (infTo L i = 9218868437227405312 ∧ anyTo pInf L i = true ∧ clashTo L i = anyTo mInf L i)
    ∨ (infTo L i = 18442240474082181120 ∧ anyTo mInf L i = true ∧ clashTo L i = anyTo pInf L i)
  | 0 => .inl ⟨rfl, rfl, rfl, rfl⟩
  | i + 1 => by
    have h := inf_state L hL i
    have h0 := lb_nonneg L i
    have h1 := hL i
    rw [show infTo L (i + 1) = if isInf (lb L i) then lb L i else infTo L i from rfl, show clashTo L (i + 1) = if isInf (lb L i) then clashTo L i || (decide (infTo L i ≠ 0) && decide (infTo L i ≠ lb L i)) else clashTo L i from rfl,
      show anyTo pInf L (i + 1) = (anyTo pInf L i || pInf (lb L i)) from rfl, show anyTo mInf L (i + 1) = (anyTo mInf L i || mInf (lb L i)) from rfl]
    cases hi : isInf (lb L i)
    · have hp : pInf (lb L i) = false := by unfold pInf; rw [hi]; rfl
      have hm : mInf (lb L i) = false := by unfold mInf; rw [hi]; rfl
      rw [hp, hm, Bool.or_false, Bool.or_false, if_neg (by simp), if_neg (by simp)]
      exact h
    · have e := inf_bits (lb L i) h0 h1 (beq_iff_eq.1 hi)
      rw [if_pos rfl, if_pos rfl]
      cases hn : negB (lb L i)
      · have hp : pInf (lb L i) = true := by unfold pInf; rw [hi, hn]; rfl
        have hm : mInf (lb L i) = false := by unfold mInf; rw [hi, hn]; rfl
        rw [hn, if_neg (by simp)] at e
        rw [hp, hm, e, Bool.or_false, Bool.or_true]
        right; left
        refine ⟨rfl, rfl, ?_⟩
        rcases h with ⟨a, b, c, d⟩ | ⟨a, b, c⟩ | ⟨a, b, c⟩
        · rw [a, d, c]; rfl
        · rw [a, c]; simp
        · rw [a, b]; simp
      · have hp : pInf (lb L i) = false := by unfold pInf; rw [hi, hn]; rfl
        have hm : mInf (lb L i) = true := by unfold mInf; rw [hi, hn]; rfl
        rw [hn, if_pos rfl] at e
        rw [hp, hm, e, Bool.or_false, Bool.or_true]
        right; right
        refine ⟨rfl, rfl, ?_⟩
        rcases h with ⟨a, b, c, d⟩ | ⟨a, b, c⟩ | ⟨a, b, c⟩
        · rw [a, d, b]; rfl
        · rw [a, b]; simp
        · rw [a, c]; simp
/-- what is told of a list's sum -/
def sNan (L : List Nat) : Bool := anyTo isNan L L.length || (anyTo pInf L L.length && anyTo mInf L L.length)
def sInf (L : List Nat) : Bool := anyTo pInf L L.length || anyTo mInf L L.length
def sDy (L : List Nat) : Dy := nrm (sumTo L L.length) (-1074)
def sumX (L : List Nat) (mode : Int) : Int :=
  if sNan L then 9221120237041090560 else if sInf L then (if anyTo mInf L L.length then 18442240474082181120 else 9218868437227405312)
  else if sumTo L L.length ≠ 0 then rX (sDy L) mode else if cntTo pZer L L.length = L.length then 0 else if cntTo mZer L L.length = L.length then 9223372036854775808 else if mode = 2 then 9223372036854775808 else 0
def sumC (L : List Nat) (mode : Int) : Bool := if sNan L then false else if sInf L then false else if sumTo L L.length ≠ 0 then rC (sDy L) mode else false
theorem addD_step (x y : Int) : addD (nrm x (-1074)) (nrm y (-1074)) = nrm (x + y) (-1074) := by
  have h := nrm_add x (-1074) y (-1074) (-1074) (.inl (by omega)) (.inl (by omega))
  rw [sc_self, sc_self] at h
  exact h.symm
end Go.Ulp
namespace Go.Proofs.YthaelmnblgollaaGreatDoor
open Go.RowKit Go.Ulp
set_option linter.unusedVariables false
set_option linter.unusedSimpArgs false
set_option maxHeartbeats 1000000
set_option maxRecDepth 100000
theorem rIsNan_any (x : Int) (h0 : 0 ≤ x) (h1 : x < 18446744073709551616) (w : World) :
    Calls Tryz.prog 95 #[.int .u64 x] w fun e w' => e = .returned (.bool (isNan x)) ∧ w = w' := by
  have CL := hid (fun w => classOf_any x h0 h1 w)
  have HC := hid (show (classOf x == 5) = isNan x from rfl)
  generalize classOf x = c at *
  go_enter Tryz.func95, Tryz.ntmps95
  go_wp2_with (go_at_call 83; (with_reducible refine (CL.out _).mono ?_); rintro en w1 ⟨rfl, rfl⟩)
  go_ret
  exact ⟨ret_bool HC.out, rfl⟩
theorem rIsInf_any (x : Int) (h0 : 0 ≤ x) (h1 : x < 18446744073709551616) (w : World) :
    Calls Tryz.prog 98 #[.int .u64 x] w fun e w' => e = .returned (.bool (isInf x)) ∧ w = w' := by
  have CL := hid (fun w => classOf_any x h0 h1 w)
  have HC := hid (show (classOf x == 4) = isInf x from rfl)
  generalize classOf x = c at *
  go_enter Tryz.func98, Tryz.ntmps98
  go_wp2_with (go_at_call 83; (with_reducible refine (CL.out _).mono ?_); rintro en w1 ⟨rfl, rfl⟩)
  go_ret
  exact ⟨ret_bool HC.out, rfl⟩
theorem rIsZero_any (x : Int) (h0 : 0 ≤ x) (h1 : x < 18446744073709551616) (w : World) :
    Calls Tryz.prog 54 #[.int .u64 x] w fun e w' => e = .returned (.bool (isZer x)) ∧ w = w' := by
  have CL := hid (fun w => classOf_any x h0 h1 w)
  have HC := hid (show (classOf x == 1) = isZer x from rfl)
  generalize classOf x = c at *
  go_enter Tryz.func54, Tryz.ntmps54
  go_wp2_with (go_at_call 83; (with_reducible refine (CL.out _).mono ?_); rintro en w1 ⟨rfl, rfl⟩)
  go_ret
  exact ⟨ret_bool HC.out, rfl⟩
theorem hasVal_lt (x : Int) (h0 : 0 ≤ x) (h1 : x < 18446744073709551616) : decide (classOf x < 4) = hasVal x := by
  have a := class_val x h0 h1
  unfold hasVal
  unfold absOf at a
  rw [decide_eq_decide]; omega
theorem rHasValue_any (x : Int) (h0 : 0 ≤ x) (h1 : x < 18446744073709551616) (w : World) :
    Calls Tryz.prog 19 #[.int .u64 x] w fun e w' => e = .returned (.bool (hasVal x)) ∧ w = w' := by
  have CL := hid (fun w => classOf_any x h0 h1 w)
  have HC := hid (hasVal_lt x h0 h1)
  generalize classOf x = c at *
  go_enter Tryz.func19, Tryz.ntmps19
  go_wp2_with (go_at_call 83; (with_reducible refine (CL.out _).mono ?_); rintro en w1 ⟨rfl, rfl⟩)
  go_ret
  exact ⟨ret_bool HC.out, rfl⟩
theorem rMinus_any (x : Int) (h0 : 0 ≤ x) (h1 : x < 18446744073709551616) (w : World) :
    Calls Tryz.prog 96 #[.int .u64 x] w fun e w' => e = .returned (.bool (negB x)) ∧ w = w' := by
  go_enter Tryz.func96, Tryz.ntmps96
  go_wp2_with fail
  go_ret
  exact ⟨ret_bool rfl, rfl⟩
theorem rQuiet_any (w : World) : Calls Tryz.prog 43 #[] w fun e w' => e = .returned (.int .u64 9221120237041090560) ∧ w = w' := by
  go_enter Tryz.func43, Tryz.ntmps43
  go_wp2_with fail
  go_ret
  exact ⟨rfl, rfl⟩
theorem rInfBits_any (w : World) : Calls Tryz.prog 41 #[] w fun e w' => e = .returned (.int .u64 9218868437227405312) ∧ w = w' := by
  go_enter Tryz.func41, Tryz.ntmps41
  go_wp2_with fail
  go_ret
  exact ⟨rfl, rfl⟩
theorem rSigned_any (x : Int) (h0 : 0 ≤ x) (h1 : x < 9223372036854775808) (neg : Bool) (w : World) :
    Calls Tryz.prog 42 #[.int .u64 x, .bool neg] w fun e w' => e = .returned (.int .u64 (x + sgb neg)) ∧ w = w' := by
  cases neg
  · go_enter Tryz.func42, Tryz.ntmps42
    go_wp2_with fail
    go_ret
    exact ⟨ret_int (by unfold sgb; rw [if_neg (by simp), Int.add_zero]), rfl⟩
  · go_enter Tryz.func42, Tryz.ntmps42
    go_wp2_with fail
    go_ret
    exact ⟨ret_int (by unfold sgb; rw [if_pos rfl]), rfl⟩
theorem roundedD_any (v : Value) (D : Dy) (A T : Nat) (mode : Int) (w : World) (hq : QD 3 w D A T v) (hI : IsN D) (hA : A ≤ 10000000) (hT : T ≤ 200000) (m0 : 0 ≤ mode) (m1 : mode ≤ 4) :
    Calls Tryz.prog 49 #[v, .int .i64 0, .int .i64 mode] w (RetX w (rX D mode) (rC D mode)) := by
  have e : nrm (sg (decide (D.1 < 0)) (D.1.natAbs : Int)) D.2 = D := by rw [sg_self]; exact nrm_of_isN D hI
  exact roundedP_any v (decide (D.1 < 0)) D.1.natAbs D.2 A T mode w (by rw [e]; exact hq) hA hT m0 m1 (fun h => decide_eq_false (by omega))
theorem numberD_any (v : Value) (D : Dy) (mode : Int) (w : World) (hv : VD w D v) (hl : (limbs D.1.natAbs).length ≤ 10000) (he : -100000 ≤ D.2 ∧ D.2 ≤ 100000) (hI : IsN D) :
    Calls Tryz.prog 107 #[v, .int .i64 mode] w (RetX w (rX D mode) (rC D mode)) := by
  obtain ⟨am, cm, rfl, hN⟩ := hv
  exact number_any (decide (D.1 < 0)) am cm D.1.natAbs D.2 mode w hN hl he (fun h => by
    rcases hI with h2 | h2
    · exact h2.2
    · rw [h] at h2; omega)
end Go.Proofs.YthaelmnblgollaaGreatDoor

set_option linter.unusedVariables false
set_option linter.unusedSimpArgs false
namespace Go.Ulp
open Go.RowKit
/-- the mark -/
def stk (M t : Nat) : Nat := 4 * (M / 2 ^ t) + (if M % 2 ^ t = 0 then 0 else 1)
theorem grid_cmp (g Q P r1 r2 : Nat) (h1 : r1 < P) (h2 : r2 < P) (h0 : r1 = 0 ↔ r2 = 0) : cmpI ((g * P : Nat) : Int) ((Q * P + r1 : Nat) : Int) = cmpI ((g * P : Nat) : Int) ((Q * P + r2 : Nat) : Int) := by
  have hc : g < Q ∨ g = Q ∨ Q < g := by omega
  rcases hc with h | h | h
  · have : g * P + P ≤ Q * P := by rw [← Nat.succ_mul]; exact Nat.mul_le_mul_right P h
    rw [cmpI_l (by omega), cmpI_l (by omega)]
  · subst h
    by_cases hz : r1 = 0
    · rw [hz, h0.1 hz]
    · have : r2 ≠ 0 := fun h => hz (h0.2 h)
      rw [cmpI_l (by omega), cmpI_l (by omega)]
  · have : Q * P + P ≤ g * P := by rw [← Nat.succ_mul]; exact Nat.mul_le_mul_right P h
    rw [cmpI_g (by omega), cmpI_g (by omega)]
theorem low_cmp (b Q P r1 r2 : Nat) (h : b < Q * P) : cmpI (b : Int) ((Q * P + r1 : Nat) : Int) = cmpI (b : Int) ((Q * P + r2 : Nat) : Int) := by
  rw [cmpI_l (by omega), cmpI_l (by omega)]
/-- a number of few places against both -/
theorem stk_cmp (B f M t E F : Nat) (hB : B ≤ 18014398509481984) (hM : 1152921504606846976 ≤ M / 2 ^ t) (hF : F + 2 = E + t) :
    cmpI ((B * 2 ^ f : Nat) : Int) ((M * 2 ^ E : Nat) : Int) = cmpI ((B * 2 ^ f : Nat) : Int) ((stk M t * 2 ^ F : Nat) : Int) := by
  have hdm := Nat.div_add_mod M (2 ^ t)
  have hr := Nat.mod_lt M (Nat.two_pow_pos t)
  unfold stk
  obtain ⟨Q, hQ⟩ : ∃ Q, Q = M / 2 ^ t := ⟨_, rfl⟩
  obtain ⟨R, hR⟩ : ∃ R, R = M % 2 ^ t := ⟨_, rfl⟩
  rw [← hQ] at hM hdm ⊢
  rw [← hR] at hr hdm ⊢
  have hP : 2 ^ (E + t) = 2 ^ E * 2 ^ t := Nat.pow_add _ _ _
  have hP2 : 2 ^ (E + t) = 2 ^ F * 4 := by rw [← hF, Nat.pow_add]
  have e1 : M * 2 ^ E = Q * 2 ^ (E + t) + R * 2 ^ E := by
    rw [← hdm, Nat.add_mul, hP, Nat.mul_comm (2 ^ t) Q, Nat.mul_assoc, Nat.mul_comm (2 ^ t) (2 ^ E)]
  have e2 : (4 * Q + (if R = 0 then 0 else 1)) * 2 ^ F = Q * 2 ^ (E + t) + (if R = 0 then 0 else 1) * 2 ^ F := by
    rw [Nat.add_mul, hP2, Nat.mul_comm 4 Q, Nat.mul_assoc, Nat.mul_comm 4 (2 ^ F)]
  have p1 : 0 < 2 ^ E := Nat.two_pow_pos E
  have p2 : 0 < 2 ^ F := Nat.two_pow_pos F
  have r1 : R * 2 ^ E < 2 ^ (E + t) := by
    rw [hP, Nat.mul_comm (2 ^ E)]; exact Nat.mul_lt_mul_of_pos_right hr p1
  have r2 : (if R = 0 then 0 else 1) * 2 ^ F < 2 ^ (E + t) := by
    rw [hP2]; split <;> omega
  have r0 : R * 2 ^ E = 0 ↔ (if R = 0 then 0 else 1) * 2 ^ F = 0 := by
    by_cases h : R = 0
    · subst h; simp
    · have := Nat.mul_pos (Nat.pos_of_ne_zero h) p1
      rw [if_neg h]; omega
  rw [e1, e2]
  by_cases hf : E + t ≤ f
  · have e3 : B * 2 ^ f = B * 2 ^ (f - (E + t)) * 2 ^ (E + t) := by rw [Nat.mul_assoc, ← Nat.pow_add]; congr 2; omega
    rw [e3]
    exact grid_cmp _ _ _ _ _ r1 r2 r0
  · refine low_cmp _ _ _ _ _ ?_
    have h1 : 2 ^ f ≤ 2 ^ (E + t) := Nat.pow_le_pow_right (by omega) (by omega)
    have h2 : B * 2 ^ f ≤ 18014398509481984 * 2 ^ (E + t) := Nat.mul_le_mul hB h1
    have h3 : 1152921504606846976 * 2 ^ (E + t) ≤ Q * 2 ^ (E + t) := Nat.mul_le_mul_right _ hM
    have h4 : 0 < 2 ^ (E + t) := Nat.two_pow_pos _
    omega
theorem cmpI_mixed (a : Nat) (b : Nat) (n m : Bool) (hb : 0 < b) (h : n ≠ m) : cmpI (sg n (a : Int)) (sg m (b : Int)) = if m = true then 1 else -1 := by
  cases n <;> cases m
  · exact absurd rfl h
  · show cmpI (a : Int) (-(b : Int)) = 1
    exact cmpI_g (by omega)
  · show cmpI (-(a : Int)) (b : Int) = -1
    exact cmpI_l (by omega)
  · exact absurd rfl h
theorem sgn_cmp (a b c : Nat) (n m : Bool) (hb : 0 < b) (hc : 0 < c) (h : cmpI (a : Int) (b : Int) = cmpI (a : Int) (c : Int)) : cmpI (sg n (a : Int)) (sg m (b : Int)) = cmpI (sg n (a : Int)) (sg m (c : Int)) := by
  by_cases hn : n = m
  · subst hn
    cases n
    · exact h
    · show cmpI (-(a : Int)) (-(b : Int)) = cmpI (-(a : Int)) (-(c : Int))
      rw [cmpI_neg_neg, cmpI_neg_neg, h]
  · rw [cmpI_mixed a b n m hb hn, cmpI_mixed a c n m hc hn]
theorem stk_pos (M t : Nat) (h : 1152921504606846976 ≤ M / 2 ^ t) : 0 < stk M t ∧ 0 < M := by
  have h1 := Nat.div_le_self M (2 ^ t)
  unfold stk; omega
theorem sg_dbl (n : Bool) (a : Nat) (E : Nat) : 2 * sg n ((a * 2 ^ E : Nat) : Int) = sg n ((a * 2 ^ (E + 1) : Nat) : Int) := by
  rw [Nat.pow_succ, ← Nat.mul_assoc]
  cases n
  · show 2 * ((a * 2 ^ E : Nat) : Int) = ((a * 2 ^ E * 2 : Nat) : Int); omega
  · show 2 * -((a * 2 ^ E : Nat) : Int) = -((a * 2 ^ E * 2 : Nat) : Int); omega
/-- with the mark it is rounded as without -/
theorem stk_num (neg : Bool) (M t : Nat) (x mode : Int) (m0 : 0 ≤ mode) (m1 : mode ≤ 4) (hM : 1152921504606846976 ≤ M / 2 ^ t) :
    numX neg (stk M t) (x + t - 2) mode = numX neg M x mode ∧ numC neg (stk M t) (x + t - 2) mode = numC neg M x mode := by
  obtain ⟨p1, p2⟩ := stk_pos M t hM
  obtain ⟨s, hs⟩ : ∃ s : Nat, (s : Int) = max 0 (2 - x) := ⟨(max 0 (2 - x)).toNat, by omega⟩
  have a := number_rnd neg M x mode s m0 m1 (fun h => by omega) (by omega)
  have b := number_rnd neg (stk M t) (x + t - 2) mode s m0 m1 (fun h => by omega) (by omega)
  obtain ⟨E, hE⟩ : ∃ E, E = (x + 1074 + s).toNat := ⟨_, rfl⟩
  obtain ⟨F, hF⟩ : ∃ F, F = (x + t - 2 + 1074 + s).toNat := ⟨_, rfl⟩
  have hEF : F + 2 = E + t := by omega
  rw [← hE] at a
  rw [← hF] at b
  have q1 : 0 < M * 2 ^ E := Nat.mul_pos p2 (Nat.two_pow_pos _)
  have q2 : 0 < stk M t * 2 ^ F := Nat.mul_pos p1 (Nat.two_pow_pos _)
  have q3 : 0 < M * 2 ^ (E + 1) := Nat.mul_pos p2 (Nat.two_pow_pos _)
  have q4 : 0 < stk M t * 2 ^ (F + 1) := Nat.mul_pos p1 (Nat.two_pow_pos _)
  have a2 : Rnd s (sg neg ((stk M t * 2 ^ F : Nat) : Int)) mode (numX neg M x mode) (numC neg M x mode) := by
    refine a.same (fun r => ?_) (fun r => ?_) ?_
    · obtain ⟨q, h, n, hq, hb⟩ := rT_rep s r
      unfold cR
      rw [hq]
      exact sgn_cmp _ _ _ n neg q1 q2 (stk_cmp q (h + s) M t E F (by omega) hM hEF)
    · obtain ⟨q, h, n, hq, hb⟩ := rT_mid_rep s r
      unfold cM
      rw [hq, sg_dbl, sg_dbl, cmpI_swap, cmpI_swap (sg neg ((stk M t * 2 ^ (F + 1) : Nat) : Int))]
      congr 1
      exact sgn_cmp _ _ _ n neg q3 q4 (stk_cmp (2 * q + 1) (h + s) M t (E + 1) (F + 1) (by omega) hM (by omega))
    · cases neg
      · rw [cmpI_g (show (0 : Int) < sg false ((M * 2 ^ E : Nat) : Int) by show (0 : Int) < ((M * 2 ^ E : Nat) : Int); omega), cmpI_g (show (0 : Int) < sg false ((stk M t * 2 ^ F : Nat) : Int) by show (0 : Int) < ((stk M t * 2 ^ F : Nat) : Int); omega)]
      · rw [cmpI_l (show sg true ((M * 2 ^ E : Nat) : Int) < (0 : Int) by show -((M * 2 ^ E : Nat) : Int) < 0; omega), cmpI_l (show sg true ((stk M t * 2 ^ F : Nat) : Int) < (0 : Int) by show -((stk M t * 2 ^ F : Nat) : Int) < 0; omega)]
  exact b.uniq a2
/-- the quotient's two floors -/
theorem floor_two (m d K : Nat) (t : Nat) (hd : 0 < d) : m * 2 ^ K / d = m * 2 ^ (K + t) / d / 2 ^ t := by
  rw [Nat.div_div_eq_div_mul, Nat.pow_add, ← Nat.mul_assoc, Nat.mul_div_mul_right _ _ (Nat.two_pow_pos t)]
/-- the program's mark and the reference's: what a division leaves -/
def qst (m d K : Nat) : Nat := 4 * (m * 2 ^ K / d) + (if m * 2 ^ K % d = 0 then 0 else 1)
theorem qst_two (m d K t : Nat) (hd : 0 < d) : qst m d K = stk (qst m d (K + t)) (t + 2) := by
  obtain ⟨A, hA⟩ : ∃ A, A = m * 2 ^ K := ⟨_, rfl⟩
  have hA2 : m * 2 ^ (K + t) = A * 2 ^ t := by rw [hA, Nat.pow_add, Nat.mul_assoc]
  unfold qst stk
  rw [← hA, hA2]
  obtain ⟨l, hl⟩ : ∃ l, l = (if A * 2 ^ t % d = 0 then 0 else 1) := ⟨_, rfl⟩
  rw [← hl]
  obtain ⟨H, hH⟩ : ∃ H, H = A * 2 ^ t / d := ⟨_, rfl⟩
  have hdm := Nat.div_add_mod (A * 2 ^ t) d
  rw [← hH] at hdm ⊢
  have hl2 : l ≤ 1 := by rw [hl]; split <;> omega
  have e1 : (4 * H + l) / 2 ^ (t + 2) = A / d := by
    rw [show 2 ^ (t + 2) = 4 * 2 ^ t by rw [Nat.pow_add]; omega, ← Nat.div_div_eq_div_mul, show (4 * H + l) / 4 = H by omega, hH, Nat.div_div_eq_div_mul, Nat.mul_div_mul_right _ _ (Nat.two_pow_pos t)]
  have p := Nat.two_pow_pos t
  have e2 : (4 * H + l) % 2 ^ (t + 2) = 0 ↔ A % d = 0 := by
    rw [show 2 ^ (t + 2) = 4 * 2 ^ t by rw [Nat.pow_add]; omega]
    constructor
    · intro h
      have h1 : (4 * H + l) % 4 = 0 := by
        have := Nat.mod_mul_right_mod (4 * H + l) 4 (2 ^ t)
        rw [h] at this; omega
      have l0 : l = 0 := by omega
      have hz : A * 2 ^ t % d = 0 := by
        rw [hl] at l0
        by_cases hh : A * 2 ^ t % d = 0
        · exact hh
        · rw [if_neg hh] at l0; omega
      rw [l0, Nat.add_zero, Nat.mul_mod_mul_left] at h
      have h2 : H % 2 ^ t = 0 := by omega
      have h3 := Nat.div_add_mod H (2 ^ t)
      rw [h2, Nat.add_zero] at h3
      have h4 : A * 2 ^ t = d * (H / 2 ^ t) * 2 ^ t := by
        rw [Nat.mul_assoc, Nat.mul_comm (H / 2 ^ t), h3]; omega
      have h5 : A = d * (H / 2 ^ t) := Nat.eq_of_mul_eq_mul_right p h4
      rw [h5, Nat.mul_mod_right]
    · intro h
      have h1 := Nat.div_add_mod A d
      rw [h, Nat.add_zero] at h1
      have h2 : A * 2 ^ t = d * (A / d * 2 ^ t) := by rw [← Nat.mul_assoc, h1]
      have h3 : A * 2 ^ t % d = 0 := by rw [h2, Nat.mul_mod_right]
      rw [hl, if_pos h3, hH, h2, Nat.mul_div_cancel_left _ hd, Nat.add_zero, Nat.mul_mod_mul_left, Nat.mul_mod_left]
  rw [e1]
  congr 1
  by_cases h : A % d = 0
  · rw [if_pos h, if_pos (e2.2 h)]
  · rw [if_neg h, if_neg (fun h9 => h (e2.1 h9))]
end Go.Ulp
set_option linter.unusedVariables false
set_option linter.unusedSimpArgs false
namespace Go.Ulp
open Go.RowKit
end Go.Ulp
namespace Go.Proofs.YthaelmnblgollaaGreatDoor
open Go.RowKit Go.Ulp
set_option linter.unusedVariables false
set_option linter.unusedSimpArgs false
set_option maxHeartbeats 4000000
set_option maxRecDepth 100000
end Go.Proofs.YthaelmnblgollaaGreatDoor
set_option linter.unusedVariables false
set_option linter.unusedSimpArgs false
namespace Go.Ulp
open Go.RowKit
def Fact.nn (q r : Nat) : Fact := ⟨fun v w => ∃ ao c bo d, v = .tuple #[.slice ao (limbs q).length c, .slice bo (limbs r).length d] ∧ Ns .u32 w ao c (limbs q) ∧ Ns .u32 w bo d (limbs r), fun _ _ _ h hb => by
  obtain ⟨ao, c, bo, d, h1, h2, h3⟩ := h
  exact ⟨ao, c, bo, d, h1, h2.below hb, h3.below hb⟩⟩
/-- by how much the program shifts -/
def rK (M N : Nat) : Nat := (max (0 : Int) (80 + bl N - bl M)).toNat
end Go.Ulp
namespace Go.Proofs.YthaelmnblgollaaGreatDoor
open Go.RowKit Go.Ulp
set_option linter.unusedVariables false
set_option linter.unusedSimpArgs false
set_option maxHeartbeats 4000000
set_option maxRecDepth 100000
end Go.Proofs.YthaelmnblgollaaGreatDoor
namespace Go.Ulp
open Go.RowKit
/-- the quotient has places enough -/
theorem qfloor_big (M N : Nat) (hM : 0 < M) (hN : 0 < N) : 2 ^ 79 ≤ M * 2 ^ rK M N / N := by
  have h1 := pow_bl M hM
  have h2 := lt_bl N
  have h3 := (bl_pos M).2 hM
  have hk : 80 + bl N ≤ rK M N + bl M := by unfold rK; omega
  rw [Nat.le_div_iff_mul_le hN]
  have h4 : 2 ^ (bl M - 1) * 2 ^ rK M N ≤ M * 2 ^ rK M N := Nat.mul_le_mul_right _ h1
  rw [← Nat.pow_add] at h4
  have h5 : 2 ^ 79 * N ≤ 2 ^ 79 * 2 ^ bl N := Nat.mul_le_mul_left _ (by omega)
  rw [← Nat.pow_add] at h5
  have h6 : 2 ^ (79 + bl N) ≤ 2 ^ (bl M - 1 + rK M N) := Nat.pow_le_pow_right (by omega) (by omega)
  omega
theorem qst_bd (M N : Nat) (m1 : M < 2 ^ 53) (m2 : N < 2 ^ 53) (hM : 0 < M) (hN : 0 < N) : 0 < qst M N (rK M N) ∧ qst M N (rK M N) < 2 ^ 200 ∧ rK M N ≤ 133 := by
  have h := qfloor_big M N hM hN
  have b1 := (bl_le M 53).2 m1
  have b2 := (bl_le N 53).2 m2
  have b3 := (bl_pos M).2 hM
  have hk : rK M N ≤ 133 := by unfold rK; omega
  have hA : M * 2 ^ rK M N < 2 ^ 186 := by
    have h := Nat.mul_lt_mul_of_pos_right m1 (Nat.two_pow_pos (rK M N))
    rw [← Nat.pow_add] at h
    exact Nat.lt_of_lt_of_le h (Nat.pow_le_pow_right (by omega) (by omega))
  have hd := Nat.div_le_self (M * 2 ^ rK M N) N
  unfold qst
  refine ⟨?_, ?_, hk⟩
  · have : (0 : Nat) < 2 ^ 79 := by decide
    split <;> omega
  · have : (2 : Nat) ^ 200 = 16384 * 2 ^ 186 := by decide
    split <;> omega
end Go.Ulp

set_option linter.unusedVariables false
set_option linter.unusedSimpArgs false
namespace Go.Ulp
open Go.RowKit
theorem AllDg.take {L : List UInt8} (h : AllDg L) (k : Nat) : AllDg (L.take k) := fun b hb => h b (List.mem_of_mem_take hb)
theorem AllDg.drop {L : List UInt8} (h : AllDg L) (k : Nat) : AllDg (L.drop k) := fun b hb => h b (List.mem_of_mem_drop hb)
theorem dvA_split (acc k : Nat) (L : List UInt8) : dvA acc L = dvA (acc * 10 ^ (L.take k).length + dvl (L.take k)) (L.drop k) := by
  conv => lhs; rw [← List.take_append_drop k L]
  rw [dvA_app, dvA_acc (L.take k)]
end Go.Ulp
namespace Go.Proofs.YthaelmnblgollaaGreatDoor
open Go.RowKit Go.Ulp
set_option linter.unusedVariables false
set_option linter.unusedSimpArgs false
set_option maxHeartbeats 2000000
set_option maxRecDepth 100000
theorem natRead_any (L : List UInt8) (w : World) (hL : AllDg L) (hl : L.length ≤ 2000) :
    Calls Tryz.prog 134 #[.string (bsOf L)] w (RetNc w (dvl L)) := by
  obtain ⟨Z, hZ⟩ : ∃ Z, Z = dvl L := ⟨_, rfl⟩
  rw [← hZ]
  go_enter Tryz.func134, Tryz.ntmps134
  go_wp2_with fail
  go_loopw [0, 3] (fun s0 s3 wr => ∃ (Q : List UInt8) (x : Nat) (a : Option Addr) (c : Nat), s0 = .string (bsOf Q) ∧ s3 = .slice a (limbs x).length c ∧ Ns .u32 wr a c (limbs x) ∧ AllDg Q ∧ dvA x Q = Z ∧ Q.length ≤ 2000 ∧ x < 10 ^ (2000 - Q.length) ∧ Below w.heap.size w wr) (fun s0 _ _ => strSz s0)
  case atStart => exact ⟨L, 0, none, 0, rfl, rfl, Ns.nil, hL, hZ.symm, hl, Nat.pow_pos (by omega), Below.refl _ _⟩
  case round =>
    obtain ⟨Q, x, a, c, rfl, rfl, hN, hQ, hx, hq, hxl, hb⟩ := hrel
    by_cases hQ0 : Q = []
    · subst hQ0
      have e : x = Z := hx
      subst e
      have HN := hid hN
      clear hN hx
      have hsz : (bsOf []).size = 0 := rfl
      go_wp2_with fail
      go_ret
      exact ⟨a, c, rfl, HN.out, hb⟩
    · have hq0 : 0 < Q.length := List.length_pos_iff.2 hQ0
      obtain ⟨k, hk⟩ : ∃ k : Nat, k = min Q.length 9 := ⟨_, rfl⟩
      have hk1 : 0 < k ∧ k ≤ 9 ∧ k ≤ Q.length := by omega
      have hmn : min (Q.length : Int) 9 = (k : Int) := by omega
      have hsz := bs_size Q
      have S1 := slice_to (P := Tryz.prog) Tryz.underlying9 Q (k : Int) (by omega) (by omega)
      have S2 := slice_from (P := Tryz.prog) Tryz.underlying9 Q (k : Int) (by omega) (by omega)
      rw [Int.toNat_natCast] at S1 S2
      have htl : (Q.take k).length = k := by rw [List.length_take]; omega
      have hdl : (Q.drop k).length = Q.length - k := List.length_drop
      obtain ⟨y, hy⟩ : ∃ y, y = dvl (Q.take k) := ⟨_, rfl⟩
      have hyb : y < 10 ^ 9 := by
        have h1 := dvl_lt (Q.take k) (hQ.take k)
        rw [htl, ← hy] at h1
        exact Nat.lt_of_lt_of_le h1 (Nat.pow_le_pow_right (by omega) (by omega))
      have PU := hid (show ∀ w, Calls Tryz.prog 191 #[.string (bsOf (Q.take k)), .int .i64 10, .int .i64 64] w fun e w' => e = .returned (.tuple #[.int .u64 (y : Int), .nilIface]) ∧ Below w.heap.size w w' from fun w => by
        refine (Tryz.strconv_ParseUint (bsOf (Q.take k)) (by rw [bs_size, htl]; omega) y (by rw [bs_list, hy]; exact parse_dv _ (hQ.take k) (fun h => by rw [h] at htl; rw [List.length_nil] at htl; omega) (by omega)) w).mono ?_
        rintro e w1 ⟨rfl, h⟩
        refine ⟨rfl, ?_⟩
        rcases h with rfl | rfl
        · exact Below.refl _ _
        · exact Lib.bytesWorld_below _ _ _)
      have PW := hid (fun w => pow10_any k (by omega) w)
      obtain ⟨E, hE⟩ : ∃ E : Nat, E = 2000 := ⟨_, rfl⟩
      have hx1 : 10 ^ (2000 - Q.length) ≤ 10 ^ E := Nat.pow_le_pow_right (by omega) (by omega)
      have lx := limbs_ten E (by omega)
      have lx1 : (limbs x).length ≤ 3002 := Nat.le_trans (limbs_len_mono (by omega)) lx
      have lk := limbs_ten k (by omega)
      have TI := hid (fun a c b d w h0 h1 => times_any a b c d x (10 ^ k) w h0 h1 (by omega) (by omega))
      have hxn : x * 10 ^ k + y < 10 ^ (2000 - (Q.length - k)) := by
        have h1 : y < 10 ^ k := by rw [hy]; have := dvl_lt (Q.take k) (hQ.take k); rw [htl] at this; exact this
        have h2 : (x + 1) * 10 ^ k ≤ 10 ^ (2000 - Q.length) * 10 ^ k := Nat.mul_le_mul_right _ hxl
        rw [← Nat.pow_add, show 2000 - Q.length + k = 2000 - (Q.length - k) by omega, Nat.add_mul, Nat.one_mul] at h2
        omega
      have hx2 : 10 ^ (2000 - (Q.length - k)) ≤ 10 ^ E := Nat.pow_le_pow_right (by omega) (by omega)
      have lt1 : (limbs (x * 10 ^ k)).length ≤ 3002 := Nat.le_trans (limbs_len_mono (by omega)) lx
      have ly : (limbs y).length ≤ 3002 := Nat.le_trans (limbs_len_mono (by have : 10 ^ 9 ≤ 10 ^ E := Nat.pow_le_pow_right (by omega) (by omega); omega)) lx
      have OF := hid (fun w => natOf_any y (by omega) w)
      have PL := hid (fun a c b d w h0 h1 => plus_any a b c d (x * 10 ^ k) y w h0 h1 (by omega) (by omega))
      have hnx : dvA (x * 10 ^ k + y) (Q.drop k) = Z := by rw [← hx, dvA_split x k Q, htl, hy]
      have hQd := hQ.drop k
      have HN := hid hN
      have HX := hid hnx
      have HM := hid (show (Q.drop k).length < Q.length by omega)
      have HD := hid hxn
      rw [← hdl] at HD
      have hdl2 : (Q.drop k).length ≤ 2000 := by omega
      obtain ⟨n, hn⟩ : ∃ n, n = Q.length := ⟨_, rfl⟩
      rw [← hn] at hmn hsz hq0 hk1
      obtain ⟨X, hX⟩ : ∃ X, X = x * 10 ^ k := ⟨_, rfl⟩
      rw [← hX] at TI PL HX HD
      obtain ⟨T, hT⟩ : ∃ T, T = 10 ^ k := ⟨_, rfl⟩
      rw [← hT] at TI PW
      clear hE hN hnx hxn hx1 hx2 lx lx1 lk lt1 ly hX hT hn htl hdl hy hx hxl hk
      go_wp2_with (first
        | (go_at_call 191; (with_reducible refine (PU.out _).mono ?_); rintro en w1 ⟨rfl, hb1⟩)
        | (go_at_call 188; (with_reducible refine (PW.out _).mono ?_); rintro en w2 ⟨a2, c2, rfl, hN2, hb2⟩)
        | (go_at_call 187; (with_reducible refine (TI.out _ _ _ _ _ (HN.out.below (below_trans hb1 hb2)) hN2).mono ?_); rintro en w3 ⟨a3, rfl, hN3, hb3⟩)
        | (go_at_call 120; (with_reducible refine (OF.out _).mono ?_); rintro en w4 ⟨a4, rfl, hN4, hb4⟩)
        | (go_at_call 135; (with_reducible refine (PL.out _ _ _ _ _ (hN3.below hb4) hN4).mono ?_); rintro en w5 ⟨a5, rfl, hN5, hb5⟩))
      go_roundw
      case rel => exact ⟨Q.drop k, X + y, a5, _, rfl, rfl, hN5, hQd, HX.out, hdl2, HD.out, below_trans (below_trans (below_trans (below_trans (below_trans hb hb1) hb2) hb3) hb4) hb5⟩
      case measure => rw [strSz_bs, strSz_bs]; exact HM.out
end Go.Proofs.YthaelmnblgollaaGreatDoor
set_option linter.unusedVariables false
set_option linter.unusedSimpArgs false
namespace Go.Ulp
open Go.RowKit
/-- the exponent that the reference takes -/
def rkc (n : Nat) (k : Int) : Int := min (max k (-2500 - (n : Int))) 2500
def rdNum (Z n : Nat) (k : Int) : Nat := Z * 10 ^ (rkc n k).toNat
def rdDen (n : Nat) (k : Int) : Nat := 10 ^ (-(rkc n k)).toNat
theorem rdDen_pos (n : Nat) (k : Int) : 0 < rdDen n k := Nat.pow_pos (by omega)
/-- what is rounded is as good as the text's number -/
def RdOk (A B M : Nat) (e : Int) : Prop := 0 < M ∧ ∃ s : Nat, 0 ≤ e + 1074 + s ∧ SameC s ((M * 2 ^ (e + 1074 + s).toNat : Nat) : Int) 1074 A B
theorem rvi_tv : ∃ F : Nat, F = 2098 ∧ rvi 9218868437227405312 = 2 ^ F := ⟨52 + 2046, rfl, rvi_pow 2046⟩
end Go.Ulp
set_option linter.unusedVariables false
set_option linter.unusedSimpArgs false
namespace Go.Proofs.YthaelmnblgollaaGreatDoor
open Go.RowKit Go.Ulp
set_option maxHeartbeats 4000000
set_option maxRecDepth 100000
end Go.Proofs.YthaelmnblgollaaGreatDoor
set_option linter.unusedVariables false
set_option linter.unusedSimpArgs false
namespace Go.Ulp
open Go.RowKit
end Go.Ulp
namespace Go.Proofs.YthaelmnblgollaaGreatDoor
open Go.RowKit Go.Ulp
set_option linter.unusedVariables false
set_option linter.unusedSimpArgs false
set_option maxHeartbeats 2000000
set_option maxRecDepth 100000
end Go.Proofs.YthaelmnblgollaaGreatDoor

set_option linter.unusedVariables false
set_option linter.unusedSimpArgs false
namespace Go.Ulp
open Go.RowKit
/-- the power of two at the top of a number -/
def hfK (D : Dy) : Int := (bl D.1.natAbs : Int) + D.2 - 1
theorem top_le (M a b : Nat) (h : 0 < M) : 2 ^ b ≤ M * 2 ^ a ↔ b < bl M + a := by
  have h1 := bl_le (M * 2 ^ a) b
  rw [bl_mul M a h] at h1
  omega
theorem one_isN (t : Int) : nrm 1 t = (1, t) := nrm_of_isN (1, t) (.inr rfl)
theorem sc_nat (M : Nat) (e m : Int) : sc (M : Int) e m = ((M * 2 ^ (e - m).toNat : Nat) : Int) := by
  unfold sc; rw [pw_nat, ← Int.natCast_mul]
theorem cmp_top (E : Dy) (t : Int) (h : E.1 ≠ 0) : 0 ≤ cmpD (absD E) (nrm 1 t) ↔ t ≤ hfK E := by
  rw [one_isN]
  unfold cmpD absD
  show 0 ≤ cmpI (sc ((E.1.natAbs : Nat) : Int) E.2 (min E.2 t)) (sc ((1 : Nat) : Int) t (min E.2 t)) ↔ _
  rw [sc_nat, sc_nat, Nat.one_mul]
  have h1 := top_le E.1.natAbs (E.2 - min E.2 t).toNat (t - min E.2 t).toNat (by omega)
  unfold hfK
  have h2 : 0 ≤ cmpI ((E.1.natAbs * 2 ^ (E.2 - min E.2 t).toNat : Nat) : Int) ((2 ^ (t - min E.2 t).toNat : Nat) : Int) ↔ 2 ^ (t - min E.2 t).toNat ≤ E.1.natAbs * 2 ^ (E.2 - min E.2 t).toNat := by
    generalize E.1.natAbs * 2 ^ (E.2 - min E.2 t).toNat = a
    generalize 2 ^ (t - min E.2 t).toNat = b
    unfold cmpI; split
    · omega
    · split <;> omega
  rw [h2, h1]
  omega
theorem cmpI_flip (a b : Int) : 0 < cmpI a b ↔ ¬ 0 ≤ cmpI b a := by
  unfold cmpI; split <;> split <;> (try split) <;> (try split) <;> omega
theorem cmpD_swap (D E : Dy) : 0 < cmpD D E ↔ ¬ 0 ≤ cmpD E D := by
  unfold cmpD
  rw [Int.min_comm E.2 D.2]
  exact cmpI_flip _ _
theorem cmp_top2 (E : Dy) (t : Int) (h : E.1 ≠ 0) : 0 < cmpD (nrm 1 t) (absD E) ↔ hfK E < t := by
  rw [cmpD_swap, cmp_top E t h]; omega
theorem nrm_inj {x y e : Int} (h : nrm x e = nrm y e) : x = y := by
  obtain ⟨k, a1, a2⟩ := nrm_rep x e
  obtain ⟨l, b1, b2⟩ := nrm_rep y e
  by_cases hx : x = 0
  · have h3 : (nrm y e).1 = 0 := by rw [← h, hx]; rfl
    rw [hx, (nrm_zero_iff _ _).1 h3]
  · have hy : y ≠ 0 := fun hy => hx ((nrm_zero_iff x e).1 (by rw [h, hy]; rfl))
    have a2 := a2 hx
    have b2 := b2 hy
    rw [h] at a1 a2
    have : k = l := by omega
    rw [this] at a1
    exact a1.trans b1.symm
/-- a variable of type Q: its parts by name, and what it is worth -/
def QW (tq ti : TypeId) (w : World) (g : Nat) (D : Dy) (A T : Nat) (X : Int) (n : Nat) (ao : Option Addr) (cap : Nat) : Prop :=
  QL tq w g (zneg X) (.slice ao (zl X).length cap) (n : Int) ∧ QD ti w D A T (.agg #[.bool (zneg X), .slice ao (zl X).length cap, .int .i64 (n : Int)])
theorem QW.below {tq ti : TypeId} {w w' : World} {g : Nat} {D : Dy} {A T : Nat} {X : Int} {n : Nat} {ao : Option Addr} {cap : Nat} (h : QW tq ti w g D A T X n ao cap) (hb : Below w.heap.size w w') : QW tq ti w' g D A T X n ao cap := ⟨h.1.below hb, h.2.below hb⟩
theorem QW.made {tq ti : TypeId} {w : World} {D : Dy} {A T : Nat} {X : Int} {n : Nat} {ao : Option Addr} {cap : Nat} (h : QD ti w D A T (.agg #[.bool (zneg X), .slice ao (zl X).length cap, .int .i64 (n : Int)])) :
    QW tq ti (w.alloc (.cells #[.bool (zneg X), .slice ao (zl X).length cap, .int .i64 (n : Int)] tq)) w.heap.size D A T X n ao cap := ⟨QL.made rfl, h.below (below_alloc _ _)⟩
theorem QW.cells {tq ti : TypeId} {w : World} {g : Nat} {D : Dy} {A T : Nat} {X : Int} {n : Nat} {ao : Option Addr} {cap : Nat} (h : QW tq ti w g D A T X n ao cap) :
    w.cell? ⟨g, 0, none⟩ = some (.bool (zneg X)) ∧ w.cell? ⟨g, 1, none⟩ = some (.slice ao (zl X).length cap) ∧ w.cell? ⟨g, 2, none⟩ = some (.int .i64 (n : Int)) := ⟨h.1.1.1, h.1.1.2.1, h.1.2.1⟩
theorem QW.qd {tq ti : TypeId} {w : World} {g : Nat} {D : Dy} {A T : Nat} {X : Int} {n : Nat} {ao : Option Addr} {cap : Nat} (h : QW tq ti w g D A T X n ao cap) : QD ti w D A T (.agg #[.bool (zneg X), .slice ao (zl X).length cap, .int .i64 (n : Int)]) := h.2
/-- a value is stored into a new variable -/
theorem QW.stored {tq ti : TypeId} {w0 wn : World} {g : Nat} {D : Dy} {A T : Nat} {X : Int} {n : Nat} {ao : Option Addr} {cap : Nat} {b : Bool} {v : Value} {k : Int} (hne : tq ≠ ti) (hb : Below w0.heap.size w0 wn) (hg : w0.heap.size ≤ g) (z : QL tq wn g b v k) (h : QD ti wn D A T (.agg #[.bool (zneg X), .slice ao (zl X).length cap, .int .i64 (n : Int)])) :
    Below w0.heap.size w0 (((wn.setCell ⟨g, 0, none⟩ (.bool (zneg X))).setCell ⟨g, 1, none⟩ (.slice ao (zl X).length cap)).setCell ⟨g, 2, none⟩ (.int .i64 (n : Int))) ∧ QW tq ti (((wn.setCell ⟨g, 0, none⟩ (.bool (zneg X))).setCell ⟨g, 1, none⟩ (.slice ao (zl X).length cap)).setCell ⟨g, 2, none⟩ (.int .i64 (n : Int))) g D A T X n ao cap := by
  obtain ⟨x, m, a, c, h1, h2, h3, h4, h5⟩ := h
  refine ⟨Go.Ulp.Below.put3 hb hg _ _ _, z.put _ _ _, ⟨x, m, a, c, h1, ?_, h3, h4, h5⟩⟩
  exact h2.set3Q z hne _ _ _
theorem wp_wld {P : Program} {c : Code} {Q : Exit → Act → World → Prop} {a : Act} {w0 : World} (F : World → Prop) (hF : F w0) (h : ∀ w, F w → Code.wp P c Q a w) : Code.wp P c Q a w0 := h w0 hF
theorem fv_small_p (x : Int) (h0 : 0 ≤ x) (h1 : x < 18446744073709551616) : (limbs (fv x).1.natAbs).length ≤ 2 ∧ -1074 ≤ (fv x).2 ∧ (fv x).2 ≤ 1024 ∧ (fv x).1.natAbs < 2 ^ 53 := by
  obtain ⟨-, h2, h3, h4⟩ := fv_bd x h0 h1
  exact ⟨(limbs_le_bits _ 2).2 (Nat.lt_of_lt_of_le h2 (Nat.pow_le_pow_right (by omega) (by omega))), h3, h4, h2⟩
end Go.Ulp

set_option linter.unusedVariables false
set_option linter.unusedSimpArgs false
namespace Go.Proofs.YthaelmnblgollaaGreatDoor
open Go.RowKit Go.Ulp
set_option linter.unusedVariables false
set_option linter.unusedSimpArgs false
set_option maxHeartbeats 2000000
set_option maxRecDepth 100000
theorem zDigits_any (L : List UInt8) (w : World) (hL : AllDg L) (hl : L.length ≤ 2000) :
    Calls Tryz.prog 111 #[.string (bsOf L)] w (RetZD 3 w ((dvl L : Nat) : Int)) := by
  obtain ⟨V, hV⟩ : ∃ V, V = dvl L := ⟨_, rfl⟩
  rw [← hV]
  have hsz := bs_size L
  go_enter Tryz.func111, Tryz.ntmps111
  go_upto_region 2 with fail
  have n0 : ∀ w, Nz 3 w none 0 (zl 0) := fun w => Nz.nil' none 0 (by decide)
  have zz := zv_made2 (tz := 39) (ti := 3) (w := w) (x := 0) (y := 0) (n0 _) (n0 _)
  refine wp_worldZ (fun WW => Below w.heap.size w WW ∧ ZV 39 3 WW w.heap.size 0 ∧ ZV 39 3 WW (w.heap.size + 1) 0) ⟨zz.1, zz.2.1, by first | exact zz.2.2 | (have h := zz.2.2; simpa using h)⟩ ?_
  intro W1 ⟨y1, z2, z3⟩
  obtain ⟨g2, hg2⟩ : ∃ g, g = w.heap.size := ⟨_, rfl⟩
  obtain ⟨g3, hg3⟩ : ∃ g, g = w.heap.size + 1 := ⟨_, rfl⟩
  have b2 : w.heap.size ≤ g2 := by omega
  have b3 : w.heap.size ≤ g3 := by omega
  have gne : g2 ≠ g3 := by omega
  rw [← hg3] at z3 ⊢
  rw [← hg2] at z2 ⊢
  clear hg2 hg3 zz n0
  have Z2 := hid z2
  have Z3 := hid z3
  clear z2 z3
  have HVL := hid hV
  obtain ⟨E, hE⟩ : ∃ E : Nat, E = 2000 := ⟨_, rfl⟩
  have HL10 := hid (fun q (h : q < 10 ^ E) => Nat.le_trans (zl_len_le (x := ((q : Nat) : Int)) (y := tenZ E) (by unfold tenZ; rw [Int.natAbs_natCast, Int.natAbs_natCast]; omega)) (zl_len_ten E))
  clear hV
  go_wp2_with fail
  go_loopw [4, 8] (fun s4 s8 wr => ∃ (j q : Nat), s8 = .int .i64 (j : Int) ∧ j ≤ L.length ∧ dvA q (L.drop j) = V ∧ q < 10 ^ (E - (L.length - j)) ∧ ZV 39 3 wr g2 0 ∧ ZV 39 3 wr g3 (q : Int) ∧ Below w.heap.size w wr) (fun _ s8 _ => L.length - (intOf s8).toNat)
  case atStart => exact ⟨0, 0, rfl, by omega, HVL.out.symm, Nat.pow_pos (by omega), Z2.out, Z3.out, y1⟩
  case round =>
    obtain ⟨j, q, rfl, hj, hq, hqb, z2, z3, yr⟩ := hrel
    clear Z2 Z3 y1
    cases hd : L.drop j with
    | nil =>
      have g1 : ¬ (j : Int) < (L.length : Int) := by
        have := congrArg List.length hd
        rw [List.length_drop, List.length_nil] at this; omega
      rw [hd] at hq
      have e : q = V := hq
      subst e
      obtain ⟨a3, c3, zl3, n3⟩ := z3
      obtain ⟨a2, c2, zl2, n2⟩ := z2
      have zst := zv_store1 (by decide) yr b2 zl2 n3
      obtain ⟨j0, j1, -⟩ := zl3
      obtain ⟨k0, k1, kf0, kf1, kk⟩ := id zl2
      have HS := hid zst
      clear hd hq hqb zst
      go_wp2_with fail
      have zst := HS.out
      obtain ⟨a9, c9, zl9, n9⟩ := id zst.2
      obtain ⟨m0, m1, -⟩ := id zl9
      refine bodyPost_ret (by simp [results, Tryz.results111, go_sem, m0, m1]; try rfl) rfl ?_
      exact ⟨_, rfl, ⟨a9, c9, rfl, n9⟩, zst.1⟩
    | cons b r =>
      obtain ⟨q1, q2, -⟩ := drop_cons hd
      have hix := run_index (P := Tryz.prog) Tryz.underlying9 L j b r hd
      have hbd := dg_bd (hL b (List.mem_of_mem_drop (by rw [hd]; exact List.mem_cons_self ..)))
      rw [hd, dvA_cons] at hq
      obtain ⟨d, hdd⟩ : ∃ d : Nat, d = b.toNat - 48 := ⟨_, rfl⟩
      rw [← hdd] at hq
      obtain ⟨x, hx⟩ : ∃ x : Int, x = (b.toNat : Int) := ⟨_, rfl⟩
      rw [← hx] at hix
      have wB : IntKind.u8.wrap (x - 48) = (d : Int) := by rw [IntKind.wrap_u8]; omega
      have wC : IntKind.i64.wrap (d : Int) = (d : Int) := IntWalk.i64_in _ (by omega)
      have wI : IntKind.i64.wrap ((j : Int) + 1) = (j : Int) + 1 := IntWalk.i64_in _ (by omega)
      have hqb2 : q * 10 + d < 10 ^ (E - (L.length - (j + 1))) := by
        have h1 : (q + 1) * 10 ≤ 10 ^ (E - (L.length - j)) * 10 := Nat.mul_le_mul_right _ hqb
        rw [← Nat.pow_succ, show (E - (L.length - j)).succ = E - (L.length - (j + 1)) by omega] at h1
        omega
      have hpe : 10 ^ (E - (L.length - (j + 1))) ≤ 10 ^ E := Nat.pow_le_pow_right (by omega) (by omega)
      have lq := HL10.out q (by omega)
      have lq2 : (zl ((q : Int) * 10)).length ≤ E + 1 := by
        have h := HL10.out (q * 10) (by omega)
        rw [Int.natCast_mul] at h
        exact h
      have ld : (zl (d : Int)).length ≤ 2001 := Nat.le_trans (HL10.out d (by omega)) (by omega)
      have HQ := hid (show dvA (q * 10 + d) (L.drop (j + 1)) = V by rw [q2]; exact hq)
      have HQB := hid hqb2
      have l10 : (zl 10).length ≤ 900000 := by decide
      have hd10 : d < 10 := by omega
      clear hd hq hqb hqb2 hpe hbd hx hdd q2
      go_upto_region 5 with fail
      obtain ⟨W4, hW4⟩ : ∃ W, W = wr := ⟨_, rfl⟩
      subst hW4
      refine wp_region_grow 10 [11, 12, 13, 14, 15, 16, 17, 18, 19, 20] [Fact.z 3 ((q : Int)), Fact.z 3 (10), Fact.z 3 (((q : Int)) * (10)), Fact.is (.string (bsOf L)), Fact.is (.int .i64 (j : Int)), Fact.is (.int .u8 x), Fact.is (.int .u8 (d : Int)), Fact.is (.int .i64 (d : Int)), Fact.z 3 ((d : Int)), Fact.z 3 ((((q : Int)) * (10)) + ((d : Int)))] (by kernel_rfl) (by kernel_rfl) ⟨?o0, ?o1, ?o2, ?o3, ?o4, ?o5, ?o6, ?o7, ?o8, ?o9, trivial⟩ ?after
      case o0 => (refine StepOK.plain rfl ?_; intro ρ w1 R hρ hb hp hR; have e3 : ρ (.tmp 3) = .pointer (some ⟨g3, 0, none⟩) := hρ.tmp 3 rfl; obtain ⟨ya9, yc9, yj9, yn9⟩ := ZV.below z3 hb; obtain ⟨j90, j91, -⟩ := yj9; have hcon := hρ.con; have hfn := hρ.fn; clear hρ hp; unfold OpRun; go_simp; exact hR _ _ (Below.refl _ _) ⟨ya9, yc9, rfl, yn9⟩)
      case o1 => (refine StepOK.plain rfl ?_; intro ρ w1 R hρ hb hp hR; have hcon := hρ.con; have hfn := hρ.fn; clear hρ hp; unfold OpRun; go_simp; (refine (zND _ (by omega) (by omega) _).mono ?_; rintro e wn ⟨v9, rfl, hz9, hbn⟩; exact ⟨_, rfl, hR _ _ hbn hz9⟩))
      case o2 => (refine StepOK.plain rfl ?_; intro ρ w1 R hρ hb hp hR; have f11 := hp 0 11 rfl rfl; have f12 := hp 1 12 rfl rfl; have hcon := hρ.con; have hfn := hρ.fn; clear hρ hp; unfold OpRun; go_simp; (refine (zmulD _ _ _ _ _ f11 f12 (by first | assumption | omega) (by first | assumption | omega)).mono ?_; rintro e wn ⟨v9, rfl, hz9, hbn⟩; exact ⟨_, rfl, hR _ _ hbn hz9⟩))
      case o3 => (refine StepOK.plain rfl ?_; intro ρ w1 R hρ hb hp hR; have e0 : ρ (.tmp 0) = .string (bsOf L) := hρ.tmp 0 rfl; have hcon := hρ.con; have hfn := hρ.fn; clear hρ hp; unfold OpRun; go_simp; exact hR _ _ (Below.refl _ _) rfl)
      case o4 => (refine StepOK.plain rfl ?_; intro ρ w1 R hρ hb hp hR; have e4 : ρ (.tmp 4) = .int .i64 (j : Int) := hρ.tmp 4 rfl; have hcon := hρ.con; have hfn := hρ.fn; clear hρ hp; unfold OpRun; go_simp; exact hR _ _ (Below.refl _ _) rfl)
      case o5 => (refine StepOK.plain rfl ?_; intro ρ w1 R hρ hb hp hR; have e14 : ρ (.tmp 14) = _ := hp 3 14 rfl rfl; have e15 : ρ (.tmp 15) = _ := hp 4 15 rfl rfl; have hcon := hρ.con; have hfn := hρ.fn; clear hρ hp; unfold OpRun; go_simp; exact hR _ _ (Below.refl _ _) rfl)
      case o6 => (refine StepOK.plain rfl ?_; intro ρ w1 R hρ hb hp hR; have e16 : ρ (.tmp 16) = _ := hp 5 16 rfl rfl; have hcon := hρ.con; have hfn := hρ.fn; clear hρ hp; unfold OpRun; go_simp; exact hR _ _ (Below.refl _ _) rfl)
      case o7 => (refine StepOK.plain rfl ?_; intro ρ w1 R hρ hb hp hR; have e17 : ρ (.tmp 17) = _ := hp 6 17 rfl rfl; have hcon := hρ.con; have hfn := hρ.fn; clear hρ hp; unfold OpRun; go_simp; exact hR _ _ (Below.refl _ _) rfl)
      case o8 => (refine StepOK.plain rfl ?_; intro ρ w1 R hρ hb hp hR; have e18 : ρ (.tmp 18) = _ := hp 7 18 rfl rfl; have hcon := hρ.con; have hfn := hρ.fn; clear hρ hp; unfold OpRun; go_simp; (refine (zND _ (by omega) (by omega) _).mono ?_; rintro e wn ⟨v9, rfl, hz9, hbn⟩; exact ⟨_, rfl, hR _ _ hbn hz9⟩))
      case o9 => (refine StepOK.plain rfl ?_; intro ρ w1 R hρ hb hp hR; have f13 := hp 2 13 rfl rfl; have f19 := hp 8 19 rfl rfl; have hcon := hρ.con; have hfn := hρ.fn; clear hρ hp; unfold OpRun; go_simp; (refine (zaddD _ _ _ _ _ f13 f19 (by first | assumption | omega) (by first | assumption | omega)).mono ?_; rintro e wn ⟨v9, rfl, hz9, hbn⟩; exact ⟨_, rfl, hR _ _ hbn hz9⟩))
      case after =>
        intro u wn hb hf
        have f20 := hf 9 20 (by omega) rfl
        clear hf
        simp only [putAll, Act.put, List.setIfInBounds_toArray, List.set_cons_zero, List.set_cons_succ, List.drop_succ_cons, List.drop_zero, List.drop_nil]
        obtain ⟨a6, c6, e20, n6⟩ := f20
        rw [e20]
        have yb := below_trans yr hb
        have z2a := z2.below hb
        obtain ⟨a3, c3, zl3, n3⟩ := z3.below hb
        have zst := zv_store1 (by decide) yb b3 zl3 n6
        have z2b := z2a.set2 (zl3.2.2.2.2) (by decide) gne (.bool (zneg ((q : Int) * 10 + (d : Int)))) (.slice a6 (zl ((q : Int) * 10 + (d : Int))).length c6)
        obtain ⟨k0, k1, kf0, kf1, -⟩ := id zl3
        have HZ := hid (And.intro zst z2b)
        clear z2 z3 z2a hb yr n3 zst z2b e20
        go_wp2_with fail
        go_roundw
        case rel => exact ⟨j + 1, q * 10 + d, by go_num, by omega, HQ.out, HQB.out, HZ.out.2, HZ.out.1.2, HZ.out.1.1⟩
        case measure => simp [intOf]; omega
end Go.Proofs.YthaelmnblgollaaGreatDoor
set_option linter.unusedVariables false
set_option linter.unusedSimpArgs false
namespace Go.Ulp
open Go.RowKit
theorem nrm_cross {X Y : Int} {n k : Nat} (h : nrm X (-(n : Int)) = nrm Y (-(k : Int))) : X * pw k = Y * pw n := by
  have h1 := nrm_scale X (-(n : Int) - k) k
  have h2 := nrm_scale Y (-(n : Int) - k) n
  rw [show -(n : Int) - k + k = -(n : Int) by omega] at h1
  rw [show -(n : Int) - k + n = -(k : Int) by omega] at h2
  exact nrm_inj (h1.trans (h.trans h2.symm))
theorem cmp_nrmK {X Y : Int} {n k : Nat} (h : nrm X (-(n : Int)) = nrm Y (-(k : Int))) (A B : Int) : cmpI (X * B) (A * pw n) = cmpI (Y * B) (A * pw k) := by
  have h1 := nrm_cross h
  have hk : 0 < pw k := pw_pos k
  have hn : 0 < pw n := pw_pos n
  rw [← cmpI_scale (X * B) (A * pw n) (pw k) hk, ← cmpI_scale (Y * B) (A * pw k) (pw n) hn, Int.mul_right_comm X, h1, Int.mul_right_comm Y, Int.mul_right_comm A]
end Go.Ulp
namespace Go.Proofs.YthaelmnblgollaaGreatDoor
open Go.RowKit Go.Ulp
set_option linter.unusedVariables false
set_option linter.unusedSimpArgs false
set_option maxHeartbeats 2000000
set_option maxRecDepth 100000
theorem rbCmp_core (X A B : Int) (n : Nat) (ao : Option Addr) (cap gA gB : Nat) (w : World) (h0 : Nz 3 w ao cap (zl X)) (hB : ZV 39 3 w gB B) (hA : ZV 39 3 w gA A) (lX : (zl X).length ≤ 1000000) (hn : n ≤ 1000000) (lA : (zl A).length ≤ 1000000) (lB : (zl B).length ≤ 1000000) :
    Calls Tryz.prog 114 #[.agg #[.bool (zneg X), .slice ao (zl X).length cap, .int .i64 (n : Int)], .pointer (some ⟨gB, 0, none⟩), .pointer (some ⟨gA, 0, none⟩)] w fun e w' => e = .returned (.int .i64 (cmpI (X * B) (A * pw n))) ∧ Below w.heap.size w w' := by
  have lP : (zl (pw n)).length ≤ 1000001 := Nat.le_trans (zl_len_pw n) (by omega)
  have q0 : QL 41 (w.alloc (.cells #[.bool (zneg X), .slice ao (zl X).length cap, .int .i64 (n : Int)] 41)) w.heap.size (zneg X) (.slice ao (zl X).length cap) (n : Int) := QL.made rfl
  have y0 := below_alloc w (.cells #[.bool (zneg X), .slice ao (zl X).length cap, .int .i64 (n : Int)] 41)
  have zz : ZV 41 3 (w.alloc (.cells #[.bool (zneg X), .slice ao (zl X).length cap, .int .i64 (n : Int)] 41)) w.heap.size X := ⟨ao, cap, q0.1, h0.below y0⟩
  have cc := q0.2.1
  have kA := hA.below y0
  have kB := hB.below y0
  have HXX := hid lX
  clear h0
  go_enter Tryz.func114, Tryz.ntmps114
  go_upto_region 1 with fail
  refine wp_worldZ (fun WW => Below w.heap.size w WW ∧ ZV 41 3 WW w.heap.size X ∧ WW.cell? ⟨w.heap.size, 2, none⟩ = some (.int .i64 (n : Int)) ∧ ZV 39 3 WW gA A ∧ ZV 39 3 WW gB B) ⟨y0, zz, cc, kA, kB⟩ ?_
  intro W1 ⟨yb1, zQ, c2, z1, z2⟩
  obtain ⟨g2, hg2⟩ : ∃ g, g = w.heap.size := ⟨_, rfl⟩
  rw [← hg2] at zQ c2 ⊢
  clear hg2 q0 y0 zz cc kA kB hA hB
  refine wp_region_grow 10 [5, 6, 7, 8, 9, 10, 11, 12, 13, 14] [Fact.is (.pointer (some ⟨g2, 0, none⟩)), Fact.z 3 (X), Fact.z 3 (B), Fact.z 3 ((X) * (B)), Fact.z 3 (A), Fact.is (.pointer (some ⟨g2, 2, none⟩)), Fact.is (.int .i64 (n : Int)), Fact.z 3 (pw n), Fact.z 3 ((A) * (pw n)), Fact.is (.int .i64 (cmpI ((X) * (B)) ((A) * (pw n))))] (by kernel_rfl) (by kernel_rfl) ⟨?o0, ?o1, ?o2, ?o3, ?o4, ?o5, ?o6, ?o7, ?o8, ?o9, trivial⟩ ?after
  case o0 => (refine StepOK.plain rfl ?_; intro ρ w1 R hρ hb hp hR; have e3 : ρ (.tmp 3) = .pointer (some ⟨g2, 0, none⟩) := hρ.tmp 3 rfl; have hcon := hρ.con; have hfn := hρ.fn; clear hρ hp; unfold OpRun; go_simp; exact hR _ _ (Below.refl _ _) rfl)
  case o1 => (refine StepOK.plain rfl ?_; intro ρ w1 R hρ hb hp hR; have e5 : ρ (.tmp 5) = _ := hp 0 5 rfl rfl; obtain ⟨ya9, yc9, yj9, yn9⟩ := ZV.below zQ hb; obtain ⟨j90, j91, -⟩ := yj9; have hcon := hρ.con; have hfn := hρ.fn; clear hρ hp; unfold OpRun; go_simp; exact hR _ _ (Below.refl _ _) ⟨ya9, yc9, rfl, yn9⟩)
  case o2 => (refine StepOK.plain rfl ?_; intro ρ w1 R hρ hb hp hR; have e1 : ρ (.tmp 1) = .pointer (some ⟨gB, 0, none⟩) := hρ.tmp 1 rfl; obtain ⟨ya9, yc9, yj9, yn9⟩ := ZV.below z2 hb; obtain ⟨j90, j91, -⟩ := yj9; have hcon := hρ.con; have hfn := hρ.fn; clear hρ hp; unfold OpRun; go_simp; exact hR _ _ (Below.refl _ _) ⟨ya9, yc9, rfl, yn9⟩)
  case o3 => (refine StepOK.plain rfl ?_; intro ρ w1 R hρ hb hp hR; have f6 := hp 1 6 rfl rfl; have f7 := hp 2 7 rfl rfl; have hcon := hρ.con; have hfn := hρ.fn; clear hρ hp; unfold OpRun; go_simp; (refine (zmulD _ _ _ _ _ f6 f7 (by first | assumption | omega) (by first | assumption | omega)).mono ?_; rintro e wn ⟨v9, rfl, hz9, hbn⟩; exact ⟨_, rfl, hR _ _ hbn hz9⟩))
  case o4 => (refine StepOK.plain rfl ?_; intro ρ w1 R hρ hb hp hR; have e2 : ρ (.tmp 2) = .pointer (some ⟨gA, 0, none⟩) := hρ.tmp 2 rfl; obtain ⟨ya9, yc9, yj9, yn9⟩ := ZV.below z1 hb; obtain ⟨j90, j91, -⟩ := yj9; have hcon := hρ.con; have hfn := hρ.fn; clear hρ hp; unfold OpRun; go_simp; exact hR _ _ (Below.refl _ _) ⟨ya9, yc9, rfl, yn9⟩)
  case o5 => (refine StepOK.plain rfl ?_; intro ρ w1 R hρ hb hp hR; have e3 : ρ (.tmp 3) = .pointer (some ⟨g2, 0, none⟩) := hρ.tmp 3 rfl; have hcon := hρ.con; have hfn := hρ.fn; clear hρ hp; unfold OpRun; go_simp; exact hR _ _ (Below.refl _ _) rfl)
  case o6 => (refine StepOK.plain rfl ?_; intro ρ w1 R hρ hb hp hR; have e10 : ρ (.tmp 10) = _ := hp 5 10 rfl rfl; have j12 := (hb.cell (World.block_lt_of_cell? _ _ c2)).trans c2; have hcon := hρ.con; have hfn := hρ.fn; clear hρ hp; unfold OpRun; go_simp; exact hR _ _ (Below.refl _ _) rfl)
  case o7 => (refine StepOK.plain rfl ?_; intro ρ w1 R hρ hb hp hR; have e11 : ρ (.tmp 11) = _ := hp 6 11 rfl rfl; have hcon := hρ.con; have hfn := hρ.fn; clear hρ hp; unfold OpRun; go_simp; (refine (zpowD n _ (by first | assumption | omega)).mono ?_; rintro e wn ⟨v9, rfl, hz9, hbn⟩; exact ⟨_, rfl, hR _ _ hbn hz9⟩))
  case o8 => (refine StepOK.plain rfl ?_; intro ρ w1 R hρ hb hp hR; have f9 := hp 4 9 rfl rfl; have f12 := hp 7 12 rfl rfl; have hcon := hρ.con; have hfn := hρ.fn; clear hρ hp; unfold OpRun; go_simp; (refine (zmulD _ _ _ _ _ f9 f12 (by first | assumption | omega) (by first | assumption | omega)).mono ?_; rintro e wn ⟨v9, rfl, hz9, hbn⟩; exact ⟨_, rfl, hR _ _ hbn hz9⟩))
  case o9 => (refine StepOK.plain rfl ?_; intro ρ w1 R hρ hb hp hR; have f8 := hp 3 8 rfl rfl; have f13 := hp 8 13 rfl rfl; have hcon := hρ.con; have hfn := hρ.fn; clear hρ hp; unfold OpRun; go_simp; (refine (zcmpD _ _ _ _ _ f8 f13).mono ?_; rintro e wn ⟨rfl, hbn⟩; exact ⟨_, rfl, hR _ _ hbn rfl⟩))
  case after =>
    intro u wn hb hf
    have e14 : u 14 = _ := hf 9 14 (by omega) rfl
    clear hf
    simp only [putAll, Act.put, List.setIfInBounds_toArray, List.set_cons_zero, List.set_cons_succ, List.drop_succ_cons, List.drop_zero, List.drop_nil]
    rw [e14]
    go_wp2_with fail
    go_ret
    exact ⟨rfl, below_trans yb1 hb⟩
theorem rbCmp_any (v : Value) (D : Dy) (AA T : Nat) (Y A B : Int) (k gA gB : Nat) (w : World) (hq : QD 3 w D AA T v) (hD : D = nrm Y (-(k : Int))) (hAA : AA ≤ 1000000) (hT : T ≤ 1000000) (hB : ZV 39 3 w gB B) (hA : ZV 39 3 w gA A) (lA : (zl A).length ≤ 1000000) (lB : (zl B).length ≤ 1000000) :
    Calls Tryz.prog 114 #[v, .pointer (some ⟨gB, 0, none⟩), .pointer (some ⟨gA, 0, none⟩)] w fun e w' => e = .returned (.int .i64 (cmpI (Y * B) (A * pw k))) ∧ Below w.heap.size w w' := by
  obtain ⟨X, n, ao, cap, rfl, hN, hD2, hX, hn⟩ := hq
  have e := cmp_nrmK (hD2.trans hD) A B
  have h := rbCmp_core X A B n ao cap gA gB w hN hB hA (Nat.le_trans (zl_len_bits X AA hX) hAA) (by omega) lA lB
  rw [e] at h
  exact h
end Go.Proofs.YthaelmnblgollaaGreatDoor
