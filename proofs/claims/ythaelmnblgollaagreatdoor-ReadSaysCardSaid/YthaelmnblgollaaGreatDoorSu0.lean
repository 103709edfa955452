/- Sums of numbers: what is told of a list. -/
import Derived.Test.YthaelmnblgollaaGreatDoorRr5
import Derived.Test.YthaelmnblgollaaGreatDoorDn5
set_option linter.unusedVariables false
set_option linter.unusedSimpArgs false
namespace Go.Ulp
open Go.RowKit
/-- a value, rounded -/
def rX (D : Dy) (mode : Int) : Int := numX (decide (D.1 < 0)) D.1.natAbs D.2 mode
def rC (D : Dy) (mode : Int) : Bool := numC (decide (D.1 < 0)) D.1.natAbs D.2 mode
def isNan (x : Int) : Bool := classOf x == 5
def isInf (x : Int) : Bool := classOf x == 4
def isZer (x : Int) : Bool := classOf x == 1
theorem class_inf (x : Int) (h0 : 0 ≤ x) (h1 : x < 18446744073709551616) : classOf x = 4 ↔ absOf x = 9218868437227405312 := by
  have a := class_nan x h0 h1
  have b := class_val x h0 h1
  have c := class_bd x
  have d : classOf x = 4 ↔ (4 ≤ classOf x ∧ ¬ classOf x = 5) := by omega
  rw [d, a, b]
  omega
theorem class_zer (x : Int) (h0 : 0 ≤ x) (h1 : x < 18446744073709551616) : classOf x = 1 ↔ absOf x = 0 := by
  unfold classOf absOf expOf fracOf
  split
  · split <;> omega
  · split
    · omega
    · split <;> omega
theorem inf_bits (x : Int) (h0 : 0 ≤ x) (h1 : x < 18446744073709551616) (h : classOf x = 4) : x = if negB x then 18442240474082181120 else 9218868437227405312 := by
  have a := (class_inf x h0 h1).1 h
  unfold absOf at a
  unfold negB
  by_cases c : 9223372036854775808 ≤ x
  · rw [decide_eq_true c, if_pos rfl]; omega
  · rw [decide_eq_false c, if_neg (by simp)]; omega
theorem zer_bits (x : Int) (h0 : 0 ≤ x) (h1 : x < 18446744073709551616) (h : classOf x = 1) : x = if negB x then 9223372036854775808 else 0 := by
  have a := (class_zer x h0 h1).1 h
  unfold absOf at a
  unfold negB
  by_cases c : 9223372036854775808 ≤ x
  · rw [decide_eq_true c, if_pos rfl]; omega
  · rw [decide_eq_false c, if_neg (by simp)]; omega
/-- the value of a number over 2^1074 -/
def uV (x : Int) : Int := if classOf x < 4 then rvs (rankOf x) else 0
theorem fv_uV (x : Int) (h0 : 0 ≤ x) (h1 : x < 18446744073709551616) (h : classOf x < 4) : fv x = nrm (uV x) (-1074) := by
  unfold uV; rw [if_pos h]; exact fv_rank x h0 h1
theorem rvi_bd (B : Nat) (hB : 2098 ≤ B) (n : Nat) (h : n < 9218868437227405312) : rvi n < 2 ^ B := by
  have a := rvi_mono h
  obtain ⟨k, hk⟩ : ∃ k : Nat, k = 2046 := ⟨_, rfl⟩
  have e : (9218868437227405312 : Nat) = k * 4503599627370496 + 4503599627370496 := by omega
  rw [e, rvi_pow] at a
  exact Nat.lt_of_lt_of_le a (Nat.pow_le_pow_right (by omega) (by omega))
theorem rvs_bd (B : Nat) (hB : 2098 ≤ B) (r : Int) (h : r.natAbs < 9218868437227405312) : (rvs r).natAbs < 2 ^ B := by
  have a := rvi_bd B hB _ h
  unfold rvs
  split <;> omega
theorem uV_bd (B : Nat) (hB : 2098 ≤ B) (x : Int) (h0 : 0 ≤ x) (h1 : x < 18446744073709551616) : (uV x).natAbs < 2 ^ B := by
  unfold uV
  split
  · rename_i h
    have a : ¬ 4 ≤ classOf x := by omega
    rw [class_val x h0 h1] at a
    refine rvs_bd B hB _ ?_
    rw [rank_abs x h0 h1]
    have b : 0 ≤ absOf x := by unfold absOf; omega
    split <;> omega
  · exact Nat.two_pow_pos B
theorem uV_zer (x : Int) (h0 : 0 ≤ x) (h1 : x < 18446744073709551616) (h : classOf x = 1) : uV x = 0 := by
  unfold uV
  have a := (class_zer x h0 h1).1 h
  rw [rank_abs x h0 h1, a]
  split
  · split <;> rfl
  · rfl
theorem uV_zero_iff (x : Int) (h0 : 0 ≤ x) (h1 : x < 18446744073709551616) (h : classOf x < 4) : uV x = 0 ↔ classOf x = 1 := by
  refine ⟨fun e => ?_, uV_zer x h0 h1⟩
  unfold uV at e
  rw [if_pos h] at e
  have c : cmpI (rvs (rankOf x)) (rvs 0) = 0 := by rw [e, rvs_zero]; rfl
  rw [rvs_cmp, cmpI_eq_zero, rank_abs x h0 h1] at c
  rw [class_zer x h0 h1]
  split at c <;> omega
/-- over the first i of a list: any, how many, the sum -/
def anyTo (p : Int → Bool) (L : List Nat) : Nat → Bool
  | 0 => false
  | i + 1 => anyTo p L i || p (lb L i)
def cntTo (p : Int → Bool) (L : List Nat) : Nat → Nat
  | 0 => 0
  | i + 1 => cntTo p L i + (if p (lb L i) then 1 else 0)
def sumTo (L : List Nat) : Nat → Int
  | 0 => 0
  | i + 1 => sumTo L i + uV (lb L i)
/-- the last infinite one; two that clash -/
def infTo (L : List Nat) : Nat → Int
  | 0 => 0
  | i + 1 => if isInf (lb L i) then lb L i else infTo L i
def clashTo (L : List Nat) : Nat → Bool
  | 0 => false
  | i + 1 => if isInf (lb L i) then clashTo L i || (decide (infTo L i ≠ 0) && decide (infTo L i ≠ lb L i)) else clashTo L i
def pInf (x : Int) : Bool := isInf x && !negB x
def mInf (x : Int) : Bool := isInf x && negB x
def pZer (x : Int) : Bool := isZer x && !negB x
def mZer (x : Int) : Bool := isZer x && negB x
theorem cnt_le (p : Int → Bool) (L : List Nat) : ∀ i, cntTo p L i ≤ i
  | 0 => Nat.le_refl _
  | i + 1 => by have := cnt_le p L i; unfold cntTo; split <;> omega
theorem cnt_split (L : List Nat) : ∀ i, cntTo isZer L i = cntTo pZer L i + cntTo mZer L i
  | 0 => rfl
  | i + 1 => by
    have h := cnt_split L i
    unfold cntTo
    rw [h]
    unfold pZer mZer
    cases isZer (lb L i) <;> cases negB (lb L i) <;> simp <;> omega
theorem sumTo_bd (B : Nat) (hB : 2098 ≤ B) (L : List Nat) (hL : ∀ j, lb L j < 18446744073709551616) : ∀ i, (sumTo L i).natAbs < 2 ^ (B + i)
  | 0 => Nat.two_pow_pos _
  | i + 1 => by
    have h := sumTo_bd B hB L hL i
    have h2 := uV_bd (B + i) (by omega) (lb L i) (lb_nonneg L i) (hL i)
    have := abs_add_lt h h2
    exact this
theorem inf_state (L : List Nat) (hL : ∀ j, lb L j < 18446744073709551616) : ∀ i,
    (infTo L i = 0 ∧ anyTo pInf L i = false ∧ anyTo mInf L i = false ∧ clashTo L i = false)
    ∨ (infTo L i = 9218868437227405312 ∧ anyTo pInf L i = true ∧ clashTo L i = anyTo mInf L i)
    ∨ (infTo L i = 18442240474082181120 ∧ anyTo mInf L i = true ∧ clashTo L i = anyTo pInf L i)
  | 0 => .inl ⟨rfl, rfl, rfl, rfl⟩
  | i + 1 => by
    have h := inf_state L hL i
    have h0 := lb_nonneg L i
    have h1 := hL i
    rw [show infTo L (i + 1) = if isInf (lb L i) then lb L i else infTo L i from rfl, show clashTo L (i + 1) = if isInf (lb L i) then clashTo L i || (decide (infTo L i ≠ 0) && decide (infTo L i ≠ lb L i)) else clashTo L i from rfl,
      show anyTo pInf L (i + 1) = (anyTo pInf L i || pInf (lb L i)) from rfl, show anyTo mInf L (i + 1) = (anyTo mInf L i || mInf (lb L i)) from rfl]
    cases hi : isInf (lb L i)
    · have hp : pInf (lb L i) = false := by unfold pInf; rw [hi]; rfl
      have hm : mInf (lb L i) = false := by unfold mInf; rw [hi]; rfl
      rw [hp, hm, Bool.or_false, Bool.or_false, if_neg (by simp), if_neg (by simp)]
      exact h
    · have e := inf_bits (lb L i) h0 h1 (beq_iff_eq.1 hi)
      rw [if_pos rfl, if_pos rfl]
      cases hn : negB (lb L i)
      · have hp : pInf (lb L i) = true := by unfold pInf; rw [hi, hn]; rfl
        have hm : mInf (lb L i) = false := by unfold mInf; rw [hi, hn]; rfl
        rw [hn, if_neg (by simp)] at e
        rw [hp, hm, e, Bool.or_false, Bool.or_true]
        right; left
        refine ⟨rfl, rfl, ?_⟩
        rcases h with ⟨a, b, c, d⟩ | ⟨a, b, c⟩ | ⟨a, b, c⟩
        · rw [a, d, c]; rfl
        · rw [a, c]; simp
        · rw [a, b]; simp
      · have hp : pInf (lb L i) = false := by unfold pInf; rw [hi, hn]; rfl
        have hm : mInf (lb L i) = true := by unfold mInf; rw [hi, hn]; rfl
        rw [hn, if_pos rfl] at e
        rw [hp, hm, e, Bool.or_false, Bool.or_true]
        right; right
        refine ⟨rfl, rfl, ?_⟩
        rcases h with ⟨a, b, c, d⟩ | ⟨a, b, c⟩ | ⟨a, b, c⟩
        · rw [a, d, b]; rfl
        · rw [a, b]; simp
        · rw [a, c]; simp
/-- what is told of a list's sum -/
def sNan (L : List Nat) : Bool := anyTo isNan L L.length || (anyTo pInf L L.length && anyTo mInf L L.length)
def sInf (L : List Nat) : Bool := anyTo pInf L L.length || anyTo mInf L L.length
def sDy (L : List Nat) : Dy := nrm (sumTo L L.length) (-1074)
def sumX (L : List Nat) (mode : Int) : Int :=
  if sNan L then 9221120237041090560 else if sInf L then (if anyTo mInf L L.length then 18442240474082181120 else 9218868437227405312)
  else if sumTo L L.length ≠ 0 then rX (sDy L) mode else if cntTo pZer L L.length = L.length then 0 else if cntTo mZer L L.length = L.length then 9223372036854775808 else if mode = 2 then 9223372036854775808 else 0
def sumC (L : List Nat) (mode : Int) : Bool := if sNan L then false else if sInf L then false else if sumTo L L.length ≠ 0 then rC (sDy L) mode else false
theorem addD_step (x y : Int) : addD (nrm x (-1074)) (nrm y (-1074)) = nrm (x + y) (-1074) := by
  have h := nrm_add x (-1074) y (-1074) (-1074) (.inl (by omega)) (.inl (by omega))
  rw [sc_self, sc_self] at h
  exact h.symm
end Go.Ulp
namespace Go.Proofs.YthaelmnblgollaaGreatDoor
open Go.RowKit Go.Ulp
set_option linter.unusedVariables false
set_option linter.unusedSimpArgs false
set_option maxHeartbeats 1000000
set_option maxRecDepth 100000
theorem rIsNan_any (x : Int) (h0 : 0 ≤ x) (h1 : x < 18446744073709551616) (w : World) :
    Calls Tryz.prog 95 #[.int .u64 x] w fun e w' => e = .returned (.bool (isNan x)) ∧ w = w' := by
  have CL := hid (fun w => classOf_any x h0 h1 w)
  have HC := hid (show (classOf x == 5) = isNan x from rfl)
  generalize classOf x = c at *
  go_enter Tryz.func95, Tryz.ntmps95
  go_wp2_with (go_at_call 83; (with_reducible refine (CL.out _).mono ?_); rintro en w1 ⟨rfl, rfl⟩)
  go_ret
  exact ⟨ret_bool HC.out, rfl⟩
theorem rIsInf_any (x : Int) (h0 : 0 ≤ x) (h1 : x < 18446744073709551616) (w : World) :
    Calls Tryz.prog 98 #[.int .u64 x] w fun e w' => e = .returned (.bool (isInf x)) ∧ w = w' := by
  have CL := hid (fun w => classOf_any x h0 h1 w)
  have HC := hid (show (classOf x == 4) = isInf x from rfl)
  generalize classOf x = c at *
  go_enter Tryz.func98, Tryz.ntmps98
  go_wp2_with (go_at_call 83; (with_reducible refine (CL.out _).mono ?_); rintro en w1 ⟨rfl, rfl⟩)
  go_ret
  exact ⟨ret_bool HC.out, rfl⟩
theorem rIsZero_any (x : Int) (h0 : 0 ≤ x) (h1 : x < 18446744073709551616) (w : World) :
    Calls Tryz.prog 54 #[.int .u64 x] w fun e w' => e = .returned (.bool (isZer x)) ∧ w = w' := by
  have CL := hid (fun w => classOf_any x h0 h1 w)
  have HC := hid (show (classOf x == 1) = isZer x from rfl)
  generalize classOf x = c at *
  go_enter Tryz.func54, Tryz.ntmps54
  go_wp2_with (go_at_call 83; (with_reducible refine (CL.out _).mono ?_); rintro en w1 ⟨rfl, rfl⟩)
  go_ret
  exact ⟨ret_bool HC.out, rfl⟩
theorem hasVal_lt (x : Int) (h0 : 0 ≤ x) (h1 : x < 18446744073709551616) : decide (classOf x < 4) = hasVal x := by
  have a := class_val x h0 h1
  unfold hasVal
  unfold absOf at a
  rw [decide_eq_decide]; omega
theorem rHasValue_any (x : Int) (h0 : 0 ≤ x) (h1 : x < 18446744073709551616) (w : World) :
    Calls Tryz.prog 19 #[.int .u64 x] w fun e w' => e = .returned (.bool (hasVal x)) ∧ w = w' := by
  have CL := hid (fun w => classOf_any x h0 h1 w)
  have HC := hid (hasVal_lt x h0 h1)
  generalize classOf x = c at *
  go_enter Tryz.func19, Tryz.ntmps19
  go_wp2_with (go_at_call 83; (with_reducible refine (CL.out _).mono ?_); rintro en w1 ⟨rfl, rfl⟩)
  go_ret
  exact ⟨ret_bool HC.out, rfl⟩
theorem rMinus_any (x : Int) (h0 : 0 ≤ x) (h1 : x < 18446744073709551616) (w : World) :
    Calls Tryz.prog 96 #[.int .u64 x] w fun e w' => e = .returned (.bool (negB x)) ∧ w = w' := by
  go_enter Tryz.func96, Tryz.ntmps96
  go_wp2_with fail
  go_ret
  exact ⟨ret_bool rfl, rfl⟩
theorem rQuiet_any (w : World) : Calls Tryz.prog 43 #[] w fun e w' => e = .returned (.int .u64 9221120237041090560) ∧ w = w' := by
  go_enter Tryz.func43, Tryz.ntmps43
  go_wp2_with fail
  go_ret
  exact ⟨rfl, rfl⟩
theorem rInfBits_any (w : World) : Calls Tryz.prog 41 #[] w fun e w' => e = .returned (.int .u64 9218868437227405312) ∧ w = w' := by
  go_enter Tryz.func41, Tryz.ntmps41
  go_wp2_with fail
  go_ret
  exact ⟨rfl, rfl⟩
theorem rSigned_any (x : Int) (h0 : 0 ≤ x) (h1 : x < 9223372036854775808) (neg : Bool) (w : World) :
    Calls Tryz.prog 42 #[.int .u64 x, .bool neg] w fun e w' => e = .returned (.int .u64 (x + sgb neg)) ∧ w = w' := by
  cases neg
  · go_enter Tryz.func42, Tryz.ntmps42
    go_wp2_with fail
    go_ret
    exact ⟨ret_int (by unfold sgb; rw [if_neg (by simp), Int.add_zero]), rfl⟩
  · go_enter Tryz.func42, Tryz.ntmps42
    go_wp2_with fail
    go_ret
    exact ⟨ret_int (by unfold sgb; rw [if_pos rfl]), rfl⟩
theorem roundedD_any (v : Value) (D : Dy) (A T : Nat) (mode : Int) (w : World) (hq : QD 3 w D A T v) (hI : IsN D) (hA : A ≤ 10000000) (hT : T ≤ 200000) (m0 : 0 ≤ mode) (m1 : mode ≤ 4) :
    Calls Tryz.prog 49 #[v, .int .i64 0, .int .i64 mode] w (RetX w (rX D mode) (rC D mode)) := by
  have e : nrm (sg (decide (D.1 < 0)) (D.1.natAbs : Int)) D.2 = D := by rw [sg_self]; exact nrm_of_isN D hI
  exact roundedP_any v (decide (D.1 < 0)) D.1.natAbs D.2 A T mode w (by rw [e]; exact hq) hA hT m0 m1 (fun h => decide_eq_false (by omega))
theorem numberD_any (v : Value) (D : Dy) (mode : Int) (w : World) (hv : VD w D v) (hl : (limbs D.1.natAbs).length ≤ 10000) (he : -100000 ≤ D.2 ∧ D.2 ≤ 100000) (hI : IsN D) :
    Calls Tryz.prog 107 #[v, .int .i64 mode] w (RetX w (rX D mode) (rC D mode)) := by
  obtain ⟨am, cm, rfl, hN⟩ := hv
  exact number_any (decide (D.1 < 0)) am cm D.1.natAbs D.2 mode w hN hl he (fun h => by
    rcases hI with h2 | h2
    · exact h2.2
    · rw [h] at h2; omega)
end Go.Proofs.YthaelmnblgollaaGreatDoor
