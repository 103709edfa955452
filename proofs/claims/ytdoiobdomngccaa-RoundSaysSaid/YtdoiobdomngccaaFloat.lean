/- What the functions of package float, and the reference's on bits, answer. -/
import Derived.Test.YtdoiobdomngccaaRows
import Derived.Test.YtdoiobdomngccaaBase
set_option linter.unusedVariables false
set_option linter.unusedSimpArgs false
namespace Go.Ulp
/-- exponent, fraction, class and rank of a number's bits -/
def expOf (x : Int) : Int := x / 4503599627370496 % 2048
def fracOf (x : Int) : Int := x % 4503599627370496
def negB (x : Int) : Bool := decide (9223372036854775808 ≤ x)
def classOf (x : Int) : Int := if expOf x = 2047 then (if 0 < fracOf x then 5 else 4) else if 0 < expOf x then 3 else if 0 < fracOf x then 2 else 1
def rankOf (x : Int) : Int := if 9223372036854775808 ≤ x then -(x % 9223372036854775808) else x % 9223372036854775808
def ranked (n : Int) : Int := if n < 0 then 9223372036854775808 + -n else n
def negOf (x : Int) : Int := if x < 9223372036854775808 then x + 9223372036854775808 else x - 9223372036854775808
def absOf (x : Int) : Int := x % 9223372036854775808
def hasVal (x : Int) : Bool := decide (x % 9223372036854775808 < 9218868437227405312)
theorem expOf_bd (x : Int) : 0 ≤ expOf x ∧ expOf x ≤ 2047 := by unfold expOf; omega
theorem fracOf_bd (x : Int) : 0 ≤ fracOf x ∧ fracOf x < 4503599627370496 := by unfold fracOf; omega
theorem class_bd (x : Int) : 1 ≤ classOf x ∧ classOf x ≤ 5 := by unfold classOf; omega
theorem rank_bd (x : Int) : -9223372036854775807 ≤ rankOf x ∧ rankOf x ≤ 9223372036854775807 := by unfold rankOf; split <;> omega
theorem class_nan (x : Int) (h0 : 0 ≤ x) (h1 : x < 18446744073709551616) : classOf x = 5 ↔ 9218868437227405312 < absOf x := by
  unfold classOf absOf; split
  · rename_i h; split
    · rename_i h2; unfold expOf at h; unfold fracOf at h2; simp; omega
    · rename_i h2; unfold expOf at h; unfold fracOf at h2; simp; omega
  · rename_i h; unfold expOf at h; constructor
    · intro h2; split at h2 <;> (try split at h2) <;> omega
    · intro h2; omega
theorem class_val (x : Int) (h0 : 0 ≤ x) (h1 : x < 18446744073709551616) : 4 ≤ classOf x ↔ 9218868437227405312 ≤ absOf x := by
  unfold classOf absOf; split
  · rename_i h; unfold expOf at h; constructor
    · intro _; omega
    · intro _; split <;> omega
  · rename_i h; unfold expOf at h; constructor
    · intro h2; split at h2 <;> (try split at h2) <;> omega
    · intro h2; omega
theorem rank_abs (x : Int) (h0 : 0 ≤ x) (h1 : x < 18446744073709551616) : rankOf x = if negB x then -absOf x else absOf x := by
  unfold rankOf negB absOf; split <;> rename_i h
  · rw [if_pos (by simpa using h)]
  · rw [if_neg (by simpa using h)]
theorem negOf_bd (x : Int) (h0 : 0 ≤ x) (h1 : x < 18446744073709551616) : 0 ≤ negOf x ∧ negOf x < 18446744073709551616 := by unfold negOf; split <;> omega
end Go.Ulp
namespace Go.Proofs.Ytdoiobdomngccaa
open Go.RowKit Go.Ulp
set_option maxHeartbeats 400000

theorem parts_any (x : Int) (h0 : 0 ≤ x) (h1 : x < 18446744073709551616) (w : World) :
    Calls Try.prog 11 #[.int .u64 x] w fun e w' => e = .returned (.tuple #[.bool (negB x), .int .i64 (expOf x), .int .u64 (fracOf x)]) ∧ w = w' := by
  have e1 := and_2047 (x / 4503599627370496) (by omega) (by omega)
  have e2 := and_frac x h0 h1
  have E1 := hid e1
  have E2 := hid e2
  clear e1 e2
  go_enter Try.func11, Try.ntmps11
  go_wp2_with fail
  go_ret3
  refine ⟨?_, rfl⟩
  simp only [Array.getD, E1.out, E2.out]
  have : (x / 9223372036854775808 == 1) = negB x := by unfold negB; rw [Bool.eq_iff_iff]; simp; omega
  simp [this, expOf, fracOf]
  rw [IntWalk.wrap64_in _ (by omega)]

theorem fields_any (x : Int) (h0 : 0 ≤ x) (h1 : x < 18446744073709551616) (w : World) :
    Calls Try.prog 12 #[.int .u64 x] w fun e w' => e = .returned (.tuple #[.bool (negB x), .int .i64 (expOf x), .int .i64 (fracOf x)]) ∧ w = w' := by
  go_enter Try.func12, Try.ntmps12
  go_wp2_with fail
  go_ret3
  refine ⟨?_, rfl⟩
  simp [negB, expOf, fracOf]
  try omega

theorem class_any (x : Int) (h0 : 0 ≤ x) (h1 : x < 18446744073709551616) (w : World) :
    Calls Try.prog 13 #[.int .u64 x] w fun e w' => e = .returned (.int .i64 (classOf x)) ∧ w = w' := by
  have b1 := expOf_bd x
  have b2 := fracOf_bd x
  by_cases c1 : expOf x = 0 <;> by_cases c2 : fracOf x = 0 <;> by_cases c3 : expOf x = 2047 <;> try omega
  all_goals
    have hc : classOf x = classOf x := rfl
    conv at hc => rhs; unfold classOf
    simp only [c1, c2, c3] at hc
    have HC := hid hc
    clear hc
    go_enter Try.func13, Try.ntmps13
    go_wp2_with (go_at_call 11; refine (parts_any x h0 h1 _).mono ?_; rintro e w' ⟨rfl, rfl⟩)
    go_ret
    refine ⟨ret_int ?_, rfl⟩
    rw [HC.out]
    simp
    try omega

theorem classOf_any (x : Int) (h0 : 0 ≤ x) (h1 : x < 18446744073709551616) (w : World) :
    Calls Try.prog 14 #[.int .u64 x] w fun e w' => e = .returned (.int .i64 (classOf x)) ∧ w = w' := by
  have b1 := expOf_bd x
  have b2 := fracOf_bd x
  by_cases c1 : 0 < expOf x <;> by_cases c2 : 0 < fracOf x <;> by_cases c3 : expOf x = 2047 <;> try omega
  all_goals
    have hc : classOf x = classOf x := rfl
    conv at hc => rhs; unfold classOf
    simp only [c1, c2, c3] at hc
    have HC := hid hc
    clear hc
    go_enter Try.func14, Try.ntmps14
    go_wp2_with (go_at_call 12; refine (fields_any x h0 h1 _).mono ?_; rintro e w' ⟨rfl, rfl⟩)
    go_ret
    refine ⟨ret_int ?_, rfl⟩
    rw [HC.out]
    simp

theorem neg_any (x : Int) (h0 : 0 ≤ x) (h1 : x < 18446744073709551616) (w : World) :
    Calls Try.prog 15 #[.int .u64 x] w fun e w' => e = .returned (.int .u64 (negOf x)) ∧ w = w' := by
  have E := hid (xor_sign x h0 h1)
  go_enter Try.func15, Try.ntmps15
  go_wp2_with fail
  go_ret
  exact ⟨ret_int (by simp only [negOf]; exact E.out), rfl⟩

theorem abs_any (x : Int) (h0 : 0 ≤ x) (h1 : x < 18446744073709551616) (w : World) :
    Calls Try.prog 16 #[.int .u64 x] w fun e w' => e = .returned (.int .u64 (absOf x)) ∧ w = w' := by
  have E := hid (andNot_sign x h0 h1)
  go_enter Try.func16, Try.ntmps16
  go_wp2_with fail
  go_ret
  exact ⟨ret_int E.out, rfl⟩

theorem hasValue_any (x : Int) (h0 : 0 ≤ x) (h1 : x < 18446744073709551616) (w : World) :
    Calls Try.prog 76 #[.int .u64 x] w fun e w' => e = .returned (.bool (hasVal x)) ∧ w = w' := by
  go_enter Try.func76, Try.ntmps76
  go_wp2_with (go_at_call 16; refine (abs_any x h0 h1 _).mono ?_; rintro e w' ⟨rfl, rfl⟩)
  go_ret
  exact ⟨ret_bool (by simp only [hasVal, absOf]; rfl), rfl⟩

def madeB (exp frac : Int) : Bool := decide (0 ≤ exp ∧ exp ≤ 2047 ∧ frac < 4503599627370496)
theorem make_bad (neg : Bool) (exp frac : Int) (f0 : 0 ≤ frac) (f1 : frac < 18446744073709551616) (hb : exp < 0 ∨ 2047 < exp ∨ 4503599627370496 ≤ frac) (w : World) :
    Calls Try.prog 17 #[.bool neg, .int .i64 exp, .int .u64 frac] w fun e w' => e = .returned (.tuple #[.int .u64 0, .int .i64 1]) ∧ w = w' := by
  by_cases c1 : exp < 0 <;> by_cases c2 : 2047 < exp <;> by_cases c3 : 4503599627370496 ≤ frac <;> try omega
  all_goals
    clear hb
    go_enter Try.func17, Try.ntmps17
    go_wp2_with fail
    go_ret2
    exact ⟨rfl, rfl⟩
theorem make_good (neg : Bool) (exp frac : Int) (f0 : 0 ≤ frac) (f1 : frac < 18446744073709551616) (c1 : 0 ≤ exp) (c2 : exp ≤ 2047) (c3 : frac < 4503599627370496) (w : World) :
    Calls Try.prog 17 #[.bool neg, .int .i64 exp, .int .u64 frac] w fun e w' => e = .returned (.tuple #[.int .u64 (exp * 4503599627370496 + frac + (if neg then 9223372036854775808 else 0)), .int .i64 0]) ∧ w = w' := by
  have E1 := hid (or_join52 (exp * 4503599627370496) frac (by omega) (by omega) f0 f1 (by omega) c3)
  have E2 := hid (or_sign (exp * 4503599627370496 + frac) (by omega) (by omega))
  cases neg
  all_goals
    go_enter Try.func17, Try.ntmps17
    go_wp2_with fail
    go_ret2
    refine ⟨?_, rfl⟩
    simp [Array.getD, E1.out, E2.out]

theorem rank_nan (x : Int) (h0 : 0 ≤ x) (h1 : x < 18446744073709551616) (hn : classOf x = 5) (w : World) :
    Calls Try.prog 19 #[.int .u64 x] w fun e w' => e = .returned (.tuple #[.int .i64 0, .int .i64 4]) ∧ w = w' := by
  go_enter Try.func19, Try.ntmps19
  go_wp2_with (go_at_call 13; refine (class_any x h0 h1 _).mono ?_; rintro e w' ⟨rfl, rfl⟩)
  go_ret2
  exact ⟨rfl, rfl⟩
theorem rank_num (x : Int) (h0 : 0 ≤ x) (h1 : x < 18446744073709551616) (hn : classOf x ≠ 5) (w : World) :
    Calls Try.prog 19 #[.int .u64 x] w fun e w' => e = .returned (.tuple #[.int .i64 (rankOf x), .int .i64 0]) ∧ w = w' := by
  have ha : 0 ≤ absOf x ∧ absOf x < 9223372036854775808 := by unfold absOf; omega
  by_cases c : 9223372036854775808 ≤ x
  all_goals
    have hr : rankOf x = rankOf x := rfl
    conv at hr => rhs; unfold rankOf
    have HR := hid hr
    clear hr
    go_enter Try.func19, Try.ntmps19
    go_wp2_with (first | (go_at_call 13; refine (class_any x h0 h1 _).mono ?_; rintro e w' ⟨rfl, rfl⟩) | (go_at_call 16; refine (abs_any x h0 h1 _).mono ?_; rintro e w' ⟨rfl, rfl⟩))
    go_ret2
    refine ⟨?_, rfl⟩
    rw [HR.out]
    first | rw [if_pos (by omega)] | rw [if_neg (by omega)]
    simp [Array.getD, absOf]

theorem of_bad (n : Int) (hb : n < -9218868437227405312 ∨ 9218868437227405312 < n) (w : World) :
    Calls Try.prog 20 #[.int .i64 n] w fun e w' => e = .returned (.tuple #[.int .u64 0, .int .i64 1]) ∧ w = w' := by
  rcases hb with c | c
  all_goals
    go_enter Try.func20, Try.ntmps20
    go_wp2_with fail
    go_ret2
    exact ⟨rfl, rfl⟩
theorem of_good (n : Int) (c1 : -9218868437227405312 ≤ n) (c2 : n ≤ 9218868437227405312) (w : World) :
    Calls Try.prog 20 #[.int .i64 n] w fun e w' => e = .returned (.tuple #[.int .u64 (ranked n), .int .i64 0]) ∧ w = w' := by
  by_cases c : n < 0
  · have E2 := hid (or_sign (-n) (by omega) (by omega))
    go_enter Try.func20, Try.ntmps20
    go_wp2_with fail
    go_ret2
    refine ⟨?_, rfl⟩
    unfold ranked
    rw [if_pos (by omega)]
    simp only [Array.getD]
    simp [E2.out]
    omega
  · go_enter Try.func20, Try.ntmps20
    go_wp2_with fail
    go_ret2
    refine ⟨?_, rfl⟩
    unfold ranked
    rw [if_neg (by omega)]
    rfl

theorem ranked_any (n : Int) (c1 : -9218868437227405312 ≤ n) (c2 : n ≤ 9218868437227405312) (w : World) :
    Calls Try.prog 24 #[.int .i64 n] w fun e w' => e = .returned (.int .u64 (ranked n)) ∧ w = w' := by
  by_cases c : n < 0
  all_goals
    go_enter Try.func24, Try.ntmps24
    go_wp2_with fail
    go_ret
    exact ⟨ret_int (by unfold ranked; first | rw [if_pos (by omega)] | rw [if_neg (by omega)]; (try rfl); (try omega)), rfl⟩
theorem rankOf_any (x : Int) (h0 : 0 ≤ x) (h1 : x < 18446744073709551616) (w : World) :
    Calls Try.prog 25 #[.int .u64 x] w fun e w' => e = .returned (.int .i64 (rankOf x)) ∧ w = w' := by
  have b1 := expOf_bd x
  have b2 := fracOf_bd x
  have E := hid (show expOf x * 4503599627370496 + fracOf x = x % 9223372036854775808 by unfold expOf fracOf; omega)
  have hx : negB x = true ∨ negB x = false := by cases negB x <;> simp
  have hr : rankOf x = if negB x then - (x % 9223372036854775808) else x % 9223372036854775808 := by simp [rankOf, negB]
  have HR := hid hr
  clear hr
  rcases hx with c | c
  all_goals
    go_enter Try.func25, Try.ntmps25
    go_wp2_with (go_at_call 12; refine (fields_any x h0 h1 _).mono ?_; rintro e w' ⟨rfl, rfl⟩)
    go_ret
    refine ⟨ret_int ?_, rfl⟩
    rw [HR.out, ← E.out]
    simp [c]

theorem between_any (n lo hi : Int) (w : World) :
    Calls Try.prog 18 #[.int .i64 n, .int .i64 lo, .int .i64 hi] w fun e w' => e = .returned (.bool (decide (lo ≤ n ∧ n ≤ hi))) ∧ w = w' := by
  by_cases c1 : lo ≤ n <;> by_cases c2 : n ≤ hi
  all_goals
    go_enter Try.func18, Try.ntmps18
    go_wp2_with fail
    go_ret
    exact ⟨ret_bool (by simp [c1, c2]), rfl⟩

def nextOf (x : Int) : Int := if rankOf x = -1 then 9223372036854775808 else ranked (min (rankOf x + 1) 9218868437227405312)
def prevOf (x : Int) : Int := ranked (max (rankOf x - 1) (-9218868437227405312))
theorem rank_lim (x : Int) (h0 : 0 ≤ x) (h1 : x < 18446744073709551616) (hn : classOf x ≠ 5) : -9218868437227405312 ≤ rankOf x ∧ rankOf x ≤ 9218868437227405312 := by
  have h : ¬ 9218868437227405312 < absOf x := fun h => hn ((class_nan x h0 h1).2 h)
  have e : absOf x = x % 9223372036854775808 := rfl
  unfold rankOf; split <;> omega
theorem ranked_rank (x : Int) (h0 : 0 ≤ x) (h1 : x < 18446744073709551616) (hz : x ≠ 9223372036854775808) : ranked (rankOf x) = x := by
  unfold ranked rankOf; split <;> split <;> omega
theorem next_nan (x : Int) (h0 : 0 ≤ x) (h1 : x < 18446744073709551616) (hn : classOf x = 5) (w : World) :
    Calls Try.prog 22 #[.int .u64 x] w fun e w' => e = .returned (.int .u64 9221120237041090560) ∧ w = w' := by
  have R := hid (fun w => rank_nan x h0 h1 hn w)
  clear hn
  go_enter Try.func22, Try.ntmps22
  go_wp2_with (go_at_call 19; refine (R.out _).mono ?_; rintro e w' ⟨rfl, rfl⟩)
  go_ret
  exact ⟨rfl, rfl⟩
theorem prev_nan (x : Int) (h0 : 0 ≤ x) (h1 : x < 18446744073709551616) (hn : classOf x = 5) (w : World) :
    Calls Try.prog 23 #[.int .u64 x] w fun e w' => e = .returned (.int .u64 9221120237041090560) ∧ w = w' := by
  have R := hid (fun w => rank_nan x h0 h1 hn w)
  clear hn
  go_enter Try.func23, Try.ntmps23
  go_wp2_with (go_at_call 19; refine (R.out _).mono ?_; rintro e w' ⟨rfl, rfl⟩)
  go_ret
  exact ⟨rfl, rfl⟩
theorem next_num (x : Int) (h0 : 0 ≤ x) (h1 : x < 18446744073709551616) (hn : classOf x ≠ 5) (w : World) :
    Calls Try.prog 22 #[.int .u64 x] w fun e w' => e = .returned (.int .u64 (nextOf x)) ∧ w = w' := by
  obtain ⟨l1, l2⟩ := rank_lim x h0 h1 hn
  have R := hid (fun w => rank_num x h0 h1 hn w)
  clear hn
  have HR := hid (show nextOf x = if rankOf x = -1 then 9223372036854775808 else ranked (min (rankOf x + 1) 9218868437227405312) from rfl)
  by_cases c1 : rankOf x = 9218868437227405312
  · have hx : ranked 9218868437227405312 = x := by
      rw [← c1]; refine ranked_rank x h0 h1 ?_
      intro hz; subst hz; revert c1; decide
    have HX := hid hx
    clear hx
    go_enter Try.func22, Try.ntmps22
    go_wp2_with (go_at_call 19; refine (R.out _).mono ?_; rintro e w' ⟨rfl, rfl⟩)
    go_ret
    refine ⟨ret_int ?_, rfl⟩
    rw [HR.out, if_neg (by omega), c1]; exact HX.out.symm
  · by_cases c2 : rankOf x = -1
    · go_enter Try.func22, Try.ntmps22
      go_wp2_with (go_at_call 19; refine (R.out _).mono ?_; rintro e w' ⟨rfl, rfl⟩)
      go_ret
      refine ⟨ret_int ?_, rfl⟩
      rw [HR.out, if_pos (by omega)]
    · go_enter Try.func22, Try.ntmps22
      go_wp2_with (first | (go_at_call 19; refine (R.out _).mono ?_; rintro e w' ⟨rfl, rfl⟩) | (go_at_call 20; refine (of_good (rankOf x + 1) (by omega) (by omega) _).mono ?_; rintro e w' ⟨rfl, rfl⟩))
      go_ret
      refine ⟨ret_int ?_, rfl⟩
      rw [HR.out, if_neg (by omega), show min (rankOf x + 1) 9218868437227405312 = rankOf x + 1 by omega]
theorem prev_num (x : Int) (h0 : 0 ≤ x) (h1 : x < 18446744073709551616) (hn : classOf x ≠ 5) (w : World) :
    Calls Try.prog 23 #[.int .u64 x] w fun e w' => e = .returned (.int .u64 (prevOf x)) ∧ w = w' := by
  obtain ⟨l1, l2⟩ := rank_lim x h0 h1 hn
  have R := hid (fun w => rank_num x h0 h1 hn w)
  clear hn
  have HR := hid (show prevOf x = ranked (max (rankOf x - 1) (-9218868437227405312)) from rfl)
  by_cases c1 : rankOf x = -9218868437227405312
  · have hx : ranked (-9218868437227405312) = x := by
      rw [← c1]; refine ranked_rank x h0 h1 ?_
      intro hz; subst hz; revert c1; decide
    have HX := hid hx
    clear hx
    go_enter Try.func23, Try.ntmps23
    go_wp2_with (go_at_call 19; refine (R.out _).mono ?_; rintro e w' ⟨rfl, rfl⟩)
    go_ret
    refine ⟨ret_int ?_, rfl⟩
    rw [HR.out, c1]; exact HX.out.symm
  · go_enter Try.func23, Try.ntmps23
    go_wp2_with (first | (go_at_call 19; refine (R.out _).mono ?_; rintro e w' ⟨rfl, rfl⟩) | (go_at_call 20; refine (of_good (rankOf x - 1) (by omega) (by omega) _).mono ?_; rintro e w' ⟨rfl, rfl⟩))
    go_ret
    refine ⟨ret_int ?_, rfl⟩
    rw [HR.out, show max (rankOf x - 1) (-9218868437227405312) = rankOf x - 1 by omega]
theorem ulp_none (x : Int) (h0 : 0 ≤ x) (h1 : x < 18446744073709551616) (hv : hasVal x = false) (w : World) :
    Calls Try.prog 21 #[.int .u64 x] w fun e w' => e = .returned (.tuple #[.int .i64 0, .int .i64 4]) ∧ w = w' := by
  go_enter Try.func21, Try.ntmps21
  go_wp2_with (go_at_call 76; refine (hasValue_any x h0 h1 _).mono ?_; rintro e w' ⟨rfl, rfl⟩)
  go_ret2
  exact ⟨rfl, rfl⟩
theorem ulp_some (x : Int) (h0 : 0 ≤ x) (h1 : x < 18446744073709551616) (hv : hasVal x = true) (w : World) :
    Calls Try.prog 21 #[.int .u64 x] w fun e w' => e = .returned (.tuple #[.int .i64 (max (expOf x) 1 - 1075), .int .i64 0]) ∧ w = w' := by
  have b1 := expOf_bd x
  by_cases c : 1 ≤ expOf x
  all_goals
    go_enter Try.func21, Try.ntmps21
    go_wp2_with (first | (go_at_call 76; refine (hasValue_any x h0 h1 _).mono ?_; rintro e w' ⟨rfl, rfl⟩) | (go_at_call 11; refine (parts_any x h0 h1 _).mono ?_; rintro e w' ⟨rfl, rfl⟩))
    go_ret2
    refine ⟨?_, rfl⟩
    simp only [Array.getD]
    simp
    try omega
end Go.Proofs.Ytdoiobdomngccaa
