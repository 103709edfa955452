/- What the functions of package float, and the reference's on bits, answer. -/
import Derived.Test.YthaelmnblgollaaGreatDoorRows
import Derived.Test.YthaelmnblgollaaGreatDoorMem
set_option linter.unusedVariables false
set_option linter.unusedSimpArgs false
namespace Go.Ulp
/-- exponent, fraction, class and rank of a number's bits -/
def expOf (x : Int) : Int := x / 4503599627370496 % 2048
def fracOf (x : Int) : Int := x % 4503599627370496
def negB (x : Int) : Bool := decide (9223372036854775808 ≤ x)
def classOf (x : Int) : Int := if expOf x = 2047 then (if 0 < fracOf x then 5 else 4) else if 0 < expOf x then 3 else if 0 < fracOf x then 2 else 1
def rankOf (x : Int) : Int := if 9223372036854775808 ≤ x then -(x % 9223372036854775808) else x % 9223372036854775808
def ranked (n : Int) : Int := if n < 0 then 9223372036854775808 + -n else n
def negOf (x : Int) : Int := if x < 9223372036854775808 then x + 9223372036854775808 else x - 9223372036854775808
def absOf (x : Int) : Int := x % 9223372036854775808
def hasVal (x : Int) : Bool := decide (x % 9223372036854775808 < 9218868437227405312)
theorem expOf_bd (x : Int) : 0 ≤ expOf x ∧ expOf x ≤ 2047 := by unfold expOf; omega
theorem fracOf_bd (x : Int) : 0 ≤ fracOf x ∧ fracOf x < 4503599627370496 := by unfold fracOf; omega
theorem class_bd (x : Int) : 1 ≤ classOf x ∧ classOf x ≤ 5 := by unfold classOf; omega
theorem rank_bd (x : Int) : -9223372036854775807 ≤ rankOf x ∧ rankOf x ≤ 9223372036854775807 := by unfold rankOf; split <;> omega
theorem class_nan (x : Int) (h0 : 0 ≤ x) (h1 : x < 18446744073709551616) : classOf x = 5 ↔ 9218868437227405312 < absOf x := by
  unfold classOf absOf; split
  · rename_i h; split
    · rename_i h2; unfold expOf at h; unfold fracOf at h2; simp; omega
    · rename_i h2; unfold expOf at h; unfold fracOf at h2; simp; omega
  · rename_i h; unfold expOf at h; constructor
    · intro h2; split at h2 <;> (try split at h2) <;> omega
    · intro h2; omega
theorem class_val (x : Int) (h0 : 0 ≤ x) (h1 : x < 18446744073709551616) : 4 ≤ classOf x ↔ 9218868437227405312 ≤ absOf x := by
  unfold classOf absOf; split
  · rename_i h; unfold expOf at h; constructor
    · intro _; omega
    · intro _; split <;> omega
  · rename_i h; unfold expOf at h; constructor
    · intro h2; split at h2 <;> (try split at h2) <;> omega
    · intro h2; omega
theorem rank_abs (x : Int) (h0 : 0 ≤ x) (h1 : x < 18446744073709551616) : rankOf x = if negB x then -absOf x else absOf x := by
  unfold rankOf negB absOf; split <;> rename_i h
  · rw [if_pos (by simpa using h)]
  · rw [if_neg (by simpa using h)]
theorem negOf_bd (x : Int) (h0 : 0 ≤ x) (h1 : x < 18446744073709551616) : 0 ≤ negOf x ∧ negOf x < 18446744073709551616 := by unfold negOf; split <;> omega
end Go.Ulp
namespace Go.Proofs.YthaelmnblgollaaGreatDoor
open Go.RowKit Go.Ulp
set_option maxHeartbeats 400000

theorem parts_any (x : Int) (h0 : 0 ≤ x) (h1 : x < 18446744073709551616) (w : World) :
    Calls Tryz.prog 161 #[.int .u64 x] w fun e w' => e = .returned (.tuple #[.bool (negB x), .int .i64 (expOf x), .int .u64 (fracOf x)]) ∧ w = w' := by
  have e1 := and_2047 (x / 4503599627370496) (by omega) (by omega)
  have e2 := and_frac x h0 h1
  have E1 := hid e1
  have E2 := hid e2
  clear e1 e2
  go_enter Tryz.func161, Tryz.ntmps161
  go_wp2_with fail
  go_ret3
  refine ⟨?_, rfl⟩
  simp only [Array.getD, E1.out, E2.out]
  have : (x / 9223372036854775808 == 1) = negB x := by unfold negB; rw [Bool.eq_iff_iff]; simp; omega
  simp [this, expOf, fracOf]
  rw [IntWalk.wrap64_in _ (by omega)]

theorem fields_any (x : Int) (h0 : 0 ≤ x) (h1 : x < 18446744073709551616) (w : World) :
    Calls Tryz.prog 165 #[.int .u64 x] w fun e w' => e = .returned (.tuple #[.bool (negB x), .int .i64 (expOf x), .int .i64 (fracOf x)]) ∧ w = w' := by
  go_enter Tryz.func165, Tryz.ntmps165
  go_wp2_with fail
  go_ret3
  refine ⟨?_, rfl⟩
  simp [negB, expOf, fracOf]
  try omega

theorem class_any (x : Int) (h0 : 0 ≤ x) (h1 : x < 18446744073709551616) (w : World) :
    Calls Tryz.prog 64 #[.int .u64 x] w fun e w' => e = .returned (.int .i64 (classOf x)) ∧ w = w' := by
  have b1 := expOf_bd x
  have b2 := fracOf_bd x
  by_cases c1 : expOf x = 0 <;> by_cases c2 : fracOf x = 0 <;> by_cases c3 : expOf x = 2047 <;> try omega
  all_goals
    have hc : classOf x = classOf x := rfl
    conv at hc => rhs; unfold classOf
    simp only [c1, c2, c3] at hc
    have HC := hid hc
    clear hc
    go_enter Tryz.func64, Tryz.ntmps64
    go_wp2_with (go_at_call 161; refine (parts_any x h0 h1 _).mono ?_; rintro e w' ⟨rfl, rfl⟩)
    go_ret
    refine ⟨ret_int ?_, rfl⟩
    rw [HC.out]
    simp
    try omega

theorem classOf_any (x : Int) (h0 : 0 ≤ x) (h1 : x < 18446744073709551616) (w : World) :
    Calls Tryz.prog 83 #[.int .u64 x] w fun e w' => e = .returned (.int .i64 (classOf x)) ∧ w = w' := by
  have b1 := expOf_bd x
  have b2 := fracOf_bd x
  by_cases c1 : 0 < expOf x <;> by_cases c2 : 0 < fracOf x <;> by_cases c3 : expOf x = 2047 <;> try omega
  all_goals
    have hc : classOf x = classOf x := rfl
    conv at hc => rhs; unfold classOf
    simp only [c1, c2, c3] at hc
    have HC := hid hc
    clear hc
    go_enter Tryz.func83, Tryz.ntmps83
    go_wp2_with (go_at_call 165; refine (fields_any x h0 h1 _).mono ?_; rintro e w' ⟨rfl, rfl⟩)
    go_ret
    refine ⟨ret_int ?_, rfl⟩
    rw [HC.out]
    simp

theorem neg_any (x : Int) (h0 : 0 ≤ x) (h1 : x < 18446744073709551616) (w : World) :
    Calls Tryz.prog 88 #[.int .u64 x] w fun e w' => e = .returned (.int .u64 (negOf x)) ∧ w = w' := by
  have E := hid (xor_sign x h0 h1)
  go_enter Tryz.func88, Tryz.ntmps88
  go_wp2_with fail
  go_ret
  exact ⟨ret_int (by simp only [negOf]; exact E.out), rfl⟩

theorem abs_any (x : Int) (h0 : 0 ≤ x) (h1 : x < 18446744073709551616) (w : World) :
    Calls Tryz.prog 155 #[.int .u64 x] w fun e w' => e = .returned (.int .u64 (absOf x)) ∧ w = w' := by
  have E := hid (andNot_sign x h0 h1)
  go_enter Tryz.func155, Tryz.ntmps155
  go_wp2_with fail
  go_ret
  exact ⟨ret_int E.out, rfl⟩

theorem hasValue_any (x : Int) (h0 : 0 ≤ x) (h1 : x < 18446744073709551616) (w : World) :
    Calls Tryz.prog 62 #[.int .u64 x] w fun e w' => e = .returned (.bool (hasVal x)) ∧ w = w' := by
  go_enter Tryz.func62, Tryz.ntmps62
  go_wp2_with (go_at_call 155; refine (abs_any x h0 h1 _).mono ?_; rintro e w' ⟨rfl, rfl⟩)
  go_ret
  exact ⟨ret_bool (by simp only [hasVal, absOf]; rfl), rfl⟩

def madeB (exp frac : Int) : Bool := decide (0 ≤ exp ∧ exp ≤ 2047 ∧ frac < 4503599627370496)
theorem rank_nan (x : Int) (h0 : 0 ≤ x) (h1 : x < 18446744073709551616) (hn : classOf x = 5) (w : World) :
    Calls Tryz.prog 270 #[.int .u64 x] w fun e w' => e = .returned (.tuple #[.int .i64 0, .int .i64 4]) ∧ w = w' := by
  go_enter Tryz.func270, Tryz.ntmps270
  go_wp2_with (go_at_call 64; refine (class_any x h0 h1 _).mono ?_; rintro e w' ⟨rfl, rfl⟩)
  go_ret2
  exact ⟨rfl, rfl⟩
theorem rank_num (x : Int) (h0 : 0 ≤ x) (h1 : x < 18446744073709551616) (hn : classOf x ≠ 5) (w : World) :
    Calls Tryz.prog 270 #[.int .u64 x] w fun e w' => e = .returned (.tuple #[.int .i64 (rankOf x), .int .i64 0]) ∧ w = w' := by
  have ha : 0 ≤ absOf x ∧ absOf x < 9223372036854775808 := by unfold absOf; omega
  by_cases c : 9223372036854775808 ≤ x
  all_goals
    have hr : rankOf x = rankOf x := rfl
    conv at hr => rhs; unfold rankOf
    have HR := hid hr
    clear hr
    go_enter Tryz.func270, Tryz.ntmps270
    go_wp2_with (first | (go_at_call 64; refine (class_any x h0 h1 _).mono ?_; rintro e w' ⟨rfl, rfl⟩) | (go_at_call 155; refine (abs_any x h0 h1 _).mono ?_; rintro e w' ⟨rfl, rfl⟩))
    go_ret2
    refine ⟨?_, rfl⟩
    rw [HR.out]
    first | rw [if_pos (by omega)] | rw [if_neg (by omega)]
    simp [Array.getD, absOf]

theorem ranked_any (n : Int) (c1 : -9218868437227405312 ≤ n) (c2 : n ≤ 9218868437227405312) (w : World) :
    Calls Tryz.prog 116 #[.int .i64 n] w fun e w' => e = .returned (.int .u64 (ranked n)) ∧ w = w' := by
  by_cases c : n < 0
  all_goals
    go_enter Tryz.func116, Tryz.ntmps116
    go_wp2_with fail
    go_ret
    exact ⟨ret_int (by unfold ranked; first | rw [if_pos (by omega)] | rw [if_neg (by omega)]; (try rfl); (try omega)), rfl⟩
theorem between_any (n lo hi : Int) (w : World) :
    Calls Tryz.prog 40 #[.int .i64 n, .int .i64 lo, .int .i64 hi] w fun e w' => e = .returned (.bool (decide (lo ≤ n ∧ n ≤ hi))) ∧ w = w' := by
  by_cases c1 : lo ≤ n <;> by_cases c2 : n ≤ hi
  all_goals
    go_enter Tryz.func40, Tryz.ntmps40
    go_wp2_with fail
    go_ret
    exact ⟨ret_bool (by simp [c1, c2]), rfl⟩

def nextOf (x : Int) : Int := if rankOf x = -1 then 9223372036854775808 else ranked (min (rankOf x + 1) 9218868437227405312)
def prevOf (x : Int) : Int := ranked (max (rankOf x - 1) (-9218868437227405312))
theorem rank_lim (x : Int) (h0 : 0 ≤ x) (h1 : x < 18446744073709551616) (hn : classOf x ≠ 5) : -9218868437227405312 ≤ rankOf x ∧ rankOf x ≤ 9218868437227405312 := by
  have h : ¬ 9218868437227405312 < absOf x := fun h => hn ((class_nan x h0 h1).2 h)
  have e : absOf x = x % 9223372036854775808 := rfl
  unfold rankOf; split <;> omega
theorem ranked_rank (x : Int) (h0 : 0 ≤ x) (h1 : x < 18446744073709551616) (hz : x ≠ 9223372036854775808) : ranked (rankOf x) = x := by
  unfold ranked rankOf; split <;> split <;> omega
end Go.Proofs.YthaelmnblgollaaGreatDoor
