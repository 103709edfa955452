/- Order and spans of the program: plain facts and walks. -/
import Derived.Test.YthaelmnblgollaaGreatDoorQ5
import Derived.Test.YthaelmnblgollaaGreatDoorNat3
namespace Go.Ulp
open Go.RowKit
def okey (x : Int) : Int := if 9223372036854775808 ≤ x then 18446744073709551615 - x else x + 9223372036854775808
theorem key_cmp (x y : Int) (h0 : 0 ≤ x) (h1 : x < 18446744073709551616) (k0 : 0 ≤ y) (k1 : y < 18446744073709551616) (hx : x ≠ 9223372036854775808) (hy : y ≠ 9223372036854775808) : cmpI (okey x) (okey y) = cmpI (rankOf x) (rankOf y) := by
  unfold cmpI okey rankOf
  by_cases c : 9223372036854775808 ≤ x <;> by_cases d : 9223372036854775808 ≤ y
  · rw [if_pos c, if_pos d, if_pos c, if_pos d]; split <;> split <;> (try split) <;> (try split) <;> omega
  · rw [if_pos c, if_neg d, if_pos c, if_neg d]; split <;> split <;> (try split) <;> (try split) <;> omega
  · rw [if_neg c, if_pos d, if_neg c, if_pos d]; split <;> split <;> (try split) <;> (try split) <;> omega
  · rw [if_neg c, if_neg d, if_neg c, if_neg d]; split <;> split <;> (try split) <;> (try split) <;> omega
def leB (x y : Int) : Bool := decide (classOf x ≠ 5 ∧ classOf y ≠ 5 ∧ rankOf x ≤ rankOf y)
def edgeB (l h : Int) : Bool := decide (l ≠ 9223372036854775808 ∧ h ≠ 9223372036854775808 ∧ l ≠ 9218868437227405312 ∧ h ≠ 18442240474082181120)
def spanB (l h : Int) : Bool := edgeB l h && leB l h
def spanE (l h : Int) : Int := if spanB l h = true then 0 else 3
def U64 (x : Int) : Prop := 0 ≤ x ∧ x < 18446744073709551616
theorem cmpI_le (a b : Int) : cmpI a b ≤ 0 ↔ a ≤ b := by unfold cmpI; split <;> (try split) <;> omega
theorem cmpI_ge (a b : Int) : 0 ≤ cmpI a b ↔ b ≤ a := by unfold cmpI; split <;> (try split) <;> omega
theorem cmpI_lt (a b : Int) : cmpI a b < 0 ↔ a < b := by unfold cmpI; split <;> (try split) <;> omega
theorem cmpI_gt (a b : Int) : 0 < cmpI a b ↔ b < a := by unfold cmpI; split <;> (try split) <;> omega
def minOf (x y : Int) : Int := if rankOf x ≤ rankOf y then x else y
def maxOf (x y : Int) : Int := if rankOf y ≤ rankOf x then x else y
theorem xor_all (a : Int) (h0 : 0 ≤ a) (h1 : a < 18446744073709551616) : bits .xor .u64 18446744073709551615 a = 18446744073709551615 - a := by
  obtain ⟨n, rfl⟩ := Int.eq_ofNat_of_zero_le h0
  have e := u64_xor_nat 18446744073709551615 n (by omega) (by omega)
  rw [show ((18446744073709551615 : Nat) : Int) = 18446744073709551615 from rfl] at e
  rw [e, Nat.xor_comm]
  have : n ^^^ 18446744073709551615 = 18446744073709551615 - n := by
    have h2 : (18446744073709551615 : Nat) = 2 ^ 64 - 1 := by decide
    rw [h2]
    apply Nat.eq_of_testBit_eq
    intro i
    rw [Nat.testBit_xor, Nat.testBit_two_pow_sub_one, show 2 ^ 64 - 1 - n = 2 ^ 64 - (n + 1) by omega, Nat.testBit_two_pow_sub_succ (by omega)]
    by_cases hi : i < 64
    · simp [hi]
    · simp [hi, Nat.testBit_lt_two_pow (show n < 2 ^ i from Nat.lt_of_lt_of_le (by omega : n < 2 ^ 64) (Nat.pow_le_pow_right (by omega) (by omega)))]
  rw [this]; omega
end Go.Ulp
namespace Go.Proofs.YthaelmnblgollaaGreatDoor
open Go.RowKit Go.Ulp
set_option linter.unusedVariables false
set_option linter.unusedSimpArgs false
set_option maxHeartbeats 400000
theorem orderCmp_num (x y : Int) (hx : U64 x) (hy : U64 y) (nx : classOf x ≠ 5) (ny : classOf y ≠ 5) (w : World) :
    Calls Tryz.prog 236 #[.int .u64 x, .int .u64 y] w fun e w' => e = .returned (.tuple #[.int .i64 (cmpI (rankOf x) (rankOf y)), .bool true]) ∧ w = w' := by
  have R := hid (fun w => rank_num x hx.1 hx.2 nx w)
  have S := hid (fun w => rank_num y hy.1 hy.2 ny w)
  clear nx ny
  go_enter Tryz.func236, Tryz.ntmps236
  go_wp2_with (first | (go_at_call 270; (first | ((with_reducible refine (R.out _).mono ?_)) | ((with_reducible refine (S.out _).mono ?_))); rintro e w' ⟨rfl, rfl⟩) | (go_at_call 249; refine (cmpInt_any _ _ _).mono ?_; rintro e w' ⟨rfl, rfl⟩))
  go_ret2
  exact ⟨rfl, rfl⟩
theorem orderCmp_nan (x y : Int) (hx : U64 x) (hy : U64 y) (n : classOf x = 5 ∨ classOf y = 5) (w : World) :
    Calls Tryz.prog 236 #[.int .u64 x, .int .u64 y] w fun e w' => e = .returned (.tuple #[.int .i64 0, .bool false]) ∧ w = w' := by
  by_cases nx : classOf x = 5
  · have R := hid (fun w => rank_nan x hx.1 hx.2 nx w)
    by_cases ny : classOf y = 5
    · have S := hid (fun w => rank_nan y hy.1 hy.2 ny w)
      clear nx ny n
      go_enter Tryz.func236, Tryz.ntmps236
      go_wp2_with (go_at_call 270; (first | ((with_reducible refine (R.out _).mono ?_)) | ((with_reducible refine (S.out _).mono ?_))); rintro e w' ⟨rfl, rfl⟩)
      go_ret2
      exact ⟨rfl, rfl⟩
    · have S := hid (fun w => rank_num y hy.1 hy.2 ny w)
      clear nx ny n
      go_enter Tryz.func236, Tryz.ntmps236
      go_wp2_with (go_at_call 270; (first | ((with_reducible refine (R.out _).mono ?_)) | ((with_reducible refine (S.out _).mono ?_))); rintro e w' ⟨rfl, rfl⟩)
      go_ret2
      exact ⟨rfl, rfl⟩
  · have ny : classOf y = 5 := by omega
    have R := hid (fun w => rank_num x hx.1 hx.2 nx w)
    have S := hid (fun w => rank_nan y hy.1 hy.2 ny w)
    clear nx ny n
    go_enter Tryz.func236, Tryz.ntmps236
    go_wp2_with (go_at_call 270; (first | ((with_reducible refine (R.out _).mono ?_)) | ((with_reducible refine (S.out _).mono ?_))); rintro e w' ⟨rfl, rfl⟩)
    go_ret2
    exact ⟨rfl, rfl⟩
theorem atMost_any (x y : Int) (hx : U64 x) (hy : U64 y) (w : World) :
    Calls Tryz.prog 175 #[.int .u64 x, .int .u64 y] w fun e w' => e = .returned (.bool (leB x y)) ∧ w = w' := by
  by_cases h : classOf x ≠ 5 ∧ classOf y ≠ 5
  · have R := hid (fun w => orderCmp_num x y hx hy h.1 h.2 w)
    have hl := hid (show leB x y = decide (cmpI (rankOf x) (rankOf y) ≤ 0) by unfold leB; simp [h, cmpI_le])
    clear h
    go_enter Tryz.func175, Tryz.ntmps175
    go_wp2_with (go_at_call 236; refine (R.out _).mono ?_; rintro e w' ⟨rfl, rfl⟩)
    go_ret
    exact ⟨ret_bool hl.out.symm, rfl⟩
  · have R := hid (fun w => orderCmp_nan x y hx hy (by omega) w)
    have hl := hid (show leB x y = false by unfold leB; simp; omega)
    clear h
    go_enter Tryz.func175, Tryz.ntmps175
    go_wp2_with (go_at_call 236; refine (R.out _).mono ?_; rintro e w' ⟨rfl, rfl⟩)
    go_ret
    exact ⟨ret_bool hl.out.symm, rfl⟩
def leastOf (x y s : Int) : Int := if classOf x = 5 ∨ classOf y = 5 then 9221120237041090560 else if cmpI (okey x) (okey y) * s ≤ 0 then x else y
theorem leastOf_min (x y : Int) (hx : U64 x) (hy : U64 y) (nx : classOf x ≠ 5) (ny : classOf y ≠ 5) (zx : x ≠ 9223372036854775808) (zy : y ≠ 9223372036854775808) : leastOf x y 1 = minOf x y := by
  unfold leastOf minOf
  rw [if_neg (by omega), key_cmp x y hx.1 hx.2 hy.1 hy.2 zx zy, Int.mul_one]
  simp only [cmpI_le]
theorem leastOf_max (x y : Int) (hx : U64 x) (hy : U64 y) (nx : classOf x ≠ 5) (ny : classOf y ≠ 5) (zx : x ≠ 9223372036854775808) (zy : y ≠ 9223372036854775808) : leastOf x y (-1) = maxOf x y := by
  unfold leastOf maxOf
  rw [if_neg (by omega), key_cmp x y hx.1 hx.2 hy.1 hy.2 zx zy, show cmpI (rankOf x) (rankOf y) * -1 = -(cmpI (rankOf x) (rankOf y)) by omega]
  have := cmpI_ge (rankOf x) (rankOf y)
  by_cases h : rankOf y ≤ rankOf x
  · rw [if_pos h, if_pos (by omega)]
  · rw [if_neg h, if_neg (by omega)]
end Go.Proofs.YthaelmnblgollaaGreatDoor
