/- Order and spans of the program: plain facts and walks. -/
import Derived.Test.YtincggkdlegjjaaQ5
import Derived.Test.YtincggkdlegjjaaNat3
namespace Go.Ulp
open Go.RowKit
def okey (x : Int) : Int := if 9223372036854775808 ≤ x then 18446744073709551615 - x else x + 9223372036854775808
theorem key_cmp (x y : Int) (h0 : 0 ≤ x) (h1 : x < 18446744073709551616) (k0 : 0 ≤ y) (k1 : y < 18446744073709551616) (hx : x ≠ 9223372036854775808) (hy : y ≠ 9223372036854775808) : cmpI (okey x) (okey y) = cmpI (rankOf x) (rankOf y) := by
  unfold cmpI okey rankOf
  by_cases c : 9223372036854775808 ≤ x <;> by_cases d : 9223372036854775808 ≤ y
  · rw [if_pos c, if_pos d, if_pos c, if_pos d]; split <;> split <;> (try split) <;> (try split) <;> omega
  · rw [if_pos c, if_neg d, if_pos c, if_neg d]; split <;> split <;> (try split) <;> (try split) <;> omega
  · rw [if_neg c, if_pos d, if_neg c, if_pos d]; split <;> split <;> (try split) <;> (try split) <;> omega
  · rw [if_neg c, if_neg d, if_neg c, if_neg d]; split <;> split <;> (try split) <;> (try split) <;> omega
def leB (x y : Int) : Bool := decide (classOf x ≠ 5 ∧ classOf y ≠ 5 ∧ rankOf x ≤ rankOf y)
def edgeB (l h : Int) : Bool := decide (l ≠ 9223372036854775808 ∧ h ≠ 9223372036854775808 ∧ l ≠ 9218868437227405312 ∧ h ≠ 18442240474082181120)
def spanB (l h : Int) : Bool := edgeB l h && leB l h
def spanE (l h : Int) : Int := if spanB l h = true then 0 else 3
def U64 (x : Int) : Prop := 0 ≤ x ∧ x < 18446744073709551616
theorem cmpI_le (a b : Int) : cmpI a b ≤ 0 ↔ a ≤ b := by unfold cmpI; split <;> (try split) <;> omega
theorem cmpI_ge (a b : Int) : 0 ≤ cmpI a b ↔ b ≤ a := by unfold cmpI; split <;> (try split) <;> omega
theorem cmpI_lt (a b : Int) : cmpI a b < 0 ↔ a < b := by unfold cmpI; split <;> (try split) <;> omega
theorem cmpI_gt (a b : Int) : 0 < cmpI a b ↔ b < a := by unfold cmpI; split <;> (try split) <;> omega
def minOf (x y : Int) : Int := if rankOf x ≤ rankOf y then x else y
def maxOf (x y : Int) : Int := if rankOf y ≤ rankOf x then x else y
theorem xor_all (a : Int) (h0 : 0 ≤ a) (h1 : a < 18446744073709551616) : bits .xor .u64 18446744073709551615 a = 18446744073709551615 - a := by
  obtain ⟨n, rfl⟩ := Int.eq_ofNat_of_zero_le h0
  have e := u64_xor_nat 18446744073709551615 n (by omega) (by omega)
  rw [show ((18446744073709551615 : Nat) : Int) = 18446744073709551615 from rfl] at e
  rw [e, Nat.xor_comm]
  have : n ^^^ 18446744073709551615 = 18446744073709551615 - n := by
    have h2 : (18446744073709551615 : Nat) = 2 ^ 64 - 1 := by decide
    rw [h2]
    apply Nat.eq_of_testBit_eq
    intro i
    rw [Nat.testBit_xor, Nat.testBit_two_pow_sub_one, show 2 ^ 64 - 1 - n = 2 ^ 64 - (n + 1) by omega, Nat.testBit_two_pow_sub_succ (by omega)]
    by_cases hi : i < 64
    · simp [hi]
    · simp [hi, Nat.testBit_lt_two_pow (show n < 2 ^ i from Nat.lt_of_lt_of_le (by omega : n < 2 ^ 64) (Nat.pow_le_pow_right (by omega) (by omega)))]
  rw [this]; omega
end Go.Ulp
namespace Go.Proofs.Ytincggkdlegjjaa
open Go.RowKit Go.Ulp
set_option linter.unusedVariables false
set_option linter.unusedSimpArgs false
set_option maxHeartbeats 400000
theorem cmpU64_any (a b : Int) (w : World) :
    Calls Try.prog 19 #[.int .u64 a, .int .u64 b] w fun e w' => e = .returned (.int .i64 (cmpI a b)) ∧ w = w' := by
  have hc := hid (show cmpI a b = if a < b then -1 else if b < a then 1 else 0 from rfl)
  by_cases h1 : a < b
  · go_enter Try.func19, Try.ntmps19
    go_wp2
    go_ret
    exact ⟨ret_int (by rw [hc.out, if_pos h1]), rfl⟩
  · by_cases h2 : b < a
    all_goals
      go_enter Try.func19, Try.ntmps19
      go_wp2
      go_ret
      exact ⟨ret_int (by rw [hc.out, if_neg (by omega)]; first | rw [if_pos (by omega)] | rw [if_neg (by omega)]), rfl⟩
theorem orderCmp_num (x y : Int) (hx : U64 x) (hy : U64 y) (nx : classOf x ≠ 5) (ny : classOf y ≠ 5) (w : World) :
    Calls Try.prog 4 #[.int .u64 x, .int .u64 y] w fun e w' => e = .returned (.tuple #[.int .i64 (cmpI (rankOf x) (rankOf y)), .bool true]) ∧ w = w' := by
  have R := hid (fun w => rank_num x hx.1 hx.2 nx w)
  have S := hid (fun w => rank_num y hy.1 hy.2 ny w)
  clear nx ny
  go_enter Try.func4, Try.ntmps4
  go_wp2_with (first | (go_at_call 15; (first | ((with_reducible refine (R.out _).mono ?_)) | ((with_reducible refine (S.out _).mono ?_))); rintro e w' ⟨rfl, rfl⟩) | (go_at_call 16; refine (cmpInt_any _ _ _).mono ?_; rintro e w' ⟨rfl, rfl⟩))
  go_ret2
  exact ⟨rfl, rfl⟩
theorem orderCmp_nan (x y : Int) (hx : U64 x) (hy : U64 y) (n : classOf x = 5 ∨ classOf y = 5) (w : World) :
    Calls Try.prog 4 #[.int .u64 x, .int .u64 y] w fun e w' => e = .returned (.tuple #[.int .i64 0, .bool false]) ∧ w = w' := by
  by_cases nx : classOf x = 5
  · have R := hid (fun w => rank_nan x hx.1 hx.2 nx w)
    by_cases ny : classOf y = 5
    · have S := hid (fun w => rank_nan y hy.1 hy.2 ny w)
      clear nx ny n
      go_enter Try.func4, Try.ntmps4
      go_wp2_with (go_at_call 15; (first | ((with_reducible refine (R.out _).mono ?_)) | ((with_reducible refine (S.out _).mono ?_))); rintro e w' ⟨rfl, rfl⟩)
      go_ret2
      exact ⟨rfl, rfl⟩
    · have S := hid (fun w => rank_num y hy.1 hy.2 ny w)
      clear nx ny n
      go_enter Try.func4, Try.ntmps4
      go_wp2_with (go_at_call 15; (first | ((with_reducible refine (R.out _).mono ?_)) | ((with_reducible refine (S.out _).mono ?_))); rintro e w' ⟨rfl, rfl⟩)
      go_ret2
      exact ⟨rfl, rfl⟩
  · have ny : classOf y = 5 := by omega
    have R := hid (fun w => rank_num x hx.1 hx.2 nx w)
    have S := hid (fun w => rank_nan y hy.1 hy.2 ny w)
    clear nx ny n
    go_enter Try.func4, Try.ntmps4
    go_wp2_with (go_at_call 15; (first | ((with_reducible refine (R.out _).mono ?_)) | ((with_reducible refine (S.out _).mono ?_))); rintro e w' ⟨rfl, rfl⟩)
    go_ret2
    exact ⟨rfl, rfl⟩
theorem key_any (x : Int) (hx : U64 x) (w : World) :
    Calls Try.prog 20 #[.int .u64 x] w fun e w' => e = .returned (.int .u64 (okey x)) ∧ w = w' := by
  obtain ⟨h0, h1⟩ := hx
  by_cases c : 9223372036854775808 ≤ x
  · have E := hid (xor_all x h0 h1)
    have hk := hid (show okey x = 18446744073709551615 - x by unfold okey; rw [if_pos c])
    have hb : (x / 9223372036854775808 == 1) = true := by simp; omega
    go_enter Try.func20, Try.ntmps20
    go_wp2_with fail
    go_ret
    refine ⟨ret_int ?_, rfl⟩
    rw [hk.out]
    exact E.out
  · have E := hid (or_sign x h0 (by omega))
    have hk := hid (show okey x = x + 9223372036854775808 by unfold okey; rw [if_neg c])
    have hb : (x / 9223372036854775808 == 1) = false := by simp; omega
    go_enter Try.func20, Try.ntmps20
    go_wp2_with fail
    go_ret
    refine ⟨ret_int ?_, rfl⟩
    rw [hk.out]
    exact E.out
theorem total_any (x y : Int) (hx : U64 x) (hy : U64 y) (w : World) :
    Calls Try.prog 9 #[.int .u64 x, .int .u64 y] w fun e w' => e = .returned (.int .i64 (cmpI (okey x) (okey y))) ∧ w = w' := by
  go_enter Try.func9, Try.ntmps9
  go_wp2_with (first | (go_at_call 20; (first | ((with_reducible refine (key_any x hx _).mono ?_)) | ((with_reducible refine (key_any y hy _).mono ?_))); rintro e w' ⟨rfl, rfl⟩) | (go_at_call 19; refine (cmpU64_any _ _ _).mono ?_; rintro e w' ⟨rfl, rfl⟩))
  go_ret
  exact ⟨rfl, rfl⟩
def leastOf (x y s : Int) : Int := if classOf x = 5 ∨ classOf y = 5 then 9221120237041090560 else if cmpI (okey x) (okey y) * s ≤ 0 then x else y
theorem least_any (x y s : Int) (hx : U64 x) (hy : U64 y) (hs : s = 1 ∨ s = -1) (w : World) :
    Calls Try.prog 17 #[.int .u64 x, .int .u64 y, .int .i64 s] w fun e w' => e = .returned (.int .u64 (leastOf x y s)) ∧ w = w' := by
  have cx := hid (fun w => class_any x hx.1 hx.2 w)
  have cy := hid (fun w => class_any y hy.1 hy.2 w)
  have tt := hid (fun w => total_any x y hx hy w)
  obtain ⟨c, hc⟩ : ∃ c, c = cmpI (okey x) (okey y) := ⟨_, rfl⟩
  have hcb : -1 ≤ c ∧ c ≤ 1 := by rw [hc]; exact cmpI_bd _ _
  have hL := hid (show leastOf x y s = if classOf x = 5 ∨ classOf y = 5 then 9221120237041090560 else if c * s ≤ 0 then x else y by rw [hc]; rfl)
  rw [← hc] at tt
  clear hc
  obtain ⟨hcb0, hcb1⟩ := hcb
  by_cases n1 : classOf x = 5
  · have b1 : (classOf x == 5) = true := by simpa using n1
    go_enter Try.func17, Try.ntmps17
    go_wp2_with (first | (go_at_call 25; (first | ((with_reducible refine (cx.out _).mono ?_)) | ((with_reducible refine (cy.out _).mono ?_))); rintro e w' ⟨rfl, rfl⟩) | (go_at_call 9; refine (tt.out _).mono ?_; rintro e w' ⟨rfl, rfl⟩))
    go_ret
    exact ⟨ret_int (by rw [hL.out, if_pos (.inl n1)]), rfl⟩
  · have b1 : (classOf x == 5) = false := by simpa using n1
    by_cases n2 : classOf y = 5
    · have b2 : (classOf y == 5) = true := by simpa using n2
      go_enter Try.func17, Try.ntmps17
      go_wp2_with (first | (go_at_call 25; (first | ((with_reducible refine (cx.out _).mono ?_)) | ((with_reducible refine (cy.out _).mono ?_))); rintro e w' ⟨rfl, rfl⟩) | (go_at_call 9; refine (tt.out _).mono ?_; rintro e w' ⟨rfl, rfl⟩))
      go_ret
      exact ⟨ret_int (by rw [hL.out, if_pos (.inr n2)]), rfl⟩
    · have b2 : (classOf y == 5) = false := by simpa using n2
      rcases hs with rfl | rfl
      all_goals
        by_cases hc : 0 < c <;> by_cases hd : c < 0
        all_goals
          first
          | omega
          | (go_enter Try.func17, Try.ntmps17
             go_wp2_with (first | (go_at_call 25; (first | ((with_reducible refine (cx.out _).mono ?_)) | ((with_reducible refine (cy.out _).mono ?_))); rintro e w' ⟨rfl, rfl⟩) | (go_at_call 9; refine (tt.out _).mono ?_; rintro e w' ⟨rfl, rfl⟩))
             go_ret
             refine ⟨ret_int ?_, rfl⟩
             rw [hL.out, if_neg (by omega)]
             first | rw [if_pos (by omega)] | rw [if_neg (by omega)])
theorem leastOf_min (x y : Int) (hx : U64 x) (hy : U64 y) (nx : classOf x ≠ 5) (ny : classOf y ≠ 5) (zx : x ≠ 9223372036854775808) (zy : y ≠ 9223372036854775808) : leastOf x y 1 = minOf x y := by
  unfold leastOf minOf
  rw [if_neg (by omega), key_cmp x y hx.1 hx.2 hy.1 hy.2 zx zy, Int.mul_one]
  simp only [cmpI_le]
theorem leastOf_max (x y : Int) (hx : U64 x) (hy : U64 y) (nx : classOf x ≠ 5) (ny : classOf y ≠ 5) (zx : x ≠ 9223372036854775808) (zy : y ≠ 9223372036854775808) : leastOf x y (-1) = maxOf x y := by
  unfold leastOf maxOf
  rw [if_neg (by omega), key_cmp x y hx.1 hx.2 hy.1 hy.2 zx zy, show cmpI (rankOf x) (rankOf y) * -1 = -(cmpI (rankOf x) (rankOf y)) by omega]
  have := cmpI_ge (rankOf x) (rankOf y)
  by_cases h : rankOf y ≤ rankOf x
  · rw [if_pos h, if_pos (by omega)]
  · rw [if_neg h, if_neg (by omega)]
end Go.Proofs.Ytincggkdlegjjaa
