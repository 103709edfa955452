/- Products: which kind; what is told of it. -/
import Derived.Test.YthaelmnblgollaaGreatDoorSu3
set_option linter.unusedVariables false
set_option linter.unusedSimpArgs false
namespace Go.Ulp
open Go.RowKit
/-- which kind of product: 0 none, 1 infinite, 2 zero, 3 a value -/
def kP (nx ny ix iy zx zy : Bool) : Nat := if (nx || ny || (ix && zy) || (zx && iy)) = true then 0 else if (ix || iy) = true then 1 else if (zx || zy) = true then 2 else 3
def kindP (x y : Int) : Nat := kP (isNan x) (isNan y) (isInf x) (isInf y) (isZer x) (isZer y)
def infX (s : Bool) : Int := if s then 18442240474082181120 else 9218868437227405312
theorem infX_eq (s : Bool) : infX s = 9218868437227405312 + sgb s := by cases s <;> rfl
def sgx (x y : Int) : Bool := negB x != negB y
def spX (k : Nat) (s : Bool) : Int := if k = 0 then 9221120237041090560 else if k = 1 then infX s else 0
def pX (k : Nat) (s : Bool) (D : Dy) (mode : Int) : Int := if k = 0 then 9221120237041090560 else if k = 1 then infX s else if k = 2 then sgb s else rX D mode
def pC (k : Nat) (D : Dy) (mode : Int) : Bool := if k = 3 then rC D mode else false
theorem kP_le (a b c d e f : Bool) : kP a b c d e f ≤ 3 := by unfold kP; split; omega; split; omega; split <;> omega
theorem sign_bits (x y : Int) (hx : 0 ≤ x ∧ x < 18446744073709551616) (hy : 0 ≤ y ∧ y < 18446744073709551616) : bits .and .u64 (bits .xor .u64 x y) 9223372036854775808 = sgb (sgx x y) := by
  obtain ⟨n, rfl⟩ := Int.eq_ofNat_of_zero_le hx.1
  obtain ⟨m, rfl⟩ := Int.eq_ofNat_of_zero_le hy.1
  have hn : n < 2 ^ 64 := by omega
  have hm : m < 2 ^ 64 := by omega
  rw [u64_xor_nat n m (by omega) (by omega)]
  have hlt : n ^^^ m < 2 ^ 64 := Nat.xor_lt_two_pow hn hm
  have e := u64_and_nat (n ^^^ m) 9223372036854775808 (by omega) (by omega)
  rw [show ((9223372036854775808 : Nat) : Int) = 9223372036854775808 from rfl] at e
  rw [e]
  have tb : ∀ k : Nat, k < 2 ^ 64 → k.testBit 63 = decide (9223372036854775808 ≤ k) := by
    intro k hk
    rw [Nat.testBit_eq_decide_div_mod_eq, decide_eq_decide]
    omega
  have key : (n ^^^ m) &&& 9223372036854775808 = if (n ^^^ m).testBit 63 then 9223372036854775808 else 0 := by
    apply Nat.eq_of_testBit_eq
    intro i
    have h2 : (9223372036854775808 : Nat) = 2 ^ 63 := by decide
    rw [Nat.testBit_and]
    by_cases hi : 63 = i
    · subst hi
      cases h : (n ^^^ m).testBit 63
      · simp
      · simp [h2]
    · have : (9223372036854775808 : Nat).testBit i = false := by rw [h2, Nat.testBit_two_pow]; simp [hi]
      rw [this, Bool.and_false]
      split
      · exact this.symm
      · simp
  rw [key, Nat.testBit_xor, tb n hn, tb m hm]
  unfold sgb sgx negB
  have a : decide (9223372036854775808 ≤ n) = decide ((9223372036854775808 : Int) ≤ (n : Int)) := by rw [decide_eq_decide]; omega
  have b : decide (9223372036854775808 ≤ m) = decide ((9223372036854775808 : Int) ≤ (m : Int)) := by rw [decide_eq_decide]; omega
  rw [a, b]
  cases decide ((9223372036854775808 : Int) ≤ (n : Int)) <;> cases decide ((9223372036854775808 : Int) ≤ (m : Int)) <;> rfl
/-- of kinds 2 and 3 both have values -/
theorem kind_val {x y : Int} (h : 2 ≤ kindP x y) : classOf x < 4 ∧ classOf y < 4 := by
  unfold kindP kP at h
  have a := class_bd x
  have b := class_bd y
  unfold isNan isInf at h
  split at h
  · omega
  · split at h
    · omega
    · rename_i h1 h2
      simp only [Bool.or_eq_true, Bool.and_eq_true, beq_iff_eq, not_or] at h1 h2
      omega
theorem kind_zero {x y : Int} (h : kindP x y = 2) : classOf x = 1 ∨ classOf y = 1 := by
  unfold kindP kP at h
  split at h
  · omega
  · split at h
    · omega
    · split at h
      · rename_i h1
        rw [Bool.or_eq_true] at h1
        unfold isZer at h1
        rw [beq_iff_eq, beq_iff_eq] at h1
        exact h1
      · omega
theorem kind_three {x y : Int} (h : kindP x y = 3) : classOf x ≠ 1 ∧ classOf y ≠ 1 := by
  unfold kindP kP at h
  split at h
  · omega
  · split at h
    · omega
    · split at h
      · omega
      · rename_i h1
        rw [Bool.or_eq_true] at h1
        unfold isZer at h1
        rw [beq_iff_eq, beq_iff_eq] at h1
        omega
theorem prod_uV {x y : Int} (hx : 0 ≤ x ∧ x < 18446744073709551616) (hy : 0 ≤ y ∧ y < 18446744073709551616) (h : 2 ≤ kindP x y) : mulD (fv x) (fv y) = nrm (uV x * uV y) (-2148) := by
  obtain ⟨a, b⟩ := kind_val h
  rw [fv_uV x hx.1 hx.2 a, fv_uV y hy.1 hy.2 b, ← nrm_mul]
  rfl
theorem prod_zero {x y : Int} (hx : 0 ≤ x ∧ x < 18446744073709551616) (hy : 0 ≤ y ∧ y < 18446744073709551616) (h : kindP x y = 2) : (mulD (fv x) (fv y)).1 = 0 := by
  rw [prod_uV hx hy (by omega), nrm_zero_iff]
  rcases kind_zero h with k | k
  · rw [uV_zer x hx.1 hx.2 k, Int.zero_mul]
  · rw [uV_zer y hy.1 hy.2 k, Int.mul_zero]
theorem prod_some {x y : Int} (hx : 0 ≤ x ∧ x < 18446744073709551616) (hy : 0 ≤ y ∧ y < 18446744073709551616) (h : kindP x y = 3) : (mulD (fv x) (fv y)).1 ≠ 0 := by
  rw [prod_uV hx hy (by omega), Ne, nrm_zero_iff]
  obtain ⟨a, b⟩ := kind_val (x := x) (y := y) (by omega)
  obtain ⟨c, d⟩ := kind_three h
  intro e
  rcases Int.mul_eq_zero.1 e with e | e
  · exact c ((uV_zero_iff x hx.1 hx.2 a).1 e)
  · exact d ((uV_zero_iff y hy.1 hy.2 b).1 e)
end Go.Ulp
namespace Go.Proofs.YthaelmnblgollaaGreatDoor
open Go.RowKit Go.Ulp
set_option linter.unusedVariables false
set_option linter.unusedSimpArgs false
set_option maxHeartbeats 2000000
set_option maxRecDepth 100000
theorem pSign_any (x y : Int) (hx : 0 ≤ x ∧ x < 18446744073709551616) (hy : 0 ≤ y ∧ y < 18446744073709551616) (w : World) :
    Calls Tryz.prog 178 #[.int .u64 x, .int .u64 y] w fun e w' => e = .returned (.int .u64 (sgb (sgx x y))) ∧ w = w' := by
  have HS := hid (sign_bits x y hx hy)
  obtain ⟨x0, x1⟩ := hx
  obtain ⟨y0, y1⟩ := hy
  go_enter Tryz.func178, Tryz.ntmps178
  go_wp2_with fail
  go_ret
  exact ⟨ret_int HS.out, rfl⟩
theorem special_any (x y : Int) (hx : 0 ≤ x ∧ x < 18446744073709551616) (hy : 0 ≤ y ∧ y < 18446744073709551616) (w : World) :
    Calls Tryz.prog 176 #[.int .u64 x, .int .u64 y] w fun e w' => e = .returned (.tuple #[.int .u64 (spX (kindP x y) (sgx x y)), .bool (decide (kindP x y < 2))]) ∧ w = w' := by
  have CX := hid (fun w => class_any x hx.1 hx.2 w)
  have CY := hid (fun w => class_any y hy.1 hy.2 w)
  have SG := hid (fun w => pSign_any x y hx hy w)
  have HK := hid (show kindP x y = kP (classOf x == 5) (classOf y == 5) (classOf x == 4) (classOf y == 4) (classOf x == 1) (classOf y == 1) from rfl)
  generalize sgx x y = s at *
  have OI := hid (show bits .or .u64 9218868437227405312 (sgb s) = infX s by rw [infX_eq]; exact or_sgb s _ _ rfl (by omega) (by omega))
  generalize kindP x y = k at *
  generalize classOf x = a at *
  generalize classOf y = b at *
  clear hx hy
  go_enter Tryz.func176, Tryz.ntmps176
  cases n0 : (a == 5)
  · cases n1 : (b == 5)
    · cases i0 : (a == 4)
      · cases z0 : (a == 1)
        · cases i1 : (b == 4)
          · cases z1 : (b == 1)
            · go_wp2_with (first
                | (go_at_call 64; (with_reducible refine (CX.out _).mono ?_); rintro en w1 ⟨rfl, rfl⟩)
                | (go_at_call 64; (with_reducible refine (CY.out _).mono ?_); rintro en w1 ⟨rfl, rfl⟩)
                | (go_at_call 178; (with_reducible refine (SG.out _).mono ?_); rintro en w1 ⟨rfl, rfl⟩))
              go_ret2
              refine ⟨ret2 ?_ ?_, rfl⟩
              · rw [HK.out]
                simp only [n0, kP, spX, Bool.true_or, Bool.or_true, Bool.false_or, Bool.or_false, if_true, if_false, *]
                try (first | exact OI.out | rfl | simp [OI.out])
              · rw [HK.out]
                simp only [n0, kP, Bool.true_or, Bool.or_true, Bool.false_or, Bool.or_false, if_true, if_false, *]
                try (first | rfl | simp)
            · go_wp2_with (first
                | (go_at_call 64; (with_reducible refine (CX.out _).mono ?_); rintro en w1 ⟨rfl, rfl⟩)
                | (go_at_call 64; (with_reducible refine (CY.out _).mono ?_); rintro en w1 ⟨rfl, rfl⟩)
                | (go_at_call 178; (with_reducible refine (SG.out _).mono ?_); rintro en w1 ⟨rfl, rfl⟩))
              go_ret2
              refine ⟨ret2 ?_ ?_, rfl⟩
              · rw [HK.out]
                simp only [n0, kP, spX, Bool.true_or, Bool.or_true, Bool.false_or, Bool.or_false, if_true, if_false, *]
                try (first | exact OI.out | rfl | simp [OI.out])
              · rw [HK.out]
                simp only [n0, kP, Bool.true_or, Bool.or_true, Bool.false_or, Bool.or_false, if_true, if_false, *]
                try (first | rfl | simp)
          · go_wp2_with (first
              | (go_at_call 64; (with_reducible refine (CX.out _).mono ?_); rintro en w1 ⟨rfl, rfl⟩)
              | (go_at_call 64; (with_reducible refine (CY.out _).mono ?_); rintro en w1 ⟨rfl, rfl⟩)
              | (go_at_call 178; (with_reducible refine (SG.out _).mono ?_); rintro en w1 ⟨rfl, rfl⟩))
            go_ret2
            refine ⟨ret2 ?_ ?_, rfl⟩
            · rw [HK.out]
              simp only [n0, kP, spX, Bool.true_or, Bool.or_true, Bool.false_or, Bool.or_false, if_true, if_false, *]
              try (first | exact OI.out | rfl | simp [OI.out])
            · rw [HK.out]
              simp only [n0, kP, Bool.true_or, Bool.or_true, Bool.false_or, Bool.or_false, if_true, if_false, *]
              try (first | rfl | simp)
        · cases i1 : (b == 4)
          · cases z1 : (b == 1)
            · go_wp2_with (first
                | (go_at_call 64; (with_reducible refine (CX.out _).mono ?_); rintro en w1 ⟨rfl, rfl⟩)
                | (go_at_call 64; (with_reducible refine (CY.out _).mono ?_); rintro en w1 ⟨rfl, rfl⟩)
                | (go_at_call 178; (with_reducible refine (SG.out _).mono ?_); rintro en w1 ⟨rfl, rfl⟩))
              go_ret2
              refine ⟨ret2 ?_ ?_, rfl⟩
              · rw [HK.out]
                simp only [n0, kP, spX, Bool.true_or, Bool.or_true, Bool.false_or, Bool.or_false, if_true, if_false, *]
                try (first | exact OI.out | rfl | simp [OI.out])
              · rw [HK.out]
                simp only [n0, kP, Bool.true_or, Bool.or_true, Bool.false_or, Bool.or_false, if_true, if_false, *]
                try (first | rfl | simp)
            · go_wp2_with (first
                | (go_at_call 64; (with_reducible refine (CX.out _).mono ?_); rintro en w1 ⟨rfl, rfl⟩)
                | (go_at_call 64; (with_reducible refine (CY.out _).mono ?_); rintro en w1 ⟨rfl, rfl⟩)
                | (go_at_call 178; (with_reducible refine (SG.out _).mono ?_); rintro en w1 ⟨rfl, rfl⟩))
              go_ret2
              refine ⟨ret2 ?_ ?_, rfl⟩
              · rw [HK.out]
                simp only [n0, kP, spX, Bool.true_or, Bool.or_true, Bool.false_or, Bool.or_false, if_true, if_false, *]
                try (first | exact OI.out | rfl | simp [OI.out])
              · rw [HK.out]
                simp only [n0, kP, Bool.true_or, Bool.or_true, Bool.false_or, Bool.or_false, if_true, if_false, *]
                try (first | rfl | simp)
          · go_wp2_with (first
              | (go_at_call 64; (with_reducible refine (CX.out _).mono ?_); rintro en w1 ⟨rfl, rfl⟩)
              | (go_at_call 64; (with_reducible refine (CY.out _).mono ?_); rintro en w1 ⟨rfl, rfl⟩)
              | (go_at_call 178; (with_reducible refine (SG.out _).mono ?_); rintro en w1 ⟨rfl, rfl⟩))
            go_ret2
            refine ⟨ret2 ?_ ?_, rfl⟩
            · rw [HK.out]
              simp only [n0, kP, spX, Bool.true_or, Bool.or_true, Bool.false_or, Bool.or_false, if_true, if_false, *]
              try (first | exact OI.out | rfl | simp [OI.out])
            · rw [HK.out]
              simp only [n0, kP, Bool.true_or, Bool.or_true, Bool.false_or, Bool.or_false, if_true, if_false, *]
              try (first | rfl | simp)
      · have z0 : (a == 1) = false := by have := beq_iff_eq.1 i0; rw [beq_eq_false_iff_ne]; omega
        cases z1 : (b == 1)
        · cases i1 : (b == 4)
          · go_wp2_with (first
              | (go_at_call 64; (with_reducible refine (CX.out _).mono ?_); rintro en w1 ⟨rfl, rfl⟩)
              | (go_at_call 64; (with_reducible refine (CY.out _).mono ?_); rintro en w1 ⟨rfl, rfl⟩)
              | (go_at_call 178; (with_reducible refine (SG.out _).mono ?_); rintro en w1 ⟨rfl, rfl⟩))
            go_ret2
            refine ⟨ret2 ?_ ?_, rfl⟩
            · rw [HK.out]
              simp only [n0, kP, spX, Bool.true_or, Bool.or_true, Bool.false_or, Bool.or_false, if_true, if_false, *]
              try (first | exact OI.out | rfl | simp [OI.out])
            · rw [HK.out]
              simp only [n0, kP, Bool.true_or, Bool.or_true, Bool.false_or, Bool.or_false, if_true, if_false, *]
              try (first | rfl | simp)
          · go_wp2_with (first
              | (go_at_call 64; (with_reducible refine (CX.out _).mono ?_); rintro en w1 ⟨rfl, rfl⟩)
              | (go_at_call 64; (with_reducible refine (CY.out _).mono ?_); rintro en w1 ⟨rfl, rfl⟩)
              | (go_at_call 178; (with_reducible refine (SG.out _).mono ?_); rintro en w1 ⟨rfl, rfl⟩))
            go_ret2
            refine ⟨ret2 ?_ ?_, rfl⟩
            · rw [HK.out]
              simp only [n0, kP, spX, Bool.true_or, Bool.or_true, Bool.false_or, Bool.or_false, if_true, if_false, *]
              try (first | exact OI.out | rfl | simp [OI.out])
            · rw [HK.out]
              simp only [n0, kP, Bool.true_or, Bool.or_true, Bool.false_or, Bool.or_false, if_true, if_false, *]
              try (first | rfl | simp)
        · go_wp2_with (first
            | (go_at_call 64; (with_reducible refine (CX.out _).mono ?_); rintro en w1 ⟨rfl, rfl⟩)
            | (go_at_call 64; (with_reducible refine (CY.out _).mono ?_); rintro en w1 ⟨rfl, rfl⟩)
            | (go_at_call 178; (with_reducible refine (SG.out _).mono ?_); rintro en w1 ⟨rfl, rfl⟩))
          go_ret2
          refine ⟨ret2 ?_ ?_, rfl⟩
          · rw [HK.out]
            simp only [n0, kP, spX, Bool.true_or, Bool.or_true, Bool.false_or, Bool.or_false, if_true, if_false, *]
            try (first | exact OI.out | rfl | simp [OI.out])
          · rw [HK.out]
            simp only [n0, kP, Bool.true_or, Bool.or_true, Bool.false_or, Bool.or_false, if_true, if_false, *]
            try (first | rfl | simp)
    · go_wp2_with (first
        | (go_at_call 64; (with_reducible refine (CX.out _).mono ?_); rintro en w1 ⟨rfl, rfl⟩)
        | (go_at_call 64; (with_reducible refine (CY.out _).mono ?_); rintro en w1 ⟨rfl, rfl⟩)
        | (go_at_call 178; (with_reducible refine (SG.out _).mono ?_); rintro en w1 ⟨rfl, rfl⟩))
      go_ret2
      refine ⟨ret2 ?_ ?_, rfl⟩
      · rw [HK.out]
        simp only [n0, kP, spX, Bool.true_or, Bool.or_true, Bool.false_or, Bool.or_false, if_true, if_false, *]
        try (first | exact OI.out | rfl | simp [OI.out])
      · rw [HK.out]
        simp only [n0, kP, Bool.true_or, Bool.or_true, Bool.false_or, Bool.or_false, if_true, if_false, *]
        try (first | rfl | simp)
  · go_wp2_with (first
      | (go_at_call 64; (with_reducible refine (CX.out _).mono ?_); rintro en w1 ⟨rfl, rfl⟩)
      | (go_at_call 64; (with_reducible refine (CY.out _).mono ?_); rintro en w1 ⟨rfl, rfl⟩)
      | (go_at_call 178; (with_reducible refine (SG.out _).mono ?_); rintro en w1 ⟨rfl, rfl⟩))
    go_ret2
    refine ⟨ret2 ?_ ?_, rfl⟩
    · rw [HK.out]
      simp only [n0, kP, spX, Bool.true_or, Bool.or_true, Bool.false_or, Bool.or_false, if_true, if_false, *]
      try (first | exact OI.out | rfl | simp [OI.out])
    · rw [HK.out]
      simp only [n0, kP, Bool.true_or, Bool.or_true, Bool.false_or, Bool.or_false, if_true, if_false, *]
      try (first | rfl | simp)
end Go.Proofs.YthaelmnblgollaaGreatDoor
