/- Texts with a point, with a sign: the program's and the reference's. -/
import Derived.Test.YthaelmnblgollaaDoorTx2
import Derived.Test.YthaelmnblgollaaDoorTx5
import Derived.Test.YthaelmnblgollaaDoorFloat
set_option linter.unusedVariables false
set_option linter.unusedSimpArgs false
namespace Go.Ulp
open Go.RowKit
theorem bs_take (E : List UInt8) (k : Nat) : (bsOf E).extract 0 k = bsOf (E.take k) := by
  apply ByteArray.ext
  simp [bsOf]
theorem bs_drop (E : List UInt8) (k : Nat) : (bsOf E).extract k (bsOf E).size = bsOf (E.drop k) := by
  apply ByteArray.ext
  have h9 : List.take (E.length - k) (List.drop k E) = List.drop k E := List.take_of_length_le (by rw [List.length_drop]; omega)
  simp [bsOf, ByteArray.size]
  try exact h9
theorem slice_to {P : Program} {t : TypeId} (ht : P.underlying t = some .string) (E : List UInt8) (j : Int) (h0 : 0 ≤ j) (h : j ≤ E.length) (w : World) : (Instr.slice t (.string (bsOf E)) none (some (.int .i64 j)) none).run P w = .ok (.string (bsOf (E.take j.toNat))) w := by
  rw [run_slice_string_to_if w t _ _ _ ht, if_pos ⟨h0, by rw [bs_size]; exact h⟩, bs_take]
theorem slice_from {P : Program} {t : TypeId} (ht : P.underlying t = some .string) (E : List UInt8) (j : Int) (h0 : 0 ≤ j) (h : j ≤ E.length) (w : World) : (Instr.slice t (.string (bsOf E)) (some (.int .i64 j)) none none).run P w = .ok (.string (bsOf (E.drop j.toNat))) w := by
  rw [run_slice_string_from_if w t _ _ _ ht, if_pos ⟨h0, by rw [bs_size]; exact h⟩, bs_drop]
theorem padz_end (D : List UInt8) (j k : Nat) (h1 : j = 0 ∨ j + D.length ≤ k) (h2 : ¬ j + D.length < k) : List.replicate j 48 ++ D = padz k D := by
  unfold padz
  congr 2
  omega
end Go.Ulp
namespace Go.Proofs.YthaelmnblgollaaDoor
open Go.RowKit Go.Ulp
set_option linter.unusedVariables false
set_option linter.unusedSimpArgs false
set_option maxHeartbeats 1000000
set_option maxRecDepth 100000
theorem minusN_any (x : Int) (h0 : 0 ≤ x) (h1 : x < 18446744073709551616) (w : World) :
    Calls Tryd.prog 26 #[.int .u64 x] w fun e w' => e = .returned (.bool (negB x)) ∧ w = w' := by
  go_enter Tryd.func26, Tryd.ntmps26
  go_wp2_with fail
  go_ret
  exact ⟨ret_bool rfl, rfl⟩
theorem dashed_any (D : List UInt8) (x : Int) (h0 : 0 ≤ x) (h1 : x < 18446744073709551616) (hD : D.length ≤ 1000000000) (w : World) :
    Calls Tryd.prog 11 #[.string (bsOf D), .int .u64 x] w fun e w' => e = .returned (.string (bsOf (dsh (negB x) D))) ∧ w = w' := by
  have MI := hid (fun w => minusN_any x h0 h1 w)
  have hA := add_dash (P := Tryd.prog) D (by omega)
  generalize negB x = b at *
  go_enter Tryd.func11, Tryd.ntmps11
  cases b
  · clear hA
    go_wp2_with (go_at_call 26; (with_reducible refine (MI.out _).mono ?_); rintro en w1 ⟨rfl, rfl⟩)
    go_ret
    exact ⟨rfl, rfl⟩
  · go_wp2_with (go_at_call 26; (with_reducible refine (MI.out _).mono ?_); rintro en w1 ⟨rfl, rfl⟩)
    go_ret
    exact ⟨rfl, rfl⟩
theorem hasV_any (x : Int) (h0 : 0 ≤ x) (h1 : x < 18446744073709551616) (w : World) :
    Calls Tryd.prog 7 #[.int .u64 x] w fun e w' => e = .returned (.bool (hasVal x)) ∧ w = w' := by
  have CL := hid (fun w => classOf_any x h0 h1 w)
  have HC := hid (show decide (classOf x < 4) = hasVal x by
    have a := class_val x h0 h1
    unfold hasVal
    unfold absOf at a
    rw [decide_eq_decide]; omega)
  generalize classOf x = c at *
  go_enter Tryd.func7, Tryd.ntmps7
  go_wp2_with (go_at_call 22; (with_reducible refine (CL.out _).mono ?_); rintro en w1 ⟨rfl, rfl⟩)
  go_ret
  exact ⟨ret_bool HC.out, rfl⟩
end Go.Proofs.YthaelmnblgollaaDoor
