/- SpanSums: what the proof leans on, part 8 (Sp1). -/
import Derived.Test.YtfphmlmgjhebjaaGreatDoorKSpanSums3
import Derived.Test.YtfphmlmgjhebjaaGreatDoorKSpanSums7
namespace Go.Ulp
open Go.RowKit
def leB (x y : Int) : Bool := decide (classOf x ≠ 5 ∧ classOf y ≠ 5 ∧ rankOf x ≤ rankOf y)
def edgeB (l h : Int) : Bool := decide (l ≠ 9223372036854775808 ∧ h ≠ 9223372036854775808 ∧ l ≠ 9218868437227405312 ∧ h ≠ 18442240474082181120)
def spanB (l h : Int) : Bool := edgeB l h && leB l h
def spanE (l h : Int) : Int := if spanB l h = true then 0 else 3
def U64 (x : Int) : Prop := 0 ≤ x ∧ x < 18446744073709551616
theorem cmpI_leS (a b : Int) : cmpI a b ≤ 0 ↔ a ≤ b := by unfold cmpI; split <;> (try split) <;> omega
end Go.Ulp
namespace Go.Proofs.YtfphmlmgjhebjaaGreatDoor
open Go.RowKit Go.Ulp
set_option linter.unusedVariables false
set_option linter.unusedSimpArgs false
set_option maxHeartbeats 400000
theorem orderCmp_num (x y : Int) (hx : U64 x) (hy : U64 y) (nx : classOf x ≠ 5) (ny : classOf y ≠ 5) (w : World) :
    Calls Tryz.prog 175 #[.int .u64 x, .int .u64 y] w fun e w' => e = .returned (.tuple #[.int .i64 (cmpI (rankOf x) (rankOf y)), .bool true]) ∧ w = w' := by
  have R := hid (fun w => rank_num x hx.1 hx.2 nx w)
  have S := hid (fun w => rank_num y hy.1 hy.2 ny w)
  clear nx ny
  go_enter Tryz.func175, Tryz.ntmps175
  go_wp2_with (first | (go_at_call 233; (first | ((with_reducible refine (R.out _).mono ?_)) | ((with_reducible refine (S.out _).mono ?_))); rintro e w' ⟨rfl, rfl⟩) | (go_at_call 234; refine (cmpInt_any _ _ _).mono ?_; rintro e w' ⟨rfl, rfl⟩))
  go_ret2
  exact ⟨rfl, rfl⟩
theorem orderCmp_nan (x y : Int) (hx : U64 x) (hy : U64 y) (n : classOf x = 5 ∨ classOf y = 5) (w : World) :
    Calls Tryz.prog 175 #[.int .u64 x, .int .u64 y] w fun e w' => e = .returned (.tuple #[.int .i64 0, .bool false]) ∧ w = w' := by
  by_cases nx : classOf x = 5
  · have R := hid (fun w => rank_nan x hx.1 hx.2 nx w)
    by_cases ny : classOf y = 5
    · have S := hid (fun w => rank_nan y hy.1 hy.2 ny w)
      clear nx ny n
      go_enter Tryz.func175, Tryz.ntmps175
      go_wp2_with (go_at_call 233; (first | ((with_reducible refine (R.out _).mono ?_)) | ((with_reducible refine (S.out _).mono ?_))); rintro e w' ⟨rfl, rfl⟩)
      go_ret2
      exact ⟨rfl, rfl⟩
    · have S := hid (fun w => rank_num y hy.1 hy.2 ny w)
      clear nx ny n
      go_enter Tryz.func175, Tryz.ntmps175
      go_wp2_with (go_at_call 233; (first | ((with_reducible refine (R.out _).mono ?_)) | ((with_reducible refine (S.out _).mono ?_))); rintro e w' ⟨rfl, rfl⟩)
      go_ret2
      exact ⟨rfl, rfl⟩
  · have ny : classOf y = 5 := by omega
    have R := hid (fun w => rank_num x hx.1 hx.2 nx w)
    have S := hid (fun w => rank_nan y hy.1 hy.2 ny w)
    clear nx ny n
    go_enter Tryz.func175, Tryz.ntmps175
    go_wp2_with (go_at_call 233; (first | ((with_reducible refine (R.out _).mono ?_)) | ((with_reducible refine (S.out _).mono ?_))); rintro e w' ⟨rfl, rfl⟩)
    go_ret2
    exact ⟨rfl, rfl⟩
theorem atMost_any (x y : Int) (hx : U64 x) (hy : U64 y) (w : World) :
    Calls Tryz.prog 99 #[.int .u64 x, .int .u64 y] w fun e w' => e = .returned (.bool (leB x y)) ∧ w = w' := by
  by_cases h : classOf x ≠ 5 ∧ classOf y ≠ 5
  · have R := hid (fun w => orderCmp_num x y hx hy h.1 h.2 w)
    have hl := hid (show leB x y = decide (cmpI (rankOf x) (rankOf y) ≤ 0) by unfold leB; simp [h, cmpI_leS])
    clear h
    go_enter Tryz.func99, Tryz.ntmps99
    go_wp2_with (go_at_call 175; refine (R.out _).mono ?_; rintro e w' ⟨rfl, rfl⟩)
    go_ret
    exact ⟨ret_bool hl.out.symm, rfl⟩
  · have R := hid (fun w => orderCmp_nan x y hx hy (by omega) w)
    have hl := hid (show leB x y = false by unfold leB; simp; omega)
    clear h
    go_enter Tryz.func99, Tryz.ntmps99
    go_wp2_with (go_at_call 175; refine (R.out _).mono ?_; rintro e w' ⟨rfl, rfl⟩)
    go_ret
    exact ⟨ret_bool hl.out.symm, rfl⟩
end Go.Proofs.YtfphmlmgjhebjaaGreatDoor
