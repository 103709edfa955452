/- The walks of the laws Names, FloatParts and FloatRanks: the Go text of each returns true. -/
import Derived.Test.YtdoiobdomngccaaFloat
namespace Go.Proofs.Ytdoiobdomngccaa
open Go.RowKit Go.Ulp
set_option linter.unusedVariables false
set_option linter.unusedSimpArgs false
set_option maxHeartbeats 800000
theorem names_walk (w : World) : Calls Try.prog 3 #[] w fun e w' => e = .returned (.bool true) ∧ Grown w w' := by
  go_enter Try.func3, Try.ntmps3
  go_wp2_with fail
  go_rounds 7
  all_goals go_rounds 11
  all_goals go_rounds 13
  go_ret
  exact ⟨rfl, by repeat (first | exact Grown.refl _ | apply Grown.drew | apply Grown.alloc)⟩

theorem floatParts_walk (x : Int) (neg : Bool) (exp frac : Int) (hx : 0 ≤ x ∧ x ≤ 18446744073709551615) (he : -9223372036854775808 ≤ exp ∧ exp ≤ 9223372036854775807) (hf : 0 ≤ frac ∧ frac ≤ 18446744073709551615) (w : World) :
    Calls Try.prog 4 #[.int .u64 x, .bool neg, .int .i64 exp, .int .u64 frac] w fun e w' => e = .returned (.bool true) ∧ Grown w w' := by
  obtain ⟨h0, hx⟩ := hx
  obtain ⟨f0, hf⟩ := hf
  have h1 : x < 18446744073709551616 := by omega
  have f1 : frac < 18446744073709551616 := by omega
  have b1 := expOf_bd x
  have b2 := fracOf_bd x
  have n1 := negOf_bd x h0 h1
  have g1 : negB (negOf x) = !negB x := by
    unfold negB negOf
    by_cases hc : x < 9223372036854775808
    · rw [if_pos hc, decide_eq_true (by omega), decide_eq_false (by omega)]; rfl
    · rw [if_neg hc, decide_eq_false (by omega), decide_eq_true (by omega)]; rfl
  have g2 : expOf (negOf x) = expOf x := by unfold expOf negOf; split <;> omega
  have g3 : fracOf (negOf x) = fracOf x := by unfold fracOf negOf; split <;> omega
  have g4 : absOf x < 9223372036854775808 := by unfold absOf; omega
  have g5 : (absOf x != x && absOf x != negOf x) = false := by
    rw [Bool.and_eq_false_iff]
    by_cases hc : x < 9223372036854775808
    · left; rw [bne_eq_false_iff_eq]; unfold absOf; omega
    · right; rw [bne_eq_false_iff_eq]; unfold absOf negOf; rw [if_neg hc]; omega
  by_cases hg : 0 ≤ exp ∧ exp ≤ 2047 ∧ frac < 4503599627370496
  · obtain ⟨c1, c2, c3⟩ := hg
    have k1 : negB (exp * 4503599627370496 + frac + (if neg then 9223372036854775808 else 0)) = neg := by
      unfold negB; cases neg <;> simp <;> omega
    have k2 : expOf (exp * 4503599627370496 + frac + (if neg then 9223372036854775808 else 0)) = exp := by
      unfold expOf; cases neg <;> simp <;> omega
    have k3 : fracOf (exp * 4503599627370496 + frac + (if neg then 9223372036854775808 else 0)) = frac := by
      unfold fracOf; cases neg <;> simp <;> omega
    generalize hz : exp * 4503599627370496 + frac + (if neg then 9223372036854775808 else 0) = z at *
    have z0 : 0 ≤ z ∧ z < 18446744073709551616 := by subst hz; cases neg <;> simp <;> omega
    have mk := fun w => make_good neg exp frac f0 f1 c1 c2 c3 w
    rw [hz] at mk
    have MK := hid mk
    clear mk hz
    obtain ⟨z0, z1⟩ := z0
    go_enter Try.func4, Try.ntmps4
    go_wp2_with (first | (go_at_call 11; refine (parts_any x h0 h1 _).mono ?_; rintro e w' ⟨rfl, rfl⟩) | (go_at_call 12; (first | (with_reducible refine (fields_any x h0 h1 _).mono ?_) | (with_reducible refine (fields_any (negOf x) n1.1 n1.2 _).mono ?_) | (with_reducible refine (fields_any z z0 z1 _).mono ?_)); rintro e w' ⟨rfl, rfl⟩) | (go_at_call 13; refine (class_any x h0 h1 _).mono ?_; rintro e w' ⟨rfl, rfl⟩) | (go_at_call 14; refine (classOf_any x h0 h1 _).mono ?_; rintro e w' ⟨rfl, rfl⟩) | (go_at_call 15; refine (neg_any x h0 h1 _).mono ?_; rintro e w' ⟨rfl, rfl⟩) | (go_at_call 16; refine (abs_any x h0 h1 _).mono ?_; rintro e w' ⟨rfl, rfl⟩) | (go_at_call 17; refine (MK.out _).mono ?_; rintro e w' ⟨rfl, rfl⟩) | (go_at_call 18; refine (between_any _ _ _ _).mono ?_; rintro e w' ⟨rfl, rfl⟩))
    all_goals
      go_ret
      exact ⟨rfl, Grown.refl _⟩
  · have hb : decide (0 ≤ exp ∧ exp ≤ 2047) = false ∨ (decide (0 ≤ exp ∧ exp ≤ 2047) = true ∧ 4503599627370496 ≤ frac) := by
      by_cases h : 0 ≤ exp ∧ exp ≤ 2047
      · right; exact ⟨by simpa using h, by omega⟩
      · left; simpa using h
    have MK := hid (fun w => make_bad neg exp frac f0 f1 (by omega) w)
    clear hg
    rcases hb with hb | ⟨hb, hb2⟩
    all_goals
      go_enter Try.func4, Try.ntmps4
      go_wp2_with (first | (go_at_call 11; refine (parts_any x h0 h1 _).mono ?_; rintro e w' ⟨rfl, rfl⟩) | (go_at_call 12; (first | (with_reducible refine (fields_any x h0 h1 _).mono ?_) | (with_reducible refine (fields_any (negOf x) n1.1 n1.2 _).mono ?_)); rintro e w' ⟨rfl, rfl⟩) | (go_at_call 13; refine (class_any x h0 h1 _).mono ?_; rintro e w' ⟨rfl, rfl⟩) | (go_at_call 14; refine (classOf_any x h0 h1 _).mono ?_; rintro e w' ⟨rfl, rfl⟩) | (go_at_call 15; refine (neg_any x h0 h1 _).mono ?_; rintro e w' ⟨rfl, rfl⟩) | (go_at_call 16; refine (abs_any x h0 h1 _).mono ?_; rintro e w' ⟨rfl, rfl⟩) | (go_at_call 17; refine (MK.out _).mono ?_; rintro e w' ⟨rfl, rfl⟩) | (go_at_call 18; refine (between_any _ _ _ _).mono ?_; rintro e w' ⟨rfl, rfl⟩))
      all_goals
        go_ret
        exact ⟨rfl, Grown.refl _⟩

theorem floatRanks_walk (x rank : Int) (hx : 0 ≤ x ∧ x ≤ 18446744073709551615) (hr : -9223372036854775808 ≤ rank ∧ rank ≤ 9223372036854775807) (w : World) :
    Calls Try.prog 5 #[.int .u64 x, .int .i64 rank] w fun e w' => e = .returned (.bool true) ∧ Grown w w' := by
  obtain ⟨h0, hx⟩ := hx
  have h1 : x < 18446744073709551616 := by omega
  have b1 := expOf_bd x
  have bc := class_bd x
  have hv : hasVal x = true ∧ classOf x < 4 ∨ hasVal x = false ∧ classOf x = 4 ∨ hasVal x = false ∧ classOf x = 5 := by
    have := class_val x h0 h1
    unfold hasVal; unfold absOf at this
    by_cases h : x % 9223372036854775808 < 9218868437227405312
    · left; exact ⟨by simpa using h, by omega⟩
    · right
      by_cases h5 : classOf x = 5
      · right; exact ⟨by simpa using h, h5⟩
      · left; exact ⟨by simpa using h, by omega⟩
  have hc : ∃ r : Bool, decide (-9218868437227405312 ≤ rank ∧ rank ≤ 9218868437227405312) = r ∧ ∃ y f, Hid (∀ w, Calls Try.prog 20 #[.int .i64 rank] w fun e w' => e = .returned (.tuple #[.int .u64 y, .int .i64 f]) ∧ w = w') ∧ (r = true → -9218868437227405312 ≤ rank ∧ rank ≤ 9218868437227405312 ∧ y = ranked rank ∧ f = 0) ∧ (r = false → y = 0 ∧ f = 1) := by
    by_cases c : -9218868437227405312 ≤ rank ∧ rank ≤ 9218868437227405312
    · exact ⟨true, by simpa using c, _, _, hid (fun w => of_good rank c.1 c.2 w), fun _ => ⟨c.1, c.2, rfl, rfl⟩, fun h => by simp at h⟩
    · exact ⟨false, by simpa using c, _, _, hid (fun w => of_bad rank (by omega) w), fun h => by simp at h, fun _ => ⟨rfl, rfl⟩⟩
  obtain ⟨r, hd, y, f, OF, hc1, hc2⟩ := hc
  have hrr : (r = true ∧ -9218868437227405312 ≤ rank ∧ rank ≤ 9218868437227405312 ∧ y = ranked rank ∧ f = 0) ∨ (r = false ∧ y = 0 ∧ f = 1) := by
    cases r
    · right; exact ⟨rfl, hc2 rfl⟩
    · left; exact ⟨rfl, hc1 rfl⟩
  clear hc1 hc2
  rcases hv with ⟨v1, v2⟩ | ⟨v1, v2⟩ | ⟨v1, v2⟩
  · have R := hid (fun w => rank_num x h0 h1 (by omega) w)
    have NX := hid (fun w => next_num x h0 h1 (by omega) w)
    have PV := hid (fun w => prev_num x h0 h1 (by omega) w)
    have UL := hid (fun w => ulp_some x h0 h1 v1 w)
    obtain ⟨l1, l2⟩ := rank_lim x h0 h1 (by omega)
    have hp : (rankOf x = -9218868437227405312 ∧ prevOf x = ranked (-9218868437227405312)) ∨ (-9218868437227405312 < rankOf x ∧ prevOf x = ranked (rankOf x - 1)) := by
      unfold prevOf
      by_cases c : rankOf x = -9218868437227405312
      · left; exact ⟨c, by rw [c]; rfl⟩
      · right; exact ⟨by omega, by rw [show max (rankOf x - 1) (-9218868437227405312) = rankOf x - 1 by omega]⟩
    have hn : (rankOf x = 9218868437227405312 ∧ nextOf x = ranked 9218868437227405312) ∨ (rankOf x < 9218868437227405312 ∧ rankOf x ≠ -1 ∧ nextOf x = ranked (rankOf x + 1)) ∨ (rankOf x = -1 ∧ nextOf x = 9223372036854775808) := by
      unfold nextOf
      by_cases c : rankOf x = -1
      · right; right; exact ⟨c, by rw [if_pos c]⟩
      · rw [if_neg c]
        by_cases d : rankOf x = 9218868437227405312
        · left; exact ⟨d, by rw [d]; rfl⟩
        · right; left; exact ⟨by omega, c, by rw [show min (rankOf x + 1) 9218868437227405312 = rankOf x + 1 by omega]⟩
    rcases hrr with ⟨rfl, c1, c2, rfl, rfl⟩ | ⟨rfl, rfl, rfl⟩
    all_goals
      rcases hp with ⟨hp1, hp2⟩ | ⟨hp1, hp2⟩
      all_goals
        rcases hn with ⟨hn1, hn2⟩ | ⟨hn1, hn3, hn2⟩ | ⟨hn1, hn2⟩
        all_goals
          first
          | (exfalso; omega)
          | (by_cases c : 1 ≤ expOf x
             all_goals
               go_enter Try.func5, Try.ntmps5
               go_wp2_with (first | (go_at_call 19; refine (R.out _).mono ?_; rintro e w' ⟨rfl, rfl⟩) | (go_at_call 20; refine (OF.out _).mono ?_; rintro e w' ⟨rfl, rfl⟩) | (go_at_call 21; refine (UL.out _).mono ?_; rintro e w' ⟨rfl, rfl⟩) | (go_at_call 22; refine (NX.out _).mono ?_; rintro e w' ⟨rfl, rfl⟩) | (go_at_call 23; refine (PV.out _).mono ?_; rintro e w' ⟨rfl, rfl⟩) | (go_at_call 18; refine (between_any _ _ _ _).mono ?_; rintro e w' ⟨rfl, rfl⟩) | (go_at_call 24; refine (ranked_any _ (by omega) (by omega) _).mono ?_; rintro e w' ⟨rfl, rfl⟩) | (go_at_call 14; refine (classOf_any x h0 h1 _).mono ?_; rintro e w' ⟨rfl, rfl⟩) | (go_at_call 12; refine (fields_any x h0 h1 _).mono ?_; rintro e w' ⟨rfl, rfl⟩) | (go_at_call 25; refine (rankOf_any x h0 h1 _).mono ?_; rintro e w' ⟨rfl, rfl⟩))
               all_goals
                 go_ret
                 exact ⟨rfl, Grown.refl _⟩)
  · have R := hid (fun w => rank_num x h0 h1 (by omega) w)
    have NX := hid (fun w => next_num x h0 h1 (by omega) w)
    have PV := hid (fun w => prev_num x h0 h1 (by omega) w)
    have UL := hid (fun w => ulp_none x h0 h1 v1 w)
    obtain ⟨l1, l2⟩ := rank_lim x h0 h1 (by omega)
    have hp : (rankOf x = -9218868437227405312 ∧ prevOf x = ranked (-9218868437227405312)) ∨ (-9218868437227405312 < rankOf x ∧ prevOf x = ranked (rankOf x - 1)) := by
      unfold prevOf
      by_cases c : rankOf x = -9218868437227405312
      · left; exact ⟨c, by rw [c]; rfl⟩
      · right; exact ⟨by omega, by rw [show max (rankOf x - 1) (-9218868437227405312) = rankOf x - 1 by omega]⟩
    have hn : (rankOf x = 9218868437227405312 ∧ nextOf x = ranked 9218868437227405312) ∨ (rankOf x < 9218868437227405312 ∧ rankOf x ≠ -1 ∧ nextOf x = ranked (rankOf x + 1)) ∨ (rankOf x = -1 ∧ nextOf x = 9223372036854775808) := by
      unfold nextOf
      by_cases c : rankOf x = -1
      · right; right; exact ⟨c, by rw [if_pos c]⟩
      · rw [if_neg c]
        by_cases d : rankOf x = 9218868437227405312
        · left; exact ⟨d, by rw [d]; rfl⟩
        · right; left; exact ⟨by omega, c, by rw [show min (rankOf x + 1) 9218868437227405312 = rankOf x + 1 by omega]⟩
    rcases hrr with ⟨rfl, c1, c2, rfl, rfl⟩ | ⟨rfl, rfl, rfl⟩
    all_goals
      rcases hp with ⟨hp1, hp2⟩ | ⟨hp1, hp2⟩
      all_goals
        rcases hn with ⟨hn1, hn2⟩ | ⟨hn1, hn3, hn2⟩ | ⟨hn1, hn2⟩
        all_goals
          first
          | (exfalso; omega)
          | (go_enter Try.func5, Try.ntmps5
             go_wp2_with (first | (go_at_call 19; refine (R.out _).mono ?_; rintro e w' ⟨rfl, rfl⟩) | (go_at_call 20; refine (OF.out _).mono ?_; rintro e w' ⟨rfl, rfl⟩) | (go_at_call 21; refine (UL.out _).mono ?_; rintro e w' ⟨rfl, rfl⟩) | (go_at_call 22; refine (NX.out _).mono ?_; rintro e w' ⟨rfl, rfl⟩) | (go_at_call 23; refine (PV.out _).mono ?_; rintro e w' ⟨rfl, rfl⟩) | (go_at_call 18; refine (between_any _ _ _ _).mono ?_; rintro e w' ⟨rfl, rfl⟩) | (go_at_call 24; refine (ranked_any _ (by omega) (by omega) _).mono ?_; rintro e w' ⟨rfl, rfl⟩) | (go_at_call 14; refine (classOf_any x h0 h1 _).mono ?_; rintro e w' ⟨rfl, rfl⟩) | (go_at_call 12; refine (fields_any x h0 h1 _).mono ?_; rintro e w' ⟨rfl, rfl⟩) | (go_at_call 25; refine (rankOf_any x h0 h1 _).mono ?_; rintro e w' ⟨rfl, rfl⟩))
             all_goals
               go_ret
               exact ⟨rfl, Grown.refl _⟩)
  · have R := hid (fun w => rank_nan x h0 h1 (by omega) w)
    have NX := hid (fun w => next_nan x h0 h1 (by omega) w)
    have PV := hid (fun w => prev_nan x h0 h1 (by omega) w)
    have UL := hid (fun w => ulp_none x h0 h1 v1 w)
    rcases hrr with ⟨rfl, c1, c2, rfl, rfl⟩ | ⟨rfl, rfl, rfl⟩
    all_goals
      go_enter Try.func5, Try.ntmps5
      go_wp2_with (first | (go_at_call 19; refine (R.out _).mono ?_; rintro e w' ⟨rfl, rfl⟩) | (go_at_call 20; refine (OF.out _).mono ?_; rintro e w' ⟨rfl, rfl⟩) | (go_at_call 21; refine (UL.out _).mono ?_; rintro e w' ⟨rfl, rfl⟩) | (go_at_call 22; refine (NX.out _).mono ?_; rintro e w' ⟨rfl, rfl⟩) | (go_at_call 23; refine (PV.out _).mono ?_; rintro e w' ⟨rfl, rfl⟩) | (go_at_call 18; refine (between_any _ _ _ _).mono ?_; rintro e w' ⟨rfl, rfl⟩) | (go_at_call 24; refine (ranked_any _ (by omega) (by omega) _).mono ?_; rintro e w' ⟨rfl, rfl⟩) | (go_at_call 14; refine (classOf_any x h0 h1 _).mono ?_; rintro e w' ⟨rfl, rfl⟩) | (go_at_call 12; refine (fields_any x h0 h1 _).mono ?_; rintro e w' ⟨rfl, rfl⟩) | (go_at_call 25; refine (rankOf_any x h0 h1 _).mono ?_; rintro e w' ⟨rfl, rfl⟩))
      all_goals
        go_ret
        exact ⟨rfl, Grown.refl _⟩
end Go.Proofs.Ytdoiobdomngccaa
