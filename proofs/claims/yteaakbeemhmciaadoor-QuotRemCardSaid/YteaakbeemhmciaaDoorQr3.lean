/- QuotRem. -/
import Derived.Test.YteaakbeemhmciaaDoorQr2
set_option linter.unusedVariables false
set_option linter.unusedSimpArgs false
namespace Go.Ulp
open Go.RowKit
theorem fv_zer9 (x : Int) (h0 : 0 ≤ x) (h1 : x < 18446744073709551616) (h : classOf x = 1) : (fv x).1 = 0 := by
  have ha := (class_zer x h0 h1).1 h
  have hm : mantOf x = 0 := by
    unfold absOf at ha
    unfold mantOf expOf fracOf
    split <;> omega
  unfold fv
  rw [hm, show sg (negB x) (0 : Int) = 0 by unfold sg; split <;> rfl, nrm_zero]
theorem nrm_is_zero (a : Int) (e : Int) (h : (nrm a e).1 = 0) : a = 0 := by
  obtain ⟨k, a1, -⟩ := nrm_rep a e
  rw [h] at a1
  rw [a1]; exact Int.zero_mul _
end Go.Ulp
namespace Go.Proofs.YteaakbeemhmciaaDoor
open Go.RowKit Go.Ulp
set_option linter.unusedVariables false
set_option linter.unusedSimpArgs false
set_option maxHeartbeats 2000000
set_option maxRecDepth 100000
theorem rem_any (x y : Int) (hx : 0 ≤ x ∧ x < 18446744073709551616) (hy : 0 ≤ y ∧ y < 18446744073709551616) (w : World) (hT : Tab 0 w) :
    Calls Tryd.prog 77 #[.int .u64 x, .int .u64 y] w fun e w' => e = .returned (.int .u64 (remX x y)) ∧ Below w.heap.size w w' := by
  have CX := hid (fun w => class_any x hx.1 hx.2 w)
  have CY := hid (fun w => class_any y hy.1 hy.2 w)
  have key : ∀ n0 n1 i0 z1 i1 z0 : Bool, (classOf x == 5) = n0 → (classOf y == 5) = n1 → (classOf x == 4) = i0 → (classOf y == 1) = z1 → (classOf y == 4) = i1 → (classOf x == 1) = z0 → remX x y = (if (n0 || n1 || i0 || z1) = true then 9221120237041090560 else if (i1 || z0) = true then x else if rmR x y = 0 then sgb (negB x) else rX (nrm (rmR x y) (rmE x y)) 0) := by
    intro n0 n1 i0 z1 i1 z0 a b c d e f
    unfold remX isNan isInf isZer
    rw [a, b, c, d, e, f]
  have KEY := hid key
  cases n0 : (classOf x == 5)
  · cases n1 : (classOf y == 5)
    · cases i0 : (classOf x == 4)
      · cases z1 : (classOf y == 1)
        · cases i1 : (classOf y == 4)
          · cases z0 : (classOf x == 1)
            · have h := rem_main x y hx hy n0 n1 i0 i1 z0 z1 w hT
              rw [KEY.out _ _ _ _ _ _ n0 n1 i0 z1 i1 z0]
              exact h
            · have HX := hid (show remX x y = x by rw [KEY.out _ _ _ _ _ _ n0 n1 i0 z1 i1 z0]; rfl)
              generalize remX x y = F at *
              clear key KEY hT
              obtain ⟨hx0, hx1⟩ := hx
              obtain ⟨hy0, hy1⟩ := hy
              go_enter Tryd.func77, Tryd.ntmps77
              go_wp2_with (first
                | (go_at_call 131; (with_reducible refine (CX.out _).mono ?_); rintro en w1 ⟨rfl, rfl⟩)
                | (go_at_call 131; (with_reducible refine (CY.out _).mono ?_); rintro en w1 ⟨rfl, rfl⟩))
              go_ret
              exact ⟨ret_int HX.out.symm, Below.refl _ _⟩
          · have HX := hid (show remX x y = x by rw [KEY.out _ _ _ _ _ _ n0 n1 i0 z1 i1 rfl]; rfl)
            generalize remX x y = F at *
            clear key KEY hT
            obtain ⟨hx0, hx1⟩ := hx
            obtain ⟨hy0, hy1⟩ := hy
            go_enter Tryd.func77, Tryd.ntmps77
            go_wp2_with (first
              | (go_at_call 131; (with_reducible refine (CX.out _).mono ?_); rintro en w1 ⟨rfl, rfl⟩)
              | (go_at_call 131; (with_reducible refine (CY.out _).mono ?_); rintro en w1 ⟨rfl, rfl⟩))
            go_ret
            exact ⟨ret_int HX.out.symm, Below.refl _ _⟩
        · have HX := hid (show remX x y = 9221120237041090560 by rw [KEY.out _ _ _ _ _ _ n0 n1 i0 z1 rfl rfl]; rfl)
          generalize remX x y = F at *
          clear key KEY hT
          obtain ⟨hx0, hx1⟩ := hx
          obtain ⟨hy0, hy1⟩ := hy
          go_enter Tryd.func77, Tryd.ntmps77
          go_wp2_with (first
            | (go_at_call 131; (with_reducible refine (CX.out _).mono ?_); rintro en w1 ⟨rfl, rfl⟩)
            | (go_at_call 131; (with_reducible refine (CY.out _).mono ?_); rintro en w1 ⟨rfl, rfl⟩))
          go_ret
          exact ⟨ret_int HX.out.symm, Below.refl _ _⟩
      · have HX := hid (show remX x y = 9221120237041090560 by rw [KEY.out _ _ _ _ _ _ n0 n1 i0 rfl rfl rfl]; rfl)
        generalize remX x y = F at *
        clear key KEY hT
        obtain ⟨hx0, hx1⟩ := hx
        obtain ⟨hy0, hy1⟩ := hy
        go_enter Tryd.func77, Tryd.ntmps77
        go_wp2_with (first
          | (go_at_call 131; (with_reducible refine (CX.out _).mono ?_); rintro en w1 ⟨rfl, rfl⟩)
          | (go_at_call 131; (with_reducible refine (CY.out _).mono ?_); rintro en w1 ⟨rfl, rfl⟩))
        go_ret
        exact ⟨ret_int HX.out.symm, Below.refl _ _⟩
    · have HX := hid (show remX x y = 9221120237041090560 by rw [KEY.out _ _ _ _ _ _ n0 n1 rfl rfl rfl rfl]; rfl)
      generalize remX x y = F at *
      clear key KEY hT
      obtain ⟨hx0, hx1⟩ := hx
      obtain ⟨hy0, hy1⟩ := hy
      go_enter Tryd.func77, Tryd.ntmps77
      go_wp2_with (first
        | (go_at_call 131; (with_reducible refine (CX.out _).mono ?_); rintro en w1 ⟨rfl, rfl⟩)
        | (go_at_call 131; (with_reducible refine (CY.out _).mono ?_); rintro en w1 ⟨rfl, rfl⟩))
      go_ret
      exact ⟨ret_int HX.out.symm, Below.refl _ _⟩
  · have HX := hid (show remX x y = 9221120237041090560 by rw [KEY.out _ _ _ _ _ _ n0 rfl rfl rfl rfl rfl]; rfl)
    generalize remX x y = F at *
    clear key KEY hT
    obtain ⟨hx0, hx1⟩ := hx
    obtain ⟨hy0, hy1⟩ := hy
    go_enter Tryd.func77, Tryd.ntmps77
    go_wp2_with (first
      | (go_at_call 131; (with_reducible refine (CX.out _).mono ?_); rintro en w1 ⟨rfl, rfl⟩)
      | (go_at_call 131; (with_reducible refine (CY.out _).mono ?_); rintro en w1 ⟨rfl, rfl⟩))
    go_ret
    exact ⟨ret_int HX.out.symm, Below.refl _ _⟩
theorem remOf_any (x y : Int) (hx : 0 ≤ x ∧ x < 18446744073709551616) (hy : 0 ≤ y ∧ y < 18446744073709551616) (w : World) :
    Calls Tryd.prog 78 #[.int .u64 x, .int .u64 y] w fun e w' => e = .returned (.int .u64 (remX x y)) ∧ Below w.heap.size w w' := by
  have NX := hid (fun w => rIsNan_any x hx.1 hx.2 w)
  have NY := hid (fun w => rIsNan_any y hy.1 hy.2 w)
  have IX := hid (fun w => rIsInf_any x hx.1 hx.2 w)
  have IY := hid (fun w => rIsInf_any y hy.1 hy.2 w)
  have ZY := hid (fun w => rIsZero_any y hy.1 hy.2 w)
  have KEY := hid (show remX x y = (if (isNan x || isNan y || isInf x || isZer y) = true then 9221120237041090560 else if (isInf y || isZer x) = true then x else if rmR x y = 0 then sgb (negB x) else rX (nrm (rmR x y) (rmE x y)) 0) from rfl)
  have CXY := hid (show isNan x = false → isNan y = false → isInf x = false → isInf y = false → isZer y = false → classOf x < 4 ∧ classOf y < 4 ∧ classOf y ≠ 1 by
    unfold isNan isInf isZer
    intro a b c d e
    have h := class_bd x
    have h2 := class_bd y
    rw [beq_eq_false_iff_ne] at a b c d e
    omega)
  cases n0 : isNan x
  · rw [n0] at NX KEY
    cases n1 : isNan y
    · rw [n1] at NY KEY
      cases i0 : isInf x
      · rw [i0] at IX KEY
        cases z1 : isZer y
        · rw [z1] at ZY KEY
          cases i1 : isInf y
          · rw [i1] at KEY
            obtain ⟨cx, cy, dy⟩ := CXY.out n0 n1 i0 i1 z1
            refine remOf_main x y hx hy cx cy dy (remX x y) w ?_
            intro a b K ha hb hb0
            rw [KEY.out]
            by_cases hz : classOf x = 1
            · have h0 := fv_zer9 x hx.1 hx.2 hz
              have ha0 : a = 0 := nrm_is_zero a (-(K : Int)) (by rw [ha]; exact h0)
              rw [ha0, rem_zero b hb0, show isZer x = true from beq_iff_eq.2 hz]
              show x = (if (0 : Int) = 0 then sgb (negB x) else _)
              rw [if_pos rfl]
              exact zer_bits x hx.1 hx.2 hz
            · have hfx := fv_nz x hx.1 hx.2 cx hz
              have hfy := fv_nz y hy.1 hy.2 cy dy
              obtain ⟨-, hr, he⟩ := rm_level x y a b K hfx hfy ha hb
              rw [show isZer x = false from beq_eq_false_iff_ne.2 hz, he]
              show (if rmR x y = 0 then sgb (negB x) else rX (nrm (rmR x y) (rmE x y)) 0) = _
              have hpp := pw_pos (rmE x y + K).toNat
              by_cases hR : rmR x y = 0
              · rw [if_pos hR, if_pos (by rw [hr, hR]; exact Int.zero_mul _)]
              · have hne : remI a b ≠ 0 := by
                  rw [hr]; intro h
                  rcases Int.mul_eq_zero.1 h with h | h
                  · exact hR h
                  · omega
                rw [if_neg hR, if_neg hne]
          · rw [i1] at IY KEY
            have HX := hid (show remX x y = x from KEY.out)
            generalize remX x y = F at *
            clear KEY CXY
            obtain ⟨hx0, hx1⟩ := hx
            obtain ⟨hy0, hy1⟩ := hy
            go_enter Tryd.func78, Tryd.ntmps78
            go_wp2_with (first
              | (go_at_call 49; (with_reducible refine (NX.out _).mono ?_); rintro en w1 ⟨rfl, rfl⟩)
              | (go_at_call 49; (with_reducible refine (NY.out _).mono ?_); rintro en w1 ⟨rfl, rfl⟩)
              | (go_at_call 50; (with_reducible refine (IX.out _).mono ?_); rintro en w1 ⟨rfl, rfl⟩)
              | (go_at_call 50; (with_reducible refine (IY.out _).mono ?_); rintro en w1 ⟨rfl, rfl⟩)
              | (go_at_call 75; (with_reducible refine (ZY.out _).mono ?_); rintro en w1 ⟨rfl, rfl⟩)
              | (go_at_call 59; (with_reducible refine (rQuiet_any _).mono ?_); rintro en w1 ⟨rfl, rfl⟩))
            go_ret
            exact ⟨ret_int HX.out.symm, Below.refl _ _⟩
        · rw [z1] at ZY KEY
          have HX := hid (show remX x y = 9221120237041090560 from KEY.out)
          generalize remX x y = F at *
          clear KEY CXY
          obtain ⟨hx0, hx1⟩ := hx
          obtain ⟨hy0, hy1⟩ := hy
          go_enter Tryd.func78, Tryd.ntmps78
          go_wp2_with (first
            | (go_at_call 49; (with_reducible refine (NX.out _).mono ?_); rintro en w1 ⟨rfl, rfl⟩)
            | (go_at_call 49; (with_reducible refine (NY.out _).mono ?_); rintro en w1 ⟨rfl, rfl⟩)
            | (go_at_call 50; (with_reducible refine (IX.out _).mono ?_); rintro en w1 ⟨rfl, rfl⟩)
            | (go_at_call 50; (with_reducible refine (IY.out _).mono ?_); rintro en w1 ⟨rfl, rfl⟩)
            | (go_at_call 75; (with_reducible refine (ZY.out _).mono ?_); rintro en w1 ⟨rfl, rfl⟩)
            | (go_at_call 59; (with_reducible refine (rQuiet_any _).mono ?_); rintro en w1 ⟨rfl, rfl⟩))
          go_ret
          exact ⟨ret_int HX.out.symm, Below.refl _ _⟩
      · rw [i0] at IX KEY
        have HX := hid (show remX x y = 9221120237041090560 from KEY.out)
        generalize remX x y = F at *
        clear KEY CXY
        obtain ⟨hx0, hx1⟩ := hx
        obtain ⟨hy0, hy1⟩ := hy
        go_enter Tryd.func78, Tryd.ntmps78
        go_wp2_with (first
          | (go_at_call 49; (with_reducible refine (NX.out _).mono ?_); rintro en w1 ⟨rfl, rfl⟩)
          | (go_at_call 49; (with_reducible refine (NY.out _).mono ?_); rintro en w1 ⟨rfl, rfl⟩)
          | (go_at_call 50; (with_reducible refine (IX.out _).mono ?_); rintro en w1 ⟨rfl, rfl⟩)
          | (go_at_call 50; (with_reducible refine (IY.out _).mono ?_); rintro en w1 ⟨rfl, rfl⟩)
          | (go_at_call 75; (with_reducible refine (ZY.out _).mono ?_); rintro en w1 ⟨rfl, rfl⟩)
          | (go_at_call 59; (with_reducible refine (rQuiet_any _).mono ?_); rintro en w1 ⟨rfl, rfl⟩))
        go_ret
        exact ⟨ret_int HX.out.symm, Below.refl _ _⟩
    · rw [n1] at NY KEY
      have HX := hid (show remX x y = 9221120237041090560 by rw [KEY.out]; rfl)
      generalize remX x y = F at *
      clear KEY CXY
      obtain ⟨hx0, hx1⟩ := hx
      obtain ⟨hy0, hy1⟩ := hy
      go_enter Tryd.func78, Tryd.ntmps78
      go_wp2_with (first
        | (go_at_call 49; (with_reducible refine (NX.out _).mono ?_); rintro en w1 ⟨rfl, rfl⟩)
        | (go_at_call 49; (with_reducible refine (NY.out _).mono ?_); rintro en w1 ⟨rfl, rfl⟩)
        | (go_at_call 50; (with_reducible refine (IX.out _).mono ?_); rintro en w1 ⟨rfl, rfl⟩)
        | (go_at_call 50; (with_reducible refine (IY.out _).mono ?_); rintro en w1 ⟨rfl, rfl⟩)
        | (go_at_call 75; (with_reducible refine (ZY.out _).mono ?_); rintro en w1 ⟨rfl, rfl⟩)
        | (go_at_call 59; (with_reducible refine (rQuiet_any _).mono ?_); rintro en w1 ⟨rfl, rfl⟩))
      go_ret
      exact ⟨ret_int HX.out.symm, Below.refl _ _⟩
  · rw [n0] at NX KEY
    have HX := hid (show remX x y = 9221120237041090560 by rw [KEY.out]; rfl)
    generalize remX x y = F at *
    clear KEY CXY
    obtain ⟨hx0, hx1⟩ := hx
    obtain ⟨hy0, hy1⟩ := hy
    go_enter Tryd.func78, Tryd.ntmps78
    go_wp2_with (first
      | (go_at_call 49; (with_reducible refine (NX.out _).mono ?_); rintro en w1 ⟨rfl, rfl⟩)
      | (go_at_call 49; (with_reducible refine (NY.out _).mono ?_); rintro en w1 ⟨rfl, rfl⟩)
      | (go_at_call 50; (with_reducible refine (IX.out _).mono ?_); rintro en w1 ⟨rfl, rfl⟩)
      | (go_at_call 50; (with_reducible refine (IY.out _).mono ?_); rintro en w1 ⟨rfl, rfl⟩)
      | (go_at_call 75; (with_reducible refine (ZY.out _).mono ?_); rintro en w1 ⟨rfl, rfl⟩)
      | (go_at_call 59; (with_reducible refine (rQuiet_any _).mono ?_); rintro en w1 ⟨rfl, rfl⟩))
    go_ret
    exact ⟨ret_int HX.out.symm, Below.refl _ _⟩
theorem quotRem_walk (x y : Int) (hx : 0 ≤ x ∧ x < 18446744073709551616) (hy : 0 ≤ y ∧ y < 18446744073709551616) (W : World) (hT : Tab 0 W) :
    Calls Tryd.prog 12 #[.int .u64 x, .int .u64 y] W fun e w' => e = .returned (.bool true) ∧ Below W.heap.size W w' := by
  have RM := hid (rem_any x y hx hy W hT)
  have RO := hid (fun w => remOf_any x y hx hy w)
  generalize remX x y = F at *
  obtain ⟨hx0, hx1⟩ := hx
  obtain ⟨hy0, hy1⟩ := hy
  clear hT
  go_enter Tryd.func12, Tryd.ntmps12
  go_wp2_with (first
    | (go_at_call 77; (with_reducible refine (RM.out).mono ?_); rintro en w1 ⟨rfl, hb1⟩)
    | (go_at_call 78; (with_reducible refine (RO.out _).mono ?_); rintro en w2 ⟨rfl, hb2⟩))
  go_ret
  exact ⟨by simp, below_trans hb1 hb2⟩
end Go.Proofs.YteaakbeemhmciaaDoor
