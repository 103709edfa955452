/- whole.Is, Round, From. -/
import Derived.Test.YteaakbeemhmciaaDoorWh0
set_option linter.unusedVariables false
set_option linter.unusedSimpArgs false
namespace Go.Proofs.YteaakbeemhmciaaDoor
open Go.RowKit Go.Ulp
set_option linter.unusedVariables false
set_option linter.unusedSimpArgs false
set_option maxHeartbeats 2000000
set_option maxRecDepth 100000
theorem is_any (x : Int) (h0 : 0 ≤ x) (h1 : x < 18446744073709551616) (w : World) (hT : Tab 0 w) :
    Calls Tryd.prog 64 #[.int .u64 x] w fun e w' => e = .returned (.bool (hasVal x && decide (0 ≤ (fv x).2))) ∧ Below w.heap.size w w' := by
  have HV := hid (fun w => hasValue_any x h0 h1 w)
  have VA := hid (value_any x h0 h1 w hT)
  generalize hasVal x = v at *
  generalize fv x = D at *
  cases v
  · go_enter Tryd.func64, Tryd.ntmps64
    go_wp2_with (go_at_call 95; (with_reducible refine (HV.out _).mono ?_); rintro en w1 ⟨rfl, rfl⟩)
    go_ret
    exact ⟨rfl, Below.refl _ _⟩
  · have hfl : ∀ (b : Bool) (s : Value) (e : Int) (w : World), (Instr.field 25 (.agg #[.bool b, s, .int .i64 e]) 2).run Tryd.prog w = .ok (.int .i64 e) w := fun _ _ _ _ => rfl
    go_enter Tryd.func64, Tryd.ntmps64
    go_wp2_with (first
      | (go_at_call 95; (with_reducible refine (HV.out _).mono ?_); rintro en w1 ⟨rfl, rfl⟩)
      | (go_at_call 96; (with_reducible refine VA.out.mono ?_); rintro en w2 ⟨v2, rfl, ⟨a2, c2, rfl, hN2⟩, hb2⟩))
    go_ret
    exact ⟨ret_bool (by simp), hb2⟩
theorem multD_any (x mode : Int) (h0 : 0 ≤ x) (h1 : x < 18446744073709551616) (v : Value) (w : World) (hv : VD w (fv x) v) (hT : Tab 0 w) :
    Calls Tryd.prog 109 #[v, .int .i64 0, .int .i64 mode] w (RetMp w (whD x mode) (whC x)) := by
  obtain ⟨-, b1, b2, b3⟩ := fv_bd x h0 h1
  have l1 := limbs_short' 53 2 (by omega) _ b1
  have l2 := limbs_short' 1200 40 (by omega) _ (cutN_short (decide ((fv x).1 < 0)) (fv x).1.natAbs (fv x).2 mode 1200 rfl b1 b3)
  exact multiple_any v (fv x) 0 mode w hv (by omega) ⟨by omega, by omega⟩ ⟨by omega, by omega⟩ (by omega) hT
theorem roundW_any (x mode : Int) (h0 : 0 ≤ x) (h1 : x < 18446744073709551616) (w : World) (hT : Tab 0 w) :
    Calls Tryd.prog 52 #[.int .u64 x, .int .i64 mode] w (RetX3 w (mdX mode (wrX x mode)) (mdC mode (wrC x)) (mdE mode)) := by
  have KN := hid (fun w => known_any mode w)
  have CL := hid (fun w => class_any x h0 h1 w)
  have VA := hid (fun w t => value_any x h0 h1 w t)
  have MU := hid (fun v w h t => multD_any x mode h0 h1 v w h t)
  obtain ⟨f1, f2, f3, f4⟩ := whD_form x mode h0 h1
  have l1 := limbs_short' 54 2 (by omega) _ f1
  have NU := hid (fun v w h => numberD_any v (whD x mode) 0 w h (by omega) ⟨by omega, by omega⟩ f4)
  have hq := rX_lt (whD x mode)
  have ha := rX_abs (whD x mode)
  have AB := hid (show ∀ w, Calls Tryd.prog 115 #[.int .u64 (rX (whD x mode) 0)] w fun e w' => e = .returned (.int .u64 (rX (absD (whD x mode)) 0)) ∧ w = w' from fun w => by
    rw [← ha]
    have hb := numX_zero (decide ((whD x mode).1 < 0)) (whD x mode).1.natAbs (whD x mode).2
    refine abs_any _ ?_ ?_ w
    · show 0 ≤ numX _ _ _ 0; rw [hb.1]; unfold sgb; split <;> omega
    · show numX _ _ _ 0 < _; rw [hb.1]; unfold sgb; split <;> omega)
  have OR := hid (show bits .or .u64 (rX (absD (whD x mode)) 0) (bits .and .u64 x 9223372036854775808) = rX (absD (whD x mode)) 0 + sgb (negB x) by
    rw [and_sign x h0 h1]; exact or_sgb (negB x) _ _ rfl hq.1 hq.2)
  have HW := hid (show wrX x mode = (if (classOf x == 5) = true then 9221120237041090560 else if (classOf x == 4) = true then x else rX (absD (whD x mode)) 0 + sgb (negB x)) ∧ wrC x = (if (classOf x == 5) = true then false else if (classOf x == 4) = true then false else whC x) from ⟨rfl, rfl⟩)
  have HT := hid hT
  generalize wrX x mode = rx at *
  generalize wrC x = rc at *
  generalize rX (absD (whD x mode)) 0 = qa at *
  generalize rX (whD x mode) 0 = qx at *
  generalize whC x = wc at *
  generalize whD x mode = D at *
  generalize classOf x = c at *
  clear hT f1 f2 f3 f4 l1 hq ha
  cases hk : knownB mode
  · obtain ⟨e1, e2, e3⟩ := md_no hk rx rc
    rw [e1, e2, e3]
    rw [hk] at KN
    clear e1 e2 e3 hk
    go_enter Tryd.func52, Tryd.ntmps52
    go_wp2_with (go_at_call 108; (with_reducible refine (KN.out _).mono ?_); rintro en w1 ⟨rfl, rfl⟩)
    refine bodyPost_ret (by simp [results, Tryd.results52, go_sem]; try rfl) rfl ?_
    exact ⟨rfl, Below.refl _ _⟩
  obtain ⟨e1, e2, e3⟩ := md_yes hk rx rc
  rw [e1, e2, e3]
  rw [hk] at KN
  clear e1 e2 e3 hk
  cases n0 : (c == 5)
  · cases i0 : (c == 4)
    · have hh := HW.out
      rw [n0, i0] at hh
      obtain ⟨hx1, hx2⟩ := hh
      have HX := hid (show rx = qa + sgb (negB x) ∧ rc = wc from ⟨hx1, hx2⟩)
      clear hx1 hx2 HW
      go_enter Tryd.func52, Tryd.ntmps52
      go_wp2_with (first
        | (go_at_call 108; (with_reducible refine (KN.out _).mono ?_); rintro en w1 ⟨rfl, rfl⟩)
        | (go_at_call 131; (with_reducible refine (CL.out _).mono ?_); rintro en w1 ⟨rfl, rfl⟩)
        | (go_at_call 96; (with_reducible refine (VA.out _ HT.out).mono ?_); rintro en w2 ⟨v2, rfl, hv2, hb2⟩)
        | (go_at_call 109; (with_reducible refine (MU.out _ _ hv2 (HT.out.below hb2)).mono ?_); rintro en w3 ⟨v3, rfl, ⟨a3, c3, rfl, hN3⟩, hb3⟩)
        | (go_at_call 126; (with_reducible refine (NU.out _ _ (VD.mk' (hN3.below (below_alloc _ _)))).mono ?_); rintro en w4 ⟨rfl, hb4⟩)
        | (go_at_call 115; (with_reducible refine (AB.out _).mono ?_); rintro en w5 ⟨rfl, rfl⟩))
      refine bodyPost_ret (by simp [results, Tryd.results52, go_sem]; try rfl) rfl ?_
      exact ⟨ret3 (by rw [OR.out, HX.out.1]) HX.out.2.symm rfl, below_trans (below_trans (below_trans hb2 hb3) (below_alloc _ _)) hb4⟩
    · have hh := HW.out
      rw [n0, i0] at hh
      obtain ⟨hx1, hx2⟩ := hh
      have HX := hid (show rx = x ∧ rc = false from ⟨hx1, hx2⟩)
      clear hx1 hx2 HW
      go_enter Tryd.func52, Tryd.ntmps52
      go_wp2_with (first
        | (go_at_call 108; (with_reducible refine (KN.out _).mono ?_); rintro en w1 ⟨rfl, rfl⟩)
        | (go_at_call 131; (with_reducible refine (CL.out _).mono ?_); rintro en w1 ⟨rfl, rfl⟩))
      refine bodyPost_ret (by simp [results, Tryd.results52, go_sem]; try rfl) rfl ?_
      exact ⟨ret3 HX.out.1.symm HX.out.2.symm rfl, Below.refl _ _⟩
  · have hh := HW.out
    rw [n0] at hh
    obtain ⟨hx1, hx2⟩ := hh
    have HX := hid (show rx = 9221120237041090560 ∧ rc = false from ⟨hx1, hx2⟩)
    clear hx1 hx2 HW
    go_enter Tryd.func52, Tryd.ntmps52
    go_wp2_with (first
      | (go_at_call 108; (with_reducible refine (KN.out _).mono ?_); rintro en w1 ⟨rfl, rfl⟩)
      | (go_at_call 131; (with_reducible refine (CL.out _).mono ?_); rintro en w1 ⟨rfl, rfl⟩))
    refine bodyPost_ret (by simp [results, Tryd.results52, go_sem]; try rfl) rfl ?_
    exact ⟨ret3 HX.out.1.symm HX.out.2.symm rfl, Below.refl _ _⟩
theorem from_any (n mode : Int) (h0 : -9223372036854775808 ≤ n) (h1 : n ≤ 9223372036854775807) (w : World) (hT : Tab 0 w) :
    Calls Tryd.prog 54 #[.int .i64 n, .int .i64 mode] w (RetX3 w (mdX mode (rX (nrm n 0) mode)) (mdC mode (rC (nrm n 0) mode)) (mdE mode)) := by
  have KN := hid (fun w => known_any mode w)
  have OF := hid (fun w => natOf_any n.natAbs (by omega) w)
  have ln : (limbs n.natAbs).length ≤ 2 := limbs_short' 64 2 (by omega) _ (by omega)
  have NO := hid (fun a0 c0 w h t => normD_any (decide (n < 0)) a0 c0 n.natAbs 0 w h (by omega) ⟨by omega, by omega⟩ t)
  rw [sg_self] at NO
  obtain ⟨k1, k2⟩ := nrm_bd n 0 64 (by omega)
  have l1 := limbs_short' 64 2 (by omega) _ k1
  have NU := hid (fun v w h => numberD_any v (nrm n 0) mode w h (by omega) ⟨by rcases k2 with k | k <;> omega, by rcases k2 with k | k <;> omega⟩ (nrm_isN _ _))
  have HT := hid hT
  generalize rX (nrm n 0) mode = rx at *
  generalize rC (nrm n 0) mode = rc at *
  generalize nrm n 0 = D at *
  clear hT ln k1 k2 l1
  cases hk : knownB mode
  · obtain ⟨e1, e2, e3⟩ := md_no hk rx rc
    rw [e1, e2, e3]
    rw [hk] at KN
    clear e1 e2 e3 hk
    go_enter Tryd.func54, Tryd.ntmps54
    go_wp2_with (go_at_call 108; (with_reducible refine (KN.out _).mono ?_); rintro en w1 ⟨rfl, rfl⟩)
    refine bodyPost_ret (by simp [results, Tryd.results54, go_sem]; try rfl) rfl ?_
    exact ⟨rfl, Below.refl _ _⟩
  obtain ⟨e1, e2, e3⟩ := md_yes hk rx rc
  rw [e1, e2, e3]
  rw [hk] at KN
  clear e1 e2 e3 hk
  by_cases hn : n < 0
  · have q1 : IntKind.u64.wrap n = n + 18446744073709551616 := by rw [IntKind.wrap_u64]; omega
    have q2 : IntKind.u64.wrap (-(n + 18446744073709551616)) = (n.natAbs : Int) := by rw [IntKind.wrap_u64]; omega
    rw [decide_eq_true hn] at NO
    go_enter Tryd.func54, Tryd.ntmps54
    go_wp2_with (first
      | (go_at_call 108; (with_reducible refine (KN.out _).mono ?_); rintro en w1 ⟨rfl, rfl⟩)
      | (go_at_call 133; (with_reducible refine (OF.out _).mono ?_); rintro en w2 ⟨a2, rfl, hN2, hb2⟩)
      | (go_at_call 99; (with_reducible refine (NO.out _ _ _ hN2 (HT.out.below hb2)).mono ?_); rintro en w3 ⟨v3, rfl, hv3, hb3⟩)
      | (go_at_call 126; (with_reducible refine (NU.out _ _ hv3).mono ?_); rintro en w4 ⟨rfl, hb4⟩))
    refine bodyPost_ret (by simp [results, Tryd.results54, go_sem]; try rfl) rfl ?_
    exact ⟨rfl, below_trans (below_trans hb2 hb3) hb4⟩
  · have q1 : IntKind.u64.wrap n = (n.natAbs : Int) := by rw [IntKind.wrap_u64]; omega
    rw [decide_eq_false hn] at NO
    have hd : decide (n < 0) = false := decide_eq_false hn
    have hn2 : 0 ≤ n := by omega
    go_enter Tryd.func54, Tryd.ntmps54
    go_wp2_with (first
      | (go_at_call 108; (with_reducible refine (KN.out _).mono ?_); rintro en w1 ⟨rfl, rfl⟩)
      | (go_at_call 133; (with_reducible refine (OF.out _).mono ?_); rintro en w2 ⟨a2, rfl, hN2, hb2⟩)
      | (go_at_call 99; (with_reducible refine (NO.out _ _ _ hN2 (HT.out.below hb2)).mono ?_); rintro en w3 ⟨v3, rfl, hv3, hb3⟩)
      | (go_at_call 126; (with_reducible refine (NU.out _ _ hv3).mono ?_); rintro en w4 ⟨rfl, hb4⟩))
    refine bodyPost_ret (by simp [results, Tryd.results54, go_sem]; try rfl) rfl ?_
    exact ⟨rfl, below_trans (below_trans hb2 hb3) hb4⟩
end Go.Proofs.YteaakbeemhmciaaDoor
