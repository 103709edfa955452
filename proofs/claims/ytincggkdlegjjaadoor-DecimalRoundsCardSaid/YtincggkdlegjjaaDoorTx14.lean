/- The law DecimalRounds walked. -/
import Derived.Test.YtincggkdlegjjaaDoorTx13
set_option linter.unusedVariables false
set_option linter.unusedSimpArgs false
namespace Go.Proofs.YtincggkdlegjjaaDoor
open Go.RowKit Go.Ulp
set_option linter.unusedVariables false
set_option linter.unusedSimpArgs false
set_option maxHeartbeats 8000000
set_option maxRecDepth 100000
theorem betT (n lo hi : Int) (h : lo ≤ n ∧ n ≤ hi) (w : World) : Calls Tryd.prog 28 #[.int .i64 n, .int .i64 lo, .int .i64 hi] w fun e w' => e = .returned (.bool true) ∧ w = w' := by
  have h9 := between_any n lo hi w
  rwa [decide_eq_true h] at h9
theorem betF (n lo hi : Int) (h : ¬ (lo ≤ n ∧ n ≤ hi)) (w : World) : Calls Tryd.prog 28 #[.int .i64 n, .int .i64 lo, .int .i64 hi] w fun e w' => e = .returned (.bool false) ∧ w = w' := by
  have h9 := between_any n lo hi w
  rwa [decide_eq_false h] at h9
theorem dec_of (x : Int) (h0 : 0 ≤ x) (h1 : x < 18446744073709551616) : ∃ pd : Int, ((fv x).1 ≠ 0 → IsDec (dA (fv x)) (dB (fv x)) pd) ∧ -1200 ≤ pd ∧ pd ≤ 1200 := by
  obtain ⟨d1, d2, d3⟩ := fv_small x h0 h1
  obtain ⟨-, d4, -⟩ := fv_bd x h0 h1
  by_cases hz : (fv x).1 = 0
  · exact ⟨0, fun h => absurd hz h, by omega, by omega⟩
  · obtain ⟨N, hN⟩ : ∃ N, N = 1100 := ⟨_, rfl⟩
    obtain ⟨pd, k1, k2, k3⟩ := dec_exists (dA (fv x)) (dB (fv x)) N (dA_pos _ hz) (dB_pos _) (dA_bits _ d4 d3 N (by omega)) (dB_bits _ d2 N (by omega))
    exact ⟨pd, fun _ => k1, by omega, by omega⟩
theorem decimalRounds_walk (x p dg mode : Int) (hx : 0 ≤ x ∧ x ≤ 18446744073709551615) (_hp : -9223372036854775808 ≤ p ∧ p ≤ 9223372036854775807) (_hd : -9223372036854775808 ≤ dg ∧ dg ≤ 9223372036854775807) (_hm : -9223372036854775808 ≤ mode ∧ mode ≤ 9223372036854775807) (W : World) (hT : Tab 0 W) (hT10 : Tab10 W) :
    Calls Tryd.prog 9 #[.int .u64 x, .int .i64 p, .int .i64 dg, .int .i64 mode] W fun e w' => e = .returned (.bool true) ∧ Below W.heap.size W w' := by
  have h0 : 0 ≤ x := hx.1
  have h1 : x < 18446744073709551616 := by omega
  have HT := hid hT
  have HT10 := hid hT10
  by_cases hv : hasVal x = true
  · have HV := hid (show ∀ w, Calls Tryd.prog 33 #[.int .u64 x] w fun e w' => e = .returned (.bool true) ∧ w = w' from fun w => by
      have h9 := hasV_any x h0 h1 w
      rwa [hv] at h9)
    obtain ⟨pd, hpd, p1, p2⟩ := dec_of x h0 h1
    by_cases hm : 0 ≤ mode ∧ mode ≤ 4
    · have B1 := hid (fun w => betT mode 0 4 hm w)
      by_cases hpp : 0 ≤ p ∧ p ≤ 1100
      · have B2 := hid (fun w => betT p 0 1100 hpp w)
        obtain ⟨q, rfl⟩ := Int.eq_ofNat_of_zero_le hpp.1
        have FX := hid (fun w t u => fixedP_ok x mode q h0 h1 hv hm.1 hm.2 (by omega) w t u)
        have FT := hid (fun w => fixedText_any x mode q h0 h1 hm.1 hm.2 (by omega) w)
        generalize fxT x q mode = T1 at *
        generalize fxC x q = C1 at *
        by_cases hdd : 1 ≤ dg ∧ dg ≤ 800
        · as_aux_lemma =>
          have B3 := hid (fun w => betT dg 1 800 hdd w)
          obtain ⟨d, rfl⟩ := Int.eq_ofNat_of_zero_le (show 0 ≤ dg by omega)
          obtain ⟨k, hk⟩ : ∃ k, d = k + 1 := ⟨d - 1, by omega⟩
          have SX := hid (show ∀ w, Tab 0 w → Tab10 w → Calls Tryd.prog 55 #[.int .u64 x, .int .i64 (d : Int), .int .i64 mode] w fun e w' => e = .returned (.tuple #[.string (bsOf (scT x k pd mode)), .bool (scC x k pd), .int .i64 0]) ∧ Below w.heap.size w w' from fun w t u => by
            have h9 := sciP_ok x mode pd k h0 h1 hv hm.1 hm.2 (by omega) hpd (by omega) w t u
            rwa [show (k : Int) + 1 = (d : Int) by omega] at h9)
          have ST := hid (fun w => sciText_any x mode pd k d hk h0 h1 hv hm.1 hm.2 (by omega) hpd ⟨p1, p2⟩ w)
          generalize scT x k pd mode = T2 at *
          generalize scC x k pd = C2 at *
          clear hT hT10 hv hpd hk hm hpp hdd
          go_enter Tryd.func9, Tryd.ntmps9
          go_wp2_with (first
            | (first | (go_at_call 54; (with_reducible refine (FX.out _ HT.out HT10.out).mono ?_); rintro en w1 ⟨rfl, hb1⟩) | (go_at_call 55; (with_reducible refine (SX.out _ (HT.out.below hb1) (HT10.out.below hb1)).mono ?_); rintro en w2 ⟨rfl, hb2⟩; have y2 := below_trans hb1 hb2) | (go_at_call 33; (with_reducible refine (HV.out _).mono ?_); rintro en w3 ⟨rfl, rfl⟩) | (go_at_call 28; (first | (with_reducible refine (B1.out _).mono ?_) | (with_reducible refine (B2.out _).mono ?_) | (with_reducible refine (B3.out _).mono ?_)); rintro en w3 ⟨rfl, rfl⟩))
            | (go_at_call 56; (with_reducible refine (FT.out _).mono ?_); rintro en w4 ⟨rfl, hb4⟩)
            | (go_at_call 57; (with_reducible refine (ST.out _).mono ?_); rintro en w5 ⟨rfl, hb5⟩))
          go_ret
          exact ⟨rfl, below_trans (below_trans y2 hb4) hb5⟩
        · as_aux_lemma =>
          have B3 := hid (fun w => betF dg 1 800 hdd w)
          have SX := hid (show ∀ w, Tab 0 w → Tab10 w → Calls Tryd.prog 55 #[.int .u64 x, .int .i64 dg, .int .i64 mode] w fun e w' => e = .returned (.tuple #[.string ⟨#[]⟩, .bool false, .int .i64 1]) ∧ Below w.heap.size w w' from fun w t u => (sciP_arg x dg mode h0 h1 hv (fun h => hdd h.2) w).mono fun e w' ⟨k1, k2⟩ => ⟨k1, by rw [k2]; exact Below.refl _ _⟩)
          clear hT hT10 hv hpd hm hpp hdd
          go_enter Tryd.func9, Tryd.ntmps9
          go_wp2_with (first
            | (first | (go_at_call 54; (with_reducible refine (FX.out _ HT.out HT10.out).mono ?_); rintro en w1 ⟨rfl, hb1⟩) | (go_at_call 55; (with_reducible refine (SX.out _ (HT.out.below hb1) (HT10.out.below hb1)).mono ?_); rintro en w2 ⟨rfl, hb2⟩; have y2 := below_trans hb1 hb2) | (go_at_call 33; (with_reducible refine (HV.out _).mono ?_); rintro en w3 ⟨rfl, rfl⟩) | (go_at_call 28; (first | (with_reducible refine (B1.out _).mono ?_) | (with_reducible refine (B2.out _).mono ?_) | (with_reducible refine (B3.out _).mono ?_)); rintro en w3 ⟨rfl, rfl⟩))
            | (go_at_call 56; (with_reducible refine (FT.out _).mono ?_); rintro en w4 ⟨rfl, hb4⟩))
          go_ret
          exact ⟨rfl, below_trans y2 hb4⟩
      · have B2 := hid (fun w => betF p 0 1100 hpp w)
        have FX := hid (show ∀ w, Tab 0 w → Tab10 w → Calls Tryd.prog 54 #[.int .u64 x, .int .i64 p, .int .i64 mode] w fun e w' => e = .returned (.tuple #[.string ⟨#[]⟩, .bool false, .int .i64 1]) ∧ Below w.heap.size w w' from fun w t u => (fixedP_arg x p mode h0 h1 hv (fun h => hpp h.2) w).mono fun e w' ⟨k1, k2⟩ => ⟨k1, by rw [k2]; exact Below.refl _ _⟩)
        by_cases hdd : 1 ≤ dg ∧ dg ≤ 800
        · as_aux_lemma =>
          have B3 := hid (fun w => betT dg 1 800 hdd w)
          obtain ⟨d, rfl⟩ := Int.eq_ofNat_of_zero_le (show 0 ≤ dg by omega)
          obtain ⟨k, hk⟩ : ∃ k, d = k + 1 := ⟨d - 1, by omega⟩
          have SX := hid (show ∀ w, Tab 0 w → Tab10 w → Calls Tryd.prog 55 #[.int .u64 x, .int .i64 (d : Int), .int .i64 mode] w fun e w' => e = .returned (.tuple #[.string (bsOf (scT x k pd mode)), .bool (scC x k pd), .int .i64 0]) ∧ Below w.heap.size w w' from fun w t u => by
            have h9 := sciP_ok x mode pd k h0 h1 hv hm.1 hm.2 (by omega) hpd (by omega) w t u
            rwa [show (k : Int) + 1 = (d : Int) by omega] at h9)
          have ST := hid (fun w => sciText_any x mode pd k d hk h0 h1 hv hm.1 hm.2 (by omega) hpd ⟨p1, p2⟩ w)
          generalize scT x k pd mode = T2 at *
          generalize scC x k pd = C2 at *
          clear hT hT10 hv hpd hk hm hpp hdd
          go_enter Tryd.func9, Tryd.ntmps9
          go_wp2_with (first
            | (first | (go_at_call 54; (with_reducible refine (FX.out _ HT.out HT10.out).mono ?_); rintro en w1 ⟨rfl, hb1⟩) | (go_at_call 55; (with_reducible refine (SX.out _ (HT.out.below hb1) (HT10.out.below hb1)).mono ?_); rintro en w2 ⟨rfl, hb2⟩; have y2 := below_trans hb1 hb2) | (go_at_call 33; (with_reducible refine (HV.out _).mono ?_); rintro en w3 ⟨rfl, rfl⟩) | (go_at_call 28; (first | (with_reducible refine (B1.out _).mono ?_) | (with_reducible refine (B2.out _).mono ?_) | (with_reducible refine (B3.out _).mono ?_)); rintro en w3 ⟨rfl, rfl⟩))
            | (go_at_call 57; (with_reducible refine (ST.out _).mono ?_); rintro en w5 ⟨rfl, hb5⟩))
          go_ret
          exact ⟨rfl, below_trans y2 hb5⟩
        · as_aux_lemma =>
          have B3 := hid (fun w => betF dg 1 800 hdd w)
          have SX := hid (show ∀ w, Tab 0 w → Tab10 w → Calls Tryd.prog 55 #[.int .u64 x, .int .i64 dg, .int .i64 mode] w fun e w' => e = .returned (.tuple #[.string ⟨#[]⟩, .bool false, .int .i64 1]) ∧ Below w.heap.size w w' from fun w t u => (sciP_arg x dg mode h0 h1 hv (fun h => hdd h.2) w).mono fun e w' ⟨k1, k2⟩ => ⟨k1, by rw [k2]; exact Below.refl _ _⟩)
          clear hT hT10 hv hpd hm hpp hdd
          go_enter Tryd.func9, Tryd.ntmps9
          go_wp2_with (first | (go_at_call 54; (with_reducible refine (FX.out _ HT.out HT10.out).mono ?_); rintro en w1 ⟨rfl, hb1⟩) | (go_at_call 55; (with_reducible refine (SX.out _ (HT.out.below hb1) (HT10.out.below hb1)).mono ?_); rintro en w2 ⟨rfl, hb2⟩; have y2 := below_trans hb1 hb2) | (go_at_call 33; (with_reducible refine (HV.out _).mono ?_); rintro en w3 ⟨rfl, rfl⟩) | (go_at_call 28; (first | (with_reducible refine (B1.out _).mono ?_) | (with_reducible refine (B2.out _).mono ?_) | (with_reducible refine (B3.out _).mono ?_)); rintro en w3 ⟨rfl, rfl⟩))
          go_ret
          exact ⟨rfl, y2⟩
    · as_aux_lemma =>
      have B1 := hid (fun w => betF mode 0 4 hm w)
      have B2 := hid (fun w => betF mode 0 4 hm w)
      have B3 := hid (fun w => betF mode 0 4 hm w)
      have FX := hid (show ∀ w, Tab 0 w → Tab10 w → Calls Tryd.prog 54 #[.int .u64 x, .int .i64 p, .int .i64 mode] w fun e w' => e = .returned (.tuple #[.string ⟨#[]⟩, .bool false, .int .i64 1]) ∧ Below w.heap.size w w' from fun w t u => (fixedP_arg x p mode h0 h1 hv (fun h => hm h.1) w).mono fun e w' ⟨k1, k2⟩ => ⟨k1, by rw [k2]; exact Below.refl _ _⟩)
      have SX := hid (show ∀ w, Tab 0 w → Tab10 w → Calls Tryd.prog 55 #[.int .u64 x, .int .i64 dg, .int .i64 mode] w fun e w' => e = .returned (.tuple #[.string ⟨#[]⟩, .bool false, .int .i64 1]) ∧ Below w.heap.size w w' from fun w t u => (sciP_arg x dg mode h0 h1 hv (fun h => hm h.1) w).mono fun e w' ⟨k1, k2⟩ => ⟨k1, by rw [k2]; exact Below.refl _ _⟩)
      clear hT hT10 hv hpd hm
      go_enter Tryd.func9, Tryd.ntmps9
      go_wp2_with (first | (go_at_call 54; (with_reducible refine (FX.out _ HT.out HT10.out).mono ?_); rintro en w1 ⟨rfl, hb1⟩) | (go_at_call 55; (with_reducible refine (SX.out _ (HT.out.below hb1) (HT10.out.below hb1)).mono ?_); rintro en w2 ⟨rfl, hb2⟩; have y2 := below_trans hb1 hb2) | (go_at_call 33; (with_reducible refine (HV.out _).mono ?_); rintro en w3 ⟨rfl, rfl⟩) | (go_at_call 28; (first | (with_reducible refine (B1.out _).mono ?_) | (with_reducible refine (B2.out _).mono ?_) | (with_reducible refine (B3.out _).mono ?_)); rintro en w3 ⟨rfl, rfl⟩))
      go_ret
      exact ⟨rfl, y2⟩
  · as_aux_lemma =>
    have hv : hasVal x = false := by simpa using hv
    have HV := hid (show ∀ w, Calls Tryd.prog 33 #[.int .u64 x] w fun e w' => e = .returned (.bool false) ∧ w = w' from fun w => by
      have h9 := hasV_any x h0 h1 w
      rwa [hv] at h9)
    have FX := hid (show ∀ w, Tab 0 w → Tab10 w → Calls Tryd.prog 54 #[.int .u64 x, .int .i64 p, .int .i64 mode] w fun e w' => e = .returned (.tuple #[.string ⟨#[]⟩, .bool false, .int .i64 4]) ∧ Below w.heap.size w w' from fun w t u => (fixedP_none x p mode h0 h1 hv w).mono fun e w' ⟨k1, k2⟩ => ⟨k1, by rw [k2]; exact Below.refl _ _⟩)
    have SX := hid (show ∀ w, Tab 0 w → Tab10 w → Calls Tryd.prog 55 #[.int .u64 x, .int .i64 dg, .int .i64 mode] w fun e w' => e = .returned (.tuple #[.string ⟨#[]⟩, .bool false, .int .i64 4]) ∧ Below w.heap.size w w' from fun w t u => (sciP_none x dg mode h0 h1 hv w).mono fun e w' ⟨k1, k2⟩ => ⟨k1, by rw [k2]; exact Below.refl _ _⟩)
    have B1 := hid trivial
    have B2 := hid trivial
    have B3 := hid trivial
    clear hT hT10 hv
    go_enter Tryd.func9, Tryd.ntmps9
    go_wp2_with (first | (go_at_call 54; (with_reducible refine (FX.out _ HT.out HT10.out).mono ?_); rintro en w1 ⟨rfl, hb1⟩) | (go_at_call 55; (with_reducible refine (SX.out _ (HT.out.below hb1) (HT10.out.below hb1)).mono ?_); rintro en w2 ⟨rfl, hb2⟩; have y2 := below_trans hb1 hb2) | (go_at_call 33; (with_reducible refine (HV.out _).mono ?_); rintro en w3 ⟨rfl, rfl⟩) | (go_at_call 28; (first | (with_reducible refine (B1.out _).mono ?_) | (with_reducible refine (B2.out _).mono ?_) | (with_reducible refine (B3.out _).mono ?_)); rintro en w3 ⟨rfl, rfl⟩))
    go_ret
    exact ⟨rfl, y2⟩
end Go.Proofs.YtincggkdlegjjaaDoor
