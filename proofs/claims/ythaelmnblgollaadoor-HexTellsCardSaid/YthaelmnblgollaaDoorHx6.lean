/- The law HexTells walked. -/
import Derived.Test.YthaelmnblgollaaDoorHx5
set_option linter.unusedVariables false
set_option linter.unusedSimpArgs false
namespace Go.Proofs.YthaelmnblgollaaDoor
open Go.RowKit Go.Ulp
set_option linter.unusedVariables false
set_option linter.unusedSimpArgs false
set_option maxHeartbeats 8000000
set_option maxRecDepth 100000
theorem hbetT (n lo hi : Int) (h : lo ≤ n ∧ n ≤ hi) (w : World) : Calls Tryd.prog 8 #[.int .i64 n, .int .i64 lo, .int .i64 hi] w fun e w' => e = .returned (.bool true) ∧ w = w' := by
  have h9 := between_any n lo hi w
  rwa [decide_eq_true h] at h9
theorem hbetF (n lo hi : Int) (h : ¬ (lo ≤ n ∧ n ≤ hi)) (w : World) : Calls Tryd.prog 8 #[.int .i64 n, .int .i64 lo, .int .i64 hi] w fun e w' => e = .returned (.bool false) ∧ w = w' := by
  have h9 := between_any n lo hi w
  rwa [decide_eq_false h] at h9
theorem hexTells_walk (x dg mode : Int) (hx : 0 ≤ x ∧ x ≤ 18446744073709551615) (_hd : -9223372036854775808 ≤ dg ∧ dg ≤ 9223372036854775807) (_hm : -9223372036854775808 ≤ mode ∧ mode ≤ 9223372036854775807) (W : World) (hT : Tab 0 W) (hT10 : Tab10 W) :
    Calls Tryd.prog 3 #[.int .u64 x, .int .i64 dg, .int .i64 mode] W fun e w' => e = .returned (.bool true) ∧ Below W.heap.size W w' := by
  have h0 : 0 ≤ x := hx.1
  have h1 : x < 18446744073709551616 := by omega
  have HT := hid hT
  have HT10 := hid hT10
  have TX := hid (fun w t u => hexText_any x h0 h1 w t u)
  have RX := hid (fun w => rHexText_any x h0 h1 w)
  generalize hexTx x = T0 at *
  by_cases hv : hasVal x = true
  · have HV := hid (show ∀ w, Calls Tryd.prog 7 #[.int .u64 x] w fun e w' => e = .returned (.bool true) ∧ w = w' from fun w => by
      have h9 := hasV_any x h0 h1 w
      rwa [hv] at h9)
    by_cases hm : 0 ≤ mode ∧ mode ≤ 4
    · have B1 := hid (fun w => hbetT mode 0 4 hm w)
      by_cases hdd : 0 ≤ dg ∧ dg ≤ 30
      · have B2 := hid (fun w => hbetT dg 0 30 hdd w)
        obtain ⟨n, rfl⟩ := Int.eq_ofNat_of_zero_le (show 0 ≤ dg by omega)
        have hn30 : n ≤ 30 := by omega
        have FX := hid (fun w t u => hexFixed_ok x mode n h0 h1 hv hm.1 hm.2 (by omega) w t u)
        by_cases hz : (fv x).1 = 0
        · as_aux_lemma =>
          have ZE := hid (show ∀ w, Calls Tryd.prog 9 #[.int .u64 x] w fun e w' => e = .returned (.bool true) ∧ w = w' from fun w => by
            have h9 := hIsZero_any x h0 h1 w
            rwa [decide_eq_true ((zero_class x h0 h1 hv).2 hz)] at h9)
          have SX := hid (show ∀ w, Calls Tryd.prog 10 #[.agg #[.bool false, .slice none 0 0], .int .i64 (n : Int)] w fun e w' => e = .returned (.string (bsOf (List.replicate n 48))) ∧ Below w.heap.size w w' from fun w => by
            have h9 := sixteens_any 0 n (.agg #[.bool false, .slice none 0 0]) w ⟨none, 0, rfl, Nz.nil' none 0 (by decide)⟩ (by decide) (by omega)
            rwa [hxD_zero] at h9)
          obtain ⟨S, hS⟩ : ∃ S : List UInt8, S = 48 :: 120 :: 48 :: (if n = 0 then [] else 46 :: List.replicate n 48) := ⟨_, rfl⟩
          have hSl : S.length ≤ 100 := by rw [hS]; split <;> simp <;> omega
          have e1 : hexFx x n mode = dsh (negB x) (S ++ [112, 43, 48]) := by unfold hexFx; rw [if_pos hz, hS]; rfl
          have e2 : hexFc x n = false := by unfold hexFc; rw [if_pos hz]
          rw [e1, e2] at FX
          have DA := hid (fun w => dashed_any (S ++ [112, 43, 48]) x h0 h1 (by rw [List.length_append]; simp; omega) w)
          have a3 := add_bs (P := Tryd.prog) S [112, 43, 48] (by simp; omega)
          have b3 : (ByteArray.mk #[112, 43, 48]) = bsOf [112, 43, 48] := rfl
          generalize S ++ [112, 43, 48] = SP at *
          generalize dsh (negB x) SP = T1 at *
          have HS := hid hS
          clear e1 e2 hS hT hT10 hv hm hdd hz
          go_enter Tryd.func3, Tryd.ntmps3
          go_upto_if 60 with (first
            | (first | (go_at_call 4; (with_reducible refine (FX.out _ HT.out HT10.out).mono ?_); rintro en w1 ⟨rfl, hb1⟩) | (go_at_call 5; (with_reducible refine (TX.out _ (HT.out.below hb1) (HT10.out.below hb1)).mono ?_); rintro en w2 ⟨rfl, hb2⟩; have y2 := below_trans hb1 hb2) | (go_at_call 6; (with_reducible refine (RX.out _).mono ?_); rintro en w3 ⟨rfl, hb3⟩; have y3 := below_trans y2 hb3) | (go_at_call 7; (with_reducible refine (HV.out _).mono ?_); rintro en w4 ⟨rfl, rfl⟩) | (go_at_call 8; (first | (with_reducible refine (B1.out _).mono ?_) | (with_reducible refine (B2.out _).mono ?_)); rintro en w4 ⟨rfl, rfl⟩))
            | (go_at_call 9; (with_reducible refine (ZE.out _).mono ?_); rintro en w4 ⟨rfl, rfl⟩))
          go_cut [10] (fun s10 wx => s10 = .string (bsOf S) ∧ Below w3.heap.size w3 wx)
          case first => as_aux_lemma =>
            by_cases hn0 : n = 0
            · have hn1 : ¬ 0 < (n : Int) := by omega
              have hn2 : decide (0 < n) = false := decide_eq_false (by omega)
              have HS2 := hid (show S = [48, 120, 48] by rw [HS.out, if_pos hn0])
              clear HS hn0
              go_wp2_with fail
              go_meet
              exact ⟨by rw [HS2.out]; rfl, Below.refl _ _⟩
            · have hn1 : 0 < (n : Int) := by omega
              have hn2 : decide (0 < n) = true := decide_eq_true (by omega)
              have HS2 := hid (show S = [48, 120, 48] ++ ([46] ++ List.replicate n 48) by rw [HS.out, if_neg hn0]; rfl)
              have hl : (List.replicate n (48 : UInt8)).length ≤ 30 := by rw [List.length_replicate]; omega
              generalize List.replicate n (48 : UInt8) = H at *
              have a1 := add_bs (P := Tryd.prog) [46] H (by simp; omega)
              have a2 := add_bs (P := Tryd.prog) [48, 120, 48] ([46] ++ H) (by simp; omega)
              rw [← HS2.out] at a2
              generalize [46] ++ H = H2 at *
              have b1 : (ByteArray.mk #[46]) = bsOf [46] := rfl
              have b2 : (ByteArray.mk #[48, 120, 48]) = bsOf [48, 120, 48] := rfl
              clear HS hn0
              go_wp2_with (go_at_call 10; (with_reducible refine (SX.out _).mono ?_); rintro en w5 ⟨rfl, hb5⟩)
              go_meet
              exact ⟨rfl, hb5⟩
          case rest =>
            obtain ⟨rfl, hbx⟩ := hcut
            have y5 := below_trans y3 hbx
            clear HS hbx
            go_wp2_with (go_at_call 11; (with_reducible refine (DA.out _).mono ?_); rintro en w6 ⟨rfl, rfl⟩)
            go_ret
            exact ⟨rfl, y5⟩
        · as_aux_lemma =>
          have ZE := hid (show ∀ w, Calls Tryd.prog 9 #[.int .u64 x] w fun e w' => e = .returned (.bool false) ∧ w = w' from fun w => by
            have h9 := hIsZero_any x h0 h1 w
            rwa [decide_eq_false (fun h => hz ((zero_class x h0 h1 hv).1 h))] at h9)
          have HF := hid (fun w => hexFixed_any x mode n h0 h1 hv hz hm.1 hm.2 (by omega) w)
          have e1 : hexFx x n mode = hfT x n mode := by unfold hexFx; rw [if_neg hz]
          have e2 : hexFc x n = hfC x n := by unfold hexFc; rw [if_neg hz]
          rw [e1, e2] at FX
          generalize hfT x n mode = T1 at *
          generalize hfC x n = C1 at *
          clear e1 e2 hT hT10 hv hm hdd hz
          go_enter Tryd.func3, Tryd.ntmps3
          go_wp2_with (first
            | (first | (go_at_call 4; (with_reducible refine (FX.out _ HT.out HT10.out).mono ?_); rintro en w1 ⟨rfl, hb1⟩) | (go_at_call 5; (with_reducible refine (TX.out _ (HT.out.below hb1) (HT10.out.below hb1)).mono ?_); rintro en w2 ⟨rfl, hb2⟩; have y2 := below_trans hb1 hb2) | (go_at_call 6; (with_reducible refine (RX.out _).mono ?_); rintro en w3 ⟨rfl, hb3⟩; have y3 := below_trans y2 hb3) | (go_at_call 7; (with_reducible refine (HV.out _).mono ?_); rintro en w4 ⟨rfl, rfl⟩) | (go_at_call 8; (first | (with_reducible refine (B1.out _).mono ?_) | (with_reducible refine (B2.out _).mono ?_)); rintro en w4 ⟨rfl, rfl⟩))
            | (go_at_call 9; (with_reducible refine (ZE.out _).mono ?_); rintro en w4 ⟨rfl, rfl⟩)
            | (go_at_call 12; (with_reducible refine (HF.out _).mono ?_); rintro en w5 ⟨rfl, hb5⟩))
          go_ret
          exact ⟨rfl, below_trans y3 hb5⟩
      · as_aux_lemma =>
        have B2 := hid (fun w => hbetF dg 0 30 hdd w)
        have FX := hid (show ∀ w, Tab 0 w → Tab10 w → Calls Tryd.prog 4 #[.int .u64 x, .int .i64 dg, .int .i64 mode] w fun e w' => e = .returned (.tuple #[.string ⟨#[]⟩, .bool false, .int .i64 1]) ∧ Below w.heap.size w w' from fun w t u => (hexFixed_arg x dg mode h0 h1 hv (fun h => hdd h.2) w).mono fun e w' ⟨k1, k2⟩ => ⟨k1, by rw [k2]; exact Below.refl _ _⟩)
        clear hT hT10 hv hm hdd
        go_enter Tryd.func3, Tryd.ntmps3
        go_wp2_with (first | (go_at_call 4; (with_reducible refine (FX.out _ HT.out HT10.out).mono ?_); rintro en w1 ⟨rfl, hb1⟩) | (go_at_call 5; (with_reducible refine (TX.out _ (HT.out.below hb1) (HT10.out.below hb1)).mono ?_); rintro en w2 ⟨rfl, hb2⟩; have y2 := below_trans hb1 hb2) | (go_at_call 6; (with_reducible refine (RX.out _).mono ?_); rintro en w3 ⟨rfl, hb3⟩; have y3 := below_trans y2 hb3) | (go_at_call 7; (with_reducible refine (HV.out _).mono ?_); rintro en w4 ⟨rfl, rfl⟩) | (go_at_call 8; (first | (with_reducible refine (B1.out _).mono ?_) | (with_reducible refine (B2.out _).mono ?_)); rintro en w4 ⟨rfl, rfl⟩))
        go_ret
        exact ⟨rfl, y3⟩
    · as_aux_lemma =>
      have B1 := hid (fun w => hbetF mode 0 4 hm w)
      have B2 := hid (fun w => hbetF mode 0 4 hm w)
      have FX := hid (show ∀ w, Tab 0 w → Tab10 w → Calls Tryd.prog 4 #[.int .u64 x, .int .i64 dg, .int .i64 mode] w fun e w' => e = .returned (.tuple #[.string ⟨#[]⟩, .bool false, .int .i64 1]) ∧ Below w.heap.size w w' from fun w t u => (hexFixed_arg x dg mode h0 h1 hv (fun h => hm h.1) w).mono fun e w' ⟨k1, k2⟩ => ⟨k1, by rw [k2]; exact Below.refl _ _⟩)
      clear hT hT10 hv hm
      go_enter Tryd.func3, Tryd.ntmps3
      go_wp2_with (first | (go_at_call 4; (with_reducible refine (FX.out _ HT.out HT10.out).mono ?_); rintro en w1 ⟨rfl, hb1⟩) | (go_at_call 5; (with_reducible refine (TX.out _ (HT.out.below hb1) (HT10.out.below hb1)).mono ?_); rintro en w2 ⟨rfl, hb2⟩; have y2 := below_trans hb1 hb2) | (go_at_call 6; (with_reducible refine (RX.out _).mono ?_); rintro en w3 ⟨rfl, hb3⟩; have y3 := below_trans y2 hb3) | (go_at_call 7; (with_reducible refine (HV.out _).mono ?_); rintro en w4 ⟨rfl, rfl⟩) | (go_at_call 8; (first | (with_reducible refine (B1.out _).mono ?_) | (with_reducible refine (B2.out _).mono ?_)); rintro en w4 ⟨rfl, rfl⟩))
      go_ret
      exact ⟨rfl, y3⟩
  · as_aux_lemma =>
    have hv : hasVal x = false := by simpa using hv
    have HV := hid (show ∀ w, Calls Tryd.prog 7 #[.int .u64 x] w fun e w' => e = .returned (.bool false) ∧ w = w' from fun w => by
      have h9 := hasV_any x h0 h1 w
      rwa [hv] at h9)
    have FX := hid (show ∀ w, Tab 0 w → Tab10 w → Calls Tryd.prog 4 #[.int .u64 x, .int .i64 dg, .int .i64 mode] w fun e w' => e = .returned (.tuple #[.string ⟨#[]⟩, .bool false, .int .i64 4]) ∧ Below w.heap.size w w' from fun w t u => (hexFixed_none x dg mode h0 h1 hv w).mono fun e w' ⟨k1, k2⟩ => ⟨k1, by rw [k2]; exact Below.refl _ _⟩)
    have B1 := hid trivial
    have B2 := hid trivial
    clear hT hT10 hv
    go_enter Tryd.func3, Tryd.ntmps3
    go_wp2_with (first | (go_at_call 4; (with_reducible refine (FX.out _ HT.out HT10.out).mono ?_); rintro en w1 ⟨rfl, hb1⟩) | (go_at_call 5; (with_reducible refine (TX.out _ (HT.out.below hb1) (HT10.out.below hb1)).mono ?_); rintro en w2 ⟨rfl, hb2⟩; have y2 := below_trans hb1 hb2) | (go_at_call 6; (with_reducible refine (RX.out _).mono ?_); rintro en w3 ⟨rfl, hb3⟩; have y3 := below_trans y2 hb3) | (go_at_call 7; (with_reducible refine (HV.out _).mono ?_); rintro en w4 ⟨rfl, rfl⟩) | (go_at_call 8; (first | (with_reducible refine (B1.out _).mono ?_) | (with_reducible refine (B2.out _).mono ?_)); rintro en w4 ⟨rfl, rfl⟩))
    go_ret
    exact ⟨rfl, y3⟩
end Go.Proofs.YthaelmnblgollaaDoor
