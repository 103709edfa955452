/- hex.Text, hex.Fixed, HexText; the law HexTells. -/
import Derived.Test.YthaelmnblgollaaDoorHx4
set_option linter.unusedVariables false
set_option linter.unusedSimpArgs false
namespace Go.Ulp
open Go.RowKit
/-- a number's text in sixteens -/
def hexTx (x : Int) : List UInt8 := if classOf x = 5 then [110, 97, 110] else if classOf x = 4 then dsh (negB x) [105, 110, 102] else if (fv x).1 = 0 then dsh (negB x) [48, 120, 48, 112, 43, 48] else hfT x (hfN (fv x)) 3
/-- with so many digits -/
def hexFx (x : Int) (n : Nat) (mode : Int) : List UInt8 := if (fv x).1 = 0 then hxZ (negB x) n else hfT x n mode
def hexFc (x : Int) (n : Nat) : Bool := if (fv x).1 = 0 then false else hfC x n
theorem fv_z_iff (x : Int) : (fv x).1 = 0 ↔ mantOf x = 0 := by
  unfold fv
  rw [nrm_zero_iff]
  unfold sg
  split <;> omega
theorem fv_zero_pair (x : Int) (h : (fv x).1 = 0) : fv x = (0, 0) := by
  rcases nrm_isN (sg (negB x) (mantOf x)) (dexp x) with ⟨h1, h2⟩ | h2
  · exact Prod.ext h1 h2
  · have h : (nrm (sg (negB x) (mantOf x)) (dexp x)).1 = 0 := h
    rw [h] at h2; simp at h2
def Fact.hmp (D : Dy) (ch : Bool) : Fact := ⟨fun v w => ∃ u, v = .tuple #[u, .bool ch] ∧ VD w D u, fun _ _ _ h hb => by
  obtain ⟨u, h1, h2⟩ := h
  exact ⟨u, h1, h2.below hb⟩⟩
theorem cutN_le_h (neg : Bool) (M : Nat) (j mode : Int) (h : 0 < j) : cutN neg M j mode ≤ M + 1 := by
  unfold cutN
  rw [if_neg (by omega)]
  have := Nat.div_le_self M (2 ^ j.toNat)
  split <;> omega
end Go.Ulp
namespace Go.Proofs.YthaelmnblgollaaDoor
open Go.RowKit Go.Ulp
set_option linter.unusedVariables false
set_option linter.unusedSimpArgs false
set_option maxHeartbeats 2000000
set_option maxRecDepth 100000
theorem hKnown_any (mode : Int) (w : World) : Calls Tryd.prog 14 #[.int .i64 mode] w fun e w' => e = .returned (.bool (decide (0 ≤ mode ∧ mode ≤ 4))) ∧ w = w' := by
  obtain ⟨K, hK⟩ : ∃ K, K = decide (0 ≤ mode ∧ mode ≤ 4) := ⟨_, rfl⟩
  rw [← hK]
  by_cases h : 0 ≤ mode
  · have HC := hid (show decide (mode ≤ 4) = K by rw [hK, decide_eq_decide]; omega)
    clear hK
    go_enter Tryd.func14, Tryd.ntmps14
    go_wp2_with fail
    go_ret
    exact ⟨ret_bool HC.out, rfl⟩
  · have HC := hid (show false = K by rw [hK, eq_comm]; exact decide_eq_false (by omega))
    clear hK
    go_enter Tryd.func14, Tryd.ntmps14
    go_wp2_with fail
    go_ret
    exact ⟨ret_bool HC.out, rfl⟩
theorem hIsNan_any (x : Int) (h0 : 0 ≤ x) (h1 : x < 18446744073709551616) (w : World) : Calls Tryd.prog 20 #[.int .u64 x] w fun e w' => e = .returned (.bool (decide (classOf x = 5))) ∧ w = w' := by
  have CL := hid (fun w => classOf_any x h0 h1 w)
  have HC := hid (show (classOf x == 5) = decide (classOf x = 5) from rfl)
  generalize classOf x = c at *
  go_enter Tryd.func20, Tryd.ntmps20
  go_wp2_with (go_at_call 22; (with_reducible refine (CL.out _).mono ?_); rintro en w1 ⟨rfl, rfl⟩)
  go_ret
  exact ⟨ret_bool HC.out, rfl⟩
theorem hIsInf_any (x : Int) (h0 : 0 ≤ x) (h1 : x < 18446744073709551616) (w : World) : Calls Tryd.prog 21 #[.int .u64 x] w fun e w' => e = .returned (.bool (decide (classOf x = 4))) ∧ w = w' := by
  have CL := hid (fun w => classOf_any x h0 h1 w)
  have HC := hid (show (classOf x == 4) = decide (classOf x = 4) from rfl)
  generalize classOf x = c at *
  go_enter Tryd.func21, Tryd.ntmps21
  go_wp2_with (go_at_call 22; (with_reducible refine (CL.out _).mono ?_); rintro en w1 ⟨rfl, rfl⟩)
  go_ret
  exact ⟨ret_bool HC.out, rfl⟩
theorem hIsZero_any (x : Int) (h0 : 0 ≤ x) (h1 : x < 18446744073709551616) (w : World) : Calls Tryd.prog 9 #[.int .u64 x] w fun e w' => e = .returned (.bool (decide (classOf x = 1))) ∧ w = w' := by
  have CL := hid (fun w => classOf_any x h0 h1 w)
  have HC := hid (show (classOf x == 1) = decide (classOf x = 1) from rfl)
  generalize classOf x = c at *
  go_enter Tryd.func9, Tryd.ntmps9
  go_wp2_with (go_at_call 22; (with_reducible refine (CL.out _).mono ?_); rintro en w1 ⟨rfl, rfl⟩)
  go_ret
  exact ⟨ret_bool HC.out, rfl⟩
theorem zero_class (x : Int) (h0 : 0 ≤ x) (h1 : x < 18446744073709551616) (hv : hasVal x = true) : classOf x = 1 ↔ (fv x).1 = 0 := by
  have a := class_val x h0 h1
  unfold hasVal at hv
  unfold absOf at a
  have hv := of_decide_eq_true hv
  rw [fv_z_iff]
  unfold classOf mantOf
  have : 0 ≤ fracOf x := by unfold fracOf; omega
  have he : expOf x ≠ 2047 := by unfold expOf; omega
  rw [if_neg he]
  split
  · omega
  · split <;> omega
/-- HexText of the reference -/
theorem rHexText_any (x : Int) (h0 : 0 ≤ x) (h1 : x < 18446744073709551616) (w : World) :
    Calls Tryd.prog 6 #[.int .u64 x] w fun e w' => e = .returned (.string (bsOf (hexTx x))) ∧ Below w.heap.size w w' := by
  have NA := hid (fun w => hIsNan_any x h0 h1 w)
  have IN := hid (fun w => hIsInf_any x h0 h1 w)
  have ZE := hid (fun w => hIsZero_any x h0 h1 w)
  have DA := hid (show ∀ L : List UInt8, L.length ≤ 1000000 → ∀ w, Calls Tryd.prog 11 #[.string (bsOf L), .int .u64 x] w fun e w' => e = .returned (.string (bsOf (dsh (negB x) L))) ∧ w = w' from fun L hL w => dashed_any L x h0 h1 (by omega) w)
  have D1 := hid (fun w => DA.out [105, 110, 102] (by decide) w)
  have D2 := hid (fun w => DA.out [48, 120, 48, 112, 43, 48] (by decide) w)
  have b1 : (ByteArray.mk #[105, 110, 102]) = bsOf [105, 110, 102] := rfl
  have b2 : (ByteArray.mk #[48, 120, 48, 112, 43, 48]) = bsOf [48, 120, 48, 112, 43, 48] := rfl
  have b3 : (ByteArray.mk #[110, 97, 110]) = bsOf [110, 97, 110] := rfl
  by_cases c5 : classOf x = 5
  · have HR := hid (show hexTx x = [110, 97, 110] by unfold hexTx; rw [if_pos c5])
    rw [decide_eq_true c5] at NA
    clear c5 h0 h1
    generalize hexTx x = T at *
    go_enter Tryd.func6, Tryd.ntmps6
    go_wp2_with (go_at_call 20; (with_reducible refine (NA.out _).mono ?_); rintro en w1 ⟨rfl, rfl⟩)
    go_ret
    exact ⟨by rw [HR.out]; rfl, Below.refl _ _⟩
  rw [decide_eq_false c5] at NA
  by_cases c4 : classOf x = 4
  · have HR := hid (show hexTx x = dsh (negB x) [105, 110, 102] by unfold hexTx; rw [if_neg c5, if_pos c4])
    rw [decide_eq_true c4] at IN
    clear c5 c4 h0 h1
    generalize hexTx x = T at *
    generalize negB x = ng at *
    go_enter Tryd.func6, Tryd.ntmps6
    go_wp2_with (first
      | (go_at_call 20; (with_reducible refine (NA.out _).mono ?_); rintro en w1 ⟨rfl, rfl⟩)
      | (go_at_call 21; (with_reducible refine (IN.out _).mono ?_); rintro en w2 ⟨rfl, rfl⟩)
      | (go_at_call 11; (with_reducible refine (D1.out _).mono ?_); rintro en w3 ⟨rfl, rfl⟩))
    go_ret
    exact ⟨by rw [HR.out]; rfl, Below.refl _ _⟩
  rw [decide_eq_false c4] at IN
  have hv : hasVal x = true := by
    have a := class_val x h0 h1
    have : classOf x ≤ 5 := by unfold classOf; split <;> split <;> (try split) <;> omega
    unfold hasVal
    unfold absOf at a
    exact decide_eq_true (by omega)
  by_cases hz : (fv x).1 = 0
  · have HR := hid (show hexTx x = dsh (negB x) [48, 120, 48, 112, 43, 48] by unfold hexTx; rw [if_neg c5, if_neg c4, if_pos hz])
    rw [decide_eq_true ((zero_class x h0 h1 hv).2 hz)] at ZE
    clear c5 c4 h0 h1 hz hv
    generalize hexTx x = T at *
    generalize negB x = ng at *
    go_enter Tryd.func6, Tryd.ntmps6
    go_wp2_with (first
      | (go_at_call 20; (with_reducible refine (NA.out _).mono ?_); rintro en w1 ⟨rfl, rfl⟩)
      | (go_at_call 21; (with_reducible refine (IN.out _).mono ?_); rintro en w2 ⟨rfl, rfl⟩)
      | (go_at_call 9; (with_reducible refine (ZE.out _).mono ?_); rintro en w2 ⟨rfl, rfl⟩)
      | (go_at_call 11; (with_reducible refine (D2.out _).mono ?_); rintro en w3 ⟨rfl, rfl⟩))
    go_ret
    exact ⟨by rw [HR.out]; rfl, Below.refl _ _⟩
  · have HR := hid (show hexTx x = hfT x (hfN (fv x)) 3 by unfold hexTx; rw [if_neg c5, if_neg c4, if_neg hz])
    rw [decide_eq_false (fun h => hz ((zero_class x h0 h1 hv).1 h))] at ZE
    obtain ⟨-, d4, -⟩ := fv_bd x h0 h1
    have hN : hfN (fv x) ≤ 20 := by
      have := (bl_le (fv x).1.natAbs 53).2 d4
      unfold hfN; omega
    have HF := hid (fun n (hn : n ≤ 1000) w => hexFixed_any x 3 n h0 h1 hv hz (by omega) (by omega) hn w)
    have HC := hid (show ∀ n, n ≤ hfN (fv x) → hfC x n = decide (n < hfN (fv x)) from fun n hn => by
      unfold hfC
      rw [hfC_iff (fv x) n (fv_isNh x) hz, decide_eq_decide]
      have := (bl_pos (fv x).1.natAbs).2 (by omega)
      unfold hfN at hn ⊢
      omega)
    obtain ⟨N, hNN⟩ : ∃ N, N = hfN (fv x) := ⟨_, rfl⟩
    rw [← hNN] at hN HC HR
    clear c5 c4 h0 h1 hz hv d4 hNN
    generalize hexTx x = T at *
    generalize negB x = ng at *
    go_enter Tryd.func6, Tryd.ntmps6
    go_wp2_with (first
      | (go_at_call 20; (with_reducible refine (NA.out _).mono ?_); rintro en w1 ⟨rfl, rfl⟩)
      | (go_at_call 21; (with_reducible refine (IN.out _).mono ?_); rintro en w2 ⟨rfl, rfl⟩)
      | (go_at_call 9; (with_reducible refine (ZE.out _).mono ?_); rintro en w2 ⟨rfl, rfl⟩))
    go_loopw [3, 4, 5] (fun s3 s4 s5 wr => ∃ n : Nat, n ≤ N ∧ s3 = .int .i64 (n : Int) ∧ Below w.heap.size w wr) (fun s3 _ _ _ => N - (intOf s3).toNat)
    case atStart => exact ⟨0, by omega, rfl, Below.refl _ _⟩
    case round =>
      obtain ⟨n, hn, rfl, yr⟩ := hrel
      have HF1 := hid (fun w => HF.out n (by omega) w)
      have hC := HC.out n hn
      by_cases hlt : n < N
      · rw [hC, decide_eq_true hlt] at HF1
        clear hC HF HC
        go_wp2_with (go_at_call 12; (with_reducible refine (HF1.out _).mono ?_); rintro en w4 ⟨rfl, hb4⟩)
        go_roundw
        case rel => exact ⟨n + 1, by omega, by go_num, below_trans yr hb4⟩
        case measure => first | (simp [intOf]; done) | (simp [intOf]; omega)
      · have hnN : n = N := by omega
        subst hnN
        rw [hC, decide_eq_false hlt] at HF1
        clear hC HF HC
        go_wp2_with (go_at_call 12; (with_reducible refine (HF1.out _).mono ?_); rintro en w4 ⟨rfl, hb4⟩)
        go_ret
        exact ⟨by rw [HR.out]; rfl, below_trans yr hb4⟩
/-- hex.Text -/
theorem hexText_any (x : Int) (h0 : 0 ≤ x) (h1 : x < 18446744073709551616) (w : World) (hT : Tab 0 w) (hT10 : Tab10 w) :
    Calls Tryd.prog 5 #[.int .u64 x] w fun e w' => e = .returned (.string (bsOf (hexTx x))) ∧ Below w.heap.size w w' := by
  have CL := hid (fun w => class_any x h0 h1 w)
  have b1 : (ByteArray.mk #[105, 110, 102]) = bsOf [105, 110, 102] := rfl
  have b2 : (ByteArray.mk #[45, 105, 110, 102]) = bsOf [45, 105, 110, 102] := rfl
  have b3 : (ByteArray.mk #[110, 97, 110]) = bsOf [110, 97, 110] := rfl
  by_cases c5 : classOf x = 5
  · have HR := hid (show hexTx x = [110, 97, 110] by unfold hexTx; rw [if_pos c5])
    rw [c5] at CL
    clear c5 h0 h1 hT hT10
    generalize hexTx x = T at *
    go_enter Tryd.func5, Tryd.ntmps5
    go_wp2_with (go_at_call 19; (with_reducible refine (CL.out _).mono ?_); rintro en w1 ⟨rfl, rfl⟩)
    go_ret
    exact ⟨by rw [HR.out]; rfl, Below.refl _ _⟩
  by_cases c4 : classOf x = 4
  · have HR := hid (show hexTx x = dsh (negB x) [105, 110, 102] by unfold hexTx; rw [if_neg c5, if_pos c4])
    rw [c4] at CL
    by_cases hx : 9223372036854775808 ≤ x
    · have hs : x / 9223372036854775808 = 1 := by omega
      have HR2 := hid (show hexTx x = [45, 105, 110, 102] by rw [HR.out, show negB x = true from decide_eq_true hx]; rfl)
      clear c5 c4 HR hT hT10
      generalize hexTx x = T at *
      go_enter Tryd.func5, Tryd.ntmps5
      go_wp2_with (go_at_call 19; (with_reducible refine (CL.out _).mono ?_); rintro en w1 ⟨rfl, rfl⟩)
      go_ret
      exact ⟨by rw [HR2.out]; rfl, Below.refl _ _⟩
    · have hs : x / 9223372036854775808 = 0 := by omega
      have HR2 := hid (show hexTx x = [105, 110, 102] by rw [HR.out, show negB x = false from decide_eq_false hx]; rfl)
      clear c5 c4 HR hT hT10
      generalize hexTx x = T at *
      go_enter Tryd.func5, Tryd.ntmps5
      go_wp2_with (go_at_call 19; (with_reducible refine (CL.out _).mono ?_); rintro en w1 ⟨rfl, rfl⟩)
      go_ret
      exact ⟨by rw [HR2.out]; rfl, Below.refl _ _⟩
  have hv : hasVal x = true := by
    have a := class_val x h0 h1
    have : classOf x ≤ 5 := by unfold classOf; split <;> split <;> (try split) <;> omega
    unfold hasVal
    unfold absOf at a
    exact decide_eq_true (by omega)
  obtain ⟨d1, d2, d3⟩ := fv_small_h x h0 h1
  obtain ⟨-, d4, -⟩ := fv_bd x h0 h1
  have VA := hid (fun w t => value_any x h0 h1 w t)
  have hbl := (bl_le (fv x).1.natAbs 53).2 d4
  obtain ⟨B, hB⟩ : ∃ B, B = max (bl (fv x).1.natAbs) 1 := ⟨_, rfl⟩
  obtain ⟨n, hn⟩ : ∃ n, n = (B - 1 + 3) / 4 := ⟨_, rfl⟩
  have WR := hid (show ∀ v w, VD w (fv x) v → Tab10 w → Calls Tryd.prog 18 #[.int .u64 x, v, .int .i64 (n : Int)] w fun e w' => e = .returned (.string (bsOf (hexTx x))) ∧ Below w.heap.size w w' from fun v w hv9 ht => by
    by_cases hz : (fv x).1 = 0
    · have e : hexTx x = hxZ (negB x) n := by
        have : n = 0 := by rw [hn, hB, hz]; rfl
        rw [this]
        unfold hexTx; rw [if_neg c5, if_neg c4, if_pos hz]; rfl
      rw [e]
      exact writeZ_any x h0 h1 v (fv x) n w hv9 hz (by omega)
    · have hbp := (bl_pos (fv x).1.natAbs).2 (by omega)
      have hnN : n = hfN (fv x) := by rw [hn, hB]; unfold hfN; congr 2; omega
      have hE := hfD_self (fv x) n 3 (fv_isNh x) (by omega)
      have e : hexTx x = hxT (negB x) n (hfM (fv x) n) (hfK (fv x)) := by
        unfold hexTx; rw [if_neg c5, if_neg c4, if_neg hz, ← hnN]
        unfold hfT; rw [hE]
      rw [e]
      have hKD : hfK (fv x) = (bl (fv x).1.natAbs : Int) + (fv x).2 - 1 := rfl
      have hs0 : 0 ≤ (fv x).2 - hfK (fv x) + 4 * (n : Int) := by omega
      exact write_any x h0 h1 v (fv x) n (hfK (fv x)) ((fv x).2 - hfK (fv x) + 4 * (n : Int)).toNat (hfM (fv x) n) w hv9 hz (by omega) (by omega) (by omega) hKD (by omega) rfl ht)
  have LN := hid (fun a c w h => natLen_any a c (fv x).1.natAbs w h (by omega))
  generalize hexTx x = T at *
  generalize fv x = D at *
  obtain ⟨M, hM⟩ : ∃ M, M = D.1.natAbs := ⟨_, rfl⟩
  obtain ⟨b, hb9⟩ : ∃ b, b = bl M := ⟨_, rfl⟩
  rw [← hM] at LN hbl hB
  have HM := hid hM
  clear hM
  rw [← hb9] at LN hbl hB
  have hmx : max (b : Int) 1 = (B : Int) := by omega
  have hw1 : IntKind.i64.wrap ((B : Int) - 1) = (B : Int) - 1 := IntWalk.i64_in _ (by omega)
  have hw2 : IntKind.i64.wrap ((B : Int) - 1 + 3) = (B : Int) - 1 + 3 := IntWalk.i64_in _ (by omega)
  have hq : ((B : Int) - 1 + 3).tdiv 4 = (n : Int) := by rw [Int.tdiv_eq_ediv_of_nonneg (by omega)]; omega
  have hq2 : ((B : Int) - 1 + 3) / 4 = (n : Int) := by omega
  have hwn : IntKind.i64.wrap (n : Int) = (n : Int) := IntWalk.i64_in _ (by omega)
  have h85 : classOf x ≠ 5 := c5
  generalize classOf x = c at *
  have HT := hid hT
  have HT10 := hid hT10
  clear hT hT10 hv hb9 hB hn
  go_enter Tryd.func5, Tryd.ntmps5
  go_upto_region 9 with (first
    | (go_at_call 19; (with_reducible refine (CL.out _).mono ?_); rintro en w1 ⟨rfl, rfl⟩)
    | (go_at_call 15; (with_reducible refine (VA.out _ HT.out).mono ?_); rintro en w2 ⟨v3, rfl, ⟨a3, c3, rfl, hN3⟩, hb2⟩))
  rw [← HM.out] at hN3 ⊢
  refine wp_worldZ (fun WW => Below w.heap.size w WW ∧ QL 40 WW w2.heap.size (decide (D.1 < 0)) (.slice a3 (limbs M).length c3) D.2 ∧ Ns .u32 WW a3 c3 (limbs M)) ⟨below_trans hb2 (below_alloc _ _), QL.made rfl, hN3.below (below_alloc _ _)⟩ ?_
  intro W1 ⟨y1, q3, n3⟩
  obtain ⟨g3, hg3⟩ : ∃ g, g = w2.heap.size := ⟨_, rfl⟩
  rw [← hg3] at q3 ⊢
  clear hg3 hN3 hb2 VA
  refine wp_region_grow 11 [15, 16, 17, 18, 19, 20, 21, 22, 23, 24, 2] [Fact.is (.int .u64 x), Fact.is (.agg #[.bool (decide (D.1 < 0)), .slice a3 (limbs M).length c3, .int .i64 D.2]), Fact.is (.pointer (some ⟨g3, 1, none⟩)), Fact.is (.slice a3 (limbs M).length c3), Fact.is (.int .i64 (b : Int)), Fact.is (.int .i64 (B : Int)), Fact.is (.int .i64 ((B : Int) - 1)), Fact.is (.int .i64 ((B : Int) - 1 + 3)), Fact.is (.int .i64 (n : Int)), Fact.is (.string (bsOf T)), Fact.is (.string (bsOf T))] (by kernel_rfl) (by kernel_rfl) ⟨?o0, ?o1, ?o2, ?o3, ?o4, ?o5, ?o6, ?o7, ?o8, ?o9, ?o10, trivial⟩ ?after
  case o0 => (refine StepOK.plain rfl ?_; intro ρ w1 R hρ hb hp hR; have e0 : ρ (.tmp 0) = .int .u64 x := hρ.tmp 0 rfl; have hcon := hρ.con; have hfn := hρ.fn; clear hρ hp; unfold OpRun; go_simp; exact hR _ _ (Below.refl _ _) rfl)
  case o1 => (refine StepOK.plain rfl ?_; intro ρ w1 R hρ hb hp hR; have e3 : ρ (.tmp 3) = .pointer (some ⟨g3, 0, none⟩) := hρ.tmp 3 rfl; obtain ⟨⟨j0, j1, -⟩, j2, -⟩ := q3.below hb; have hcon := hρ.con; have hfn := hρ.fn; clear hρ hp; unfold OpRun; go_simp; exact hR _ _ (Below.refl _ _) rfl)
  case o2 => (refine StepOK.plain rfl ?_; intro ρ w1 R hρ hb hp hR; have e3 : ρ (.tmp 3) = .pointer (some ⟨g3, 0, none⟩) := hρ.tmp 3 rfl; have hcon := hρ.con; have hfn := hρ.fn; clear hρ hp; unfold OpRun; go_simp; exact hR _ _ (Below.refl _ _) rfl)
  case o3 => (refine StepOK.plain rfl ?_; intro ρ w1 R hρ hb hp hR; have e17 : ρ (.tmp 17) = _ := hp 2 17 rfl rfl; obtain ⟨⟨j0, j1, -⟩, j2, -⟩ := q3.below hb; have hcon := hρ.con; have hfn := hρ.fn; clear hρ hp; unfold OpRun; go_simp; exact hR _ _ (Below.refl _ _) rfl)
  case o4 => (refine StepOK.plain rfl ?_; intro ρ w1 R hρ hb hp hR; have e18 : ρ (.tmp 18) = _ := hp 3 18 rfl rfl; have hcon := hρ.con; have hfn := hρ.fn; clear hρ hp; unfold OpRun; go_simp; (refine (LN.out _ _ _ (n3.below hb)).mono ?_; rintro e wn ⟨rfl, rfl⟩; exact ⟨_, rfl, hR _ _ (Below.refl _ _) rfl⟩))
  case o5 => (refine StepOK.plain rfl ?_; intro ρ w1 R hρ hb hp hR; have e19 : ρ (.tmp 19) = _ := hp 4 19 rfl rfl; have hcon := hρ.con; have hfn := hρ.fn; clear hρ hp; unfold OpRun; go_simp; exact hR _ _ (Below.refl _ _) rfl)
  case o6 => (refine StepOK.plain rfl ?_; intro ρ w1 R hρ hb hp hR; have e20 : ρ (.tmp 20) = _ := hp 5 20 rfl rfl; have hcon := hρ.con; have hfn := hρ.fn; clear hρ hp; unfold OpRun; go_simp; exact hR _ _ (Below.refl _ _) rfl)
  case o7 => (refine StepOK.plain rfl ?_; intro ρ w1 R hρ hb hp hR; have e21 : ρ (.tmp 21) = _ := hp 6 21 rfl rfl; have hcon := hρ.con; have hfn := hρ.fn; clear hρ hp; unfold OpRun; go_simp; exact hR _ _ (Below.refl _ _) rfl)
  case o8 => (refine StepOK.plain rfl ?_; intro ρ w1 R hρ hb hp hR; have e22 : ρ (.tmp 22) = _ := hp 7 22 rfl rfl; have hcon := hρ.con; have hfn := hρ.fn; clear hρ hp; unfold OpRun; go_simp; exact hR _ _ (Below.refl _ _) rfl)
  case o9 => (refine StepOK.plain rfl ?_; intro ρ w1 R hρ hb hp hR; have e15 : ρ (.tmp 15) = _ := hp 0 15 rfl rfl; have e16 : ρ (.tmp 16) = _ := hp 1 16 rfl rfl; have e23 : ρ (.tmp 23) = _ := hp 8 23 rfl rfl; have hcon := hρ.con; have hfn := hρ.fn; clear hρ hp; unfold OpRun; go_simp; (refine (WR.out _ _ ⟨a3, c3, by rw [← HM.out], by rw [← HM.out]; exact n3.below hb⟩ (HT10.out.below (below_trans y1 hb))).mono ?_; rintro e wn ⟨rfl, hbn⟩; exact ⟨_, rfl, hR _ _ hbn rfl⟩))
  case o10 => (refine StepOK.plain rfl ?_; intro ρ w1 R hρ hb hp hR; have e24 : ρ (.tmp 24) = _ := hp 9 24 rfl rfl; have hcon := hρ.con; have hfn := hρ.fn; clear hρ hp; unfold OpRun; go_simp; exact hR _ _ (Below.refl _ _) rfl)
  case after =>
    intro u wn hb hf
    have e2 : u 2 = _ := hf 10 2 (by omega) rfl
    clear hf
    simp only [putAll, Act.put, List.setIfInBounds_toArray, List.set_cons_zero, List.set_cons_succ, List.drop_succ_cons, List.drop_zero, List.drop_nil]
    rw [e2]
    go_wp2_with fail
    go_ret
    exact ⟨rfl, below_trans y1 hb⟩
theorem hexFixed_none (x p mode : Int) (h0 : 0 ≤ x) (h1 : x < 18446744073709551616) (hv : hasVal x = false) (w : World) :
    Calls Tryd.prog 4 #[.int .u64 x, .int .i64 p, .int .i64 mode] w fun e w' => e = .returned (.tuple #[.string ⟨#[]⟩, .bool false, .int .i64 4]) ∧ w = w' := by
  have HV := hid (show ∀ w, Calls Tryd.prog 13 #[.int .u64 x] w fun e w' => e = .returned (.bool false) ∧ w = w' from fun w => by
    have h9 := hasValue_any x h0 h1 w
    rwa [hv] at h9)
  go_enter Tryd.func4, Tryd.ntmps4
  go_wp2_with (go_at_call 13; (with_reducible refine (HV.out _).mono ?_); rintro en w1 ⟨rfl, rfl⟩)
  go_ret3
  exact ⟨rfl, rfl⟩
theorem hexFixed_arg (x p mode : Int) (h0 : 0 ≤ x) (h1 : x < 18446744073709551616) (hv : hasVal x = true) (hb : ¬ ((0 ≤ mode ∧ mode ≤ 4) ∧ (0 ≤ p ∧ p ≤ 30))) (w : World) :
    Calls Tryd.prog 4 #[.int .u64 x, .int .i64 p, .int .i64 mode] w fun e w' => e = .returned (.tuple #[.string ⟨#[]⟩, .bool false, .int .i64 1]) ∧ w = w' := by
  have HV := hid (show ∀ w, Calls Tryd.prog 13 #[.int .u64 x] w fun e w' => e = .returned (.bool true) ∧ w = w' from fun w => by
    have h9 := hasValue_any x h0 h1 w
    rwa [hv] at h9)
  have KN := hid (fun w => hKnown_any mode w)
  by_cases hm : 0 ≤ mode ∧ mode ≤ 4
  · rw [decide_eq_true hm] at KN
    by_cases hp : p < 0
    · clear hb hm
      go_enter Tryd.func4, Tryd.ntmps4
      go_wp2_with (first
        | (go_at_call 13; (with_reducible refine (HV.out _).mono ?_); rintro en w1 ⟨rfl, rfl⟩)
        | (go_at_call 14; (with_reducible refine (KN.out _).mono ?_); rintro en w1 ⟨rfl, rfl⟩))
      go_ret3
      exact ⟨rfl, rfl⟩
    · have hp2 : 30 < p := by omega
      have hp3 : decide (p < 0) = false := decide_eq_false hp
      clear hb hm
      go_enter Tryd.func4, Tryd.ntmps4
      go_wp2_with (first
        | (go_at_call 13; (with_reducible refine (HV.out _).mono ?_); rintro en w1 ⟨rfl, rfl⟩)
        | (go_at_call 14; (with_reducible refine (KN.out _).mono ?_); rintro en w1 ⟨rfl, rfl⟩))
      go_ret3
      exact ⟨rfl, rfl⟩
  · rw [decide_eq_false hm] at KN
    clear hb hm
    go_enter Tryd.func4, Tryd.ntmps4
    go_wp2_with (first
      | (go_at_call 13; (with_reducible refine (HV.out _).mono ?_); rintro en w1 ⟨rfl, rfl⟩)
      | (go_at_call 14; (with_reducible refine (KN.out _).mono ?_); rintro en w1 ⟨rfl, rfl⟩))
    go_ret3
    exact ⟨rfl, rfl⟩
theorem hexFixed_ok (x mode : Int) (n : Nat) (h0 : 0 ≤ x) (h1 : x < 18446744073709551616) (hv : hasVal x = true) (m0 : 0 ≤ mode) (m1 : mode ≤ 4) (hn : n ≤ 30) (w : World) (hT : Tab 0 w) (hT10 : Tab10 w) :
    Calls Tryd.prog 4 #[.int .u64 x, .int .i64 (n : Int), .int .i64 mode] w fun e w' => e = .returned (.tuple #[.string (bsOf (hexFx x n mode)), .bool (hexFc x n), .int .i64 0]) ∧ Below w.heap.size w w' := by
  have HV := hid (show ∀ w, Calls Tryd.prog 13 #[.int .u64 x] w fun e w' => e = .returned (.bool true) ∧ w = w' from fun w => by
    have h9 := hasValue_any x h0 h1 w
    rwa [hv] at h9)
  have KN := hid (show ∀ w, Calls Tryd.prog 14 #[.int .i64 mode] w fun e w' => e = .returned (.bool true) ∧ w = w' from fun w => by
    have h9 := hKnown_any mode w
    rwa [decide_eq_true (show 0 ≤ mode ∧ mode ≤ 4 from ⟨m0, m1⟩)] at h9)
  obtain ⟨d1, d2, d3⟩ := fv_small_h x h0 h1
  obtain ⟨-, d4, -⟩ := fv_bd x h0 h1
  have VA := hid (fun w t => value_any x h0 h1 w t)
  have hbl := (bl_le (fv x).1.natAbs 53).2 d4
  have hI := fv_isNh x
  obtain ⟨K, hK⟩ : ∃ K, K = hfK (fv x) := ⟨_, rfl⟩
  have hKD : hfK (fv x) = (bl (fv x).1.natAbs : Int) + (fv x).2 - 1 := rfl
  -- what round.Multiple leaves
  have MU := hid (show ∀ v w, VD w (fv x) v → Tab 0 w → Calls Tryd.prog 16 #[v, .int .i64 (K - 4 * (n : Int)), .int .i64 mode] w (RetMp w (hfD (fv x) n mode) (hexFc x n)) from fun v w h9 t => by
    have hc : mplC (fv x) (K - 4 * (n : Int)) = hexFc x n := by
      unfold hexFc hfC
      by_cases hz : (fv x).1 = 0
      · rw [if_pos hz]; unfold mplC mulK; rw [if_pos (decide_eq_true (.inr hz))]
      · rw [if_neg hz, hK]
    rw [← hc]
    have hd : hfD (fv x) n mode = mplD (fv x) (K - 4 * (n : Int)) mode := by rw [hK]; rfl
    rw [hd]
    refine multiple_any v (fv x) (K - 4 * (n : Int)) mode w h9 (by omega) (by omega) (by omega) ?_ t
    obtain ⟨A, hA⟩ : ∃ A, A = 8000 := ⟨_, rfl⟩
    have hlt : cutN (decide ((fv x).1 < 0)) (fv x).1.natAbs (K - 4 * (n : Int) - (fv x).2) mode < 2 ^ A := by
      by_cases hj : 0 < K - 4 * (n : Int) - (fv x).2
      · have := cutN_le_h (decide ((fv x).1 < 0)) (fv x).1.natAbs (K - 4 * (n : Int) - (fv x).2) mode hj
        have h2 : (2 : Nat) ^ 53 + 1 ≤ 2 ^ 54 := by decide
        have h3 : (2 : Nat) ^ 54 ≤ 2 ^ A := Nat.pow_le_pow_right (by omega) (by omega)
        omega
      · obtain ⟨s, hs⟩ : ∃ s : Nat, K - 4 * (n : Int) - (fv x).2 = -(s : Int) := ⟨(-(K - 4 * (n : Int) - (fv x).2)).toNat, by omega⟩
        rw [hs, (cut_neg _ _ _ _).1]
        have h3 : (fv x).1.natAbs * 2 ^ s < 2 ^ 53 * 2 ^ s := Nat.mul_lt_mul_of_pos_right d4 (Nat.two_pow_pos s)
        rw [← Nat.pow_add] at h3
        exact Nat.lt_of_lt_of_le h3 (Nat.pow_le_pow_right (by omega) (by omega))
    exact Nat.le_trans (limbs_short1 A 300 (by omega) _ hlt) (by omega))
  have WR := hid (show ∀ v w, VD w (hfD (fv x) n mode) v → Tab10 w → Calls Tryd.prog 18 #[.int .u64 x, v, .int .i64 (n : Int)] w fun e w' => e = .returned (.string (bsOf (hexFx x n mode))) ∧ Below w.heap.size w w' from fun v w hv9 ht => by
    by_cases hz : (fv x).1 = 0
    · have e : hexFx x n mode = hxZ (negB x) n := by unfold hexFx; rw [if_pos hz]
      have hE : (hfD (fv x) n mode).1 = 0 := by
        unfold hfD mplD mulK
        rw [if_pos (decide_eq_true (.inr hz)), nrm_eq_zero _ _ hz]
      rw [e]
      exact writeZ_any x h0 h1 v _ n w hv9 hE (by omega)
    · obtain ⟨e1, e2, e3, e4, e5⟩ := hf_main (fv x) n mode hI hz
      have e : hexFx x n mode = hxT (negB x) n (hfM (hfD (fv x) n mode) n) (hfK (hfD (fv x) n mode)) := by
        unfold hexFx; rw [if_neg hz]; rfl
      rw [e]
      have hKE : hfK (hfD (fv x) n mode) = (bl (hfD (fv x) n mode).1.natAbs : Int) + (hfD (fv x) n mode).2 - 1 := rfl
      generalize hfD (fv x) n mode = E at *
      have hE1 : E.1.natAbs < 2 ^ 54 := by
        have : (2 : Nat) ^ 54 = 2 * 2 ^ 53 := by decide
        omega
      have hbE := (bl_le E.1.natAbs 54).2 hE1
      have lE := limbs_short1 54 100 (by omega) E.1.natAbs hE1
      exact write_any x h0 h1 v E n (hfK E) (E.2 - hfK E + 4 * (n : Int)).toNat (hfM E n) w hv9 e1 lE (by omega) (by omega) hKE (by omega) rfl ht)
  have LN := hid (fun a c w h => natLen_any a c (fv x).1.natAbs w h (by omega))
  generalize hexFx x n mode = T at *
  generalize hexFc x n = C at *
  generalize hfD (fv x) n mode = E at *
  rw [← hK] at hKD
  clear hK
  generalize fv x = D at *
  obtain ⟨M, hM⟩ : ∃ M, M = D.1.natAbs := ⟨_, rfl⟩
  obtain ⟨b, hb9⟩ : ∃ b, b = bl M := ⟨_, rfl⟩
  rw [← hM] at LN hbl hKD
  have HM := hid hM
  clear hM
  rw [← hb9] at LN hbl hKD
  have hKK : (b : Int) + D.2 - 1 = K := by omega
  have hw1 : IntKind.i64.wrap ((b : Int) + D.2) = (b : Int) + D.2 := IntWalk.i64_in _ (by omega)
  have hw2 : IntKind.i64.wrap K = K := IntWalk.i64_in _ (by omega)
  have hw3 : IntKind.i64.wrap (4 * (n : Int)) = 4 * (n : Int) := IntWalk.i64_in _ (by omega)
  have hw4 : IntKind.i64.wrap (K - 4 * (n : Int)) = K - 4 * (n : Int) := IntWalk.i64_in _ (by omega)
  have hp1 : ¬ (n : Int) < 0 := by omega
  have hp2 : ¬ 30 < (n : Int) := by omega
  have HT := hid hT
  have HT10 := hid hT10
  clear hT hT10 hv hb9 hKD h0 h1 m0 m1 hI
  go_enter Tryd.func4, Tryd.ntmps4
  go_upto_region 6 with (first
    | (go_at_call 13; (with_reducible refine (HV.out _).mono ?_); rintro en w1 ⟨rfl, rfl⟩)
    | (go_at_call 14; (with_reducible refine (KN.out _).mono ?_); rintro en w1 ⟨rfl, rfl⟩)
    | (go_at_call 15; (with_reducible refine (VA.out _ HT.out).mono ?_); rintro en w2 ⟨v3, rfl, ⟨a3, c3, rfl, hN3⟩, hb2⟩))
  rw [← HM.out] at hN3 ⊢
  refine wp_worldZ (fun WW => Below w.heap.size w WW ∧ QL 40 WW w2.heap.size (decide (D.1 < 0)) (.slice a3 (limbs M).length c3) D.2 ∧ Ns .u32 WW a3 c3 (limbs M)) ⟨below_trans hb2 (below_alloc _ _), QL.made rfl, hN3.below (below_alloc _ _)⟩ ?_
  intro W1 ⟨y1, q9, n3⟩
  obtain ⟨g9, hg9⟩ : ∃ g, g = w2.heap.size := ⟨_, rfl⟩
  have b9 : w.heap.size ≤ g9 := by rw [hg9]; exact hb2.size
  rw [← hg9] at q9 ⊢
  clear hg9 hN3 hb2 VA
  refine wp_region_growL 16 15 [28, 29, 30, 31, 32, 33, 34, 35, 36, 37, 38, 39, 40, 27, 41, 42] [Fact.is (.agg #[.bool (decide (D.1 < 0)), .slice a3 (limbs M).length c3, .int .i64 D.2]), Fact.is (.pointer (some ⟨g9, 1, none⟩)), Fact.is (.slice a3 (limbs M).length c3), Fact.is (.int .i64 (b : Int)), Fact.is (.pointer (some ⟨g9, 2, none⟩)), Fact.is (.int .i64 D.2), Fact.is (.int .i64 ((b : Int) + D.2)), Fact.is (.int .i64 K), Fact.is (.int .i64 (n : Int)), Fact.is (.int .i64 (4 * (n : Int))), Fact.is (.int .i64 (K - 4 * (n : Int))), Fact.is (.int .i64 mode), Fact.hmp E C, Fact.hmp E C, Fact.vd E, Fact.is (.bool C)] [] (by kernel_rfl) (by kernel_rfl) rfl ⟨?o0, ?o1, ?o2, ?o3, ?o4, ?o5, ?o6, ?o7, ?o8, ?o9, ?o10, ?o11, ?o12, ?o13, ?o14, ?o15, trivial⟩ ?late (fun d _ _ _ _ h => by cases d <;> exact h) ?after
  case o0 => (refine StepOKF.plain rfl ?_; intro ρ w1 R hρ hb hp hR; have e9 : ρ (.tmp 9) = .pointer (some ⟨g9, 0, none⟩) := hρ.tmp 9 rfl; obtain ⟨⟨j0, j1, -⟩, j2, -⟩ := q9.below hb; replace hR := fun v w2 h1 h2 => hR v w2 h1 h2 (fun h => absurd h (by decide)); have hcon := hρ.con; have hfn := hρ.fn; clear hρ hp; unfold OpRun; go_simp; exact hR _ _ (Below.refl _ _) rfl)
  case o1 => (refine StepOKF.plain rfl ?_; intro ρ w1 R hρ hb hp hR; have e9 : ρ (.tmp 9) = .pointer (some ⟨g9, 0, none⟩) := hρ.tmp 9 rfl; replace hR := fun v w2 h1 h2 => hR v w2 h1 h2 (fun h => absurd h (by decide)); have hcon := hρ.con; have hfn := hρ.fn; clear hρ hp; unfold OpRun; go_simp; exact hR _ _ (Below.refl _ _) rfl)
  case o2 => (refine StepOKF.plain rfl ?_; intro ρ w1 R hρ hb hp hR; have e29 : ρ (.tmp 29) = _ := hp 1 29 rfl rfl; obtain ⟨⟨j0, j1, -⟩, j2, -⟩ := q9.below hb; replace hR := fun v w2 h1 h2 => hR v w2 h1 h2 (fun h => absurd h (by decide)); have hcon := hρ.con; have hfn := hρ.fn; clear hρ hp; unfold OpRun; go_simp; exact hR _ _ (Below.refl _ _) rfl)
  case o3 => (refine StepOKF.plain rfl ?_; intro ρ w1 R hρ hb hp hR; have e30 : ρ (.tmp 30) = _ := hp 2 30 rfl rfl; replace hR := fun v w2 h1 h2 => hR v w2 h1 h2 (fun h => absurd h (by decide)); have hcon := hρ.con; have hfn := hρ.fn; clear hρ hp; unfold OpRun; go_simp; (refine (LN.out _ _ _ (n3.below hb)).mono ?_; rintro e wn ⟨rfl, rfl⟩; exact ⟨_, rfl, hR _ _ (Below.refl _ _) rfl⟩))
  case o4 => (refine StepOKF.plain rfl ?_; intro ρ w1 R hρ hb hp hR; have e9 : ρ (.tmp 9) = .pointer (some ⟨g9, 0, none⟩) := hρ.tmp 9 rfl; replace hR := fun v w2 h1 h2 => hR v w2 h1 h2 (fun h => absurd h (by decide)); have hcon := hρ.con; have hfn := hρ.fn; clear hρ hp; unfold OpRun; go_simp; exact hR _ _ (Below.refl _ _) rfl)
  case o5 => (refine StepOKF.plain rfl ?_; intro ρ w1 R hρ hb hp hR; have e32 : ρ (.tmp 32) = _ := hp 4 32 rfl rfl; obtain ⟨⟨j0, j1, -⟩, j2, -⟩ := q9.below hb; replace hR := fun v w2 h1 h2 => hR v w2 h1 h2 (fun h => absurd h (by decide)); have hcon := hρ.con; have hfn := hρ.fn; clear hρ hp; unfold OpRun; go_simp; exact hR _ _ (Below.refl _ _) rfl)
  case o6 => (refine StepOKF.plain rfl ?_; intro ρ w1 R hρ hb hp hR; have e31 : ρ (.tmp 31) = _ := hp 3 31 rfl rfl; have e33 : ρ (.tmp 33) = _ := hp 5 33 rfl rfl; replace hR := fun v w2 h1 h2 => hR v w2 h1 h2 (fun h => absurd h (by decide)); have hcon := hρ.con; have hfn := hρ.fn; clear hρ hp; unfold OpRun; go_simp; exact hR _ _ (Below.refl _ _) rfl)
  case o7 => (refine StepOKF.plain rfl ?_; intro ρ w1 R hρ hb hp hR; have e34 : ρ (.tmp 34) = _ := hp 6 34 rfl rfl; replace hR := fun v w2 h1 h2 => hR v w2 h1 h2 (fun h => absurd h (by decide)); have hcon := hρ.con; have hfn := hρ.fn; clear hρ hp; unfold OpRun; go_simp; exact hR _ _ (Below.refl _ _) rfl)
  case o8 => (refine StepOKF.plain rfl ?_; intro ρ w1 R hρ hb hp hR; have e1 : ρ (.tmp 1) = .int .i64 (n : Int) := hρ.tmp 1 rfl; replace hR := fun v w2 h1 h2 => hR v w2 h1 h2 (fun h => absurd h (by decide)); have hcon := hρ.con; have hfn := hρ.fn; clear hρ hp; unfold OpRun; go_simp; exact hR _ _ (Below.refl _ _) rfl)
  case o9 => (refine StepOKF.plain rfl ?_; intro ρ w1 R hρ hb hp hR; have e36 : ρ (.tmp 36) = _ := hp 8 36 rfl rfl; replace hR := fun v w2 h1 h2 => hR v w2 h1 h2 (fun h => absurd h (by decide)); have hcon := hρ.con; have hfn := hρ.fn; clear hρ hp; unfold OpRun; go_simp; exact hR _ _ (Below.refl _ _) rfl)
  case o10 => (refine StepOKF.plain rfl ?_; intro ρ w1 R hρ hb hp hR; have e35 : ρ (.tmp 35) = _ := hp 7 35 rfl rfl; have e37 : ρ (.tmp 37) = _ := hp 9 37 rfl rfl; replace hR := fun v w2 h1 h2 => hR v w2 h1 h2 (fun h => absurd h (by decide)); have hcon := hρ.con; have hfn := hρ.fn; clear hρ hp; unfold OpRun; go_simp; exact hR _ _ (Below.refl _ _) rfl)
  case o11 => (refine StepOKF.plain rfl ?_; intro ρ w1 R hρ hb hp hR; have e2 : ρ (.tmp 2) = .int .i64 mode := hρ.tmp 2 rfl; replace hR := fun v w2 h1 h2 => hR v w2 h1 h2 (fun h => absurd h (by decide)); have hcon := hρ.con; have hfn := hρ.fn; clear hρ hp; unfold OpRun; go_simp; exact hR _ _ (Below.refl _ _) rfl)
  case o12 => (refine StepOKF.plain rfl ?_; intro ρ w1 R hρ hb hp hR; have e28 : ρ (.tmp 28) = _ := hp 0 28 rfl rfl; have e38 : ρ (.tmp 38) = _ := hp 10 38 rfl rfl; have e39 : ρ (.tmp 39) = _ := hp 11 39 rfl rfl; replace hR := fun v w2 h1 h2 => hR v w2 h1 h2 (fun h => absurd h (by decide)); have hcon := hρ.con; have hfn := hρ.fn; clear hρ hp; unfold OpRun; go_simp; (refine (MU.out _ _ ⟨a3, c3, by rw [← HM.out], by rw [← HM.out]; exact n3.below hb⟩ (HT.out.below (below_trans y1 hb))).mono ?_; rintro e wn ⟨v9, rfl, hv9, hbn⟩; exact ⟨_, rfl, hR _ _ hbn ⟨v9, rfl, hv9⟩⟩))
  case o13 => (refine StepOKF.plain rfl ?_; intro ρ w1 R hρ hb hp hR; have f40 := hp 12 40 rfl rfl; replace hR := fun v w2 h1 h2 => hR v w2 h1 h2 (fun h => absurd h (by decide)); have hcon := hρ.con; have hfn := hρ.fn; clear hρ hp; unfold OpRun; go_simp; exact hR _ _ (Below.refl _ _) f40)
  case o14 => (refine StepOKF.plain rfl ?_; intro ρ w1 R hρ hb hp hR; have f27 := hp 13 27 rfl rfl; replace hR := fun v w2 h1 h2 => hR v w2 h1 h2 (fun h => absurd h (by decide)); have hcon := hρ.con; have hfn := hρ.fn; clear hρ hp; unfold OpRun; go_simp; (obtain ⟨u9, e24, hv9⟩ := f27; rw [e24]; exact hR _ _ (Below.refl _ _) hv9))
  case o15 => (refine StepOKF.plain rfl ?_; intro ρ w1 R hρ hb hp hR; have f27 := hp 13 27 rfl rfl; obtain ⟨u9, e24, hv9⟩ := f27; replace hR := fun v w2 h1 h2 => hR v w2 h1 h2 (fun h => absurd h (by decide)); have hcon := hρ.con; have hfn := hρ.fn; clear hρ hp; unfold OpRun; go_simp; exact hR _ _ (Below.refl _ _) rfl)
  case late =>
    intro o ho
    simp only [List.getElem?_cons_succ, List.getElem?_cons_zero, Option.some.injEq] at ho
    subst ho
    refine ⟨rfl, ?_⟩
    intro ρ w1 hρ hb hp
    have f27 := hp 13 27 rfl rfl
    obtain ⟨u9, e24, hv9⟩ := f27
    refine ⟨_, ?_, rfl⟩
    intro w2
    have hcon := hρ.con
    go_simp
    try rfl
  case after =>
    intro u wn hb hf hd
    have f41 := hf 14 41 (by omega) rfl
    have e42 : u 42 = _ := hf 15 42 (by omega) rfl
    clear hf hd
    simp only [putAll, Act.put, List.setIfInBounds_toArray, List.set_cons_zero, List.set_cons_succ, List.drop_succ_cons, List.drop_zero, List.drop_nil]
    rw [e42]
    obtain ⟨aS, cS, e41, hNS⟩ := f41
    rw [e41]
    have zD2 := q9.below hb
    obtain ⟨⟨k0, k1, f0, f1, hs2⟩, k2, f2⟩ := id zD2
    have zS := zD2.put (decide (E.1 < 0)) (.slice aS (limbs E.1.natAbs).length cS) E.2
    have hNS2 := hNS.set3 zD2 (by intro x h; cases h) (.bool (decide (E.1 < 0))) (.slice aS (limbs E.1.natAbs).length cS) (.int .i64 E.2)
    have yb2 := Go.Ulp.Below.put3 (below_trans y1 hb) (g := g9) (by omega) (.bool (decide (E.1 < 0))) (.slice aS (limbs E.1.natAbs).length cS) (.int .i64 E.2)
    clear e41
    go_upto_region 7 with fail
    obtain ⟨W2, hW2⟩ : ∃ Y, Y = ((wn.setCell ⟨g9, 0, none⟩ (.bool (decide (E.1 < 0)))).setCell ⟨g9, 1, none⟩ (.slice aS (limbs E.1.natAbs).length cS)).setCell ⟨g9, 2, none⟩ (.int .i64 E.2) := ⟨_, rfl⟩
    rw [← hW2] at zS hNS2 yb2 ⊢
    clear hW2 k0 k1 f0 f1 hs2 k2 f2 zD2 q9 hNS hb hw1
    obtain ⟨⟨j0, j1, -⟩, j2, -⟩ := id zS
    have WR2 := hid (fun w (h : Ns .u32 w aS cS (limbs E.1.natAbs)) t => WR.out _ w ⟨aS, cS, rfl, h⟩ t)
    go_wp2_with (go_at_call 18; (with_reducible refine (WR2.out _ hNS2 (HT10.out.below yb2)).mono ?_); rintro en w3 ⟨rfl, hb3⟩)
    go_ret3
    exact ⟨rfl, below_trans yb2 hb3⟩
end Go.Proofs.YthaelmnblgollaaDoor
