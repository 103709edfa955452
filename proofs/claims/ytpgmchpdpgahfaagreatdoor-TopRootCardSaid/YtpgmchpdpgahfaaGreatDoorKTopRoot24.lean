/- TopRoot: what the proof leans on, part 24 (Hx3 Hx4 Hx5 Tp0 Pr0 Pr1 Pr2 Su4 Pr3 Ex0 Es0 Es1 Qr0). -/
import Derived.Test.YtpgmchpdpgahfaaGreatDoorKTopRoot12
import Derived.Test.YtpgmchpdpgahfaaGreatDoorKTopRoot16
import Derived.Test.YtpgmchpdpgahfaaGreatDoorKTopRoot18
import Derived.Test.YtpgmchpdpgahfaaGreatDoorKTopRoot23
set_option linter.unusedVariables false
set_option linter.unusedSimpArgs false
namespace Go.Ulp
open Go.RowKit
theorem QW.zv {tq ti : TypeId} {w : World} {g : Nat} {D : Dy} {A T : Nat} {X : Int} {n : Nat} {ao : Option Addr} {cap : Nat} (h : QW tq ti w g D A T X n ao cap) (hN : Nz ti w ao cap (zl X)) : ZV tq ti w g X := ⟨ao, cap, h.1.1, hN⟩
end Go.Ulp
namespace Go.Proofs.YtpgmchpdpgahfaaGreatDoor
open Go.RowKit Go.Ulp
set_option linter.unusedVariables false
set_option linter.unusedSimpArgs false
set_option maxHeartbeats 2000000
set_option maxRecDepth 100000
end Go.Proofs.YtpgmchpdpgahfaaGreatDoor

set_option linter.unusedVariables false
set_option linter.unusedSimpArgs false
namespace Go.Ulp
open Go.RowKit
theorem fv_isNh (x : Int) : IsN (fv x) := nrm_isN _ _
theorem fv_small_h (x : Int) (h0 : 0 ≤ x) (h1 : x < 18446744073709551616) : (limbs (fv x).1.natAbs).length ≤ 2 ∧ -1074 ≤ (fv x).2 ∧ (fv x).2 ≤ 1024 := by
  obtain ⟨-, h2, h3, h4⟩ := fv_bd x h0 h1
  exact ⟨limbs_short1 53 2 (by omega) _ h2, h3, h4⟩
end Go.Ulp
namespace Go.Proofs.YtpgmchpdpgahfaaGreatDoor
open Go.RowKit Go.Ulp
set_option linter.unusedVariables false
set_option linter.unusedSimpArgs false
set_option maxHeartbeats 2000000
set_option maxRecDepth 100000
end Go.Proofs.YtpgmchpdpgahfaaGreatDoor

set_option linter.unusedVariables false
set_option linter.unusedSimpArgs false
namespace Go.Ulp
open Go.RowKit
/-- a number's text in sixteens -/
def hexTx (x : Int) : List UInt8 := if classOf x = 5 then [110, 97, 110] else if classOf x = 4 then dsh (negB x) [105, 110, 102] else if (fv x).1 = 0 then dsh (negB x) [48, 120, 48, 112, 43, 48] else hfT x (hfN (fv x)) 3
end Go.Ulp
namespace Go.Proofs.YtpgmchpdpgahfaaGreatDoor
open Go.RowKit Go.Ulp
set_option linter.unusedVariables false
set_option linter.unusedSimpArgs false
set_option maxHeartbeats 2000000
set_option maxRecDepth 100000
/-- hex.Text -/
theorem hexText_any (x : Int) (h0 : 0 ≤ x) (h1 : x < 18446744073709551616) (w : World) (hT : Tab 0 w) (hT10 : Tab10 w) :
    Calls Tryz.prog 13 #[.int .u64 x] w fun e w' => e = .returned (.string (bsOf (hexTx x))) ∧ Below w.heap.size w w' := by
  have CL := hid (fun w => class_any x h0 h1 w)
  have b1 : (ByteArray.mk #[105, 110, 102]) = bsOf [105, 110, 102] := rfl
  have b2 : (ByteArray.mk #[45, 105, 110, 102]) = bsOf [45, 105, 110, 102] := rfl
  have b3 : (ByteArray.mk #[110, 97, 110]) = bsOf [110, 97, 110] := rfl
  by_cases c5 : classOf x = 5
  · have HR := hid (show hexTx x = [110, 97, 110] by unfold hexTx; rw [if_pos c5])
    rw [c5] at CL
    clear c5 h0 h1 hT hT10
    generalize hexTx x = T at *
    go_enter Tryz.func13, Tryz.ntmps13
    go_wp2_with (go_at_call 5; (with_reducible refine (CL.out _).mono ?_); rintro en w1 ⟨rfl, rfl⟩)
    go_ret
    exact ⟨by rw [HR.out]; rfl, Below.refl _ _⟩
  by_cases c4 : classOf x = 4
  · have HR := hid (show hexTx x = dsh (negB x) [105, 110, 102] by unfold hexTx; rw [if_neg c5, if_pos c4])
    rw [c4] at CL
    by_cases hx : 9223372036854775808 ≤ x
    · have hs : x / 9223372036854775808 = 1 := by omega
      have HR2 := hid (show hexTx x = [45, 105, 110, 102] by rw [HR.out, show negB x = true from decide_eq_true hx]; rfl)
      clear c5 c4 HR hT hT10
      generalize hexTx x = T at *
      go_enter Tryz.func13, Tryz.ntmps13
      go_wp2_with (go_at_call 5; (with_reducible refine (CL.out _).mono ?_); rintro en w1 ⟨rfl, rfl⟩)
      go_ret
      exact ⟨by rw [HR2.out]; rfl, Below.refl _ _⟩
    · have hs : x / 9223372036854775808 = 0 := by omega
      have HR2 := hid (show hexTx x = [105, 110, 102] by rw [HR.out, show negB x = false from decide_eq_false hx]; rfl)
      clear c5 c4 HR hT hT10
      generalize hexTx x = T at *
      go_enter Tryz.func13, Tryz.ntmps13
      go_wp2_with (go_at_call 5; (with_reducible refine (CL.out _).mono ?_); rintro en w1 ⟨rfl, rfl⟩)
      go_ret
      exact ⟨by rw [HR2.out]; rfl, Below.refl _ _⟩
  have hv : hasVal x = true := by
    have a := class_val x h0 h1
    have : classOf x ≤ 5 := by unfold classOf; split <;> split <;> (try split) <;> omega
    unfold hasVal
    unfold absOf at a
    exact decide_eq_true (by omega)
  obtain ⟨d1, d2, d3⟩ := fv_small_h x h0 h1
  obtain ⟨-, d4, -⟩ := fv_bd x h0 h1
  have VA := hid (fun w t => value_any x h0 h1 w t)
  have hbl := (bl_le (fv x).1.natAbs 53).2 d4
  obtain ⟨B, hB⟩ : ∃ B, B = max (bl (fv x).1.natAbs) 1 := ⟨_, rfl⟩
  obtain ⟨n, hn⟩ : ∃ n, n = (B - 1 + 3) / 4 := ⟨_, rfl⟩
  have WR := hid (show ∀ v w, VD w (fv x) v → Tab10 w → Calls Tryz.prog 30 #[.int .u64 x, v, .int .i64 (n : Int)] w fun e w' => e = .returned (.string (bsOf (hexTx x))) ∧ Below w.heap.size w w' from fun v w hv9 ht => by
    by_cases hz : (fv x).1 = 0
    · have e : hexTx x = hxZ (negB x) n := by
        have : n = 0 := by rw [hn, hB, hz]; rfl
        rw [this]
        unfold hexTx; rw [if_neg c5, if_neg c4, if_pos hz]; rfl
      rw [e]
      exact writeZ_any x h0 h1 v (fv x) n w hv9 hz (by omega)
    · have hbp := (bl_pos (fv x).1.natAbs).2 (by omega)
      have hnN : n = hfN (fv x) := by rw [hn, hB]; unfold hfN; congr 2; omega
      have hE := hfD_self (fv x) n 3 (fv_isNh x) (by omega)
      have e : hexTx x = hxT (negB x) n (hfM (fv x) n) (hfK (fv x)) := by
        unfold hexTx; rw [if_neg c5, if_neg c4, if_neg hz, ← hnN]
        unfold hfT; rw [hE]
      rw [e]
      have hKD : hfK (fv x) = (bl (fv x).1.natAbs : Int) + (fv x).2 - 1 := rfl
      have hs0 : 0 ≤ (fv x).2 - hfK (fv x) + 4 * (n : Int) := by omega
      exact write_any x h0 h1 v (fv x) n (hfK (fv x)) ((fv x).2 - hfK (fv x) + 4 * (n : Int)).toNat (hfM (fv x) n) w hv9 hz (by omega) (by omega) (by omega) hKD (by omega) rfl ht)
  have LN := hid (fun a c w h => natLen_any a c (fv x).1.natAbs w h (by omega))
  generalize hexTx x = T at *
  generalize fv x = D at *
  obtain ⟨M, hM⟩ : ∃ M, M = D.1.natAbs := ⟨_, rfl⟩
  obtain ⟨b, hb9⟩ : ∃ b, b = bl M := ⟨_, rfl⟩
  rw [← hM] at LN hbl hB
  have HM := hid hM
  clear hM
  rw [← hb9] at LN hbl hB
  have hmx : max (b : Int) 1 = (B : Int) := by omega
  have hw1 : IntKind.i64.wrap ((B : Int) - 1) = (B : Int) - 1 := IntWalk.i64_in _ (by omega)
  have hw2 : IntKind.i64.wrap ((B : Int) - 1 + 3) = (B : Int) - 1 + 3 := IntWalk.i64_in _ (by omega)
  have hq : ((B : Int) - 1 + 3).tdiv 4 = (n : Int) := by rw [Int.tdiv_eq_ediv_of_nonneg (by omega)]; omega
  have hq2 : ((B : Int) - 1 + 3) / 4 = (n : Int) := by omega
  have hwn : IntKind.i64.wrap (n : Int) = (n : Int) := IntWalk.i64_in _ (by omega)
  have h85 : classOf x ≠ 5 := c5
  generalize classOf x = c at *
  have HT := hid hT
  have HT10 := hid hT10
  clear hT hT10 hv hb9 hB hn
  go_enter Tryz.func13, Tryz.ntmps13
  go_upto_region 9 with (first
    | (go_at_call 5; (with_reducible refine (CL.out _).mono ?_); rintro en w1 ⟨rfl, rfl⟩)
    | (go_at_call 18; (with_reducible refine (VA.out _ HT.out).mono ?_); rintro en w2 ⟨v3, rfl, ⟨a3, c3, rfl, hN3⟩, hb2⟩))
  rw [← HM.out] at hN3 ⊢
  refine wp_worldZ (fun WW => Below w.heap.size w WW ∧ QL 43 WW w2.heap.size (decide (D.1 < 0)) (.slice a3 (limbs M).length c3) D.2 ∧ Ns .u32 WW a3 c3 (limbs M)) ⟨below_trans hb2 (below_alloc _ _), QL.made rfl, hN3.below (below_alloc _ _)⟩ ?_
  intro W1 ⟨y1, q3, n3⟩
  obtain ⟨g3, hg3⟩ : ∃ g, g = w2.heap.size := ⟨_, rfl⟩
  rw [← hg3] at q3 ⊢
  clear hg3 hN3 hb2 VA
  refine wp_region_grow 11 [15, 16, 17, 18, 19, 20, 21, 22, 23, 24, 2] [Fact.is (.int .u64 x), Fact.is (.agg #[.bool (decide (D.1 < 0)), .slice a3 (limbs M).length c3, .int .i64 D.2]), Fact.is (.pointer (some ⟨g3, 1, none⟩)), Fact.is (.slice a3 (limbs M).length c3), Fact.is (.int .i64 (b : Int)), Fact.is (.int .i64 (B : Int)), Fact.is (.int .i64 ((B : Int) - 1)), Fact.is (.int .i64 ((B : Int) - 1 + 3)), Fact.is (.int .i64 (n : Int)), Fact.is (.string (bsOf T)), Fact.is (.string (bsOf T))] (by kernel_rfl) (by kernel_rfl) ⟨?o0, ?o1, ?o2, ?o3, ?o4, ?o5, ?o6, ?o7, ?o8, ?o9, ?o10, trivial⟩ ?after
  case o0 => (refine StepOK.plain rfl ?_; intro ρ w1 R hρ hb hp hR; have e0 : ρ (.tmp 0) = .int .u64 x := hρ.tmp 0 rfl; have hcon := hρ.con; have hfn := hρ.fn; clear hρ hp; unfold OpRun; go_simp; exact hR _ _ (Below.refl _ _) rfl)
  case o1 => (refine StepOK.plain rfl ?_; intro ρ w1 R hρ hb hp hR; have e3 : ρ (.tmp 3) = .pointer (some ⟨g3, 0, none⟩) := hρ.tmp 3 rfl; obtain ⟨⟨j0, j1, -⟩, j2, -⟩ := q3.below hb; have hcon := hρ.con; have hfn := hρ.fn; clear hρ hp; unfold OpRun; go_simp; exact hR _ _ (Below.refl _ _) rfl)
  case o2 => (refine StepOK.plain rfl ?_; intro ρ w1 R hρ hb hp hR; have e3 : ρ (.tmp 3) = .pointer (some ⟨g3, 0, none⟩) := hρ.tmp 3 rfl; have hcon := hρ.con; have hfn := hρ.fn; clear hρ hp; unfold OpRun; go_simp; exact hR _ _ (Below.refl _ _) rfl)
  case o3 => (refine StepOK.plain rfl ?_; intro ρ w1 R hρ hb hp hR; have e17 : ρ (.tmp 17) = _ := hp 2 17 rfl rfl; obtain ⟨⟨j0, j1, -⟩, j2, -⟩ := q3.below hb; have hcon := hρ.con; have hfn := hρ.fn; clear hρ hp; unfold OpRun; go_simp; exact hR _ _ (Below.refl _ _) rfl)
  case o4 => (refine StepOK.plain rfl ?_; intro ρ w1 R hρ hb hp hR; have e18 : ρ (.tmp 18) = _ := hp 3 18 rfl rfl; have hcon := hρ.con; have hfn := hρ.fn; clear hρ hp; unfold OpRun; go_simp; (refine (LN.out _ _ _ (n3.below hb)).mono ?_; rintro e wn ⟨rfl, rfl⟩; exact ⟨_, rfl, hR _ _ (Below.refl _ _) rfl⟩))
  case o5 => (refine StepOK.plain rfl ?_; intro ρ w1 R hρ hb hp hR; have e19 : ρ (.tmp 19) = _ := hp 4 19 rfl rfl; have hcon := hρ.con; have hfn := hρ.fn; clear hρ hp; unfold OpRun; go_simp; exact hR _ _ (Below.refl _ _) rfl)
  case o6 => (refine StepOK.plain rfl ?_; intro ρ w1 R hρ hb hp hR; have e20 : ρ (.tmp 20) = _ := hp 5 20 rfl rfl; have hcon := hρ.con; have hfn := hρ.fn; clear hρ hp; unfold OpRun; go_simp; exact hR _ _ (Below.refl _ _) rfl)
  case o7 => (refine StepOK.plain rfl ?_; intro ρ w1 R hρ hb hp hR; have e21 : ρ (.tmp 21) = _ := hp 6 21 rfl rfl; have hcon := hρ.con; have hfn := hρ.fn; clear hρ hp; unfold OpRun; go_simp; exact hR _ _ (Below.refl _ _) rfl)
  case o8 => (refine StepOK.plain rfl ?_; intro ρ w1 R hρ hb hp hR; have e22 : ρ (.tmp 22) = _ := hp 7 22 rfl rfl; have hcon := hρ.con; have hfn := hρ.fn; clear hρ hp; unfold OpRun; go_simp; exact hR _ _ (Below.refl _ _) rfl)
  case o9 => (refine StepOK.plain rfl ?_; intro ρ w1 R hρ hb hp hR; have e15 : ρ (.tmp 15) = _ := hp 0 15 rfl rfl; have e16 : ρ (.tmp 16) = _ := hp 1 16 rfl rfl; have e23 : ρ (.tmp 23) = _ := hp 8 23 rfl rfl; have hcon := hρ.con; have hfn := hρ.fn; clear hρ hp; unfold OpRun; go_simp; (refine (WR.out _ _ ⟨a3, c3, by rw [← HM.out], by rw [← HM.out]; exact n3.below hb⟩ (HT10.out.below (below_trans y1 hb))).mono ?_; rintro e wn ⟨rfl, hbn⟩; exact ⟨_, rfl, hR _ _ hbn rfl⟩))
  case o10 => (refine StepOK.plain rfl ?_; intro ρ w1 R hρ hb hp hR; have e24 : ρ (.tmp 24) = _ := hp 9 24 rfl rfl; have hcon := hρ.con; have hfn := hρ.fn; clear hρ hp; unfold OpRun; go_simp; exact hR _ _ (Below.refl _ _) rfl)
  case after =>
    intro u wn hb hf
    have e2 : u 2 = _ := hf 10 2 (by omega) rfl
    clear hf
    simp only [putAll, Act.put, List.setIfInBounds_toArray, List.set_cons_zero, List.set_cons_succ, List.drop_succ_cons, List.drop_zero, List.drop_nil]
    rw [e2]
    go_wp2_with fail
    go_ret
    exact ⟨rfl, below_trans y1 hb⟩
end Go.Proofs.YtpgmchpdpgahfaaGreatDoor

set_option linter.unusedVariables false
set_option linter.unusedSimpArgs false
namespace Go.Proofs.YtpgmchpdpgahfaaGreatDoor
open Go.RowKit Go.Ulp
set_option linter.unusedVariables false
set_option linter.unusedSimpArgs false
set_option maxHeartbeats 2000000
set_option maxRecDepth 100000
theorem lv_a (w : World) (hT : Tab 0 w) :
    Calls Tryz.prog 10 #[.string ⟨#[48, 46, 49]⟩, .int .i64 0] w (RetNm w 4591870180066957722 true 0) := by
  have h := number_val [48, 46, 49] 0 w ⟨by omega, by omega⟩ (by decide) (by decide) (by decide) (by decide) (by decide +kernel) (by decide +kernel) hT
  refine h.mono ?_
  rintro e w' ⟨M, x, ok, hr⟩
  obtain ⟨hM, sft, hs, SC⟩ := ok
  rw [show rdNum (dvl (rdD [48, 46, 49])) (rdD [48, 46, 49]).length (rdK [48, 46, 49]) = 1 by decide +kernel, show rdDen (rdD [48, 46, 49]).length (rdK [48, 46, 49]) = 10 by decide +kernel] at SC
  rw [show rdN [48, 46, 49] = false by decide +kernel] at hr
  obtain ⟨r1, r2⟩ := read_sg false M x 0 1074 1 10 sft 4591870180066957721 (by omega) (by omega) hM hs SC (by omega) (by decide +kernel) (.inr (by decide +kernel))
  rw [show rdA 1074 1 10 (if false = true then swM 0 else 0) ((4591870180066957721 : Nat) : Int) = (4591870180066957722, true) by decide +kernel] at r1 r2
  rw [r1, r2] at hr
  exact hr
theorem lv_b (w : World) (hT : Tab 0 w) :
    Calls Tryz.prog 10 #[.string ⟨#[48, 46, 50]⟩, .int .i64 0] w (RetNm w 4596373779694328218 true 0) := by
  have h := number_val [48, 46, 50] 0 w ⟨by omega, by omega⟩ (by decide) (by decide) (by decide) (by decide) (by decide +kernel) (by decide +kernel) hT
  refine h.mono ?_
  rintro e w' ⟨M, x, ok, hr⟩
  obtain ⟨hM, sft, hs, SC⟩ := ok
  rw [show rdNum (dvl (rdD [48, 46, 50])) (rdD [48, 46, 50]).length (rdK [48, 46, 50]) = 2 by decide +kernel, show rdDen (rdD [48, 46, 50]).length (rdK [48, 46, 50]) = 10 by decide +kernel] at SC
  rw [show rdN [48, 46, 50] = false by decide +kernel] at hr
  obtain ⟨r1, r2⟩ := read_sg false M x 0 1074 2 10 sft 4596373779694328217 (by omega) (by omega) hM hs SC (by omega) (by decide +kernel) (.inr (by decide +kernel))
  rw [show rdA 1074 2 10 (if false = true then swM 0 else 0) ((4596373779694328217 : Nat) : Int) = (4596373779694328218, true) by decide +kernel] at r1 r2
  rw [r1, r2] at hr
  exact hr
theorem lv_s (w : World) (hT : Tab 0 w) :
    Calls Tryz.prog 11 #[.int .u64 4591870180066957722, .int .u64 4596373779694328218, .int .i64 0] w (RetX3 w 4599075939470750516 true 0) := by
  have h := sumAdd_any 4591870180066957722 4596373779694328218 (by omega) (by omega) 0 w hT
  rw [show mdX 0 (sumX [4591870180066957722, 4596373779694328218] 0) = 4599075939470750516 by decide +kernel, show mdC 0 (sumC [4591870180066957722, 4596373779694328218] 0) = true by decide +kernel, show mdE 0 = 0 by decide +kernel] at h
  exact h
theorem lv_h (w : World) (hT : Tab 0 w) (hT10 : Tab10 w) :
    Calls Tryz.prog 13 #[.int .u64 4599075939470750516] w fun e w' => e = .returned (.string ⟨#[48, 120, 49, 46, 51, 51, 51, 51, 51, 51, 51, 51, 51, 51, 51, 51, 52, 112, 45, 50]⟩) ∧ Below w.heap.size w w' := by
  have h := hexText_any 4599075939470750516 (by omega) (by omega) w hT hT10
  rw [show hexTx 4599075939470750516 = [48, 120, 49, 46, 51, 51, 51, 51, 51, 51, 51, 51, 51, 51, 51, 51, 52, 112, 45, 50] by decide +kernel] at h
  exact h
theorem lv_d (w : World) (hT : Tab 0 w) (hT10 : Tab10 w) :
    Calls Tryz.prog 27 #[.int .u64 4599075939470750516] w fun e w' => e = .returned (.tuple #[.string (bsOf [51, 48, 48, 48, 48, 48, 48, 48, 48, 48, 48, 48, 48, 48, 48, 48, 52]), .int .i64 (-17), .int .i64 0]) ∧ Below w.heap.size w w' := by
  refine (shDigits_any 4599075939470750516 (by omega) (by omega) (by decide +kernel) (by decide +kernel) 1021 900719925474100 (by decide +kernel) (by decide +kernel) (by omega) (by omega) (-1) (by unfold IsDec; decide +kernel) (by omega) w hT hT10).mono ?_
  rintro e w' ⟨k, h1, h2, rfl, hb⟩
  have g : ∀ j, j < 16 → shS (rkD ((1021 * 4503599627370496 + 900719925474100 : Nat) : Int)) 1021 900719925474100 j (-1) = false := by decide +kernel
  have g2 : shS (rkD ((1021 * 4503599627370496 + 900719925474100 : Nat) : Int)) 1021 900719925474100 16 (-1) = true := by decide +kernel
  have hk : k = 16 := by
    rcases Nat.lt_trichotomy k 16 with h | h | h
    · have := g k h; rw [h2] at this; cases this
    · exact h
    · have := h1 16 h; rw [g2] at this; cases this
  subst hk
  refine ⟨?_, hb⟩
  rw [show stp (decD (shZ (rkD ((1021 * 4503599627370496 + 900719925474100 : Nat) : Int)) 1021 900719925474100 16 (-1))) = [51, 48, 48, 48, 48, 48, 48, 48, 48, 48, 48, 48, 48, 48, 48, 48, 52] by decide +kernel, show shX (rkD ((1021 * 4503599627370496 + 900719925474100 : Nat) : Int)) 1021 900719925474100 16 (-1) = -17 by decide +kernel]
theorem lv_t (w : World) (hT : Tab 0 w) (hT10 : Tab10 w) :
    Calls Tryz.prog 12 #[.int .u64 4599075939470750516] w fun e w' => e = .returned (.string ⟨#[48, 46, 51, 48, 48, 48, 48, 48, 48, 48, 48, 48, 48, 48, 48, 48, 48, 48, 52]⟩) ∧ Below w.heap.size w w' := by
  have h := shText_val 4599075939470750516 (by omega) (by omega) (by decide +kernel) (by decide +kernel) (by decide +kernel) [51, 48, 48, 48, 48, 48, 48, 48, 48, 48, 48, 48, 48, 48, 48, 48, 52] (-17) ⟨by decide, by decide⟩ ⟨by omega, by omega⟩ (fun w t t10 => lv_d w t t10) w hT hT10
  rw [show dsh (negB 4599075939470750516) (shT [51, 48, 48, 48, 48, 48, 48, 48, 48, 48, 48, 48, 48, 48, 48, 48, 52] (-17)) = [48, 46, 51, 48, 48, 48, 48, 48, 48, 48, 48, 48, 48, 48, 48, 48, 48, 48, 52] by decide +kernel] at h
  exact h
end Go.Proofs.YtpgmchpdpgahfaaGreatDoor

set_option linter.unusedVariables false
set_option linter.unusedSimpArgs false
namespace Go.Ulp
open Go.RowKit
/-- which kind of product: 0 none, 1 infinite, 2 zero, 3 a value -/
def kP (nx ny ix iy zx zy : Bool) : Nat := if (nx || ny || (ix && zy) || (zx && iy)) = true then 0 else if (ix || iy) = true then 1 else if (zx || zy) = true then 2 else 3
def kindP (x y : Int) : Nat := kP (isNan x) (isNan y) (isInf x) (isInf y) (isZer x) (isZer y)
def infX (s : Bool) : Int := if s then 18442240474082181120 else 9218868437227405312
theorem infX_eq (s : Bool) : infX s = 9218868437227405312 + sgb s := by cases s <;> rfl
def sgx (x y : Int) : Bool := negB x != negB y
def spX (k : Nat) (s : Bool) : Int := if k = 0 then 9221120237041090560 else if k = 1 then infX s else 0
def pX (k : Nat) (s : Bool) (D : Dy) (mode : Int) : Int := if k = 0 then 9221120237041090560 else if k = 1 then infX s else if k = 2 then sgb s else rX D mode
def pC (k : Nat) (D : Dy) (mode : Int) : Bool := if k = 3 then rC D mode else false
theorem kP_le (a b c d e f : Bool) : kP a b c d e f ≤ 3 := by unfold kP; split; omega; split; omega; split <;> omega
theorem sign_bits (x y : Int) (hx : 0 ≤ x ∧ x < 18446744073709551616) (hy : 0 ≤ y ∧ y < 18446744073709551616) : bits .and .u64 (bits .xor .u64 x y) 9223372036854775808 = sgb (sgx x y) := by
  obtain ⟨n, rfl⟩ := Int.eq_ofNat_of_zero_le hx.1
  obtain ⟨m, rfl⟩ := Int.eq_ofNat_of_zero_le hy.1
  have hn : n < 2 ^ 64 := by omega
  have hm : m < 2 ^ 64 := by omega
  rw [u64_xor_nat n m (by omega) (by omega)]
  have hlt : n ^^^ m < 2 ^ 64 := Nat.xor_lt_two_pow hn hm
  have e := u64_and_nat (n ^^^ m) 9223372036854775808 (by omega) (by omega)
  rw [show ((9223372036854775808 : Nat) : Int) = 9223372036854775808 from rfl] at e
  rw [e]
  have tb : ∀ k : Nat, k < 2 ^ 64 → k.testBit 63 = decide (9223372036854775808 ≤ k) := by
    intro k hk
    rw [Nat.testBit_eq_decide_div_mod_eq, decide_eq_decide]
    omega
  have key : (n ^^^ m) &&& 9223372036854775808 = if (n ^^^ m).testBit 63 then 9223372036854775808 else 0 := by
    apply Nat.eq_of_testBit_eq
    intro i
    have h2 : (9223372036854775808 : Nat) = 2 ^ 63 := by decide
    rw [Nat.testBit_and]
    by_cases hi : 63 = i
    · subst hi
      cases h : (n ^^^ m).testBit 63
      · simp
      · simp [h2]
    · have : (9223372036854775808 : Nat).testBit i = false := by rw [h2, Nat.testBit_two_pow]; simp [hi]
      rw [this, Bool.and_false]
      split
      · exact this.symm
      · simp
  rw [key, Nat.testBit_xor, tb n hn, tb m hm]
  unfold sgb sgx negB
  have a : decide (9223372036854775808 ≤ n) = decide ((9223372036854775808 : Int) ≤ (n : Int)) := by rw [decide_eq_decide]; omega
  have b : decide (9223372036854775808 ≤ m) = decide ((9223372036854775808 : Int) ≤ (m : Int)) := by rw [decide_eq_decide]; omega
  rw [a, b]
  cases decide ((9223372036854775808 : Int) ≤ (n : Int)) <;> cases decide ((9223372036854775808 : Int) ≤ (m : Int)) <;> rfl
/-- of kinds 2 and 3 both have values -/
theorem kind_val {x y : Int} (h : 2 ≤ kindP x y) : classOf x < 4 ∧ classOf y < 4 := by
  unfold kindP kP at h
  have a := class_bd x
  have b := class_bd y
  unfold isNan isInf at h
  split at h
  · omega
  · split at h
    · omega
    · rename_i h1 h2
      simp only [Bool.or_eq_true, Bool.and_eq_true, beq_iff_eq, not_or] at h1 h2
      omega
theorem kind_zero {x y : Int} (h : kindP x y = 2) : classOf x = 1 ∨ classOf y = 1 := by
  unfold kindP kP at h
  split at h
  · omega
  · split at h
    · omega
    · split at h
      · rename_i h1
        rw [Bool.or_eq_true] at h1
        unfold isZer at h1
        rw [beq_iff_eq, beq_iff_eq] at h1
        exact h1
      · omega
theorem kind_three {x y : Int} (h : kindP x y = 3) : classOf x ≠ 1 ∧ classOf y ≠ 1 := by
  unfold kindP kP at h
  split at h
  · omega
  · split at h
    · omega
    · split at h
      · omega
      · rename_i h1
        rw [Bool.or_eq_true] at h1
        unfold isZer at h1
        rw [beq_iff_eq, beq_iff_eq] at h1
        omega
theorem prod_uV {x y : Int} (hx : 0 ≤ x ∧ x < 18446744073709551616) (hy : 0 ≤ y ∧ y < 18446744073709551616) (h : 2 ≤ kindP x y) : mulD (fv x) (fv y) = nrm (uV x * uV y) (-2148) := by
  obtain ⟨a, b⟩ := kind_val h
  rw [fv_uV x hx.1 hx.2 a, fv_uV y hy.1 hy.2 b, ← nrm_mul]
  rfl
theorem prod_zero {x y : Int} (hx : 0 ≤ x ∧ x < 18446744073709551616) (hy : 0 ≤ y ∧ y < 18446744073709551616) (h : kindP x y = 2) : (mulD (fv x) (fv y)).1 = 0 := by
  rw [prod_uV hx hy (by omega), nrm_zero_iff]
  rcases kind_zero h with k | k
  · rw [uV_zer x hx.1 hx.2 k, Int.zero_mul]
  · rw [uV_zer y hy.1 hy.2 k, Int.mul_zero]
theorem prod_some {x y : Int} (hx : 0 ≤ x ∧ x < 18446744073709551616) (hy : 0 ≤ y ∧ y < 18446744073709551616) (h : kindP x y = 3) : (mulD (fv x) (fv y)).1 ≠ 0 := by
  rw [prod_uV hx hy (by omega), Ne, nrm_zero_iff]
  obtain ⟨a, b⟩ := kind_val (x := x) (y := y) (by omega)
  obtain ⟨c, d⟩ := kind_three h
  intro e
  rcases Int.mul_eq_zero.1 e with e | e
  · exact c ((uV_zero_iff x hx.1 hx.2 a).1 e)
  · exact d ((uV_zero_iff y hy.1 hy.2 b).1 e)
end Go.Ulp
namespace Go.Proofs.YtpgmchpdpgahfaaGreatDoor
open Go.RowKit Go.Ulp
set_option linter.unusedVariables false
set_option linter.unusedSimpArgs false
set_option maxHeartbeats 2000000
set_option maxRecDepth 100000
theorem pSign_any (x y : Int) (hx : 0 ≤ x ∧ x < 18446744073709551616) (hy : 0 ≤ y ∧ y < 18446744073709551616) (w : World) :
    Calls Tryz.prog 21 #[.int .u64 x, .int .u64 y] w fun e w' => e = .returned (.int .u64 (sgb (sgx x y))) ∧ w = w' := by
  have HS := hid (sign_bits x y hx hy)
  obtain ⟨x0, x1⟩ := hx
  obtain ⟨y0, y1⟩ := hy
  go_enter Tryz.func21, Tryz.ntmps21
  go_wp2_with fail
  go_ret
  exact ⟨ret_int HS.out, rfl⟩
theorem special_any (x y : Int) (hx : 0 ≤ x ∧ x < 18446744073709551616) (hy : 0 ≤ y ∧ y < 18446744073709551616) (w : World) :
    Calls Tryz.prog 19 #[.int .u64 x, .int .u64 y] w fun e w' => e = .returned (.tuple #[.int .u64 (spX (kindP x y) (sgx x y)), .bool (decide (kindP x y < 2))]) ∧ w = w' := by
  have CX := hid (fun w => class_any x hx.1 hx.2 w)
  have CY := hid (fun w => class_any y hy.1 hy.2 w)
  have SG := hid (fun w => pSign_any x y hx hy w)
  have HK := hid (show kindP x y = kP (classOf x == 5) (classOf y == 5) (classOf x == 4) (classOf y == 4) (classOf x == 1) (classOf y == 1) from rfl)
  generalize sgx x y = s at *
  have OI := hid (show bits .or .u64 9218868437227405312 (sgb s) = infX s by rw [infX_eq]; exact or_sgb s _ _ rfl (by omega) (by omega))
  generalize kindP x y = k at *
  generalize classOf x = a at *
  generalize classOf y = b at *
  clear hx hy
  go_enter Tryz.func19, Tryz.ntmps19
  cases n0 : (a == 5)
  · cases n1 : (b == 5)
    · cases i0 : (a == 4)
      · cases z0 : (a == 1)
        · cases i1 : (b == 4)
          · cases z1 : (b == 1)
            · go_wp2_with (first
                | (go_at_call 5; (with_reducible refine (CX.out _).mono ?_); rintro en w1 ⟨rfl, rfl⟩)
                | (go_at_call 5; (with_reducible refine (CY.out _).mono ?_); rintro en w1 ⟨rfl, rfl⟩)
                | (go_at_call 21; (with_reducible refine (SG.out _).mono ?_); rintro en w1 ⟨rfl, rfl⟩))
              go_ret2
              refine ⟨ret2 ?_ ?_, rfl⟩
              · rw [HK.out]
                simp only [n0, kP, spX, Bool.true_or, Bool.or_true, Bool.false_or, Bool.or_false, if_true, if_false, *]
                try (first | exact OI.out | rfl | simp [OI.out])
              · rw [HK.out]
                simp only [n0, kP, Bool.true_or, Bool.or_true, Bool.false_or, Bool.or_false, if_true, if_false, *]
                try (first | rfl | simp)
            · go_wp2_with (first
                | (go_at_call 5; (with_reducible refine (CX.out _).mono ?_); rintro en w1 ⟨rfl, rfl⟩)
                | (go_at_call 5; (with_reducible refine (CY.out _).mono ?_); rintro en w1 ⟨rfl, rfl⟩)
                | (go_at_call 21; (with_reducible refine (SG.out _).mono ?_); rintro en w1 ⟨rfl, rfl⟩))
              go_ret2
              refine ⟨ret2 ?_ ?_, rfl⟩
              · rw [HK.out]
                simp only [n0, kP, spX, Bool.true_or, Bool.or_true, Bool.false_or, Bool.or_false, if_true, if_false, *]
                try (first | exact OI.out | rfl | simp [OI.out])
              · rw [HK.out]
                simp only [n0, kP, Bool.true_or, Bool.or_true, Bool.false_or, Bool.or_false, if_true, if_false, *]
                try (first | rfl | simp)
          · go_wp2_with (first
              | (go_at_call 5; (with_reducible refine (CX.out _).mono ?_); rintro en w1 ⟨rfl, rfl⟩)
              | (go_at_call 5; (with_reducible refine (CY.out _).mono ?_); rintro en w1 ⟨rfl, rfl⟩)
              | (go_at_call 21; (with_reducible refine (SG.out _).mono ?_); rintro en w1 ⟨rfl, rfl⟩))
            go_ret2
            refine ⟨ret2 ?_ ?_, rfl⟩
            · rw [HK.out]
              simp only [n0, kP, spX, Bool.true_or, Bool.or_true, Bool.false_or, Bool.or_false, if_true, if_false, *]
              try (first | exact OI.out | rfl | simp [OI.out])
            · rw [HK.out]
              simp only [n0, kP, Bool.true_or, Bool.or_true, Bool.false_or, Bool.or_false, if_true, if_false, *]
              try (first | rfl | simp)
        · cases i1 : (b == 4)
          · cases z1 : (b == 1)
            · go_wp2_with (first
                | (go_at_call 5; (with_reducible refine (CX.out _).mono ?_); rintro en w1 ⟨rfl, rfl⟩)
                | (go_at_call 5; (with_reducible refine (CY.out _).mono ?_); rintro en w1 ⟨rfl, rfl⟩)
                | (go_at_call 21; (with_reducible refine (SG.out _).mono ?_); rintro en w1 ⟨rfl, rfl⟩))
              go_ret2
              refine ⟨ret2 ?_ ?_, rfl⟩
              · rw [HK.out]
                simp only [n0, kP, spX, Bool.true_or, Bool.or_true, Bool.false_or, Bool.or_false, if_true, if_false, *]
                try (first | exact OI.out | rfl | simp [OI.out])
              · rw [HK.out]
                simp only [n0, kP, Bool.true_or, Bool.or_true, Bool.false_or, Bool.or_false, if_true, if_false, *]
                try (first | rfl | simp)
            · go_wp2_with (first
                | (go_at_call 5; (with_reducible refine (CX.out _).mono ?_); rintro en w1 ⟨rfl, rfl⟩)
                | (go_at_call 5; (with_reducible refine (CY.out _).mono ?_); rintro en w1 ⟨rfl, rfl⟩)
                | (go_at_call 21; (with_reducible refine (SG.out _).mono ?_); rintro en w1 ⟨rfl, rfl⟩))
              go_ret2
              refine ⟨ret2 ?_ ?_, rfl⟩
              · rw [HK.out]
                simp only [n0, kP, spX, Bool.true_or, Bool.or_true, Bool.false_or, Bool.or_false, if_true, if_false, *]
                try (first | exact OI.out | rfl | simp [OI.out])
              · rw [HK.out]
                simp only [n0, kP, Bool.true_or, Bool.or_true, Bool.false_or, Bool.or_false, if_true, if_false, *]
                try (first | rfl | simp)
          · go_wp2_with (first
              | (go_at_call 5; (with_reducible refine (CX.out _).mono ?_); rintro en w1 ⟨rfl, rfl⟩)
              | (go_at_call 5; (with_reducible refine (CY.out _).mono ?_); rintro en w1 ⟨rfl, rfl⟩)
              | (go_at_call 21; (with_reducible refine (SG.out _).mono ?_); rintro en w1 ⟨rfl, rfl⟩))
            go_ret2
            refine ⟨ret2 ?_ ?_, rfl⟩
            · rw [HK.out]
              simp only [n0, kP, spX, Bool.true_or, Bool.or_true, Bool.false_or, Bool.or_false, if_true, if_false, *]
              try (first | exact OI.out | rfl | simp [OI.out])
            · rw [HK.out]
              simp only [n0, kP, Bool.true_or, Bool.or_true, Bool.false_or, Bool.or_false, if_true, if_false, *]
              try (first | rfl | simp)
      · have z0 : (a == 1) = false := by have := beq_iff_eq.1 i0; rw [beq_eq_false_iff_ne]; omega
        cases z1 : (b == 1)
        · cases i1 : (b == 4)
          · go_wp2_with (first
              | (go_at_call 5; (with_reducible refine (CX.out _).mono ?_); rintro en w1 ⟨rfl, rfl⟩)
              | (go_at_call 5; (with_reducible refine (CY.out _).mono ?_); rintro en w1 ⟨rfl, rfl⟩)
              | (go_at_call 21; (with_reducible refine (SG.out _).mono ?_); rintro en w1 ⟨rfl, rfl⟩))
            go_ret2
            refine ⟨ret2 ?_ ?_, rfl⟩
            · rw [HK.out]
              simp only [n0, kP, spX, Bool.true_or, Bool.or_true, Bool.false_or, Bool.or_false, if_true, if_false, *]
              try (first | exact OI.out | rfl | simp [OI.out])
            · rw [HK.out]
              simp only [n0, kP, Bool.true_or, Bool.or_true, Bool.false_or, Bool.or_false, if_true, if_false, *]
              try (first | rfl | simp)
          · go_wp2_with (first
              | (go_at_call 5; (with_reducible refine (CX.out _).mono ?_); rintro en w1 ⟨rfl, rfl⟩)
              | (go_at_call 5; (with_reducible refine (CY.out _).mono ?_); rintro en w1 ⟨rfl, rfl⟩)
              | (go_at_call 21; (with_reducible refine (SG.out _).mono ?_); rintro en w1 ⟨rfl, rfl⟩))
            go_ret2
            refine ⟨ret2 ?_ ?_, rfl⟩
            · rw [HK.out]
              simp only [n0, kP, spX, Bool.true_or, Bool.or_true, Bool.false_or, Bool.or_false, if_true, if_false, *]
              try (first | exact OI.out | rfl | simp [OI.out])
            · rw [HK.out]
              simp only [n0, kP, Bool.true_or, Bool.or_true, Bool.false_or, Bool.or_false, if_true, if_false, *]
              try (first | rfl | simp)
        · go_wp2_with (first
            | (go_at_call 5; (with_reducible refine (CX.out _).mono ?_); rintro en w1 ⟨rfl, rfl⟩)
            | (go_at_call 5; (with_reducible refine (CY.out _).mono ?_); rintro en w1 ⟨rfl, rfl⟩)
            | (go_at_call 21; (with_reducible refine (SG.out _).mono ?_); rintro en w1 ⟨rfl, rfl⟩))
          go_ret2
          refine ⟨ret2 ?_ ?_, rfl⟩
          · rw [HK.out]
            simp only [n0, kP, spX, Bool.true_or, Bool.or_true, Bool.false_or, Bool.or_false, if_true, if_false, *]
            try (first | exact OI.out | rfl | simp [OI.out])
          · rw [HK.out]
            simp only [n0, kP, Bool.true_or, Bool.or_true, Bool.false_or, Bool.or_false, if_true, if_false, *]
            try (first | rfl | simp)
    · go_wp2_with (first
        | (go_at_call 5; (with_reducible refine (CX.out _).mono ?_); rintro en w1 ⟨rfl, rfl⟩)
        | (go_at_call 5; (with_reducible refine (CY.out _).mono ?_); rintro en w1 ⟨rfl, rfl⟩)
        | (go_at_call 21; (with_reducible refine (SG.out _).mono ?_); rintro en w1 ⟨rfl, rfl⟩))
      go_ret2
      refine ⟨ret2 ?_ ?_, rfl⟩
      · rw [HK.out]
        simp only [n0, kP, spX, Bool.true_or, Bool.or_true, Bool.false_or, Bool.or_false, if_true, if_false, *]
        try (first | exact OI.out | rfl | simp [OI.out])
      · rw [HK.out]
        simp only [n0, kP, Bool.true_or, Bool.or_true, Bool.false_or, Bool.or_false, if_true, if_false, *]
        try (first | rfl | simp)
  · go_wp2_with (first
      | (go_at_call 5; (with_reducible refine (CX.out _).mono ?_); rintro en w1 ⟨rfl, rfl⟩)
      | (go_at_call 5; (with_reducible refine (CY.out _).mono ?_); rintro en w1 ⟨rfl, rfl⟩)
      | (go_at_call 21; (with_reducible refine (SG.out _).mono ?_); rintro en w1 ⟨rfl, rfl⟩))
    go_ret2
    refine ⟨ret2 ?_ ?_, rfl⟩
    · rw [HK.out]
      simp only [n0, kP, spX, Bool.true_or, Bool.or_true, Bool.false_or, Bool.or_false, if_true, if_false, *]
      try (first | exact OI.out | rfl | simp [OI.out])
    · rw [HK.out]
      simp only [n0, kP, Bool.true_or, Bool.or_true, Bool.false_or, Bool.or_false, if_true, if_false, *]
      try (first | rfl | simp)
end Go.Proofs.YtpgmchpdpgahfaaGreatDoor

set_option linter.unusedVariables false
set_option linter.unusedSimpArgs false
namespace Go.Ulp
open Go.RowKit
theorem mulD_fv (x y : Int) (hx : 0 ≤ x ∧ x < 18446744073709551616) (hy : 0 ≤ y ∧ y < 18446744073709551616) : (mulD (fv x) (fv y)).1.natAbs < 2 ^ 106 ∧ -2148 ≤ (mulD (fv x) (fv y)).2 ∧ (mulD (fv x) (fv y)).2 ≤ 2154 := by
  obtain ⟨-, a1, a2, a3⟩ := fv_bd x hx.1 hx.2
  obtain ⟨-, b1, b2, b3⟩ := fv_bd y hy.1 hy.2
  have h1 : ((fv x).1 * (fv y).1).natAbs < 2 ^ (53 + 53) := abs_mul_lt a1 b1
  obtain ⟨k1, k2⟩ := nrm_bd ((fv x).1 * (fv y).1) ((fv x).2 + (fv y).2) (53 + 53) h1
  refine ⟨k1, ?_, ?_⟩
  · show -2148 ≤ (nrm _ _).2; rcases k2 with k | k <;> omega
  · show (nrm _ _).2 ≤ 2154; rcases k2 with k | k <;> omega
theorem VD.mk {w : World} {D : Dy} {am : Option Addr} {cm : Nat} (h : Ns .u32 w am cm (limbs D.1.natAbs)) : VD w D (.agg #[.bool (decide (D.1 < 0)), .slice am (limbs D.1.natAbs).length cm, .int .i64 D.2]) := ⟨am, cm, rfl, h⟩
end Go.Ulp
namespace Go.Proofs.YtpgmchpdpgahfaaGreatDoor
open Go.RowKit Go.Ulp
set_option linter.unusedVariables false
set_option linter.unusedSimpArgs false
set_option maxHeartbeats 2000000
set_option maxRecDepth 100000
theorem exact_any (x y : Int) (hx : 0 ≤ x ∧ x < 18446744073709551616) (hy : 0 ≤ y ∧ y < 18446744073709551616) (w : World) (hT : Tab 0 w) :
    Calls Tryz.prog 20 #[.int .u64 x, .int .u64 y] w (RetVD w (mulD (fv x) (fv y))) := by
  have VX := hid (fun w t => value_any x hx.1 hx.2 w t)
  have VY := hid (fun w t => value_any y hy.1 hy.2 w t)
  have HT := hid hT
  obtain ⟨-, bx1, bx2, bx3⟩ := fv_bd x hx.1 hx.2
  obtain ⟨-, by1, by2, by3⟩ := fv_bd y hy.1 hy.2
  have lx := limbs_short 53 2 (by omega) _ bx1
  have ly := limbs_short 53 2 (by omega) _ by1
  have TI := hid (fun v u w h0 h1 t => timesD_any v u (fv x) (fv y) w h0 h1 (by omega) (by omega) ⟨by omega, by omega⟩ ⟨by omega, by omega⟩ t)
  have yb0 := below_alloc w (.cells #[.bool false, .slice none 0 0, .int .i64 0] 43)
  have zR0 : QL 43 (w.alloc (.cells #[.bool false, .slice none 0 0, .int .i64 0] 43)) w.heap.size false (.slice none 0 0) 0 := QL.made rfl
  generalize mulD (fv x) (fv y) = R at *
  generalize fv x = X at *
  generalize fv y = Y at *
  obtain ⟨x0, x1⟩ := hx
  obtain ⟨y0, y1⟩ := hy
  clear hT bx1 bx2 bx3 by1 by2 by3 lx ly
  go_enter Tryz.func20, Tryz.ntmps20
  go_wp2_with (first
    | (go_at_call 18; (with_reducible refine (VX.out _ (HT.out.below yb0)).mono ?_); rintro en w1 ⟨v1, rfl, hv1, hb1⟩; have yb1 := below_trans yb0 hb1)
    | (go_at_call 18; (with_reducible refine (VY.out _ (HT.out.below yb1)).mono ?_); rintro en w2 ⟨v2, rfl, hv2, hb2⟩; have yb2 := below_trans yb1 hb2)
    | (go_at_call 40; (with_reducible refine (TI.out _ _ _ (hv1.below hb2) hv2 (HT.out.below yb2)).mono ?_); rintro en w4 ⟨v4, rfl, ⟨a4, c4, rfl, hN4⟩, hb4⟩; have yb4 := below_trans yb2 hb4; have zR4 := ((zR0.below hb1).below hb2).below hb4; obtain ⟨⟨k0, k1, f0, f1, hs2⟩, k2, f2⟩ := id zR4))
  refine bodyPost_ret (by simp [results, Tryz.results20, go_sem, k0, k1, k2]; try rfl) rfl ?_
  exact ⟨_, rfl, ⟨a4, c4, rfl, hN4.set3 zR4 (by intro x h; cases h) _ _ _⟩, ((yb4.setCell (by first | omega | (simp; done) | (simp; omega)) _).setCell (by first | omega | (simp; done) | (simp; omega)) _).setCell (by first | omega | (simp; done) | (simp; omega)) _⟩
theorem prodMul_any (x y : Int) (hx : 0 ≤ x ∧ x < 18446744073709551616) (hy : 0 ≤ y ∧ y < 18446744073709551616) (mode : Int) (w : World) (hT : Tab 0 w) :
    Calls Tryz.prog 7 #[.int .u64 x, .int .u64 y, .int .i64 mode] w (RetX3 w (mdX mode (pX (kindP x y) (sgx x y) (mulD (fv x) (fv y)) mode)) (mdC mode (pC (kindP x y) (mulD (fv x) (fv y)) mode)) (mdE mode)) := by
  have KN := hid (fun w => known_any mode w)
  have SP := hid (fun w => special_any x y hx hy w)
  have SG := hid (fun w => pSign_any x y hx hy w)
  have EX := hid (fun w t => exact_any x y hx hy w t)
  have HT := hid hT
  have hk3 : kindP x y ≤ 3 := kP_le _ _ _ _ _ _
  have P2 := hid (fun h => prod_zero hx hy h)
  have P3 := hid (fun h => prod_some hx hy h)
  obtain ⟨b1, b2, b3⟩ := mulD_fv x y hx hy
  have l1 := limbs_short 106 4 (by omega) _ b1
  have NU := hid (fun v w h => numberD_any v (mulD (fv x) (fv y)) mode w h (by omega) ⟨by omega, by omega⟩ (nrm_isN _ _))
  generalize kindP x y = k at *
  generalize sgx x y = s at *
  generalize mulD (fv x) (fv y) = D at *
  obtain ⟨x0, x1⟩ := hx
  obtain ⟨y0, y1⟩ := hy
  clear hT b1 b2 b3 l1
  cases hk : knownB mode
  · obtain ⟨e1, e2, e3⟩ := md_no hk (pX k s D mode) (pC k D mode)
    rw [e1, e2, e3]
    rw [hk] at KN
    clear e1 e2 e3 hk
    go_enter Tryz.func7, Tryz.ntmps7
    go_wp2_with (go_at_call 15; (with_reducible refine (KN.out _).mono ?_); rintro en w1 ⟨rfl, rfl⟩)
    refine bodyPost_ret (by simp [results, Tryz.results7, go_sem]; try rfl) rfl ?_
    exact ⟨rfl, Below.refl _ _⟩
  · obtain ⟨e1, e2, e3⟩ := md_yes hk (pX k s D mode) (pC k D mode)
    rw [e1, e2, e3]
    rw [hk] at KN
    clear e1 e2 e3 hk
    obtain rfl | rfl | rfl | rfl : k = 0 ∨ k = 1 ∨ k = 2 ∨ k = 3 := by omega
    · rw [show pX 0 s D mode = 9221120237041090560 from rfl, show pC 0 D mode = false from rfl]
      rw [show spX 0 s = 9221120237041090560 from rfl, show decide (0 < 2) = true from rfl] at SP
      go_enter Tryz.func7, Tryz.ntmps7
      go_wp2_with (first
        | (go_at_call 15; (with_reducible refine (KN.out _).mono ?_); rintro en w1 ⟨rfl, rfl⟩)
        | (go_at_call 19; (with_reducible refine (SP.out _).mono ?_); rintro en w1 ⟨rfl, rfl⟩))
      refine bodyPost_ret (by simp [results, Tryz.results7, go_sem]; try rfl) rfl ?_
      exact ⟨rfl, Below.refl _ _⟩
    · rw [show pX 1 s D mode = infX s from rfl, show pC 1 D mode = false from rfl]
      rw [show spX 1 s = infX s from rfl, show decide (1 < 2) = true from rfl] at SP
      go_enter Tryz.func7, Tryz.ntmps7
      go_wp2_with (first
        | (go_at_call 15; (with_reducible refine (KN.out _).mono ?_); rintro en w1 ⟨rfl, rfl⟩)
        | (go_at_call 19; (with_reducible refine (SP.out _).mono ?_); rintro en w1 ⟨rfl, rfl⟩))
      refine bodyPost_ret (by simp [results, Tryz.results7, go_sem]; try rfl) rfl ?_
      exact ⟨rfl, Below.refl _ _⟩
    · rw [show pX 2 s D mode = sgb s from rfl, show pC 2 D mode = false from rfl]
      rw [show spX 2 s = 0 from rfl, show decide (2 < 2) = false from rfl] at SP
      have hl : (limbs D.1.natAbs).length = 0 := (dy_len D).2 (P2.out rfl)
      unfold RetVD VD at EX
      rw [hl] at EX
      clear hl P2 P3 NU
      go_enter Tryz.func7, Tryz.ntmps7
      go_wp2_with (first
        | (go_at_call 15; (with_reducible refine (KN.out _).mono ?_); rintro en w1 ⟨rfl, rfl⟩)
        | (go_at_call 19; (with_reducible refine (SP.out _).mono ?_); rintro en w1 ⟨rfl, rfl⟩)
        | (go_at_call 21; (with_reducible refine (SG.out _).mono ?_); rintro en w1 ⟨rfl, rfl⟩)
        | (go_at_call 20; (with_reducible refine (EX.out _ HT.out).mono ?_); rintro en w2 ⟨v2, rfl, ⟨a2, c2, rfl, hN2⟩, hb2⟩))
      refine bodyPost_ret (by simp [results, Tryz.results7, go_sem]; try rfl) rfl ?_
      exact ⟨rfl, below_trans hb2 (below_alloc _ _)⟩
    · rw [show pX 3 s D mode = rX D mode from rfl, show pC 3 D mode = rC D mode from rfl]
      rw [show spX 3 s = 0 from rfl, show decide (3 < 2) = false from rfl] at SP
      have hl : 0 < (limbs D.1.natAbs).length := by
        have h9 := (dy_len D).1
        have h8 := P3.out rfl
        rcases Nat.eq_zero_or_pos (limbs D.1.natAbs).length with h | h
        · exact absurd (h9 h) h8
        · exact h
      have hlb : (((limbs D.1.natAbs).length : Int) == 0) = false := beq_eq_false_iff_ne.2 (by omega)
      clear P2 P3
      go_enter Tryz.func7, Tryz.ntmps7
      go_wp2_with (first
        | (go_at_call 15; (with_reducible refine (KN.out _).mono ?_); rintro en w1 ⟨rfl, rfl⟩)
        | (go_at_call 19; (with_reducible refine (SP.out _).mono ?_); rintro en w1 ⟨rfl, rfl⟩)
        | (go_at_call 20; (with_reducible refine (EX.out _ HT.out).mono ?_); rintro en w2 ⟨v2, rfl, ⟨a2, c2, rfl, hN2⟩, hb2⟩)
        | (go_at_call 16; (with_reducible refine (NU.out _ _ (VD.mk (hN2.below (below_alloc _ _)))).mono ?_); rintro en w3 ⟨rfl, hb3⟩))
      refine bodyPost_ret (by simp [results, Tryz.results7, go_sem]; try rfl) rfl ?_
      exact ⟨rfl, below_trans (below_trans hb2 (below_alloc _ _)) hb3⟩
end Go.Proofs.YtpgmchpdpgahfaaGreatDoor


set_option linter.unusedVariables false
set_option linter.unusedSimpArgs false
namespace Go.Ulp
open Go.RowKit
/-- a fresh cell -/
def Fact.cv (B : Nat) (v : Value) : Fact := ⟨fun p w => ∃ g, p = .pointer (some ⟨g, 0, none⟩) ∧ B ≤ g ∧ CV w g v, fun _ _ _ h hb => by
  obtain ⟨g, h1, h2, h3⟩ := h; exact ⟨g, h1, h2, h3.below hb⟩⟩
theorem CV.put {w : World} {g : Nat} {v u : Value} (h : CV w g v) : CV (w.setCell ⟨g, 0, none⟩ u) g u :=
  ⟨World.cell?_setCell_same _ _ _ h.1, by rw [frozen_setCell]; exact h.2⟩
theorem CV.far {w : World} {g b : Nat} {v u : Value} (h : CV w g v) (hne : g ≠ b) : CV (w.setCell ⟨b, 0, none⟩ u) g v :=
  ⟨by rw [World.cell?_setCell_other (h := fun e => hne (congrArg Addr.block e).symm)]; exact h.1, by rw [frozen_setCell]; exact h.2⟩
end Go.Ulp
namespace Go.Proofs.YtpgmchpdpgahfaaGreatDoor
open Go.RowKit Go.Ulp
set_option linter.unusedVariables false
set_option linter.unusedSimpArgs false
set_option maxHeartbeats 2000000
set_option maxRecDepth 100000
end Go.Proofs.YtpgmchpdpgahfaaGreatDoor



set_option linter.unusedVariables false
set_option linter.unusedSimpArgs false
namespace Go.Ulp
open Go.RowKit
/-- a number's size over 2^1200 -/
def qN (x : Int) : Nat := (uV x).natAbs * 2 ^ 126
/-- the bits of a number down to one place -/
def dn (N j : Nat) : Nat := N / 2 ^ j * 2 ^ j
theorem qN_fv (x : Int) (h0 : 0 ≤ x) (h1 : x < 18446744073709551616) (h : classOf x < 4) (hz : classOf x ≠ 1) : 0 < (fv x).1.natAbs ∧ qN x = (fv x).1.natAbs * 2 ^ ((fv x).2 + 1200).toNat := by
  have hu : uV x ≠ 0 := fun e => hz ((uV_zero_iff x h0 h1 h).1 e)
  obtain ⟨k, e1, e2⟩ := nrm_rep (uV x) (-1074)
  rw [← fv_uV x h0 h1 h] at e1 e2
  have e3 := e2 hu
  have hn : (uV x).natAbs = (fv x).1.natAbs * 2 ^ k := by
    conv => lhs; rw [e1]
    rw [natAbs_mul_pw]
  refine ⟨?_, ?_⟩
  · rcases Nat.eq_zero_or_pos (fv x).1.natAbs with h9 | h9
    · rw [h9, Nat.zero_mul] at hn; omega
    · exact h9
  · unfold qN
    rw [hn, Nat.mul_assoc, ← Nat.pow_add]
    congr 2
    omega
end Go.Ulp

set_option linter.unusedVariables false
set_option linter.unusedSimpArgs false
namespace Go.Ulp
open Go.RowKit
theorem fv_sign (x : Int) (h : 0 < (fv x).1.natAbs) : decide ((fv x).1 < 0) = negB x := by
  have hs := sgn_nrm (sg (negB x) (mantOf x)) (dexp x)
  have hm := (mantOf_bd x).1
  have e : (nrm (sg (negB x) (mantOf x)) (dexp x)).1 = (fv x).1 := rfl
  rw [e] at hs
  by_cases hm0 : mantOf x = 0
  · have : (fv x).1 = 0 := by
      show (nrm _ _).1 = 0
      rw [nrm_zero_iff, hm0]; cases negB x <;> rfl
    omega
  · cases hb : negB x
    · rw [hb] at hs
      rw [show sg false (mantOf x) = mantOf x from rfl, show sgn (mantOf x) = 1 from cmpI_g (by omega)] at hs
      refine decide_eq_false (fun h9 => ?_)
      rw [show sgn (fv x).1 = -1 from cmpI_l h9] at hs
      omega
    · rw [hb] at hs
      rw [show sg true (mantOf x) = -mantOf x from rfl, show sgn (-mantOf x) = -1 from cmpI_l (by omega)] at hs
      refine decide_eq_true ?_
      rcases Int.lt_trichotomy (fv x).1 0 with h9 | h9 | h9
      · exact h9
      · omega
      · rw [show sgn (fv x).1 = 1 from cmpI_g h9] at hs; omega
end Go.Ulp
namespace Go.Proofs.YtpgmchpdpgahfaaGreatDoor
open Go.RowKit Go.Ulp
set_option linter.unusedVariables false
set_option linter.unusedSimpArgs false
set_option maxHeartbeats 4000000
set_option maxRecDepth 100000
end Go.Proofs.YtpgmchpdpgahfaaGreatDoor

