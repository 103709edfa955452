/- The law GrowSays walked. -/
import Derived.Test.YthaelmnblgollaaGreatDoorGs4
import Derived.Test.YthaelmnblgollaaGreatDoorGs7
set_option linter.unusedVariables false
set_option linter.unusedSimpArgs false
namespace Go.Ulp
open Go.RowKit
theorem gwE_of (L : List Nat) (x : Nat) (h : prE L = 0) (hv : hasVal (x : Int) = true) : gwE L x = if grF L x L.length = true then 2 else 0 := by unfold gwE; rw [if_pos h, if_pos hv]
theorem gwA_of (L : List Nat) (x : Nat) (h : prE L = 0) (hv : hasVal (x : Int) = true) : gwA L x = grwA L x := by
  unfold gwA grwA
  rw [gwE_of L x h hv]
  cases grF L x L.length <;> rfl
end Go.Ulp
namespace Go.Proofs.YthaelmnblgollaaGreatDoor
open Go.RowKit Go.Ulp
set_option linter.unusedVariables false
set_option linter.unusedSimpArgs false
set_option maxHeartbeats 8000000
set_option maxRecDepth 100000
theorem noDy_any (am : Option Addr) (cm : Nat) (w : World) : Calls Tryz.prog 15 #[.agg #[.bool false, .slice am 0 cm, .int .i64 0]] w fun e w' => e = .returned (.bool true) ∧ Below w.heap.size w w' := by
  have zA : QL 26 (w.alloc (.cells #[.bool false, .slice am 0 cm, .int .i64 0] 26)) w.heap.size false (.slice am 0 cm) 0 := QL.made rfl
  obtain ⟨⟨j0, j1, -, -, -⟩, j2, -⟩ := id zA
  go_enter Tryz.func15, Tryz.ntmps15
  go_wp2_with fail
  refine bodyPost_ret (by simp [results, Tryz.results15, go_sem]; try rfl) rfl ?_
  exact ⟨rfl, below_alloc _ _⟩
theorem growSays_bad (A B : List Nat) (ao bo : Option Addr) (ca cb x : Nat) (w : World) (hA : Ns .u64 w ao ca A) (hB : Ns .u64 w bo cb B) (hAL : ∀ j, lb A j < 18446744073709551616) (hBL : ∀ j, lb B j < 18446744073709551616) (hx : x < 18446744073709551616) (hT : Tab 0 w) (hp : prE A ≠ 0) :
    Calls Tryz.prog 3 #[.slice ao A.length ca, .slice bo B.length cb, .int .u64 (x : Int)] w fun e w' => e = .returned (.bool true) ∧ Below w.heap.size w w' := by
  have e1 : grV A = (0, 0) := by unfold grV; rw [if_neg hp]
  have e2 : gwE A x = prE A := by unfold gwE; rw [if_neg hp]
  have e3 : gwA A x = [] := by unfold gwA; rw [e2, if_neg hp]
  have e4 : jnE A B = prE A := by unfold jnE; rw [if_neg hp]
  have e5 : jnA A B = [] := by unfold jnA; rw [e4, if_neg hp]
  have e6 : cmpD (0, 0) (0, 0) = 0 := cmpD_self _
  have VA := hid (fun w h t => growVal_any ao ca A w h hAL t)
  have SG := hid (fun w h t => growSign_any ao ca A w h hAL t)
  have AD := hid (fun w h t => growAdd_any ao ca A x w h hAL hx t)
  have JN := hid (fun w h k t => growJoin_any ao bo ca cb A B w h k hAL hBL t)
  have PA := hid (fun w h => partsRight_any ao ca A w h hAL)
  have CK := hid (fun w h t => growCheck_any ao ca A w h hAL t)
  rw [e1] at VA SG
  rw [e6] at SG
  rw [e2, e3] at AD
  rw [e4, e5] at JN
  have HA := hid hA
  have HB := hid hB
  have HT := hid hT
  obtain ⟨E, hE⟩ : ∃ E, E = prE A := ⟨_, rfl⟩
  rw [← hE] at VA SG AD JN PA CK hp
  have hp1 : (E == 0) = false := beq_eq_false_iff_ne.2 hp
  have hp2 : (E != 0) = true := bne_iff_ne.2 hp
  have hp3 : (E != E) = false := by simp
  have hp4 : (E == E) = true := beq_self_eq_true E
  clear e1 e2 e3 e4 e5 e6 hA hB hT hE hAL hBL
  go_enter Tryz.func3, Tryz.ntmps3
  go_upto_region 2 with (go_at_call 9; (with_reducible refine (VA.out _ HA.out HT.out).mono ?_); rintro en w1 ⟨v7, rfl, hv7, hb1⟩; obtain ⟨a7, c7, rfl⟩ := hv7.none_form)
  refine wp_wld (fun WW => Below w.heap.size w WW ∧ QL 26 WW w1.heap.size false (.slice a7 0 c7) 0) ⟨below_trans hb1 (below_alloc _ _), QL.made rfl⟩ ?_
  intro W1 ⟨y1, q7⟩
  obtain ⟨g7, hg7⟩ : ∃ g, g = w1.heap.size := ⟨_, rfl⟩
  rw [← hg7] at q7 ⊢
  clear hg7 hv7 hb1 VA
  go_upto_region 9 with (first
    | (go_at_call 10; (with_reducible refine (SG.out _ (HA.out.below y1) (HT.out.below y1)).mono ?_); rintro en w2 ⟨rfl, hb2⟩; have y2 := below_trans y1 hb2)
    | (go_at_call 11; (with_reducible refine (AD.out _ (HA.out.below y2) (HT.out.below y2)).mono ?_); rintro en w3 ⟨a11, c11, rfl, hN11, hb3⟩; have y3 := below_trans y2 hb3)
    | (go_at_call 12; (with_reducible refine (JN.out _ (HA.out.below y3) (HB.out.below y3) (HT.out.below y3)).mono ?_); rintro en w4 ⟨a13, c13, rfl, hN13, hb4⟩; have y4 := below_trans y3 hb4)
    | (go_at_call 13; (with_reducible refine (PA.out _ (HA.out.below y4)).mono ?_); rintro en w5 ⟨rfl, hb5⟩; have y5 := below_trans y4 hb5)
    | (go_at_call 14; (with_reducible refine (CK.out _ (HA.out.below y5) (HT.out.below y5)).mono ?_); rintro en w6 ⟨rfl, hb6⟩; have y6 := below_trans y5 hb6))
  have q76 := ((((q7.below hb2).below hb3).below hb4).below hb5).below hb6
  obtain ⟨⟨j0, j1, -⟩, j2, -⟩ := id q76
  clear y1 y2 y3 y4 y5 hb2 hb3 hb4 hb5 hb6 hN11 hN13 q7 SG AD JN PA CK HA HB HT
  go_wp2_with (go_at_call 15; (refine (noDy_any _ _ _).mono ?_); rintro e w7 ⟨rfl, hb7⟩)
  go_ret
  exact ⟨rfl, below_trans y6 hb7⟩
theorem growSays_good (A B : List Nat) (ao bo : Option Addr) (ca cb x : Nat) (w : World) (hA : Ns .u64 w ao ca A) (hB : Ns .u64 w bo cb B) (hAL : ∀ j, lb A j < 18446744073709551616) (hBL : ∀ j, lb B j < 18446744073709551616) (hx : x < 18446744073709551616) (hT : Tab 0 w) (hp : prE A = 0) :
    Calls Tryz.prog 3 #[.slice ao A.length ca, .slice bo B.length cb, .int .u64 (x : Int)] w fun e w' => e = .returned (.bool true) ∧ Below w.heap.size w w' := by
  have e1 : grV A = grS A := by unfold grV; rw [if_pos hp]
  obtain ⟨p1, p2, -⟩ := prE_zero A hp
  have hbn := (grS_bd 2298 rfl A hAL (by omega)).2
  have VA := hid (fun w h t => growVal_any ao ca A w h hAL t)
  have SG := hid (fun w h t => growSign_any ao ca A w h hAL t)
  have AD := hid (fun w h t => growAdd_any ao ca A x w h hAL hx t)
  have JN := hid (fun w h k t => growJoin_any ao bo ca cb A B w h k hAL hBL t)
  have PA := hid (fun w h => partsRight_any ao ca A w h hAL)
  have CK := hid (fun w h t => growCheck_any ao ca A w h hAL t)
  have PB := hid (fun w h => partsRight_any bo cb B w h hBL)
  have SA := hid (fun w h => sumAllR_any ao ca A w h hAL (by omega) (no_vals A p2))
  have GR := hid (fun w h => grown_any ao ca A x w h hAL hx (by omega))
  have HVX := hid (fun w => rHasValue_any (x : Int) (by omega) (by omega) w)
  rw [e1, hp] at VA SG
  rw [hp] at PA CK
  obtain ⟨D, hD⟩ : ∃ D, D = grS A := ⟨_, rfl⟩
  rw [← hD] at VA SG SA hbn
  have TD := hid (show ∀ v u w, VD w D v → QD 3 w D 250000 1100 u → Calls Tryz.prog 17 #[v, .int .i64 0, u] w fun e w' => e = .returned (.bool true) ∧ Below w.heap.size w w' from fun v u w hv hu => by
    have h9 := told_any v u D 250000 1100 w (by unfold bdD; rw [if_pos hbn]; exact hv) hu (by omega) (by omega)
    unfold bdE at h9
    rwa [if_pos hbn] at h9)
  have QC := hid (fun v u w h0 h1 => qcmp_any v u D (0, 0) 250000 1100 1 0 w h0 h1 (by omega) (by omega) (by omega) (by omega))
  obtain ⟨sg, hsg⟩ : ∃ s, s = cmpD D (0, 0) := ⟨_, rfl⟩
  rw [← hsg] at SG QC
  have hsg1 : (sg != sg) = false := by simp
  have hsg2 : (sg == sg) = true := beq_self_eq_true sg
  have HGE := hid (fun hv => gwE_of A x hp hv)
  have HGA := hid (fun hv => gwA_of A x hp hv)
  have HGN := hid (show hasVal (x : Int) = false → gwE A x = 4 ∧ gwA A x = [] from fun hv => by
    have e : gwE A x = 4 := by unfold gwE; rw [if_pos hp, hv]; rfl
    exact ⟨e, by unfold gwA; rw [e]; rfl⟩)
  have HJB := hid (show prE B ≠ 0 → jnE A B = prE B ∧ jnA A B = [] from fun h => by
    have e : jnE A B = prE B := by unfold jnE; rw [if_pos hp, if_neg h]
    exact ⟨e, by unfold jnA; rw [e, if_neg h]⟩)
  have HJ := hid (show prE B = 0 → jnE A B = if jnR A B B.length = 0 then (if 60 < (jnL A B B.length).length then 2 else 0) else jnR A B B.length from fun h => by unfold jnE; rw [if_pos hp, if_pos h])
  have HJA := hid (show jnA A B = if jnE A B = 0 then jnL A B B.length else [] from rfl)
  have HA := hid hA
  have HB := hid hB
  have HT := hid hT
  have hcapb := hB.1
  have hcapb2 := hB.2.1
  unfold maxLen at hcapb2
  have RM := hid (fun i h => jnR_mono A B i h B.length)
  have RS := hid (show ∀ i, jnR A B (i + 1) = if jnR A B i = 0 then gwE (jnL A B i) (B.getD i 0) else jnR A B i from fun _ => rfl)
  have LS := hid (show ∀ i, jnL A B (i + 1) = gwA (jnL A B i) (B.getD i 0) from fun _ => rfl)
  have LL := hid (fun i => jnL_lt A B (allLt_of hAL) hBL i)
  have LEN := hid (fun i h => jnL_len A B i hp h)
  have HBL := hid hBL
  have HNB := hid (show prE B = 0 → ∀ j, j < B.length → hasVal (lb B j) = true from fun h => no_vals B (prE_zero B h).2.1)
  clear hA hB hT hAL hBL e1 hp p1 p2 hD hsg hbn hx
  go_enter Tryz.func3, Tryz.ntmps3
  go_upto_region 2 with (go_at_call 9; (with_reducible refine (VA.out _ HA.out HT.out).mono ?_); rintro en w1 ⟨v7, rfl, ⟨a7, c7, rfl, hN7⟩, hb1⟩)
  refine wp_wld (fun WW => Below w.heap.size w WW ∧ QL 26 WW w1.heap.size (decide (D.1 < 0)) (.slice a7 (limbs D.1.natAbs).length c7) D.2 ∧ Ns .u32 WW a7 c7 (limbs D.1.natAbs)) ⟨below_trans hb1 (below_alloc _ _), QL.made rfl, hN7.below (below_alloc _ _)⟩ ?_
  intro W1 ⟨y1, q7, n7⟩
  obtain ⟨g7, hg7⟩ : ∃ g, g = w1.heap.size := ⟨_, rfl⟩
  rw [← hg7] at q7 ⊢
  clear hg7 hN7 hb1 VA
  go_upto_region 10 with (first
    | (go_at_call 10; (with_reducible refine (SG.out _ (HA.out.below y1) (HT.out.below y1)).mono ?_); rintro en w2 ⟨rfl, hb2⟩; have y2 := below_trans y1 hb2)
    | (go_at_call 11; (with_reducible refine (AD.out _ (HA.out.below y2) (HT.out.below y2)).mono ?_); rintro en w3 ⟨a11, c11, rfl, hN11, hb3⟩; have y3 := below_trans y2 hb3)
    | (go_at_call 12; (with_reducible refine (JN.out _ (HA.out.below y3) (HB.out.below y3) (HT.out.below y3)).mono ?_); rintro en w4 ⟨a13, c13, rfl, hN13, hb4⟩; have y4 := below_trans y3 hb4)
    | (go_at_call 13; (with_reducible refine (PA.out _ (HA.out.below y4)).mono ?_); rintro en w5 ⟨rfl, hb5⟩; have y5 := below_trans y4 hb5)
    | (go_at_call 14; (with_reducible refine (CK.out _ (HA.out.below y5) (HT.out.below y5)).mono ?_); rintro en w6 ⟨rfl, hb6⟩; have y6 := below_trans y5 hb6))
  have q76 := ((((q7.below hb2).below hb3).below hb4).below hb5).below hb6
  have n76 := ((((n7.below hb2).below hb3).below hb4).below hb5).below hb6
  have N11 := ((hN11.below hb4).below hb5).below hb6
  have N13 := (hN13.below hb5).below hb6
  refine wp_wld (fun WW => Below w.heap.size w WW ∧ QL 26 WW g7 (decide (D.1 < 0)) (.slice a7 (limbs D.1.natAbs).length c7) D.2 ∧ Ns .u32 WW a7 c7 (limbs D.1.natAbs) ∧ Ns .u64 WW a11 c11 (gwA A x) ∧ Ns .u64 WW a13 c13 (jnA A B)) ⟨y6, q76, n76, N11, N13⟩ ?_
  clear y1 y2 y3 y4 y5 y6 hb2 hb3 hb4 hb5 hb6 hN11 hN13 q7 n7 q76 n76 N11 N13 SG AD JN PA CK
  intro W6 ⟨y6, q7, n7, N11, N13⟩
  go_upto_region 11 with (go_at_call 16; (with_reducible refine (SA.out _ (HA.out.below y6)).mono ?_); rintro en w7 ⟨v16, rfl, hq16, hb7⟩; obtain ⟨X16, n16, a16, c16, rfl, hN16, hD16⟩ := id hq16)
  refine wp_wld (fun WW => Below w.heap.size w WW ∧ QW 41 3 WW w7.heap.size D 250000 1100 X16 n16 a16 c16 ∧ QL 26 WW g7 (decide (D.1 < 0)) (.slice a7 (limbs D.1.natAbs).length c7) D.2 ∧ Ns .u32 WW a7 c7 (limbs D.1.natAbs) ∧ Ns .u64 WW a11 c11 (gwA A x) ∧ Ns .u64 WW a13 c13 (jnA A B)) ⟨below_trans (below_trans y6 hb7) (below_alloc _ _), QW.made hq16, (q7.below hb7).alloc _, (n7.below hb7).below (below_alloc _ _), (N11.below hb7).below (below_alloc _ _), (N13.below hb7).below (below_alloc _ _)⟩ ?_
  clear q7 n7 N11 N13
  intro W7 ⟨y7, q16, q7, n7, N11, N13⟩
  obtain ⟨g16, hg16⟩ : ∃ g, g = w7.heap.size := ⟨_, rfl⟩
  rw [← hg16] at q16 ⊢
  clear hg16 hq16 hN16 hD16 hb7 y6 SA
  have hVD : VD W7 D (.agg #[.bool (decide (D.1 < 0)), .slice a7 (limbs D.1.natAbs).length c7, .int .i64 D.2]) := ⟨a7, c7, rfl, n7⟩
  obtain ⟨⟨j0, j1, -⟩, j2, -⟩ := id q7
  obtain ⟨i0, i1, i2⟩ := q16.cells
  go_upto_region 13 with (first
    | (go_at_call 17; (with_reducible refine (TD.out _ _ _ hVD q16.qd).mono ?_); rintro en w8 ⟨rfl, hb8⟩; have q168 := q16.below hb8; obtain ⟨k0, k1, k2⟩ := q168.cells)
    | (go_at_call 18; (with_reducible refine (QC.out _ _ _ q168.qd (QD.zero (by omega))).mono ?_); rintro en w9 ⟨rfl, hb9⟩))
  have y9 := below_trans (below_trans y7 hb8) hb9
  have M11 := (N11.below hb8).below hb9
  have M13 := (N13.below hb8).below hb9
  clear j0 j1 j2 i0 i1 i2 k0 k1 k2 q168 q16 q7 n7 hVD N11 N13 hb8 hb9 y7 TD QC
  obtain ⟨W9, hW9⟩ : ∃ W, W = w9 := ⟨_, rfl⟩
  subst hW9
  obtain ⟨bv, hbv⟩ : ∃ b, b = hasVal (x : Int) := ⟨_, rfl⟩
  rw [← hbv] at HVX
  have HBV := hid hbv.symm
  clear hbv
  go_upto_if 112 with (go_at_call 19; (with_reducible refine (HVX.out _).mono ?_); rintro en w10 ⟨rfl, rfl⟩)
  obtain ⟨GE, hGE⟩ : ∃ E, E = gwE A x := ⟨_, rfl⟩
  obtain ⟨GA, hGA⟩ : ∃ E, E = gwA A x := ⟨_, rfl⟩
  have HG4 := hid (show bv = false → GE = 4 ∧ GA = [] from fun h => by rw [hGE, hGA]; exact HGN.out (HBV.out.trans h))
  have HG1 := hid (show bv = true → GE = if grF A x A.length = true then 2 else 0 from fun h => by rw [hGE]; exact HGE.out (HBV.out.trans h))
  have HG2 := hid (show bv = true → GA = grwA A x from fun h => by rw [hGA]; exact HGA.out (HBV.out.trans h))
  rw [← hGA] at M11 ⊢
  rw [← hGE]
  clear hGE hGA HGE HGA HGN HBV HVX
  go_cut [17, 18] (fun _ _ wx => Below W9.heap.size W9 wx)
  case first => as_aux_lemma =>
    clear HJB HJ HJA RM RS LS LL LEN HBL HNB PB HB M13 hcapb hcapb2 hsg1 hsg2
    cases bv
    · obtain ⟨e1, e2⟩ := HG4.out rfl
      subst e1
      subst e2
      clear GR HG4 HG1 HG2
      go_wp2_with fail
      go_meet
      exact Below.refl _ _
    · have e1 := HG1.out rfl
      have e2 := HG2.out rfl
      rw [← e2] at GR
      have EQ2 := hid (show ∀ a c w, Ns .u64 w a11 c11 GA → Ns .u64 w a c GA → Calls Tryz.prog 21 #[.slice a11 GA.length c11, .slice a GA.length c] w fun e w' => e = .returned (.bool true) ∧ Below w.heap.size w w' from fun a c w h h2 => by
        have h9 := equal64_any a11 a c11 c GA GA w h h2
        rwa [decide_eq_true rfl] at h9)
      cases hf : grF A x A.length
      · have hg0 : GE = 0 := by rw [e1, hf]; rfl
        rw [hf] at GR
        subst hg0
        clear e1 e2 hf HG4 HG1 HG2
        go_wp2_with (first
          | (go_at_call 20; (with_reducible refine (GR.out _ (HA.out.below y9)).mono ?_); rintro en w11 ⟨a17, c17, rfl, hN17, hb11⟩)
          | (go_at_call 21; (with_reducible refine (EQ2.out _ _ _ (M11.below hb11) hN17).mono ?_); rintro en w12 ⟨rfl, hb12⟩))
        go_meet
        exact below_trans hb11 hb12
      · have hg0 : GE = 2 := by rw [e1, hf]; rfl
        rw [hf] at GR
        subst hg0
        clear e1 e2 hf HG4 HG1 HG2
        go_wp2_with (first
          | (go_at_call 20; (with_reducible refine (GR.out _ (HA.out.below y9)).mono ?_); rintro en w11 ⟨a17, c17, rfl, hN17, hb11⟩)
          | (go_at_call 21; (with_reducible refine (EQ2.out _ _ _ (M11.below hb11) hN17).mono ?_); rintro en w12 ⟨rfl, hb12⟩))
        go_meet
        exact below_trans hb11 hb12
  case rest =>
    have y10 := below_trans y9 hcut
    have P13 := M13.below hcut
    clear y9 hcut M13 M11 GR HG4 HG1 HG2
    obtain ⟨W10, hW10⟩ : ∃ W, W = wc := ⟨_, rfl⟩
    subst hW10
    obtain ⟨JE, hJE9⟩ : ∃ E, E = jnE A B := ⟨_, rfl⟩
    obtain ⟨JA, hJA9⟩ : ∃ E, E = jnA A B := ⟨_, rfl⟩
    rw [← hJE9] at HJB HJ HJA ⊢
    rw [← hJA9] at HJB HJA P13 ⊢
    clear hJE9 hJA9
    by_cases hpb : prE B = 0
    · have HJ2 := hid (HJ.out hpb)
      have HNB2 := hid (HNB.out hpb)
      rw [hpb] at PB
      clear HJB HJ HNB hpb
      go_upto_region 22 with (go_at_call 13; (with_reducible refine (PB.out _ (HB.out.below y10)).mono ?_); rintro en w11 ⟨rfl, hb11⟩)
      have y11 := below_trans y10 hb11
      have Q13 := P13.below hb11
      obtain ⟨W11, hW11⟩ : ∃ W, W = w11 := ⟨_, rfl⟩
      subst hW11
      have HA11 := hid (HA.out.below y11)
      clear y10 hb11 P13 PB
      go_wp2_with fail
      go_loopw [20, 22, 23, 24, 25, 159] (fun s20 _ _ _ _ s159 wr => ∃ (i : Nat) (a : Option Addr) (c : Nat), s159 = .int .i64 (i : Int) ∧ i ≤ B.length ∧ s20 = .slice a (jnL A B i).length c ∧ Ns .u64 wr a c (jnL A B i) ∧ jnR A B i = 0 ∧ Below W11.heap.size W11 wr) (fun _ _ _ _ _ i _ => (B.length - (intOf i).toNat))
      case atStart => exact ⟨0, ao, ca, rfl, by omega, rfl, HA11.out, rfl, Below.refl _ _⟩
      case round =>
        obtain ⟨i, a, c, rfl, hi, rfl, hN, hR, yr⟩ := hrel
        have HR := hid hR
        have HN := hid hN
        have hlen := LEN.out i hR
        have yw := below_trans y11 yr
        clear hN hR
        by_cases hi2 : (i : Int) < (B.length : Int)
        · obtain ⟨b0, o0, rfl, hc0⟩ := HB.out.2.2 (by omega)
          have k0 := (yw.cell (p := ⟨b0, o0 + i, none⟩) (World.block_lt_of_cell? _ _ (hc0 i (by omega)))).trans (hc0 i (by omega))
          have hk1 : wr.cell? ⟨b0, o0 + i, none⟩ = some (.int .u64 ((B.getD i 0 : Nat) : Int)) := k0
          have hyl : B.getD i 0 < 18446744073709551616 := by have := HBL.out i; unfold lb at this; omega
          have hyv : hasVal ((B.getD i 0 : Nat) : Int) = true := HNB2.out i (by omega)
          have PN := hid (fun w h => partsRight_any a c (jnL A B i) w h (fun j => lb_of_lt (LL.out i) j))
          have GR := hid (fun w h => grown_any a c (jnL A B i) (B.getD i 0) w h (fun j => lb_of_lt (LL.out i) j) hyl (by omega))
          have HRS := hid (show jnR A B (i + 1) = gwE (jnL A B i) (B.getD i 0) by rw [RS.out i, HR.out]; rfl)
          have HLS := hid (LS.out i)
          have RM1 := hid (fun h => RM.out (i + 1) h (by omega))
          have HGE := hid (fun h => gwE_of (jnL A B i) (B.getD i 0) h hyv)
          have HGA := hid (fun h => gwA_of (jnL A B i) (B.getD i 0) h hyv)
          have HGX := hid (show prE (jnL A B i) ≠ 0 → gwE (jnL A B i) (B.getD i 0) = prE (jnL A B i) from fun h => by unfold gwE; rw [if_neg h])
          obtain ⟨y, hy⟩ : ∃ y, y = B.getD i 0 := ⟨_, rfl⟩
          rw [← hy] at hk1 GR HRS HLS HGE HGA HGX
          obtain ⟨N, hNN⟩ : ∃ N, N = jnL A B i := ⟨_, rfl⟩
          rw [← hNN] at PN GR HRS HLS HN hlen HGE HGA HGX ⊢
          clear k0 hc0 hy hyl hyv hNN RM RS LS LL LEN HBL HNB2
          by_cases hE0 : prE N = 0
          · have hge := HGE.out hE0
            have hga := HGA.out hE0
            rw [hE0] at PN
            cases hf : grF N y N.length
            · have HR2 := hid (show jnR A B (i + 1) = 0 by rw [HRS.out, hge, hf]; rfl)
              have HL2 := hid (show jnL A B (i + 1) = grwA N y by rw [HLS.out, hga])
              rw [hf] at GR
              obtain ⟨G, hG⟩ : ∃ G9, G9 = grwA N y := ⟨_, rfl⟩
              rw [← hG] at GR HL2
              clear hE0 hge hga hf HGE HGA HGX RM1 HRS HLS HJ2 HJA hG
              go_wp2_with (first
                | (go_at_call 13; (with_reducible refine (PN.out _ HN.out).mono ?_); rintro en w12 ⟨rfl, hb12⟩)
                | (go_at_call 20; (with_reducible refine (GR.out _ (HN.out.below hb12)).mono ?_); rintro en w13 ⟨a3, c3, rfl, hN3, hb13⟩))
              go_roundw
              case rel => exact ⟨i + 1, a3, c3, by go_num, by omega, by rw [HL2.out], by rw [HL2.out]; exact hN3, HR2.out, below_trans (below_trans yr hb12) hb13⟩
              case measure => first | (simp [intOf]; done) | (simp [intOf]; omega)
            · have HE : JE = 2 := by
                have h1 : jnR A B (i + 1) = 2 := by rw [HRS.out, hge, hf]; rfl
                have h9 := RM1.out (by rw [h1]; omega)
                rw [HJ2.out, h9, h1, if_neg (by omega)]
              have HAA : JA = [] := by rw [HJA.out, HE]; rfl
              rw [hf] at GR
              obtain ⟨G, hG⟩ : ∃ G9, G9 = grwA N y := ⟨_, rfl⟩
              rw [← hG] at GR
              subst HE
              subst HAA
              clear hE0 hge hga hf HGE HGA HGX RM1 HRS HLS HJ2 HJA hG
              go_wp2_with (first
                | (go_at_call 13; (with_reducible refine (PN.out _ HN.out).mono ?_); rintro en w12 ⟨rfl, hb12⟩)
                | (go_at_call 20; (with_reducible refine (GR.out _ (HN.out.below hb12)).mono ?_); rintro en w13 ⟨a3, c3, rfl, hN3, hb13⟩))
              go_ret
              exact ⟨rfl, below_trans (below_trans yw hb12) hb13⟩
          · have hgx := HGX.out hE0
            obtain ⟨E, hE⟩ : ∃ E, E = prE N := ⟨_, rfl⟩
            rw [← hE] at hgx PN hE0
            have HE : JE = E := by
              have h1 : jnR A B (i + 1) = E := by rw [HRS.out, hgx]
              have h9 := RM1.out (by rw [h1]; exact hE0)
              rw [HJ2.out, h9, h1, if_neg hE0]
            have HAA : JA = [] := by rw [HJA.out, HE, if_neg hE0]
            subst HE
            subst HAA
            have hp1 : (JE == 0) = false := beq_eq_false_iff_ne.2 hE0
            have hp2 : (JE != 0) = true := bne_iff_ne.2 hE0
            have hp4 : (JE == JE) = true := beq_self_eq_true JE
            clear hE0 hgx hE HGE HGA HGX RM1 HRS HLS HJ2 HJA GR
            go_wp2_with (go_at_call 13; (with_reducible refine (PN.out _ HN.out).mono ?_); rintro en w12 ⟨rfl, hb12⟩)
            go_ret
            exact ⟨rfl, below_trans yw hb12⟩
        · have hie : i = B.length := by omega
          subst hie
          have HJ3 := hid (show JE = if 60 < (jnL A B B.length).length then 2 else 0 by rw [HJ2.out, HR.out]; rfl)
          obtain ⟨N, hNN⟩ : ∃ N, N = jnL A B B.length := ⟨_, rfl⟩
          rw [← hNN] at HN hlen HJ3 HJA ⊢
          clear hNN RM RS LS LL LEN HBL HNB2 HJ2
          by_cases h60 : 60 < N.length
          · have HE : JE = 2 := by rw [HJ3.out, if_pos h60]
            have HAA : JA = [] := by rw [HJA.out, HE]; rfl
            have h61 : 60 < (N.length : Int) := by omega
            subst HE
            subst HAA
            clear HJ3 HJA h60
            go_wp2_with fail
            go_ret
            exact ⟨rfl, yw⟩
          · have HE : JE = 0 := by rw [HJ3.out, if_neg h60]
            have HAA : JA = N := by rw [HJA.out, HE]; rfl
            have h61 : ¬ 60 < (N.length : Int) := by omega
            subst HE
            subst HAA
            have EQ2 := hid (show ∀ w, Ns .u64 w a13 c13 JA → Ns .u64 w a c JA → Calls Tryz.prog 21 #[.slice a13 JA.length c13, .slice a JA.length c] w fun e w' => e = .returned (.bool true) ∧ Below w.heap.size w w' from fun w h h2 => by
              have h9 := equal64_any a13 a c13 c JA JA w h h2
              rwa [decide_eq_true rfl] at h9)
            clear HJ3 HJA h60
            go_wp2_with (go_at_call 21; (with_reducible refine (EQ2.out _ (Q13.below yr) HN.out).mono ?_); rintro en w12 ⟨rfl, hb12⟩)
            go_ret
            exact ⟨rfl, below_trans yw hb12⟩
    · obtain ⟨e1, e2⟩ := HJB.out hpb
      subst e2
      rw [e1]
      obtain ⟨E, hE⟩ : ∃ E, E = prE B := ⟨_, rfl⟩
      rw [← hE] at PB hpb ⊢
      have hp1 : (E == 0) = false := beq_eq_false_iff_ne.2 hpb
      have hp2 : (E != 0) = true := bne_iff_ne.2 hpb
      have hp4 : (E == E) = true := beq_self_eq_true E
      clear hE hpb HJ HJA RM RS LS LL LEN HBL HNB e1 HJB
      go_wp2_with (go_at_call 13; (with_reducible refine (PB.out _ (HB.out.below y10)).mono ?_); rintro en w11 ⟨rfl, hb11⟩)
      go_ret
      exact ⟨rfl, below_trans y10 hb11⟩
theorem growSays_walk (A : List Nat) (ao : Option Addr) (ca : Nat) (B : List Nat) (bo : Option Addr) (cb : Nat) (x : Int) (W : World) (hA : Ns .u64 W ao ca A) (hAl : AllLt 18446744073709551616 A) (hB : Ns .u64 W bo cb B) (hBl : AllLt 18446744073709551616 B) (hx : 0 ≤ x ∧ x ≤ 18446744073709551615) (hT : Tab 0 W) :
    Calls Tryz.prog 3 #[.slice ao A.length ca, .slice bo B.length cb, .int .u64 x] W fun e w' => e = .returned (.bool true) ∧ Below W.heap.size W w' := by
  obtain ⟨n, rfl⟩ := Int.eq_ofNat_of_zero_le hx.1
  by_cases hp : prE A = 0
  · exact growSays_good A B ao bo ca cb n W hA hB (fun j => lb_lt (by omega) hAl j) (fun j => lb_lt (by omega) hBl j) (by omega) hT hp
  · exact growSays_bad A B ao bo ca cb n W hA hB (fun j => lb_lt (by omega) hAl j) (fun j => lb_lt (by omega) hBl j) (by omega) hT hp
end Go.Proofs.YthaelmnblgollaaGreatDoor
