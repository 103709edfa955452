/- HexReads: what the proof leans on, part 3 (Hr12 Hr13). -/
import Derived.Test.YthaelmnblgollaaGreatDoorKHexReads2
set_option linter.unusedVariables false
set_option linter.unusedSimpArgs false
namespace Go.Proofs.YthaelmnblgollaaGreatDoor
open Go.RowKit Go.Ulp
set_option linter.unusedVariables false
set_option linter.unusedSimpArgs false
set_option maxHeartbeats 4000000
set_option maxRecDepth 100000
/-- a number is handed back through the result's cell: yb (Below), z3 (the cell), n9 (the number's digits) -/
theorem hrd_core (L T0 T HD X W PA X2 A : List UInt8) (neg ok is dn pl sgn : Bool) (rn : Bool) (rz rk rs : Int) (w : World) (hl : L.length ≤ 1000)
    (eT0 : rdT L = T0) (en : Lib.hasPrefix L [45] = neg) (eok : Lib.hasPrefix T0 [48, 120] = ok) (eT : hrT L = T) (eHD : upTo 112 T = HD) (eX : rfX T = X) (eis : T.contains 112 = is) (eW : rfW T = W) (ePA : rfP T = PA) (eA : W ++ PA = A)
    (edn : Lib.hasPrefix X [45] = dn) (epl : Lib.hasPrefix X [43] = pl) (esg : sgn = (dn || pl)) (eX2 : rfX2 T = X2)
    (hno : (ok = false ∨ is = false ∨ A = [] ∨ ¬ AllHx A ∨ ¬ (1 ≤ X2.length ∧ X2.length ≤ 5) ∨ ¬ AllDg X2) → rn = false ∧ rz = 0 ∧ rk = 0 ∧ rs = 5)
    (hyes : ok = true → is = true → A ≠ [] → AllHx A → (1 ≤ X2.length ∧ X2.length ≤ 5) → AllDg X2 → rn = neg ∧ rz = ((hvl A : Nat) : Int) ∧ rk = (if dn = true then -((dvl X2 : Nat) : Int) else ((dvl X2 : Nat) : Int)) - 4 * (PA.length : Int) ∧ rs = 0) :
    Calls Tryz.prog 46 #[.string (bsOf L)] w (RetHr w rn rz rk rs) := by
  have hsz := bs_size L
  have lT0 : T0.length ≤ 1000 := by rw [← eT0]; exact Nat.le_trans (trimPrefix_len L [45]) hl
  have lT : T.length ≤ 1000 := by rw [← eT]; exact Nat.le_trans (hrT_len L) hl
  have lHD : HD.length ≤ T.length := by rw [← eHD]; exact upTo_len 112 T
  have hfl : ∀ (c : UInt8) (M : List UInt8), (upTo c M).length + (from1 c M).length ≤ M.length := fun c M => by
    have h := congrArg List.length (show upTo c M ++ M.dropWhile (fun b => b != c) = M from List.takeWhile_append_dropWhile)
    rw [List.length_append] at h
    unfold from1
    rw [List.length_drop]; omega
  have lX : X.length ≤ 1000 := by rw [← eX]; unfold rfX; have := hfl 112 T; omega
  have lWP : W.length + PA.length ≤ 1000 := by
    rw [← eW, ← ePA]; unfold rfW rfP; rw [eHD]; have := hfl 46 HD; omega
  have eX2' : (sgn = true → X2 = X.drop 1) ∧ (sgn = false → X2 = X) := by
    rw [← eX2]
    unfold rfX2 rfDn
    rw [eX, edn, epl, ← esg]
    exact ⟨fun h => by rw [h, if_pos rfl], fun h => by rw [h, if_neg (by decide)]⟩
  have hr1 : sgn = true → 1 ≤ X.length := fun h => hx_r4 X dn pl edn epl (by rw [← esg]; exact h)
  have lX2 : X2.length ≤ 1000 := by
    cases hs : sgn
    · rw [eX2'.2 hs]; exact lX
    · rw [eX2'.1 hs, List.length_drop]; omega
  have H1 := hid (show ∀ w, Calls Tryz.prog 110 #[.string (bsOf L), .string ⟨#[45]⟩] w fun e w' => e = .returned (.bool neg) ∧ w = w' from fun w => by
    have h := hasP_any L [45] w
    rw [en] at h; exact h)
  have TP := hid (show ∀ w, Calls Tryz.prog 122 #[.string (bsOf L), .string ⟨#[45]⟩] w fun e w' => e = .returned (.string (bsOf T0)) ∧ w = w' from fun w => by
    have h := Tryz.strings_TrimPrefix (bsOf L) ⟨#[45]⟩ w
    rw [bs_list] at h; rw [← eT0]; exact h.mono (fun e w1 ⟨h1, h2⟩ => ⟨h1, h2.symm⟩))
  have H2 := hid (show ∀ w, Calls Tryz.prog 110 #[.string (bsOf T0), .string ⟨#[48, 120]⟩] w fun e w' => e = .returned (.bool ok) ∧ w = w' from fun w => by
    have h := hasP_any T0 [48, 120] w
    rw [eok] at h; exact h)
  have S0 : ok = true → ∀ w, (Instr.slice 9 (.string (bsOf T0)) (some (.int .i64 2)) none none).run Tryz.prog w = .ok (.string (bsOf T)) w := fun h w => by
    obtain ⟨g1, g2⟩ := hrT_drop L (by rw [eT0, eok]; exact h)
    rw [eT0] at g1 g2
    have h9 := slice_from (P := Tryz.prog) Tryz.underlying9 T0 2 (by omega) (by omega) w
    rw [h9, ← eT, ← g1]; rfl
  have U1 := hid (show ∀ w, Calls Tryz.prog 123 #[.string (bsOf T), .string ⟨#[112]⟩] w fun e w' => e = .returned (.tuple #[.string (bsOf HD), .string (bsOf X), .bool is]) ∧ Below w.heap.size w w' from fun w => by
    have h := strCut_any T 112 w (by omega)
    rw [eHD, eis, show from1 112 T = X from eX] at h; exact h)
  have U2 := hid (show ∀ w, Calls Tryz.prog 123 #[.string (bsOf HD), .string ⟨#[46]⟩] w fun e w' => e = .returned (.tuple #[.string (bsOf W), .string (bsOf PA), .bool (HD.contains 46)]) ∧ Below w.heap.size w w' from fun w => by
    have h := strCut_any HD 46 w (by omega)
    rw [show upTo 46 HD = W by rw [← eHD]; exact eW, show from1 46 HD = PA by rw [← eHD]; exact ePA] at h; exact h)
  have ka := add_bs (P := Tryz.prog) W PA (by omega)
  rw [eA] at ka
  have lA : A.length ≤ 1000 := by rw [← eA, List.length_append]; omega
  have TH := hid (fun w => trimHxs_any A w (by omega))
  have H3 := hid (show ∀ w, Calls Tryz.prog 110 #[.string (bsOf X), .string ⟨#[45]⟩] w fun e w' => e = .returned (.bool dn) ∧ w = w' from fun w => by
    have h := hasP_any X [45] w
    rw [edn] at h; exact h)
  have H4 := hid (show ∀ w, Calls Tryz.prog 110 #[.string (bsOf X), .string ⟨#[43]⟩] w fun e w' => e = .returned (.bool pl) ∧ w = w' from fun w => by
    have h := hasP_any X [43] w
    rw [epl] at h; exact h)
  have S1 : sgn = true → ∀ w, (Instr.slice 9 (.string (bsOf X)) (some (.int .i64 1)) none none).run Tryz.prog w = .ok (.string (bsOf X2)) w := fun h w => by
    have h9 := slice_from (P := Tryz.prog) Tryz.underlying9 X 1 (by omega) (by have := hr1 h; omega) w
    rw [h9, eX2'.1 h]; rfl
  have S2 : sgn = false → bsOf X = bsOf X2 := fun h => by rw [eX2'.2 h]
  have TD := hid (fun w => trimDgs_any X2 w (by omega))
  obtain ⟨n, hn⟩ : ∃ n, n = X2.length := ⟨_, rfl⟩
  have BT := hid (fun w => between_any (n : Int) 1 5 w)
  have hnz : (bsOf X2).size = n := by rw [bs_size, hn]
  have HY := hid hyes
  have HN := hid hno
  have HSG := hid esg
  have HX2 := hid hn
  have hAe : (bsOf A).toList.isEmpty = A.isEmpty := by rw [bs_toList]
  obtain ⟨m, hm⟩ : ∃ m, m = PA.length := ⟨_, rfl⟩
  have hPAz : (bsOf PA).size = m := by rw [bs_size, hm]
  have HM := hid (show m ≤ 1000 ∧ m = PA.length from ⟨by omega, hm⟩)
  have HLA := hid lA
  have HLX := hid lX2
  clear eT0 en eok eT eHD eX eis eW ePA eA edn epl esg eX2 hno hyes lT0 lT lHD hfl lX lWP eX2' hr1 hn hm lA lX2
  generalize HD.contains 46 = dot at *
  go_enter Tryz.func46, Tryz.ntmps46
  go_upto_region 1 with fail
  have n0 : ∀ w, Nz 3 w none 0 (zl 0) := fun w => Nz.nil' none 0 (by decide)
  refine wp_worldZ (fun WW => Below w.heap.size w WW ∧ ZV 39 3 WW w.heap.size 0) ⟨below_alloc _ _, zv_made (n0 _) _ rfl⟩ ?_
  intro W1 ⟨y1, z3⟩
  obtain ⟨g3, hg3⟩ : ∃ g, g = w.heap.size := ⟨_, rfl⟩
  have b3 : w.heap.size ≤ g3 := by omega
  rw [← hg3] at z3 ⊢
  clear hg3
  go_upto_if 30 with (first
    | (go_at_call 110; first | ((with_reducible refine (H1.out _).mono ?_); rintro en w1 ⟨rfl, rfl⟩) | ((with_reducible refine (H2.out _).mono ?_); rintro en w1 ⟨rfl, rfl⟩))
    | (go_at_call 122; (with_reducible refine (TP.out _).mono ?_); rintro en w1 ⟨rfl, rfl⟩))
  clear H1 H2 TP hsz
  cases ok
  · obtain ⟨rfl, e2, rfl, rfl⟩ := HN.out (.inl rfl)
    have NO := hid (fun w => hno_at w rz e2)
    clear e2
    clear HN HY U1 U2 TH TD BT H3 H4 S0 S1 S2 HSG HX2 HM HLA HLX ka
    go_wp2_with (go_at_call 121; (with_reducible refine (NO.out _).mono ?_); rintro en w9 ⟨v9, rfl, ⟨a9, c9, rfl, n9⟩, hb9⟩; obtain ⟨a8, c8, zl8, n8⟩ := (z3).below hb9; have HS := hid (zv_store1 (by decide) (below_trans y1 hb9) b3 zl8 (x := rz) n9); obtain ⟨j0, j1, jf0, jf1, -⟩ := id zl8)
    have zst := HS.out
    obtain ⟨a7, c7, zl7, n7⟩ := id zst.2
    obtain ⟨m0, m1, -⟩ := id zl7
    refine bodyPost_ret (by simp [results, Tryz.results46, go_sem, m0, m1]; try rfl) rfl ?_
    exact ⟨_, rfl, ⟨a7, c7, rfl, n7⟩, zst.1⟩
  replace S0 := S0 rfl
  go_upto_region 10 with (go_at_call 123; first | ((with_reducible refine (U1.out _).mono ?_); rintro en w1 ⟨rfl, hb1⟩) | ((with_reducible refine (U2.out _).mono ?_); rintro en w2 ⟨rfl, hb2⟩))
  have y2 := below_trans (below_trans y1 hb1) hb2
  replace z3 := (z3.below hb1).below hb2
  obtain ⟨W2, hW2⟩ : ∃ W, W = w2 := ⟨_, rfl⟩
  subst hW2
  clear hb1 hb2 y1 U1 U2 S0
  cases is
  · obtain ⟨rfl, e2, rfl, rfl⟩ := HN.out (.inr (.inl rfl))
    have NO := hid (fun w => hno_at w rz e2)
    clear e2
    clear HN HY TH TD BT H3 H4 S1 S2 HSG HX2 HM HLA HLX ka
    go_wp2_with (go_at_call 121; (with_reducible refine (NO.out _).mono ?_); rintro en w9 ⟨v9, rfl, ⟨a9, c9, rfl, n9⟩, hb9⟩; obtain ⟨a8, c8, zl8, n8⟩ := (z3).below hb9; have HS := hid (zv_store1 (by decide) (below_trans y2 hb9) b3 zl8 (x := rz) n9); obtain ⟨j0, j1, jf0, jf1, -⟩ := id zl8)
    have zst := HS.out
    obtain ⟨a7, c7, zl7, n7⟩ := id zst.2
    obtain ⟨m0, m1, -⟩ := id zl7
    refine bodyPost_ret (by simp [results, Tryz.results46, go_sem, m0, m1]; try rfl) rfl ?_
    exact ⟨_, rfl, ⟨a7, c7, rfl, n7⟩, zst.1⟩
  by_cases hA : A = []
  · have hAe2 : (bsOf A).toList.isEmpty = true := by rw [hAe, hA]; rfl
    obtain ⟨rfl, e2, rfl, rfl⟩ := HN.out (.inr (.inr (.inl hA)))
    have NO := hid (fun w => hno_at w rz e2)
    clear e2
    clear HN HY TH TD BT H3 H4 S1 S2 HSG HX2 HM HLA HLX hAe hA
    go_wp2_with (go_at_call 121; (with_reducible refine (NO.out _).mono ?_); rintro en w9 ⟨v9, rfl, ⟨a9, c9, rfl, n9⟩, hb9⟩; obtain ⟨a8, c8, zl8, n8⟩ := (z3).below hb9; have HS := hid (zv_store1 (by decide) (below_trans y2 hb9) b3 zl8 (x := rz) n9); obtain ⟨j0, j1, jf0, jf1, -⟩ := id zl8)
    have zst := HS.out
    obtain ⟨a7, c7, zl7, n7⟩ := id zst.2
    obtain ⟨m0, m1, -⟩ := id zl7
    refine bodyPost_ret (by simp [results, Tryz.results46, go_sem, m0, m1]; try rfl) rfl ?_
    exact ⟨_, rfl, ⟨a7, c7, rfl, n7⟩, zst.1⟩
  have hAe2 : (bsOf A).toList.isEmpty = false := by rw [hAe]; exact List.isEmpty_eq_false_iff.2 hA
  have hA9 := hid hA
  clear hAe hA
  by_cases hH : AllHx A
  case neg =>
    obtain ⟨rfl, e2, rfl, rfl⟩ := HN.out (.inr (.inr (.inr (.inl hH))))
    have NO := hid (fun w => hno_at w rz e2)
    clear e2
    have hH9 := hid hH
    clear HN HY TD BT H3 H4 S1 S2 HSG HX2 HM HLA HLX hA9 hH
    go_wp2_with (first
      | (go_at_call 124; (with_reducible refine (TH.out _).mono ?_); rintro en w4 ⟨Q, hQ, rfl, hb4⟩; have hQe : (bsOf Q).toList.isEmpty = false := (by rw [bs_toList]; exact List.isEmpty_eq_false_iff.2 (fun h => hH9.out (hQ.1 h))))
      | (go_at_call 121; (with_reducible refine (NO.out _).mono ?_); rintro en w9 ⟨v9, rfl, ⟨a9, c9, rfl, n9⟩, hb9⟩; obtain ⟨a8, c8, zl8, n8⟩ := ((z3.below hb4)).below hb9; have HS := hid (zv_store1 (by decide) (below_trans (below_trans y2 hb4) hb9) b3 zl8 (x := rz) n9); obtain ⟨j0, j1, jf0, jf1, -⟩ := id zl8))
    have zst := HS.out
    obtain ⟨a7, c7, zl7, n7⟩ := id zst.2
    obtain ⟨m0, m1, -⟩ := id zl7
    refine bodyPost_ret (by simp [results, Tryz.results46, go_sem, m0, m1]; try rfl) rfl ?_
    exact ⟨_, rfl, ⟨a7, c7, rfl, n7⟩, zst.1⟩
  have hH9 := hid hH
  clear hH
  go_upto_region 12 with (go_at_call 124; (with_reducible refine (TH.out _).mono ?_); rintro en w4 ⟨Q, hQ, rfl, hb4⟩; have hQe : (bsOf Q).toList.isEmpty = true := (by rw [bs_toList, hQ.2 hH9.out]; rfl))
  replace y2 := below_trans y2 hb4
  replace z3 := z3.below hb4
  obtain ⟨W4, hW4⟩ : ∃ W, W = w4 := ⟨_, rfl⟩
  subst hW4
  clear hb4 hQ hQe TH hAe2
  go_upto_region 13 with (go_at_call 110; (with_reducible refine (H3.out _).mono ?_); rintro en w1 ⟨rfl, rfl⟩)
  go_cut [77] (fun s77 wx => s77 = .bool sgn ∧ wx = W4)
  case first => as_aux_lemma =>
    clear H3 TD BT HN HY S1 S2 HX2 HM HLA HLX ka
    have HS := HSG.out
    cases dn
    · have HS9 := hid (show sgn = pl by rw [HS]; rfl)
      clear HS HSG
      go_wp2_with (go_at_call 110; (with_reducible refine (H4.out _).mono ?_); rintro en w1 ⟨rfl, rfl⟩)
      go_meet
      exact ⟨by rw [HS9.out], rfl⟩
    · have HS9 := hid (show sgn = true by rw [HS]; rfl)
      clear HS HSG
      go_wp2_with fail
      go_meet
      exact ⟨by rw [HS9.out], rfl⟩
  case rest =>
  obtain ⟨rfl, hwc⟩ := hcut
  subst hwc
  clear H3 H4
  go_upto_if 77 with fail
  go_cut [9] (fun s9 wx => s9 = .string (bsOf X2) ∧ wx = wc)
  case first => as_aux_lemma =>
    clear TD BT HN HY HX2 HM HLA HLX ka HSG
    cases sgn
    · have e1 := hid (S2 rfl)
      clear S1 S2
      go_wp2_with fail
      go_meet
      exact ⟨by rw [e1.out], rfl⟩
    · have e1 := S1 rfl
      clear S1 S2
      go_wp2_with fail
      go_meet
      exact ⟨rfl, rfl⟩
  case rest =>
  obtain ⟨rfl, hwc⟩ := hcut
  subst hwc
  clear S1 S2 HSG
  by_cases h15 : 1 ≤ n ∧ n ≤ 5
  case neg =>
    obtain ⟨rfl, e2, rfl, rfl⟩ := HN.out (.inr (.inr (.inr (.inr (.inl (by rw [← HX2.out]; exact h15))))))
    have NO := hid (fun w => hno_at w rz e2)
    clear e2
    rw [decide_eq_false (show ¬ ((1 : Int) ≤ (n : Int) ∧ (n : Int) ≤ 5) by omega)] at BT
    clear HN HY TD HX2 HM HLA HLX ka h15 hA9 hH9
    go_wp2_with (first
      | (go_at_call 40; (with_reducible refine (BT.out _).mono ?_); rintro en w1 ⟨rfl, rfl⟩)
      | (go_at_call 121; (with_reducible refine (NO.out _).mono ?_); rintro en w9 ⟨v9, rfl, ⟨a9, c9, rfl, n9⟩, hb9⟩; obtain ⟨a8, c8, zl8, n8⟩ := (z3).below hb9; have HS := hid (zv_store1 (by decide) (below_trans y2 hb9) b3 zl8 (x := rz) n9); obtain ⟨j0, j1, jf0, jf1, -⟩ := id zl8))
    have zst := HS.out
    obtain ⟨a7, c7, zl7, n7⟩ := id zst.2
    obtain ⟨m0, m1, -⟩ := id zl7
    refine bodyPost_ret (by simp [results, Tryz.results46, go_sem, m0, m1]; try rfl) rfl ?_
    exact ⟨_, rfl, ⟨a7, c7, rfl, n7⟩, zst.1⟩
  rw [decide_eq_true (show (1 : Int) ≤ (n : Int) ∧ (n : Int) ≤ 5 by omega)] at BT
  have h15' : Hid (1 ≤ X2.length ∧ X2.length ≤ 5) := hid (by rw [← HX2.out]; exact h15)
  by_cases hD : AllDg X2
  case neg =>
    obtain ⟨rfl, e2, rfl, rfl⟩ := HN.out (.inr (.inr (.inr (.inr (.inr hD)))))
    have NO := hid (fun w => hno_at w rz e2)
    clear e2
    have hD9 := hid hD
    clear HN HY HX2 HM HLA HLX ka h15 h15' hA9 hH9 hD
    go_wp2_with (first
      | (go_at_call 40; (with_reducible refine (BT.out _).mono ?_); rintro en w1 ⟨rfl, rfl⟩)
      | (go_at_call 124; (with_reducible refine (TD.out _).mono ?_); rintro en w4 ⟨Q, hQ, rfl, hb4⟩; have hQe : (bsOf Q).toList.isEmpty = false := (by rw [bs_toList]; exact List.isEmpty_eq_false_iff.2 (fun h => hD9.out (hQ.1 h))))
      | (go_at_call 121; (with_reducible refine (NO.out _).mono ?_); rintro en w9 ⟨v9, rfl, ⟨a9, c9, rfl, n9⟩, hb9⟩; obtain ⟨a8, c8, zl8, n8⟩ := ((z3.below hb4)).below hb9; have HS := hid (zv_store1 (by decide) (below_trans (below_trans y2 hb4) hb9) b3 zl8 (x := rz) n9); obtain ⟨j0, j1, jf0, jf1, -⟩ := id zl8))
    have zst := HS.out
    obtain ⟨a7, c7, zl7, n7⟩ := id zst.2
    obtain ⟨m0, m1, -⟩ := id zl7
    refine bodyPost_ret (by simp [results, Tryz.results46, go_sem, m0, m1]; try rfl) rfl ?_
    exact ⟨_, rfl, ⟨a7, c7, rfl, n7⟩, zst.1⟩
  have hD9 := hid hD
  clear hD
  obtain ⟨rfl, rfl, e4, rfl⟩ := HY.out (by first | rfl | trivial) (by first | rfl | trivial) hA9.out hH9.out h15'.out hD9.out
  have hm9 := HM.out
  rw [← hm9.2] at e4
  replace hm9 := hm9.1
  have lA := HLA.out
  clear HN HY HM HLA hA9
  go_upto_region 17 with (first
    | (go_at_call 40; (with_reducible refine (BT.out _).mono ?_); rintro en w1 ⟨rfl, rfl⟩)
    | (go_at_call 124; (with_reducible refine (TD.out _).mono ?_); rintro en w4 ⟨Q, hQ, rfl, hb4⟩; have hQe : (bsOf Q).toList.isEmpty = true := (by rw [bs_toList, hQ.2 hD9.out]; rfl)))
  replace y2 := below_trans y2 hb4
  replace z3 := z3.below hb4
  obtain ⟨W5, hW5⟩ : ∃ W, W = w4 := ⟨_, rfl⟩
  subst hW5
  clear hb4 hQ hQe TD BT
  go_upto_region 18 with fail
  have zz := zv_made (tz := 39) (n0 W5) _ rfl
  refine wp_worldZ (fun WW => Below w.heap.size w WW ∧ ZV 39 3 WW g3 0 ∧ ZV 39 3 WW W5.heap.size 0) ⟨below_trans y2 (below_alloc _ _), z3.below (below_alloc _ _), zz⟩ ?_
  intro W6 ⟨y6, z36, z15⟩
  obtain ⟨g15, hg15⟩ : ∃ g, g = W5.heap.size := ⟨_, rfl⟩
  have b15 : w.heap.size ≤ g15 := by rw [hg15]; exact y2.size
  have gne : g3 ≠ g15 := by have := z3.lt; omega
  rw [← hg15] at z15 ⊢
  clear hg15 zz z3 y2
  have hcv := Lib.run_convert_string_bytes (P := Tryz.prog) W6 9 141 5 (bsOf A) (u := .string) Tryz.underlying9 Tryz.underlying141 Tryz.underlying5
  have hB : BL (Lib.bytesWorld W6 5 (bsOf A)) W6.heap.size A := fun j b r h => by
    obtain ⟨q1, -, q3⟩ := drop_cons h
    have h9 := Lib.bytesWorld_cell W6 5 (bsOf A) j (by rw [bs_size]; exact q1)
    rw [bs_list, q3] at h9
    exact h9
  have yb7 := Lib.bytesWorld_below W6 5 (bsOf A)
  have hsA := bs_size A
  obtain ⟨na, hna⟩ : ∃ na, na = A.length := ⟨_, rfl⟩
  rw [← hna] at hsA lA
  rw [hsA] at hcv
  have y7 := below_trans y6 yb7
  have z37 := z36.below yb7
  have z157 := z15.below yb7
  obtain ⟨W7, hW7⟩ : ∃ W7, W7 = Lib.bytesWorld W6 5 (bsOf A) := ⟨_, rfl⟩
  rw [← hW7] at hcv hB y7 z37 z157
  have gb15 : g15 ≠ W6.heap.size := by have := z15.lt; omega
  obtain ⟨gb, hgb⟩ : ∃ gb, gb = W6.heap.size := ⟨_, rfl⟩
  rw [← hgb] at hcv hB gb15
  generalize grownCap W6 na 0 5 = gc at *
  obtain ⟨V, hV⟩ : ∃ V, V = hvl A := ⟨_, rfl⟩
  obtain ⟨E, hE⟩ : ∃ E : Nat, E = 4000 := ⟨_, rfl⟩
  obtain ⟨TT, hTT⟩ : ∃ T : Nat, T = 1000 := ⟨_, rfl⟩
  have HLZ := hid (show ∀ (q : Nat), q < 16 ^ TT → (zl (q : Int)).length ≤ E from fun q hq => zl_len_bits (q : Int) E (by
    rw [Int.natAbs_natCast]
    refine Nat.lt_of_lt_of_le hq ?_
    rw [show (16 : Nat) = 2 ^ 4 from rfl, ← Nat.pow_mul]
    exact Nat.pow_le_pow_right (by omega) (by omega)))
  have HV := hid hV
  have HNA := hid hna
  have HB := hid hB
  have Z3 := hid z37
  have Z15 := hid z157
  have hlx := HLX.out
  have ZD := hid (fun w => zDigits_any X2 w hD9.out (by omega))
  have hdv : dvl X2 < 100000 := by
    have h1 := dvl_lt X2 hD9.out
    have h2 : 10 ^ X2.length ≤ 10 ^ 5 := Nat.pow_le_pow_right (by omega) h15'.out.2
    have h3 : (10 : Nat) ^ 5 = 100000 := by decide
    omega
  obtain ⟨dv, hdv2⟩ : ∃ dv, dv = dvl X2 := ⟨_, rfl⟩
  rw [← hdv2] at ZD hdv e4
  have ZI := hid (fun v w hv => zIntD v (dv : Int) w hv (by omega))
  rw [← hV]
  have E4 := hid e4
  clear hW7 hgb z36 z15 y6 yb7 hV hna hB z37 z157 HLX hlx hdv2 h15' hD9 h15 HX2 e4 n0 hsA
  go_wp2_with fail
  go_loopw [101] (fun s101 wr => ∃ (j q : Nat), s101 = .int .i64 (j : Int) ∧ j ≤ na ∧ hvA q (A.drop j) = V ∧ q < 16 ^ j ∧ ZV 39 3 wr g3 0 ∧ ZV 39 3 wr g15 (q : Int) ∧ BL wr gb A ∧ Below w.heap.size w wr) (fun s101 _ => na - (intOf s101).toNat)
  case atStart => exact ⟨0, 0, rfl, by omega, HV.out.symm, by show 0 < 1; omega, Z3.out, Z15.out, HB.out, y7⟩
  case round =>
    obtain ⟨j, q, rfl, hj, hq, hqb, z3, z15, hB, yr⟩ := hrel
    clear Z3 Z15 HB y7
    have hNA := HNA.out
    cases hd : A.drop j with
    | nil =>
      have g1 : ¬ (j : Int) < (na : Int) := by
        have := congrArg List.length hd
        rw [List.length_drop, List.length_nil] at this; omega
      rw [hd] at hq
      have e : q = V := hq
      subst e
      clear hd hq hqb hB hNA HNA HLZ
      have wn1 : IntKind.i64.wrap (-(dv : Int)) = -(dv : Int) := IntWalk.i64_in _ (by omega)
      obtain ⟨kk, hkk⟩ : ∃ kk : Int, kk = if dn = true then -(dv : Int) else (dv : Int) := ⟨_, rfl⟩
      have e4 := E4.out
      rw [← hkk] at e4
      have hkb : -100000 < kk ∧ kk < 100000 := by rw [hkk]; split <;> omega
      have HKK := hid hkk
      have H4 := hid e4
      clear hkk e4 E4
      go_upto_if 124 with (first
        | (go_at_call 111; (with_reducible refine (ZD.out _).mono ?_); rintro en w8 ⟨v8, rfl, hz8, hb8⟩)
        | (go_at_call 126; (with_reducible refine (ZI.out _ _ hz8).mono ?_); rintro en w9 ⟨rfl, hb9⟩))
      have y9 := below_trans (below_trans yr hb8) hb9
      replace z3 := (z3.below hb8).below hb9
      replace z15 := (z15.below hb8).below hb9
      obtain ⟨W9, hW9⟩ : ∃ W, W = w9 := ⟨_, rfl⟩
      subst hW9
      clear hb8 hb9 hz8 yr ZD ZI
      go_cut [19] (fun s19 wx => s19 = .int .i64 kk ∧ wx = W9)
      case first => as_aux_lemma =>
        clear ka H4
        cases dn
        · have h9 := hid (show kk = (dv : Int) from HKK.out)
          clear HKK
          go_wp2_with fail
          go_meet
          exact ⟨by rw [h9.out], rfl⟩
        · have h9 := hid (show kk = -(dv : Int) from HKK.out)
          clear HKK
          go_wp2_with fail
          go_meet
          exact ⟨by rw [h9.out], rfl⟩
      case rest =>
      obtain ⟨rfl, hwc⟩ := hcut
      subst hwc
      clear HKK wn1
      have w1 : IntKind.i64.wrap (4 * (m : Int)) = 4 * (m : Int) := IntWalk.i64_in _ (by omega)
      have w2 : IntKind.i64.wrap (kk - 4 * (m : Int)) = kk - 4 * (m : Int) := IntWalk.i64_in _ (by omega)
      go_upto_region 29 with fail
      obtain ⟨a6, c6, zl6, n6⟩ := id z15
      obtain ⟨j0, j1, -⟩ := id zl6
      obtain ⟨a3, c3, zl3, n3⟩ := id z3
      have zst := zv_store1 (by decide) y9 b3 zl3 (x := (q : Int)) n6
      obtain ⟨k0, k1, kf0, kf1, -⟩ := id zl3
      have HS := hid zst
      clear z3 z15 n3 zst n6 zl3 zl6 ka hnz hH9 hcv gne gb15 b15 hE hTT hdv lA hm9 hkb
      go_region
      rename_i K hK
      refine hK _ _ ?_
      refine wp_ret ?_
      have zst := HS.out
      obtain ⟨a9, c9, zl9, n9⟩ := id zst.2
      obtain ⟨m0, m1, -⟩ := id zl9
      refine bodyPost_ret (by simp [results, Tryz.results46, go_sem, m0, m1]; try rfl) rfl ?_
      rw [← HV.out, H4.out]
      exact ⟨_, rfl, ⟨a9, c9, rfl, n9⟩, zst.1.drew⟩
    | cons b r =>
      obtain ⟨q1, q2, -⟩ := drop_cons hd
      have hc := hB j b r hd
      have hx := hH9.out b (List.mem_of_mem_drop (by rw [hd]; exact List.mem_cons_self ..))
      have hbd := hx_bd hx
      have hlt := hxd_lt hx
      rw [hd, hvA_cons] at hq
      have g1 : (j : Int) < (na : Int) := by omega
      have hqb2 : q * 16 + hxd b < 16 ^ (j + 1) := by
        rw [Nat.pow_succ]
        have : (q + 1) * 16 ≤ 16 ^ j * 16 := Nat.mul_le_mul_right _ hqb
        omega
      have hpe : 16 ^ (j + 1) ≤ 16 ^ TT := Nat.pow_le_pow_right (by omega) (by omega)
      have lq := HLZ.out q (by omega)
      have lq2 : (zl ((q : Int) * 16)).length ≤ E := by
        have h := HLZ.out (q * 16) (by omega)
        rw [Int.natCast_mul] at h
        exact h
      obtain ⟨d, hdd⟩ : ∃ d : Nat, d = hxd b := ⟨_, rfl⟩
      rw [← hdd] at hq hbd hlt hqb2
      have ld : (zl (d : Int)).length ≤ E := HLZ.out d (by omega)
      obtain ⟨x, hxx⟩ : ∃ x : Int, x = (b.toNat : Int) := ⟨_, rfl⟩
      rw [← hxx] at hc
      have hx0 : 48 ≤ x ∧ x < 256 := by have := b.toNat_lt; omega
      have dcase : (x < 97 ∧ x - 48 = (d : Int)) ∨ (97 ≤ x ∧ x - 97 + 10 = (d : Int)) := by omega
      have HQ := hid (show hvA (q * 16 + d) (A.drop (j + 1)) = V by rw [q2]; exact hq)
      have HQB := hid hqb2
      have l16 : (zl 16).length ≤ 900000 := by decide
      have wB : IntKind.u8.wrap (x - 48) = x - 48 := by rw [IntKind.wrap_u8]; omega
      have wC : IntKind.i64.wrap (x - 48) = x - 48 := IntWalk.i64_in _ (by omega)
      have wI : IntKind.i64.wrap ((j : Int) + 1) = (j : Int) + 1 := IntWalk.i64_in _ (by omega)
      have hjn : j + 1 ≤ na := by omega
      have DC := hid dcase
      have HBB := hid hB
      clear hd hq hqb hqb2 hpe hbd hx hdd hxx q2 q1 dcase HLZ hNA HNA HV hB ZD ZI E4
      go_upto_if 109 with fail
      obtain ⟨W8, hW8⟩ : ∃ W, W = wr := ⟨_, rfl⟩
      subst hW8
      go_cut [18] (fun s18 wx => s18 = .int .i64 (d : Int) ∧ wx = W8)
      case first => as_aux_lemma =>
        rcases DC.out with ⟨x1, x2⟩ | ⟨x1, x2⟩
        · have h9 := hid x2
          clear x2 DC
          go_wp2_with fail
          go_meet
          exact ⟨by rw [h9.out], rfl⟩
        · have h9 := hid x2
          have wB2 : IntKind.u8.wrap (x - 97) = x - 97 := by rw [IntKind.wrap_u8]; omega
          have wC2 : IntKind.i64.wrap (x - 97) = x - 97 := IntWalk.i64_in _ (by omega)
          have wD2 : IntKind.i64.wrap (x - 97 + 10) = x - 97 + 10 := IntWalk.i64_in _ (by omega)
          clear x2 DC
          go_wp2_with fail
          go_meet
          exact ⟨by rw [h9.out], rfl⟩
      case rest =>
      obtain ⟨rfl, hwc⟩ := hcut
      subst hwc
      clear DC wB wC
      go_upto_region 24 with fail
      refine wp_region_grow 6 [114, 115, 116, 117, 118, 119] [Fact.z 3 ((q : Int)), Fact.z 3 (16), Fact.z 3 (((q : Int)) * (16)), Fact.is (.int .i64 (d : Int)), Fact.z 3 ((d : Int)), Fact.z 3 ((((q : Int)) * (16)) + ((d : Int)))] (by kernel_rfl) (by kernel_rfl) ⟨?o0, ?o1, ?o2, ?o3, ?o4, ?o5, trivial⟩ ?after
      case o0 => (refine StepOK.plain rfl ?_; intro ρ w1 R hρ hb hp hR; have e15 : ρ (.tmp 15) = .pointer (some ⟨g15, 0, none⟩) := hρ.tmp 15 rfl; obtain ⟨ya9, yc9, yj9, yn9⟩ := ZV.below z15 hb; obtain ⟨j90, j91, -⟩ := yj9; have hcon := hρ.con; have hfn := hρ.fn; clear hρ hp; unfold OpRun; go_simp; exact hR _ _ (Below.refl _ _) ⟨ya9, yc9, rfl, yn9⟩)
      case o1 => (refine StepOK.plain rfl ?_; intro ρ w1 R hρ hb hp hR; have hcon := hρ.con; have hfn := hρ.fn; clear hρ hp; unfold OpRun; go_simp; (refine (zND _ (by omega) (by omega) _).mono ?_; rintro e wn ⟨v9, rfl, hz9, hbn⟩; exact ⟨_, rfl, hR _ _ hbn hz9⟩))
      case o2 => (refine StepOK.plain rfl ?_; intro ρ w1 R hρ hb hp hR; have f114 := hp 0 114 rfl rfl; have f115 := hp 1 115 rfl rfl; have hcon := hρ.con; have hfn := hρ.fn; clear hρ hp; unfold OpRun; go_simp; (refine (zmulD _ _ _ _ _ f114 f115 (by first | assumption | omega) (by first | assumption | omega)).mono ?_; rintro e wn ⟨v9, rfl, hz9, hbn⟩; exact ⟨_, rfl, hR _ _ hbn hz9⟩))
      case o3 => (refine StepOK.plain rfl ?_; intro ρ w1 R hρ hb hp hR; have e18 : ρ (.tmp 18) = .int .i64 (d : Int) := hρ.tmp 18 rfl; have hcon := hρ.con; have hfn := hρ.fn; clear hρ hp; unfold OpRun; go_simp; exact hR _ _ (Below.refl _ _) rfl)
      case o4 => (refine StepOK.plain rfl ?_; intro ρ w1 R hρ hb hp hR; have e117 : ρ (.tmp 117) = _ := hp 3 117 rfl rfl; have hcon := hρ.con; have hfn := hρ.fn; clear hρ hp; unfold OpRun; go_simp; (refine (zND _ (by omega) (by omega) _).mono ?_; rintro e wn ⟨v9, rfl, hz9, hbn⟩; exact ⟨_, rfl, hR _ _ hbn hz9⟩))
      case o5 => (refine StepOK.plain rfl ?_; intro ρ w1 R hρ hb hp hR; have f116 := hp 2 116 rfl rfl; have f118 := hp 4 118 rfl rfl; have hcon := hρ.con; have hfn := hρ.fn; clear hρ hp; unfold OpRun; go_simp; (refine (zaddD _ _ _ _ _ f116 f118 (by first | assumption | omega) (by first | assumption | omega)).mono ?_; rintro e wn ⟨v9, rfl, hz9, hbn⟩; exact ⟨_, rfl, hR _ _ hbn hz9⟩))
      case after =>
        intro u wn hb hf
        have f119 := hf 5 119 (by omega) rfl
        clear hf
        simp only [putAll, Act.put, List.setIfInBounds_toArray, List.set_cons_zero, List.set_cons_succ, List.drop_succ_cons, List.drop_zero, List.drop_nil]
        obtain ⟨a6, c6, e119, n6⟩ := f119
        rw [e119]
        have yb := below_trans yr hb
        have z3a := z3.below hb
        have hB2 := HBB.out.below hb
        obtain ⟨a3, c3, zl3, n3⟩ := z15.below hb
        have zst := zv_store1 (by decide) yb b15 zl3 n6
        have z3b := z3a.set2 (zl3.2.2.2.2) (by decide) gne (.bool (zneg ((q : Int) * 16 + (d : Int)))) (.slice a6 (zl ((q : Int) * 16 + (d : Int))).length c6)
        have hB3 := (hB2.set (o := 0) (v := .bool (zneg ((q : Int) * 16 + (d : Int)))) gb15).set (o := 1) (v := .slice a6 (zl ((q : Int) * 16 + (d : Int))).length c6) gb15
        obtain ⟨k0, k1, kf0, kf1, -⟩ := id zl3
        have HZ := hid (And.intro zst (And.intro z3b hB3))
        clear z3 z15 z3a hb yr n3 zst z3b e119 hB2 hB3 HBB
        go_wp2_with fail
        go_roundw
        case rel => exact ⟨j + 1, q * 16 + d, by go_num, by omega, HQ.out, HQB.out, HZ.out.2.1, HZ.out.1.2, HZ.out.2.2, HZ.out.1.1⟩
        case measure => simp [intOf]; omega
end Go.Proofs.YthaelmnblgollaaGreatDoor

set_option linter.unusedVariables false
set_option linter.unusedSimpArgs false
namespace Go.Proofs.YthaelmnblgollaaGreatDoor
open Go.RowKit Go.Ulp
set_option linter.unusedVariables false
set_option linter.unusedSimpArgs false
theorem hrd_err (L : List UInt8) (w : World) (hl : L.length ≤ 1000) (h : hrO L = false) :
    Calls Tryz.prog 46 #[.string (bsOf L)] w (RetHr w false 0 0 5) := by
  refine hrd_core L (rdT L) (hrT L) _ _ _ _ _ _ _ _ _ _ _ _ false 0 0 5 w hl rfl rfl rfl rfl rfl rfl rfl rfl rfl rfl rfl rfl rfl rfl (fun _ => ⟨rfl, rfl, rfl, rfl⟩) ?_
  intro g1 g2 g3 g4 g5 g6
  exfalso
  have h9 := (hx_same_of_ref g2 g4 g3 g5.1 g5.2 g6).1
  have : hrO L = true := by unfold hrO; rw [g1, h9]; rfl
  rw [h] at this; cases this
theorem hrd_ok (L : List UInt8) (w : World) (hl : L.length ≤ 1000) (h : hrO L = true) :
    Calls Tryz.prog 46 #[.string (bsOf L)] w (RetHr w (hrN L) ((hvl (hrD L) : Nat) : Int) (hrK L) 0) := by
  obtain ⟨k1, k2⟩ : Lib.hasPrefix (rdT L) [48, 120] = true ∧ hxOk (hrT L) = true := by
    unfold hrO at h; rwa [Bool.and_eq_true] at h
  obtain ⟨r1, r2, r3, r4, r5, r6⟩ := hx_same_of_prog k2
  obtain ⟨-, s2, s3, s4, s5⟩ := hx_same_of_ref r1 r2 r3 r4 r5 r6
  refine hrd_core L (rdT L) (hrT L) _ _ _ _ _ _ _ _ _ _ _ _ _ _ _ _ w hl rfl rfl rfl rfl rfl rfl rfl rfl rfl rfl rfl rfl rfl rfl ?_ ?_
  · intro h9
    exfalso
    rcases h9 with h9 | h9 | h9 | h9 | h9 | h9
    · rw [k1] at h9; cases h9
    · rw [r1] at h9; cases h9
    · exact r3 h9
    · exact h9 r2
    · exact h9 ⟨r4, r5⟩
    · exact h9 r6
  · intro _ _ _ _ _ _
    refine ⟨rfl, ?_, ?_, rfl⟩
    · unfold hrD; rw [s2, s3]
    · unfold hrK hrP; rw [s4, s5, s3]; rfl
end Go.Proofs.YthaelmnblgollaaGreatDoor
