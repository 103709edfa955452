/- RoundSays: the law's walk. -/
import Derived.Test.YtdoiobdomngccaaRr5
namespace Go.Ulp
open Go.RowKit
theorem DC.made {w : World} {n : Bool} {v : Value} {e : Int} {t : TypeId} : DC (w.alloc (.cells #[.bool n, v, .int .i64 e] t)) w.heap.size 0 n v e := by
  refine ⟨?_, ?_, ?_⟩ <;> rw [World.cell?_alloc_at (hn := rfl)] <;> rfl
theorem DC.made2 {w : World} {n n' : Bool} {v v' : Value} {e e' : Int} {t : TypeId} : DC (w.alloc (.cells #[.bool n, v, .int .i64 e, .bool n', v', .int .i64 e'] t)) w.heap.size 0 n v e ∧ DC (w.alloc (.cells #[.bool n, v, .int .i64 e, .bool n', v', .int .i64 e'] t)) w.heap.size 3 n' v' e' := by
  refine ⟨⟨?_, ?_, ?_⟩, ⟨?_, ?_, ?_⟩⟩ <;> rw [World.cell?_alloc_at (hn := rfl)] <;> rfl
end Go.Ulp
namespace Go.Proofs.Ytdoiobdomngccaa
open Go.RowKit Go.Ulp
set_option linter.unusedVariables false
set_option linter.unusedSimpArgs false
set_option maxHeartbeats 2000000
set_option maxRecDepth 100000
theorem roundSays_walk (n0 : Bool) (L0 : List Nat) (ao0 : Option Addr) (cap0 : Nat) (x0 : Int) (n1 : Bool) (L1 : List Nat) (ao1 : Option Addr) (cap1 : Nat) (x1 : Int) (mode : Int) (W : World)
    (hN0 : Ns .u32 W ao0 cap0 L0) (hl0 : Lim L0) (wx0 : -9223372036854775808 ≤ x0 ∧ x0 ≤ 9223372036854775807) (hN1 : Ns .u32 W ao1 cap1 L1) (hl1 : Lim L1) (wx1 : -9223372036854775808 ≤ x1 ∧ x1 ≤ 9223372036854775807) (wm : -9223372036854775808 ≤ mode ∧ mode ≤ 9223372036854775807) :
    Calls Try.prog 9 #[.agg #[.bool n0, .slice ao0 L0.length cap0, .int .i64 x0], .agg #[.bool n1, .slice ao1 L1.length cap1, .int .i64 x1], .int .i64 mode] W fun e w' => e = .returned (.bool true) ∧ Below W.heap.size W w' := by
  have TO := hid (fun w h => roundTo_any n0 ao0 cap0 L0 x0 mode w h hl0)
  have PA := hid (fun w h0 h1 => roundPart_any n0 ao0 cap0 L0 x0 n1 ao1 cap1 L1 x1 mode w h0 hl0 h1 hl1)
  have R1 := hid (fun g w k h => dyadRight1_any g n0 ao0 cap0 L0 x0 w k h hl0)
  have R2 := hid (fun g w k0 h0 k1 h1 => dyadRight2_any g n0 ao0 cap0 L0 x0 n1 ao1 cap1 L1 x1 w k0 h0 hl0 k1 h1 hl1)
  have BT := hid (show ∀ w, Calls Try.prog 18 #[.int .i64 mode, .int .i64 0, .int .i64 4] w fun e w' => e = .returned (.bool (knownB mode)) ∧ w = w' from fun w => between_any mode 0 4 w)
  have H0 := hid hN0
  have H1 := hid hN1
  have zA0 : QL 82 ((W.alloc (.cells #[.bool n0, .slice ao0 L0.length cap0, .int .i64 x0] 82)).alloc (.cells #[.bool n1, .slice ao1 L1.length cap1, .int .i64 x1] 82)) W.heap.size n0 (.slice ao0 L0.length cap0) x0 := (QL.made rfl).alloc _
  have zB0 : QL 82 ((W.alloc (.cells #[.bool n0, .slice ao0 L0.length cap0, .int .i64 x0] 82)).alloc (.cells #[.bool n1, .slice ao1 L1.length cap1, .int .i64 x1] 82)) (W.heap.size + 1) n1 (.slice ao1 L1.length cap1) x1 := QL.made (by first | omega | (simp; done) | (simp; omega))
  have yb0 : Below W.heap.size W ((W.alloc (.cells #[.bool n0, .slice ao0 L0.length cap0, .int .i64 x0] 82)).alloc (.cells #[.bool n1, .slice ao1 L1.length cap1, .int .i64 x1] 82)) := by (repeat' (first | (with_reducible assumption) | (with_reducible exact Below.refl _ _) | (with_reducible refine below_al ?_ _) | (with_reducible refine below_drewN ?_ _) | (with_reducible refine Below.drew ?_) | (with_reducible refine Below.alloc ?_ ?_ _) | (with_reducible refine Below.setCell ?_ ?_ _) | (refine below_trans ?_ (by assumption)) | go_size))
  have hcap := hN1.1
  have hcap2 := hN1.2.1
  unfold maxLen at hcap2
  clear hN0 hN1
  -- the answers, by name
  obtain ⟨TE, hTE⟩ : ∃ z, z = toE n0 L0 x0 mode := ⟨_, rfl⟩
  obtain ⟨TX, hTX⟩ : ∃ z, z = toX n0 L0 x0 mode := ⟨_, rfl⟩
  obtain ⟨TC, hTC⟩ : ∃ z, z = toC n0 L0 x0 mode := ⟨_, rfl⟩
  obtain ⟨PE, hPE⟩ : ∃ z, z = partE n0 L0 x0 n1 L1 x1 mode := ⟨_, rfl⟩
  obtain ⟨PX, hPX⟩ : ∃ z, z = partX n0 L0 x0 n1 L1 x1 mode := ⟨_, rfl⟩
  obtain ⟨PC, hPC⟩ : ∃ z, z = partC n0 L0 x0 n1 L1 x1 mode := ⟨_, rfl⟩
  obtain ⟨E0, hE0⟩ : ∃ z, z = dyadE n0 L0 x0 := ⟨_, rfl⟩
  obtain ⟨E1, hE1⟩ : ∃ z, z = dyadE n1 L1 x1 := ⟨_, rfl⟩
  rw [← hTE, ← hTX, ← hTC] at TO
  rw [← hPE, ← hPX, ← hPC] at PA
  rw [← hE0] at R1
  rw [← hE0, ← hE1] at R2
  have FT := hid (And.intro hTE (And.intro hTX hTC))
  have FP := hid (And.intro hPE (And.intro hPX hPC))
  have FE := hid (And.intro hE0 hE1)
  clear hTE hTX hTC hPE hPX hPC hE0 hE1
  go_enter Try.func9, Try.ntmps9
  go_upto_region 3 with (first
    | (go_at_call 55; (with_reducible refine (TO.out _ (H0.out.below yb0)).mono ?_); rintro e w1 ⟨rfl, hb1⟩; have zA1 := zA0.below hb1; have zB1 := zB0.below hb1; have yb1 := below_trans yb0 hb1; obtain ⟨⟨j0, j1, -, -, -⟩, j2, -⟩ := id zA1; obtain ⟨⟨i0, i1, -, -, -⟩, i2, -⟩ := id zB1)
    | (go_at_call 56; (with_reducible refine (PA.out _ (H0.out.below yb1) (H1.out.below yb1)).mono ?_); rintro e w2 ⟨rfl, hb2⟩))
  have zA := zA1.below hb2
  have zB := zB1.below hb2
  have yb2 := below_trans yb1 hb2
  clear zA0 zB0 zA1 zB1 yb0 yb1 hb1 hb2 j0 j1 j2 i0 i1 i2 TO PA
  obtain ⟨⟨j0, j1, -, -, -⟩, j2, -⟩ := id zA
  go_upto_region 4 with (go_at_call 57; (with_reducible refine (R1.out _ _ DC.made (H0.out.below (below_trans yb2 (below_alloc _ _)))).mono ?_); rintro e w3 ⟨rfl, hb3⟩)
  have zA3 := (zA.alloc (.cells #[.bool n0, .slice ao0 L0.length cap0, .int .i64 x0] 82)).below hb3
  have zB3 := (zB.alloc (.cells #[.bool n0, .slice ao0 L0.length cap0, .int .i64 x0] 82)).below hb3
  have yb3 := below_trans (below_trans yb2 (below_alloc _ _)) hb3
  clear zA zB yb2 hb3 j0 j1 j2 R1
  obtain ⟨kn, hkn⟩ : ∃ z, z = knownB mode := ⟨_, rfl⟩
  rw [← hkn] at BT
  have TED := hid (show TE = if E0 = 0 then (if kn = true then 0 else 1) else E0 by rw [FT.out.1, FE.out.1, hkn]; rfl)
  have PED := hid (show PE = if E0 = 0 then (if E1 = 0 then (if kn = false ∨ (0 < L1.length ∧ oneB L1 x1 = false) then 1 else if 390 < L0.length then 2 else 0) else E1) else E0 by rw [FP.out.1, FE.out.1, FE.out.2, hkn]; rfl)
  have HKN := hid hkn
  clear hkn
  go_cut [44] (fun s wx => s = .bool ((E0 == 0) && !kn) ∧ wx = w3)
  case first =>
    by_cases hz : E0 = 0
    · have hz2 : (E0 == 0) = true := beq_iff_eq.2 hz
      clear hz
      go_wp2_with (go_at_call 18; (with_reducible refine (BT.out _).mono ?_); rintro e w4 ⟨rfl, rfl⟩)
      go_meet
      exact ⟨by rw [hz2, Bool.true_and], rfl⟩
    · have hz2 : (E0 == 0) = false := beq_eq_false_iff_ne.2 hz
      clear hz
      go_wp2_with fail
      go_meet
      exact ⟨by rw [hz2]; rfl, rfl⟩
  case rest =>
    obtain ⟨rfl, rfl⟩ := hcut
    go_upto_if 44 with fail
    go_cut [13] (fun s wx => s = .int .i64 TE ∧ wx = wc)
    case first =>
      cases hb9 : ((E0 == 0) && !kn)
      · have H5 := hid (show TE = E0 by
          rw [TED.out]
          by_cases h : E0 = 0
          · rw [if_pos h, if_pos, h]
            rw [beq_iff_eq.2 h, Bool.true_and] at hb9
            simpa using hb9
          · rw [if_neg h])
        clear hb9
        go_wp2_with fail
        go_meet
        exact ⟨by rw [H5.out], rfl⟩
      · have H5 := hid (show TE = 1 by
          rw [Bool.and_eq_true, beq_iff_eq] at hb9
          rw [TED.out, if_pos hb9.1, if_neg (by have := hb9.2; simpa using this)])
        clear hb9
        go_wp2_with fail
        go_meet
        exact ⟨by rw [H5.out], rfl⟩
    case rest =>
      obtain ⟨rfl, rfl⟩ := hcut
      go_upto_region 6 with fail
      go_cut [46] (fun s wx => s = .bool (TE != 0) ∧ wx = wc)
      case first =>
        go_wp2_with fail
        go_meet
        exact ⟨rfl, rfl⟩
      case rest =>
        obtain ⟨rfl, rfl⟩ := hcut
        go_upto_if 46 with fail
        go_cut [] (fun wx => Below wc.heap.size wc wx)
        case first =>
          by_cases ht : TE = 0
          · have hq : E0 = 0 ∧ kn = true := by
              have h9 := TED.out
              rw [ht] at h9
              by_cases h : E0 = 0
              · refine ⟨h, ?_⟩
                rw [if_pos h] at h9
                cases kn
                · simp at h9
                · rfl
              · rw [if_neg h] at h9; exact absurd h9.symm h
            obtain ⟨b1, b2, b3, hL, hz, -⟩ := dyadE_zero hl0 (by rw [← FE.out.1]; exact hq.1)
            have hm : 0 ≤ mode ∧ mode ≤ 4 := of_decide_eq_true (HKN.out.symm.trans hq.2)
            obtain ⟨f1, f2, f3⟩ := FT.out
            unfold toX at f2
            unfold toC at f3
            rw [← f1, if_pos ht] at f2 f3
            have hlen : L0.length = (limbs (lval L0)).length := congrArg List.length hL
            have hH2 := H0.out
            rw [hL] at hH2
            have H2 := hid hH2
            have QO := hid (show ∀ w, Ns .u32 w ao0 cap0 (limbs (lval L0)) → Calls Try.prog 59 #[.agg #[.bool n0, .slice ao0 L0.length cap0, .int .i64 x0]] w fun e w' => RetQD 3 w (nrm (sg n0 (lval L0)) x0) 400000 200000 e w' from fun w h => by
              rw [hlen]; exact qof_any n0 (lval L0) ao0 cap0 x0 w h (by omega) (by omega))
            have RD := hid (show ∀ v w, QD 3 w (nrm (sg n0 (lval L0)) x0) 400000 200000 v → Calls Try.prog 58 #[v, .int .i64 0, .int .i64 mode] w (RetX w TX TC) from fun v w h => by
              rw [f2, f3]; exact roundedP_any v n0 (lval L0) x0 400000 200000 mode w h (by omega) (by omega) hm.1 hm.2 (fun h => (hz h).1))
            subst ht
            clear hq b1 b2 b3 hL hz hm f1 f2 f3 hlen hH2
            obtain ⟨⟨j0, j1, -, -, -⟩, j2, -⟩ := id zA3
            go_wp2_with (first
              | (go_at_call 59; (with_reducible refine (QO.out _ (H2.out.below yb3)).mono ?_); rintro e w4 ⟨v4, rfl, hq4, hb4⟩)
              | (go_at_call 58; (with_reducible refine (RD.out _ _ hq4).mono ?_); rintro e w5 ⟨rfl, hb5⟩))
            go_meet
            exact below_trans hb4 hb5
          · have hx : TX = 0 ∧ TC = false := by
              obtain ⟨f1, f2, f3⟩ := FT.out
              rw [f2, f3]; unfold toX toC; rw [← f1, if_neg ht, if_neg ht]; exact ⟨rfl, rfl⟩
            obtain ⟨rfl, rfl⟩ := hx
            have ht2 : (TE != 0) = true := by simp [bne, ht]
            have ht3 : (TE == 0) = false := beq_eq_false_iff_ne.2 ht
            rw [ht2]
            clear ht ht2
            go_wp2_with fail
            go_meet
            exact Below.refl _ _
        case rest =>
          have zA4 := zA3.below hcut
          have zB4 := zB3.below hcut
          have yb4 := below_trans yb3 hcut
          clear zA3 zB3 yb3 hcut
          obtain ⟨⟨j0, j1, -, -, -⟩, j2, -⟩ := id zA4
          obtain ⟨⟨i0, i1, -, -, -⟩, i2, -⟩ := id zB4
          go_upto_region 13 with (go_at_call 57; (with_reducible refine (R2.out _ _ DC.made2.1 (H0.out.below (below_trans yb4 (below_alloc _ _))) DC.made2.2 (H1.out.below (below_trans yb4 (below_alloc _ _)))).mono ?_); rintro e w5 ⟨rfl, hb5⟩)
          have zA5 := (zA4.alloc (.cells #[.bool n0, .slice ao0 L0.length cap0, .int .i64 x0, .bool n1, .slice ao1 L1.length cap1, .int .i64 x1] 82)).below hb5
          have zB5 := (zB4.alloc (.cells #[.bool n0, .slice ao0 L0.length cap0, .int .i64 x0, .bool n1, .slice ao1 L1.length cap1, .int .i64 x1] 82)).below hb5
          have yb5 := below_trans (below_trans yb4 (below_alloc _ _)) hb5
          clear zA4 zB4 yb4 hb5 j0 j1 j2 i0 i1 i2 R2
          have H3 := hid (H1.out.below yb5)
          obtain ⟨E2, hE2⟩ : ∃ z, z = dyadE2 E0 E1 := ⟨_, rfl⟩
          rw [← hE2]
          have HE2 := hid (show E2 = if E0 = 0 then E1 else E0 from hE2)
          clear hE2
          obtain ⟨ob, hob⟩ : ∃ ob, ob = oneB L1 x1 := ⟨_, rfl⟩
          have HOB := hid hob
          rw [← hob] at PED
          clear hob
          obtain ⟨⟨i0, i1, -, -, -⟩, i2, -⟩ := id zB5
          go_cut [16] (fun s wx => s = .bool ob ∧ wx = w5)
          case first =>
            by_cases h1 : L1.length = 1
            · obtain ⟨b, off, rfl, hc⟩ := H3.out.2.2 (by omega)
              have hc := hc 0 (by omega)
              unfold lb at hc
              obtain ⟨x, hx⟩ : ∃ x, x = L1.getD 0 0 := ⟨_, rfl⟩
              rw [← hx, Nat.add_zero] at hc
              rw [h1] at i1 hcap
              have H6 := hid (show ob = (((x : Int) == 1) && (x1 == 0)) by
                rw [HOB.out, oneB, Bool.eq_iff_iff, decide_eq_true_eq, Bool.and_eq_true, beq_iff_eq, beq_iff_eq, ← hx]; omega)
              clear hx h1
              by_cases hx1 : ((x : Int) == 1) = true
              · go_wp2_with fail
                go_meet
                exact ⟨by rw [H6.out, hx1, Bool.true_and], rfl⟩
              · have hx2 : ((x : Int) == 1) = false := by simpa using hx1
                clear hx1
                go_wp2_with fail
                go_meet
                exact ⟨by rw [H6.out, hx2]; rfl, rfl⟩
            · have hb : ((L1.length : Int) == 1) = false := beq_eq_false_iff_ne.2 (by omega)
              have H6 := hid (show ob = false by rw [HOB.out, oneB, decide_eq_false_iff_not]; exact fun h => h1 h.1)
              clear h1
              go_wp2_with fail
              go_meet
              exact ⟨by rw [H6.out], rfl⟩
          case rest =>
            obtain ⟨rfl, rfl⟩ := hcut
            obtain ⟨⟨j0, j1, -, -, -⟩, j2, -⟩ := id zA5
            go_upto_block 0 with fail
            go_cut [13] (fun s wx => s = .int .i64 PE ∧ wx = wc)
            case first =>
              by_cases hE : E2 = 0
              · have hq : E0 = 0 ∧ E1 = 0 := by
                  have h9 := HE2.out
                  rw [hE] at h9
                  by_cases h : E0 = 0
                  · rw [if_pos h] at h9; exact ⟨h, h9.symm⟩
                  · rw [if_neg h] at h9; exact absurd h9.symm h
                have hP := PED.out
                rw [if_pos hq.1, if_pos hq.2] at hP
                have hE3 : (E2 != 0) = false := by simp [bne, hE]
                have HE20 := hid hE
                clear hE
                cases hkn : kn
                · have H5 := hid (show PE = 1 by rw [hP, if_pos (.inl hkn)])
                  rw [hkn] at BT
                  clear hq hP hkn
                  go_wp2_with (go_at_call 18; (with_reducible refine (BT.out _).mono ?_); rintro e w4 ⟨rfl, rfl⟩)
                  go_meet
                  exact ⟨by rw [H5.out], rfl⟩
                · rw [hkn] at BT
                  by_cases hbad : 0 < L1.length ∧ ob = false
                  · have H5 := hid (show PE = 1 by rw [hP, if_pos (.inr hbad)])
                    obtain ⟨hp, rfl⟩ := hbad
                    clear hq hP hkn
                    go_wp2_with (go_at_call 18; (with_reducible refine (BT.out _).mono ?_); rintro e w4 ⟨rfl, rfl⟩)
                    go_meet
                    exact ⟨by rw [H5.out], rfl⟩
                  · rw [if_neg (fun h => h.elim (fun h => by rw [hkn] at h; cases h) hbad)] at hP
                    have HP := hid hP
                    have hob3 : ob = true ∨ (ob = false ∧ L1.length = 0) := by
                      cases ob
                      · exact .inr ⟨rfl, by rcases Nat.eq_zero_or_pos L1.length with h | h
                                            · exact h
                                            · exact absurd ⟨h, rfl⟩ hbad⟩
                      · exact .inl rfl
                    clear hq hP hkn hbad
                    by_cases h9 : 390 < L0.length
                    · have H5 := hid (show PE = 2 by rw [HP.out, if_pos h9])
                      have h9i : (390 : Int) < (L0.length : Int) := by omega
                      clear h9
                      rcases hob3 with rfl | ⟨rfl, hl⟩
                      · go_wp2_with (go_at_call 18; (with_reducible refine (BT.out _).mono ?_); rintro e w4 ⟨rfl, rfl⟩)
                        go_meet
                        exact ⟨by rw [H5.out], rfl⟩
                      · rw [hl] at i1
                        clear hl
                        go_wp2_with (go_at_call 18; (with_reducible refine (BT.out _).mono ?_); rintro e w4 ⟨rfl, rfl⟩)
                        go_meet
                        exact ⟨by rw [H5.out], rfl⟩
                    · have H5 := hid (show PE = E2 by rw [HP.out, if_neg h9, HE20.out])
                      have h9i : ¬ (390 : Int) < (L0.length : Int) := by omega
                      clear h9
                      rcases hob3 with rfl | ⟨rfl, hl⟩
                      · go_wp2_with (go_at_call 18; (with_reducible refine (BT.out _).mono ?_); rintro e w4 ⟨rfl, rfl⟩)
                        go_meet
                        exact ⟨by rw [H5.out], rfl⟩
                      · rw [hl] at i1
                        clear hl
                        go_wp2_with (go_at_call 18; (with_reducible refine (BT.out _).mono ?_); rintro e w4 ⟨rfl, rfl⟩)
                        go_meet
                        exact ⟨by rw [H5.out], rfl⟩
              · have H5 := hid (show PE = E2 by
                  rw [PED.out, HE2.out]
                  have h9 := HE2.out
                  by_cases h : E0 = 0
                  · rw [if_pos h, if_pos h]
                    rw [if_pos h] at h9
                    rw [if_neg (by rw [← h9]; exact hE)]
                  · rw [if_neg h, if_neg h])
                have hE3 : (E2 != 0) = true := by simp [bne, hE]
                clear hE
                go_wp2_with fail
                go_meet
                exact ⟨by rw [H5.out], rfl⟩
            case rest =>
              obtain ⟨rfl, rfl⟩ := hcut
              by_cases hp : PE = 0
              · have hP := PED.out
                rw [hp] at hP
                have hq : E0 = 0 ∧ E1 = 0 ∧ kn = true ∧ ¬ (0 < L1.length ∧ ob = false) := by
                  by_cases h : E0 = 0
                  · rw [if_pos h] at hP
                    by_cases h2 : E1 = 0
                    · rw [if_pos h2] at hP
                      by_cases h3 : kn = false ∨ (0 < L1.length ∧ ob = false)
                      · rw [if_pos h3] at hP; omega
                      · refine ⟨h, h2, ?_, fun h4 => h3 (.inr h4)⟩
                        cases kn
                        · exact absurd (.inl rfl) h3
                        · rfl
                    · rw [if_neg h2] at hP; exact absurd hP.symm h2
                  · rw [if_neg h] at hP; exact absurd hP.symm h
                obtain ⟨q0, q1, q2, q3⟩ := hq
                obtain ⟨b1, b2, b3, hL, hz, -⟩ := dyadE_zero hl0 (by rw [← FE.out.1]; exact q0)
                obtain ⟨-, -, -, hL', hz', -⟩ := dyadE_zero hl1 (by rw [← FE.out.2]; exact q1)
                have hm : 0 ≤ mode ∧ mode ≤ 4 := of_decide_eq_true (HKN.out.symm.trans q2)
                obtain ⟨f1, f2, f3⟩ := FP.out
                unfold partX at f2
                unfold partC at f3
                rw [← f1, if_pos hp] at f2 f3
                have hlen1 : L1.length = 0 ∨ L1.length = 1 := by
                  rcases Nat.eq_zero_or_pos L1.length with h | h
                  · exact .inl h
                  · right
                    have : ob = true := by
                      cases ob
                      · exact absurd ⟨h, rfl⟩ q3
                      · rfl
                    rw [HOB.out, oneB, decide_eq_true_eq] at this
                    exact this.1
                have hn0 : L1.length = 0 → n1 = false := fun h => by
                  have : L1 = [] := List.length_eq_zero_iff.1 h
                  exact (hz' (by rw [this]; rfl)).1
                obtain ⟨sd, hsd⟩ : ∃ s, s = dSign n1 L1.length := ⟨_, rfl⟩
                rw [← hsd] at f2 f3
                have hsd3 : sd = -1 ∨ sd = 0 ∨ sd = 1 := by
                  rw [hsd]; unfold dSign; split
                  · exact .inr (.inl rfl)
                  · split
                    · exact .inl rfl
                    · exact .inr (.inr rfl)
                have hlen : L0.length = (limbs (lval L0)).length := congrArg List.length hL
                have hH2 := H0.out
                rw [hL] at hH2
                have H2 := hid hH2
                have QO := hid (show ∀ w, Ns .u32 w ao0 cap0 (limbs (lval L0)) → Calls Try.prog 59 #[.agg #[.bool n0, .slice ao0 L0.length cap0, .int .i64 x0]] w fun e w' => RetQD 3 w (nrm (sg n0 (lval L0)) x0) 400000 200000 e w' from fun w h => by
                  rw [hlen]; exact qof_any n0 (lval L0) ao0 cap0 x0 w h (by omega) (by omega))
                have RD := hid (show ∀ v w, QD 3 w (nrm (sg n0 (lval L0)) x0) 400000 200000 v → Calls Try.prog 58 #[v, .int .i64 sd, .int .i64 mode] w (RetX w PX PC) from fun v w h => by
                  rw [f2, f3]; exact roundedN_any v n0 (lval L0) x0 400000 200000 sd mode w h (by omega) (by omega) hsd3 hm.1 hm.2 (fun h => (hz h).1))
                subst hp
                clear q0 q1 q2 q3 b1 b2 b3 hL hz hL' hz' hm f1 f2 f3 hlen hH2 hsd3 hP
                cases hn : n1
                · have hs : sd = (L1.length : Int) := by
                    rw [hsd, hn]; unfold dSign
                    rcases hlen1 with h | h <;> rw [h] <;> rfl
                  rw [hs] at RD
                  rw [hn] at i0
                  clear hs hsd hn hn0 hlen1
                  go_wp2_with (first
                    | (go_at_call 59; (with_reducible refine (QO.out _ (H2.out.below yb5)).mono ?_); rintro e w4 ⟨v4, rfl, hq4, hb4⟩)
                    | (go_at_call 58; (with_reducible refine (RD.out _ _ hq4).mono ?_); rintro e w5 ⟨rfl, hb5⟩))
                  go_ret
                  exact ⟨ret_bool (by simp), below_trans yb5 (below_trans hb4 hb5)⟩
                · have hs : sd = -1 := by
                    rw [hsd, hn]; unfold dSign
                    rw [if_neg (fun h => by have := hn0 h; rw [hn] at this; cases this)]; rfl
                  rw [hs] at RD
                  rw [hn] at i0
                  clear hs hsd hn hn0 hlen1
                  go_wp2_with (first
                    | (go_at_call 59; (with_reducible refine (QO.out _ (H2.out.below yb5)).mono ?_); rintro e w4 ⟨v4, rfl, hq4, hb4⟩)
                    | (go_at_call 58; (with_reducible refine (RD.out _ _ hq4).mono ?_); rintro e w5 ⟨rfl, hb5⟩))
                  go_ret
                  exact ⟨ret_bool (by simp), below_trans yb5 (below_trans hb4 hb5)⟩
              · have hx : PX = 0 ∧ PC = false := by
                  obtain ⟨f1, f2, f3⟩ := FP.out
                  rw [f2, f3]; unfold partX partC; rw [← f1, if_neg hp, if_neg hp]; exact ⟨rfl, rfl⟩
                obtain ⟨rfl, rfl⟩ := hx
                have ht3 : (PE == 0) = false := beq_eq_false_iff_ne.2 hp
                clear hp
                go_wp2_with fail
                go_ret
                exact ⟨ret_bool (by simp), yb5⟩
end Go.Proofs.Ytdoiobdomngccaa
