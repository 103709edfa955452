/- GrowTurns: the law's walk. -/
import Derived.Test.YteaakbeemhmciaaDoorGv
import Derived.Test.YteaakbeemhmciaaDoorSu0
set_option linter.unusedVariables false
set_option linter.unusedSimpArgs false
namespace Go.Ulp
open Go.RowKit
theorem anyTo_iff (p : Int → Bool) (L : List Nat) : ∀ n, anyTo p L n = true ↔ ∃ j, j < n ∧ p (lb L j) = true
  | 0 => ⟨(fun h => by cases h), (fun ⟨j, h, _⟩ => by omega)⟩
  | n + 1 => by
    have h := anyTo_iff p L n
    unfold anyTo
    rw [Bool.or_eq_true, h]
    constructor
    · rintro (⟨j, h1, h2⟩ | h2)
      · exact ⟨j, by omega, h2⟩
      · exact ⟨n, by omega, h2⟩
    · rintro ⟨j, h1, h2⟩
      by_cases e : j = n
      · right; rw [← e]; exact h2
      · left; exact ⟨j, by omega, h2⟩
theorem anyTo_false (p : Int → Bool) (L : List Nat) (n : Nat) : anyTo p L n = false ↔ ∀ j, j < n → p (lb L j) = false := by
  rw [← Bool.not_eq_true, anyTo_iff]
  constructor
  · intro h j hj
    cases e : p (lb L j)
    · rfl
    · exact absurd ⟨j, hj, e⟩ h
  · rintro h ⟨j, hj, e⟩
    rw [h j hj] at e; cases e
def noVal (x : Int) : Bool := !hasVal x
def sayNo (L : List Nat) (i : Nat) : Int := if anyTo noVal L i = true then 4 else 0
def sayFar (L : List Nat) (i : Nat) : Int := if anyTo tooB L i = true then 2 else 0
theorem sayNo_yes {L : List Nat} {i : Nat} (h : hasVal (lb L i) = false) : sayNo L (i + 1) = 4 := by
  unfold sayNo anyTo noVal; rw [h]; simp
theorem sayNo_no {L : List Nat} {i : Nat} (h : hasVal (lb L i) = true) : sayNo L (i + 1) = sayNo L i := by
  unfold sayNo; rw [show anyTo noVal L (i + 1) = (anyTo noVal L i || noVal (lb L i)) from rfl]; unfold noVal; rw [h]; simp
theorem sayFar_yes {L : List Nat} {i : Nat} (h : tooB (lb L i) = true) : sayFar L (i + 1) = 2 := by
  unfold sayFar anyTo; rw [h]; simp
theorem sayFar_no {L : List Nat} {i : Nat} (h : tooB (lb L i) = false) : sayFar L (i + 1) = sayFar L i := by
  unfold sayFar; rw [show anyTo tooB L (i + 1) = (anyTo tooB L i || tooB (lb L i)) from rfl]; rw [h]; simp
theorem sayNo_or (L : List Nat) (i : Nat) : sayNo L i = 4 ∨ sayNo L i = 0 := by unfold sayNo; split; exact .inl rfl; exact .inr rfl
theorem sayFar_or (L : List Nat) (i : Nat) : sayFar L i = 2 ∨ sayFar L i = 0 := by unfold sayFar; split; exact .inl rfl; exact .inr rfl
theorem zero_lt_big : ((0 : Nat) : Int) < 18446744073709551616 := by decide
set_option maxRecDepth 100000 in
theorem six_lt (a b c d e f : Nat) (ha : a < 18446744073709551616) (hb : b < 18446744073709551616) (hc : c < 18446744073709551616) (hd : d < 18446744073709551616) (he : e < 18446744073709551616) (hf : f < 18446744073709551616) :
    ∀ j, lb [a, b, c, d, e, f] j < 18446744073709551616 := by
  intro j
  by_cases hj : j < 6
  · obtain rfl | rfl | rfl | rfl | rfl | rfl : j = 0 ∨ j = 1 ∨ j = 2 ∨ j = 3 ∨ j = 4 ∨ j = 5 := by omega
    · have h : lb [a, b, c, d, e, f] 0 = (a : Int) := rfl
      rw [h]; omega
    · have h : lb [a, b, c, d, e, f] 1 = (b : Int) := rfl
      rw [h]; omega
    · have h : lb [a, b, c, d, e, f] 2 = (c : Int) := rfl
      rw [h]; omega
    · have h : lb [a, b, c, d, e, f] 3 = (d : Int) := rfl
      rw [h]; omega
    · have h : lb [a, b, c, d, e, f] 4 = (e : Int) := rfl
      rw [h]; omega
    · have h : lb [a, b, c, d, e, f] 5 = (f : Int) := rfl
      rw [h]; omega
  · unfold lb
    rw [getD_out _ _ (by show 6 ≤ j; omega)]
    exact zero_lt_big
end Go.Ulp
namespace Go.Proofs.YteaakbeemhmciaaDoor
open Go.RowKit Go.Ulp
set_option linter.unusedVariables false
set_option linter.unusedSimpArgs false
set_option maxHeartbeats 2000000
set_option maxRecDepth 100000
theorem lessQ_any (x y : Int) (hx : 0 ≤ x ∧ x < 18446744073709551616) (hy : 0 ≤ y ∧ y < 18446744073709551616) (w : World) :
    Calls Tryd.prog 37 #[.int .u64 x, .int .u64 y] w (RetQD 3 w (addD (fv x) (negD (fv y))) 2400 1100) := by
  have VX := hid (fun w => qval_any x hx.1 hx.2 w)
  have VY := hid (fun w => qval_any y hy.1 hy.2 w)
  have NG := hid (fun v w h => qneg_any v (fv y) 1200 1100 w h (by omega) (by omega))
  have AD := hid (fun v u w h0 h1 => (qadd_any v u (fv x) (negD (fv y)) 1200 1100 1200 1100 w h0 h1 (by omega) (by omega) (by omega) (by omega)).mono fun _ _ h => RetQD.weak h (show max 1200 1200 + max 1100 1100 + 1 ≤ 2400 by omega) (show max 1100 1100 ≤ 1100 by omega))
  have yb0 := below_alloc w (.cells #[.bool false, .slice none 0 0, .int .i64 0] 42)
  have zR0 : QL 42 (w.alloc (.cells #[.bool false, .slice none 0 0, .int .i64 0] 42)) w.heap.size false (.slice none 0 0) 0 := QL.made rfl
  generalize addD (fv x) (negD (fv y)) = R at *
  generalize negD (fv y) = N at *
  generalize fv x = X at *
  generalize fv y = Y at *
  go_enter Tryd.func37, Tryd.ntmps37
  go_wp2_with (first
    | (go_at_call 25; (with_reducible refine (VX.out _).mono ?_); rintro en w1 ⟨v1, rfl, hv1, hb1⟩; have yb1 := below_trans yb0 hb1)
    | (go_at_call 25; (with_reducible refine (VY.out _).mono ?_); rintro en w2 ⟨v2, rfl, hv2, hb2⟩; have yb2 := below_trans yb1 hb2)
    | (go_at_call 39; (with_reducible refine (NG.out _ _ hv2).mono ?_); rintro en w3 ⟨v3, rfl, hv3, hb3⟩; have yb3 := below_trans yb2 hb3)
    | (go_at_call 38; (with_reducible refine (AD.out _ _ _ ((hv1.below hb2).below hb3) hv3).mono ?_); rintro en w4 ⟨v4, rfl, ⟨xx, nn, a4, c4, rfl, hN4, hD4, hA4, hT4⟩, hb4⟩; have yb4 := below_trans yb3 hb4; have zR4 := (((zR0.below hb1).below hb2).below hb3).below hb4; obtain ⟨⟨k0, k1, f0, f1, hs2⟩, k2, f2⟩ := id zR4))
  refine bodyPost_ret (by simp [results, Tryd.results37, go_sem, k0, k1, k2]; try rfl) rfl ?_
  exact ⟨_, rfl, ⟨xx, nn, a4, c4, rfl, ((hN4.setCell hs2 (by decide) _ _).setCell (hs2.setCell _ _) (by decide) _ _).setCell ((hs2.setCell _ _).setCell _ _) (by decide) _ _, hD4, hA4, hT4⟩, ((yb4.setCell (by first | omega | (simp; done) | (simp; omega)) _).setCell (by first | omega | (simp; done) | (simp; omega)) _).setCell (by first | omega | (simp; done) | (simp; omega)) _⟩
/-- what Turn answers -/
theorem turn_all (a b c d e f : Nat) (hl : ∀ j, lb [a, b, c, d, e, f] j < 18446744073709551616) : ∃ tn te : Int,
    (∀ w, Tab 0 w → Calls Tryd.prog 34 #[.int .u64 (a : Int), .int .u64 (b : Int), .int .u64 (c : Int), .int .u64 (d : Int), .int .u64 (e : Int), .int .u64 (f : Int)] w fun en w' => en = .returned (.tuple #[.int .i64 tn, .int .i64 te]) ∧ Below w.heap.size w w')
    ∧ te = (if sayNo [a, b, c, d, e, f] 6 = 0 then sayFar [a, b, c, d, e, f] 6 else 4) ∧ (te ≠ 0 → tn = 0)
    ∧ (te = 0 → tn = cmpD (mulD (addD (fv (a : Int)) (negD (fv (e : Int)))) (addD (fv (d : Int)) (negD (fv (f : Int))))) (mulD (addD (fv (b : Int)) (negD (fv (f : Int)))) (addD (fv (c : Int)) (negD (fv (e : Int)))))) := by
  cases hn : anyTo noVal [a, b, c, d, e, f] 6
  · have h1 := (anyTo_false _ _ _).1 hn
    have h2 : ∀ j, j < 6 → hasVal (lb [a, b, c, d, e, f] j) = true := fun j hj => by
      have h3 : (!hasVal (lb [a, b, c, d, e, f] j)) = false := h1 j hj
      cases h4 : hasVal (lb [a, b, c, d, e, f] j)
      · rw [h4] at h3; cases h3
      · rfl
    have s0 : sayNo [a, b, c, d, e, f] 6 = 0 := by unfold sayNo; rw [hn]; rfl
    cases hf : anyTo tooB [a, b, c, d, e, f] 6
    · have s1 : sayFar [a, b, c, d, e, f] 6 = 0 := by unfold sayFar; rw [hf]; rfl
      exact ⟨_, 0, fun w hT => turn_ok a b c d e f hl h2 ((anyTo_false _ _ _).1 hf) w hT, by rw [s0, s1]; rfl, fun h => absurd rfl h, fun _ => rfl⟩
    · have s1 : sayFar [a, b, c, d, e, f] 6 = 2 := by unfold sayFar; rw [hf]; rfl
      exact ⟨0, 2, fun w hT => turn_far a b c d e f hl h2 ((anyTo_iff _ _ _).1 hf) w, by rw [s0, s1]; rfl, fun _ => rfl, fun h => by omega⟩
  · have s0 : sayNo [a, b, c, d, e, f] 6 = 4 := by unfold sayNo; rw [hn]; rfl
    obtain ⟨j, hj, h2⟩ := (anyTo_iff _ _ _).1 hn
    exact ⟨0, 4, fun w hT => turn_none a b c d e f hl ⟨j, hj, by have h3 : (!hasVal (lb [a, b, c, d, e, f] j)) = true := h2; cases h4 : hasVal (lb [a, b, c, d, e, f] j); rfl; rw [h4] at h3; cases h3⟩ w, by rw [s0]; rfl, fun _ => rfl, fun h => by omega⟩
theorem growTurns_nat (a b c d e f : Nat) (hxa : (a : Int) < 18446744073709551616) (hxb : (b : Int) < 18446744073709551616) (hxc : (c : Int) < 18446744073709551616) (hxd : (d : Int) < 18446744073709551616) (hxe : (e : Int) < 18446744073709551616) (hxf : (f : Int) < 18446744073709551616) (W : World) (hT : Tab 0 W) :
    Calls Tryd.prog 5 #[.int .u64 (a : Int), .int .u64 (b : Int), .int .u64 (c : Int), .int .u64 (d : Int), .int .u64 (e : Int), .int .u64 (f : Int)] W fun en w' => en = .returned (.bool true) ∧ Below W.heap.size W w' := by
  have hl := six_lt a b c d e f (by omega) (by omega) (by omega) (by omega) (by omega) (by omega)
  obtain ⟨tn, te, TN, hte, htn, htc⟩ := turn_all a b c d e f hl
  have N6 := hid (fun w t => ns6 w t a b c d e f)
  have HV := hid (fun j w => hasValue_any (lb [a, b, c, d, e, f] j) (lb_nonneg _ _) (hl j) w)
  have HR := hid (fun j w => rHasValue_any (lb [a, b, c, d, e, f] j) (lb_nonneg _ _) (hl j) w)
  have TF := hid (fun j w => tooFar_any (lb [a, b, c, d, e, f] j) (lb_nonneg _ _) (hl j) w)
  have L1 := hid (fun w => lessQ_any (a : Int) (e : Int) ⟨by omega, hxa⟩ ⟨by omega, hxe⟩ w)
  have L2 := hid (fun w => lessQ_any (d : Int) (f : Int) ⟨by omega, hxd⟩ ⟨by omega, hxf⟩ w)
  have L3 := hid (fun w => lessQ_any (b : Int) (f : Int) ⟨by omega, hxb⟩ ⟨by omega, hxf⟩ w)
  have L4 := hid (fun w => lessQ_any (c : Int) (e : Int) ⟨by omega, hxc⟩ ⟨by omega, hxe⟩ w)
  generalize addD (fv (a : Int)) (negD (fv (e : Int))) = X1 at *
  generalize addD (fv (d : Int)) (negD (fv (f : Int))) = X2 at *
  generalize addD (fv (b : Int)) (negD (fv (f : Int))) = X3 at *
  generalize addD (fv (c : Int)) (negD (fv (e : Int))) = X4 at *
  have M1 := hid (fun v u w h0 h1 => qmul_any v u X1 X2 2400 1100 2400 1100 w h0 h1 (by omega) (by omega) (by omega) (by omega))
  have M2 := hid (fun v u w h0 h1 => qmul_any v u X3 X4 2400 1100 2400 1100 w h0 h1 (by omega) (by omega) (by omega) (by omega))
  have QC := hid (fun v u w h0 h1 => qcmp_any v u (mulD X1 X2) (mulD X3 X4) (2400 + 2400) (1100 + 1100) (2400 + 2400) (1100 + 1100) w h0 h1 (by omega) (by omega) (by omega) (by omega))
  generalize cmpD (mulD X1 X2) (mulD X3 X4) = cv at *
  generalize mulD X1 X2 = P1 at *
  generalize mulD X3 X4 = P2 at *
  have HTE := hid hte
  have HTN := hid htn
  have HTC := hid htc
  have TN' := hid TN
  have HT := hid hT
  clear hte htn htc TN hT hl hxa hxb hxc hxd hxe hxf
  go_enter Tryd.func5, Tryd.ntmps5
  go_wp2_with (go_at_call 34; (with_reducible refine (TN'.out _ HT.out).mono ?_); rintro en w1 ⟨rfl, hb1⟩)
  have hN1 := N6.out w1 22
  obtain ⟨WA, hWA⟩ : ∃ X, X = w1.alloc (.cells #[.int .u64 (a : Int), .int .u64 (b : Int), .int .u64 (c : Int), .int .u64 (d : Int), .int .u64 (e : Int), .int .u64 (f : Int)] 22) := ⟨_, rfl⟩
  have ybA : Below W.heap.size W WA := by rw [hWA]; exact below_trans hb1 (below_alloc _ _)
  rw [← hWA] at hN1 ⊢
  obtain ⟨gA, hgA⟩ : ∃ g, g = w1.heap.size := ⟨_, rfl⟩
  rw [← hgA] at hN1 ⊢
  have HN1 := hid hN1
  clear hWA hgA hN1 hb1
  go_loopw [15, 17, 39] (fun s15 _ s39 wr => ∃ i : Nat, s39 = .int .i64 (i : Int) ∧ i ≤ 6 ∧ (∃ s : Int, s15 = .int .i64 s ∧ s = sayNo [a, b, c, d, e, f] i) ∧ Below WA.heap.size WA wr) (fun _ _ s39 _ => 6 - (intOf s39).toNat)
  case atStart => exact ⟨0, rfl, by omega, ⟨0, rfl, rfl⟩, Below.refl _ _⟩
  case round =>
    obtain ⟨i, rfl, hi, ⟨s, rfl, hs⟩, hbw⟩ := hrel
    have HS := hid hs
    clear hs
    by_cases hi2 : (i : Int) < 6
    · obtain ⟨-, -, h3⟩ := HN1.out
      obtain ⟨b0, o0, e0, hc0⟩ := h3 (by simp)
      injection e0 with e0
      injection e0 with eb eo
      subst eb eo
      have k0 := (hbw.cell (p := ⟨gA, 0 + i, none⟩) (World.block_lt_of_cell? _ _ (hc0 i (by simp; omega)))).trans (hc0 i (by simp; omega))
      have H0 := hid (HR.out i)
      have S0 := hid (show hasVal (lb [a, b, c, d, e, f] i) = false → sayNo [a, b, c, d, e, f] (i + 1) = 4 from fun h => sayNo_yes h)
      have S1 := hid (show hasVal (lb [a, b, c, d, e, f] i) = true → sayNo [a, b, c, d, e, f] (i + 1) = sayNo [a, b, c, d, e, f] i from fun h => sayNo_no h)
      rw [Nat.zero_add] at k0
      generalize lb [a, b, c, d, e, f] i = x at *
      clear hc0 h3 HN1 HR HV TF L1 L2 L3 L4 M1 M2 QC HTE HTN HTC TN'
      cases hv : hasVal x
      · have HV0 := hid (S0.out hv)
        rw [hv] at H0
        clear hv S0 S1
        go_wp2_with (go_at_call 35; (with_reducible refine (H0.out _).mono ?_); rintro en w2 ⟨rfl, rfl⟩)
        go_roundw
        case rel => exact ⟨i + 1, by go_num, by omega, ⟨4, rfl, HV0.out.symm⟩, hbw⟩
        case measure => simp [intOf]; omega
      · have HV0 := hid (S1.out hv)
        rw [hv] at H0
        clear hv S0 S1
        go_wp2_with (go_at_call 35; (with_reducible refine (H0.out _).mono ?_); rintro en w2 ⟨rfl, rfl⟩)
        go_roundw
        case rel => exact ⟨i + 1, by go_num, by omega, ⟨s, rfl, HS.out.trans HV0.out.symm⟩, hbw⟩
        case measure => simp [intOf]; omega
    · have hie : i = 6 := by omega
      replace HS := hid (show s = sayNo [a, b, c, d, e, f] 6 by rw [← hie]; exact HS.out)
      have hsn := sayNo_or [a, b, c, d, e, f] 6
      rw [← HS.out] at hsn
      have yb1 : Below W.heap.size W wr := below_trans ybA hbw
      clear HN1 HV HR hi hie hbw
      rcases hsn with hs4 | hs0
      · have hte4 : te = 4 := by
          rw [HTE.out, if_neg (by rw [← HS.out, hs4]; omega)]
        have htn0 := HTN.out (by rw [hte4]; omega)
        subst hs4 hte4 htn0
        clear TF L1 L2 L3 L4 M1 M2 QC HTE HTN HTC TN' HS
        go_wp2_with fail
        go_ret
        exact ⟨rfl, yb1⟩
      · have HTE2 := hid (show te = sayFar [a, b, c, d, e, f] 6 by rw [HTE.out, if_pos (by rw [← HS.out, hs0])])
        subst hs0
        clear HTE HS
        go_wp2_with fail
        have hN1 := N6.out wr 22
        obtain ⟨WB, hWB⟩ : ∃ X, X = wr.alloc (.cells #[.int .u64 (a : Int), .int .u64 (b : Int), .int .u64 (c : Int), .int .u64 (d : Int), .int .u64 (e : Int), .int .u64 (f : Int)] 22) := ⟨_, rfl⟩
        have ybB : Below W.heap.size W WB := by rw [hWB]; exact below_trans yb1 (below_alloc _ _)
        rw [← hWB] at hN1 ⊢
        obtain ⟨gB, hgB⟩ : ∃ g, g = wr.heap.size := ⟨_, rfl⟩
        rw [← hgB] at hN1 ⊢
        have HN2 := hid hN1
        clear hWB hgB hN1
        go_loopw [15, 19, 57] (fun s15 _ s57 wx => ∃ i : Nat, s57 = .int .i64 (i : Int) ∧ i ≤ 6 ∧ (∃ s : Int, s15 = .int .i64 s ∧ s = sayFar [a, b, c, d, e, f] i) ∧ Below WB.heap.size WB wx) (fun _ _ s57 _ => 6 - (intOf s57).toNat)
        case atStart => exact ⟨0, rfl, by omega, ⟨0, rfl, rfl⟩, Below.refl _ _⟩
        case round =>
          obtain ⟨i, rfl, hi, ⟨s, rfl, hs⟩, hbw⟩ := hrel
          have HS := hid hs
          clear hs
          by_cases hi2 : (i : Int) < 6
          · obtain ⟨-, -, h3⟩ := HN2.out
            obtain ⟨b0, o0, e0, hc0⟩ := h3 (by simp)
            injection e0 with e0
            injection e0 with eb eo
            subst eb eo
            have k0 := (hbw.cell (p := ⟨gB, 0 + i, none⟩) (World.block_lt_of_cell? _ _ (hc0 i (by simp; omega)))).trans (hc0 i (by simp; omega))
            have H0 := hid (TF.out i)
            have S0 := hid (show tooB (lb [a, b, c, d, e, f] i) = true → sayFar [a, b, c, d, e, f] (i + 1) = 2 from fun h => sayFar_yes h)
            have S1 := hid (show tooB (lb [a, b, c, d, e, f] i) = false → sayFar [a, b, c, d, e, f] (i + 1) = sayFar [a, b, c, d, e, f] i from fun h => sayFar_no h)
            rw [Nat.zero_add] at k0
            generalize lb [a, b, c, d, e, f] i = x at *
            clear hc0 h3 TF L1 L2 L3 L4 M1 M2 QC HTE2 HTN HTC TN'
            cases hv : tooB x
            · have HV0 := hid (S1.out hv)
              rw [hv] at H0
              clear hv S0 S1
              go_wp2_with (go_at_call 36; (with_reducible refine (H0.out _).mono ?_); rintro en w2 ⟨rfl, hb2⟩)
              go_roundw
              case rel => exact ⟨i + 1, by go_num, by omega, ⟨s, rfl, HS.out.trans HV0.out.symm⟩, below_trans hbw hb2⟩
              case measure => simp [intOf]; omega
            · have HV0 := hid (S0.out hv)
              rw [hv] at H0
              clear hv S0 S1
              go_wp2_with (go_at_call 36; (with_reducible refine (H0.out _).mono ?_); rintro en w2 ⟨rfl, hb2⟩)
              go_roundw
              case rel => exact ⟨i + 1, by go_num, by omega, ⟨2, rfl, HV0.out.symm⟩, below_trans hbw hb2⟩
              case measure => simp [intOf]; omega
          · have hie : i = 6 := by omega
            replace HS := hid (show s = sayFar [a, b, c, d, e, f] 6 by rw [← hie]; exact HS.out)
            have hsn := sayFar_or [a, b, c, d, e, f] 6
            rw [← HS.out] at hsn
            have yb2 : Below W.heap.size W wr := below_trans ybB hbw
            clear hi hie hbw
            rcases hsn with hs4 | hs0
            · have hte4 : te = 2 := by rw [HTE2.out, ← HS.out, hs4]
              have htn0 := HTN.out (by rw [hte4]; omega)
              subst hs4 hte4 htn0
              clear TF L1 L2 L3 L4 M1 M2 QC HTE2 HTN HTC TN' HS
              go_wp2_with fail
              go_ret
              exact ⟨rfl, yb2⟩
            · have hte0 : te = 0 := by rw [HTE2.out, ← HS.out, hs0]
              have htn0 := HTC.out hte0
              subst hs0 hte0 htn0
              clear TF HTE2 HTN HTC TN' HS
              go_wp2_with (first
                | (go_at_call 37; (with_reducible refine (L1.out _).mono ?_); rintro en w2 ⟨v2, rfl, hv2, hb2⟩)
                | (go_at_call 37; (with_reducible refine (L2.out _).mono ?_); rintro en w3 ⟨v3, rfl, hv3, hb3⟩)
                | (go_at_call 41; (with_reducible refine (M1.out _ _ _ (hv2.below hb3) hv3).mono ?_); rintro en w4 ⟨v4, rfl, hv4, hb4⟩)
                | (go_at_call 37; (with_reducible refine (L3.out _).mono ?_); rintro en w5 ⟨v5, rfl, hv5, hb5⟩)
                | (go_at_call 37; (with_reducible refine (L4.out _).mono ?_); rintro en w6 ⟨v6, rfl, hv6, hb6⟩)
                | (go_at_call 41; (with_reducible refine (M2.out _ _ _ (hv5.below hb6) hv6).mono ?_); rintro en w7 ⟨v7, rfl, hv7, hb7⟩)
                | (go_at_call 40; (with_reducible refine (QC.out _ _ _ (((hv4.below hb5).below hb6).below hb7) hv7).mono ?_); rintro en w8 ⟨rfl, hb8⟩))
              go_ret
              exact ⟨ret_bool (by simp), below_trans (below_trans (below_trans (below_trans (below_trans (below_trans (below_trans yb2 hb2) hb3) hb4) hb5) hb6) hb7) hb8⟩
theorem growTurns_walk (a b c d e f : Int) (ha : 0 ≤ a ∧ a < 18446744073709551616) (hb : 0 ≤ b ∧ b < 18446744073709551616) (hc : 0 ≤ c ∧ c < 18446744073709551616) (hd : 0 ≤ d ∧ d < 18446744073709551616) (he : 0 ≤ e ∧ e < 18446744073709551616) (hf : 0 ≤ f ∧ f < 18446744073709551616) (W : World) (hT : Tab 0 W) :
    Calls Tryd.prog 5 #[.int .u64 a, .int .u64 b, .int .u64 c, .int .u64 d, .int .u64 e, .int .u64 f] W fun en w' => en = .returned (.bool true) ∧ Below W.heap.size W w' := by
  obtain ⟨a, rfl⟩ := Int.eq_ofNat_of_zero_le ha.1
  obtain ⟨b, rfl⟩ := Int.eq_ofNat_of_zero_le hb.1
  obtain ⟨c, rfl⟩ := Int.eq_ofNat_of_zero_le hc.1
  obtain ⟨d, rfl⟩ := Int.eq_ofNat_of_zero_le hd.1
  obtain ⟨e, rfl⟩ := Int.eq_ofNat_of_zero_le he.1
  obtain ⟨f, rfl⟩ := Int.eq_ofNat_of_zero_le hf.1
  exact growTurns_nat a b c d e f ha.2 hb.2 hc.2 hd.2 he.2 hf.2 W hT
end Go.Proofs.YteaakbeemhmciaaDoor
