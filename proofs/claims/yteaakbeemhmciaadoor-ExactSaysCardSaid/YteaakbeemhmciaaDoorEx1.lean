/- ExactSays: the law's walk. -/
import Derived.Test.YteaakbeemhmciaaDoorEx0
set_option linter.unusedVariables false
set_option linter.unusedSimpArgs false
namespace Go.Proofs.YteaakbeemhmciaaDoor
open Go.RowKit Go.Ulp
set_option linter.unusedVariables false
set_option linter.unusedSimpArgs false
set_option maxHeartbeats 2000000
set_option maxRecDepth 100000
theorem nearSum_any (a b : Nat) (ha : a < 18446744073709551616) (hb : b < 18446744073709551616) (w : World) :
    Calls Tryd.prog 154 #[.int .u64 (a : Int), .int .u64 (b : Int)] w fun e w' => e = .returned (.int .u64 ((plusN a b : Nat) : Int)) ∧ Below w.heap.size w w' := by
  have SO := hid (show ∀ g w, Ns .u64 w (some ⟨g, 0, none⟩) 2 [a, b] → Calls Tryd.prog 70 #[.slice (some ⟨g, 0, none⟩) 2 2, .int .i64 0] w (RetX w (plusN a b : Int) (sumC [a, b] 0)) from fun g w h => by
    rw [plusN_eq]; exact sumOf_any (some ⟨g, 0, none⟩) 2 [a, b] 0 w h (two_lt a b ha hb) (by simp) (by omega) (by omega))
  have N2 := hid (fun w t => ns2 w t a b)
  generalize sumC [a, b] 0 = sc at *
  generalize plusN a b = s at *
  clear ha hb
  go_enter Tryd.func154, Tryd.ntmps154
  go_wp2_with (go_at_call 70; (with_reducible refine (SO.out _ _ (N2.out _ _)).mono ?_); rintro en w1 ⟨rfl, hb1⟩)
  go_ret
  exact ⟨rfl, below_trans (below_alloc _ _) hb1⟩
theorem turned_any (b : Nat) (hb : b < 18446744073709551616) (w : World) :
    Calls Tryd.prog 173 #[.int .u64 (b : Int)] w fun e w' => e = .returned (.int .u64 ((turnN b : Nat) : Int)) ∧ w = w' := by
  obtain ⟨nb, hn, hnb, hsg⟩ := neg_nat b hb
  have e : ((turnN b : Nat) : Int) = (nb : Int) := by rw [turnN_eq hb, hn]
  rw [e]
  have b0 : 0 ≤ (b : Int) := by omega
  have b1 : (b : Int) < 18446744073709551616 := by omega
  have MI := hid (fun w => rMinus_any (b : Int) b0 b1 w)
  have SG := hid (show ∀ w, Calls Tryd.prog 62 #[.int .u64 ((b : Int) % 9223372036854775808), .bool (!negB (b : Int))] w fun e w' => e = .returned (.int .u64 (nb : Int)) ∧ w = w' from fun w => by
    rw [← hsg]; exact rSigned_any _ (by omega) (by omega) _ w)
  generalize negB (b : Int) = sb at *
  clear e hn hnb hsg hb
  go_enter Tryd.func173, Tryd.ntmps173
  go_wp2_with (first
    | (go_at_call 63; (with_reducible refine (MI.out _).mono ?_); rintro en w1 ⟨rfl, rfl⟩)
    | (go_at_call 62; (with_reducible refine (SG.out _).mono ?_); rintro en w1 ⟨rfl, rfl⟩))
  go_ret
  exact ⟨rfl, rfl⟩
theorem nearLess_any (a b : Nat) (ha : a < 18446744073709551616) (hb : b < 18446744073709551616) (w : World) :
    Calls Tryd.prog 155 #[.int .u64 (a : Int), .int .u64 (b : Int)] w fun e w' => e = .returned (.int .u64 ((lessN a b : Nat) : Int)) ∧ Below w.heap.size w w' := by
  have TB := hid (fun w => turned_any b hb w)
  have NS := hid (show Calls Tryd.prog 154 #[.int .u64 (a : Int), .int .u64 ((turnN b : Nat) : Int)] w fun e w' => e = .returned (.int .u64 ((lessN a b : Nat) : Int)) ∧ Below w.heap.size w w' from nearSum_any a (turnN b) ha (turnN_lt hb) w)
  generalize lessN a b = l at *
  generalize turnN b = t at *
  clear ha hb
  go_enter Tryd.func155, Tryd.ntmps155
  go_wp2_with (first
    | (go_at_call 173; (with_reducible refine (TB.out _).mono ?_); rintro en w1 ⟨rfl, rfl⟩)
    | (go_at_call 154; (with_reducible refine NS.out.mono ?_); rintro en w1 ⟨rfl, hb1⟩))
  go_ret
  exact ⟨rfl, hb1⟩
/-- three numbers -/
def RetT (w : World) (x y z : Int) (e : Ending) (w' : World) : Prop := e = .returned (.tuple #[.int .u64 x, .int .u64 y, .int .u64 z]) ∧ Below w.heap.size w w'
theorem sumParts_any (a b : Nat) (ha : a < 18446744073709551616) (hb : b < 18446744073709551616) (w : World) :
    Calls Tryd.prog 94 #[.int .u64 (a : Int), .int .u64 (b : Int)] w (RetT w (plusN a b : Int) (restN a b : Int) (fastN a b : Int)) := by
  have hs := plusN_lt a b
  have PS := hid (fun w => nearSum_any a b ha hb w)
  have M1 := hid (fun w => nearLess_any (plusN a b) b hs hb w)
  have M2 := hid (fun w => nearLess_any (plusN a b) (lessN (plusN a b) b) hs (lessN_lt _ _) w)
  have M3 := hid (fun w => nearLess_any a (lessN (plusN a b) b) ha (lessN_lt _ _) w)
  have M4 := hid (fun w => nearLess_any b (lessN (plusN a b) (lessN (plusN a b) b)) hb (lessN_lt _ _) w)
  have M5 := hid (show ∀ w, Calls Tryd.prog 154 #[.int .u64 (lessN a (lessN (plusN a b) b) : Int), .int .u64 (lessN b (lessN (plusN a b) (lessN (plusN a b) b)) : Int)] w fun e w' => e = .returned (.int .u64 ((restN a b : Nat) : Int)) ∧ Below w.heap.size w w' from fun w => nearSum_any (lessN a (lessN (plusN a b) b)) (lessN b (lessN (plusN a b) (lessN (plusN a b) b))) (lessN_lt _ _) (lessN_lt _ _) w)
  have M6 := hid (fun w => nearLess_any (plusN a b) a hs ha w)
  have M7 := hid (show ∀ w, Calls Tryd.prog 155 #[.int .u64 (b : Int), .int .u64 (lessN (plusN a b) a : Int)] w fun e w' => e = .returned (.int .u64 (fastN a b : Int)) ∧ Below w.heap.size w w' from fun w => nearLess_any b (lessN (plusN a b) a) hb (lessN_lt _ _) w)
  generalize restN a b = R5 at *
  generalize fastN a b = R7 at *
  generalize lessN b (lessN (plusN a b) (lessN (plusN a b) b)) = R4 at *
  generalize lessN a (lessN (plusN a b) b) = R3 at *
  generalize lessN (plusN a b) (lessN (plusN a b) b) = R2 at *
  generalize lessN (plusN a b) b = R1 at *
  generalize lessN (plusN a b) a = R6 at *
  generalize plusN a b = S at *
  clear ha hb hs
  go_enter Tryd.func94, Tryd.ntmps94
  go_wp2_with (first
    | (go_at_call 154; (with_reducible refine (PS.out _).mono ?_); rintro en w1 ⟨rfl, hb1⟩)
    | (go_at_call 155; (with_reducible refine (M1.out _).mono ?_); rintro en w3 ⟨rfl, hb3⟩; have yb3 := below_trans hb1 hb3)
    | (go_at_call 155; (with_reducible refine (M2.out _).mono ?_); rintro en w4 ⟨rfl, hb4⟩; have yb4 := below_trans yb3 hb4)
    | (go_at_call 155; (with_reducible refine (M3.out _).mono ?_); rintro en w5 ⟨rfl, hb5⟩; have yb5 := below_trans yb4 hb5)
    | (go_at_call 155; (with_reducible refine (M4.out _).mono ?_); rintro en w6 ⟨rfl, hb6⟩; have yb6 := below_trans yb5 hb6)
    | (go_at_call 154; (with_reducible refine (M5.out _).mono ?_); rintro en w7 ⟨rfl, hb7⟩; have yb7 := below_trans yb6 hb7)
    | (go_at_call 155; (with_reducible refine (M6.out _).mono ?_); rintro en w8 ⟨rfl, hb8⟩; have yb8 := below_trans yb7 hb8)
    | (go_at_call 155; (with_reducible refine (M7.out _).mono ?_); rintro en w9 ⟨rfl, hb9⟩; have yb9 := below_trans yb8 hb9))
  refine bodyPost_ret (by simp [results, Tryd.results94, go_sem]; try rfl) rfl ?_
  exact ⟨rfl, yb9⟩
theorem prod0_any (a b : Nat) (ha : a < 18446744073709551616) (hb : b < 18446744073709551616) (w : World) :
    ∃ c, Calls Tryd.prog 82 #[.int .u64 (a : Int), .int .u64 (b : Int), .int .i64 0] w (RetX w (prodN a b : Int) c) := by
  have h := productOf_any (a : Int) (b : Int) ⟨by omega, by omega⟩ ⟨by omega, by omega⟩ 0 (by omega) (by omega) w
  rw [← prodN_eq] at h
  exact ⟨_, h⟩
theorem fused0_any (a b z : Nat) (ha : a < 18446744073709551616) (hb : b < 18446744073709551616) (hz : z < 18446744073709551616) (w : World) :
    ∃ c, Calls Tryd.prog 84 #[.int .u64 (a : Int), .int .u64 (b : Int), .int .u64 (z : Int), .int .i64 0] w (RetX w (leftX a b z) c) :=
  ⟨_, fusedOf_any (a : Int) (b : Int) ⟨by omega, by omega⟩ ⟨by omega, by omega⟩ z hz 0 (by omega) (by omega) w⟩
theorem exactSays_nat (a b : Nat) (ha : a < 18446744073709551616) (hb : b < 18446744073709551616) (W : World) (hT : Tab 0 W) :
    Calls Tryd.prog 15 #[.int .u64 (a : Int), .int .u64 (b : Int)] W fun e w' => e = .returned (.bool true) ∧ Below W.heap.size W w' := by
  have hp := prodN_lt a b
  obtain ⟨nb, hn, hnb, hsg⟩ := neg_nat (prodN a b) hp
  have hs := plusN_lt a b
  have ht : turnN (prodN a b) = nb := by have := turnN_eq hp; omega
  have TS := hid (fun w t => twoSum_any a b ha hb w t)
  have FS := hid (fun w t => fastSum_any a b ha hb w t)
  have TP := hid (fun w t => twoProd_any a b ha hb w t)
  have HA := hid (fun w => rHasValue_any (a : Int) (by omega) (by omega) w)
  have HB := hid (fun w => rHasValue_any (b : Int) (by omega) (by omega) w)
  have HS := hid (fun w => rHasValue_any (plusN a b : Int) (by omega) (by omega) w)
  have HP := hid (fun w => rHasValue_any (prodN a b : Int) (by omega) (by omega) w)
  have SP := hid (fun w => sumParts_any a b ha hb w)
  have PO := hid (fun w => prod0_any a b ha hb w)
  have FO := hid (fun w => fused0_any a b nb ha hb hnb w)
  have MI := hid (fun w => rMinus_any (prodN a b : Int) (by omega) (by omega) w)
  have SG := hid (show ∀ w, Calls Tryd.prog 62 #[.int .u64 ((prodN a b : Int) % 9223372036854775808), .bool (!negB (prodN a b : Int))] w fun e w' => e = .returned (.int .u64 (nb : Int)) ∧ w = w' from fun w => by
    rw [← hsg]; exact rSigned_any _ (by omega) (by omega) _ w)
  rw [ht] at TP
  have q0 : 0 ≤ (prodN a b : Int) := by omega
  have q1 : (prodN a b : Int) < 18446744073709551616 := by omega
  have HT := hid hT
  generalize leftX a b nb = LX at *
  generalize restN a b = RS at *
  generalize fastN a b = RF at *
  generalize negB (prodN a b : Int) = sp at *
  generalize hasVal (plusN a b : Int) = hS at *
  generalize hasVal (prodN a b : Int) = hP at *
  generalize plusN a b = S at *
  generalize prodN a b = PP at *
  generalize hasVal (a : Int) = va at *
  generalize hasVal (b : Int) = vb at *
  clear hT ha hb hp hn hnb hsg hs ht
  cases va
  · rw [Bool.false_and, pk_f, pk_f, pkE_f] at TS FS TP
    clear HB HS HP SP PO FO MI SG
    go_enter Tryd.func15, Tryd.ntmps15
    go_wp2_with (first | (go_at_call 91; (with_reducible refine (TS.out _ HT.out).mono ?_); rintro en w1 ⟨rfl, hb1⟩) | (go_at_call 92; (with_reducible refine (FS.out _ (HT.out.below hb1)).mono ?_); rintro en w2 ⟨rfl, hb2⟩; have yb2 := below_trans hb1 hb2) | (go_at_call 93; (with_reducible refine (TP.out _ (HT.out.below yb2)).mono ?_); rintro en w3 ⟨rfl, hb3⟩; have yb3 := below_trans yb2 hb3) | (go_at_call 35; (with_reducible refine (HA.out _).mono ?_); rintro en w4 ⟨rfl, rfl⟩) | (go_at_call 35; (with_reducible refine (HB.out _).mono ?_); rintro en w4 ⟨rfl, rfl⟩) | (go_at_call 94; (with_reducible refine (SP.out _).mono ?_); rintro en w5 ⟨rfl, hb5⟩; have yb5 := below_trans yb3 hb5) | (go_at_call 35; (with_reducible refine (HS.out _).mono ?_); rintro en w4 ⟨rfl, rfl⟩) | (go_at_call 82; (obtain ⟨cP, PO2⟩ := PO.out _; with_reducible refine PO2.mono ?_); rintro en w6 ⟨rfl, hb6⟩; have yb6 := below_trans yb5 hb6) | (go_at_call 35; (with_reducible refine (HP.out _).mono ?_); rintro en w4 ⟨rfl, rfl⟩) | (go_at_call 63; (with_reducible refine (MI.out _).mono ?_); rintro en w4 ⟨rfl, rfl⟩) | (go_at_call 62; (with_reducible refine (SG.out _).mono ?_); rintro en w4 ⟨rfl, rfl⟩) | (go_at_call 84; (obtain ⟨cF, FO2⟩ := FO.out _; with_reducible refine FO2.mono ?_); rintro en w7 ⟨rfl, hb7⟩; have yb7 := below_trans yb6 hb7))
    go_ret
    exact ⟨rfl, yb3⟩
  cases vb
  · rw [Bool.and_false, pk_f, pk_f, pkE_f] at TS FS TP
    clear HS HP SP PO FO MI SG
    go_enter Tryd.func15, Tryd.ntmps15
    go_wp2_with (first | (go_at_call 91; (with_reducible refine (TS.out _ HT.out).mono ?_); rintro en w1 ⟨rfl, hb1⟩) | (go_at_call 92; (with_reducible refine (FS.out _ (HT.out.below hb1)).mono ?_); rintro en w2 ⟨rfl, hb2⟩; have yb2 := below_trans hb1 hb2) | (go_at_call 93; (with_reducible refine (TP.out _ (HT.out.below yb2)).mono ?_); rintro en w3 ⟨rfl, hb3⟩; have yb3 := below_trans yb2 hb3) | (go_at_call 35; (with_reducible refine (HA.out _).mono ?_); rintro en w4 ⟨rfl, rfl⟩) | (go_at_call 35; (with_reducible refine (HB.out _).mono ?_); rintro en w4 ⟨rfl, rfl⟩) | (go_at_call 94; (with_reducible refine (SP.out _).mono ?_); rintro en w5 ⟨rfl, hb5⟩; have yb5 := below_trans yb3 hb5) | (go_at_call 35; (with_reducible refine (HS.out _).mono ?_); rintro en w4 ⟨rfl, rfl⟩) | (go_at_call 82; (obtain ⟨cP, PO2⟩ := PO.out _; with_reducible refine PO2.mono ?_); rintro en w6 ⟨rfl, hb6⟩; have yb6 := below_trans yb5 hb6) | (go_at_call 35; (with_reducible refine (HP.out _).mono ?_); rintro en w4 ⟨rfl, rfl⟩) | (go_at_call 63; (with_reducible refine (MI.out _).mono ?_); rintro en w4 ⟨rfl, rfl⟩) | (go_at_call 62; (with_reducible refine (SG.out _).mono ?_); rintro en w4 ⟨rfl, rfl⟩) | (go_at_call 84; (obtain ⟨cF, FO2⟩ := FO.out _; with_reducible refine FO2.mono ?_); rintro en w7 ⟨rfl, hb7⟩; have yb7 := below_trans yb6 hb7))
    go_ret
    exact ⟨rfl, yb3⟩
  rw [Bool.and_true] at TS FS TP
  cases hS
  · rw [pk_tf, pk_tf, pkE_tf] at TS FS
    cases hP
    · rw [pk_tf, pk_tf, pkE_tf] at TP
      clear FO MI SG
      go_enter Tryd.func15, Tryd.ntmps15
      go_wp2_with (first | (go_at_call 91; (with_reducible refine (TS.out _ HT.out).mono ?_); rintro en w1 ⟨rfl, hb1⟩) | (go_at_call 92; (with_reducible refine (FS.out _ (HT.out.below hb1)).mono ?_); rintro en w2 ⟨rfl, hb2⟩; have yb2 := below_trans hb1 hb2) | (go_at_call 93; (with_reducible refine (TP.out _ (HT.out.below yb2)).mono ?_); rintro en w3 ⟨rfl, hb3⟩; have yb3 := below_trans yb2 hb3) | (go_at_call 35; (with_reducible refine (HA.out _).mono ?_); rintro en w4 ⟨rfl, rfl⟩) | (go_at_call 35; (with_reducible refine (HB.out _).mono ?_); rintro en w4 ⟨rfl, rfl⟩) | (go_at_call 94; (with_reducible refine (SP.out _).mono ?_); rintro en w5 ⟨rfl, hb5⟩; have yb5 := below_trans yb3 hb5) | (go_at_call 35; (with_reducible refine (HS.out _).mono ?_); rintro en w4 ⟨rfl, rfl⟩) | (go_at_call 82; (obtain ⟨cP, PO2⟩ := PO.out _; with_reducible refine PO2.mono ?_); rintro en w6 ⟨rfl, hb6⟩; have yb6 := below_trans yb5 hb6) | (go_at_call 35; (with_reducible refine (HP.out _).mono ?_); rintro en w4 ⟨rfl, rfl⟩) | (go_at_call 63; (with_reducible refine (MI.out _).mono ?_); rintro en w4 ⟨rfl, rfl⟩) | (go_at_call 62; (with_reducible refine (SG.out _).mono ?_); rintro en w4 ⟨rfl, rfl⟩) | (go_at_call 84; (obtain ⟨cF, FO2⟩ := FO.out _; with_reducible refine FO2.mono ?_); rintro en w7 ⟨rfl, hb7⟩; have yb7 := below_trans yb6 hb7))
      go_ret
      exact ⟨ret_bool (by simp), yb6⟩
    · rw [pk_tt, pk_tt, pkE_tt] at TP
      go_enter Tryd.func15, Tryd.ntmps15
      go_wp2_with (first | (go_at_call 91; (with_reducible refine (TS.out _ HT.out).mono ?_); rintro en w1 ⟨rfl, hb1⟩) | (go_at_call 92; (with_reducible refine (FS.out _ (HT.out.below hb1)).mono ?_); rintro en w2 ⟨rfl, hb2⟩; have yb2 := below_trans hb1 hb2) | (go_at_call 93; (with_reducible refine (TP.out _ (HT.out.below yb2)).mono ?_); rintro en w3 ⟨rfl, hb3⟩; have yb3 := below_trans yb2 hb3) | (go_at_call 35; (with_reducible refine (HA.out _).mono ?_); rintro en w4 ⟨rfl, rfl⟩) | (go_at_call 35; (with_reducible refine (HB.out _).mono ?_); rintro en w4 ⟨rfl, rfl⟩) | (go_at_call 94; (with_reducible refine (SP.out _).mono ?_); rintro en w5 ⟨rfl, hb5⟩; have yb5 := below_trans yb3 hb5) | (go_at_call 35; (with_reducible refine (HS.out _).mono ?_); rintro en w4 ⟨rfl, rfl⟩) | (go_at_call 82; (obtain ⟨cP, PO2⟩ := PO.out _; with_reducible refine PO2.mono ?_); rintro en w6 ⟨rfl, hb6⟩; have yb6 := below_trans yb5 hb6) | (go_at_call 35; (with_reducible refine (HP.out _).mono ?_); rintro en w4 ⟨rfl, rfl⟩) | (go_at_call 63; (with_reducible refine (MI.out _).mono ?_); rintro en w4 ⟨rfl, rfl⟩) | (go_at_call 62; (with_reducible refine (SG.out _).mono ?_); rintro en w4 ⟨rfl, rfl⟩) | (go_at_call 84; (obtain ⟨cF, FO2⟩ := FO.out _; with_reducible refine FO2.mono ?_); rintro en w7 ⟨rfl, hb7⟩; have yb7 := below_trans yb6 hb7))
      go_ret
      exact ⟨ret_bool (by simp), yb7⟩
  · rw [pk_tt, pk_tt, pkE_tt] at TS FS
    cases hP
    · rw [pk_tf, pk_tf, pkE_tf] at TP
      clear FO MI SG
      go_enter Tryd.func15, Tryd.ntmps15
      go_wp2_with (first | (go_at_call 91; (with_reducible refine (TS.out _ HT.out).mono ?_); rintro en w1 ⟨rfl, hb1⟩) | (go_at_call 92; (with_reducible refine (FS.out _ (HT.out.below hb1)).mono ?_); rintro en w2 ⟨rfl, hb2⟩; have yb2 := below_trans hb1 hb2) | (go_at_call 93; (with_reducible refine (TP.out _ (HT.out.below yb2)).mono ?_); rintro en w3 ⟨rfl, hb3⟩; have yb3 := below_trans yb2 hb3) | (go_at_call 35; (with_reducible refine (HA.out _).mono ?_); rintro en w4 ⟨rfl, rfl⟩) | (go_at_call 35; (with_reducible refine (HB.out _).mono ?_); rintro en w4 ⟨rfl, rfl⟩) | (go_at_call 94; (with_reducible refine (SP.out _).mono ?_); rintro en w5 ⟨rfl, hb5⟩; have yb5 := below_trans yb3 hb5) | (go_at_call 35; (with_reducible refine (HS.out _).mono ?_); rintro en w4 ⟨rfl, rfl⟩) | (go_at_call 82; (obtain ⟨cP, PO2⟩ := PO.out _; with_reducible refine PO2.mono ?_); rintro en w6 ⟨rfl, hb6⟩; have yb6 := below_trans yb5 hb6) | (go_at_call 35; (with_reducible refine (HP.out _).mono ?_); rintro en w4 ⟨rfl, rfl⟩) | (go_at_call 63; (with_reducible refine (MI.out _).mono ?_); rintro en w4 ⟨rfl, rfl⟩) | (go_at_call 62; (with_reducible refine (SG.out _).mono ?_); rintro en w4 ⟨rfl, rfl⟩) | (go_at_call 84; (obtain ⟨cF, FO2⟩ := FO.out _; with_reducible refine FO2.mono ?_); rintro en w7 ⟨rfl, hb7⟩; have yb7 := below_trans yb6 hb7))
      go_ret
      exact ⟨ret_bool (by simp), yb6⟩
    · rw [pk_tt, pk_tt, pkE_tt] at TP
      go_enter Tryd.func15, Tryd.ntmps15
      go_wp2_with (first | (go_at_call 91; (with_reducible refine (TS.out _ HT.out).mono ?_); rintro en w1 ⟨rfl, hb1⟩) | (go_at_call 92; (with_reducible refine (FS.out _ (HT.out.below hb1)).mono ?_); rintro en w2 ⟨rfl, hb2⟩; have yb2 := below_trans hb1 hb2) | (go_at_call 93; (with_reducible refine (TP.out _ (HT.out.below yb2)).mono ?_); rintro en w3 ⟨rfl, hb3⟩; have yb3 := below_trans yb2 hb3) | (go_at_call 35; (with_reducible refine (HA.out _).mono ?_); rintro en w4 ⟨rfl, rfl⟩) | (go_at_call 35; (with_reducible refine (HB.out _).mono ?_); rintro en w4 ⟨rfl, rfl⟩) | (go_at_call 94; (with_reducible refine (SP.out _).mono ?_); rintro en w5 ⟨rfl, hb5⟩; have yb5 := below_trans yb3 hb5) | (go_at_call 35; (with_reducible refine (HS.out _).mono ?_); rintro en w4 ⟨rfl, rfl⟩) | (go_at_call 82; (obtain ⟨cP, PO2⟩ := PO.out _; with_reducible refine PO2.mono ?_); rintro en w6 ⟨rfl, hb6⟩; have yb6 := below_trans yb5 hb6) | (go_at_call 35; (with_reducible refine (HP.out _).mono ?_); rintro en w4 ⟨rfl, rfl⟩) | (go_at_call 63; (with_reducible refine (MI.out _).mono ?_); rintro en w4 ⟨rfl, rfl⟩) | (go_at_call 62; (with_reducible refine (SG.out _).mono ?_); rintro en w4 ⟨rfl, rfl⟩) | (go_at_call 84; (obtain ⟨cF, FO2⟩ := FO.out _; with_reducible refine FO2.mono ?_); rintro en w7 ⟨rfl, hb7⟩; have yb7 := below_trans yb6 hb7))
      go_ret
      exact ⟨ret_bool (by simp), yb7⟩
theorem exactSays_walk (x y : Int) (hx : 0 ≤ x ∧ x < 18446744073709551616) (hy : 0 ≤ y ∧ y < 18446744073709551616) (W : World) (hT : Tab 0 W) :
    Calls Tryd.prog 15 #[.int .u64 x, .int .u64 y] W fun e w' => e = .returned (.bool true) ∧ Below W.heap.size W w' := by
  obtain ⟨a, rfl⟩ := Int.eq_ofNat_of_zero_le hx.1
  obtain ⟨b, rfl⟩ := Int.eq_ofNat_of_zero_le hy.1
  exact exactSays_nat a b (by omega) (by omega) W hT
end Go.Proofs.YteaakbeemhmciaaDoor
