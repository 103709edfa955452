/- ExactSplits: the law's walk, the end. -/
import Derived.Test.YteaakbeemhmciaaDoorEs2
set_option linter.unusedVariables false
set_option linter.unusedSimpArgs false
namespace Go.Proofs.YteaakbeemhmciaaDoor
open Go.RowKit Go.Ulp
set_option linter.unusedVariables false
set_option linter.unusedSimpArgs false
set_option maxHeartbeats 2000000
set_option maxRecDepth 100000
theorem exactSplits_nat (a : Nat) (ha : a < 18446744073709551616) (bits : Int) (W : World) (hT : Tab 0 W) :
    Calls Tryd.prog 11 #[.int .u64 (a : Int), .int .i64 bits] W fun e w' => e = .returned (.bool true) ∧ Below W.heap.size W w' := by
  have a0 : 0 ≤ (a : Int) := by omega
  have a1 : (a : Int) < 18446744073709551616 := by omega
  have HV := hid (fun w => rHasValue_any (a : Int) a0 a1 w)
  have BT := hid (fun w => between_any bits 1 52 w)
  cases hv : hasVal (a : Int)
  · have SP := hid (fun w => split_none a bits ha hv w)
    rw [hv] at HV
    clear hv hT ha a0 a1
    go_enter Tryd.func11, Tryd.ntmps11
    go_wp2_with (first
      | (go_at_call 74; (with_reducible refine (SP.out _).mono ?_); rintro en w1 ⟨rfl, hb1⟩)
      | (go_at_call 35; (with_reducible refine (HV.out _).mono ?_); rintro en w2 ⟨rfl, rfl⟩))
    go_ret
    exact ⟨rfl, hb1⟩
  rw [hv] at HV
  by_cases hb : 1 ≤ bits ∧ bits ≤ 52
  · obtain ⟨b1, b2⟩ := hb
    have SP := hid (fun w t => split_ok a bits ha hv b1 b2 w t)
    have BT2 := hid (show ∀ w, Calls Tryd.prog 27 #[.int .i64 bits, .int .i64 1, .int .i64 52] w fun e w' => e = .returned (.bool true) ∧ w = w' from fun w => by
      have h := BT.out w; rw [decide_eq_true (show 1 ≤ bits ∧ bits ≤ 52 from ⟨b1, b2⟩)] at h; exact h)
    have hlt := hiN_lt a bits ha
    obtain ⟨nb, hn, hnb, hsg⟩ := neg_nat (hiN a bits) hlt
    have ht : turnN (hiN a bits) = nb := by have := turnN_eq hlt; omega
    have hle : lessN a (hiN a bits) = plusN a nb := by show plusN a (turnN (hiN a bits)) = plusN a nb; rw [ht]
    rw [hle] at SP
    have MI := hid (fun w => rMinus_any (hiN a bits : Int) (by omega) (by omega) w)
    have SG := hid (show ∀ w, Calls Tryd.prog 62 #[.int .u64 ((hiN a bits : Int) % 9223372036854775808), .bool (!negB (hiN a bits : Int))] w fun e w' => e = .returned (.int .u64 (nb : Int)) ∧ w = w' from fun w => by
      rw [← hsg]; exact rSigned_any _ (by omega) (by omega) _ w)
    have SO := hid (show ∀ g w, Ns .u64 w (some ⟨g, 0, none⟩) 2 [a, nb] → Calls Tryd.prog 70 #[.slice (some ⟨g, 0, none⟩) 2 2, .int .i64 0] w (RetX w (plusN a nb : Int) (sumC [a, nb] 0)) from fun g w h => by
      rw [plusN_eq]; exact sumOf_any (some ⟨g, 0, none⟩) 2 [a, nb] 0 w h (two_lt a nb ha hnb) (by simp) (by omega) (by omega))
    have N2 := hid (fun w t => ns2 w t a nb)
    have IZ := hid (fun w => rIsZero_any (a : Int) a0 a1 w)
    have h0 : 0 ≤ (hiN a bits : Int) := by omega
    have h1 : (hiN a bits : Int) < 18446744073709551616 := by omega
    have HT := hid hT
    generalize sumC [a, nb] 0 = sc at *
    generalize plusN a nb = l at *
    by_cases hc : classOf (a : Int) = 1
    · have hz : isZer (a : Int) = true := by unfold isZer; rw [hc]; rfl
      rw [hz] at IZ
      rw [hiN_yes a bits hc] at SP MI SG
      generalize negB (a : Int) = sa at *
      clear hT ha hlt hn hnb hsg ht hle hc hz BT h0 h1 hv
      go_enter Tryd.func11, Tryd.ntmps11
      go_wp2_with (first
        | (go_at_call 74; (with_reducible refine (SP.out _ HT.out).mono ?_); rintro en w1 ⟨rfl, hb1⟩)
        | (go_at_call 35; (with_reducible refine (HV.out _).mono ?_); rintro en w2 ⟨rfl, rfl⟩)
        | (go_at_call 27; (with_reducible refine (BT2.out _).mono ?_); rintro en w2 ⟨rfl, rfl⟩)
        | (go_at_call 75; (with_reducible refine (IZ.out _).mono ?_); rintro en w2 ⟨rfl, rfl⟩)
        | (go_at_call 63; (with_reducible refine (MI.out _).mono ?_); rintro en w2 ⟨rfl, rfl⟩)
        | (go_at_call 62; (with_reducible refine (SG.out _).mono ?_); rintro en w2 ⟨rfl, rfl⟩)
        | (go_at_call 70; (with_reducible refine (SO.out _ _ (N2.out _ _)).mono ?_); rintro en w3 ⟨rfl, hb3⟩))
      go_ret
      exact ⟨ret_bool (by simp), below_trans (below_trans hb1 (below_alloc _ _)) hb3⟩
    · have hz : isZer (a : Int) = false := beq_eq_false_iff_ne.2 hc
      rw [hz] at IZ
      have hlt4 : classOf (a : Int) < 4 := of_decide_eq_true (by rw [hasVal_lt _ a0 a1]; exact hv)
      have HB := hid (fun w => highBits_any (a : Int) bits a0 a1 hlt4 hc b1 b2 w)
      obtain ⟨s1, s2, s3, s4⟩ := spD_bd (a : Int) bits a0 a1 b1 b2
      have RD := hid (fun v w h => roundedD_any v (spD (a : Int) bits) 200000 1300 0 w h s4 (by omega) (by omega) (by omega) (by omega))
      rw [← hiN_no a bits hc] at RD
      generalize rC (spD (a : Int) bits) 0 = rc at *
      generalize spD (a : Int) bits = SD at *
      generalize hiN a bits = H at *
      generalize negB (H : Int) = sa at *
      clear hT ha hlt hn hnb hsg ht hle hc hz BT hv hlt4 s1 s2 s3 s4
      go_enter Tryd.func11, Tryd.ntmps11
      go_wp2_with (first
        | (go_at_call 74; (with_reducible refine (SP.out _ HT.out).mono ?_); rintro en w1 ⟨rfl, hb1⟩)
        | (go_at_call 35; (with_reducible refine (HV.out _).mono ?_); rintro en w2 ⟨rfl, rfl⟩)
        | (go_at_call 27; (with_reducible refine (BT2.out _).mono ?_); rintro en w2 ⟨rfl, rfl⟩)
        | (go_at_call 75; (with_reducible refine (IZ.out _).mono ?_); rintro en w2 ⟨rfl, rfl⟩)
        | (go_at_call 76; (with_reducible refine (HB.out _).mono ?_); rintro en w4 ⟨v4, rfl, hv4, hb4⟩)
        | (go_at_call 51; (with_reducible refine (RD.out _ _ hv4).mono ?_); rintro en w5 ⟨rfl, hb5⟩)
        | (go_at_call 63; (with_reducible refine (MI.out _).mono ?_); rintro en w2 ⟨rfl, rfl⟩)
        | (go_at_call 62; (with_reducible refine (SG.out _).mono ?_); rintro en w2 ⟨rfl, rfl⟩)
        | (go_at_call 70; (with_reducible refine (SO.out _ _ (N2.out _ _)).mono ?_); rintro en w3 ⟨rfl, hb3⟩))
      go_ret
      exact ⟨ret_bool (by simp), below_trans (below_trans (below_trans (below_trans hb1 hb4) hb5) (below_alloc _ _)) hb3⟩
  · have SP := hid (fun w => split_bad a bits ha hv hb w)
    have BT2 := hid (show ∀ w, Calls Tryd.prog 27 #[.int .i64 bits, .int .i64 1, .int .i64 52] w fun e w' => e = .returned (.bool false) ∧ w = w' from fun w => by
      have h := BT.out w; rw [decide_eq_false hb] at h; exact h)
    clear hv hT ha a0 a1 hb BT
    go_enter Tryd.func11, Tryd.ntmps11
    go_wp2_with (first
      | (go_at_call 74; (with_reducible refine (SP.out _).mono ?_); rintro en w1 ⟨rfl, hb1⟩)
      | (go_at_call 35; (with_reducible refine (HV.out _).mono ?_); rintro en w2 ⟨rfl, rfl⟩)
      | (go_at_call 27; (with_reducible refine (BT2.out _).mono ?_); rintro en w2 ⟨rfl, rfl⟩))
    go_ret
    exact ⟨rfl, hb1⟩
theorem exactSplits_walk (x bits : Int) (hx : 0 ≤ x ∧ x < 18446744073709551616) (hb : -9223372036854775808 ≤ bits ∧ bits ≤ 9223372036854775807) (W : World) (hT : Tab 0 W) :
    Calls Tryd.prog 11 #[.int .u64 x, .int .i64 bits] W fun e w' => e = .returned (.bool true) ∧ Below W.heap.size W w' := by
  obtain ⟨a, rfl⟩ := Int.eq_ofNat_of_zero_le hx.1
  exact exactSplits_nat a (by omega) bits W hT
end Go.Proofs.YteaakbeemhmciaaDoor
