/- The reference's whole numbers: powers of two, numbers of limbs. -/
import Derived.Test.YteaakbeemhmciaaDoorZ6
namespace Go.Ulp
open Go.RowKit
theorem zl_len_bits (x : Int) (k : Nat) (h : x.natAbs < 2 ^ k) : (zl x).length ≤ k := by
  unfold zl
  exact (digs_len_le 10000 (by omega) _ _).2 (Nat.lt_of_lt_of_le h (Nat.pow_le_pow_left (by omega) k))
theorem zl_len_pow (n : Nat) : (zl ((2 ^ n : Nat) : Int)).length ≤ n + 1 :=
  zl_len_bits _ _ (by rw [Int.natAbs_natCast]; exact Nat.pow_lt_pow_right (by omega) (by omega))
theorem zl_len_pw (n : Nat) : (zl (pw n)).length ≤ n + 1 := zl_len_pow n
end Go.Ulp
namespace Go.Proofs.YteaakbeemhmciaaDoor
open Go.RowKit Go.Ulp
set_option linter.unusedVariables false
set_option linter.unusedSimpArgs false
set_option maxHeartbeats 1000000
set_option maxRecDepth 100000
theorem zpow_aux (f : Nat) : ∀ (n : Nat) (w : World), n ≤ f → n ≤ 1000000000 → Calls Tryd.prog 104 #[.int .i64 (n : Int)] w fun e w' => RetZ 3 w ((2 ^ n : Nat) : Int) e w' := by
  induction f with
  | zero =>
    intro n w hn _
    obtain rfl : n = 0 := by omega
    go_enter Tryd.func104, Tryd.ntmps104
    go_wp2_with fail
    have zR0 : ZL 40 (w.alloc (.cells #[.bool false, .slice none 0 0] 40)) w.heap.size false (.slice none 0 0) := ZL.made rfl
    refine (zN_any 1 (by omega) _).mono ?_
    rintro e w1 ⟨ao, cap, rfl, hN, hb⟩
    have zR := zR0.below hb
    have yb : Below w.heap.size w (w.alloc (.cells #[.bool false, .slice none 0 0] 40)) := below_alloc _ _
    have k0 := zR.1
    have k1 := zR.2.1
    have f0 := zR.2.2.1
    have f1 := zR.2.2.2.1
    have hs2 := zR.2.2.2.2
    go_wp2_with fail
    refine bodyPost_ret (by simp [results, Tryd.results104, go_sem, k0, k1]; try rfl) rfl ?_
    exact ⟨_, _, rfl, (hN.setCell hs2 (by decide) _ _).setCell (hs2.setCell _ _) (by decide) _ _, ((below_trans yb hb).setCell (by first | omega | (simp; done) | (simp; omega)) _).setCell (by first | omega | (simp; done) | (simp; omega)) _⟩
  | succ f ih =>
    intro n w hn hs
    by_cases h0 : n = 0
    · subst h0; exact ih 0 w (by omega) (by omega)
    have IH := hid ih
    clear ih
    have hz : ((n : Int) == 0) = false := by simp; omega
    by_cases h60 : n < 60
    · have hp : 2 ^ n ≤ 2 ^ 59 := Nat.pow_le_pow_right (by omega) (by omega)
      have h59 : (2 : Nat) ^ 59 = 576460752303423488 := by decide
      have hc : ((2 ^ n : Nat) : Int) = (2 : Int) ^ n := by simp
      have hw1 : (2 : Int) ^ n ≤ 576460752303423488 := by rw [← hc]; omega
      have hw0 : 0 ≤ (2 : Int) ^ n := by rw [← hc]; exact Int.natCast_nonneg _
      have HC := hid hc
      have HP := hid hp
      clear hc hp h59
      go_enter Tryd.func104, Tryd.ntmps104
      go_wp2_with fail
      rw [← HC.out]
      have zR0 : ZL 40 (w.alloc (.cells #[.bool false, .slice none 0 0] 40)) w.heap.size false (.slice none 0 0) := ZL.made rfl
      refine (zN_any (2 ^ n) (by have := HP.out; have h59 : (2 : Nat) ^ 59 = 576460752303423488 := by decide
                                 omega) _).mono ?_
      rintro e w1 ⟨ao, cap, rfl, hN, hb⟩
      have zR := zR0.below hb
      have yb : Below w.heap.size w (w.alloc (.cells #[.bool false, .slice none 0 0] 40)) := below_alloc _ _
      have k0 := zR.1
      have k1 := zR.2.1
      have f0 := zR.2.2.1
      have f1 := zR.2.2.2.1
      have hs2 := zR.2.2.2.2
      go_wp2_with fail
      refine bodyPost_ret (by simp [results, Tryd.results104, go_sem, k0, k1]; try rfl) rfl ?_
      exact ⟨_, _, rfl, (hN.setCell hs2 (by decide) _ _).setCell (hs2.setCell _ _) (by decide) _ _, ((below_trans yb hb).setCell (by first | omega | (simp; done) | (simp; omega)) _).setCell (by first | omega | (simp; done) | (simp; omega)) _⟩
    · have h1 : ¬ (n : Int) < 60 := by omega
      obtain ⟨q, hq⟩ : ∃ q, q = n / 2 := ⟨_, rfl⟩
      obtain ⟨r, hr⟩ : ∃ r, r = n - q := ⟨_, rfl⟩
      have e1 : (n : Int) / 2 = (q : Int) := by omega
      have e2 : (n : Int) - (q : Int) = (r : Int) := by omega
      have hq1 : q ≤ f := by omega
      have hr1 : r ≤ f := by omega
      have hq2 : q ≤ 1000000000 := by omega
      have hr2 : r ≤ 1000000000 := by omega
      have HS := hid (show ((2 ^ q : Nat) : Int) * ((2 ^ r : Nat) : Int) = ((2 ^ n : Nat) : Int) by
        rw [← Int.natCast_mul, ← Nat.pow_add]; congr 2; omega)
      clear hq hr
      go_enter Tryd.func104, Tryd.ntmps104
      go_wp2_with fail
      have zR0 : ZL 40 (w.alloc (.cells #[.bool false, .slice none 0 0] 40)) w.heap.size false (.slice none 0 0) := ZL.made rfl
      have yb0 : Below w.heap.size w (w.alloc (.cells #[.bool false, .slice none 0 0] 40)) := below_alloc _ _
      refine (IH.out q _ hq1 hq2).mono ?_
      rintro e w1 ⟨ao, cap, rfl, hN, hb⟩
      go_wp2_with fail
      refine (IH.out r _ hr1 hr2).mono ?_
      rintro e w2 ⟨ao2, cap2, rfl, hN2, hb2⟩
      go_wp2_with fail
      refine (zmul_any _ _ _ _ _ _ _ (hN.below hb2) hN2 (Nat.le_trans (zl_len_pow q) (by omega)) (Nat.le_trans (zl_len_pow r) (by omega))).mono ?_
      rw [HS.out]
      rintro e w3 ⟨ao3, cap3, rfl, hN3, hb3⟩
      have zR := ((zR0.below hb).below hb2).below hb3
      have yb := below_trans (below_trans yb0 hb) hb2
      have k0 := zR.1
      have k1 := zR.2.1
      have f0 := zR.2.2.1
      have f1 := zR.2.2.2.1
      have hs2 := zR.2.2.2.2
      go_wp2_with fail
      refine bodyPost_ret (by simp [results, Tryd.results104, go_sem, k0, k1]; try rfl) rfl ?_
      exact ⟨_, _, rfl, (hN3.setCell hs2 (by decide) _ _).setCell (hs2.setCell _ _) (by decide) _ _, ((below_trans yb hb3).setCell (by first | omega | (simp; done) | (simp; omega)) _).setCell (by first | omega | (simp; done) | (simp; omega)) _⟩
theorem zpow_any (n : Nat) (w : World) (hn : n ≤ 1000000000) : Calls Tryd.prog 104 #[.int .i64 (n : Int)] w fun e w' => RetZ 3 w (pw n) e w' := zpow_aux n n w (Nat.le_refl _) hn
end Go.Proofs.YteaakbeemhmciaaDoor
