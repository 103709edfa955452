/- N of a number below 0. -/
import Derived.Test.YteaakbeemhmciaaDoorStep
set_option linter.unusedVariables false
set_option linter.unusedSimpArgs false
namespace Go.Ulp
open Go.RowKit
theorem neg_tdiv (n : Nat) : (-(n : Int)).tdiv 10000 = -((n / 10000 : Nat) : Int) := by
  rw [Int.neg_tdiv]; congr 1
theorem neg_tmod (n : Nat) : (-(n : Int)).tmod 10000 = -((n % 10000 : Nat) : Int) := by
  rw [Int.neg_tmod]; congr 1
end Go.Ulp
namespace Go.Proofs.YteaakbeemhmciaaDoor
open Go.RowKit Go.Ulp
set_option linter.unusedVariables false
set_option linter.unusedSimpArgs false
set_option maxHeartbeats 1000000
set_option maxRecDepth 100000
theorem zNneg_any (n : Nat) (hn0 : 0 < n) (hn : n ≤ 9223372036854775808) (w : World) :
    Calls Tryd.prog 66 #[.int .i64 (-(n : Int))] w fun e w' => RetZ 3 w (-(n : Int)) e w' := by
  have hneg : -(n : Int) < 0 := by omega
  go_enter Tryd.func66, Tryd.ntmps66
  go_wp2_with fail
  go_loopw [0, 4] (fun r _ wr => ∃ (rr : Nat) (Q : List Nat) (v : Value), r = .int .i64 (-(rr : Int)) ∧ rr ≤ n ∧ dval Q + 10000 ^ Q.length * rr = n ∧ Dec Q ∧ (rr = 0 → Trim Q) ∧ Own (w.heap.size + 1 + 1) 3 .i64 wr v Q ∧ ZL 40 wr w.heap.size false (.slice none 0 0) ∧ ZL 40 wr (w.heap.size + 1) true v ∧ Below w.heap.size w wr) (fun r _ _ => (-intOf r).toNat)
  case atStart => exact ⟨n, [], _, rfl, Nat.le_refl _, by simp [dval, val], AllLt.nil, (fun h => by omega), Own.nil, (ZL.made rfl).alloc _, ZL.made (by simp), by (repeat' (first | (with_reducible exact Below.refl _ _) | (with_reducible assumption) | (with_reducible refine below_drewN ?_ _) | (with_reducible refine Below.drew ?_) | (with_reducible refine Below.alloc ?_ ?_ _) | (with_reducible refine Below.setCell ?_ ?_ _) | go_size))⟩
  case round =>
    obtain ⟨rr, Q, v, rfl, hrn, hv, lQ, hT, hown, zR, zO, hb⟩ := hrel
    have hsz := zO.lt
    have HV := hid hv
    clear hv
    obtain ⟨kO0, kO1, fO0, fO1, -⟩ := id zO
    obtain ⟨kR0, kR1, fR0, fR1, hsR⟩ := id zR
    by_cases h0 : rr = 0
    · subst h0
      have hval : Q = zl (-(n : Int)) := by
        have := HV.out
        rw [Nat.mul_zero, Nat.add_zero] at this
        unfold zl; rw [Int.natAbs_neg, Int.natAbs_natCast, ← this]
        exact (digs_val 10000 (by omega) Q lQ (hT rfl)).symm
      have hz := hid (show zneg (-(n : Int)) = true by unfold zneg; simp; omega)
      obtain ⟨ao1, cap1, rfl, hN1⟩ := hown.nz
      have HQ := hid hval
      clear hval hT
      go_wp2_with fail
      refine bodyPost_ret (by simp [results, Tryd.results66, go_sem, kR0, kR1]; try rfl) rfl ?_
      refine ⟨ao1, cap1, by rw [hz.out, ← HQ.out], ?_, (hb.setCell (by simp) _).setCell (by simp) _⟩
      rw [← HQ.out]
      exact (hN1.setCell hsR (by decide) _ _).setCell (hsR.setCell _ _) (by decide) _ _
    · have hk : Q.length < 64 := by
        rcases Nat.lt_or_ge Q.length 64 with h | h
        · exact h
        · exfalso
          have h1 : 10000 ^ Q.length * 1 ≤ 10000 ^ Q.length * rr := Nat.mul_le_mul_left _ (by omega)
          have h2 : 2 ^ 64 ≤ 10000 ^ Q.length := Nat.le_trans (Nat.pow_le_pow_left (by omega) 64) (Nat.pow_le_pow_right (by omega) h)
          have h3 := HV.out
          omega
      have hne : ((-(rr : Int)) != 0) = true := by simp; omega
      have HS := hid (show dval Q + 10000 ^ Q.length * (rr % 10000) + 10000 ^ (Q.length + 1) * (rr / 10000) = n by
        have := HV.out
        have e := Nat.mod_add_div rr 10000
        have e2 := congrArg (fun z => 10000 ^ Q.length * z) e
        simp only [Nat.mul_add] at e2
        rw [Nat.pow_succ, Nat.mul_assoc]; omega)
      have hme : rr / 10000 = 0 → rr % 10000 ≠ 0 := by omega
      obtain ⟨q, hq⟩ : ∃ q, q = rr / 10000 := ⟨_, rfl⟩
      obtain ⟨m, hm⟩ : ∃ m, m = rr % 10000 := ⟨_, rfl⟩
      have hq1 : q < rr := by omega
      have hm1 : m < 10000 := by omega
      have t1 := neg_tdiv rr
      have t2 := neg_tmod rr
      have t3 : IntKind.i64.wrap (-(q : Int)) = -(q : Int) := IntWalk.i64_in _ (by omega)
      rw [← hq] at t1 HS hme
      rw [← hm] at t2 HS hme
      have t4 : IntKind.i64.wrap ((-(rr : Int)).tdiv 10000) = -(q : Int) := by rw [t1]; exact t3
      have HME := hid hme
      clear hT hq hm hme
      by_cases hmz : m = 0
      · subst hmz
        rw [show -((0 : Nat) : Int) = 0 from rfl] at t2
        go_wp2_with (at_builtin; refine wpList_push ei_int (by omega) rfl _ _ rfl (w.heap.size + 1 + 1) Q 0 _ rfl (Own.alloc hown _) ⟨wr.heap.size, 0, none⟩ rfl (cell_push _ _ _ _ _ (by omega)) (by omega) (by simp; omega) ?_; intro v1 w1 hown1 hb1; obtain ⟨ao1, nn1, cap1, rfl⟩ := hown1.slice; obtain ⟨hc1, hf1⟩ := bcellB hb1)
        go_roundw
        case rel => exact ⟨q, Q ++ [0], .slice ao1 nn1 cap1, by rfl, by omega, by
            have := HS.out
            unfold dval at *
            rw [val_snoc, List.length_append, List.length_singleton]; omega, AllLt.append.2 ⟨lQ, AllLt.cons.2 ⟨by omega, AllLt.nil⟩⟩, (fun h => absurd rfl (HME.out h)),
            hown1.set_other _ (by simp) _, ((zR.alloc _).belowB hb1 (by omega)).far _ _ (by simp), ((zO.alloc _).belowB hb1 (by omega)).set1 _, ((hb.trans ((below_alloc wr _).mono hb.size)).trans (hb1.mono (by omega))).setCell (by simp) _⟩
        case measure => simp [intOf]; omega
      · have hmp : -(m : Int) < 0 := by omega
        have t5 : IntKind.i64.wrap (-(-(m : Int))) = (m : Int) := by rw [Int.neg_neg]; exact IntWalk.i64_in _ (by omega)
        have t6 : IntKind.i64.wrap (m : Int) = (m : Int) := IntWalk.i64_in _ (by omega)
        go_wp2_with (at_builtin; refine wpList_push ei_int (by omega) rfl _ _ rfl (w.heap.size + 1 + 1) Q m _ rfl (Own.alloc hown _) ⟨wr.heap.size, 0, none⟩ rfl (cell_push _ _ _ _ _ (by omega)) (by omega) (by simp; omega) ?_; intro v1 w1 hown1 hb1; obtain ⟨ao1, nn1, cap1, rfl⟩ := hown1.slice; obtain ⟨hc1, hf1⟩ := bcellB hb1)
        go_roundw
        case rel => exact ⟨q, Q ++ [m], .slice ao1 nn1 cap1, by rfl, by omega, by
            have := HS.out
            unfold dval at *
            rw [val_snoc, List.length_append, List.length_singleton]; omega, AllLt.append.2 ⟨lQ, AllLt.cons.2 ⟨hm1, AllLt.nil⟩⟩, fun h => by
            intro hn
            rw [List.getLast_append_of_ne_nil _ (by simp)]; simp; omega,
            hown1.set_other _ (by simp) _, ((zR.alloc _).belowB hb1 (by omega)).far _ _ (by simp), ((zO.alloc _).belowB hb1 (by omega)).set1 _, ((hb.trans ((below_alloc wr _).mono hb.size)).trans (hb1.mono (by omega))).setCell (by simp) _⟩
        case measure => simp [intOf]; omega
theorem zNint_any (n : Int) (h0 : -9223372036854775808 ≤ n) (h1 : n ≤ 9223372036854775807) (w : World) :
    Calls Tryd.prog 66 #[.int .i64 n] w fun e w' => RetZ 3 w n e w' := by
  by_cases h : n < 0
  · obtain ⟨k, hk⟩ := Int.eq_ofNat_of_zero_le (show 0 ≤ -n by omega)
    have e : n = -(k : Int) := by omega
    rw [e]
    exact zNneg_any k (by omega) (by omega) w
  · obtain ⟨k, rfl⟩ := Int.eq_ofNat_of_zero_le (show 0 ≤ n by omega)
    exact zN_any k (by omega) w
end Go.Proofs.YteaakbeemhmciaaDoor
