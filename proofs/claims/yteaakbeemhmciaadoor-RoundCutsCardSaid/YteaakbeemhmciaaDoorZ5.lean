/- The reference's whole numbers: differences, small numbers, products. -/
import Derived.Test.YteaakbeemhmciaaDoorZ4
import Derived.Deep.RegionWith
namespace Go.Ulp
theorem ZL.drew {t : TypeId} {w : World} {g : Nat} {n : Bool} {v : Value} (h : ZL t w g n v) : ZL t w.drew g n v := h
theorem ZL.drewN {t : TypeId} {w : World} {g : Nat} {n : Bool} {v : Value} (h : ZL t w g n v) (k : Nat) : ZL t (w.drewN k) g n v := h
end Go.Ulp
namespace Go.Proofs.YteaakbeemhmciaaDoor
open Go.RowKit Go.Ulp
set_option linter.unusedVariables false
set_option linter.unusedSimpArgs false
set_option maxHeartbeats 1000000
set_option maxRecDepth 100000
theorem zsub_fresh (a0 a1 : Option Addr) (c0 c1 : Nat) (x y : Int) (w : World) (h0 : Nz 3 w a0 c0 (zl x)) (h1 : Nz 3 w a1 c1 (zl y)) (hl0 : (zl x).length ≤ 4294967296) (hl1 : (zl y).length ≤ 4294967296) :
    Calls Tryd.prog 144 #[.agg #[.bool (zneg x), .slice a0 (zl x).length c0], .agg #[.bool (zneg y), .slice a1 (zl y).length c1]] w fun e w' => RetZF 3 w (x - y) e w' := by
  have hl2 : (zl (-y)).length ≤ 4294967296 := by unfold zl at *; rw [Int.natAbs_neg]; exact hl1
  have E := hid (show x + -y = x - y by omega)
  go_enter Tryd.func144, Tryd.ntmps144
  go_wp2_with fail
  have zR' : ZL 40 (((w.alloc (.cells #[.bool (zneg x), .slice a0 (zl x).length c0] 40)).alloc (.cells #[.bool (zneg y), .slice a1 (zl y).length c1] 40)).alloc (.cells #[.bool false, .slice none 0 0] 40)) (w.heap.size + 1 + 1) false (.slice none 0 0) := ZL.made (by simp)
  have zR := zR'.drew
  clear zR'
  go_region_with (first | (go_at_call 29; refine (zneg_any _ _ _ _ (h1.below (by (repeat' (first | (with_reducible exact Below.refl _ _) | (with_reducible assumption) | (with_reducible refine below_drewN ?_ _) | (with_reducible refine Below.drew ?_) | (with_reducible refine Below.alloc ?_ ?_ _) | (with_reducible refine Below.setCell ?_ ?_ _) | go_size))))).mono ?_; rintro e w1 ⟨ao, cap, rfl, hN, hb⟩; have h0w := h0.below (below_trans (show Below w.heap.size w _ from by (repeat' (first | (with_reducible exact Below.refl _ _) | (with_reducible assumption) | (with_reducible refine below_drewN ?_ _) | (with_reducible refine Below.drew ?_) | (with_reducible refine Below.alloc ?_ ?_ _) | (with_reducible refine Below.setCell ?_ ?_ _) | go_size))) hb); have zR1 := zR.below hb; have yb := below_trans (show Below w.heap.size w _ from by (repeat' (first | (with_reducible exact Below.refl _ _) | (with_reducible assumption) | (with_reducible refine below_drewN ?_ _) | (with_reducible refine Below.drew ?_) | (with_reducible refine Below.alloc ?_ ?_ _) | (with_reducible refine Below.setCell ?_ ?_ _) | go_size))) hb; obtain ⟨hc, hf⟩ := bcell hb) | (go_at_call 105; refine (zadd_fresh _ _ _ _ _ _ _ (by assumption) (by assumption) hl0 hl2).mono ?_; rw [E.out]; rintro e w2 ⟨ao2, cap2, rfl, hN2, hb2, hfr2⟩; have zR2 := zR1.below hb2; have k0 := zR2.1; have k1 := zR2.2.1; have f0 := zR2.2.2.1; have f1 := zR2.2.2.2.1))
  all_goals
    have hs2 := zR2.2.2.2.2
    go_wp2_with fail
    refine bodyPost_ret (by simp [results, Tryd.results144, go_sem, k0, k1]; try rfl) rfl ?_
    exact ⟨_, _, rfl, (hN2.setCell hs2 (by decide) _ _).setCell (hs2.setCell _ _) (by decide) _ _, ((below_trans yb hb2).setCell (by first | omega | (simp; done) | (simp; omega)) _).setCell (by first | omega | (simp; done) | (simp; omega)) _, fun p hp => Nat.le_trans yb.size (hfr2 p hp)⟩
theorem zsub_any (a0 a1 : Option Addr) (c0 c1 : Nat) (x y : Int) (w : World) (h0 : Nz 3 w a0 c0 (zl x)) (h1 : Nz 3 w a1 c1 (zl y)) (hl0 : (zl x).length ≤ 4294967296) (hl1 : (zl y).length ≤ 4294967296) :
    Calls Tryd.prog 144 #[.agg #[.bool (zneg x), .slice a0 (zl x).length c0], .agg #[.bool (zneg y), .slice a1 (zl y).length c1]] w fun e w' => RetZ 3 w (x - y) e w' :=
  (zsub_fresh a0 a1 c0 c1 x y w h0 h1 hl0 hl1).mono fun _ _ h => h.any

theorem zN_any (n : Nat) (hn : n < 9223372036854775808) (w : World) :
    Calls Tryd.prog 66 #[.int .i64 (n : Int)] w fun e w' => RetZ 3 w (n : Int) e w' := by
  have hneg : ¬ (n : Int) < 0 := by omega
  go_enter Tryd.func66, Tryd.ntmps66
  go_wp2_with fail
  go_loopw [0, 4] (fun r _ wr => ∃ (rr : Nat) (Q : List Nat) (v : Value), r = .int .i64 rr ∧ rr ≤ n ∧ dval Q + 10000 ^ Q.length * rr = n ∧ Dec Q ∧ (rr = 0 → Trim Q) ∧ Own (w.heap.size + 1 + 1) 3 .i64 wr v Q ∧ ZL 40 wr w.heap.size false (.slice none 0 0) ∧ ZL 40 wr (w.heap.size + 1) false v ∧ Below w.heap.size w wr) (fun r _ _ => (intOf r).toNat)
  case atStart => exact ⟨n, [], _, rfl, Nat.le_refl _, by simp [dval, val], AllLt.nil, fun _ h => absurd rfl h, Own.nil, (ZL.made rfl).alloc _, ZL.made (by simp), by (repeat' (first | (with_reducible exact Below.refl _ _) | (with_reducible assumption) | (with_reducible refine below_drewN ?_ _) | (with_reducible refine Below.drew ?_) | (with_reducible refine Below.alloc ?_ ?_ _) | (with_reducible refine Below.setCell ?_ ?_ _) | go_size))⟩
  case round =>
    obtain ⟨rr, Q, v, rfl, hrn, hv, lQ, hT, hown, zR, zO, hb⟩ := hrel
    have hsz := zO.lt
    have HV := hid hv
    clear hv
    obtain ⟨kO0, kO1, fO0, fO1, -⟩ := id zO
    obtain ⟨kR0, kR1, fR0, fR1, hsR⟩ := id zR
    by_cases h0 : rr = 0
    · subst h0
      have hval : Q = zl (n : Int) := by
        have := HV.out
        rw [Nat.mul_zero, Nat.add_zero] at this
        unfold zl; rw [Int.natAbs_natCast, ← this]
        exact (digs_val 10000 (by omega) Q lQ (hT rfl)).symm
      have hz := hid (show zneg (n : Int) = false by unfold zneg; simp)
      obtain ⟨ao1, cap1, rfl, hN1⟩ := hown.nz
      have HQ := hid hval
      clear hval hT
      go_wp2_with fail
      refine bodyPost_ret (by simp [results, Tryd.results66, go_sem, kR0, kR1]; try rfl) rfl ?_
      refine ⟨ao1, cap1, by rw [hz.out, ← HQ.out], ?_, (hb.setCell (by simp) _).setCell (by simp) _⟩
      rw [← HQ.out]
      exact (hN1.setCell hsR (by decide) _ _).setCell (hsR.setCell _ _) (by decide) _ _
    · have hk : Q.length < 64 := by
        rcases Nat.lt_or_ge Q.length 64 with h | h
        · exact h
        · exfalso
          have h1 : 10000 ^ Q.length * 1 ≤ 10000 ^ Q.length * rr := Nat.mul_le_mul_left _ (by omega)
          have h2 : 2 ^ 64 ≤ 10000 ^ Q.length := Nat.le_trans (Nat.pow_le_pow_left (by omega) 64) (Nat.pow_le_pow_right (by omega) h)
          have h3 := HV.out
          omega
      have hne : ((rr : Int) != 0) = true := by simp; omega
      clear hT
      go_wp2_with (at_builtin; refine wpList_push ei_int (by omega) rfl _ _ rfl (w.heap.size + 1 + 1) Q (rr % 10000) _ rfl (Own.alloc hown _) ⟨wr.heap.size, 0, none⟩ rfl (cell_push _ _ _ _ _ (by omega)) (by omega) (by simp; omega) ?_; intro v1 w1 hown1 hb1; obtain ⟨ao1, nn1, cap1, rfl⟩ := hown1.slice; obtain ⟨hc1, hf1⟩ := bcellB hb1)
      go_roundw
      case rel => exact ⟨rr / 10000, Q ++ [rr % 10000], .slice ao1 nn1 cap1, by go_num, by omega, by
          have := HV.out
          have e := Nat.mod_add_div rr 10000
          have e2 := congrArg (fun z => 10000 ^ Q.length * z) e
          simp only [Nat.mul_add] at e2
          unfold dval at *
          rw [val_snoc, List.length_append, List.length_singleton, Nat.pow_succ, Nat.mul_assoc]; omega, AllLt.append.2 ⟨lQ, AllLt.cons.2 ⟨Nat.mod_lt _ (by omega), AllLt.nil⟩⟩, fun h => by
          intro hn
          rw [List.getLast_append_of_ne_nil _ (by simp)]; simp; omega,
          hown1.set_other _ (by simp) _, ((zR.alloc _).belowB hb1 (by omega)).far _ _ (by simp), ((zO.alloc _).belowB hb1 (by omega)).set1 _, ((hb.trans ((below_alloc wr _).mono hb.size)).trans (hb1.mono (by omega))).setCell (by simp) _⟩
      case measure => simp [intOf]; omega
end Go.Proofs.YteaakbeemhmciaaDoor
