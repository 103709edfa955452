/- The reference's numbers over a power of two: comparison, sums, signs, shifts, by their value. -/
import Derived.Test.YteaakbeemhmciaaDoorQ2
import Derived.Test.YteaakbeemhmciaaDoorStep
namespace Go.Ulp
open Go.RowKit
/-- a value that is a number over a power of two, with the worth D -/
def QD (t : TypeId) (w : World) (D : Dy) (A T : Nat) (v : Value) : Prop :=
  ∃ (x : Int) (n : Nat) (ao : Option Addr) (cap : Nat), v = .agg #[.bool (zneg x), .slice ao (zl x).length cap, .int .i64 (n : Int)] ∧ Nz t w ao cap (zl x) ∧ nrm x (-(n : Int)) = D ∧ x.natAbs < 2 ^ A ∧ n ≤ T
def RetQD (t : TypeId) (w : World) (D : Dy) (A T : Nat) (e : Ending) (w' : World) : Prop :=
  ∃ v, e = .returned v ∧ QD t w' D A T v ∧ Below w.heap.size w w'
theorem QD.below {t : TypeId} {w w' : World} {D : Dy} {A T : Nat} {v : Value} (h : QD t w D A T v) (hb : Below w.heap.size w w') : QD t w' D A T v := by
  obtain ⟨x, n, ao, cap, h1, h2, h3⟩ := h
  exact ⟨x, n, ao, cap, h1, h2.below hb, h3⟩
theorem QD.weak {t : TypeId} {w : World} {D : Dy} {A T A' T' : Nat} {v : Value} (h : QD t w D A T v) (hA : A ≤ A') (hT : T ≤ T') : QD t w D A' T' v := by
  obtain ⟨x, n, ao, cap, h1, h2, h3, h4, h5⟩ := h
  exact ⟨x, n, ao, cap, h1, h2, h3, Nat.lt_of_lt_of_le h4 (Nat.pow_le_pow_right (by omega) hA), by omega⟩
theorem RetQD.weak {t : TypeId} {w : World} {D : Dy} {A T A' T' : Nat} {e : Ending} {w' : World} (h : RetQD t w D A T e w') (hA : A ≤ A') (hT : T ≤ T') : RetQD t w D A' T' e w' := by
  obtain ⟨v, h1, h2, h3⟩ := h
  exact ⟨v, h1, h2.weak hA hT, h3⟩
theorem RetQ.qd {t : TypeId} {w : World} {x : Int} {n : Nat} {e : Ending} {w' : World} {D : Dy} {A T : Nat} (h : RetQ t w x n e w') (hD : nrm x (-(n : Int)) = D) (hA : x.natAbs < 2 ^ A) (hT : n ≤ T) : RetQD t w D A T e w' := by
  obtain ⟨ao, cap, h1, h2, h3⟩ := h
  exact ⟨_, h1, ⟨x, n, ao, cap, rfl, h2, hD, hA, hT⟩, h3⟩
theorem sc_pw (x : Int) (n m : Nat) (h : n ≤ m) : sc x (-(n : Int)) (-(m : Int)) = x * pw (m - n) := by unfold sc; congr 2; omega
theorem abs_mul_pw_lt {x : Int} {A k : Nat} (h : x.natAbs < 2 ^ A) : (x * pw k).natAbs < 2 ^ (A + k) := by
  rw [natAbs_mul_pw, Nat.pow_add]; exact Nat.mul_lt_mul_of_pos_right h (Nat.two_pow_pos k)
theorem abs_add_lt {x y : Int} {A : Nat} (h : x.natAbs < 2 ^ A) (h' : y.natAbs < 2 ^ A) : (x + y).natAbs < 2 ^ (A + 1) := by
  rw [Nat.pow_succ]; omega
theorem abs_weak {x : Int} {A B : Nat} (h : x.natAbs < 2 ^ A) (hAB : A ≤ B) : x.natAbs < 2 ^ B := Nat.lt_of_lt_of_le h (Nat.pow_le_pow_right (by omega) hAB)
end Go.Ulp
namespace Go.Proofs.YteaakbeemhmciaaDoor
open Go.RowKit Go.Ulp
set_option linter.unusedVariables false
set_option linter.unusedSimpArgs false
set_option maxHeartbeats 1000000
set_option maxRecDepth 100000
theorem level_any (a0 a1 : Option Addr) (c0 c1 : Nat) (x y : Int) (ta tb : Nat) (w : World) (h0 : Nz 3 w a0 c0 (zl x)) (h1 : Nz 3 w a1 c1 (zl y)) (hx : (zl x).length ≤ 1073741824) (hy : (zl y).length ≤ 1073741824) (hs : ta ≤ 100000000) (hs2 : tb ≤ 100000000) :
    Calls Tryd.prog 122 #[.agg #[.bool (zneg x), .slice a0 (zl x).length c0, .int .i64 (ta : Int)], .agg #[.bool (zneg y), .slice a1 (zl y).length c1, .int .i64 (tb : Int)]] w fun e w' => RetL 3 w (x * pw (max ta tb - ta)) (y * pw (max ta tb - tb)) ((max ta tb : Nat) : Int) e w' := by
  rcases Nat.lt_trichotomy ta tb with h | h | h
  · have e1 : max ta tb = tb := by omega
    have := level_lt a0 a1 c0 c1 x y ta tb (tb - ta) w h0 h1 (by omega) (by omega) hx (by omega) (by omega)
    rw [e1, Nat.sub_self, pw_zero, Int.mul_one]; exact this
  · subst h
    have := level_eq a0 a1 c0 c1 x y ta w h0 h1
    rw [Nat.max_self, Nat.sub_self, pw_zero, Int.mul_one, Int.mul_one]; exact this
  · have e1 : max ta tb = ta := by omega
    have := level_gt a0 a1 c0 c1 x y ta tb (ta - tb) w h0 h1 (by omega) (by omega) hy (by omega) (by omega)
    rw [e1, Nat.sub_self, pw_zero, Int.mul_one]; exact this
theorem qcmp_any (v u : Value) (D E : Dy) (A T B S : Nat) (w : World) (hv : QD 3 w D A T v) (hu : QD 3 w E B S u) (hA : A ≤ 1000000000) (hB : B ≤ 1000000000) (hT : T ≤ 100000000) (hS : S ≤ 100000000) :
    Calls Tryd.prog 40 #[v, u] w fun e w' => e = .returned (.int .i64 (cmpD D E)) ∧ Below w.heap.size w w' := by
  obtain ⟨x, n, a0, c0, rfl, h0, hD, hxA, hn⟩ := hv
  obtain ⟨y, m, a1, c1, rfl, h1, hE, hyB, hm⟩ := hu
  have lx := zl_len_bits x A hxA
  have ly := zl_len_bits y B hyB
  have hfin := hid (show cmpI (x * pw (max n m - n)) (y * pw (max n m - m)) = cmpD D E by
    rw [← hD, ← hE, ← sc_pw x n (max n m) (by omega), ← sc_pw y m (max n m) (by omega)]
    exact cmp_nrm _ _ _ _ _ (.inl (by omega)) (.inl (by omega)))
  clear hD hE hxA hyB
  go_enter Tryd.func40, Tryd.ntmps40
  go_wp2_with ((go_at_call 122; refine (level_any a0 a1 c0 c1 x y n m _ (h0.below (by (repeat' (first | (with_reducible assumption) | (with_reducible exact Below.refl _ _) | (with_reducible refine below_al ?_ _) | (with_reducible refine below_drewN ?_ _) | (with_reducible refine Below.drew ?_) | (with_reducible refine Below.alloc ?_ ?_ _) | (with_reducible refine Below.setCell ?_ ?_ _) | (refine below_trans ?_ (by assumption)) | go_size)))) (h1.below (by (repeat' (first | (with_reducible assumption) | (with_reducible exact Below.refl _ _) | (with_reducible refine below_al ?_ _) | (with_reducible refine below_drewN ?_ _) | (with_reducible refine Below.drew ?_) | (with_reducible refine Below.alloc ?_ ?_ _) | (with_reducible refine Below.setCell ?_ ?_ _) | (refine below_trans ?_ (by assumption)) | go_size)))) (by omega) (by omega) (by omega) (by omega)).mono ?_; rintro e w1 ⟨ao, cap, bo, cbp, rfl, hX, hY, hb⟩; have yb : Below w.heap.size w w1 := (by (repeat' (first | (with_reducible assumption) | (with_reducible exact Below.refl _ _) | (with_reducible refine below_al ?_ _) | (with_reducible refine below_drewN ?_ _) | (with_reducible refine Below.drew ?_) | (with_reducible refine Below.alloc ?_ ?_ _) | (with_reducible refine Below.setCell ?_ ?_ _) | (refine below_trans ?_ (by assumption)) | go_size)))))
  refine (zcmp_any _ _ _ _ _ _ _ (hX.below (by (repeat' (first | (with_reducible assumption) | (with_reducible exact Below.refl _ _) | (with_reducible refine below_al ?_ _) | (with_reducible refine below_drewN ?_ _) | (with_reducible refine Below.drew ?_) | (with_reducible refine Below.alloc ?_ ?_ _) | (with_reducible refine Below.setCell ?_ ?_ _) | (refine below_trans ?_ (by assumption)) | go_size)))) (hY.below (by (repeat' (first | (with_reducible assumption) | (with_reducible exact Below.refl _ _) | (with_reducible refine below_al ?_ _) | (with_reducible refine below_drewN ?_ _) | (with_reducible refine Below.drew ?_) | (with_reducible refine Below.alloc ?_ ?_ _) | (with_reducible refine Below.setCell ?_ ?_ _) | (refine below_trans ?_ (by assumption)) | go_size))))).mono ?_
  rintro e w2 ⟨rfl, hb2⟩
  go_wp2_with fail
  go_ret
  exact ⟨ret_int hfin.out, by (repeat' (first | (with_reducible assumption) | (with_reducible exact Below.refl _ _) | (with_reducible refine below_al ?_ _) | (with_reducible refine below_drewN ?_ _) | (with_reducible refine Below.drew ?_) | (with_reducible refine Below.alloc ?_ ?_ _) | (with_reducible refine Below.setCell ?_ ?_ _) | (refine below_trans ?_ (by assumption)) | go_size))⟩
theorem qadd_any (v u : Value) (D E : Dy) (A T B S : Nat) (w : World) (hv : QD 3 w D A T v) (hu : QD 3 w E B S u) (hA : A ≤ 100000000) (hB : B ≤ 100000000) (hT : T ≤ 100000000) (hS : S ≤ 100000000) :
    Calls Tryd.prog 38 #[v, u] w fun e w' => RetQD 3 w (addD D E) (max A B + max T S + 1) (max T S) e w' := by
  obtain ⟨x, n, a0, c0, rfl, h0, hD, hxA, hn⟩ := hv
  obtain ⟨y, m, a1, c1, rfl, h1, hE, hyB, hm⟩ := hu
  have lx := zl_len_bits x A hxA
  have ly := zl_len_bits y B hyB
  have hD' := hid (show nrm (x * pw (max n m - n) + y * pw (max n m - m)) (-((max n m : Nat) : Int)) = addD D E by
    rw [← hD, ← hE, ← sc_pw x n (max n m) (by omega), ← sc_pw y m (max n m) (by omega)]
    exact nrm_add _ _ _ _ _ (.inl (by omega)) (.inl (by omega)))
  have b1 := abs_weak (abs_mul_pw_lt (k := max n m - n) hxA) (show A + (max n m - n) ≤ max A B + max T S by omega)
  have b2 := abs_weak (abs_mul_pw_lt (k := max n m - m) hyB) (show B + (max n m - m) ≤ max A B + max T S by omega)
  have l1 := zl_len_bits _ _ b1
  have l2 := zl_len_bits _ _ b2
  have b3 := hid (abs_add_lt b1 b2)
  have hk := hid (show max n m ≤ max T S by omega)
  clear hD hE hxA hyB b1 b2
  obtain ⟨X, hX⟩ : ∃ X, X = x * pw (max n m - n) := ⟨_, rfl⟩
  obtain ⟨Y, hY⟩ : ∃ Y, Y = y * pw (max n m - m) := ⟨_, rfl⟩
  obtain ⟨K, hK⟩ : ∃ K, K = max n m := ⟨_, rfl⟩
  have hlv := fun w1 (g0 : Nz 3 w1 a0 c0 (zl x)) (g1 : Nz 3 w1 a1 c1 (zl y)) => level_any a0 a1 c0 c1 x y n m w1 g0 g1 (by omega) (by omega) (by omega) (by omega)
  rw [← hX, ← hY, ← hK] at hlv
  rw [← hX, ← hY, ← hK] at hD'
  rw [← hX, ← hY] at b3
  rw [← hX] at l1
  rw [← hY] at l2
  rw [← hK] at hk
  have hlv := hid hlv
  clear hX hY hK
  go_enter Tryd.func38, Tryd.ntmps38
  go_wp2_with fail
  have zR0 : QL 42 (((w.alloc (.cells #[.bool (zneg x), .slice a0 (zl x).length c0, .int .i64 (n : Int)] 42)).alloc (.cells #[.bool (zneg y), .slice a1 (zl y).length c1, .int .i64 (m : Int)] 42)).alloc (.cells #[.bool false, .slice none 0 0, .int .i64 0] 42)) (w.heap.size + 1 + 1) false (.slice none 0 0) 0 := QL.made (by first | omega | (simp; done) | (simp; omega))
  refine (hlv.out _ (h0.below (by (repeat' (first | (with_reducible assumption) | (with_reducible exact Below.refl _ _) | (with_reducible refine below_al ?_ _) | (with_reducible refine below_drewN ?_ _) | (with_reducible refine Below.drew ?_) | (with_reducible refine Below.alloc ?_ ?_ _) | (with_reducible refine Below.setCell ?_ ?_ _) | (refine below_trans ?_ (by assumption)) | go_size)))) (h1.below (by (repeat' (first | (with_reducible assumption) | (with_reducible exact Below.refl _ _) | (with_reducible refine below_al ?_ _) | (with_reducible refine below_drewN ?_ _) | (with_reducible refine Below.drew ?_) | (with_reducible refine Below.alloc ?_ ?_ _) | (with_reducible refine Below.setCell ?_ ?_ _) | (refine below_trans ?_ (by assumption)) | go_size))))).mono ?_
  rintro e w1 ⟨ao, cap, bo, cbp, rfl, hX, hY, hb⟩
  have zR1 := zR0.below hb
  have yb1 : Below w.heap.size w w1 := below_trans (by (repeat' (first | (with_reducible assumption) | (with_reducible exact Below.refl _ _) | (with_reducible refine below_al ?_ _) | (with_reducible refine below_drewN ?_ _) | (with_reducible refine Below.drew ?_) | (with_reducible refine Below.alloc ?_ ?_ _) | (with_reducible refine Below.setCell ?_ ?_ _) | (refine below_trans ?_ (by assumption)) | go_size))) hb
  clear zR0 hb
  go_wp2_with fail
  have zR2 := (zR1.alloc (.cells #[.bool (zneg X), .slice ao (zl X).length cap] 40)).alloc (.cells #[.bool (zneg Y), .slice bo (zl Y).length cbp] 40)
  refine (zadd_any _ _ _ _ _ _ _ (hX.below (by (repeat' (first | (with_reducible assumption) | (with_reducible exact Below.refl _ _) | (with_reducible refine below_al ?_ _) | (with_reducible refine below_drewN ?_ _) | (with_reducible refine Below.drew ?_) | (with_reducible refine Below.alloc ?_ ?_ _) | (with_reducible refine Below.setCell ?_ ?_ _) | (refine below_trans ?_ (by assumption)) | go_size)))) (hY.below (by (repeat' (first | (with_reducible assumption) | (with_reducible exact Below.refl _ _) | (with_reducible refine below_al ?_ _) | (with_reducible refine below_drewN ?_ _) | (with_reducible refine Below.drew ?_) | (with_reducible refine Below.alloc ?_ ?_ _) | (with_reducible refine Below.setCell ?_ ?_ _) | (refine below_trans ?_ (by assumption)) | go_size)))) (by omega) (by omega)).mono ?_
  rintro e w2 ⟨ao2, cap2, rfl, hN2, hb2⟩
  have zR := zR2.below hb2
  have yb : Below w.heap.size w w2 := below_trans (by (repeat' (first | (with_reducible assumption) | (with_reducible exact Below.refl _ _) | (with_reducible refine below_al ?_ _) | (with_reducible refine below_drewN ?_ _) | (with_reducible refine Below.drew ?_) | (with_reducible refine Below.alloc ?_ ?_ _) | (with_reducible refine Below.setCell ?_ ?_ _) | (refine below_trans ?_ (by assumption)) | go_size))) hb2
  clear zR1 zR2 hb2 yb1
  obtain ⟨⟨k0, k1, f0, f1, hs2⟩, k2, f2⟩ := zR
  go_wp2_with fail
  refine bodyPost_ret (by simp [results, Tryd.results38, go_sem, k0, k1, k2]; try rfl) rfl ?_
  exact ⟨_, rfl, ⟨_, _, _, _, rfl, ((hN2.setCell hs2 (by decide) _ _).setCell (hs2.setCell _ _) (by decide) _ _).setCell ((hs2.setCell _ _).setCell _ _) (by decide) _ _, hD'.out, b3.out, hk.out⟩, ((yb.setCell (by first | omega | (simp; done) | (simp; omega)) _).setCell (by first | omega | (simp; done) | (simp; omega)) _).setCell (by first | omega | (simp; done) | (simp; omega)) _⟩
end Go.Proofs.YteaakbeemhmciaaDoor
